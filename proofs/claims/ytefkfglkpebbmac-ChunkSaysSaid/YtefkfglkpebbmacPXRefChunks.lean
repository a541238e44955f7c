/- The walk of the document's Chunks. No conditions. -/
import Derived.Test.YtefkfglkpebbmacP3
import Derived.Test.YtefkfglkpebbmacPXRefPatPut
import Derived.Test.YtefkfglkpebbmacPXSeqChunk
import Derived.Test.YtefkfglkpebbmacPXRefPacked
set_option linter.unusedVariables false
set_option linter.unusedSimpArgs false
set_option maxRecDepth 100000
set_option maxHeartbeats 40000000
namespace Go.Proofs.Ytefkfglkpebbmac
open Go.RowKit
variable {Y:Prop}
theorem refChunks_bad(B:OA)(d:Nat)(p:Pat)(w:World)(hp:PatIn w p B d)(h:patCheck p≠0):
  Calls Try.prog 44 #[.agg (patA p.from_ p.to_ p.old p.new_ p.size B p.ops.length d)] w (ChkRet2 w [] (patCheck p)):=by
 have K1:=qH (fun w hp=>refPatPut_bad B d p w hp h);have HP:=qH hp;obtain⟨ck,hck⟩:=eX (patCheck p);rw[hck]at h K1;rw[hck];have q:(ck !=0)=true:=by simp[h]
 clear hp h hck;go_enter Try.func44,Try.ntmps44;exact x1i9
theorem part_bts{w:World}{ab ao:Nat}{b:LU}(h:Bts w (some ⟨ab,ao,none⟩) b)(k:Nat):Bts w (some ⟨ab,ao+16*k,none⟩) ((b.drop (k*16)).take 16):=by
 intro i hi;have hi1:k*16+i<b.length:=by simp at hi;omega
 obtain⟨b',o',e,hl,hc⟩:=h (k*16+i) hi1
 cases e;refine⟨_,_,rfl,hl,?_⟩;rw[show ao+16*k+i=ao+(k*16+i) by omega,hc];simp
theorem refChunks_fine(B:OA)(d:Nat)(p:Pat)(w:World)(hp:PatIn w p B d)(h:patCheck p=0):
  Calls Try.prog 44 #[.agg (patA p.from_ p.to_ p.old p.new_ p.size B p.ops.length d)] w (ChkRet2 w (chunksOf p (packed (patBytes p))) 0):=by
 have K1:=qH (fun w hp=>refPatPut_ok B d p w hp h);have HP:=qH hp;have hl1:=patBytes_len h;obtain⟨hl2,hl3⟩:=packed_patch_len h;obtain⟨pb,hpb⟩:=eX (patBytes p);rw[hpb]at K1 hl1 hl2 hl3⊢;have K2:=qH (fun A c w hc hb=>refPacked_calls A c pb w hc (by omega) hb);obtain⟨b,hb⟩:=eX (packed pb);rw[hb]at K2 hl2 hl3⊢;obtain⟨m,hm⟩:=eX ((b.length+15) / 16);have HCO:Hid (∀k,k<m->(chunksOf p b)[k]?=some (chunkAt p b m k)):=qH (fun k hk=>by unfold chunksOf;rw[hm];simp[hk]);have HCL1:Hid ((chunksOf p b).length=m):=qH (by unfold chunksOf;rw[hm];simp);have hm1:m<=10:=by omega
 have hm2:0<m:=by omega
 have HM:=qH hm;clear hp h hpb hb hm;generalize chunksOf p b=cs at *
 have HCA:Hid (∀k,chunkAt p b m k=⟨p.from_,p.to_,k,m,(b.drop (k*16)).take 16⟩):=qH (fun k=>rfl);generalize chunkAt p b m=ca at *
 obtain⟨f,t,o,n,sz,l⟩:=p;dsimp only at *
 have j1:decide ((52:Int)<(m:Int))=false:=decide_eq_false (by omega);have j2:¬52<m:=by omega
 have hba:=(bW w).alloc nl (.cells (patA f t o n sz B l.length d) 35);go_enter Try.func44,Try.ntmps44;go_wp2_with fail;refine(K1.out _ (HP.out.stays hba)).mono ?_;rintro e w1 ⟨A1,c1,rfl,ho1,hb1⟩;have hb1':=hba.trans (hb1.mono (by simp));have a1:=kp (w.heap.size) (patA f t o n sz B l.length d) hb1;have HBT:=qH ho1.src.bts;have hc1:=ho1.le;dsimp only at hc1;have HB1:=qH hb1';clear ho1 hb1 hb1' hba;go_wp2_with fail;refine(K2.out _ _ _ hc1 HBT.out).mono ?_;rintro e w2 ⟨A2,c2,rfl,ho1,hb1⟩;have a1:=kr a1 hb1;have HBB1:=qH ho1.src.bts;have HO1:=qH ho1;have hc2:=ho1.le;have HB2:=bT HB1 hb1;have hlb:0<b.length:=by omega
 obtain⟨ab,ao,rfl,hab,_⟩:=HBB1.out 0 hlb;have hab1:w1.heap.size<=ab:=(ho1.block ab rfl).1;clear ho1 hb1 HP K1 K2;go_wp2_with fail;refine(chunk_calls _ _ _ _).mono ?_;rintro e w3 ⟨rfl,hw1⟩;have hs1:w3.heap.size=w2.heap.size+2:=by rw[hw1];simp
 have hb1:Below w2.heap.size w2 w3:=by rw[hw1];exact(bL _).alloc (by simp) _
 have k1:w3.cell? ⟨w2.heap.size,0,none⟩=some (.slice (some ⟨ab,ao,none⟩) b.length c2):=by
  rw[hw1];exact((Box.new w2 22 (.slice (some ⟨ab,ao,none⟩) b.length c2)).alloc _).cell
 have k2:w3.cell? ⟨w2.heap.size+1,0,none⟩=some (iv 16):=by
  rw[hw1];have:=(Box.new (w2.alloc (.cells #[.slice (some ⟨ab,ao,none⟩) b.length c2] 22)) 3 (iv 16)).cell;simp
 have K1:=qH (collectChunk_calls w2.heap.size (w2.heap.size+1) ab ao b.length c2 hc2 (by omega) w3 (by omega) (by omega) k1 k2);have a1:=kr a1 hb1;have HB3:=bT HB2 hb1;have HB5:=qH hb1;clear hw1 hb1 k1 k2;go_wp2_with fail;refine K1.out.mono ?_;rintro e w4 ⟨v,rfl,hrow,hb1⟩;rw[HM.out]at hrow;obtain⟨A3,c4,rfl⟩:∃A4 c4,v=.slice A4 m c4:=by
  rcases hrow.2 with ⟨rfl,h0⟩|⟨g,cap,_,rfl,_⟩
  ·omega
  exact⟨_,_,rfl⟩
 have ho1:Own w4 w3.heap.size 22 1 A3 m c4 ((List.range m).map (partV ab ao b.length)):=hrow;have hsr:=ho1.src;obtain⟨gl,ol,rfl,hgl,_⟩:=hsr 0 (by simpa using hm2);have HLC:Hid (∀k,k<m->w4.cell? ⟨gl,ol+k,none⟩=some (partV ab ao b.length k)):=qH (fun k hk=>by
  obtain⟨b',o',e,_,hc⟩:=hsr k (by simpa using hk)
  cases e;simpa using hc)
 have hmc:m<=c4:=ho1.le;have a1:=kr a1 hb1;have HB4:=bT HB3 hb1;have HBB2:Hid (Bts w4 (some ⟨ab,ao,none⟩) b):=qH ((HBB1.out.stays HB5.out).stays hb1);have HR1:Hid (rowOf w4 w.heap.size=patA f t o n sz B l.length d∧frOf w4 w.heap.size=(0,0)):=qH ⟨a1.1,a1.2.1⟩;have hab2:ab<w4.heap.size:=Nat.lt_of_lt_of_le hab (by have h1:=HB5.out.size;have h2:=hb1.size;omega);have hab3:w.heap.size<=ab:=Nat.le_trans HB1.out.size hab1;have hg1:=a1.2.2.2.2.2;clear hrow ho1 hsr hb1 K1 HBT HB1 HB2 HO1 HBB1 HB5 HB3 hab hab1 a1 hs1;go_wp2_with fail;generalize hg0:w.heap.size=g0 at *
 have HGE:=qH hg0;generalize hbase:w4.heap.size=base at *
 have HBE:=qH hbase;clear hg0 hbase;go_loopw [7,27] (fun v i wr=>∃(k:Nat) (acc:List Chk) (ds:List (Option Addr×Nat)) (C:OA) (cc:Nat),k<=m∧i=iv k∧v=.slice C acc.length cc∧acc.length=k∧Hid (acc=cs.take k)∧Hid (GRow kChk wr base acc ds C cc)∧Hid (Each kChk acc ds (fun q=>q=ab))∧Hid (Below base w4 wr)) (fun _ i _=>m-(intOf i).toNat)
 case atStart=>exact⟨0,[],[],none,0,Nat.zero_le _,rfl,rfl,rfl,qH (by simp),qH (GRow.nil _ _),qH Each.nil,qH (Below.refl _ _)⟩
 case round=>
  rename World=>wo;obtain⟨k,acc,ds,C,cc,hk,rfl,rfl,hal,HAC,HR,HE,HB⟩:=hrel;have hbo:base<=wo.heap.size:=Nat.le_trans (Nat.le_of_eq HBE.out.symm) HB.out.size;have hbw:Below w4.heap.size w4 wo:=HBE.out▸HB.out;have a1:=keep1 (g:=g0) (cs:=patA f t o n sz B l.length d) hbw HR1.out.1 (by go_simp) HR1.out.2;by_cases hlt:k<m
  ·have dl:decide ((k:Int)<(m:Int))=true:=decide_eq_true (by omega);have hwk:IntKind.i64.wrap ((k:Int)+1)=(k:Int)+1:=IntWalk.i64_in _ (by omega);obtain⟨x,hx⟩:=eX (ca k);have hxe:=HCA.out k;rw[hx]at hxe;obtain⟨y,hy⟩:=eX (min 16 (b.length-16*k));have hxd:x.data=(b.drop (k*16)).take 16:=by rw[hxe]
   have hxl:x.data.length=y:=by rw[hxd,<-hy];simp;omega
   have hB1:=part_bts (HBB2.out.stays hbw) k;rw[<-hxd]at hB1;have p1:wo.cell? ⟨gl,ol+k,none⟩=some (.slice (some ⟨ab,ao+16*k,none⟩) y y):=by
    have h1:=(World.cell?_of_block (HB.out.block gl hgl)).trans (HLC.out k hlt);rw[h1,<-hy];rfl
   have HNXT:Hid (acc++[x]=cs.take (k+1)):=qH (by
    have h1:=HCO.out k hlt;rw[hx]at h1;obtain⟨h2,h3⟩:=List.getElem?_eq_some_iff.1 h1;rw[List.take_succ_eq_append_getElem h2,h3,HAC.out])
   have HXE:Hid (kChk.cell x (some ⟨ab,ao+16*k,none⟩,y)=[iv f,iv t,iv k,iv m,.slice (some ⟨ab,ao+16*k,none⟩) y y]):=qH (by rw[show kChk.cell x (some ⟨ab,ao+16*k,none⟩,y)=chkC x (some ⟨ab,ao+16*k,none⟩) y from rfl];unfold chkC;rw[hxl,hxe]);have HBX:=qH hB1;have HXL:=qH hxl;have HAL:=qH hal;have hk1:k<=10:=by omega
   have hacl:acc.length<=10:=by omega
   have hrow:=HR.out.row;have hbelA:Below wo.heap.size wo (wo.alloc (.cells #[iv f,iv t,iv k,iv m,.slice (some ⟨ab,ao+16*k,none⟩) y y] 49)):=bL _;have hoa:=hrow.below hbelA;have hsd:Src (wo.alloc (.cells #[iv f,iv t,iv k,iv m,.slice (some ⟨ab,ao+16*k,none⟩) y y] 49)) (some ⟨wo.heap.size,0,none⟩) [iv f,iv t,iv k,iv m,.slice (some ⟨ab,ao+16*k,none⟩) y y]:=src_blk (blk_top rfl);have hone:∀u∈[iv f,iv t,iv k,iv m,Value.slice (some ⟨ab,ao+16*k,none⟩) y y],u.oneCell'=true:=by simp[Value.oneCell']
   have hle:base<=(wo.alloc (.cells #[iv f,iv t,iv k,iv m,.slice (some ⟨ab,ao+16*k,none⟩) y y] 49)).heap.size:=by simp;omega
   clear hx hxe hy hxd hxl hB1 hal hrow;go_wp2_with (at_builtin;go_must (refine wpList_app (wo.alloc (.cells #[iv f,iv t,iv k,iv m,.slice (some ⟨ab,ao+16*k,none⟩) y y] 49)) rfl _ _ 43 rfl elChunks base C acc.length cc (kChk.cells acc ds) rfl hoa (some ⟨wo.heap.size,0,none⟩) 1 1 [iv f,iv t,iv k,iv m,.slice (some ⟨ab,ao+16*k,none⟩) y y] rfl hsd rfl hone (by omega) hle ?_;intro C1 cc1 w5 hown hgr hbel hor));have HOWN:=qH hown;have HGR:=qH hgr;have HBEL:=qH hbel;have HOR:=qH hor;clear hown hgr hbel hor hoa hsd hone hle;go_roundw
   case rel=>
    have hbA:Below wo.heap.size wo (wo.alloc (.cells #[iv f,iv t,iv k,iv m,.slice (some ⟨ab,ao+16*k,none⟩) y y] 49)):=bL _;refine⟨k+1,acc++[x],ds++[(some ⟨ab,ao+16*k,none⟩,y)],C1,cc1,by omega,by go_num,by simp,by rw[List.length_append,HAL.out];rfl,HNXT,qH ?_,qH ?_,qH ?_⟩
    ·refine(HR.out.below hbA).push (o:=x) (d:=(some ⟨ab,ao+16*k,none⟩,y)) (by rw[HXE.out];exact HOWN.out) HBEL.out (fun q hq hn=>HGR.out.block q hq (fun e=>hn e.symm)) ?_ (HBX.out.stays hbA) (Nat.le_of_eq HXL.out) (fun _ q e e2=>?_)
     ·rcases HOR.out with h|h
      ·exact .inl h
      ·exact .inr (fun q hq=>by rw[h]at hq;injection hq with hq;omega)
     ·have h1:=(HR.out.row.block q e2).1;have h2:ab=q:=by simpa using e
      omega
    ·exact HE.out.push HR.out.len (fun _ q e=>by simpa using e.symm)
    exact(HB.out.alloc hbo _).trans HBEL.out
   case measure=>simp[intOf];omega
  obtain rfl:k=m:=by omega
  have dl:decide ((k:Int)<(k:Int))=false:=by simp
  have hz:acc=cs:=by rw[HAC.out,List.take_of_length_le (by rw[HCL1.out];exact nl)]
  have HZ:=qH hz;clear hz hal;go_wp2_with fail;go_ret2;rw[<-HZ.out];exact⟨C,cc,ds,rfl,HR.out.mono (by rw[HGE.out];omega),HE.out.imp (fun q hq=>by rw[HGE.out,hq];omega),by rw[HGE.out];exact HB4.out.trans (HB.out.mono (by omega))⟩
theorem refChunks_calls(B:OA)(d:Nat)(p:Pat)(w:World)(hp:PatIn w p B d):
  Calls Try.prog 44 #[.agg (patA p.from_ p.to_ p.old p.new_ p.size B p.ops.length d)] w (ChkRet2 w (chkCut p).1 (chkCut p).2):=by
 unfold chkCut;by_cases h:patCheck p=0
 ·obtain⟨h1,h2⟩:=packed_patch_len h;rw[if_neg (by simpa using h),if_neg (by omega)];exact refChunks_fine B d p w hp h
 rw[if_pos h];exact refChunks_bad B d p w hp h
end Go.Proofs.Ytefkfglkpebbmac
