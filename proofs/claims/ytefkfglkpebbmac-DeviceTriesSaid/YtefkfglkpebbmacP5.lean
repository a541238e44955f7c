/- Walks of functions, and plain words. No conditions. -/
import Derived.Test.YtefkfglkpebbmacP4
set_option linter.unusedVariables false
set_option linter.unusedSimpArgs false
set_option maxRecDepth 100000
set_option maxHeartbeats 40000000
namespace Go.Proofs.Ytefkfglkpebbmac
open Go.RowKit
variable {Y:Prop}
variable {x:Chk} {l:List Chk} {w:World} {d:Dev} {r:Rec}
theorem confirm_calls(r:Rec)(w:World):Calls Try.prog 126 #[.agg (recA r)] w (RetB w (.tuple #[.agg (recA (recConfirm r).1),iv (recConfirm r).2])):=by
 go_enter Try.func126,Try.ntmps126;go_wp2_with fail;refine(recCheckA_calls r _).mono ?_;rintro e w1 ⟨rfl,hb1⟩;have r2:=keep1 (g:=w.heap.size) (cs:=recA r) hb1 (by go_simp) (by go_simp) (by go_simp);have r1:=keep1 (g:=w.heap.size+1) (cs:=recA Rec.zero) hb1 (by go_simp) (by go_simp) (by go_simp);have HB:=qH (((bL _).alloc (by simp) _).trans (hb1.mono (B':=w.heap.size) (by simp;omega)));have hs:=HB.out.size;clear hb1;by_cases hz:recCheck r=0
 ·have hz':(recCheck r !=0)=false:=by simp[hz]
  have hrg:=recCheck_range0 hz;have hg1:=hrg.2.2.1;have hg1:=hrg.2.2.2.1;have hg1:=hrg.2.2.2.2.1;have hg1:=hrg.2.2.2.2.2.1;have hg1:=hrg.2.2.2.2.2.2.1;have hg1:=hrg.2.2.2.2.2.2.2
  cases ht:r.trying
  ·have hE:recConfirm r=(Rec.zero,5):=by unfold recConfirm;rw[if_pos hz,if_neg (by simp[ht])]
   have HE:=qH hE;clear hE hrg hz;go_wp2_with fail;refine bodyPost_ret (rC (recA Rec.zero)) rfl ⟨by rw[HE.out];rfl,?_⟩;exact x4b3
  have hE:recConfirm r=(recDone r,0):=by unfold recConfirm;rw[if_pos hz,if_pos ht]
  have hk:r.active=0∨r.active=1:=by omega
  clear hrg hz;rcases hk with hk|hk
  ·have HE:=qH (hE.trans (show _=((⟨r.gen,1,false,0,max r.floor r.b.ver,r.a,r.b⟩:Rec),(0:Int)) by unfold recDone Rec.at_;simp[hk]));clear hE;go_wp2_with fail;go_region
   all_goals go_wp2_with fail
   all_goals (
    refine bodyPost_ret (results_ct rfl rfl (cs:=recA ⟨r.gen,1,false,0,max r.floor r.b.ver,r.a,r.b⟩) (by first|(go_simp;done)|(go_simp;refine congrArg (fun z=>recA ⟨_,_,_,_,z,_,_⟩) ?_<;>omega)) (by go_simp) (by go_simp)) rfl ⟨by rw[HE.out];rfl,?_⟩;exact x4b3)
  have HE:=qH (hE.trans (show _=((⟨r.gen,0,false,0,max r.floor r.a.ver,r.a,r.b⟩:Rec),(0:Int)) by unfold recDone Rec.at_;simp[hk]));clear hE;go_wp2_with fail;go_region
  all_goals go_wp2_with fail
  all_goals (
   refine bodyPost_ret (results_ct rfl rfl (cs:=recA ⟨r.gen,0,false,0,max r.floor r.a.ver,r.a,r.b⟩) (by first|(go_simp;done)|(go_simp;refine congrArg (fun z=>recA ⟨_,_,_,_,z,_,_⟩) ?_<;>omega)) (by go_simp) (by go_simp)) rfl ⟨by rw[HE.out];rfl,?_⟩;exact x4b3)
 have hz':(recCheck r !=0)=true:=by simp[hz]
 have hE:recConfirm r=(Rec.zero,recCheck r):=by unfold recConfirm;rw[if_neg hz]
 have HE:=qH hE;clear hE hz;go_wp2_with fail;refine bodyPost_ret (rC (recA Rec.zero)) rfl ⟨by rw[HE.out];rfl,?_⟩;exact x4b3
theorem big_recN(n:Nat)(h:0<n):bigBuild Try.prog 66 n:=by
 obtain⟨i,hi,_⟩:=info_parts (P:=Try.prog) (e:=66) (z:=.agg (recA Rec.zero)) (size:=11) (bytes:=88) (by kernel_rfl);exact⟨i,hi,h⟩
@[go_sem] theorem big_rec2N:bigBuild Try.prog 66 2:=big_recN 2 (by decide)
@[go_sem] theorem build_rec2N(g f:Int)(w:World):runBuild Try.prog 66 #[(0,iv g),(4,iv f)] w=.ok (.agg (recA ⟨g,0,false,0,f,Inf.zero,Inf.zero⟩)) w:=by kernel_rfl
@[go_sem] theorem build_devN(a b:OA)(c e:Nat)(x y:LU)(u:Bool)(w:World):runBuild Try.prog 71 #[(2,.bool u),(0,.agg (slotsA a x.length c b y.length e))] w=.ok (.agg (devA ⟨x,y,Cop.zero,Cop.zero,u,0,[],false,Pat.zero,0⟩ ⟨a,c,b,e,none,0,none,0⟩)) w:=by kernel_rfl
theorem devNew_calls(A:OA)(c:Nat)(b:LU)(w:World)(hl:b.length<=140737488351232)(hB:Bts w A b):Calls Try.prog 69 #[.slice A b.length c] w (DvRet w (devNew b).1 (devNew b).2):=by
 have hba:Below w.heap.size w (w.alloc (.cells (devA Dev.zero DLoc.zero) 71)):=bL _;have HBA:=qH hba;have HB:=qH hB;by_cases h1:64<b.length
 ·have hz:devNew b=(Dev.zero,1):=by unfold devNew;rw[if_pos h1]
  rw[hz];have q:(64:Int)<(b.length:Int):=by omega
  clear hB hba hz;go_enter Try.func69,Try.ntmps69;go_wp2_with fail;refine bodyPost_ret (rC (devA Dev.zero DLoc.zero)) rfl ⟨DLoc.zero,rfl,.const fun v=>DevIn.zero v,bZ HBA⟩
 have hz:devNew b=(newDev b,0):=by unfold devNew;rw[if_neg h1]
 rw[hz];have q:¬(64:Int)<(b.length:Int):=by omega
 have KS:=qH (fun w h=>sumOf_calls A c b w (by omega) h);have hb1:b.length<=64:=by omega
 have KR:=qH (fun w h=>room_calls A c b w hb1 h);have KN:=qH (fun w=>room_calls none 0 [] w (by simp) (bts_nil w none));have HRL:Hid ((room b).length=64∧(room []).length=64):=qH ⟨room_len hb1,room_len (by simp)⟩;obtain⟨s,hs⟩:=eX (sumOn 1 b);rw[hs]at KS;obtain⟨rb,hrb⟩:=eX (room b);obtain⟨rn,hrn⟩:=eX (room []);rw[hrb]at KR HRL;rw[hrn]at KN HRL;have hnd:newDev b=⟨rb,rn,⟨true,⟨1,0,false,0,1,⟨1,b.length,s⟩,Inf.zero⟩⟩,Cop.zero,true,0,[],false,Pat.zero,0⟩:=by unfold newDev;rw[hrb,hrn,hs]
 rw[hnd];clear hz hnd hs hrb hrn hb1 hB hba h1;go_enter Try.func69,Try.ntmps69;go_wp2_with fail;refine(KS.out _ (HB.out.stays ?_)).mono ?_
 ·exact x2xt
 rintro e w1 ⟨rfl,rfl⟩;go_wp2_with fail;refine(KR.out _ (HB.out.stays ?_)).mono ?_
 ·exact x2xt
 rintro e w2 ⟨A1,c1,rfl,ho1,hb⟩;have a2:=kp (w.heap.size) (devA Dev.zero DLoc.zero) hb;have a1:=kp (w.heap.size+1) (recA ⟨1,0,false,0,1,⟨1,(b.length:Int),s⟩,Inf.zero⟩) hb;have hsz1:w.heap.size+2<=w2.heap.size:=by have:=hb.size;simp at this;omega
 have HB1:Hid (Below w.heap.size w w2):=qH (by
  refine Below.trans ?_ (hb.mono (by first|omega|(simp<;>omega)));exact x2xt)
 have HO1:Hid (Own w2 (w.heap.size+2) 5 1 A1 rb.length c1 (rb.map bv)):=qH (by simpa using ho1);clear hb ho1;go_wp2_with fail;refine(KN.out _).mono ?_;rintro e w3 ⟨A2,c2,rfl,ho1,hb⟩;have a2:=kr a2 hb;have a1:=kr a1 hb;have hsz2:w2.heap.size<=w3.heap.size:=hb.size;have HB2:=bT HB1 hb;have HF:Hid (Fresh (w.heap.size+2) w3 (fun v=>Bts v A1 rb∧Bts v A2 rn)):=qH (fun v hv=>⟨(HO1.out.below hb).fresh v hv,(ho1.mono (base':=w.heap.size+2) (by omega)).fresh v hv⟩);have HC:Hid (rb.length<=c1∧rn.length<=c2):=qH ⟨HO1.out.le,ho1.le⟩;clear hb ho1;go_wp2_with fail;refine bodyPost_ret (rC (devA ⟨rb,rn,⟨true,⟨1,0,false,0,1,⟨1,b.length,s⟩,Inf.zero⟩⟩,Cop.zero,true,0,[],false,Pat.zero,0⟩ ⟨A1,c1,A2,c2,none,0,none,0⟩)) rfl ⟨⟨A1,c1,A2,c2,none,0,none,0⟩,rfl,?_,?_⟩
 ·refine Fresh.imp (P:=fun v=>Bts v A1 rb∧Bts v A2 rn) (Fresh.mono (base:=w.heap.size+2) ?_ (by omega)) (fun v hv=>⟨HC.out.1,by show rb.length<=_;rw[HRL.out.1];decide,hv.1,HC.out.2,by show rn.length<=_;rw[HRL.out.2];decide,hv.2,nl,Nat.zero_le _,Chs.nil _ _,pat_in_zero v,⟨by show -9223372036854775808<=(0:Int);omega,by show (0:Int)<=9223372036854775807;omega⟩,⟨by show -9223372036854775808<=(0:Int);omega,by show (0:Int)<=9223372036854775807;omega⟩⟩);repeat (first|exact HF.out|refine Fresh.row ?_ (by omega) _|refine Fresh.cell ?_ (by first|(show _<_;omega)|(simp<;>omega)) _|refine Fresh.alloc ?_ _)
 exact bZ HB2
theorem x1oc(h:Y:=by
 have e1:=cO 3 (iv (k:Int)) h;exact ch_move (ch_ev e1)):Y:=h
theorem listGo_bad{p:Option Chk}(h:chkCheck x≠0):listGo p (x::l)=chkCheck x:=by unfold listGo;rw[if_pos h]
theorem listGo_form{p:Option Chk}(h:chkCheck x=0)(g:¬follows p x):listGo p (x::l)=3:=by unfold listGo;rw[if_neg (by simpa using h),if_pos g]
theorem listGo_next{p:Option Chk}(h:chkCheck x=0)(g:follows p x):listGo p (x::l)=listGo (some x) l:=by
 conv=>lhs;unfold listGo
 rw[if_neg (by simpa using h),if_neg (by simpa using g)]
theorem chkCheckX_calls(A:OA)(c:Nat)(x:Chk)(w:World)(h:I64 x.n∧I64 x.of_):
  Calls Try.prog 47 #[.agg (chkA x.from_ x.to_ x.n x.of_ A x.data.length c)] w (RetB w (iv (chkCheck x))):=chkCheck_calls A c x.from_ x.to_ x.n x.of_ x.data w h.1 h.2
theorem kinY_calls(A B:OA)(c d:Nat)(x y:Chk)(w:World):
  Calls Try.prog 102 #[.agg (chkA x.from_ x.to_ x.n x.of_ A x.data.length c),.agg (chkA y.from_ y.to_ y.n y.of_ B y.data.length d)] w (RetB w (.bool (decide (kin x y)))):=
 kin_calls A B c d x.data.length y.data.length x.from_ x.to_ x.n x.of_ y.from_ y.to_ y.n y.of_ x.data y.data w
def ChkAt(w:World)(b o:Nat)(x:Chk)(B:OA)(c:Nat):Prop:=
 w.cell? ⟨b,o,none⟩=some (iv x.from_)∧w.cell? ⟨b,o+1,none⟩=some (iv x.to_)∧w.cell? ⟨b,o+2,none⟩=some (iv x.n)∧w.cell? ⟨b,o+3,none⟩=some (iv x.of_)∧w.cell? ⟨b,o+4,none⟩=some (.slice B x.data.length c)
theorem ChkAt.stays{w':World}{b o:Nat}{B:OA}{c:Nat}(h:ChkAt w b o x B c)(hlt:b<w.heap.size)(hb:Below w.heap.size w w'):ChkAt w' b o x B c:=
 ⟨(hb.cell (p:=⟨b,o,none⟩) hlt).trans h.1,(hb.cell (p:=⟨b,o+1,none⟩) hlt).trans h.2.1,(hb.cell (p:=⟨b,o+2,none⟩) hlt).trans h.2.2.1,(hb.cell (p:=⟨b,o+3,none⟩) hlt).trans h.2.2.2.1,(hb.cell (p:=⟨b,o+4,none⟩) hlt).trans h.2.2.2.2⟩
theorem Chs.chk{A:OA}(h:Chs w A l){i:Nat}(hi:i<l.length):∃b o B c,A=some ⟨b,o,none⟩∧b<w.heap.size∧ChkAt w b (o+i*5) l[i] B c∧ChkIn w l[i] B c:=by
 obtain⟨b,o,B,c,h1,h2,h3,h4,h5,h6,h7,h8⟩:=h.at_ hi;exact⟨b,o,B,c,h1,h2,⟨h3,h4,h5,h6,h7⟩,h8⟩
theorem chkList_calls(A:OA)(c:Nat)(l:List Chk)(w:World)(hl:l.length<=2513169434843)(hs:Chs w A l):
  Calls Try.prog 40 #[.slice A l.length c] w (RetB w (iv (chkList l))):=by
 have HS:=qH hs;clear hs;obtain⟨r,hr⟩:=eX (chkList l);rw[hr];have HR:Hid (listGo none l=r):=qH hr;clear hr;go_enter Try.func40,Try.ntmps40;go_wp2_with fail;go_loopw [8] (fun i wr=>∃k:Nat,k<=l.length∧i=iv k∧Hid (listGo ((l.take k).getLast?) (l.drop k)=r)∧Hid (Below w.heap.size w wr)) (fun i _=>l.length-(intOf i).toNat)
 case atStart=>exact⟨0,Nat.zero_le _,rfl,qH HR.out,qH (Below.refl _ _)⟩
 case round=>
  rename World=>wr;obtain⟨k,hk,rfl,HE,HB⟩:=hrel;have hsz:=HB.out.size;by_cases hlt:k<l.length
  ·obtain⟨b,o,B,cx,rfl,hb,hat,hin⟩:=HS.out.chk hlt;have hdr:l.drop k=l[k]::l.drop (k+1):=List.drop_eq_getElem_cons hlt;have hlast:(l.take (k+1)).getLast?=some l[k]:=by rw[List.take_succ_eq_append_getElem hlt,List.getLast?_concat]
   have hpre:∀(h0:0<k),∃q D d,(l.take k).getLast?=some q∧ChkAt w b (o+(k-1)*5) q D d:=fun h0=>by
    obtain⟨b',o',D,d,e,_,h1,_⟩:=HS.out.chk (i:=k-1) (by omega);injection e with e;injection e with e1 e2;subst e1 e2;refine⟨l[k-1],D,d,?_,h1⟩;rw[List.getLast?_take,if_neg (by omega),List.getElem?_eq_getElem (by omega)];rfl
   obtain⟨x,hx⟩:=eX (l[k]);rw[hx]at hdr hlast hat hin;rw[hdr]at HE;obtain⟨p,hp⟩:=eX ((l.take k).getLast?);rw[hp]at HE hpre;have HLAST:=qH hlast;have hat1:=hat.stays hb HB.out;obtain⟨c5,c1,c2,c3,c4⟩:=hat1;have HAT:=qH hat;have HP1:Hid (k=0->p=none):=qH (fun e=>by rw[<-hp,e];simp);have HPR:=qH hpre;have HK:=qH (fun w=>chkCheckX_calls B cx x w ⟨hin.i2,hin.i3⟩);have hblt:b<wr.heap.size:=by omega
   have dl:decide ((k:Int)<(l.length:Int))=true:=decide_eq_true (by omega);have hwk:IntKind.i64.wrap ((k:Int)+1)=(k:Int)+1:=IntWalk.i64_in _ (by omega);clear hdr hlast hx hp hpre hat hin;by_cases hck:chkCheck x≠0
   ·have hz:r=chkCheck x:=by rw[<-HE.out,listGo_bad hck]
    have q:(chkCheck x !=0)=true:=by simp[hck]
    have HZ:=qH hz;clear hck hz;go_wp2_with fail;refine(HK.out _).mono ?_;rintro e w1 ⟨rfl,hb1⟩;have HB1:Hid (Below w.heap.size w w1):=by
     exact x355
    clear hb1;go_wp2_with fail;go_ret;exact⟨ret_int HZ.out.symm,HB1.out⟩
   have hck:=Decidable.not_not.1 hck;have HCK:=qH hck;rw[hck]at HK;clear hck;go_wp2_with fail;refine(HK.out _).mono ?_;rintro e w1 ⟨rfl,hb1⟩;have a1:=kp (wr.heap.size) (chkA x.from_ x.to_ x.n x.of_ B x.data.length cx) hb1;have HB1:Hid (Below w.heap.size w w1):=by
    exact x355
   have hs1:=HB1.out.size;clear hb1 c5 c1 c2 c3 c4;have HD:Hid (∀wq,Below w1.drew.heap.size w1.drew wq->Below w1.heap.size w1 wq):=qH (fun wq h=>(bW w1).drew.trans h);have R1:rowOf w1.drew wr.heap.size=chkA x.from_ x.to_ x.n x.of_ B x.data.length cx:=by go_simp
   have F1:frOf w1.drew wr.heap.size=(0,0):=by go_simp
   go_wp2_with fail;by_cases hk1:k=0
   ·have hz:listGo (some x) (l.drop (k+1))=r:=by rw[<-HE.out,listGo_next HCK.out (by rw[HP1.out hk1];intro q e;cases e)]
    have HZ:=qH hz;have HKP:=qH hk1;clear hz hk1;refine wp_region_chain (by kernel_rfl) (some 18::some 19::some 20::some 21::some 22::some 23::some 24::some 25::some 26::some 27::some 28::some 29::some 30::some 31::some 32::some 33::some 34::some 35::some 36::some 37::some 38::some 39::some 40::[]) (iv (k:Int)::.bool false::.bool false::undef::undef::undef::undef::undef::undef::undef::undef::undef::undef::undef::undef::undef::undef::undef::undef::undef::undef::undef::.bool false::[]) 42 rfl rfl (by decide+kernel) (by decide+kernel) (by decide+kernel) rfl ?_ ?_
    ·refine⟨.inl ⟨rfl,?_⟩,.inl ⟨rfl,?_⟩,.inl ⟨rfl,?_⟩,.inr ⟨rfl,rfl⟩,.inr ⟨rfl,rfl⟩,.inr ⟨rfl,rfl⟩,.inr ⟨rfl,rfl⟩,.inr ⟨rfl,rfl⟩,.inr ⟨rfl,rfl⟩,.inr ⟨rfl,rfl⟩,.inr ⟨rfl,rfl⟩,.inr ⟨rfl,rfl⟩,.inr ⟨rfl,rfl⟩,.inr ⟨rfl,rfl⟩,.inr ⟨rfl,rfl⟩,.inr ⟨rfl,rfl⟩,.inr ⟨rfl,rfl⟩,.inr ⟨rfl,rfl⟩,.inr ⟨rfl,rfl⟩,.inr ⟨rfl,rfl⟩,.inr ⟨rfl,rfl⟩,.inr ⟨rfl,rfl⟩,.inl ⟨rfl,?_⟩,trivial⟩;all_goals intro done a wq hw h
     ·exact x1oc
     ·have e1:=cN 0 18 h hw;have hp:=HKP.out;refine ch_pure ?_;go_simp
     ·have e1:=cN 1 19 h hw;exact ch_move (ch_ev e1)
     ·have e1:=cN 2 20 h hw;exact ch_pick_f e1 rfl
    intro w1 hb1;simp only[putAll_some,putAll_none,putAll_nil,List.setIfInBounds_toArray,List.set_cons_zero,List.set_cons_succ];have HB1:=bT HB1 hb1;clear hb1 R1 F1 a1;go_wp2_with fail;go_roundw
    case rel=>exact⟨k+1,by omega,by go_num,qH (by rw[HLAST.out];exact HZ.out),HB1⟩
    case measure=>simp[intOf];omega
   obtain⟨q,D,dq,hpq,hq⟩:=HPR.out (by omega);have HQ:Hid (∀wq,Below w1.heap.size w1 wq->ChkAt wq b (o+(k-1)*5) q D dq):=qH (fun wq h=>hq.stays hb (HB1.out.trans (h.mono hs1)));have HKP:Hid (0<k):=qH (by omega);have HI4:Hid (¬(k:Int)<1):=qH (by omega);have hkp:0<k:=by omega
   clear hk1;have HW:Hid (IntKind.i64.wrap ((k:Int)-1)=(k:Int)-1):=qH (IntWalk.i64_in _ (by omega));have HI1:Hid (((k:Int)-1).toNat=k-1):=qH (by omega);have HI2:Hid (¬(k:Int)-1<0):=qH (by omega);have HI3:Hid (¬(l.length:Int)<=(k:Int)-1):=qH (by omega);have HF:Hid (follows p x↔kin q x∧q.n<x.n):=qH (by rw[hpq];exact⟨fun h=>h q rfl,fun h z e=>by injection e with e;subst e;exact h⟩);clear hpq hq;by_cases hkn:kin q x
   ·have HKN:Hid (decide (kin q x)=true):=qH (decide_eq_true hkn);by_cases hge:x.n<=q.n
    first|case' inl=>have T10:Hid True:=qH trivial|case' pos=>have T10:Hid True:=qH trivial|case' refine_1=>have T10:Hid True:=qH trivial
    iterate 2
     ·first
       |
        revert T10;intro T10;have hz:r=3:=by rw[<-HE.out,listGo_form HCK.out (by rw[HF.out];omega)]
       |have hz:listGo (some x) (l.drop (k+1))=r:=by rw[<-HE.out,listGo_next HCK.out (by rw[HF.out];exact⟨hkn,by omega⟩)]
      have HZ:=qH hz
      first
       |
        revert T10;intro T10;have HGE:Hid (decide (x.n<=q.n)=true):=qH (decide_eq_true hge)
       |have HGE:Hid (decide (x.n<=q.n)=false):=qH (decide_eq_false hge)
      clear hz hkn hge
      first
       |
        revert T10;intro T10;refine wp_region_chain (by kernel_rfl) (some 18::some 19::some 20::some 21::some 22::some 23::some 24::some 25::some 26::some 27::some 28::some 29::some 30::some 31::some 32::some 33::some 34::some 35::some 36::some 37::some 38::some 39::some 40::[]) (iv (k:Int)::.bool true::.bool true::.slice (some ⟨b,o,none⟩) l.length c::iv (k:Int)::iv ((k:Int)-1)::.pointer (some ⟨b,o+(k-1)*5,none⟩)::.agg (chkA q.from_ q.to_ q.n q.of_ D q.data.length dq)::.agg (chkA x.from_ x.to_ x.n x.of_ B x.data.length cx)::.bool true::.bool false::.bool false::.slice (some ⟨b,o,none⟩) l.length c::iv (k:Int)::iv ((k:Int)-1)::.pointer (some ⟨b,o+(k-1)*5,none⟩)::.pointer (some ⟨b,o+(k-1)*5+2,none⟩)::iv q.n::.pointer (some ⟨wr.heap.size,2,none⟩)::iv x.n::.bool true::.bool true::.bool true::[]) 42 rfl rfl (by decide+kernel) (by decide+kernel) (by decide+kernel) rfl ?_ ?_
       |refine wp_region_chain (by kernel_rfl) (some 18::some 19::some 20::some 21::some 22::some 23::some 24::some 25::some 26::some 27::some 28::some 29::some 30::some 31::some 32::some 33::some 34::some 35::some 36::some 37::some 38::some 39::some 40::[]) (iv (k:Int)::.bool true::.bool true::.slice (some ⟨b,o,none⟩) l.length c::iv (k:Int)::iv ((k:Int)-1)::.pointer (some ⟨b,o+(k-1)*5,none⟩)::.agg (chkA q.from_ q.to_ q.n q.of_ D q.data.length dq)::.agg (chkA x.from_ x.to_ x.n x.of_ B x.data.length cx)::.bool true::.bool false::.bool false::.slice (some ⟨b,o,none⟩) l.length c::iv (k:Int)::iv ((k:Int)-1)::.pointer (some ⟨b,o+(k-1)*5,none⟩)::.pointer (some ⟨b,o+(k-1)*5+2,none⟩)::iv q.n::.pointer (some ⟨wr.heap.size,2,none⟩)::iv x.n::.bool false::.bool false::.bool false::[]) 42 rfl rfl (by decide+kernel) (by decide+kernel) (by decide+kernel) rfl ?_ ?_
      ·refine⟨.inl ⟨rfl,?_⟩,.inl ⟨rfl,?_⟩,.inl ⟨rfl,?_⟩,.inl ⟨rfl,?_⟩,.inl ⟨rfl,?_⟩,.inl ⟨rfl,?_⟩,.inl ⟨rfl,?_⟩,.inl ⟨rfl,?_⟩,.inl ⟨rfl,?_⟩,.inl ⟨rfl,?_⟩,.inl ⟨rfl,?_⟩,.inl ⟨rfl,?_⟩,.inl ⟨rfl,?_⟩,.inl ⟨rfl,?_⟩,.inl ⟨rfl,?_⟩,.inl ⟨rfl,?_⟩,.inl ⟨rfl,?_⟩,.inl ⟨rfl,?_⟩,.inl ⟨rfl,?_⟩,.inl ⟨rfl,?_⟩,.inl ⟨rfl,?_⟩,.inl ⟨rfl,?_⟩,.inl ⟨rfl,?_⟩,trivial⟩;all_goals intro done a wq hw h
       ·have e3:=cO 3 (iv (k:Int)) h;exact ch_move (ch_ev e3)
       ·have e18:=cN 0 18 h hw;have hp:=HKP.out;refine ch_pure ?_;go_simp
       ·have e19:=cN 1 19 h hw;exact ch_move (ch_ev e19)
       ·have e0:=cO 0 (.slice (some ⟨b,o,none⟩) l.length c) h;exact ch_move (ch_ev e0)
       ·have e3:=cO 3 (iv (k:Int)) h;exact ch_move (ch_ev e3)
       ·have e22:=cN 4 22 h hw;have hw:=HW.out;refine ch_pure ?_;go_simp
       ·have e21:=cN 3 21 h hw;have e23:=cN 5 23 h hw;have h1:=HI1.out;have h2:=HI2.out;have h3:=HI3.out;have h4:=HI4.out;refine ch_pure ?_;go_simp
       ·have e24:=cN 6 24 h hw;obtain⟨c5,c1,c2,c3,c4⟩:=HQ.out wq (HD.out wq h.bel);refine ch_pure ?_;go_simp
       ·have e4:=cO 4 (.pointer (some ⟨wr.heap.size,0,none⟩)) h;have y_:=keep1 h.bel R1 (by go_simp) F1;refine ch_pure ?_;go_simp
       ·have e25:=cN 7 25 h hw;have e26:=cN 8 26 h hw;exact ch_call (vals:=#[.agg (chkA q.from_ q.to_ q.n q.of_ D q.data.length dq),.agg (chkA x.from_ x.to_ x.n x.of_ B x.data.length cx)]) (by go_simp) (by go_simp) (by have:=kinY_calls D B dq cx q x wq;rwa [HKN.out]at this)
       ·have e27:=cN 9 27 h hw;refine ch_pure ?_;go_simp
       ·have e28:=cN 10 28 h hw;exact ch_move (ch_ev e28)
       ·have e0:=cO 0 (.slice (some ⟨b,o,none⟩) l.length c) h;exact ch_move (ch_ev e0)
       ·have e3:=cO 3 (iv (k:Int)) h;exact ch_move (ch_ev e3)
       ·have e31:=cN 13 31 h hw;have hw:=HW.out;refine ch_pure ?_;go_simp
       ·have e30:=cN 12 30 h hw;have e32:=cN 14 32 h hw;have h1:=HI1.out;have h2:=HI2.out;have h3:=HI3.out;have h4:=HI4.out;refine ch_pure ?_;go_simp
       ·have e33:=cN 15 33 h hw;refine ch_pure ?_;go_simp
       ·have e34:=cN 16 34 h hw;obtain⟨c5,c1,c2,c3,c4⟩:=HQ.out wq (HD.out wq h.bel);refine ch_pure ?_;go_simp
       ·have e4:=cO 4 (.pointer (some ⟨wr.heap.size,0,none⟩)) h;refine ch_pure ?_;go_simp
       ·have e36:=cN 18 36 h hw;have y_:=keep1 h.bel R1 (by go_simp) F1;refine ch_pure ?_;go_simp
       ·have e35:=cN 17 35 h hw;have e37:=cN 19 37 h hw;have hg:=HGE.out;refine ch_pure ?_;go_simp
       ·have e29:=cN 11 29 h hw;have e38:=cN 20 38 h hw;exact ch_pick_f e29 (ch_ev e38)
       ·have e20:=cN 2 20 h hw;have e39:=cN 21 39 h hw;exact ch_pick_t e20 (ch_ev e39)
      intro w2 hb2;simp only[putAll_some,putAll_none,putAll_nil,List.setIfInBounds_toArray,List.set_cons_zero,List.set_cons_succ];have HB2:=bT HB1 hb2;clear hb2 R1 F1 a1;go_wp2_with fail
      first
       |
        revert T10;intro T10;go_ret;exact⟨ret_int HZ.out.symm,HB2.out⟩
       |
        go_roundw
        case rel=>exact⟨k+1,by omega,by go_num,qH (by rw[HLAST.out];exact HZ.out),HB2⟩
        case measure=>simp[intOf];omega
   have HKN:Hid (decide (kin q x)=false):=qH (decide_eq_false hkn);have hz:r=3:=by rw[<-HE.out,listGo_form HCK.out (by rw[HF.out];exact fun h=>hkn h.1)]
   have HZ:=qH hz;clear hz hkn;refine wp_region_chain (by kernel_rfl) (some 18::some 19::some 20::some 21::some 22::some 23::some 24::some 25::some 26::some 27::some 28::some 29::some 30::some 31::some 32::some 33::some 34::some 35::some 36::some 37::some 38::some 39::some 40::[]) (iv (k:Int)::.bool true::.bool true::.slice (some ⟨b,o,none⟩) l.length c::iv (k:Int)::iv ((k:Int)-1)::.pointer (some ⟨b,o+(k-1)*5,none⟩)::.agg (chkA q.from_ q.to_ q.n q.of_ D q.data.length dq)::.agg (chkA x.from_ x.to_ x.n x.of_ B x.data.length cx)::.bool false::.bool true::.bool true::undef::undef::undef::undef::undef::undef::undef::undef::undef::.bool true::.bool true::[]) 42 rfl rfl (by decide+kernel) (by decide+kernel) (by decide+kernel) rfl ?_ ?_
   ·refine⟨.inl ⟨rfl,?_⟩,.inl ⟨rfl,?_⟩,.inl ⟨rfl,?_⟩,.inl ⟨rfl,?_⟩,.inl ⟨rfl,?_⟩,.inl ⟨rfl,?_⟩,.inl ⟨rfl,?_⟩,.inl ⟨rfl,?_⟩,.inl ⟨rfl,?_⟩,.inl ⟨rfl,?_⟩,.inl ⟨rfl,?_⟩,.inl ⟨rfl,?_⟩,.inr ⟨rfl,rfl⟩,.inr ⟨rfl,rfl⟩,.inr ⟨rfl,rfl⟩,.inr ⟨rfl,rfl⟩,.inr ⟨rfl,rfl⟩,.inr ⟨rfl,rfl⟩,.inr ⟨rfl,rfl⟩,.inr ⟨rfl,rfl⟩,.inr ⟨rfl,rfl⟩,.inl ⟨rfl,?_⟩,.inl ⟨rfl,?_⟩,trivial⟩;all_goals intro done a wq hw h
    ·exact x1oc
    ·have e1:=cN 0 18 h hw;have hp:=HKP.out;refine ch_pure ?_;go_simp
    ·have e1:=cN 1 19 h hw;exact ch_move (ch_ev e1)
    ·have e1:=cO 0 (.slice (some ⟨b,o,none⟩) l.length c) h;exact ch_move (ch_ev e1)
    ·exact x1oc
    ·have e1:=cN 4 22 h hw;have hw:=HW.out;refine ch_pure ?_;go_simp
    ·have e1:=cN 3 21 h hw;have e23:=cN 5 23 h hw;have h1:=HI1.out;have h2:=HI2.out;have h3:=HI3.out;have h4:=HI4.out;refine ch_pure ?_;go_simp
    ·have e1:=cN 6 24 h hw;obtain⟨c5,c1,c2,c3,c4⟩:=HQ.out wq (HD.out wq h.bel);refine ch_pure ?_;go_simp
    ·have e1:=cO 4 (.pointer (some ⟨wr.heap.size,0,none⟩)) h;have y_:=keep1 h.bel R1 (by go_simp) F1;refine ch_pure ?_;go_simp
    ·have e1:=cN 7 25 h hw;have e26:=cN 8 26 h hw;exact ch_call (vals:=#[.agg (chkA q.from_ q.to_ q.n q.of_ D q.data.length dq),.agg (chkA x.from_ x.to_ x.n x.of_ B x.data.length cx)]) (by go_simp) (by go_simp) (by have:=kinY_calls D B dq cx q x wq;rwa [HKN.out]at this)
    ·have e1:=cN 9 27 h hw;refine ch_pure ?_;go_simp
    ·have e1:=cN 10 28 h hw;exact ch_move (ch_ev e1)
    ·have e1:=cN 11 29 h hw;exact ch_pick_t e1 rfl
    ·have e1:=cN 2 20 h hw;have e39:=cN 21 39 h hw;exact ch_pick_t e1 (ch_ev e39)
   intro w1 hb1;simp only[putAll_some,putAll_none,putAll_nil,List.setIfInBounds_toArray,List.set_cons_zero,List.set_cons_succ];have HB1:=bT HB1 hb1;clear hb1 R1 F1 a1;go_wp2_with fail;go_ret;exact⟨ret_int HZ.out.symm,HB1.out⟩
  obtain rfl:k=l.length:=by omega
  have dl:decide ((l.length:Int)<(l.length:Int))=false:=by simp
  have hz:r=0:=by rw[<-HE.out,List.drop_length];unfold listGo;rfl
  have HZ:=qH hz;clear hz;go_wp2_with fail;go_ret;exact⟨ret_int HZ.out.symm,HB.out⟩
theorem devCheck_is_len(h:d.s0.length≠64∨d.s1.length≠64):devCheck d=3:=by unfold devCheck;rw[if_pos h]
theorem devCheck_is_cop(h0:d.s0.length=64)(h1:d.s1.length=64)(hc:copCheck d.c0 d.c1≠0):devCheck d=copCheck d.c0 d.c1:=by unfold devCheck;rw[if_neg (by omega),if_pos hc]
theorem devCheck_is_off(h0:d.s0.length=64)(h1:d.s1.length=64)(hc:copCheck d.c0 d.c1=0)(hu:d.up=false):devCheck d=if d.running≠0∨d.got≠[]∨d.busy=true∨d.done≠0∨d.job≠Pat.zero then 3 else 0:=by unfold devCheck;rw[if_neg (by omega),if_neg (by omega),if_pos hu]
theorem devCheck_is_up(h0:d.s0.length=64)(h1:d.s1.length=64)(hc:copCheck d.c0 d.c1=0)(hu:d.up=true):devCheck d=devUpCheck d (recRead d.c0 d.c1).1:=by unfold devCheck;rw[if_neg (by omega),if_neg (by omega),if_neg (by rw[hu];simp)];rfl
theorem patSameZ_calls(p:Pat)(B:OA)(c:Nat)(w:World)(hp:PatIn w p B c):Calls Try.prog 31 #[.agg (patA p.from_ p.to_ p.old p.new_ p.size B p.ops.length c),.agg (patA 0 0 0 0 0 none 0 0)] w (RetB w (.bool (decide (p=Pat.zero)))):=
 patSameA_calls B none c 0 p.from_ p.to_ p.old p.new_ p.size 0 0 0 0 0 p.ops [] w hp.len (by simp) hp.ops (Sps.nil _ _)
theorem devUp_range(h:d.running<0∨1<d.running∨(d.running≠r.active∧r.trying=false)):devUpCheck d r=2:=by unfold devUpCheck;rw[if_pos h]
theorem devUp_list(h:¬(d.running<0∨1<d.running∨(d.running≠r.active∧r.trying=false)))(g:chkList d.got≠0):devUpCheck d r=chkList d.got:=by unfold devUpCheck;rw[if_neg h,if_pos g]
theorem devUp_idle(h:¬(d.running<0∨1<d.running∨(d.running≠r.active∧r.trying=false)))(g:chkList d.got=0)(b:d.busy=false):devUpCheck d r=if d.done≠0∨d.job≠Pat.zero then 3 else 0:=by unfold devUpCheck;rw[if_neg h,if_neg (by omega),if_pos b]
theorem devUp_busy(h:¬(d.running<0∨1<d.running∨(d.running≠r.active∧r.trying=false)))(g:chkList d.got=0)(b:d.busy=true):devUpCheck d r=devBusyCheck d r:=by unfold devUpCheck;rw[if_neg h,if_neg (by omega),if_neg (by rw[b];simp)]
theorem devBusy_form(h:r.trying=true∨d.job.to_<r.floor∨d.job.from_≠(r.at_ r.active).ver∨(r.at_ (1-r.active)).ver≠0):devBusyCheck d r=3:=by unfold devBusyCheck;rw[if_pos h]
theorem devBusy_rest(h:¬(r.trying=true∨d.job.to_<r.floor∨d.job.from_≠(r.at_ r.active).ver∨(r.at_ (1-r.active)).ver≠0)):devBusyCheck d r=
  if (patDo (sumOn 1) d.job (d.image r.active r)).2≠0 then (patDo (sumOn 1) d.job (d.image r.active r)).2
  else if d.done<0∨64<d.done∨d.done%8≠0∨d.job.size+8<=d.done then 2
  else if (d.slot (1-r.active)).take d.done.toNat≠(room (patDo (sumOn 1) d.job (d.image r.active r)).1).take d.done.toNat then 3
  else 0:=by unfold devBusyCheck;rw[if_neg h]
def rmJ(w0:World)(rb:LU)(dn:Nat)(e:Bool):Nat->(Nat->Value)->World->Prop
 |0,_,w=>w=w0.drew
 |1,cv,w=>∃A c,cv 10=.slice A rb.length c∧Bts w A rb∧rb.length<=c∧Below w0.heap.size w0 w
 |2,cv,w=>∃A c,cv 13=.slice A dn c∧Bts w A (rb.take dn)∧dn<=c∧Below w0.heap.size w0 w
 |3,cv,w=>cv 14=.bool e∧Below w0.heap.size w0 w
 |_,cv,w=>cv 15=.bool (!e)∧Below w0.heap.size w0 w
theorem rmJ_bel{w0:World}{rb:LU}{dn k:Nat}{e:Bool}{cv:Nat->Value}(hJ:rmJ w0 rb dn e k cv w):Below w0.heap.size w0 w:=by
 match k,hJ with
 |0,hJ=>obtain rfl:w=w0.drew:=hJ;exact(Below.refl _ _).drew
 |1,⟨_,_,_,_,_,h⟩=>exact h
 |2,⟨_,_,_,_,_,h⟩=>exact h
 |3,⟨_,h⟩=>exact h
 |q+4,⟨_,h⟩=>exact h
theorem x1fz(h:Y:=by
 rcases (show k=0∨k=1 by omega)with rfl|rfl
 ·go_wp2_with fail;go_roundw
  case rel=>exact⟨1,by omega,rfl,by first|rfl|trivial⟩
  case measure=>simp[intOf]<;>omega
 ·go_wp2_with fail;go_roundw
  case rel=>exact⟨2,by omega,rfl,by first|rfl|trivial⟩
  case measure=>simp[intOf]<;>omega):Y:=h
theorem x5ii(h:Y:=by
 have HB1:=qH hb;clear hb;go_wp2_with fail;go_meet
 case rel=>exact⟨by rw[hres],HB1⟩):Y:=h
theorem x7gb(h:Y:=by
 go_wp2_with fail;go_meet
 case rel=>exact⟨by rw[hres],qH (Below.refl _ _)⟩):Y:=h
theorem devCheck_off_(d:Dev)(L:DLoc)(w:World)(h:DevIn w d L)(hA:¬(d.s0.length=64∧d.s1.length=64∧copCheck d.c0 d.c1=0∧d.up=true)):Calls Try.prog 52 #[.agg (devA d L)] w (RetB w (iv (devCheck d))):=by
 have HIN:=qH h;have HAA:=qH hA;clear hA;clear h;obtain⟨n,hn⟩:=eX (devCheck d);rw[hn];have HN:=qH hn;clear hn;have i2:∀w,(Instr.index 61 (.agg (slotsA L.a0 d.s0.length L.c0 L.a1 d.s1.length L.c1)) (iv 0)).run Try.prog w=.ok (.slice L.a0 d.s0.length L.c0) w:=fun _=>by kernel_rfl
 have i1:∀w,(Instr.index 61 (.agg (slotsA L.a0 d.s0.length L.c0 L.a1 d.s1.length L.c1)) (iv 1)).run Try.prog w=.ok (.slice L.a1 d.s1.length L.c1) w:=fun _=>by kernel_rfl
 have HBA:=qH ((bW w).alloc nl (.cells (devA d L) 71));go_enter Try.func52,Try.ntmps52;go_wp2_with fail;go_loopw [12] (fun i wr=>∃k:Nat,k<=2∧i=iv k∧Hid ((0<k->d.s0.length=64)∧(1<k->d.s1.length=64))∧wr=w.alloc (.cells (devA d L) 71)) (fun i _=>(2-intOf i).toNat)
 case atStart=>exact⟨0,by omega,rfl,qH ⟨by omega,by omega⟩,rfl⟩
 case round=>
 obtain⟨k,hk,rfl,HZ,rfl⟩:=hrel;by_cases hlt:k<2
 ·rcases (show k=0∨k=1 by omega)with rfl|rfl
  ·by_cases e:d.s0.length=64
   ·have q:((d.s0.length:Int) !=64)=false:=by simp;omega
    have HE:=qH e;clear e;go_wp2_with fail;go_roundw
    case rel=>exact⟨1,by omega,rfl,qH ⟨fun _=>HE.out,by omega⟩,by first|rfl|trivial⟩
    case measure=>simp[intOf]<;>omega
   ·have q:((d.s0.length:Int) !=64)=true:=by simp;omega
    have hz:Hid (n=3):=qH (HN.out.symm.trans (devCheck_is_len (.inl e)));clear e;exact x73o
  ·by_cases e:d.s1.length=64
   ·have q:((d.s1.length:Int) !=64)=false:=by simp;omega
    have HE:=qH e;clear e;go_wp2_with fail;go_roundw
    case rel=>exact⟨2,by omega,rfl,qH ⟨fun _=>HZ.out.1 (by omega),fun _=>HE.out⟩,by first|rfl|trivial⟩
    case measure=>simp[intOf]<;>omega
   ·have q:((d.s1.length:Int) !=64)=true:=by simp;omega
    have hz:Hid (n=3):=qH (HN.out.symm.trans (devCheck_is_len (.inr e)));clear e;exact x73o
 obtain rfl:k=2:=by omega
 have HL2:=qH (HZ.out.1 (by omega));have HL1:=qH (HZ.out.2 (by omega));clear hk hlt HZ i2 i1;have a0r:rowOf (w.alloc (.cells (devA d L) 71)) w.heap.size=devA d L:=by rw[rowOf_alloc,if_pos rfl]
 have a0f:frOf (w.alloc (.cells (devA d L) 71)) w.heap.size=(0,0):=by rw[frOf_alloc,if_pos rfl]
 have a0l:w.heap.size<(w.alloc (.cells (devA d L) 71)).heap.size:=by simp
 by_cases hc:copCheck d.c0 d.c1=0
 case neg=>
  have q:(copCheck d.c0 d.c1 !=0)=true:=by simp[hc]
  have hz:Hid (n=copCheck d.c0 d.c1):=qH (HN.out.symm.trans (devCheck_is_cop HL2.out HL1.out hc));have KR:=qH (fun w=>read_bad d.c0 d.c1 w hc);generalize copCheck d.c0 d.c1=e1 at *
  clear hc;go_wp2_with fail;refine(KR.out _).mono ?_;rintro e w1 ⟨rfl,hb⟩;have HB1:=bT HBA hb;obtain⟨a0r,a0f,a0n,a0c,a0z,a0l⟩:=keep1 (g:=w.heap.size) (cs:=devA d L) hb a0r (by go_simp) a0f;clear hb;go_wp2_with fail;go_ret;have hs:=HB1.out.size;refine⟨ret_int hz.out.symm,?_⟩;repeat (first|exact hA|refine bR ?_ _|refine bA ?_ _)
 have KR:=qH (fun w=>read_ok d.c0 d.c1 w hc);have hact:=rec_active (recRead_ok hc);have hok:=recRead_ok hc;have hrec:(recRead d.c0 d.c1).1=d.rec_:=rfl;obtain⟨rk,hrk⟩:=eX ((recRead d.c0 d.c1).2);rw[hrk,hrec]at KR;have EOFF:=qH (fun hu=>HN.out.symm.trans (devCheck_is_off HL2.out HL1.out hc hu));have EUP:=qH (fun hu=>HN.out.symm.trans (devCheck_is_up HL2.out HL1.out hc hu));rw[hrec]at hact hok EUP;have himc:=fun w k hk h q1 q2=>image_calls d L k d.rec_ w hk h (slot_len HL2.out HL1.out k) q1 q2;have HIM:=qH himc;have HC:=qH hc;clear himc;generalize d.rec_=r at *
 obtain⟨ka,ha,ha1⟩:∃ka:Nat,r.active=(ka:Int)∧ka<=1:=⟨r.active.toNat,by omega,by omega⟩;have HOK:=qH hok;have HA:=qH ha;clear hrec hrk hok hact ha HN hc;go_wp2_with fail;refine(KR.out _).mono ?_;rintro e w1 ⟨rfl,hb⟩;have HB1:=bT HBA hb;obtain⟨a0r,a0f,a0n,a0c,a0z,a0l⟩:=keep1 (g:=w.heap.size) (cs:=devA d L) hb a0r (by go_simp) a0f;clear hb KR HBA;obtain⟨g,hg⟩:=eX (w.heap.size);rw[hg]at a0r a0f a0n a0c a0z a0l⊢;have HG:=qH hg;clear hg;go_upto_region 8 with fail
 obtain⟨w4,hw1⟩:=eX (w1.alloc (.cells (recA r) 66));have hb:Below w1.heap.size w1 w4:=by rw[<-hw1];exact bL _
 have r0r:rowOf w4 w1.heap.size=recA r:=by rw[<-hw1,rowOf_alloc,if_pos rfl]
 have r0f:frOf w4 w1.heap.size=(0,0):=by rw[<-hw1,frOf_alloc,if_pos rfl]
 obtain⟨a0r,a0f,a0n,a0c,a0z,a0l⟩:=keep1 (g:=g) (cs:=devA d L) hb a0r (by go_simp) a0f;have HB2:=bT HB1 hb;rw[hw1];obtain⟨gr,hgr⟩:=eX (w1.heap.size);rw[hgr]at r0r r0f⊢;clear hw1 hb hgr HB1;obtain⟨r0r,r0f,r0n,r0c,r0z,r0l⟩:=keep1 (bW w4) r0r (by simp[recA]) r0f;have KZ:=qH (fun wq hb=>patSameZ_calls d.job L.aj L.cj wq (HIN.out.job.stays (HB2.out.trans (Below.mono hb HB2.out.size))))
 cases hu:d.up
 ·have E:=qH (EOFF.out hu);clear EOFF EUP HIM;obtain⟨off,hoff⟩:∃b,decide (d.running≠0∨d.got≠[]∨d.busy=true∨d.done≠0∨d.job≠Pat.zero)=b:=⟨_,rfl⟩;have HO:=qH hoff;clear hoff;go_upto_region 11 with fail
  go_cut [56] (fun v wx=>v=.bool off∧Hid (Below w4.heap.size w4 wx))
  case first=>
   by_cases c1:d.running=0
   case neg=>
    have q1:(d.running !=0)=true:=by simp[c1]
    have hres:off=true:=by rw[<-HO.out];exact decide_eq_true (.inl c1)
    clear c1;exact x7gb
   have q1:(d.running !=0)=false:=by simp[c1]
   by_cases c2:d.got=[]
   case neg=>
    have q2:decide ((0:Int)<(d.got.length:Int))=true:=decide_eq_true (by have:=List.length_pos_iff.2 c2;omega);have c2n:0<d.got.length:=List.length_pos_iff.2 c2;have hres:off=true:=by rw[<-HO.out];exact decide_eq_true (.inr (.inl c2))
    clear c1 c2;exact x7gb
   have q2:decide ((0:Int)<(d.got.length:Int))=false:=by rw[c2];simp
   have q2n:¬0<d.got.length:=by rw[c2];simp
   cases c3:d.busy
   case true=>
    have hres:off=true:=by rw[<-HO.out];exact decide_eq_true (.inr (.inr (.inl c3)))
    clear c1 c2;exact x7gb
   by_cases c4:d.done=0
   case neg=>
    have q3:(d.done !=0)=true:=by simp[c4]
    have hres:off=true:=by rw[<-HO.out];exact decide_eq_true (.inr (.inr (.inr (.inl c4))))
    clear c1 c2 c4;exact x7gb
   have q3:(d.done !=0)=false:=by simp[c4]
   have hres:off=!decide (d.job=Pat.zero):=by
    rw[<-HO.out];by_cases h:d.job=Pat.zero<;>simp[c1,c2,c3,c4,h]
   clear c1 c2 c4;go_wp2_with fail;refine(KZ.out w4 (Below.refl _ _)).mono ?_;rintro e w2 ⟨rfl,hb⟩;exact x5ii
  case rest=>
  obtain⟨rfl,hb⟩:=hcut;have HB1:=bT HB2 hb.out
  cases c:off
  ·have hz:Hid (n=0):=qH (E.out.trans (if_neg (of_decide_eq_false (HO.out.trans c))));exact x73o
  have hz:Hid (n=3):=qH (E.out.trans (if_pos (of_decide_eq_true (HO.out.trans c))));exact x73o
 exact absurd ⟨HL2.out,HL1.out,HC.out,hu⟩ HAA.out
theorem devCheck_idle_(d:Dev)(L:DLoc)(w:World)(h:DevIn w d L)(h0:d.s0.length=64)(h1:d.s1.length=64)(hc:copCheck d.c0 d.c1=0)(hu:d.up=true)(hB:d.busy=false∨(d.running<0∨1<d.running∨(d.running≠d.rec_.active∧d.rec_.trying=false))∨chkList d.got≠0):Calls Try.prog 52 #[.agg (devA d L)] w (RetB w (iv (devCheck d))):=by
 have HIN:=qH h;clear h;obtain⟨n,hn⟩:=eX (devCheck d);rw[hn];have HN:=qH hn;clear hn;have i2:∀w,(Instr.index 61 (.agg (slotsA L.a0 d.s0.length L.c0 L.a1 d.s1.length L.c1)) (iv 0)).run Try.prog w=.ok (.slice L.a0 d.s0.length L.c0) w:=fun _=>by kernel_rfl
 have i1:∀w,(Instr.index 61 (.agg (slotsA L.a0 d.s0.length L.c0 L.a1 d.s1.length L.c1)) (iv 1)).run Try.prog w=.ok (.slice L.a1 d.s1.length L.c1) w:=fun _=>by kernel_rfl
 have l2:((d.s0.length:Int) !=64)=false:=by simp;omega
 have l1:((d.s1.length:Int) !=64)=false:=by simp;omega
 have HL2:=qH h0;have HL1:=qH h1;have HCC:=qH hc;have HUP:=qH hu;have HBB:=qH hB;clear hB;clear h0 h1 hc hu;have HBA:=qH ((bW w).alloc nl (.cells (devA d L) 71));go_enter Try.func52,Try.ntmps52;go_wp2_with fail;go_loopw [12] (fun i wr=>∃k:Nat,k<=2∧i=iv k∧wr=w.alloc (.cells (devA d L) 71)) (fun i _=>(2-intOf i).toNat)
 case atStart=>exact⟨0,by omega,rfl,rfl⟩
 case round=>
 obtain⟨k,hk,rfl,rfl⟩:=hrel;by_cases hlt:k<2
 ·exact x1fz
 obtain rfl:k=2:=by omega
 clear hk hlt i2 i1 l2 l1;have a0r:rowOf (w.alloc (.cells (devA d L) 71)) w.heap.size=devA d L:=by rw[rowOf_alloc,if_pos rfl]
 have a0f:frOf (w.alloc (.cells (devA d L) 71)) w.heap.size=(0,0):=by rw[frOf_alloc,if_pos rfl]
 have a0l:w.heap.size<(w.alloc (.cells (devA d L) 71)).heap.size:=by simp
 have hc:=HCC.out;have KR:=qH (fun w=>read_ok d.c0 d.c1 w hc);have hact:=rec_active (recRead_ok hc);have hok:=recRead_ok hc;have hrec:(recRead d.c0 d.c1).1=d.rec_:=rfl;obtain⟨rk,hrk⟩:=eX ((recRead d.c0 d.c1).2);rw[hrk,hrec]at KR;have EUP:=qH (fun hu=>HN.out.symm.trans (devCheck_is_up HL2.out HL1.out hc hu));rw[hrec]at hact hok EUP;have himc:=fun w k hk h q1 q2=>image_calls d L k d.rec_ w hk h (slot_len HL2.out HL1.out k) q1 q2;have HIM:=qH himc;clear himc;generalize d.rec_=r at *
 obtain⟨ka,ha,ha1⟩:∃ka:Nat,r.active=(ka:Int)∧ka<=1:=⟨r.active.toNat,by omega,by omega⟩;have HOK:=qH hok;have HA:=qH ha;clear hrec hrk hok hact ha HN hc;go_wp2_with fail;refine(KR.out _).mono ?_;rintro e w1 ⟨rfl,hb⟩;have HB1:=bT HBA hb;obtain⟨a0r,a0f,a0n,a0c,a0z,a0l⟩:=keep1 (g:=w.heap.size) (cs:=devA d L) hb a0r (by go_simp) a0f;clear hb KR HBA;obtain⟨g,hg⟩:=eX (w.heap.size);rw[hg]at a0r a0f a0n a0c a0z a0l⊢;have HG:=qH hg;clear hg;go_upto_region 8 with fail
 obtain⟨w4,hw1⟩:=eX (w1.alloc (.cells (recA r) 66));have hb:Below w1.heap.size w1 w4:=by rw[<-hw1];exact bL _
 have r0r:rowOf w4 w1.heap.size=recA r:=by rw[<-hw1,rowOf_alloc,if_pos rfl]
 have r0f:frOf w4 w1.heap.size=(0,0):=by rw[<-hw1,frOf_alloc,if_pos rfl]
 obtain⟨a0r,a0f,a0n,a0c,a0z,a0l⟩:=keep1 (g:=g) (cs:=devA d L) hb a0r (by go_simp) a0f;have HB2:=bT HB1 hb;rw[hw1];obtain⟨gr,hgr⟩:=eX (w1.heap.size);rw[hgr]at r0r r0f⊢;clear hw1 hb hgr HB1;obtain⟨r0r,r0f,r0n,r0c,r0z,r0l⟩:=keep1 (bW w4) r0r (by simp[recA]) r0f;have KZ:=qH (fun wq hb=>patSameZ_calls d.job L.aj L.cj wq (HIN.out.job.stays (HB2.out.trans (Below.mono hb HB2.out.size))));have hu:=HUP.out;have E:=qH (EUP.out hu);clear EUP;go_upto_region 14 with fail
 obtain⟨rng,hrng⟩:∃b,decide (d.running<0∨1<d.running∨(d.running≠r.active∧r.trying=false))=b:=⟨_,rfl⟩;have HRN:=qH hrng;clear hrng;go_cut [76] (fun v wx=>v=.bool rng∧Hid (Below w4.heap.size w4 wx))
 case first=>
  by_cases c1:d.running<0
  ·have hres:rng=true:=by rw[<-HRN.out];exact decide_eq_true (.inl c1)
   exact x7gb
  by_cases c2:1<d.running
  ·have hres:rng=true:=by rw[<-HRN.out];exact decide_eq_true (.inr (.inl c2))
   exact x7gb
  by_cases c3:d.running=r.active
  ·have q1:(d.running !=r.active)=false:=by simp[c3]
   have hres:rng=false:=by rw[<-HRN.out];exact decide_eq_false (by rintro (h|h|h);omega;omega;exact h.1 c3)
   clear c3;exact x7gb
  have q1:(d.running !=r.active)=true:=by simp[c3]
  cases c4:r.trying
  ·have hres:rng=true:=by rw[<-HRN.out];exact decide_eq_true (.inr (.inr ⟨c3,c4⟩))
   clear c3;exact x7gb
  have hres:rng=false:=by rw[<-HRN.out];exact decide_eq_false (by rintro (h|h|h);omega;omega;rw[c4]at h;cases h.2)
  clear c3;exact x7gb
 case rest=>
 obtain⟨rfl,hb⟩:=hcut;obtain⟨a0r,a0f,a0n,a0c,a0z,a0l⟩:=keep1 (g:=g) (cs:=devA d L) hb.out a0r (by go_simp) a0f;obtain⟨r0r,r0f,r0n,r0c,r0z,r0l⟩:=keep1 (g:=gr) (cs:=recA r) hb.out r0r (by simp[recA]) r0f;have HB1:=bT HB2 hb.out;clear hb
 cases c1:rng
 case true=>
  have hz:Hid (n=2):=qH (E.out.trans (devUp_range (of_decide_eq_true (HRN.out.trans c1))));clear c1;exact x73o
 have HRG:=qH (of_decide_eq_false (HRN.out.trans c1));clear c1 HRN;go_wp2_with fail;refine(chkList_calls L.ag L.cg d.got _ HIN.out.lg (HIN.out.got.stays HB1.out)).mono ?_;rintro e w2 ⟨rfl,hb⟩;obtain⟨a0r,a0f,a0n,a0c,a0z,a0l⟩:=keep1 (g:=g) (cs:=devA d L) hb a0r (by go_simp) a0f;obtain⟨r0r,r0f,r0n,r0c,r0z,r0l⟩:=keep1 (g:=gr) (cs:=recA r) hb r0r (by simp[recA]) r0f;have HB3:=bT HB1 hb;clear hb HB1 HB2 KZ;have KZ:=qH (fun wq hb=>patSameZ_calls d.job L.aj L.cj wq (HIN.out.job.stays (HB3.out.trans (Below.mono hb HB3.out.size))));by_cases c1:chkList d.got=0
 case neg=>
  have q:(chkList d.got !=0)=true:=by simp[c1]
  have hz:Hid (n=chkList d.got):=qH (E.out.trans (devUp_list HRG.out c1));generalize chkList d.got=e1 at *
  clear c1;exact x73o
 rw[c1];have HGT:=qH c1;clear c1
 cases c2:d.busy
 ·have E1:=qH (E.out.trans (devUp_idle HRG.out HGT.out c2));obtain⟨idl,hidl⟩:∃b,decide (d.done≠0∨d.job≠Pat.zero)=b:=⟨_,rfl⟩;have HI:=qH hidl;clear hidl HIM E;go_upto_region 20 with fail
  go_cut [95] (fun v wx=>v=.bool idl∧Hid (Below w2.heap.size w2 wx))
  case first=>
   by_cases c2:d.done=0
   case neg=>
    have q1:(d.done !=0)=true:=by simp[c2]
    have hres:idl=true:=by rw[<-HI.out];exact decide_eq_true (.inl c2)
    clear c2;exact x7gb
   have q1:(d.done !=0)=false:=by simp[c2]
   have hres:idl=!decide (d.job=Pat.zero):=by
    rw[<-HI.out];by_cases h:d.job=Pat.zero<;>simp[c2,h]
   clear c2;go_wp2_with fail;refine(KZ.out w2 (Below.refl _ _)).mono ?_;rintro e w3 ⟨rfl,hb⟩;exact x5ii
  case rest=>
  obtain⟨rfl,hb⟩:=hcut;have HB1:=bT HB3 hb.out
  cases c:idl
  ·have hz:Hid (n=0):=qH (E1.out.trans (if_neg (of_decide_eq_false (HI.out.trans c))));exact x73o
  have hz:Hid (n=3):=qH (E1.out.trans (if_pos (of_decide_eq_true (HI.out.trans c))));exact x73o
 exact absurd HBB.out (by rintro (h|h|h);rw[c2]at h;cases h;exact HRG.out h;exact h HGT.out)
theorem x0af(h:Y:=by
 go_quiet (fail)
 go_wp2_with fail;go_meet
 case rel=>exact⟨by rw[hres],qH (below_drewN _ _)⟩):Y:=h
theorem x35y(h:Y:=by
 clear c3;go_wp2_with fail;go_meet
 case rel=>exact⟨rfl,qH (Below.refl _ _)⟩):Y:=h
theorem devCheck_busy_(d:Dev)(L:DLoc)(w:World)(h:DevIn w d L)(h0:d.s0.length=64)(h1:d.s1.length=64)(hc:copCheck d.c0 d.c1=0)(hu:d.up=true)(hbz:d.busy=true)(hrg:¬(d.running<0∨1<d.running∨(d.running≠d.rec_.active∧d.rec_.trying=false)))(hgl:chkList d.got=0):Calls Try.prog 52 #[.agg (devA d L)] w (RetB w (iv (devCheck d))):=by
 have HIN:=qH h;clear h;obtain⟨n,hn⟩:=eX (devCheck d);rw[hn];have HN:=qH hn;clear hn;have i2:∀w,(Instr.index 61 (.agg (slotsA L.a0 d.s0.length L.c0 L.a1 d.s1.length L.c1)) (iv 0)).run Try.prog w=.ok (.slice L.a0 d.s0.length L.c0) w:=fun _=>by kernel_rfl
 have i1:∀w,(Instr.index 61 (.agg (slotsA L.a0 d.s0.length L.c0 L.a1 d.s1.length L.c1)) (iv 1)).run Try.prog w=.ok (.slice L.a1 d.s1.length L.c1) w:=fun _=>by kernel_rfl
 have l2:((d.s0.length:Int) !=64)=false:=by simp;omega
 have l1:((d.s1.length:Int) !=64)=false:=by simp;omega
 have HL2:=qH h0;have HL1:=qH h1;have HCC:=qH hc;have HUP:=qH hu;have HRG:=qH hrg;have HGT:=qH hgl;have HBZ:=qH hbz;clear hrg hgl hbz;clear h0 h1 hc hu;have HBA:=qH ((bW w).alloc nl (.cells (devA d L) 71));go_enter Try.func52,Try.ntmps52;go_wp2_with fail;go_loopw [12] (fun i wr=>∃k:Nat,k<=2∧i=iv k∧wr=w.alloc (.cells (devA d L) 71)) (fun i _=>(2-intOf i).toNat)
 case atStart=>exact⟨0,by omega,rfl,rfl⟩
 case round=>
 obtain⟨k,hk,rfl,rfl⟩:=hrel;by_cases hlt:k<2
 ·exact x1fz
 obtain rfl:k=2:=by omega
 clear hk hlt i2 i1 l2 l1;have a0r:rowOf (w.alloc (.cells (devA d L) 71)) w.heap.size=devA d L:=by rw[rowOf_alloc,if_pos rfl]
 have a0f:frOf (w.alloc (.cells (devA d L) 71)) w.heap.size=(0,0):=by rw[frOf_alloc,if_pos rfl]
 have a0l:w.heap.size<(w.alloc (.cells (devA d L) 71)).heap.size:=by simp
 have hc:=HCC.out;have KR:=qH (fun w=>read_ok d.c0 d.c1 w hc);have hact:=rec_active (recRead_ok hc);have hok:=recRead_ok hc;have hrec:(recRead d.c0 d.c1).1=d.rec_:=rfl;obtain⟨rk,hrk⟩:=eX ((recRead d.c0 d.c1).2);rw[hrk,hrec]at KR;have EUP:=qH (fun hu=>HN.out.symm.trans (devCheck_is_up HL2.out HL1.out hc hu));rw[hrec]at hact hok EUP;have himc:=fun w k hk h q1 q2=>image_calls d L k d.rec_ w hk h (slot_len HL2.out HL1.out k) q1 q2;have HIM:=qH himc;clear himc;generalize d.rec_=r at *
 obtain⟨ka,ha,ha1⟩:∃ka:Nat,r.active=(ka:Int)∧ka<=1:=⟨r.active.toNat,by omega,by omega⟩;have HOK:=qH hok;have HA:=qH ha;clear hrec hrk hok hact ha HN hc;go_wp2_with fail;refine(KR.out _).mono ?_;rintro e w1 ⟨rfl,hb⟩;have HB1:=bT HBA hb;obtain⟨a0r,a0f,a0n,a0c,a0z,a0l⟩:=keep1 (g:=w.heap.size) (cs:=devA d L) hb a0r (by go_simp) a0f;clear hb KR HBA;obtain⟨g,hg⟩:=eX (w.heap.size);rw[hg]at a0r a0f a0n a0c a0z a0l⊢;have HG:=qH hg;clear hg;go_upto_region 8 with fail
 obtain⟨w4,hw1⟩:=eX (w1.alloc (.cells (recA r) 66));have hb:Below w1.heap.size w1 w4:=by rw[<-hw1];exact bL _
 have r0r:rowOf w4 w1.heap.size=recA r:=by rw[<-hw1,rowOf_alloc,if_pos rfl]
 have r0f:frOf w4 w1.heap.size=(0,0):=by rw[<-hw1,frOf_alloc,if_pos rfl]
 obtain⟨a0r,a0f,a0n,a0c,a0z,a0l⟩:=keep1 (g:=g) (cs:=devA d L) hb a0r (by go_simp) a0f;have HB2:=bT HB1 hb;rw[hw1];obtain⟨gr,hgr⟩:=eX (w1.heap.size);rw[hgr]at r0r r0f⊢;clear hw1 hb hgr HB1;obtain⟨r0r,r0f,r0n,r0c,r0z,r0l⟩:=keep1 (bW w4) r0r (by simp[recA]) r0f;have hu:=HUP.out;have E:=qH (EUP.out hu);clear EUP;go_upto_region 14 with fail
 go_cut [76] (fun v wx=>v=.bool false∧Hid (Below w4.heap.size w4 wx))
 case first=>
  have c1:¬d.running<0:=fun h=>HRG.out (.inl h);have c2:¬1<d.running:=fun h=>HRG.out (.inr (.inl h));by_cases c3:d.running=r.active
  ·have q1:(d.running !=r.active)=false:=by simp[c3]
   exact x35y
  have q1:(d.running !=r.active)=true:=by simp[c3]
  have c4:r.trying=true:=by cases h:r.trying;exact absurd (.inr (.inr ⟨c3,h⟩)) HRG.out;rfl
  exact x35y
 case rest=>
 obtain⟨rfl,hb⟩:=hcut;obtain⟨a0r,a0f,a0n,a0c,a0z,a0l⟩:=keep1 (g:=g) (cs:=devA d L) hb.out a0r (by go_simp) a0f;obtain⟨r0r,r0f,r0n,r0c,r0z,r0l⟩:=keep1 (g:=gr) (cs:=recA r) hb.out r0r (by simp[recA]) r0f;have HB3:=bT HB2 hb.out;clear hb;go_wp2_with fail;refine(chkList_calls L.ag L.cg d.got _ HIN.out.lg (HIN.out.got.stays HB3.out)).mono ?_;rintro e w2 ⟨rfl,hb⟩;obtain⟨a0r,a0f,a0n,a0c,a0z,a0l⟩:=keep1 (g:=g) (cs:=devA d L) hb a0r (by go_simp) a0f;obtain⟨r0r,r0f,r0n,r0c,r0z,r0l⟩:=keep1 (g:=gr) (cs:=recA r) hb r0r (by simp[recA]) r0f;have HB4:=bT HB3 hb;clear hb HB3 HB2;rw[HGT.out];have c2:=HBZ.out;have E1:=qH (E.out.trans (devUp_busy HRG.out HGT.out c2));clear E HRG HGT;go_upto_region 23 with fail
 obtain⟨a',ha',ha2⟩:∃a':Nat,ka+a'=1∧a'<=1:=⟨1-ka,by omega,by omega⟩;have hsub:(1:Int)-(ka:Int)=(a':Int):=by omega
 have hwr:IntKind.i64.wrap ((1:Int)-(ka:Int))=(a':Int):=by rw[hsub];exact IntWalk.i64_in _ (by omega)
 obtain⟨bad,hbad⟩:∃b,decide (r.trying=true∨d.job.to_<r.floor∨d.job.from_≠(r.at_ r.active).ver∨(r.at_ (1-r.active)).ver≠0)=b:=⟨_,rfl⟩;have HBAD:=qH hbad;have hbad1:=hbad;rw[HA.out,hsub]at hbad1;have HBAD1:=qH hbad1;clear hbad hbad1;go_cut [127] (fun v wx=>v=.bool bad∧Hid (Below w2.heap.size w2 wx))
 case first=>
  have ha:=HA.out;have pv:=recA_ver r ha1;have pv1:=recA_ver r ha2;have z1:=(at_sizes HOK.out (a':Int)).2.2;have k1:(0:Int)<=(ka:Int):=by omega
  have k2:(ka:Int)<2:=by omega
  have k3:¬(2:Int)<=(ka:Int):=by omega
  have k4:(0:Int)<=(a':Int):=by omega
  have k5:(a':Int)<2:=by omega
  have k6:¬(2:Int)<=(a':Int):=by omega
  clear HBAD
  cases c3:r.trying
  ·by_cases c4:d.job.to_<r.floor
   ·have hres:bad=true:=by rw[<-HBAD1.out];exact decide_eq_true (.inr (.inl c4))
    have q1:decide (d.job.to_<r.floor)=true:=decide_eq_true c4;clear c4 pv pv1;exact x0af
   ·have q2:decide (d.job.to_<r.floor)=false:=decide_eq_false c4;generalize (r.at_ (ka:Int)).ver=x1 at *
    generalize (r.at_ (a':Int)).ver=x2 at *
    by_cases c5:d.job.from_=x1
    ·have q1:(d.job.from_ !=x1)=false:=by simp[c5]
     by_cases c6:x2=0
     ·have hres:bad=false:=by rw[<-HBAD1.out];exact decide_eq_false (by rintro (h|h|h|h);rw[c3]at h;cases h;exact c4 h;exact h c5;exact h c6)
      have q3:(x2 !=0)=false:=by simp[c6]
      clear c4 c5 c6;exact x0af
     have hres:bad=true:=by rw[<-HBAD1.out];exact decide_eq_true (.inr (.inr (.inr c6)))
     have q3:(x2 !=0)=true:=by simp[c6]
     clear c4 c5 c6;exact x0af
    have q1:(d.job.from_ !=x1)=true:=by simp[c5]
    have hres:bad=true:=by rw[<-HBAD1.out];exact decide_eq_true (.inr (.inr (.inl c5)))
    clear c4 c5 pv1;exact x0af
  have hres:bad=true:=by rw[<-HBAD1.out];exact decide_eq_true (.inl c3)
  clear pv pv1;exact x0af
 case rest=>
 obtain⟨rfl,hb⟩:=hcut;obtain⟨a0r,a0f,a0n,a0c,a0z,a0l⟩:=keep1 (g:=g) (cs:=devA d L) hb.out a0r (by go_simp) a0f;obtain⟨r0r,r0f,r0n,r0c,r0z,r0l⟩:=keep1 (g:=gr) (cs:=recA r) hb.out r0r (by simp[recA]) r0f;have HB2:=bT HB4 hb.out;clear hb HB4 HBAD1
 cases hbd:bad
 case true=>
  have hz:Hid (n=3):=qH (E1.out.trans (devBusy_form (of_decide_eq_true (HBAD.out.trans hbd))));clear hbd;exact x73o
 have hnf:=of_decide_eq_false (HBAD.out.trans hbd);have hrest:=E1.out.trans (devBusy_rest hnf);clear hbd HBAD E1 hnf;obtain⟨img,himg⟩:=eX (d.image r.active r);rw[himg]at hrest;have hil:img.length<=64:=by
  rw[<-himg];unfold Dev.image;rw[List.length_take];have:=(at_sizes HOK.out r.active).2.1;omega
 rw[HA.out]at himg;rw[HA.out,hsub]at hrest;have hpok:=@patDo_ok (sumOn 1) d.job img;obtain⟨⟨b,en⟩,hpd⟩:∃x,patDo (sumOn 1) d.job img=x:=⟨_,rfl⟩;rw[hpd]at hrest hpok;have HBL:Hid (en=0->b.length<=64∧(b.length:Int)=d.job.size∧d.job.size<=64):=qH (fun e=>by
  obtain⟨_,_,_,g1,g2,_,g3⟩:=hpok e;have g2':b=applied img d.job.ops:=g2;rw[g2'];have g4:=g1.s1;exact⟨by omega,g3,g4⟩)
 dsimp only at hrest;have HR1:=qH hrest;have HPD:=qH hpd;have KI:Hid (∀wq,Below wc.heap.size wc wq->Calls Try.prog 118 #[.agg (devA d L),iv (ka:Int),.agg (recA r)] wq (ImRet wq img)):=qH (fun wq h=>by
  rw[<-himg];exact HIM.out wq (ka:Int) (by omega) ((HIN.out.stays HB2.out).stays h) (at_sizes HOK.out _).1 (at_sizes HOK.out _).2.1)
 clear hrest hpok hpd himg hsub;have RD:Hid (rowOf wc g=devA d L):=qH a0r;have FD:Hid (frOf wc g=(0,0)):=qH a0f;have RR:Hid (rowOf wc gr=recA r):=qH r0r;have FR:Hid (frOf wc gr=(0,0)):=qH r0f;have KD:Hid (∀wq A c,Below wc.heap.size wc wq->img.length<=c->Bts wq A img->Calls Try.prog 25 #[.agg (patA d.job.from_ d.job.to_ d.job.old d.job.new_ d.job.size L.aj d.job.ops.length L.cj),.slice A img.length c] wq (ByRet2 wq b en)):=qH (fun wq A c h hc hb=>by
  have hq:=patDo_calls L.aj A L.cj c d.job img wq hc (by omega) hb ((HIN.out.job.stays HB2.out).stays h);rw[HPD.out]at hq;exact hq)
 go_wp2_with fail;have hq2:=fun v (h:Below wc.heap.size wc v)=>keep1 h RD.out (by go_simp) FD.out;have hq1:=fun v (h:Below wc.heap.size wc v)=>keep1 h RR.out (by simp[recA]) FR.out;have hf1:=HA.out
 go_region_held3 (fun v=>Below wc.heap.size wc v) (first|exact hbb|exact(Below.refl _ _).drew)
  (first
    |(go_at_call 118;refine(KI.out _ (by assumption)).mono ?_;rintro e wj ⟨Aj,cj,rfl,h3,h4,h5⟩;have hbb:=(bW wc).drew.trans (h5.mono (by simp)))
    |(go_at_call 25;refine(KD.out _ _ _ (by assumption) h3 h4).mono ?_;rintro e w8 ⟨A2,c2',rfl,g1,g2,g9⟩;have hbb:=hbb.trans (g9.mono hbb.size)))
 have g3:=hbb;clear hbb g9 h3 h4 h5 hq2 hq1 hf1;obtain⟨a0r,a0f,a0n,a0c,a0z,a0l⟩:=keep1 (g:=g) (cs:=devA d L) g3 a0r (by go_simp) a0f;obtain⟨r0r,r0f,r0n,r0c,r0z,r0l⟩:=keep1 (g:=gr) (cs:=recA r) g3 r0r (by simp[recA]) r0f;have HB3:Hid (Below w.heap.size w w8):=qH (HB2.out.trans (g3.mono HB2.out.size));have HBB:=qH g1;have HC1:=qH g2;clear g1 g2 g3 KI KD RD FD RR FR HIM HB2 HPD;by_cases c1:en=0
 case neg=>
  have q:(en !=0)=true:=by simp[c1]
  have hz:Hid (n=en):=qH (HR1.out.trans (if_pos c1));clear c1;exact x73o
 subst c1;obtain⟨b1,b2,b3⟩:=HBL.out rfl;have HR2:=qH (HR1.out.trans (if_neg (by decide)));have hw1:IntKind.i64.wrap (d.job.size+8)=d.job.size+8:=IntWalk.i64_in _ (by omega);have HB1:=qH b1;clear HR1 HBL b2;go_upto_region 28 with fail
 obtain⟨bad1,hbad1⟩:∃b,decide (d.done<0∨64<d.done∨d.done%8≠0∨d.job.size+8<=d.done)=b:=⟨_,rfl⟩;have HBAD:=qH hbad1;clear hbad1 b1 b3;go_cut [168] (fun v wx=>v=.bool bad1∧Hid (Below w8.heap.size w8 wx))
 case first=>
  by_cases c1:d.done<0
  ·have hres:bad1=true:=by rw[<-HBAD.out];exact decide_eq_true (.inl c1)
   exact x7gb
  have hmod:d.done.tmod 8=d.done%8:=Int.tmod_eq_emod_of_nonneg (by omega);by_cases c2:64<d.done
  ·have hres:bad1=true:=by rw[<-HBAD.out];exact decide_eq_true (.inr (.inl c2))
   have q:(d.s0.length:Int)<d.done:=by have:=HL2.out;omega
   clear c2;exact x7gb
  have q1:¬(d.s0.length:Int)<d.done:=by have:=HL2.out;omega
  by_cases c3:d.done%8=0
  case neg=>
   have hres:bad1=true:=by rw[<-HBAD.out];exact decide_eq_true (.inr (.inr (.inl c3)))
   have q2:(d.done.tmod 8 !=0)=true:=by rw[hmod];simp[c3]
   clear hmod;exact x7gb
  have q2:(d.done.tmod 8 !=0)=false:=by rw[hmod];simp[c3]
  by_cases c4:d.job.size+8<=d.done
  ·have hres:bad1=true:=by rw[<-HBAD.out];exact decide_eq_true (.inr (.inr (.inr c4)))
   clear hmod;exact x7gb
  have hres:bad1=false:=by rw[<-HBAD.out];exact decide_eq_false (by omega)
  clear hmod;exact x7gb
 case rest=>
 obtain⟨rfl,hb⟩:=hcut;obtain⟨a0r,a0f,a0n,a0c,a0z,a0l⟩:=keep1 (g:=g) (cs:=devA d L) hb.out a0r (by go_simp) a0f;obtain⟨r0r,r0f,r0n,r0c,r0z,r0l⟩:=keep1 (g:=gr) (cs:=recA r) hb.out r0r (by simp[recA]) r0f;have HB2:=bT HB3 hb.out;have HBB:=qH (HBB.out.stays hb.out);clear hb HB3 hw1
 cases hbd:bad1
 case true=>
  have hz:Hid (n=2):=qH (HR2.out.trans (if_pos (of_decide_eq_true (HBAD.out.trans hbd))));clear hbd;exact x73o
 have hnb:=of_decide_eq_false (HBAD.out.trans hbd);have HR1:=qH (HR2.out.trans (if_neg hnb));obtain⟨dn',hdn⟩:∃dn':Nat,d.done=(dn':Int):=⟨d.done.toNat,by omega⟩;have hdt:d.done.toNat=dn':=by omega
 rw[hdt]at HR1;have hd1:dn'<=64:=by omega
 have HDN:=qH hdn;clear hbd HBAD HR2 hnb hdt;have hsl:=slot_len HL2.out HL1.out (a':Int);obtain⟨A1,c3,p1,p2,p3⟩:=devSlotA (HIN.out.stays HB2.out) ha2;generalize d.slot (a':Int)=sl at *
 have HP1:=qH p1;have HX:=qH p3;obtain⟨bx,ox,hax,-⟩:=p3 0 (by omega);have HSL:=qH (pre_slice (A:=A1) (n:=sl.length) (c:=c3) dn' hdn p2 (by omega) (by omega) ⟨bx,ox,hax⟩);have hrl:=room_len HB1.out;obtain⟨eq,heq⟩:=eX (decide (sl.take dn'=(room b).take dn'));have hlt1:(sl.take dn').length=dn':=by rw[List.length_take,hsl];omega
 have hlt2:((room b).take dn').length=dn':=by rw[List.length_take,hrl];omega
 have KQ:Hid (∀wq A c,Below wc.heap.size wc wq->Bts wq A ((room b).take dn')->Calls Try.prog 94 #[.slice A1 dn' c3,.slice A dn' c] wq (RetN wq (.bool eq))):=qH (fun wq A c h hb=>by
  have hq:=equalBytes_calls A1 A c3 c (sl.take dn') ((room b).take dn') wq (by omega) (by omega) (mid_take (HX.out.stays h) dn') hb;rw[heq,hlt1,hlt2]at hq;exact hq)
 have HQ:=qH heq;have HRL:=qH hrl;obtain⟨rb,hrb⟩:=eX (room b);rw[hrb]at KQ HQ HRL HR1;have HRB:=qH hrb;have HKS:Hid ((0:Int)<=(a':Int)∧(a':Int)<2∧¬(2:Int)<=(a':Int)∧IntKind.i64.wrap ((1:Int)-(ka:Int))=(a':Int)):=qH ⟨by omega,by omega,by omega,hwr⟩;clear hsl p1 p2 p3 hax hrl heq hlt1 hlt2 hrb hwr hdn;go_wp2_with fail;have RD:Hid (rowOf wc g=devA d L):=qH a0r;have FD:Hid (frOf wc g=(0,0)):=qH a0f;have RR:Hid (rowOf wc gr=recA r):=qH r0r;have FR:Hid (frOf wc gr=(0,0)):=qH r0f;refine wp_region_mix (by kernel_rfl) (some 169::some 170::some 171::some 172::some 173::some 174::some 175::some 176::some 177::some 178::some 179::some 180::some 181::some 182::some 183::some 184::[]) (none::none::none::none::none::none::none::none::none::none::some 0::none::none::some 1::some 2::some 3::[]) (.pointer (some ⟨gr,1,none⟩)::iv (ka:Int)::iv (a':Int)::.pointer (some ⟨g,0,none⟩)::.pointer (some ⟨g,a',none⟩)::.slice A1 sl.length c3::.pointer (some ⟨g,36,none⟩)::iv d.done::.slice A1 dn' c3::.slice A2 b.length c2'::undef::.pointer (some ⟨g,36,none⟩)::iv d.done::undef::undef::undef::[]) 4 (rmJ wc rb dn' eq) 185 rfl rfl (by decide+kernel) (by decide+kernel) (by decide+kernel) (by decide+kernel) rfl rfl (by decide+kernel) (by decide+kernel) (rfl) ?_ ?_
 ·refine⟨?_,?_,?_,?_,?_,?_,?_,?_,?_,?_,?_,?_,?_,?_,?_,?_,trivial⟩
  ·intro done cv k1 a wq hw h hJ hn;have e1:=mO 5 (.pointer (some ⟨gr,0,none⟩)) h;go_simp
  ·intro done cv k2 a wq hw h hJ hn;have e1:=mN 0 169 h hw;have y_:=keep1 (rmJ_bel hJ) RR.out (by simp[recA]) FR.out;have hk_:=HA.out;go_simp
  ·intro done cv k1 a wq hw h hJ hn;have e1:=mN 1 170 h hw;obtain⟨k1_,k2_,k3_,k4_⟩:=HKS.out;go_simp
  ·intro done cv k2 a wq hw h hJ hn;have e1:=mO 1 (.pointer (some ⟨g,0,none⟩)) h;go_simp
  ·intro done cv k1 a wq hw h hJ hn;have e1:=mN 3 172 h hw;have e171:=mN 2 171 h hw;obtain⟨k1_,k2_,k3_,k4_⟩:=HKS.out;go_simp
  ·intro done cv k2 a wq hw h hJ hn;have e1:=mN 4 173 h hw;have y_:=kq (rmJ_bel hJ) RD FD;have e_:=HP1.out;go_simp
  ·exact x4qs
  ·intro done cv k2 a wq hw h hJ hn;have e1:=mN 6 175 h hw;have y_:=kq (rmJ_bel hJ) RD FD;go_simp
  ·intro done cv k1 a wq hw h hJ hn;have e1:=mN 5 174 h hw;have e176:=mN 7 176 h hw;have hs_:=HSL.out;go_simp
  ·intro done cv k2 a wq hw h hJ hn;have e1:=mO 9 (.slice A2 b.length c2') h;exact mx_move (ch_ev e1)
  ·intro done cv a wq hw h hJ;have e1:=mN 9 178 h hw;obtain rfl:wq=wc.drew:=hJ;refine wp_call (vals:=#[.slice A2 b.length c2']) (by rw[List.map_toArray,List.map_cons,List.map_nil,ch_ev e1]) (enters_of Try.func119 (by kernel_rfl) rfl _ _) (room_calls A2 c2' b _ HB1.out (HBB.out.stays (Below.refl _ _).drew)) ?_;rintro e w' ⟨A2,c4,rfl,hown,hbel⟩;rw[HRB.out]at hown⊢;exact⟨_,rfl,_,rfl,A2,c4,by simp,hown.src.bts,hown.le,(Below.refl _ _).drew.trans hbel⟩
  ·exact x4qs
  ·intro done cv k2 a wq hw h hJ hn;have e1:=mN 11 180 h hw;have y_:=kq (rmJ_bel hJ) RD FD;go_simp
  ·intro done cv a wq hw h hJ;have e1:=mx_cv (i:=10) (t:=179) h (hw 10 (by decide)) rfl rfl;have e181:=mN 12 181 h hw;obtain⟨A2,c4,y1,g1,g2,g3⟩:=hJ;rw[y1]at e1;obtain⟨by_,oy_,hay,-⟩:=g1 0 (by rw[HRL.out];omega);have hs_:=pre_slice (z:=d.done) dn' HDN.out g2 (by rw[HRL.out];omega) (by rw[HRL.out];omega) ⟨by_,oy_,hay⟩;clear hay;refine wp_val (v:=.slice A2 dn' c4) (by go_simp) ⟨_,rfl,A2,c4,by simp,mid_take g1 dn',by rw[HRL.out]at g2;omega,g3⟩
  ·intro done cv a wq hw h hJ;have e1:=mN 8 177 h hw;have e182:=mx_cv (i:=13) (t:=182) h (hw 13 (by decide)) rfl rfl;obtain⟨A2,c4,y1,g1,g2,g3⟩:=hJ;rw[y1]at e182;refine wp_call (vals:=#[.slice A1 dn' c3,.slice A2 dn' c4]) (by rw[List.map_toArray,List.map_cons,List.map_cons,List.map_nil,ch_ev e1,ch_ev e182]) (enters_of Try.func94 (by kernel_rfl) rfl _ _) (KQ.out _ _ _ g3 g1) ?_;rintro e w' ⟨rfl,m,rfl⟩;exact⟨_,rfl,_,rfl,by simp,Below.drewN' g3 m⟩
  ·intro done cv a wq hw h hJ;have e1:=mx_cv (i:=14) (t:=183) h (hw 14 (by decide)) rfl rfl;obtain⟨y1,g1⟩:=hJ;rw[y1]at e1;refine wp_val (v:=.bool (!eq)) (by go_simp) ⟨_,rfl,by simp,g1⟩
 intro cv1 w3 hJ;obtain⟨y1,hb⟩:=hJ;simp only[mixAll,putAll_some,putAll_none,putAll_nil,List.getElem?_cons_zero,List.getElem?_cons_succ,Nat.zero_add,Nat.reduceAdd,List.setIfInBounds_toArray,List.set_cons_zero,List.set_cons_succ];rw[y1];have HB3:=bT HB2 hb;clear hb y1
 cases eq
 ·have hz:Hid (n=3):=qH (HR1.out.trans (if_pos (by have:=HQ.out;simpa using this)));exact x73o
 have hz:Hid (n=0):=qH (HR1.out.trans (if_neg (by have:=HQ.out;simpa using this)));exact x73o
theorem devCheck_calls(d:Dev)(L:DLoc)(w:World)(h:DevIn w d L):Calls Try.prog 52 #[.agg (devA d L)] w (RetB w (iv (devCheck d))):=by
 by_cases hA:d.s0.length=64∧d.s1.length=64∧copCheck d.c0 d.c1=0∧d.up=true
 case neg=>exact devCheck_off_ d L w h hA
 obtain⟨h2,h1,hc,hu⟩:=hA;by_cases hB:d.busy=false∨(d.running<0∨1<d.running∨(d.running≠d.rec_.active∧d.rec_.trying=false))∨chkList d.got≠0
 ·exact devCheck_idle_ d L w h h2 h1 hc hu hB
 refine devCheck_busy_ d L w h h2 h1 hc hu ?_ (fun h=>hB (.inr (.inl h))) (Decidable.not_not.1 fun h=>hB (.inr (.inr h)))
 cases e:d.busy
 ·exact absurd (.inl e) hB
 rfl
theorem x6wy(h:Y:=by
 obtain rfl:k=l.length:=by omega
 have dl:decide ((l.length:Int)<(l.length:Int))=false:=by simp
 go_wp2_with fail;go_ret;exact⟨A1,c1,ds,rfl,HR.out,fun i o d h1 h2 hx q hq=>HN.out i o d (List.getElem?_eq_some_iff.1 h1).1 h1 h2 hx q hq,HB.out⟩):Y:=h
theorem x9r5(h:Y:=by
 rw[List.getElem?_set]at h2;by_cases hjk:k=j
 ·by_cases hdl:k<ds.length
  ·rw[if_pos hjk,if_pos hdl]at h2;injection h2 with h2;subst h2;have:=hgw q hq;omega
  ·rw[if_pos hjk,if_neg hdl]at h2;cases h2
 rw[if_neg hjk]at h2;exact HN.out j o d' (by omega) h1 h2 hx q hq):Y:=h
def KrRet{α:Type}(K:Kd α)(w:World)(l:List α):Ending->World->Prop:=fun en w'=>
 ∃A c ds,en=.returned (.slice A l.length c)∧GRow K w' w.heap.size l ds A c∧Each K l ds (fun k=>w.heap.size<=k)∧Below w.heap.size w w'
theorem opsCopy_calls(A:OA)(c:Nat)(l:List Stp)(w:World)(hl:l.length<=3518437208780)(hs:Sps w A l):
  Calls Try.prog 164 #[.slice A l.length c] w (KrRet kOp w l):=by
 obtain⟨ds1,hg⟩:=hs.gsrc;have hbd:=hs.bound;have HBD:=qH hbd;have HG:=qH hg;have K1:=qH (cloneOps_calls A l.length c (kOp.cells l ds1) w (cells_len _ _ hg.len) (by omega) hg.row (cells_oneCell _ _));clear hs hg hbd;go_enter Try.func164,Try.ntmps164;go_wp2_with fail;refine K1.out.mono ?_;rintro e w1 ⟨A1,c1,rfl,hown,hb1⟩;have hrow:GRow kOp w1 w.heap.size l ds1 A1 c1:=⟨HG.out.len,hown,(HG.out.stays hb1).data,fun i o d h1 h2 hx k hk e=>by
  have:=HG.out.each i o d h1 h2 hx k hk;have:=(hown.block k e).1;omega⟩
 have HR1:=qH hrow;have HB1:Hid (Below w.heap.size w w1):=qH hb1;clear hown hb1 hrow K1;go_wp2_with fail;go_loopw [9] (fun i wr=>∃(k:Nat) (ds:List (Option Addr×Nat)),k<=l.length∧i=iv k∧Hid (GRow kOp wr w.heap.size l ds A1 c1)∧Hid (∀(j:Nat) (o:Stp) (d:Option Addr×Nat),j<k->l[j]?=some o->ds[j]?=some d->kOp.dat o≠[]->∀q,d.1.map (·.block)=some q->w.heap.size<=q)∧Hid (Below w.heap.size w wr)) (fun i _=>l.length-(intOf i).toNat)
 case atStart=>exact⟨0,ds1,Nat.zero_le _,rfl,HR1,qH (fun j o d h=>by omega),HB1⟩
 case round=>
  clear HR1 HB1;rename World=>wr;obtain⟨k,ds,hk,rfl,HR,HN,HB⟩:=hrel;have hsz:=HB.out.size;by_cases hlt:k<l.length
  ·obtain⟨g,rfl,hg1,hg2⟩:=HR.out.row.form (by omega);have hlk:l[k]?=some l[k]:=List.getElem?_eq_getElem hlt;have hdk:ds[k]?=some (ds[k]'(by have:=HR.out.len;omega)):=List.getElem?_eq_getElem _;obtain⟨x,hx⟩:=eX (l[k]);obtain⟨e,he⟩:=eX (ds[k]'(by have:=HR.out.len;omega));rw[hx]at hlk;rw[he]at hdk;have hcell:∀j,j<3->wr.cell? ⟨g,k*3+j,none⟩=(kOp.cell x e)[j]?:=fun j hj=>by
    rw[HR.out.row.cellAt _ (show k*3+j<l.length*3 by omega)];exact cells_at (K:=kOp) l ds HR.out.len k j x e hlk hdk hj
   have q3:wr.cell? ⟨g,k*3,none⟩=some (iv x.at_):=hcell 0 (by decide);have q1:wr.cell? ⟨g,k*3+1,none⟩=some (iv x.len):=hcell 1 (by decide);have q2:wr.cell? ⟨g,k*3+2,none⟩=some (.slice e.1 x.data.length e.2):=hcell 2 (by decide);obtain⟨hd1,hd2⟩:=HR.out.data k x e hlk hdk;have hxl:x.data.length<=140737488351232:=(HBD.out x (List.mem_of_getElem? hlk)).2.2;have HD1:Hid (Bts wr e.1 x.data):=qH hd1;have HLK:=qH hlk;have HDK:=qH hdk;have K1:=qH (fun w h=>cloneBytes_calls e.1 x.data.length e.2 (x.data.map bv) w (by simp) (by omega) h (bv_one _));have hfr:wr.frozen? ⟨g,k*3+2,none⟩=false:=HR.out.row.frozenAt _;have dl:decide ((k:Int)<(l.length:Int))=true:=decide_eq_true (by omega);have hwk:IntKind.i64.wrap ((k:Int)+1)=(k:Int)+1:=IntWalk.i64_in _ (by omega);have hcap:(l.length:Int)<=(c1:Int):=by have:=HR.out.row.le;omega
   clear hcell hx he hlk hdk hd1 hd2;go_wp2_with fail;have hba:=(bW wr).alloc nl (.cells (#[iv x.at_,iv x.len,.slice e.1 x.data.length e.2]) 117);refine(K1.out _ (HD1.out.stays hba).src).mono ?_;rintro en w2 ⟨B,d,rfl,hob,hb1⟩;have hb2:=hba.trans (hb1.mono (by simp));have HR1:=qH (HR.out.below hb2);have hq1:w2.cell? ⟨g,k*3+2,none⟩=some (.slice e.1 x.data.length e.2):=(hb2.cell (p:=⟨g,k*3+2,none⟩) hg2).trans q2;have hf1:w2.frozen? ⟨g,k*3+2,none⟩=false:=(hb2.frozen (p:=⟨g,k*3+2,none⟩) hg2).trans hfr;have HBB:Hid (Below w.heap.size w (w2.setCell ⟨g,k*3+2,none⟩ (.slice B x.data.length d))):=qH ((HB.out.trans (hb2.mono hsz)).setCell (p:=⟨g,k*3+2,none⟩) hg1 _);have hgw:∀q,B.map (·.block)=some q->wr.heap.size+1<=q:=fun q h=>by have:=(hob.block q h).1;simpa using this
   have HR2:Hid (GRow kOp (w2.setCell ⟨g,k*3+2,none⟩ (.slice B x.data.length d)) w.heap.size l (ds.set k (B,d)) (some ⟨g,0,none⟩) c1):=qH (HR1.out.setData (e:=(B,d)) HLK.out hob.src.bts (by show x.data.length<=d;simpa using hob.le) (fun _ q h e2=>by have:=hgw q h;omega));have HN1:Hid (∀(j:Nat) (o:Stp) (d':Option Addr×Nat),j<k+1->l[j]?=some o->(ds.set k (B,d))[j]?=some d'->kOp.dat o≠[]->∀q,d'.1.map (·.block)=some q->w.heap.size<=q):=qH (fun j o d' hj h1 h2 hx q hq=>by
    exact x9r5)
   have a1:=kp (wr.heap.size) (#[iv x.at_,iv x.len,.slice e.1 x.data.length e.2]) hb1;clear hob hb1 hb2 hba q3 q1 q2 hfr hgw a1;go_wp2_with fail;go_roundw
   case rel=>exact⟨k+1,ds.set k (B,d),by omega,by go_num,HR2,HN1,HBB⟩
   case measure=>simp[intOf];omega
  exact x6wy
def PcRet(w:World)(p:Pat):Ending->World->Prop:=fun en w'=>
 ∃A c,en=.returned (.agg (patA p.from_ p.to_ p.old p.new_ p.size A p.ops.length c))∧Fresh w.heap.size w' (fun v=>PatIn v p A c)∧Below w.heap.size w w'
theorem patCopy_calls(B:OA)(d:Nat)(p:Pat)(w:World)(hp:PatIn w p B d):
  Calls Try.prog 152 #[.agg (patA p.from_ p.to_ p.old p.new_ p.size B p.ops.length d)] w (PcRet w p):=by
 obtain⟨f,t,o,n,sz,l⟩:=p;obtain⟨hcap,hlen,hops,j5,j1,j2,j3,j4⟩:=hp;dsimp only at *
 have hba:=((bW w).alloc nl (.cells (patA f t o n sz B l.length d) 35)).alloc (by simp) (.cells (patA 0 0 0 0 0 none 0 0) 35);have HBD:=qH hops.bound;have HS:=qH hops;have HI:Hid (I64 f∧I64 t∧I64 o∧I64 n∧I64 sz):=qH ⟨j5,j1,j2,j3,j4⟩;have HBA:=qH hba;clear hops hba j5 j1 j2 j3 j4;go_enter Try.func152,Try.ntmps152;go_wp2_with fail;refine(opsCopy_calls B d l _ hlen (HS.out.stays HBA.out)).mono ?_;rintro e w1 ⟨A1,c1,ds,rfl,hg,he,hb1⟩;have a2:=kp (w.heap.size) (patA f t o n sz B l.length d) hb1;have a1:=kp (w.heap.size+1) (patA 0 0 0 0 0 none 0 0) hb1;have HB1:=bT HBA hb1;have hfr:=hg.fresh he;have HF:Hid (Fresh (w.heap.size+2) w1 (fun v=>GRow kOp v (w.heap.size+2) l ds A1 c1)):=qH (by simpa using hfr);have HC:=qH hg.row.le;clear hb1 hg he hfr;go_wp2_with fail;refine bodyPost_ret (results_c rfl rfl (cs:=patA f t o n sz A1 l.length c1) (by go_simp) (by go_simp) (by go_simp)) rfl ?_;refine⟨A1,c1,rfl,?_,?_⟩
 ·refine Fresh.imp (P:=fun v=>GRow kOp v (w.heap.size+2) l ds A1 c1) (Fresh.mono (base:=w.heap.size+2) ?_ (by omega)) (fun v hv=>⟨HC.out,hlen,hv.src.sps HBD.out,HI.out.1,HI.out.2.1,HI.out.2.2.1,HI.out.2.2.2.1,HI.out.2.2.2.2⟩);repeat (first|exact HF.out|refine Fresh.row ?_ (by omega) _|refine Fresh.cell ?_ (by simp) _)
 exact bZ HB1
end Go.Proofs.Ytefkfglkpebbmac
