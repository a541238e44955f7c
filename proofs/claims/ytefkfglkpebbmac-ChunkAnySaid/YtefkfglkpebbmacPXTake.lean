/- The walk of the law ChunkAny's closure. Printed by gen_take.py. No conditions. -/
import Derived.Test.YtefkfglkpebbmacP4
import Derived.Test.YtefkfglkpebbmacPXSeen
set_option linter.unusedVariables false
set_option linter.unusedSimpArgs false
set_option maxRecDepth 100000
set_option maxHeartbeats 40000000
namespace Go.Proofs.Ytefkfglkpebbmac
open Go.RowKit
variable {Y:Prop}
variable {w w0 w':World} {n g c:Nat} {S:Nat->Bool}
theorem x82h(h:Y:=by
 have:done 5=true:=hcl 6 _ rfl (hw 6 (by decide)) 5 (by decide);simp[maskB,this]):Y:=h
theorem chkB_in{x:Chk}(h:chkCheck x=0):ChkB x:=by
 obtain⟨⟨h1,h2,h3,h4,h5,h6,h7,h8⟩,_,h9,_⟩:=chkCheck_ok.1 h;exact x0ek
theorem chkBs_in{l:List Chk}(h:chkList l=0):∀x∈l,ChkB x:=fun x hx=>chkB_in ((chkList_ok.1 h).1 x hx)
structure TkW(w0:World)(g gW gP:Nat)(p:Pat)(b:LU)(Wa:OA)(Wc:Nat)(PA:OA)(PC:Nat):Prop where
 sz:w0.heap.size=g
 lw:gW<g
 cw:w0.cell? ⟨gW,0,none⟩=some (.slice Wa (chunksOf p b).length Wc)
 chs:Chs w0 Wa (chunksOf p b)
 rp:rowOf w0 gP=patA p.from_ p.to_ p.old p.new_ p.size PA p.ops.length PC
 fp:frOf w0 gP=(0,0)
 pin:PatIn w0 p PA PC
structure TkAt(w0 w:World)(g:Nat)(p:Pat)(b:LU)(S:Nat->Bool):Prop where
 bel:Below g w0 w
 got:∃A c ds,Box w g 43 (.slice A (gotS p b S).length c)∧GRow kChk w (g+3) (gotS p b S) ds A c∧Each kChk (gotS p b S) ds (fun k=>g+3<=k)
 seen:SeenAt w (g+1) (nOf b) S
 mp:Box w (g+2) 46 (.map (some (g+1)))
 lt:g+3<=w.heap.size
/-! ### The first region -/
def tkJ(wo:World)(R:Option Addr->Nat->List (Option Addr×Nat)->World->Prop)(n:Nat)(done:Nat->Bool)(cv:Nat->Value)(w:World):Prop:=
 (done 5=false∧w=wo.drew)∨(done 5=true∧∃A c ds,R A c ds w∧cv 5=.tuple #[.slice A n c,iv 0]∧(done 6=true->cv 6=.tuple #[.slice A n c,iv 0])∧(done 7=true->cv 7=.slice A n c)∧(done 8=true->cv 8=iv 0)∧(done 9=true->cv 9=.slice A n c)∧(done 10=true->cv 10=iv 0))
theorem tkJ_bel{wo:World}{R:Option Addr->Nat->List (Option Addr×Nat)->World->Prop}{done:Nat->Bool}{cv:Nat->Value}(h:tkJ wo R n done cv w)(hR:∀A c ds w,R A c ds w->Below wo.heap.size wo w):Below wo.heap.size wo w:=by
 rcases h with ⟨_,rfl⟩|⟨_,A,c,ds,h,_⟩
 ·exact(Below.refl _ _).drew
 exact hR _ _ _ _ h
theorem tkJ_step{wo:World}{R:Option Addr->Nat->List (Option Addr×Nat)->World->Prop}{done:Nat->Bool}{cv:Nat->Value}(h:tkJ wo R n done cv w)(h5:done 5=true)(i:Nat)(hi:i≠5):
  ∃A c,cv 5=.tuple #[.slice A n c,iv 0]∧(done 6=true->cv 6=.tuple #[.slice A n c,iv 0])∧(done 7=true->cv 7=.slice A n c)∧(done 8=true->cv 8=iv 0)∧
   ∀v,(i=6->v=.tuple #[.slice A n c,iv 0])->(i=7->v=.slice A n c)->(i=8->v=iv 0)->(i=9->v=.slice A n c)->(i=10->v=iv 0)->tkJ wo R n (fun j=>if j=i then true else done j) (fun j=>if j=i then v else cv j) w:=by
 rcases h with ⟨h,_⟩|⟨_,A,c,ds,hR,a5,a6,a7,a8,a9,a10⟩
 ·rw[h5]at h;cases h
 refine⟨A,c,a5,a6,a7,a8,fun v g6 g7 g8 g9 g10=>.inr ⟨by simp[h5],A,c,ds,hR,by simpa[Ne.symm hi]using a5,?_,?_,?_,?_,?_⟩⟩
 ·intro hd;by_cases e:6=i
  ·simpa[e]using g6 e.symm
  ·simp[e]at hd⊢;exact a6 hd
 ·intro hd;by_cases e:7=i
  ·simpa[e]using g7 e.symm
  ·simp[e]at hd⊢;exact a7 hd
 ·intro hd;by_cases e:8=i
  ·simpa[e]using g8 e.symm
  ·simp[e]at hd⊢;exact a8 hd
 ·intro hd;by_cases e:9=i
  ·simpa[e]using g9 e.symm
  ·simp[e]at hd⊢;exact a9 hd
 intro hd;by_cases e:10=i
 ·simpa[e]using g10 e.symm
 simp[e]at hd⊢;exact a10 hd
/-! ### The second region -/
structure TkM(w0:World)(g N:Nat)(S S':Nat->Bool)(old new:Value)(l:List Chk)(ds:List (Option Addr×Nat))(A:OA)(c:Nat)(d3 d4:Bool)(w:World):Prop where
 got:Box w g 43 (if d3=true then new else old)
 seen:SeenAt w (g+1) N (if d4=true then S' else S)
 mp:Box w (g+2) 46 (.map (some (g+1)))
 row:GRow kChk w (g+3) l ds A c
 each:Each kChk l ds (fun k=>g+3<=k)
 bel:Below g w0 w
 lt:g+3<=w.heap.size
theorem TkM.below{N:Nat}{S':Nat->Bool}{old new:Value}{l:List Chk}{ds:List (Option Addr×Nat)}{A:OA}{d3 d4:Bool}(h:TkM w0 g N S S' old new l ds A c d3 d4 w)(hb:Below w.heap.size w w'):TkM w0 g N S S' old new l ds A c d3 d4 w':=
 ⟨h.got.below hb,h.seen.below hb h.seen.lt,h.mp.below hb,h.row.below hb,h.each,h.bel.trans (hb.mono (by have:=h.lt;omega)),Nat.le_trans h.lt hb.size⟩
theorem TkM.done{p:Pat}{b:LU}{S':Nat->Bool}{old:Value}{ds:List (Option Addr×Nat)}{A:OA}(h:TkM w0 g (nOf b) S S' old (.slice A (gotS p b S').length c) (gotS p b S') ds A c true true w):TkAt w0 w g p b S':=
 ⟨h.bel,⟨A,c,ds,by simpa using h.got,h.row,h.each⟩,by simpa using h.seen,h.mp,h.lt⟩
theorem rowOf_below0{B:Nat}(h:g<B)(hb:Below B w w'):rowOf w' g=rowOf w g:=by
 unfold rowOf;rw[hb.block g h]
theorem frOf_below0{B:Nat}(h:g<B)(hb:Below B w w'):frOf w' g=frOf w g:=by
 unfold frOf;rw[hb.block g h]
theorem wp_sslc{a:Act}{K:Act->World->Prop}{Q:Exit->Act->World->Prop}{t:TypeId}{p:String}{af:Array Edge}{gd:Option (Nat×Bool)}{x y:Tmp}{j:Nat}{B:OA}{u:Value}(hx:a.tmps[x]?=some (.pointer (some ⟨g,j,none⟩)))(hy:a.tmps[y]?=some (.slice B n c))
  (hc:w.cell? ⟨g,j,none⟩=some u) (hf:w.frozen? ⟨g,j,none⟩=false) (h:K a (w.setCell ⟨g,j,none⟩ (.slice B n c))):
  Oper.wp Try.prog ⟨none,.store 43 (.tmp x) (.tmp y),t,p,af,gd⟩ a w K Q:=by
 exact x3je
theorem wp_mapup{a:Act}{K:Act->World->Prop}{Q:Exit->Act->World->Prop}{t:TypeId}{p:String}{af:Array Edge}{gd:Option (Nat×Bool)}{x y:Tmp}{m k v:Value}(hx:a.tmps[x]?=some m)(hy:a.tmps[y]?=some k)
  (hrun:(Instr.mapUpdate 46 m k v).run Try.prog w=.ok () w') (h:K a w'):
  Oper.wp Try.prog ⟨none,.mapUpdate 46 (.tmp x) (.tmp y) (.const v),t,p,af,gd⟩ a w K Q:=by
 have e1:a.eval (.tmp x)=m:=by simp[Act.eval,hx]
 have e2:a.eval (.tmp y)=k:=by simp[Act.eval,hy]
 have e3:a.eval (.const v)=v:=rfl;unfold Oper.wp;simp[execOp,e1,e2,e3,hrun,Result.andThen];exact h
def TkRet(w0:World)(g:Nat)(p:Pat)(b:LU)(S:Nat->Bool):Ending->World->Prop:=fun e w'=>e=.returned (.bool true)∧TkAt w0 w' g p b S
theorem take_calls{gW gP:Nat}{p:Pat}{b:LU}{Wa:OA}{Wc:Nat}{PA:OA}{PC:Nat}(hw:TkW w0 g gW gP p b Wa Wc PA PC)(hcut:(chkCut p).2=0)(hbe:b=packed (patBytes p))(h:TkAt w0 w g p b S){k:Nat}(hk:k<nOf b):
  Calls Try.prog 35 #[iv (k:Int),.pointer (some ⟨g,0,none⟩),.pointer (some ⟨gW,0,none⟩),.pointer (some ⟨g+2,0,none⟩),.pointer (some ⟨gP,0,none⟩)] w (TkRet w0 g p b (fun j=>S j || j==k)):=by
 subst hbe;obtain⟨h1,h2,h3,h4⟩:=chkCut_ok hcut;have hp:=(patCheck_ok.1 h1).1;have hjn:=gotS_join hcut (fun j=>S j || j==k);have hadd:=gotS_add hp h2 S hk;have hok:=gotS_ok hp h2 S;have hok1:=gotS_ok hp h2 (fun j=>S j || j==k);have hln1:=gotS_len p (packed (patBytes p)) (fun j=>S j || j==k);have hcl:(chunksOf p (packed (patBytes p))).length=nOf (packed (patBytes p)):=by simp[chunksOf,nOf]
 have hck:(chunksOf p (packed (patBytes p)))[k]?=some (chunkAt p (packed (patBytes p)) (nOf (packed (patBytes p))) k):=by
  rw[List.getElem?_eq_getElem (by omega)];simp[chunksOf,nOf]
 obtain⟨A,c,ds,hbx,hrow,heach⟩:=h.got;have hgl:=chkList_len hok;have hgl1:=chkList_len hok1;have HBm:=qH (chkBs_in hok);have HBm1:=qH (chkBs_in hok1);have hseen:=h.seen;have hmp:=h.mp;have hlt:=h.lt;have hbel:=h.bel;have hsz:=hw.sz;have hlw:=hw.lw;clear h h3 h4 hok hok1 hcut h1 hp;have hsts:Below w0.heap.size w0 w:=by rw[hsz];exact hbel
 have HPI:=qH hw.pin;have HSZ:=qH hsz;have HR1:=qH hw.rp;have HF1:=qH hw.fp;have HW1:Hid (w0.cell? ⟨gW,0,none⟩=some (.slice Wa (nOf (packed (patBytes p))) Wc)):=qH (by rw[<-hcl];exact hw.cw);have hcw:w.cell? ⟨gW,0,none⟩=some (.slice Wa (nOf (packed (patBytes p))) Wc):=by
  rw[<-hcl];exact(hbel.cell (p:=⟨gW,0,none⟩) hlw).trans hw.cw
 obtain⟨hgp,hgpr,hgpf⟩:gP<g∧rowOf w gP=patA p.from_ p.to_ p.old p.new_ p.size PA p.ops.length PC∧frOf w gP=(0,0):=by
  have h1:gP<w0.heap.size:=row_lt (w:=w0) (by rw[hw.rp];simp[patA]);exact⟨by omega,(rowOf_below h1 hsts).trans hw.rp,(frOf_below h1 hsts).trans hw.fp⟩
 obtain⟨bw,ow,B,cx,hWa,hbwl,hat,hin⟩:=(hw.chs.stays hsts).chk (i:=k) (by omega);have hx:(chunksOf p (packed (patBytes p)))[k]'(by omega)=chunkAt p (packed (patBytes p)) (nOf (packed (patBytes p))) k:=by
  rw[List.getElem?_eq_getElem (by omega)]at hck;injection hck
 rw[hx]at hat hin;subst hWa;clear hx hck hw hsts hcl;have HP1:PatIn w0 p PA PC:=HPI.out;obtain⟨jr,hjr⟩:=eX (chkJoin (gotS p (packed (patBytes p)) (fun j=>S j || j==k)));have hjoin:∀A c w',Chs w' A (gotS p (packed (patBytes p)) (fun j=>S j || j==k))->Calls Try.prog 37 #[.slice A (gotS p (packed (patBytes p)) (fun j=>S j || j==k)).length c] w' (PaRet w' jr.1 jr.2):=fun A c w' hs=>by
  have:=chkJoin_calls A c _ w' (by omega) hs;rwa [hjr]at this
 have HJ:=qH hjoin;have hfull:(gotS p (packed (patBytes p)) (fun j=>S j || j==k)).length=nOf (packed (patBytes p))->jr=(p,0):=fun e=>by rw[<-hjr,hjn,if_pos e]
 have hpart:(gotS p (packed (patBytes p)) (fun j=>S j || j==k)).length≠nOf (packed (patBytes p))->jr=(Pat.zero,5):=fun e=>by rw[<-hjr,hjn,if_neg e]
 have HF:=qH hfull;have HPT:=qH hpart;have hcnt:cntS (nOf (packed (patBytes p))) (fun j=>S j || j==k)=(gotS p (packed (patBytes p)) (fun j=>S j || j==k)).length:=hln1.symm;have hle:cntS (nOf (packed (patBytes p))) (fun j=>S j || j==k)<=nOf (packed (patBytes p)):=cnt_le _ _;clear hjoin hjn hln1 HPI hjr hfull hpart;generalize hS2:(fun j=>S j || j==k)=S2 at *
 have hmst:∀(w:World),SeenAt w (g+1) (nOf (packed (patBytes p))) S->∃w',(Instr.mapUpdate 46 (.map (some (g+1))) (iv (k:Int)) (.bool true)).run Try.prog w=.ok () w'∧SeenAt w' (g+1) (nOf (packed (patBytes p))) S2∧w.mapTurned w' (g+1):=fun w h=>by
  have:=h.store (by omega) hk;rwa [hS2]at this
 clear hS2;have hadc:∀w',Chs w' A (gotS p (packed (patBytes p)) S)->ChkIn w' (chunkAt p (packed (patBytes p)) (nOf (packed (patBytes p))) k) B cx->Calls Try.prog 36 #[.slice A (gotS p (packed (patBytes p)) S).length c,.agg (chkA (chunkAt p (packed (patBytes p)) (nOf (packed (patBytes p))) k).from_ (chunkAt p (packed (patBytes p)) (nOf (packed (patBytes p))) k).to_ (chunkAt p (packed (patBytes p)) (nOf (packed (patBytes p))) k).n (chunkAt p (packed (patBytes p)) (nOf (packed (patBytes p))) k).of_ B (chunkAt p (packed (patBytes p)) (nOf (packed (patBytes p))) k).data.length cx)] w' (ChkRet2 w' (gotS p (packed (patBytes p)) S2) 0):=fun w' h1 h2=>by
  have:=chkAdd_calls A B c cx _ _ w' (by omega) h1 h2;rwa [hadd]at this
 have HAD:=qH hadc;have HM:=qH hmst;have HSE:=qH hseen;have HMP:=qH hmp;have HBX:=qH hbx;have HBEL:=qH hbel;have HCHS:=qH (hrow.src.chs HBm.out);have HIN:=qH hin;have HPA:=qH HP1;have c1:=hbx.cell;have c2:=hmp.cell;obtain⟨x5,x1,x2,x3,x4⟩:=hat;have HLE:=qH hle;clear hle;clear hadd hadc hmst hseen hmp hbx hbel hrow heach hin HP1 HBm;generalize gotS p (packed (patBytes p)) S=l at *
 generalize hG2:gotS p (packed (patBytes p)) S2=l2 at *
 generalize chunkAt p (packed (patBytes p)) (nOf (packed (patBytes p))) k=x at *
 generalize hGN:nOf (packed (patBytes p))=N at *
 have HG1:=qH hG2;have HGN:=qH hGN;clear hG2 hGN;have hgw:g<w.heap.size:=by omega
 have hgWw:gW<w.heap.size:=by omega
 have hN:(k:Int)<(N:Int):=by omega
 go_enter Try.func35,Try.ntmps35;go_wp2_with fail;refine wp_region_free (by kernel_rfl) (some 11::some 12::some 13::some 14::some 15::some 16::some 10::some 17::some 18::some 7::some 8::[]) (false::false::false::false::false::true::true::true::true::true::true::[]) (.slice A l.length c::.slice (some ⟨bw,ow,none⟩) N Wc::iv (k:Int)::.pointer (some ⟨bw,ow+k*5,none⟩)::.agg (chkA x.from_ x.to_ x.n x.of_ B x.data.length cx)::undef::undef::undef::undef::undef::undef::[]) (tkJ w (fun A c ds w1=>GRow kChk w1 w.heap.size l2 ds A c∧Each kChk l2 ds (fun k=>w.heap.size<=k)∧Below w.heap.size w w1) l2.length) 54 rfl rfl (by decide+kernel) (by decide+kernel) (by decide+kernel) rfl rfl (.inl ⟨rfl,rfl⟩) ?_ ?_
 ·refine⟨?_,?_,?_,?_,?_,?_,?_,?_,?_,?_,?_,trivial⟩;all_goals intro done cv a wq hn hw hcl h hJ
  ·have e1:=fO 1 (.pointer (some ⟨g,0,none⟩)) h;have hb:=tkJ_bel hJ (fun _ _ _ _ h=>h.2.2);have hc:=(hb.cell (p:=⟨g,0,none⟩) hgw).trans c1;go_simp
  ·have e2:=fO 2 (.pointer (some ⟨gW,0,none⟩)) h;have hb:=tkJ_bel hJ (fun _ _ _ _ h=>h.2.2);have hc:=(hb.cell (p:=⟨gW,0,none⟩) hgWw).trans hcw;go_simp
  ·have e1:=fO 0 (iv (k:Int)) h;exact mx_move (ch_ev e1)
  ·have e2:=fN 1 12 h hw;have e13:=fN 2 13 h hw;go_simp
  ·have e1:=fN 3 14 h hw;have hb:=tkJ_bel hJ (fun _ _ _ _ h=>h.2.2);have y5:=(hb.cell (p:=⟨bw,ow+k*5,none⟩) hbwl).trans x5;have y1:=(hb.cell (p:=⟨bw,ow+k*5+1,none⟩) hbwl).trans x1;have y2:=(hb.cell (p:=⟨bw,ow+k*5+2,none⟩) hbwl).trans x2;have y3:=(hb.cell (p:=⟨bw,ow+k*5+3,none⟩) hbwl).trans x3;have y4:=(hb.cell (p:=⟨bw,ow+k*5+4,none⟩) hbwl).trans x4;go_simp
  ·have e2:=fN 0 11 h hw;have e15:=fN 4 15 h hw;have hb1:Below w.heap.size w wq:=tkJ_bel hJ (fun _ _ _ _ h=>h.2.2);refine wp_call (vals:=#[.slice A l.length c,.agg (chkA x.from_ x.to_ x.n x.of_ B x.data.length cx)]) (by simp[Act.eval,e2,e15]) (enters_of Try.func36 (by kernel_rfl) rfl _ _) (HAD.out _ (HCHS.out.stays hb1) (HIN.out.stays hb1)) ?_;rintro e w' ⟨A1,c3,ds1,rfl,hg,hn1,hb2⟩;refine⟨_,rfl,_,rfl,.inr ⟨by simp,A1,c3,ds1,⟨hg.mono hb1.size,hn1.imp fun _ hk=>Nat.le_trans hb1.size hk,hb1.trans (hb2.mono hb1.size)⟩,by simp,?_,?_,?_,?_,?_⟩⟩
   ·intro hd;simp[maskB]at hd;have:=hcl 6 _ rfl hd 5 (by decide);rw[hn]at this;cases this
   ·intro hd;simp[maskB]at hd;have:=hcl 6 _ rfl (hcl 7 _ rfl hd 6 (by decide)) 5 (by decide);rw[hn]at this;cases this
   ·intro hd;simp[maskB]at hd;have:=hcl 6 _ rfl (hcl 8 _ rfl hd 6 (by decide)) 5 (by decide);rw[hn]at this;cases this
   ·intro hd;simp[maskB]at hd;have:=hcl 6 _ rfl (hcl 7 _ rfl (hcl 9 _ rfl hd 7 (by decide)) 6 (by decide)) 5 (by decide);rw[hn]at this;cases this
   intro hd;simp[maskB]at hd;have:=hcl 6 _ rfl (hcl 8 _ rfl (hcl 10 _ rfl hd 8 (by decide)) 6 (by decide)) 5 (by decide);rw[hn]at this;cases this
  ·have e1:=fr_cv (i:=5) (t:=16) h (hw 5 (by decide)) rfl rfl;have h1:maskB [false,false,false,false,false,true,true,true,true,true,true] done 5=true:=by
    have:done 5=true:=hw 5 (by decide);simp[maskB,this]
   obtain⟨A1,c1_,a1,a2,a3,a4,hK⟩:=tkJ_step hJ h1 6 (by decide);rw[a1]at e1;refine wp_val (v:=.tuple #[.slice A1 l2.length c1_,iv 0]) (by go_simp) ⟨_,rfl,hK _ (fun _=>rfl) (fun e=>absurd e (by decide)) (fun e=>absurd e (by decide)) (fun e=>absurd e (by decide)) (fun e=>absurd e (by decide))⟩
  ·have e2:=fr_cv (i:=6) (t:=10) h (hw 6 (by decide)) rfl rfl;have h1:maskB [false,false,false,false,false,true,true,true,true,true,true] done 5=true:=by
    exact x82h
   obtain⟨A1,c1_,a1,a2,a3,a4,hK⟩:=tkJ_step hJ h1 7 (by decide);rw[a2 (by simp[maskB,hw 6 (by decide)])]at e2;refine wp_val (v:=.slice A1 l2.length c1_) (by go_simp) ⟨_,rfl,hK _ (fun e=>absurd e (by decide)) (fun _=>rfl) (fun e=>absurd e (by decide)) (fun e=>absurd e (by decide)) (fun e=>absurd e (by decide))⟩
  ·have e1:=fr_cv (i:=6) (t:=10) h (hw 6 (by decide)) rfl rfl;have h1:maskB [false,false,false,false,false,true,true,true,true,true,true] done 5=true:=by
    exact x82h
   obtain⟨A1,c1_,a1,a2,a3,a4,hK⟩:=tkJ_step hJ h1 8 (by decide);rw[a2 (by simp[maskB,hw 6 (by decide)])]at e1;refine wp_val (v:=iv 0) (by go_simp) ⟨_,rfl,hK _ (fun e=>absurd e (by decide)) (fun e=>absurd e (by decide)) (fun _=>rfl) (fun e=>absurd e (by decide)) (fun e=>absurd e (by decide))⟩
  ·have e2:=fr_cv (i:=7) (t:=17) h (hw 7 (by decide)) rfl rfl;have h1:maskB [false,false,false,false,false,true,true,true,true,true,true] done 5=true:=by
    have:done 5=true:=hcl 6 _ rfl (hcl 7 _ rfl (hw 7 (by decide)) 6 (by decide)) 5 (by decide);simp[maskB,this]
   obtain⟨A1,c1_,a1,a2,a3,a4,hK⟩:=tkJ_step hJ h1 9 (by decide);rw[a3 (by simp[maskB,hw 7 (by decide)])]at e2;refine wp_val (v:=.slice A1 l2.length c1_) (by go_simp) ⟨_,rfl,hK _ (fun e=>absurd e (by decide)) (fun e=>absurd e (by decide)) (fun e=>absurd e (by decide)) (fun _=>rfl) (fun e=>absurd e (by decide))⟩
  ·have e1:=fr_cv (i:=8) (t:=18) h (hw 8 (by decide)) rfl rfl;have h1:maskB [false,false,false,false,false,true,true,true,true,true,true] done 5=true:=by
    have:done 5=true:=hcl 6 _ rfl (hcl 8 _ rfl (hw 8 (by decide)) 6 (by decide)) 5 (by decide);simp[maskB,this]
   obtain⟨A1,c1_,a1,a2,a3,a4,hK⟩:=tkJ_step hJ h1 10 (by decide);rw[a4 (by simp[maskB,hw 8 (by decide)])]at e1;refine wp_val (v:=iv 0) (by go_simp) ⟨_,rfl,hK _ (fun e=>absurd e (by decide)) (fun e=>absurd e (by decide)) (fun e=>absurd e (by decide)) (fun e=>absurd e (by decide)) (fun _=>rfl)⟩
 intro dn cv w1 hall hJ;have h1:=hall 5 rfl (by decide);have h5:=hall 6 rfl (by decide);have h6:=hall 7 rfl (by decide);have h7:=hall 8 rfl (by decide);have h8:=hall 9 rfl (by decide);have h9:=hall 10 rfl (by decide);rcases hJ with ⟨h,_⟩|⟨_,A1,c1',ds1,⟨hg,hn1,hb1⟩,a5,a6,a7,a8,a9,a10⟩
 ·exact absurd (h1.symm.trans h) (by decide)
 have a1:=a6 h5;have a7:=a7 h6;have a8:=a8 h7;have a9:=a9 h8;have a10:=a10 h9;simp only[freeAll,putAll_some,putAll_none,putAll_nil,List.getD_cons_zero,List.getD_cons_succ,List.getD_nil,Nat.zero_add,Nat.reduceAdd,List.setIfInBounds_toArray,List.set_cons_zero,List.set_cons_succ,if_true,if_false,Bool.false_eq_true,reduceIte,a5,a1,a7,a8,a9,a10];clear hall h1 h5 h6 h7 h8 h9 a5 a1 a7 a8 a9 a10;have HG:=qH hg;have HN1:=qH hn1;have HBX1:=qH (HBX.out.below hb1);have HMP1:=qH (HMP.out.below hb1);have HSE1:=qH (HSE.out.below hb1 HSE.out.lt);have HB1:=qH (HBEL.out.trans ((hb1).mono (by omega)));have hsz1:=hb1.size;clear hb1 hg hn1 x5 x1 x2 x3 x4 hcw c1 c2 HAD HCHS HIN HBX HMP HSE HBEL;go_wp2_with fail;refine wp_region_free (by kernel_rfl) (some 21::some 22::some 23::none::none::[]) (false::false::false::true::true::[]) (.map (some (g+1))::iv (k:Int)::.slice A1 l2.length c1'::undef::undef::[]) (fun done _ w=>TkM w0 g N S S2 (.slice A l.length c) (.slice A1 l2.length c1') l2 ds1 A1 c1' (done 3) (done 4) w) 54 rfl rfl (by decide+kernel) (by decide+kernel) (by decide+kernel) rfl rfl (⟨by simpa using HBX1.out.drew,by have:=HSE1.out.keep (w':=w1.drew) rfl;simpa using this,HMP1.out.drew,(HG.out.mono (by omega)).below (Below.refl _ _).drew,HN1.out.imp (fun q hq=>by omega),HB1.out.drew,by simp;omega⟩) ?_ ?_
 ·refine⟨?_,?_,?_,?_,?_,trivial⟩;all_goals intro done cv a wq hn hw hcl h hJ
  ·have e1:=fO 3 (.pointer (some ⟨g+2,0,none⟩)) h;have hc:=hJ.mp.cell;go_simp
  ·have e2:=fO 0 (iv (k:Int)) h;exact mx_move (ch_ev e2)
  ·have e1:=fO 7 (.slice A1 l2.length c1') h;exact mx_move (ch_ev e1)
  ·have e1:=fO 1 (.pointer (some ⟨g,0,none⟩)) h;have e23:=fN 2 23 h hw;have hd:maskB [false,false,false,true,true] done 3=false:=by simp[maskB,hn]
   have hc:=hJ.got.cell;have hf:=hJ.got.free;refine wp_sslc e1 e23 hc hf ⟨undef,rfl,?_⟩;have hg1:=hJ.got.set (.slice A1 l2.length c1');refine⟨by simpa using hg1,?_,hJ.mp.other (by show g≠g+2;omega) _,hJ.row.setOther (fun e=>by have:=(hJ.row.row.block g e).1;omega) (hJ.each.imp fun q hq=>by omega) _,hJ.each,hJ.bel.setCell (p:=⟨g,0,none⟩) nl _,by simpa using hJ.lt⟩;have:=hJ.seen.setCell (a:=⟨g,0,none⟩) (by show g+1≠g;omega) (.slice A1 l2.length c1');simpa using this
  ·have e2:=fN 0 21 h hw;have e22:=fN 1 22 h hw;have hd:maskB [false,false,false,true,true] done 4=false:=by simp[maskB,hn]
   have hs:=hJ.seen;rw[hd]at hs;obtain⟨w',hrun,hs1,htn⟩:=HM.out wq hs;refine wp_mapup e2 e22 hrun ⟨undef,rfl,?_⟩;have hsz2:=turned_size htn;have hbk:=fun i hi=>turned_block htn (i:=i) hi;refine⟨?_,by simpa using hs1,(hbk (g+2) (by omega)).trans hJ.mp,hJ.row.keep (by omega) (fun q _ e=>hbk q (by have:=(hJ.row.row.block q e).1;omega)) (hJ.each.imp fun q hq _=>hbk q (by omega)),hJ.each,hJ.bel.trans (turned_below htn (by omega)),by have:=hJ.lt;omega⟩;have:=(hbk g (by omega)).trans hJ.got
   first|exact this|simpa[maskB]using this
 intro dn cv w2 hall hJ;have h1:=hall 3 rfl (by decide);have h3:=hall 4 rfl (by decide);rw[h1,h3]at hJ;simp only[freeAll,putAll_some,putAll_none,putAll_nil,List.getD_cons_zero,List.getD_cons_succ,List.getD_nil,Nat.zero_add,Nat.reduceAdd,List.setIfInBounds_toArray,List.set_cons_zero,List.set_cons_succ,if_true,if_false,Bool.false_eq_true,reduceIte];clear hall h1 h3;have c2g:=hJ.got.cell;have c2m:=hJ.mp.cell;simp only[if_true,reduceIte]at c2g;have hB1:Below g w0 w2:=hJ.bel;have c2w:w2.cell? ⟨gW,0,none⟩=some (.slice (some ⟨bw,ow,none⟩) N Wc):=(hB1.cell (p:=⟨gW,0,none⟩) hlw).trans HW1.out;have r1:=(rowOf_below0 hgp hB1).trans HR1.out;have f1:=(frOf_below0 hgp hB1).trans HF1.out;have HPA1:=qH (HPA.out.stays (by rw[HSZ.out];exact hB1));have HJ1:=qH hJ;have HCH1:=qH (hJ.row.src.chs HBm1.out);have hl1:=hJ.lt;clear hJ hB1;by_cases hfull:l2.length=N
 ·obtain rfl:jr=(p,0):=HF.out hfull;have hcn:cntS N S2=N:=by rw[hcnt,hfull]
  have HFU:=qH hfull;have HCN:=qH hcn;clear HF HPT hfull hcnt hcn;go_wp2_with fail;refine(HJ.out _ _ _ HCH1.out).mono ?_;rintro e w3 ⟨A1,c1,rfl,hx1,hb1⟩;have HX1:=qH hx1.now;have hsz2:=hb1.size;have r2:=(rowOf_below (by omega:gP<w2.heap.size) hb1).trans r1;have f2:=(frOf_below (by omega:gP<w2.heap.size) hb1).trans f1;have c2:=(hb1.cell (p:=⟨g+2,0,none⟩) (by simp;omega)).trans c2m;have c3:=(hb1.cell (p:=⟨gW,0,none⟩) (by simp;omega)).trans c2w;have HJ2:=qH (HJ1.out.below hb1);have hlen:=fun ty=>((HJ2.out.seen).keep (w':=w3.alloc (.cells (patA p.from_ p.to_ p.old p.new_ p.size A1 p.ops.length c1) 35)) (Below.heap_alloc w3 _ (g+1) (by have:=HJ2.out.lt;omega))).len ty;simp only[if_true,reduceIte]at hlen;rw[HCN.out]at hlen;have HJ3:=qH (HJ2.out.below ((bW w3).alloc nl (.cells (patA p.from_ p.to_ p.old p.new_ p.size A1 p.ops.length c1) 35)));have HPA2:=qH (HPA1.out.stays hb1);have n1:¬g+2=w3.heap.size:=by omega
  have n2:¬gW=w3.heap.size:=by omega
  have n3:¬gP=w3.heap.size:=by omega
  have hba:=(bW w3).alloc nl (.cells (patA p.from_ p.to_ p.old p.new_ p.size A1 p.ops.length c1) 35);have c2:=(hba.cell (p:=⟨g+2,0,none⟩) (by simp;omega)).trans c2;have c3:=(hba.cell (p:=⟨gW,0,none⟩) (by simp;omega)).trans c3;have r2:=(rowOf_below0 (by omega:gP<w3.heap.size) hba).trans r2;have f2:=(frOf_below0 (by omega:gP<w3.heap.size) hba).trans f2;clear hba;clear hb1 hx1 c2m c2w r1 f1;go_wp2_with fail;have hps:=patSame_calls PA A1 PC c1 p p (w3.alloc (.cells (patA p.from_ p.to_ p.old p.new_ p.size A1 p.ops.length c1) 35)) (HPA2.out.stays ((bW w3).alloc nl _)) (HX1.out.stays ((bW w3).alloc nl _));rw[show decide (p=p)=true by simp]at hps;refine hps.mono ?_;rintro e w4 ⟨rfl,hb1⟩;have HJ4:=qH (HJ3.out.below hb1);clear hb1 hps hlen;go_wp2_with fail;go_ret;have e1:=HG1.out;have e2:=HGN.out;subst e1 e2;exact⟨rfl,HJ4.out.done⟩
 obtain rfl:jr=(Pat.zero,5):=HPT.out hfull;have hcn:cntS N S2=l2.length:=hcnt;have HFU:=qH hfull;have HCN:=qH hcn;clear HF HPT hfull hcnt hcn;go_wp2_with fail;refine(HJ.out _ _ _ HCH1.out).mono ?_;rintro e w3 ⟨A1,c1,rfl,hx1,hb1⟩;have HX1:=qH hx1.now;have hsz2:=hb1.size;have r2:=(rowOf_below (by omega:gP<w2.heap.size) hb1).trans r1;have f2:=(frOf_below (by omega:gP<w2.heap.size) hb1).trans f1;have c2:=(hb1.cell (p:=⟨g+2,0,none⟩) (by simp;omega)).trans c2m;have c3:=(hb1.cell (p:=⟨gW,0,none⟩) (by simp;omega)).trans c2w;have HJ2:=qH (HJ1.out.below hb1);have hlen:=fun ty=>((HJ2.out.seen).keep (w':=w3.alloc (.cells (patA Pat.zero.from_ Pat.zero.to_ Pat.zero.old Pat.zero.new_ Pat.zero.size A1 Pat.zero.ops.length c1) 35)) (Below.heap_alloc w3 _ (g+1) (by have:=HJ2.out.lt;omega))).len ty;simp only[if_true,reduceIte]at hlen;rw[HCN.out]at hlen;have HJ3:=qH (HJ2.out.below ((bW w3).alloc nl (.cells (patA Pat.zero.from_ Pat.zero.to_ Pat.zero.old Pat.zero.new_ Pat.zero.size A1 Pat.zero.ops.length c1) 35)));have HPA2:=qH (HPA1.out.stays hb1);have n1:¬g+2=w3.heap.size:=by omega
 have n2:¬gW=w3.heap.size:=by omega
 have n3:¬gP=w3.heap.size:=by omega
 have hba:=(bW w3).alloc nl (.cells (patA Pat.zero.from_ Pat.zero.to_ Pat.zero.old Pat.zero.new_ Pat.zero.size A1 Pat.zero.ops.length c1) 35);have c2:=(hba.cell (p:=⟨g+2,0,none⟩) (by simp;omega)).trans c2;have c3:=(hba.cell (p:=⟨gW,0,none⟩) (by simp;omega)).trans c3;have r2:=(rowOf_below0 (by omega:gP<w3.heap.size) hba).trans r2;have f2:=(frOf_below0 (by omega:gP<w3.heap.size) hba).trans f2;clear hba;clear hb1 hx1 c2m c2w r1 f1;have hlt1:l2.length<N:=by have:=HFU.out;have:=HLE.out;rw[HCN.out]at this;omega
 have hlt2:(l2.length:Int)<(N:Int):=by omega
 go_wp2_with fail;go_ret;have e1:=HG1.out;have e2:=HGN.out;subst e1 e2;exact⟨rfl,HJ3.out.done⟩
end Go.Proofs.Ytefkfglkpebbmac
