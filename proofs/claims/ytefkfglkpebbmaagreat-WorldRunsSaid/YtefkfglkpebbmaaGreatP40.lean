/- Walks of functions, and plain words. No conditions. -/
import Derived.Test.YtefkfglkpebbmaaGreatPE4
import Derived.Test.YtefkfglkpebbmaaGreatP14
set_option linter.unusedVariables false
set_option linter.unusedSimpArgs false
set_option maxRecDepth 100000
set_option maxHeartbeats 40000000
namespace Go.Proofs.YtefkfglkpebbmaaGreat
open Go.RowKit
variable {Y:Prop}
variable {k g:Nat} {w w0:World} {d:Dev}
structure CbJ{α:Type}(w0:World)(ci cm e0 e1 al st a1:Nat)(row:α->Array Value)(zr:Array Value)(n:Int)(R:α->Nat->World->Prop)(x:α)(b gb:Nat)(w2:World)(dn:Nat->Bool)(cv:Nat->Value)(w:World):Prop where
 bel:Below w0.heap.size w0 w
 call:dn ci=true->cv ci=.tuple #[.agg (row x),iv n]∧w0.heap.size<=b∧R x b w2∧Kp b w2 w∧w2.heap.size<=w.heap.size
 v1:dn cm=true->cv cm=.tuple #[.agg (row x),iv n]
 v2:dn e0=true->cv e0=.agg (row x)
 v3:dn e1=true->cv e1=iv n
 v4:dn a1=true->cv a1=iv n
 box:dn al=true->cv al=.pointer (some ⟨gb,0,none⟩)∧w0.heap.size<=gb∧gb<w.heap.size∧frOf w gb=(0,0)∧(dn st=false->rowOf w gb=zr)∧(dn st=true->rowOf w gb=row x)
 apart:dn ci=true->dn al=true->gb<b∨w2.heap.size<=gb
def cbJ{α:Type}(w0:World)(ci cm e0 e1 al st a1:Nat)(row:α->Array Value)(zr:Array Value)(n:Int)(R:α->Nat->World->Prop)(dn:Nat->Bool)(cv:Nat->Value)(w:World):Prop:=
 ∃(x:α) (b gb:Nat) (w2:World),CbJ w0 ci cm e0 e1 al st a1 row zr n R x b gb w2 dn cv w
section
variable {α:Type} {w0 w w':World} {ci cm e0 e1 al st a1:Nat} {row:α->Array Value} {zr:Array Value} {n:Int} {R:α->Nat->World->Prop} {dn:Nat->Bool} {cv:Nat->Value}
theorem cbJ_start(x:α):cbJ w0 ci cm e0 e1 al st a1 row zr n R (fun _=>false) (fun _=>undef) w0.drew:=
 ⟨x,0,0,w0,(Below.refl _ _).drew,by simp,by simp,by simp,by simp,by simp,by simp,by simp⟩
theorem cbJ_bel(h:cbJ w0 ci cm e0 e1 al st a1 row zr n R dn cv w):Below w0.heap.size w0 w:=by
 obtain⟨_,_,_,_,h⟩:=h;exact h.bel
theorem cbJ_c(h2:dn cm=false)(h3:dn e0=false)(h4:dn e1=false)(h5:dn a1=false)(h7:dn st=false)(n1:cm≠ci)(n2:e0≠ci)(n3:e1≠ci)(n4:a1≠ci)(n5:al≠ci)(n6:st≠ci)(h:cbJ w0 ci cm e0 e1 al st a1 row zr n R dn cv w){x:α}(hp:R x w.heap.size w')(hb:Below w.heap.size w w'):
  cbJ w0 ci cm e0 e1 al st a1 row zr n R (fun j=>if j=ci then true else dn j) (fun j=>if j=ci then .tuple #[.agg (row x),iv n] else cv j) w':=by
 obtain⟨x1,b1,gb,w1,h⟩:=h;have hs:=h.bel.size;refine⟨x,w.heap.size,gb,w',h.bel.trans (hb.mono hs),fun _=>⟨by simp,hs,hp,Kp.refl _ _,nl⟩,by simp[n1,h2],by simp[n2,h3],by simp[n3,h4],by simp[n4,h5],?_,?_⟩
 ·simp only[n5,n6,if_false];intro ha;obtain⟨g1,g2,g3,g4,g5,g6⟩:=h.box ha;exact⟨g1,g2,Nat.lt_of_lt_of_le g3 hb.size,(frOf_below g3 hb).trans g4,fun e=>(rowOf_below g3 hb).trans (g5 e),fun e=>by rw[h7]at e;cases e⟩
 simp only[n5,if_false];exact fun _ ha=>.inl (h.box ha).2.2.1
theorem cbJ_k{v:Value}(hne:ci≠k)(hal:al≠k)(hst:st≠k)(h:cbJ w0 ci cm e0 e1 al st a1 row zr n R dn cv w)
  (hv:∀x,(dn ci=true->cv ci=.tuple #[.agg (row x),iv n])->(dn cm=true->cv cm=.tuple #[.agg (row x),iv n])->(dn e0=true->cv e0=.agg (row x))->(dn e1=true->cv e1=iv n)->(cm=k->v=.tuple #[.agg (row x),iv n])∧(e0=k->v=.agg (row x))∧(e1=k->v=iv n)∧(a1=k->v=iv n)):
  cbJ w0 ci cm e0 e1 al st a1 row zr n R (fun j=>if j=k then true else dn j) (fun j=>if j=k then v else cv j) w:=by
 obtain⟨x,b,gb,w1,h⟩:=h;obtain⟨v1,v2,v3,v4⟩:=hv x (fun e=>(h.call e).1) h.v1 h.v2 h.v3;have key:∀(q:Nat) (y:Value),(dn q=true->cv q=y)->(q=k->v=y)->((if q=k then true else dn q)=true->(if q=k then v else cv q)=y):=by
  intro q y h1 h2 h3;by_cases e:q=k
  ·rw[if_pos e];exact h2 e
  rw[if_neg e]at h3⊢;exact h1 h3
 refine⟨x,b,gb,w1,h.bel,by simp only[hne,if_false];exact h.call,key _ _ h.v1 v1,key _ _ h.v2 v2,key _ _ h.v3 v3,key _ _ h.v4 v4,by simp only[hal,hst,if_false];exact h.box,by simp only[hne,hal,if_false];exact h.apart⟩
theorem cbJ_a{ty:TypeId}(hz:0<zr.size)(hal:dn al=false)(hs:dn st=false)(n1:cm≠al)(n2:e0≠al)(n3:e1≠al)(n4:a1≠al)(n5:ci≠al)(n6:st≠al)(h:cbJ w0 ci cm e0 e1 al st a1 row zr n R dn cv w):
  cbJ w0 ci cm e0 e1 al st a1 row zr n R (fun j=>if j=al then true else dn j) (fun j=>if j=al then .pointer (some ⟨w.heap.size,0,none⟩)else cv j) (w.alloc (.cells zr ty)):=by
 obtain⟨x,b,gb,w1,h⟩:=h;have hsz:=h.bel.size;refine⟨x,b,w.heap.size,w1,h.bel.alloc hsz _,?_,by simpa[n1]using h.v1,by simpa[n2]using h.v2,by simpa[n3]using h.v3,by simpa[n4]using h.v4,?_,?_⟩
 ·simp only[n5,if_false];intro e;obtain⟨g1,g2,g3,g4,g5⟩:=h.call e;exact⟨g1,g2,g3,g4.alloc g5 _,by simp;omega⟩
 ·simp only[n6,if_false,if_true];refine fun _=>⟨trivial,hsz,by simp,by rw[frOf_alloc,if_pos rfl],fun _=>by rw[rowOf_alloc,if_pos rfl],fun e=>by rw[hs]at e;cases e⟩
 simp only[n5,if_false];intro e _;exact .inr (h.call e).2.2.2.2
theorem cbJ_s(hz:0<zr.size)(hd:dn ci=true)(hs:dn st=false)(hal:dn al=true)(he0:dn e0=true)(n1:cm≠st)(n2:e0≠st)(n3:e1≠st)(n4:a1≠st)(n5:ci≠st)(n6:al≠st)(h:cbJ w0 ci cm e0 e1 al st a1 row zr n R dn cv w){v:Value}:
  ∃(x:α) (gb:Nat),cv al=.pointer (some ⟨gb,0,none⟩)∧cv e0=.agg (row x)∧rowOf w gb=zr∧frOf w gb=(0,0)∧cbJ w0 ci cm e0 e1 al st a1 row zr n R (fun j=>if j=st then true else dn j) (fun j=>if j=st then v else cv j) (w.setRow gb (row x)):=by
 obtain⟨x,b,gb,w1,h⟩:=h;obtain⟨b1,b2,b3,b4,b5,b6⟩:=h.box hal;have hr:=b5 hs;refine⟨x,gb,b1,h.v2 he0,hr,b4,x,b,gb,w1,below_row h.bel b2 _,?_,by simpa[n1]using h.v1,by simpa[n2]using h.v2,by simpa[n3]using h.v3,by simpa[n4]using h.v4,?_,?_⟩
 ·simp only[n5,if_false];intro e;obtain⟨g1,g2,g3,g4,g5⟩:=h.call e;exact⟨g1,g2,g3,g4.row (h.apart e hal) _,by simp[World.setRow];exact g5⟩
 ·simp only[n6,if_false,if_true];refine fun _=>⟨b1,b2,by simp[World.setRow];exact b3,by rw[frOf_setRow];exact b4,fun e=>by simp at e,fun _=>by rw[rowOf_setRow _ _ _ _ (by rw[hr];exact hz),if_pos rfl]⟩
 simp only[n5,n6,if_false];exact h.apart
theorem cbJ_end(h1:dn ci=true)(h2:dn cm=true)(h3:dn e0=true)(h4:dn e1=true)(h5:dn a1=true)(h6:dn al=true)(h7:dn st=true)(h:cbJ w0 ci cm e0 e1 al st a1 row zr n R dn cv w):
  ∃(x:α) (b gb:Nat) (w2:World),cv ci=.tuple #[.agg (row x),iv n]∧cv cm=.tuple #[.agg (row x),iv n]∧cv e0=.agg (row x)∧cv e1=iv n∧cv a1=iv n∧cv al=.pointer (some ⟨gb,0,none⟩)∧
   rowOf w gb=row x∧frOf w gb=(0,0)∧w0.heap.size<=gb∧gb<w.heap.size∧Below w0.heap.size w0 w∧w0.heap.size<=b∧R x b w2∧Kp b w2 w∧w2.heap.size<=w.heap.size∧(gb<b∨w2.heap.size<=gb):=by
 obtain⟨x,b,gb,w1,h⟩:=h;obtain⟨g1,g2,g3,g4,g5⟩:=h.call h1;obtain⟨b1,b2,b3,b4,b5,b6⟩:=h.box h6;exact⟨x,b,gb,w1,g1,h.v1 h2,h.v2 h3,h.v3 h4,h.v4 h5,b1,b6 h7,b4,b2,b3,h.bel,g2,g3,g4,g5,h.apart h1 h6⟩
end
theorem wp_alloc{P:Program}{a:Act}{K:Act->World->Prop}{Q:Exit->Act->World->Prop}{ty t:TypeId}{p:String}{af:Array Edge}{gd:Option (Nat×Bool)}{d:Tmp}{zr:Array Value}(he:∀ev:Operand->Value,(execOp ev ⟨some d,.alloc ty,t,p,af,gd⟩).run P w=.ok (.value (.pointer (some ⟨w.heap.size,0,none⟩))) (w.alloc (.cells zr ty)))
  (h:K (a.put (some d) (.pointer (some ⟨w.heap.size,0,none⟩))) (w.alloc (.cells zr ty))):Oper.wp P ⟨some d,.alloc ty,t,p,af,gd⟩ a w K Q:=by
 unfold Oper.wp;rw[he];exact h
def Bex(g base:Nat)(w w':World):Prop:=Below 0 w w'∧∀k,k<base->k≠g->w'.heap[k]?=w.heap[k]?
section
variable {g base:Nat} {w w' w2:World}
theorem Bex.refl(g base:Nat)(w:World):Bex g base w w:=⟨Below.refl _ _,fun _ _ _=>rfl⟩
theorem Bex.below(h:Bex g base w w')(hb:Below w'.heap.size w' w2)(hg:g<=w'.heap.size)(hs:base<=w'.heap.size):Bex g base w w2:=⟨h.1.trans (hb.mono (Nat.zero_le _)),fun k h1 h2=>(hb.block k (by omega)).trans (h.2 k h1 h2)⟩
theorem Bex.row(h:Bex g base w w'){q:Nat}(hq:q=g∨base<=q)(cs:Array Value):Bex g base w (w'.setRow q cs):=⟨below_row h.1 (Nat.zero_le _) _,fun k h1 h2=>(setRow_other _ _ _ _ (by omega)).trans (h.2 k h1 h2)⟩
theorem Bex.alloc(h:Bex g base w w')(hg:g<=w'.heap.size)(hs:base<=w'.heap.size)(o:Obj):Bex g base w (w'.alloc o):=h.below (bL o) hg hs
theorem Bex.to(h:Bex g base w w'){B:Nat}(h1:B<=g)(h2:B<=base):Below B w w':=⟨h.1.os,h.1.tape,h.1.output,h.1.size,fun k hk=>h.2 k (by omega) (by omega)⟩
end
def HaRet(w:World)(g base:Nat)(x:Wor)(n:Int):Ending->World->Prop:=fun en w'=>
 en=.returned (iv n)∧(n=0->∃L,rowOf w' g=worA x L∧frOf w' g=(0,0)∧∀v:World,(∀k,base<=k->k≠g->k<w'.heap.size->v.heap[k]?=w'.heap[k]?)->WorIn v x L)∧Bex g base w w'∧w.heap.size<=w'.heap.size
theorem rowOf_heap{w':World}(h:w'.heap[g]?=w.heap[g]?):rowOf w' g=rowOf w g∧frOf w' g=frOf w g:=by unfold rowOf frOf;rw[h];exact⟨rfl,rfl⟩
def HapOk(kd n:Int):Prop:=∀(g base m top:Nat) (ds:List (Option Addr×Nat)) (x:Wor) (L:WLoc) (w:World),rowOf w g=worA x L->frOf w g=(0,0)->(g<base∨top<=g)->WorAt w base m top ds x L->WorOk x->I64 n->Calls Tryz.prog 12 #[.pointer (some ⟨g,0,none⟩),.agg #[iv kd,iv n]] w (HaRet w g base (worHappen x kd n).1 (worHappen x kd n).2)
theorem opsCopy_calls(A:OA)(c:Nat)(l:List Stp)(w:World)(hl:l.length<=3518437208780)(hs:Sps w A l):
  Calls Tryz.prog 121 #[.slice A l.length c] w (KrRet kOp w l):=by
 obtain⟨ds1,hg⟩:=hs.gsrc;have hbd:=hs.bound;have HBD:=qH hbd;have HG:=qH hg;have K1:=qH (cloneOps_calls A l.length c (kOp.cells l ds1) w (cells_len _ _ hg.len) (by omega) hg.row (cells_oneCell _ _));clear hs hg hbd;go_enter Tryz.func121,Tryz.ntmps121;go_wp2_with fail;refine K1.out.mono ?_;rintro e w1 ⟨A1,c1,rfl,hown,hb1⟩;have hrow:GRow kOp w1 w.heap.size l ds1 A1 c1:=⟨HG.out.len,hown,(HG.out.stays hb1).data,fun i o d h1 h2 hx k hk e=>by
  have:=HG.out.each i o d h1 h2 hx k hk;have:=(hown.block k e).1;omega⟩
 have HR1:=qH hrow;have HB1:Hid (Below w.heap.size w w1):=qH hb1;clear hown hb1 hrow K1;go_wp2_with fail;go_loopw [9] (fun i wr=>∃(k:Nat) (ds:List (Option Addr×Nat)),k<=l.length∧i=iv k∧Hid (GRow kOp wr w.heap.size l ds A1 c1)∧Hid (∀(j:Nat) (o:Stp) (d:Option Addr×Nat),j<k->l[j]?=some o->ds[j]?=some d->kOp.dat o≠[]->∀q,d.1.map (·.block)=some q->w.heap.size<=q)∧Hid (Below w.heap.size w wr)) (fun i _=>l.length-(intOf i).toNat)
 case atStart=>exact⟨0,ds1,Nat.zero_le _,rfl,HR1,qH (fun j o d h=>by omega),HB1⟩
 case round=>
  clear HR1 HB1;rename World=>wr;obtain⟨k,ds,hk,rfl,HR,HN,HB⟩:=hrel;have hsz:=HB.out.size;by_cases hlt:k<l.length
  ·obtain⟨g,rfl,hg1,hg2⟩:=HR.out.row.form (by omega);have hlk:l[k]?=some l[k]:=List.getElem?_eq_getElem hlt;have hdk:ds[k]?=some (ds[k]'(by have:=HR.out.len;omega)):=List.getElem?_eq_getElem _;obtain⟨x,hx⟩:=eX (l[k]);obtain⟨e,he⟩:=eX (ds[k]'(by have:=HR.out.len;omega));rw[hx]at hlk;rw[he]at hdk;have hcell:∀j,j<3->wr.cell? ⟨g,k*3+j,none⟩=(kOp.cell x e)[j]?:=fun j hj=>by
    rw[HR.out.row.cellAt _ (show k*3+j<l.length*3 by omega)];exact cells_at (K:=kOp) l ds HR.out.len k j x e hlk hdk hj
   have q3:wr.cell? ⟨g,k*3,none⟩=some (iv x.at_):=hcell 0 (by decide);have q1:wr.cell? ⟨g,k*3+1,none⟩=some (iv x.len):=hcell 1 (by decide);have q2:wr.cell? ⟨g,k*3+2,none⟩=some (.slice e.1 x.data.length e.2):=hcell 2 (by decide);obtain⟨hd1,hd2⟩:=HR.out.data k x e hlk hdk;have hxl:x.data.length<=140737488351232:=(HBD.out x (List.mem_of_getElem? hlk)).2.2;have HD1:Hid (Bts wr e.1 x.data):=qH hd1;have HLK:=qH hlk;have HDK:=qH hdk;have K1:=qH (fun w h=>cloneBytes_calls e.1 x.data.length e.2 (x.data.map bv) w (by simp) (by omega) h (bv_one _));have hfr:wr.frozen? ⟨g,k*3+2,none⟩=false:=HR.out.row.frozenAt _;have dl:decide ((k:Int)<(l.length:Int))=true:=decide_eq_true (by omega);have hwk:IntKind.i64.wrap ((k:Int)+1)=(k:Int)+1:=IntWalk.i64_in _ (by omega);have hcap:(l.length:Int)<=(c1:Int):=by have:=HR.out.row.le;omega
   clear hcell hx he hlk hdk hd1 hd2;go_wp2_with fail;have hba:=(bW wr).alloc nl (.cells (#[iv x.at_,iv x.len,.slice e.1 x.data.length e.2]) 143);refine(K1.out _ (HD1.out.stays hba).src).mono ?_;rintro en w2 ⟨B,d,rfl,hob,hb1⟩;have hb2:=hba.trans (hb1.mono (by simp));have HR1:=qH (HR.out.below hb2);have hq1:w2.cell? ⟨g,k*3+2,none⟩=some (.slice e.1 x.data.length e.2):=(hb2.cell (p:=⟨g,k*3+2,none⟩) hg2).trans q2;have hf1:w2.frozen? ⟨g,k*3+2,none⟩=false:=(hb2.frozen (p:=⟨g,k*3+2,none⟩) hg2).trans hfr;have HBB:Hid (Below w.heap.size w (w2.setCell ⟨g,k*3+2,none⟩ (.slice B x.data.length d))):=qH ((HB.out.trans (hb2.mono hsz)).setCell (p:=⟨g,k*3+2,none⟩) hg1 _);have hgw:∀q,B.map (·.block)=some q->wr.heap.size+1<=q:=fun q h=>by have:=(hob.block q h).1;simpa using this
   have HR2:Hid (GRow kOp (w2.setCell ⟨g,k*3+2,none⟩ (.slice B x.data.length d)) w.heap.size l (ds.set k (B,d)) (some ⟨g,0,none⟩) c1):=qH (HR1.out.setData (e:=(B,d)) HLK.out hob.src.bts (by show x.data.length<=d;simpa using hob.le) (fun _ q h e2=>by have:=hgw q h;omega));have HN1:Hid (∀(j:Nat) (o:Stp) (d':Option Addr×Nat),j<k+1->l[j]?=some o->(ds.set k (B,d))[j]?=some d'->kOp.dat o≠[]->∀q,d'.1.map (·.block)=some q->w.heap.size<=q):=qH (fun j o d' hj h1 h2 hx q hq=>by
    exact x9r5)
   have a1:=kp (wr.heap.size) (#[iv x.at_,iv x.len,.slice e.1 x.data.length e.2]) hb1;clear hob hb1 hb2 hba q3 q1 q2 hfr hgw a1;exact x6bz
  exact x6wy
def PcRet(w:World)(p:Pat):Ending->World->Prop:=fun en w'=>
 ∃A c,en=.returned (.agg (patA p.from_ p.to_ p.old p.new_ p.size A p.ops.length c))∧Fresh w.heap.size w' (fun v=>PatIn v p A c)∧Below w.heap.size w w'
theorem patCopy_calls(B:OA)(d:Nat)(p:Pat)(w:World)(hp:PatIn w p B d):
  Calls Tryz.prog 87 #[.agg (patA p.from_ p.to_ p.old p.new_ p.size B p.ops.length d)] w (PcRet w p):=by
 obtain⟨f,t,o,n,sz,l⟩:=p;obtain⟨hcap,hlen,hops,j5,j1,j2,j3,j4⟩:=hp;dsimp only at *
 have hba:=((bW w).alloc nl (.cells (patA f t o n sz B l.length d) 36)).alloc (by simp) (.cells (patA 0 0 0 0 0 none 0 0) 36);have HBD:=qH hops.bound;have HS:=qH hops;have HI:Hid (I64 f∧I64 t∧I64 o∧I64 n∧I64 sz):=qH ⟨j5,j1,j2,j3,j4⟩;have HBA:=qH hba;clear hops hba j5 j1 j2 j3 j4;go_enter Tryz.func87,Tryz.ntmps87;go_wp2_with fail;refine(opsCopy_calls B d l _ hlen (HS.out.stays HBA.out)).mono ?_;rintro e w1 ⟨A1,c1,ds,rfl,hg,he,hb1⟩;have a2:=kp (w.heap.size) (patA f t o n sz B l.length d) hb1;have a1:=kp (w.heap.size+1) (patA 0 0 0 0 0 none 0 0) hb1;have HB1:=bT HBA hb1;have hfr:=hg.fresh he;have HF:Hid (Fresh (w.heap.size+2) w1 (fun v=>GRow kOp v (w.heap.size+2) l ds A1 c1)):=qH (by simpa using hfr);have HC:=qH hg.row.le;clear hb1 hg he hfr;go_wp2_with fail;refine bodyPost_ret (results_c rfl rfl (cs:=patA f t o n sz A1 l.length c1) (by go_simp) (by go_simp) (by go_simp)) rfl ?_;refine⟨A1,c1,rfl,?_,?_⟩
 ·refine Fresh.imp (P:=fun v=>GRow kOp v (w.heap.size+2) l ds A1 c1) (Fresh.mono (base:=w.heap.size+2) ?_ (by omega)) (fun v hv=>⟨HC.out,hlen,hv.src.sps HBD.out,HI.out.1,HI.out.2.1,HI.out.2.2.1,HI.out.2.2.2.1,HI.out.2.2.2.2⟩);repeat (first|exact HF.out|refine Fresh.row ?_ (by omega) _|refine Fresh.cell ?_ (by simp) _)
 exact bZ HB1
theorem x5ed(h:Y:=by
 have hk:=hn 10 _ 3 rfl rfl (by decide);obtain⟨hr,hf⟩:=dcJ_row hk HR.out HF.out hJ;have hc:=cell_row (w:=wq) (g:=g) (by rw[hr];simp[devA]);go_simp):Y:=h
theorem x81i(h:Y:=by
 have hk:=hn 7 _ 2 rfl rfl (by decide);obtain⟨hr,hf⟩:=dcK_row hk HR1.out HF1.out HG1.out hJ;have hc:=cell_row (w:=wq) (g:=g) (by rw[hr];simp[devA]);go_simp):Y:=h
def dcJ(w0:World)(g:Nat)(d:Dev)(L:DLoc):Nat->(Nat->Value)->World->Prop
 |0,_,w=>w=w0.drew
 |1,cv,w=>∃A5 c5,cv 3=.slice A5 d.s0.length c5∧Own w w0.heap.size 5 1 A5 d.s0.length c5 (d.s0.map bv)∧Below w0.heap.size w0 w
 |2,cv,w=>∃A5 c5 w1 A6 c6,cv 3=.slice A5 d.s0.length c5∧Own w1 w0.heap.size 5 1 A5 d.s0.length c5 (d.s0.map bv)∧Below w0.heap.size w0 w1∧cv 7=.slice A6 d.s1.length c6∧Own w w1.heap.size 5 1 A6 d.s1.length c6 (d.s1.map bv)∧Below w1.heap.size w1 w
 |3,cv,w=>∃A5 c5 w1 A6 c6,cv 8=.agg (slotsA A5 d.s0.length c5 A6 d.s1.length c6)∧Own w1 w0.heap.size 5 1 A5 d.s0.length c5 (d.s0.map bv)∧Below w0.heap.size w0 w1∧Own w w1.heap.size 5 1 A6 d.s1.length c6 (d.s1.map bv)∧Below w1.heap.size w1 w
 |_,_,w=>∃A5 c5 w1 A6 c6 w2,Own w1 w0.heap.size 5 1 A5 d.s0.length c5 (d.s0.map bv)∧Below w0.heap.size w0 w1∧Own w2 w1.heap.size 5 1 A6 d.s1.length c6 (d.s1.map bv)∧Below w1.heap.size w1 w2∧w=w2.setRow g (devA d {L with a0:=A5,c0:=c5,a1:=A6,c1:=c6})
theorem dcJ_row{L:DLoc}{cv:Nat->Value}(hk:k<=3)(hr:rowOf w0 g=devA d L)(hf:frOf w0 g=(0,0))(hJ:dcJ w0 g d L k cv w):rowOf w g=devA d L∧frOf w g=(0,0):=by
 have hg:g<w0.heap.size:=row_lt (w:=w0) (by rw[hr];simp[devA]);have key:Below w0.heap.size w0 w->rowOf w g=devA d L∧frOf w g=(0,0):=fun hb=>⟨(rowOf_below hg hb).trans hr,(frOf_below hg hb).trans hf⟩
 match k,hk,hJ with
 |0,_,hJ=>obtain rfl:w=w0.drew:=hJ;exact key (Below.refl _ _).drew
 |1,_,⟨_,_,_,_,h⟩=>exact key h
 |2,_,⟨_,_,w1,_,_,_,_,h,_,_,h2⟩=>exact key (h.trans (h2.mono h.size))
 |3,_,⟨_,_,w1,_,_,_,_,h,_,h2⟩=>exact key (h.trans (h2.mono h.size))
def dcK(w0:World)(g:Nat)(d:Dev)(L:DLoc):Nat->(Nat->Value)->World->Prop
 |0,_,w=>w=w0.drew
 |1,cv,w=>∃A5 c5 ds,cv 2=.slice A5 d.got.length c5∧GRow kChk w w0.heap.size d.got ds A5 c5∧Each kChk d.got ds (fun k=>w0.heap.size<=k)∧Below w0.heap.size w0 w
 |2,cv,w=>∃A5 c5 ds w4 A6 c6,cv 2=.slice A5 d.got.length c5∧cv 5=.agg (patA d.job.from_ d.job.to_ d.job.old d.job.new_ d.job.size A6 d.job.ops.length c6)∧GRow kChk w4 w0.heap.size d.got ds A5 c5∧Each kChk d.got ds (fun k=>w0.heap.size<=k)∧Below w0.heap.size w0 w4∧
  Fresh w4.heap.size w (fun v=>PatIn v d.job A6 c6)∧Below w4.heap.size w4 w
 |3,cv,w=>∃A5 c5 ds w4 A6 c6 w5,cv 5=.agg (patA d.job.from_ d.job.to_ d.job.old d.job.new_ d.job.size A6 d.job.ops.length c6)∧GRow kChk w4 w0.heap.size d.got ds A5 c5∧Each kChk d.got ds (fun k=>w0.heap.size<=k)∧Below w0.heap.size w0 w4∧
  Fresh w4.heap.size w5 (fun v=>PatIn v d.job A6 c6)∧Below w4.heap.size w4 w5∧w=w5.setRow g (devA d {L with ag:=A5,cg:=c5})
 |_,_,w=>∃A5 c5 ds w4 A6 c6 w5,GRow kChk w4 w0.heap.size d.got ds A5 c5∧Each kChk d.got ds (fun k=>w0.heap.size<=k)∧Below w0.heap.size w0 w4∧
  Fresh w4.heap.size w5 (fun v=>PatIn v d.job A6 c6)∧Below w4.heap.size w4 w5∧w=w5.setRow g (devA d {L with ag:=A5,cg:=c5,aj:=A6,cj:=c6})
theorem dcK_row{L:DLoc}{cv:Nat->Value}(hk:k<=2)(hr:rowOf w0 g=devA d L)(hf:frOf w0 g=(0,0))(hg:g<w0.heap.size)(hJ:dcK w0 g d L k cv w):rowOf w g=devA d L∧frOf w g=(0,0):=by
 have key:Below w0.heap.size w0 w->rowOf w g=devA d L∧frOf w g=(0,0):=fun hb=>⟨(rowOf_below hg hb).trans hr,(frOf_below hg hb).trans hf⟩
 match k,hk,hJ with
 |0,_,hJ=>obtain rfl:w=w0.drew:=hJ;exact key (Below.refl _ _).drew
 |1,_,⟨_,_,_,_,_,_,h⟩=>exact key h
 |2,_,⟨_,_,_,w1,_,_,_,_,_,_,h,_,h2⟩=>exact key (h.trans (h2.mono h.size))
theorem dcEnd{w1 w3 w4 w5 w':World}{L2:DLoc}{A5 A6 A7 A8:OA}{c5 c6 c7 c8:Nat}{ds:List (Option Addr×Nat)}(HIN:DevIn w0 d L2∨True)
  (hl:d.s0.length<=140737488351232∧d.s1.length<=140737488351232∧d.got.length<=2513169434843) (hi:I64 d.running∧I64 d.done) (hbd:∀x∈d.got,ChkB x)
  (h0:Own w3 w0.heap.size 5 1 A5 d.s0.length c5 (d.s0.map bv)) (h1:Own w3 w1.heap.size 5 1 A6 d.s1.length c6 (d.s1.map bv))
  (hbk:(∀k,A5.map (·.block)=some k->k<w1.heap.size)∧(∀k,A6.map (·.block)=some k->k<w3.heap.size)∧w0.heap.size<=w1.heap.size∧w1.heap.size<=w3.heap.size)
  (hg:Fresh w3.heap.size w4 (fun v=>GRow kChk v w3.heap.size d.got ds A7 c7)) (hf:Fresh w4.heap.size w5 (fun v=>PatIn v d.job A8 c8)) (b4:Below w3.heap.size w3 w4) (b5:Below w4.heap.size w4 w5) (hc:d.got.length<=c7)
  (he:L2.a0=A5∧L2.c0=c5∧L2.a1=A6∧L2.c1=c6) (hw:∀k,w0.heap.size<=k->w'.heap[k]?=w5.heap[k]?):DvOwn w' w0.heap.size d {L2 with ag:=A7,cg:=c7,aj:=A8,cj:=c8}:=by
 obtain⟨e1,e2,e3,e4⟩:=he;have s1:=b4.size;have hk:∀k,w0.heap.size<=k->k<w3.heap.size->w'.heap[k]?=w3.heap[k]?:=fun k h1 h2=>(hw k h1).trans (((b5.block k (by omega))).trans (b4.block k h2));refine⟨w1.heap.size,w3.heap.size,hbk.2.2.1,hbk.2.2.2,?_,?_,?_,?_,?_,?_,hl.1,hl.2.1,hc,hl.2.2,hi.1,hi.2⟩
 ·show Own w' _ _ _ L2.a0 _ L2.c0 _;rw[e1,e2];exact own_fresh h0 hk
 ·show ∀k,L2.a0.map (·.block)=some k->_;rw[e1];exact hbk.1
 ·show Own w' _ _ _ L2.a1 _ L2.c1 _;rw[e3,e4];exact own_fresh h1 (fun k h=>hk k (by have:=hbk.2.2.1;omega))
 ·show ∀k,L2.a1.map (·.block)=some k->_;rw[e3];exact hbk.2.1
 ·have g1:Fresh w3.heap.size w5 (fun v=>GRow kChk v w3.heap.size d.got ds A7 c7):=hg.below b5 nl;exact(g1.fresh (fun k h1 h2=>hw k (by have:=hbk.2.2;omega))).imp fun v hv=>hv.src.chs hbd
 exact(hf.mono s1).fresh (fun k h1 h2=>hw k (by have:=hbk.2.2;omega))
@[go_sem] theorem build_slots(a:OA)(k c:Nat)(b:OA)(m e:Nat)(w:World):runBuild Tryz.prog 24 #[(0,.slice a k c),(1,.slice b m e)] w=.ok (.agg (slotsA a k c b m e)) w:=by kernel_rfl
theorem devCopy_calls(d:Dev)(L:DLoc)(w:World)(h:DevIn w d L):Calls Tryz.prog 38 #[.agg (devA d L)] w (DcRet w d):=by
 have HI:=qH h;have HL:Hid (d.s0.length<=140737488351232∧d.s1.length<=140737488351232∧d.got.length<=2513169434843):=qH ⟨h.l0,h.l1,h.lg⟩;have HI1:Hid (I64 d.running∧I64 d.done):=qH ⟨h.ir,h.id⟩;have HBD:Hid (∀x∈d.got,ChkB x):=qH h.got.bound;clear h;go_enter Tryz.func38,Tryz.ntmps38;go_wp2_with fail;have q1:rowOf ((w.alloc (.cells (devA d L) 38)).alloc (.cells (devA Dev.zero DLoc.zero) 38)) w.heap.size=devA d L:=by go_simp
 have q2:frOf ((w.alloc (.cells (devA d L) 38)).alloc (.cells (devA Dev.zero DLoc.zero) 38)) w.heap.size=(0,0):=by go_simp
 have q3:rowOf ((w.alloc (.cells (devA d L) 38)).alloc (.cells (devA Dev.zero DLoc.zero) 38)) (w.heap.size+1)=devA Dev.zero DLoc.zero:=by go_simp
 have q4:frOf ((w.alloc (.cells (devA d L) 38)).alloc (.cells (devA Dev.zero DLoc.zero) 38)) (w.heap.size+1)=(0,0):=by go_simp
 obtain⟨w7,hw1⟩:=eX ((w.alloc (.cells (devA d L) 38)).alloc (.cells (devA Dev.zero DLoc.zero) 38));have HB1:Hid (Below w.heap.size w w7):=qH (by rw[<-hw1];exact(bL _).alloc (by simp) _);obtain⟨g,hg⟩:=eX (w.heap.size);rw[hw1,hg]at q1 q2 q3 q4;have HR:=qH q1;have HF:=qH q2;have HRz:=qH q3;have HFz:=qH q4;have HSZ:Hid (w7.heap.size=g+2):=qH (by rw[<-hw1,<-hg];simp);have HG:Hid (g<w7.heap.size):=qH (by rw[HSZ.out];omega);rw[hw1];rw[hg]at HB1⊢;have HGE:=qH hg;clear hw1 hg q1 q2 q3 q4;have HIN:Hid (DevIn w7 d L):=qH (HI.out.stays (HGE.out▸HB1.out));have K4:Hid (∀wq,Below w7.heap.size w7 wq->Calls Tryz.prog 86 #[.slice L.a0 d.s0.length L.c0] wq (SlRet wq 5 1 d.s0.length (d.s0.map bv))):=qH (fun wq h=>cloneBytes_calls _ _ _ _ wq (by simp) (by have:=HL.out.1;omega) (HIN.out.b0.stays h).src (bv_one _));have K1:Hid (∀wq,Below w7.heap.size w7 wq->Calls Tryz.prog 86 #[.slice L.a1 d.s1.length L.c1] wq (SlRet wq 5 1 d.s1.length (d.s1.map bv))):=qH (fun wq h=>cloneBytes_calls _ _ _ _ wq (by simp) (by have:=HL.out.2.1;omega) (HIN.out.b1.stays h).src (bv_one _));refine wp_region_mix (by kernel_rfl) (some 3::some 4::some 5::some 6::some 7::some 8::some 9::some 10::some 11::some 12::none::[]) (none::none::none::some 0::none::none::none::some 1::some 2::none::some 3::[]) (.pointer (some ⟨g,0,none⟩)::.pointer (some ⟨g,0,none⟩)::.slice L.a0 d.s0.length L.c0::undef::.pointer (some ⟨g,0,none⟩)::.pointer (some ⟨g,1,none⟩)::.slice L.a1 d.s1.length L.c1::undef::undef::.pointer (some ⟨g,0,none⟩)::undef::[]) 4 (dcJ w7 g d L) 22 rfl rfl (by decide+kernel) (by decide+kernel) (by decide+kernel) (by decide+kernel) rfl rfl (by decide+kernel) (by decide+kernel) (rfl) ?_ ?_
 ·refine⟨?_,?_,?_,?_,?_,?_,?_,?_,?_,?_,?_,trivial⟩
  ·exact x1jh
  ·intro done cv k2 a wq hw h hJ hn;have e1:=mN 0 3 h hw;go_simp
  ·intro done cv k1 a wq hw h hJ hn;have e1:=mN 1 4 h hw;exact x5ed
  ·intro done cv a wq hw h hJ;have e1:=mN 2 5 h hw;obtain rfl:wq=w7.drew:=hJ;refine wp_call (vals:=#[.slice L.a0 d.s0.length L.c0]) (by rw[List.map_toArray,List.map_cons,List.map_nil,ch_ev e1]) (enters_of Tryz.func86 (by kernel_rfl) rfl _ _) (K4.out _ ((Below.refl _ _).drew)) ?_;rintro e w' ⟨A1,c1,rfl,hown,hbel⟩;exact⟨_,rfl,_,rfl,A1,c1,by simp,hown,(Below.refl _ _).drew.trans hbel⟩
  ·exact x1jh
  ·intro done cv k2 a wq hw h hJ hn;have e1:=mN 4 7 h hw;go_simp
  ·intro done cv k1 a wq hw h hJ hn;have e1:=mN 5 8 h hw;exact x5ed
  ·intro done cv a wq hw h hJ;have e1:=mN 6 9 h hw;obtain⟨A1,c2,y1,hown,hbel⟩:=hJ;refine wp_call (vals:=#[.slice L.a1 d.s1.length L.c1]) (by rw[List.map_toArray,List.map_cons,List.map_nil,ch_ev e1]) (enters_of Tryz.func86 (by kernel_rfl) rfl _ _) (K1.out _ hbel) ?_;rintro e w' ⟨A2,c1,rfl,hown1,hbel1⟩;exact⟨_,rfl,_,rfl,A1,c2,wq,A2,c1,by simpa using y1,hown,hbel,by simp,hown1,hbel1⟩
  ·intro done cv a wq hw h hJ;have e1:=mx_cv (i:=3) (t:=6) h (hw 3 (by decide)) rfl rfl;have e10:=mx_cv (i:=7) (t:=10) h (hw 7 (by decide)) rfl rfl;obtain⟨A1,c1,w1,A2,c2,y1,hown,hbel,y2,hown1,hbel1⟩:=hJ;rw[y1]at e1;rw[y2]at e10;refine wp_val (v:=.agg (slotsA A1 d.s0.length c1 A2 d.s1.length c2)) (by go_simp) ⟨_,rfl,A1,c1,w1,A2,c2,by simp,hown,hbel,hown1,hbel1⟩
  ·exact x1jh
  ·intro done cv a wq hw h hJ;have e1:=mN 9 12 h hw;have e11:=mx_cv (i:=8) (t:=11) h (hw 8 (by decide)) rfl rfl;obtain⟨A1,c1,w1,A2,c2,y1,hown,hbel,hown1,hbel1⟩:=hJ;rw[y1]at e11;have hbl:=hbel.trans (hbel1.mono hbel.size);refine wp_srow e1 e11 (by go_simp) (by go_simp) (cs:=devA d L) ((rowOf_below HG.out hbl).trans HR.out) (by go_simp) ((frOf_below HG.out hbl).trans HF.out) (by go_simp) ⟨undef,rfl,A1,c1,w1,A2,c2,wq,hown,hbel,hown1,hbel1,?_⟩;rw[devA_splice_slots]
 intro cv w3' hJ;obtain⟨A1,c2,w1,A2,c3,w2,hown,hbel,hown1,hbel1,rfl⟩:=hJ;simp only[mixAll,putAll_some,putAll_none,putAll_nil,List.getElem?_cons_zero,List.getElem?_cons_succ,Nat.zero_add,Nat.reduceAdd,List.setIfInBounds_toArray,List.set_cons_zero,List.set_cons_succ];obtain⟨L2,hL1⟩:∃L2:DLoc,{L with a0:=A1,c0:=c2,a1:=A2,c1:=c3}=L2:=⟨_,rfl⟩;have hbl:=hbel.trans (hbel1.mono hbel.size);have hr1:rowOf w2 g=devA d L:=(rowOf_below HG.out hbl).trans HR.out;obtain⟨w3,hw1⟩:=eX (w2.setRow g (devA d {L with a0:=A1,c0:=c2,a1:=A2,c1:=c3}));rw[hw1];rw[hL1]at hw1;have HR1:Hid (rowOf w3 g=devA d L2):=qH (by rw[<-hw1,rowOf_setRow _ _ _ _ (by rw[hr1];simp[devA]),if_pos rfl]);have HF1:Hid (frOf w3 g=(0,0)):=qH (by rw[<-hw1,frOf_setRow];exact(frOf_below HG.out hbl).trans HF.out);have HRz1:Hid (rowOf w3 (g+1)=devA Dev.zero DLoc.zero):=qH (by rw[<-hw1,rowOf_setRow _ _ _ _ (by rw[hr1];simp[devA]),if_neg (by omega)];exact(rowOf_below (by rw[HSZ.out];omega) hbl).trans HRz.out);have HFz1:Hid (frOf w3 (g+1)=(0,0)):=qH (by rw[<-hw1,frOf_setRow];exact(frOf_below (by rw[HSZ.out];omega) hbl).trans HFz.out);have hs3:w3.heap.size=w2.heap.size:=by rw[<-hw1];simp[World.setRow]
 have hs1:=hbel.size;have hs2:=hbel1.size;have hsz:=HSZ.out;have HG1:Hid (g<w3.heap.size):=qH (by omega);have HGz:Hid (g+1<w3.heap.size):=qH (by omega);have HB2:Hid (Below g w w3):=qH (by rw[<-hw1];exact below_row (HB1.out.trans (hbl.mono (by omega))) nl _);have HIN1:Hid (Chs w3 L.ag d.got∧PatIn w3 d.job L.aj L.cj):=qH (by have hi:=HI.out.stays (HGE.out▸HB2.out);exact⟨hi.got,hi.job⟩);have HO2:Hid (Own w3 w7.heap.size 5 1 A1 d.s0.length c2 (d.s0.map bv)):=qH (by rw[<-hw1];exact own_fresh (hown.below hbel1) fun k h1 h2=>setRow_other _ _ _ _ (by omega));have HO1:Hid (Own w3 w1.heap.size 5 1 A2 d.s1.length c3 (d.s1.map bv)):=qH (by rw[<-hw1];exact own_fresh hown1 fun k h1 h2=>setRow_other _ _ _ _ (by omega));have HBK:Hid ((∀k,A1.map (·.block)=some k->k<w1.heap.size)∧(∀k,A2.map (·.block)=some k->k<w3.heap.size)∧w7.heap.size<=w1.heap.size∧w1.heap.size<=w3.heap.size):=qH ⟨fun k hk=>(hown.block k hk).2,fun k hk=>by have:=(hown1.block k hk).2;omega,hs1,by omega⟩;have HE:Hid (L2.ag=L.ag∧L2.cg=L.cg∧L2.aj=L.aj∧L2.cj=L.cj∧L2.a0=A1∧L2.c0=c2∧L2.a1=A2∧L2.c1=c3):=qH (by rw[<-hL1];exact⟨rfl,rfl,rfl,rfl,rfl,rfl,rfl,rfl⟩);have K2:Hid (∀wq,Below w3.heap.size w3 wq->Calls Tryz.prog 39 #[.slice L2.ag d.got.length L2.cg] wq (KrRet kChk wq d.got)):=qH (fun wq h=>chkCopy_calls _ _ _ wq HL.out.2.2 (by rw[HE.out.1];exact HIN1.out.1.stays h));have K3:Hid (∀wq,Below w3.heap.size w3 wq->Calls Tryz.prog 87 #[.agg (patA d.job.from_ d.job.to_ d.job.old d.job.new_ d.job.size L2.aj d.job.ops.length L2.cj)] wq (PcRet wq d.job)):=qH (fun wq h=>patCopy_calls _ _ _ wq (by rw[HE.out.2.2.1,HE.out.2.2.2.1];exact HIN1.out.2.stays h));clear hown hown1 hbel hbel1 hbl hr1 hw1 hL1 hs3 hs1 hs2 hsz K4 K1 HB1 HR HF HRz HFz;go_wp2_with fail;refine wp_region_mix (by kernel_rfl) (some 13::some 14::some 15::some 16::some 17::some 18::some 19::none::some 20::none::[]) (none::none::some 0::none::none::some 1::none::some 2::none::some 3::[]) (.pointer (some ⟨g,28,none⟩)::.slice L2.ag d.got.length L2.cg::undef::.pointer (some ⟨g,30,none⟩)::.agg (patA d.job.from_ d.job.to_ d.job.old d.job.new_ d.job.size L2.aj d.job.ops.length L2.cj)::undef::.pointer (some ⟨g,28,none⟩)::undef::.pointer (some ⟨g,30,none⟩)::undef::[]) 4 (dcK w3 g d L2) 22 rfl rfl (by decide+kernel) (by decide+kernel) (by decide+kernel) (by decide+kernel) rfl rfl (by decide+kernel) (by decide+kernel) (rfl) ?_ ?_
 ·refine⟨?_,?_,?_,?_,?_,?_,?_,?_,?_,?_,trivial⟩
  ·exact x1jh
  ·intro done cv k2 a wq hw h hJ hn;have e1:=mN 0 13 h hw;exact x81i
  ·intro done cv a wq hw h hJ;have e1:=mN 1 14 h hw;obtain rfl:wq=w3.drew:=hJ;refine wp_call (vals:=#[.slice L2.ag d.got.length L2.cg]) (by rw[List.map_toArray,List.map_cons,List.map_nil,ch_ev e1]) (enters_of Tryz.func39 (by kernel_rfl) rfl _ _) (K2.out _ ((Below.refl _ _).drew)) ?_;exact x60d
  ·exact x1jh
  ·intro done cv k2 a wq hw h hJ hn;have e1:=mN 3 16 h hw;exact x81i
  ·intro done cv a wq hw h hJ;have e1:=mN 4 17 h hw;obtain⟨A1,c1,ds,y1,hrow,heach,hbel⟩:=hJ;refine wp_call (vals:=#[.agg (patA d.job.from_ d.job.to_ d.job.old d.job.new_ d.job.size L2.aj d.job.ops.length L2.cj)]) (by rw[List.map_toArray,List.map_cons,List.map_nil,ch_ev e1]) (enters_of Tryz.func87 (by kernel_rfl) rfl _ _) (K3.out _ hbel) ?_;rintro e w' ⟨A2,c3,rfl,hfr,hbel1⟩;exact⟨_,rfl,_,rfl,A1,c1,ds,wq,A2,c3,by simpa using y1,by simp,hrow,heach,hbel,hfr,hbel1⟩
  ·exact x1jh
  ·intro done cv a wq hw h hJ;have e1:=mN 6 19 h hw;have e15:=mx_cv (i:=2) (t:=15) h (hw 2 (by decide)) rfl rfl;obtain⟨A1,c1,ds,w4,A2,c3,y1,y2,hrow,heach,hbel,hfr,hbel1⟩:=hJ;rw[y1]at e15;have hbl:=hbel.trans (hbel1.mono hbel.size);refine wp_ssc e1 e15 (cs:=devA d L2) ((rowOf_below HG1.out hbl).trans HR1.out) (by go_simp) ((frOf_below HG1.out hbl).trans HF1.out) ⟨undef,rfl,A1,c1,ds,w4,A2,c3,wq,by simpa using y2,hrow,heach,hbel,hfr,hbel1,?_⟩;rw[devA_set_got]
  ·exact x1jh
  ·intro done cv a wq hw h hJ;have e1:=mN 8 20 h hw;have e18:=mx_cv (i:=5) (t:=18) h (hw 5 (by decide)) rfl rfl;obtain⟨A1,c1,ds,w4,A2,c3,w5,y1,hrow,heach,hbel,hfr,hbel1,rfl⟩:=hJ;rw[y1]at e18;have hbl:=hbel.trans (hbel1.mono hbel.size);have hr1:rowOf w5 g=devA d L2:=(rowOf_below HG1.out hbl).trans HR1.out;have hf1:frOf w5 g=(0,0):=(frOf_below HG1.out hbl).trans HF1.out;refine wp_srow e1 e18 (by go_simp) (by go_simp) (cs:=devA d {L2 with ag:=A1,cg:=c1}) (by rw[rowOf_setRow _ _ _ _ (by rw[hr1];simp[devA]),if_pos rfl]) (by go_simp) (by rw[frOf_setRow];exact hf1) (by go_simp) ⟨undef,rfl,A1,c1,ds,w4,A2,c3,w5,hrow,heach,hbel,hfr,hbel1,?_⟩;rw[devA_splice_job,setRow_setRow]
 intro cv w6 hJ;obtain⟨A3,c1,ds,w4,A4,c4,w5,hrow,heach,hbel,hfr,hbel1,rfl⟩:=hJ;simp only[mixAll,putAll_some,putAll_none,putAll_nil,List.getElem?_cons_zero,List.getElem?_cons_succ,Nat.zero_add,Nat.reduceAdd,List.setIfInBounds_toArray,List.set_cons_zero,List.set_cons_succ];have hbl:=hbel.trans (hbel1.mono hbel.size);have hr1:rowOf w5 g=devA d L2:=(rowOf_below HG1.out hbl).trans HR1.out;have hf1:frOf w5 g=(0,0):=(frOf_below HG1.out hbl).trans HF1.out;have hrz1:rowOf w5 (g+1)=devA Dev.zero DLoc.zero:=(rowOf_below HGz.out hbl).trans HRz1.out;have hfz1:frOf w5 (g+1)=(0,0):=(frOf_below HGz.out hbl).trans HFz1.out;have HGR:=qH (hrow.fresh heach);have HFR:=qH hfr;have HB1:=qH hbel;have HB3:=qH hbel1;have HC1:=qH hrow.row.le;clear hrow heach hfr hbel hbel1 hbl;go_wp2_with fail;refine bodyPost_ret (results_c rfl rfl (cs:=devA d {L2 with ag:=A3,cg:=c1,aj:=A4,cj:=c4}) (by go_simp) (by go_simp) (by go_simp)) rfl ?_;have hsz:=HSZ.out;have hge:=HGE.out;have s1:=HB1.out.size;have s2:=HB3.out.size;have hbk:=HBK.out.2.2;refine⟨_,rfl,DvOwn.fresh (DvOwn.mono (base:=w7.heap.size) (dcEnd (.inr trivial) HL.out HI1.out HBD.out HO2.out HO1.out HBK.out HGR.out HFR.out HB1.out HB3.out HC1.out HE.out.2.2.2.2 ?_) (by omega)),?_⟩
 ·intro k hk;repeat (first|rfl|refine(setRow_other _ _ _ _ (by omega)).trans ?_)
 rw[hge];repeat (first|exact HB2.out.trans ((HB1.out.trans (HB3.out.mono s1)).mono (by omega))|refine bR ?_ _)
end Go.Proofs.YtefkfglkpebbmaaGreat
