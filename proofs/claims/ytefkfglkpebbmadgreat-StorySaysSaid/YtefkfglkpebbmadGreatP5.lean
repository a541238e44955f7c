/- Walks of functions, and plain words. No conditions. -/
import Derived.Test.YtefkfglkpebbmadGreatP4
set_option linter.unusedVariables false
set_option linter.unusedSimpArgs false
set_option maxRecDepth 100000
set_option maxHeartbeats 40000000
namespace Go.Proofs.YtefkfglkpebbmadGreat
open Go.RowKit
variable {Y:Prop}
variable {w0 w:World} {g k:Nat} {d:Dev} {cv:Nat->Value} {x:Wor} {l:List (Int×Int)}
theorem opsCopy_calls(A:OA)(c:Nat)(l:List Stp)(w:World)(hl:l.length<=3518437208780)(hs:Sps w A l):
  Calls Tryz.prog 92 #[.slice A l.length c] w (KrRet kOp w l):=by
 obtain⟨ds1,hg⟩:=hs.gsrc;have hbd:=hs.bound;have HBD:=qH hbd;have HG:=qH hg;have K1:=qH (cloneOps_calls A l.length c (kOp.cells l ds1) w (cells_len _ _ hg.len) (by omega) hg.row (cells_oneCell _ _));clear hs hg hbd;go_enter Tryz.func92,Tryz.ntmps92;go_wp2_with fail;refine K1.out.mono ?_;rintro e w1 ⟨A1,c1,rfl,hown,hb1⟩;have hrow:GRow kOp w1 w.heap.size l ds1 A1 c1:=⟨HG.out.len,hown,(HG.out.stays hb1).data,fun i o d h1 h2 hx k hk e=>by
  have:=HG.out.each i o d h1 h2 hx k hk;have:=(hown.block k e).1;omega⟩
 have HR1:=qH hrow;have HB1:Hid (Below w.heap.size w w1):=qH hb1;clear hown hb1 hrow K1;go_wp2_with fail;go_loopw [9] (fun i wr=>∃(k:Nat) (ds:List (Option Addr×Nat)),k<=l.length∧i=iv k∧Hid (GRow kOp wr w.heap.size l ds A1 c1)∧Hid (∀(j:Nat) (o:Stp) (d:Option Addr×Nat),j<k->l[j]?=some o->ds[j]?=some d->kOp.dat o≠[]->∀q,d.1.map (·.block)=some q->w.heap.size<=q)∧Hid (Below w.heap.size w wr)) (fun i _=>l.length-(intOf i).toNat)
 case atStart=>exact⟨0,ds1,Nat.zero_le _,rfl,HR1,qH (fun j o d h=>by omega),HB1⟩
 case round=>
  clear HR1 HB1;rename World=>wr;obtain⟨k,ds,hk,rfl,HR,HN,HB⟩:=hrel;have hsz:=HB.out.size;by_cases hlt:k<l.length
  ·obtain⟨g,rfl,hg1,hg2⟩:=HR.out.row.form (by omega);have hlk:l[k]?=some l[k]:=List.getElem?_eq_getElem hlt;have hdk:ds[k]?=some (ds[k]'(by have:=HR.out.len;omega)):=List.getElem?_eq_getElem _;obtain⟨x,hx⟩:=eX (l[k]);obtain⟨e,he⟩:=eX (ds[k]'(by have:=HR.out.len;omega));rw[hx]at hlk;rw[he]at hdk;have hcell:∀j,j<3->wr.cell? ⟨g,k*3+j,none⟩=(kOp.cell x e)[j]?:=fun j hj=>by
    rw[HR.out.row.cellAt _ (show k*3+j<l.length*3 by omega)];exact cells_at (K:=kOp) l ds HR.out.len k j x e hlk hdk hj
   have q3:wr.cell? ⟨g,k*3,none⟩=some (iv x.at_):=hcell 0 (by decide);have q1:wr.cell? ⟨g,k*3+1,none⟩=some (iv x.len):=hcell 1 (by decide);have q2:wr.cell? ⟨g,k*3+2,none⟩=some (.slice e.1 x.data.length e.2):=hcell 2 (by decide);obtain⟨hd1,hd2⟩:=HR.out.data k x e hlk hdk;have hxl:x.data.length<=140737488351232:=(HBD.out x (List.mem_of_getElem? hlk)).2.2;have HD1:Hid (Bts wr e.1 x.data):=qH hd1;have HLK:=qH hlk;have HDK:=qH hdk;have K1:=qH (fun w h=>cloneBytes_calls e.1 x.data.length e.2 (x.data.map bv) w (by simp) (by omega) h (bv_one _));have hfr:wr.frozen? ⟨g,k*3+2,none⟩=false:=HR.out.row.frozenAt _;have dl:decide ((k:Int)<(l.length:Int))=true:=decide_eq_true (by omega);have hwk:IntKind.i64.wrap ((k:Int)+1)=(k:Int)+1:=IntWalk.i64_in _ (by omega);have hcap:(l.length:Int)<=(c1:Int):=by have:=HR.out.row.le;omega
   clear hcell hx he hlk hdk hd1 hd2;go_wp2_with fail;have hba:=(bW wr).alloc nl (.cells (#[iv x.at_,iv x.len,.slice e.1 x.data.length e.2]) 122);refine(K1.out _ (HD1.out.stays hba).src).mono ?_;rintro en w2 ⟨B,d,rfl,hob,hb1⟩;have hb2:=hba.trans (hb1.mono (by simp));have HR1:=qH (HR.out.below hb2);have hq1:w2.cell? ⟨g,k*3+2,none⟩=some (.slice e.1 x.data.length e.2):=(hb2.cell (p:=⟨g,k*3+2,none⟩) hg2).trans q2;have hf1:w2.frozen? ⟨g,k*3+2,none⟩=false:=(hb2.frozen (p:=⟨g,k*3+2,none⟩) hg2).trans hfr;have HBB:Hid (Below w.heap.size w (w2.setCell ⟨g,k*3+2,none⟩ (.slice B x.data.length d))):=qH ((HB.out.trans (hb2.mono hsz)).setCell (p:=⟨g,k*3+2,none⟩) hg1 _);have hgw:∀q,B.map (·.block)=some q->wr.heap.size+1<=q:=fun q h=>by have:=(hob.block q h).1;simpa using this
   have HR2:Hid (GRow kOp (w2.setCell ⟨g,k*3+2,none⟩ (.slice B x.data.length d)) w.heap.size l (ds.set k (B,d)) (some ⟨g,0,none⟩) c1):=qH (HR1.out.setData (e:=(B,d)) HLK.out hob.src.bts (by show x.data.length<=d;simpa using hob.le) (fun _ q h e2=>by have:=hgw q h;omega));have HN1:Hid (∀(j:Nat) (o:Stp) (d':Option Addr×Nat),j<k+1->l[j]?=some o->(ds.set k (B,d))[j]?=some d'->kOp.dat o≠[]->∀q,d'.1.map (·.block)=some q->w.heap.size<=q):=qH (fun j o d' hj h1 h2 hx q hq=>by
    exact x9r5)
   have a1:=kp (wr.heap.size) (#[iv x.at_,iv x.len,.slice e.1 x.data.length e.2]) hb1;clear hob hb1 hb2 hba q3 q1 q2 hfr hgw a1;exact x6bz
  exact x6wy
def PcRet(w:World)(p:Pat):Ending->World->Prop:=fun en w'=>
 ∃A c,en=.returned (.agg (patA p.from_ p.to_ p.old p.new_ p.size A p.ops.length c))∧Fresh w.heap.size w' (fun v=>PatIn v p A c)∧Below w.heap.size w w'
theorem patCopy_calls(B:OA)(d:Nat)(p:Pat)(w:World)(hp:PatIn w p B d):
  Calls Tryz.prog 70 #[.agg (patA p.from_ p.to_ p.old p.new_ p.size B p.ops.length d)] w (PcRet w p):=by
 obtain⟨f,t,o,n,sz,l⟩:=p;obtain⟨hcap,hlen,hops,j5,j1,j2,j3,j4⟩:=hp;dsimp only at *
 have hba:=((bW w).alloc nl (.cells (patA f t o n sz B l.length d) 36)).alloc (by simp) (.cells (patA 0 0 0 0 0 none 0 0) 36);have HBD:=qH hops.bound;have HS:=qH hops;have HI:Hid (I64 f∧I64 t∧I64 o∧I64 n∧I64 sz):=qH ⟨j5,j1,j2,j3,j4⟩;have HBA:=qH hba;clear hops hba j5 j1 j2 j3 j4;go_enter Tryz.func70,Tryz.ntmps70;go_wp2_with fail;refine(opsCopy_calls B d l _ hlen (HS.out.stays HBA.out)).mono ?_;rintro e w1 ⟨A1,c1,ds,rfl,hg,he,hb1⟩;have a2:=kp (w.heap.size) (patA f t o n sz B l.length d) hb1;have a1:=kp (w.heap.size+1) (patA 0 0 0 0 0 none 0 0) hb1;have HB1:=bT HBA hb1;have hfr:=hg.fresh he;have HF:Hid (Fresh (w.heap.size+2) w1 (fun v=>GRow kOp v (w.heap.size+2) l ds A1 c1)):=qH (by simpa using hfr);have HC:=qH hg.row.le;clear hb1 hg he hfr;go_wp2_with fail;refine bodyPost_ret (results_c rfl rfl (cs:=patA f t o n sz A1 l.length c1) (by go_simp) (by go_simp) (by go_simp)) rfl ?_;refine⟨A1,c1,rfl,?_,?_⟩
 ·refine Fresh.imp (P:=fun v=>GRow kOp v (w.heap.size+2) l ds A1 c1) (Fresh.mono (base:=w.heap.size+2) ?_ (by omega)) (fun v hv=>⟨HC.out,hlen,hv.src.sps HBD.out,HI.out.1,HI.out.2.1,HI.out.2.2.1,HI.out.2.2.2.1,HI.out.2.2.2.2⟩);repeat (first|exact HF.out|refine Fresh.row ?_ (by omega) _|refine Fresh.cell ?_ (by simp) _)
 exact bZ HB1
theorem chkCopy_calls(A:OA)(c:Nat)(l:List Chk)(w:World)(hl:l.length<=2513169434843)(hs:Chs w A l):
  Calls Tryz.prog 69 #[.slice A l.length c] w (KrRet kChk w l):=by
 obtain⟨ds1,hg⟩:=hs.gsrc;have hbd:=hs.bound;have HBD:=qH hbd;have HG:=qH hg;have K1:=qH (cloneChunks_calls A l.length c (kChk.cells l ds1) w (cells_len _ _ hg.len) (by omega) hg.row (cells_oneCell _ _));clear hs hg hbd;go_enter Tryz.func69,Tryz.ntmps69;go_wp2_with fail;refine K1.out.mono ?_;rintro e w1 ⟨A1,c1,rfl,hown,hb1⟩;have hrow:GRow kChk w1 w.heap.size l ds1 A1 c1:=⟨HG.out.len,hown,(HG.out.stays hb1).data,fun i o d h1 h2 hx k hk e=>by
  have:=HG.out.each i o d h1 h2 hx k hk;have:=(hown.block k e).1;omega⟩
 have HR1:=qH hrow;have HB1:Hid (Below w.heap.size w w1):=qH hb1;clear hown hb1 hrow K1;go_wp2_with fail;go_loopw [9] (fun i wr=>∃(k:Nat) (ds:List (Option Addr×Nat)),k<=l.length∧i=iv k∧Hid (GRow kChk wr w.heap.size l ds A1 c1)∧Hid (∀(j:Nat) (o:Chk) (d:Option Addr×Nat),j<k->l[j]?=some o->ds[j]?=some d->kChk.dat o≠[]->∀q,d.1.map (·.block)=some q->w.heap.size<=q)∧Hid (Below w.heap.size w wr)) (fun i _=>l.length-(intOf i).toNat)
 case atStart=>exact⟨0,ds1,Nat.zero_le _,rfl,HR1,qH (fun j o d h=>by omega),HB1⟩
 case round=>
  clear HR1 HB1;rename World=>wr;obtain⟨k,ds,hk,rfl,HR,HN,HB⟩:=hrel;have hsz:=HB.out.size;by_cases hlt:k<l.length
  ·obtain⟨g,rfl,hg1,hg2⟩:=HR.out.row.form (by omega);have hlk:l[k]?=some l[k]:=List.getElem?_eq_getElem hlt;have hdk:ds[k]?=some (ds[k]'(by have:=HR.out.len;omega)):=List.getElem?_eq_getElem _;obtain⟨x,hx⟩:=eX (l[k]);obtain⟨e,he⟩:=eX (ds[k]'(by have:=HR.out.len;omega));rw[hx]at hlk;rw[he]at hdk;have hcell:∀j,j<5->wr.cell? ⟨g,k*5+j,none⟩=(kChk.cell x e)[j]?:=fun j hj=>by
    rw[HR.out.row.cellAt _ (show k*5+j<l.length*5 by omega)];exact cells_at (K:=kChk) l ds HR.out.len k j x e hlk hdk hj
   have q5:wr.cell? ⟨g,k*5,none⟩=some (iv x.from_):=hcell 0 (by decide);have q1:wr.cell? ⟨g,k*5+1,none⟩=some (iv x.to_):=hcell 1 (by decide);have q2:wr.cell? ⟨g,k*5+2,none⟩=some (iv x.n):=hcell 2 (by decide);have q3:wr.cell? ⟨g,k*5+3,none⟩=some (iv x.of_):=hcell 3 (by decide);have q4:wr.cell? ⟨g,k*5+4,none⟩=some (.slice e.1 x.data.length e.2):=hcell 4 (by decide);obtain⟨hd1,hd2⟩:=HR.out.data k x e hlk hdk;have hxl:x.data.length<=140737488351232:=(HBD.out x (List.mem_of_getElem? hlk)).1;have HD1:Hid (Bts wr e.1 x.data):=qH hd1;have HLK:=qH hlk;have HDK:=qH hdk;have K1:=qH (fun w h=>cloneBytes_calls e.1 x.data.length e.2 (x.data.map bv) w (by simp) (by omega) h (bv_one _));have hfr:wr.frozen? ⟨g,k*5+4,none⟩=false:=HR.out.row.frozenAt _;have dl:decide ((k:Int)<(l.length:Int))=true:=decide_eq_true (by omega);have hwk:IntKind.i64.wrap ((k:Int)+1)=(k:Int)+1:=IntWalk.i64_in _ (by omega);have hcap:(l.length:Int)<=(c1:Int):=by have:=HR.out.row.le;omega
   clear hcell hx he hlk hdk hd1 hd2;go_wp2_with fail;have hba:=(bW wr).alloc nl (.cells (chkA x.from_ x.to_ x.n x.of_ e.1 x.data.length e.2) 56);refine(K1.out _ (HD1.out.stays hba).src).mono ?_;rintro en w1 ⟨B,d,rfl,hob,hb1⟩;have hb2:=hba.trans (hb1.mono (by simp));have HR1:=qH (HR.out.below hb2);have hq1:w1.cell? ⟨g,k*5+4,none⟩=some (.slice e.1 x.data.length e.2):=(hb2.cell (p:=⟨g,k*5+4,none⟩) hg2).trans q4;have hf1:w1.frozen? ⟨g,k*5+4,none⟩=false:=(hb2.frozen (p:=⟨g,k*5+4,none⟩) hg2).trans hfr;have HBB:Hid (Below w.heap.size w (w1.setCell ⟨g,k*5+4,none⟩ (.slice B x.data.length d))):=qH ((HB.out.trans (hb2.mono hsz)).setCell (p:=⟨g,k*5+4,none⟩) hg1 _);have hgw:∀q,B.map (·.block)=some q->wr.heap.size+1<=q:=fun q h=>by have:=(hob.block q h).1;simpa using this
   have HR1:Hid (GRow kChk (w1.setCell ⟨g,k*5+4,none⟩ (.slice B x.data.length d)) w.heap.size l (ds.set k (B,d)) (some ⟨g,0,none⟩) c1):=qH (HR1.out.setData (e:=(B,d)) HLK.out hob.src.bts (by show x.data.length<=d;simpa using hob.le) (fun _ q h e2=>by have:=hgw q h;omega));have HN1:Hid (∀(j:Nat) (o:Chk) (d':Option Addr×Nat),j<k+1->l[j]?=some o->(ds.set k (B,d))[j]?=some d'->kChk.dat o≠[]->∀q,d'.1.map (·.block)=some q->w.heap.size<=q):=qH (fun j o d' hj h1 h2 hx q hq=>by
    exact x9r5)
   have a1:=kp (wr.heap.size) (chkA x.from_ x.to_ x.n x.of_ e.1 x.data.length e.2) hb1;clear hob hb1 hb2 hba q5 q1 q2 q3 q4 hfr hgw a1;go_wp2_with fail;go_roundw
   case rel=>exact⟨k+1,ds.set k (B,d),by omega,by go_num,HR1,HN1,HBB⟩
   case measure=>simp[intOf];omega
  exact x6wy
theorem x5ed(h:Y:=by
 have hk:=hn 10 _ 3 rfl rfl (by decide);obtain⟨hr,hf⟩:=dcJ_row hk HR.out HF.out hJ;have hc:=cell_row (w:=wq) (g:=g) (by rw[hr];simp[devA]);go_simp):Y:=h
theorem x81i(h:Y:=by
 have hk:=hn 7 _ 2 rfl rfl (by decide);obtain⟨hr,hf⟩:=dcK_row hk HR1.out HF1.out HG1.out hJ;have hc:=cell_row (w:=wq) (g:=g) (by rw[hr];simp[devA]);go_simp):Y:=h
def dcJ(w0:World)(g:Nat)(d:Dev)(L:DLoc):Nat->(Nat->Value)->World->Prop
 |0,_,w=>w=w0.drew
 |1,cv,w=>∃A5 c5,cv 3=.slice A5 d.s0.length c5∧Own w w0.heap.size 5 1 A5 d.s0.length c5 (d.s0.map bv)∧Below w0.heap.size w0 w
 |2,cv,w=>∃A5 c5 w1 A6 c6,cv 3=.slice A5 d.s0.length c5∧Own w1 w0.heap.size 5 1 A5 d.s0.length c5 (d.s0.map bv)∧Below w0.heap.size w0 w1∧cv 7=.slice A6 d.s1.length c6∧Own w w1.heap.size 5 1 A6 d.s1.length c6 (d.s1.map bv)∧Below w1.heap.size w1 w
 |3,cv,w=>∃A5 c5 w1 A6 c6,cv 8=.agg (slotsA A5 d.s0.length c5 A6 d.s1.length c6)∧Own w1 w0.heap.size 5 1 A5 d.s0.length c5 (d.s0.map bv)∧Below w0.heap.size w0 w1∧Own w w1.heap.size 5 1 A6 d.s1.length c6 (d.s1.map bv)∧Below w1.heap.size w1 w
 |_,_,w=>∃A5 c5 w1 A6 c6 w2,Own w1 w0.heap.size 5 1 A5 d.s0.length c5 (d.s0.map bv)∧Below w0.heap.size w0 w1∧Own w2 w1.heap.size 5 1 A6 d.s1.length c6 (d.s1.map bv)∧Below w1.heap.size w1 w2∧w=w2.setRow g (devA d {L with a0:=A5,c0:=c5,a1:=A6,c1:=c6})
theorem dcJ_row{L:DLoc}(hk:k<=3)(hr:rowOf w0 g=devA d L)(hf:frOf w0 g=(0,0))(hJ:dcJ w0 g d L k cv w):rowOf w g=devA d L∧frOf w g=(0,0):=by
 have hg:g<w0.heap.size:=row_lt (w:=w0) (by rw[hr];simp[devA]);have key:Below w0.heap.size w0 w->rowOf w g=devA d L∧frOf w g=(0,0):=fun hb=>⟨(rowOf_below hg hb).trans hr,(frOf_below hg hb).trans hf⟩
 match k,hk,hJ with
 |0,_,hJ=>obtain rfl:w=w0.drew:=hJ;exact key (Below.refl _ _).drew
 |1,_,⟨_,_,_,_,h⟩=>exact key h
 |2,_,⟨_,_,w1,_,_,_,_,h,_,_,h2⟩=>exact key (h.trans (h2.mono h.size))
 |3,_,⟨_,_,w1,_,_,_,_,h,_,h2⟩=>exact key (h.trans (h2.mono h.size))
def dcK(w0:World)(g:Nat)(d:Dev)(L:DLoc):Nat->(Nat->Value)->World->Prop
 |0,_,w=>w=w0.drew
 |1,cv,w=>∃A5 c5 ds,cv 2=.slice A5 d.got.length c5∧GRow kChk w w0.heap.size d.got ds A5 c5∧Each kChk d.got ds (fun k=>w0.heap.size<=k)∧Below w0.heap.size w0 w
 |2,cv,w=>∃A5 c5 ds w4 A6 c6,cv 2=.slice A5 d.got.length c5∧cv 5=.agg (patA d.job.from_ d.job.to_ d.job.old d.job.new_ d.job.size A6 d.job.ops.length c6)∧GRow kChk w4 w0.heap.size d.got ds A5 c5∧Each kChk d.got ds (fun k=>w0.heap.size<=k)∧Below w0.heap.size w0 w4∧
  Fresh w4.heap.size w (fun v=>PatIn v d.job A6 c6)∧Below w4.heap.size w4 w
 |3,cv,w=>∃A5 c5 ds w4 A6 c6 w5,cv 5=.agg (patA d.job.from_ d.job.to_ d.job.old d.job.new_ d.job.size A6 d.job.ops.length c6)∧GRow kChk w4 w0.heap.size d.got ds A5 c5∧Each kChk d.got ds (fun k=>w0.heap.size<=k)∧Below w0.heap.size w0 w4∧
  Fresh w4.heap.size w5 (fun v=>PatIn v d.job A6 c6)∧Below w4.heap.size w4 w5∧w=w5.setRow g (devA d {L with ag:=A5,cg:=c5})
 |_,_,w=>∃A5 c5 ds w4 A6 c6 w5,GRow kChk w4 w0.heap.size d.got ds A5 c5∧Each kChk d.got ds (fun k=>w0.heap.size<=k)∧Below w0.heap.size w0 w4∧
  Fresh w4.heap.size w5 (fun v=>PatIn v d.job A6 c6)∧Below w4.heap.size w4 w5∧w=w5.setRow g (devA d {L with ag:=A5,cg:=c5,aj:=A6,cj:=c6})
theorem dcK_row{L:DLoc}(hk:k<=2)(hr:rowOf w0 g=devA d L)(hf:frOf w0 g=(0,0))(hg:g<w0.heap.size)(hJ:dcK w0 g d L k cv w):rowOf w g=devA d L∧frOf w g=(0,0):=by
 have key:Below w0.heap.size w0 w->rowOf w g=devA d L∧frOf w g=(0,0):=fun hb=>⟨(rowOf_below hg hb).trans hr,(frOf_below hg hb).trans hf⟩
 match k,hk,hJ with
 |0,_,hJ=>obtain rfl:w=w0.drew:=hJ;exact key (Below.refl _ _).drew
 |1,_,⟨_,_,_,_,_,_,h⟩=>exact key h
 |2,_,⟨_,_,_,w1,_,_,_,_,_,_,h,_,h2⟩=>exact key (h.trans (h2.mono h.size))
theorem dcEnd{w1 w3 w4 w5 w':World}{L2:DLoc}{A5 A6 A7 A8:OA}{c5 c6 c7 c8:Nat}{ds:List (Option Addr×Nat)}(HIN:DevIn w0 d L2∨True)
  (hl:d.s0.length<=140737488351232∧d.s1.length<=140737488351232∧d.got.length<=2513169434843) (hi:I64 d.running∧I64 d.done) (hbd:∀x∈d.got,ChkB x)
  (h0:Own w3 w0.heap.size 5 1 A5 d.s0.length c5 (d.s0.map bv)) (h1:Own w3 w1.heap.size 5 1 A6 d.s1.length c6 (d.s1.map bv))
  (hbk:(∀k,A5.map (·.block)=some k->k<w1.heap.size)∧(∀k,A6.map (·.block)=some k->k<w3.heap.size)∧w0.heap.size<=w1.heap.size∧w1.heap.size<=w3.heap.size)
  (hg:Fresh w3.heap.size w4 (fun v=>GRow kChk v w3.heap.size d.got ds A7 c7)) (hf:Fresh w4.heap.size w5 (fun v=>PatIn v d.job A8 c8)) (b4:Below w3.heap.size w3 w4) (b5:Below w4.heap.size w4 w5) (hc:d.got.length<=c7)
  (he:L2.a0=A5∧L2.c0=c5∧L2.a1=A6∧L2.c1=c6) (hw:∀k,w0.heap.size<=k->w'.heap[k]?=w5.heap[k]?):DvOwn w' w0.heap.size d {L2 with ag:=A7,cg:=c7,aj:=A8,cj:=c8}:=by
 obtain⟨e1,e2,e3,e4⟩:=he;have s1:=b4.size;have hk:∀k,w0.heap.size<=k->k<w3.heap.size->w'.heap[k]?=w3.heap[k]?:=fun k h1 h2=>(hw k h1).trans (((b5.block k (by omega))).trans (b4.block k h2));refine⟨w1.heap.size,w3.heap.size,hbk.2.2.1,hbk.2.2.2,?_,?_,?_,?_,?_,?_,hl.1,hl.2.1,hc,hl.2.2,hi.1,hi.2⟩
 ·show Own w' _ _ _ L2.a0 _ L2.c0 _;rw[e1,e2];exact own_fresh h0 hk
 ·show ∀k,L2.a0.map (·.block)=some k->_;rw[e1];exact hbk.1
 ·show Own w' _ _ _ L2.a1 _ L2.c1 _;rw[e3,e4];exact own_fresh h1 (fun k h=>hk k (by have:=hbk.2.2.1;omega))
 ·show ∀k,L2.a1.map (·.block)=some k->_;rw[e3];exact hbk.2.1
 ·have g1:Fresh w3.heap.size w5 (fun v=>GRow kChk v w3.heap.size d.got ds A7 c7):=hg.below b5 nl;exact(g1.fresh (fun k h1 h2=>hw k (by have:=hbk.2.2;omega))).imp fun v hv=>hv.src.chs hbd
 exact(hf.mono s1).fresh (fun k h1 h2=>hw k (by have:=hbk.2.2;omega))
@[go_sem] theorem build_slots(a:OA)(k c:Nat)(b:OA)(m e:Nat)(w:World):runBuild Tryz.prog 24 #[(0,.slice a k c),(1,.slice b m e)] w=.ok (.agg (slotsA a k c b m e)) w:=by kernel_rfl
theorem devCopy_calls(d:Dev)(L:DLoc)(w:World)(h:DevIn w d L):Calls Tryz.prog 41 #[.agg (devA d L)] w (DcRet w d):=by
 have HI:=qH h;have HL:Hid (d.s0.length<=140737488351232∧d.s1.length<=140737488351232∧d.got.length<=2513169434843):=qH ⟨h.l0,h.l1,h.lg⟩;have HI1:Hid (I64 d.running∧I64 d.done):=qH ⟨h.ir,h.id⟩;have HBD:Hid (∀x∈d.got,ChkB x):=qH h.got.bound;clear h;go_enter Tryz.func41,Tryz.ntmps41;go_wp2_with fail;have q1:rowOf ((w.alloc (.cells (devA d L) 38)).alloc (.cells (devA Dev.zero DLoc.zero) 38)) w.heap.size=devA d L:=by go_simp
 have q2:frOf ((w.alloc (.cells (devA d L) 38)).alloc (.cells (devA Dev.zero DLoc.zero) 38)) w.heap.size=(0,0):=by go_simp
 have q3:rowOf ((w.alloc (.cells (devA d L) 38)).alloc (.cells (devA Dev.zero DLoc.zero) 38)) (w.heap.size+1)=devA Dev.zero DLoc.zero:=by go_simp
 have q4:frOf ((w.alloc (.cells (devA d L) 38)).alloc (.cells (devA Dev.zero DLoc.zero) 38)) (w.heap.size+1)=(0,0):=by go_simp
 obtain⟨w7,hw1⟩:=eX ((w.alloc (.cells (devA d L) 38)).alloc (.cells (devA Dev.zero DLoc.zero) 38));have HB1:Hid (Below w.heap.size w w7):=qH (by rw[<-hw1];exact(bL _).alloc (by simp) _);obtain⟨g,hg⟩:=eX (w.heap.size);rw[hw1,hg]at q1 q2 q3 q4;have HR:=qH q1;have HF:=qH q2;have HRz:=qH q3;have HFz:=qH q4;have HSZ:Hid (w7.heap.size=g+2):=qH (by rw[<-hw1,<-hg];simp);have HG:Hid (g<w7.heap.size):=qH (by rw[HSZ.out];omega);rw[hw1];rw[hg]at HB1⊢;have HGE:=qH hg;clear hw1 hg q1 q2 q3 q4;have HIN:Hid (DevIn w7 d L):=qH (HI.out.stays (HGE.out▸HB1.out));have K4:Hid (∀wq,Below w7.heap.size w7 wq->Calls Tryz.prog 13 #[.slice L.a0 d.s0.length L.c0] wq (SlRet wq 5 1 d.s0.length (d.s0.map bv))):=qH (fun wq h=>cloneBytes_calls _ _ _ _ wq (by simp) (by have:=HL.out.1;omega) (HIN.out.b0.stays h).src (bv_one _));have K1:Hid (∀wq,Below w7.heap.size w7 wq->Calls Tryz.prog 13 #[.slice L.a1 d.s1.length L.c1] wq (SlRet wq 5 1 d.s1.length (d.s1.map bv))):=qH (fun wq h=>cloneBytes_calls _ _ _ _ wq (by simp) (by have:=HL.out.2.1;omega) (HIN.out.b1.stays h).src (bv_one _));refine wp_region_mix (by kernel_rfl) (some 3::some 4::some 5::some 6::some 7::some 8::some 9::some 10::some 11::some 12::none::[]) (none::none::none::some 0::none::none::none::some 1::some 2::none::some 3::[]) (.pointer (some ⟨g,0,none⟩)::.pointer (some ⟨g,0,none⟩)::.slice L.a0 d.s0.length L.c0::undef::.pointer (some ⟨g,0,none⟩)::.pointer (some ⟨g,1,none⟩)::.slice L.a1 d.s1.length L.c1::undef::undef::.pointer (some ⟨g,0,none⟩)::undef::[]) 4 (dcJ w7 g d L) 22 rfl rfl (by decide+kernel) (by decide+kernel) (by decide+kernel) (by decide+kernel) rfl rfl (by decide+kernel) (by decide+kernel) (rfl) ?_ ?_
 ·refine⟨?_,?_,?_,?_,?_,?_,?_,?_,?_,?_,?_,trivial⟩
  ·exact x9ik
  ·intro done cv k2 a wq hw h hJ hn;have e1:=mN 0 3 h hw;go_simp
  ·intro done cv k1 a wq hw h hJ hn;have e1:=mN 1 4 h hw;exact x5ed
  ·intro done cv a wq hw h hJ;have e1:=mN 2 5 h hw;obtain rfl:wq=w7.drew:=hJ;refine wp_call (vals:=#[.slice L.a0 d.s0.length L.c0]) (by rw[List.map_toArray,List.map_cons,List.map_nil,ch_ev e1]) (enters_of Tryz.func13 (by kernel_rfl) rfl _ _) (K4.out _ ((Below.refl _ _).drew)) ?_;rintro e w' ⟨A1,c1,rfl,hown,hbel⟩;exact⟨_,rfl,_,rfl,A1,c1,by simp,hown,(Below.refl _ _).drew.trans hbel⟩
  ·exact x9ik
  ·intro done cv k2 a wq hw h hJ hn;have e1:=mN 4 7 h hw;go_simp
  ·intro done cv k1 a wq hw h hJ hn;have e1:=mN 5 8 h hw;exact x5ed
  ·intro done cv a wq hw h hJ;have e1:=mN 6 9 h hw;obtain⟨A1,c2,y1,hown,hbel⟩:=hJ;refine wp_call (vals:=#[.slice L.a1 d.s1.length L.c1]) (by rw[List.map_toArray,List.map_cons,List.map_nil,ch_ev e1]) (enters_of Tryz.func13 (by kernel_rfl) rfl _ _) (K1.out _ hbel) ?_;rintro e w' ⟨A2,c1,rfl,hown1,hbel1⟩;exact⟨_,rfl,_,rfl,A1,c2,wq,A2,c1,by simpa using y1,hown,hbel,by simp,hown1,hbel1⟩
  ·intro done cv a wq hw h hJ;have e1:=mx_cv (i:=3) (t:=6) h (hw 3 (by decide)) rfl rfl;have e10:=mx_cv (i:=7) (t:=10) h (hw 7 (by decide)) rfl rfl;obtain⟨A1,c1,w1,A2,c2,y1,hown,hbel,y2,hown1,hbel1⟩:=hJ;rw[y1]at e1;rw[y2]at e10;refine wp_val (v:=.agg (slotsA A1 d.s0.length c1 A2 d.s1.length c2)) (by go_simp) ⟨_,rfl,A1,c1,w1,A2,c2,by simp,hown,hbel,hown1,hbel1⟩
  ·exact x9ik
  ·intro done cv a wq hw h hJ;have e1:=mN 9 12 h hw;have e11:=mx_cv (i:=8) (t:=11) h (hw 8 (by decide)) rfl rfl;obtain⟨A1,c1,w1,A2,c2,y1,hown,hbel,hown1,hbel1⟩:=hJ;rw[y1]at e11;have hbl:=hbel.trans (hbel1.mono hbel.size);refine wp_srow e1 e11 (by go_simp) (by go_simp) (cs:=devA d L) ((rowOf_below HG.out hbl).trans HR.out) (by go_simp) ((frOf_below HG.out hbl).trans HF.out) (by go_simp) ⟨undef,rfl,A1,c1,w1,A2,c2,wq,hown,hbel,hown1,hbel1,?_⟩;rw[devA_splice_slots]
 intro cv w3' hJ;obtain⟨A1,c2,w1,A2,c3,w2,hown,hbel,hown1,hbel1,rfl⟩:=hJ;simp only[mixAll,putAll_some,putAll_none,putAll_nil,List.getElem?_cons_zero,List.getElem?_cons_succ,Nat.zero_add,Nat.reduceAdd,List.setIfInBounds_toArray,List.set_cons_zero,List.set_cons_succ];obtain⟨L2,hL1⟩:∃L2:DLoc,{L with a0:=A1,c0:=c2,a1:=A2,c1:=c3}=L2:=⟨_,rfl⟩;have hbl:=hbel.trans (hbel1.mono hbel.size);have hr1:rowOf w2 g=devA d L:=(rowOf_below HG.out hbl).trans HR.out;obtain⟨w3,hw1⟩:=eX (w2.setRow g (devA d {L with a0:=A1,c0:=c2,a1:=A2,c1:=c3}));rw[hw1];rw[hL1]at hw1;have HR1:Hid (rowOf w3 g=devA d L2):=qH (by rw[<-hw1,rowOf_setRow _ _ _ _ (by rw[hr1];simp[devA]),if_pos rfl]);have HF1:Hid (frOf w3 g=(0,0)):=qH (by rw[<-hw1,frOf_setRow];exact(frOf_below HG.out hbl).trans HF.out);have HRz1:Hid (rowOf w3 (g+1)=devA Dev.zero DLoc.zero):=qH (by rw[<-hw1,rowOf_setRow _ _ _ _ (by rw[hr1];simp[devA]),if_neg (by omega)];exact(rowOf_below (by rw[HSZ.out];omega) hbl).trans HRz.out);have HFz1:Hid (frOf w3 (g+1)=(0,0)):=qH (by rw[<-hw1,frOf_setRow];exact(frOf_below (by rw[HSZ.out];omega) hbl).trans HFz.out);have hs3:w3.heap.size=w2.heap.size:=by rw[<-hw1];simp[World.setRow]
 have hs1:=hbel.size;have hs2:=hbel1.size;have hsz:=HSZ.out;have HG1:Hid (g<w3.heap.size):=qH (by omega);have HGz:Hid (g+1<w3.heap.size):=qH (by omega);have HB2:Hid (Below g w w3):=qH (by rw[<-hw1];exact below_row (HB1.out.trans (hbl.mono (by omega))) nl _);have HIN1:Hid (Chs w3 L.ag d.got∧PatIn w3 d.job L.aj L.cj):=qH (by have hi:=HI.out.stays (HGE.out▸HB2.out);exact⟨hi.got,hi.job⟩);have HO2:Hid (Own w3 w7.heap.size 5 1 A1 d.s0.length c2 (d.s0.map bv)):=qH (by rw[<-hw1];exact own_fresh (hown.below hbel1) fun k h1 h2=>setRow_other _ _ _ _ (by omega));have HO1:Hid (Own w3 w1.heap.size 5 1 A2 d.s1.length c3 (d.s1.map bv)):=qH (by rw[<-hw1];exact own_fresh hown1 fun k h1 h2=>setRow_other _ _ _ _ (by omega));have HBK:Hid ((∀k,A1.map (·.block)=some k->k<w1.heap.size)∧(∀k,A2.map (·.block)=some k->k<w3.heap.size)∧w7.heap.size<=w1.heap.size∧w1.heap.size<=w3.heap.size):=qH ⟨fun k hk=>(hown.block k hk).2,fun k hk=>by have:=(hown1.block k hk).2;omega,hs1,by omega⟩;have HE:Hid (L2.ag=L.ag∧L2.cg=L.cg∧L2.aj=L.aj∧L2.cj=L.cj∧L2.a0=A1∧L2.c0=c2∧L2.a1=A2∧L2.c1=c3):=qH (by rw[<-hL1];exact⟨rfl,rfl,rfl,rfl,rfl,rfl,rfl,rfl⟩);have K2:Hid (∀wq,Below w3.heap.size w3 wq->Calls Tryz.prog 69 #[.slice L2.ag d.got.length L2.cg] wq (KrRet kChk wq d.got)):=qH (fun wq h=>chkCopy_calls _ _ _ wq HL.out.2.2 (by rw[HE.out.1];exact HIN1.out.1.stays h));have K3:Hid (∀wq,Below w3.heap.size w3 wq->Calls Tryz.prog 70 #[.agg (patA d.job.from_ d.job.to_ d.job.old d.job.new_ d.job.size L2.aj d.job.ops.length L2.cj)] wq (PcRet wq d.job)):=qH (fun wq h=>patCopy_calls _ _ _ wq (by rw[HE.out.2.2.1,HE.out.2.2.2.1];exact HIN1.out.2.stays h));clear hown hown1 hbel hbel1 hbl hr1 hw1 hL1 hs3 hs1 hs2 hsz K4 K1 HB1 HR HF HRz HFz;go_wp2_with fail;refine wp_region_mix (by kernel_rfl) (some 13::some 14::some 15::some 16::some 17::some 18::some 19::none::some 20::none::[]) (none::none::some 0::none::none::some 1::none::some 2::none::some 3::[]) (.pointer (some ⟨g,28,none⟩)::.slice L2.ag d.got.length L2.cg::undef::.pointer (some ⟨g,30,none⟩)::.agg (patA d.job.from_ d.job.to_ d.job.old d.job.new_ d.job.size L2.aj d.job.ops.length L2.cj)::undef::.pointer (some ⟨g,28,none⟩)::undef::.pointer (some ⟨g,30,none⟩)::undef::[]) 4 (dcK w3 g d L2) 22 rfl rfl (by decide+kernel) (by decide+kernel) (by decide+kernel) (by decide+kernel) rfl rfl (by decide+kernel) (by decide+kernel) (rfl) ?_ ?_
 ·refine⟨?_,?_,?_,?_,?_,?_,?_,?_,?_,?_,trivial⟩
  ·exact x9ik
  ·intro done cv k2 a wq hw h hJ hn;have e1:=mN 0 13 h hw;exact x81i
  ·intro done cv a wq hw h hJ;have e1:=mN 1 14 h hw;obtain rfl:wq=w3.drew:=hJ;refine wp_call (vals:=#[.slice L2.ag d.got.length L2.cg]) (by rw[List.map_toArray,List.map_cons,List.map_nil,ch_ev e1]) (enters_of Tryz.func69 (by kernel_rfl) rfl _ _) (K2.out _ ((Below.refl _ _).drew)) ?_;exact x8e1
  ·exact x9ik
  ·intro done cv k2 a wq hw h hJ hn;have e1:=mN 3 16 h hw;exact x81i
  ·intro done cv a wq hw h hJ;have e1:=mN 4 17 h hw;obtain⟨A1,c1,ds,y1,hrow,heach,hbel⟩:=hJ;refine wp_call (vals:=#[.agg (patA d.job.from_ d.job.to_ d.job.old d.job.new_ d.job.size L2.aj d.job.ops.length L2.cj)]) (by rw[List.map_toArray,List.map_cons,List.map_nil,ch_ev e1]) (enters_of Tryz.func70 (by kernel_rfl) rfl _ _) (K3.out _ hbel) ?_;rintro e w' ⟨A2,c3,rfl,hfr,hbel1⟩;exact⟨_,rfl,_,rfl,A1,c1,ds,wq,A2,c3,by simpa using y1,by simp,hrow,heach,hbel,hfr,hbel1⟩
  ·exact x9ik
  ·intro done cv a wq hw h hJ;have e1:=mN 6 19 h hw;have e15:=mx_cv (i:=2) (t:=15) h (hw 2 (by decide)) rfl rfl;obtain⟨A1,c1,ds,w4,A2,c3,y1,y2,hrow,heach,hbel,hfr,hbel1⟩:=hJ;rw[y1]at e15;have hbl:=hbel.trans (hbel1.mono hbel.size);refine wp_ssc e1 e15 (cs:=devA d L2) ((rowOf_below HG1.out hbl).trans HR1.out) (by go_simp) ((frOf_below HG1.out hbl).trans HF1.out) ⟨undef,rfl,A1,c1,ds,w4,A2,c3,wq,by simpa using y2,hrow,heach,hbel,hfr,hbel1,?_⟩;rw[devA_set_got]
  ·exact x9ik
  ·intro done cv a wq hw h hJ;have e1:=mN 8 20 h hw;have e18:=mx_cv (i:=5) (t:=18) h (hw 5 (by decide)) rfl rfl;obtain⟨A1,c1,ds,w4,A2,c3,w5,y1,hrow,heach,hbel,hfr,hbel1,rfl⟩:=hJ;rw[y1]at e18;have hbl:=hbel.trans (hbel1.mono hbel.size);have hr1:rowOf w5 g=devA d L2:=(rowOf_below HG1.out hbl).trans HR1.out;have hf1:frOf w5 g=(0,0):=(frOf_below HG1.out hbl).trans HF1.out;refine wp_srow e1 e18 (by go_simp) (by go_simp) (cs:=devA d {L2 with ag:=A1,cg:=c1}) (by rw[rowOf_setRow _ _ _ _ (by rw[hr1];simp[devA]),if_pos rfl]) (by go_simp) (by rw[frOf_setRow];exact hf1) (by go_simp) ⟨undef,rfl,A1,c1,ds,w4,A2,c3,w5,hrow,heach,hbel,hfr,hbel1,?_⟩;rw[devA_splice_job,setRow_setRow]
 intro cv w6 hJ;obtain⟨A3,c1,ds,w4,A4,c4,w5,hrow,heach,hbel,hfr,hbel1,rfl⟩:=hJ;simp only[mixAll,putAll_some,putAll_none,putAll_nil,List.getElem?_cons_zero,List.getElem?_cons_succ,Nat.zero_add,Nat.reduceAdd,List.setIfInBounds_toArray,List.set_cons_zero,List.set_cons_succ];have hbl:=hbel.trans (hbel1.mono hbel.size);have hr1:rowOf w5 g=devA d L2:=(rowOf_below HG1.out hbl).trans HR1.out;have hf1:frOf w5 g=(0,0):=(frOf_below HG1.out hbl).trans HF1.out;have hrz1:rowOf w5 (g+1)=devA Dev.zero DLoc.zero:=(rowOf_below HGz.out hbl).trans HRz1.out;have hfz1:frOf w5 (g+1)=(0,0):=(frOf_below HGz.out hbl).trans HFz1.out;have HGR:=qH (hrow.fresh heach);have HFR:=qH hfr;have HB1:=qH hbel;have HB3:=qH hbel1;have HC1:=qH hrow.row.le;clear hrow heach hfr hbel hbel1 hbl;go_wp2_with fail;refine bodyPost_ret (results_c rfl rfl (cs:=devA d {L2 with ag:=A3,cg:=c1,aj:=A4,cj:=c4}) (by go_simp) (by go_simp) (by go_simp)) rfl ?_;have hsz:=HSZ.out;have hge:=HGE.out;have s1:=HB1.out.size;have s2:=HB3.out.size;have hbk:=HBK.out.2.2;refine⟨_,rfl,DvOwn.fresh (DvOwn.mono (base:=w7.heap.size) (dcEnd (.inr trivial) HL.out HI1.out HBD.out HO2.out HO1.out HBK.out HGR.out HFR.out HB1.out HB3.out HC1.out HE.out.2.2.2.2 ?_) (by omega)),?_⟩
 ·intro k hk;repeat (first|rfl|refine(setRow_other _ _ _ _ (by omega)).trans ?_)
 rw[hge];repeat (first|exact HB2.out.trans ((HB1.out.trans (HB3.out.mono s1)).mono (by omega))|refine bR ?_ _)
theorem x13e(h:Y:=by
 obtain⟨r_,f_⟩:=wcJ_row (by have hk:=hn 10 _ 4 rfl rfl (by decide);omega) HR.out HF.out hJ;have c_:=cell_row (w:=wq) (g:=g) (by rw[r_];simp[worA]);go_simp):Y:=h
def wcJ(w0:World)(g:Nat)(x:Wor):Nat->(Nat->Value)->World->Prop
 |0,_,w=>w=w0.drew
 |1,cv,w1=>∃A5 c5 ds,cv 2=.slice A5 x.rel.length c5∧GRow kImg w1 w0.heap.size x.rel ds A5 c5∧Each kImg x.rel ds (fun k=>w0.heap.size<=k)∧Below w0.heap.size w0 w1
 |2,cv,w2=>∃A5 c5 ds w1 L6,cv 2=.slice A5 x.rel.length c5∧cv 5=.agg (devA x.d L6)∧GRow kImg w1 w0.heap.size x.rel ds A5 c5∧Each kImg x.rel ds (fun k=>w0.heap.size<=k)∧Below w0.heap.size w0 w1∧Fresh w1.heap.size w2 (fun v=>DvOwn v w1.heap.size x.d L6)∧Below w1.heap.size w1 w2
 |3,cv,w=>∃A5 c5 ds w1 L6 w2 A7 c7 ds7,cv 2=.slice A5 x.rel.length c5∧cv 5=.agg (devA x.d L6)∧cv 8=.slice A7 x.net.length c7∧GRow kImg w1 w0.heap.size x.rel ds A5 c5∧Each kImg x.rel ds (fun k=>w0.heap.size<=k)∧Below w0.heap.size w0 w1∧Fresh w1.heap.size w2 (fun v=>DvOwn v w1.heap.size x.d L6)∧Below w1.heap.size w1 w2∧GRow kChk w w2.heap.size x.net ds7 A7 c7∧Each kChk x.net ds7 (fun k=>w2.heap.size<=k)∧Below w2.heap.size w2 w
 |4,cv,w=>∃A5 c5 ds w1 L6 w2 A7 c7 ds7,cv 9=.agg (worA ⟨x.rel,x.d,x.net⟩ ⟨A5,c5,L6,A7,c7⟩)∧GRow kImg w1 w0.heap.size x.rel ds A5 c5∧Each kImg x.rel ds (fun k=>w0.heap.size<=k)∧Below w0.heap.size w0 w1∧Fresh w1.heap.size w2 (fun v=>DvOwn v w1.heap.size x.d L6)∧Below w1.heap.size w1 w2∧GRow kChk w w2.heap.size x.net ds7 A7 c7∧Each kChk x.net ds7 (fun k=>w2.heap.size<=k)∧Below w2.heap.size w2 w
 |_,_,w=>∃A5 c5 ds w1 L6 w2 A7 c7 ds7 w3,GRow kImg w1 w0.heap.size x.rel ds A5 c5∧Each kImg x.rel ds (fun k=>w0.heap.size<=k)∧Below w0.heap.size w0 w1∧Fresh w1.heap.size w2 (fun v=>DvOwn v w1.heap.size x.d L6)∧Below w1.heap.size w1 w2∧GRow kChk w3 w2.heap.size x.net ds7 A7 c7∧Each kChk x.net ds7 (fun k=>w2.heap.size<=k)∧Below w2.heap.size w2 w3∧w=w3.setRow (g+1) (worA ⟨x.rel,x.d,x.net⟩ ⟨A5,c5,L6,A7,c7⟩)
theorem wcJ_row{L:WLoc}(hk:k<=4)(hr:rowOf w0 g=worA x L)(hf:frOf w0 g=(0,0))(hJ:wcJ w0 g x k cv w):rowOf w g=worA x L∧frOf w g=(0,0):=by
 have hg:g<w0.heap.size:=row_lt (w:=w0) (by rw[hr];simp[worA]);have key:Below w0.heap.size w0 w->rowOf w g=worA x L∧frOf w g=(0,0):=fun hb=>⟨(rowOf_below hg hb).trans hr,(frOf_below hg hb).trans hf⟩;rcases (show k=0∨k=1∨k=2∨k=3∨k=4 by omega)with rfl|rfl|rfl|rfl|rfl
 ·have hJ':w=w0.drew:=hJ;subst hJ';exact key (Below.refl _ _).drew
 ·exact x9c7
 ·obtain⟨A2,c2,ds,w1,L1,y1,y2,g1,g2,h,g3,h1⟩:=hJ;exact key (h.trans (h1.mono h.size))
 ·obtain⟨A1,c1,ds,w1,L2,w2,A3,c3,ds1,y1,y2,y3,g1,g2,h,g3,h2,g4,g5,h3⟩:=hJ;exact key (h.trans ((h2.trans (h3.mono h2.size)).mono h.size))
 obtain⟨A1,c1,ds,w1,L1,w2,A2,c2,ds1,y1,g1,g2,h,g3,h1,g4,g5,h3⟩:=hJ;exact key (h.trans ((h1.trans (h3.mono h1.size)).mono h.size))
theorem worCopy_calls(x:Wor)(L:WLoc)(w:World)(h:WorIn w x L):Calls Tryz.prog 52 #[.agg (worA x L)] w (WcRet w x):=by
 have HI:=qH h;have HBD:Hid ((∀y∈x.net,ChkB y)∧∀y∈x.rel,y.length<=140737488351232):=qH ⟨h.net.bound,h.rel.bound⟩;clear h;go_enter Tryz.func52,Tryz.ntmps52;go_wp2_with fail;have q1:rowOf ((w.alloc (.cells (worA x L) 40)).alloc (.cells (worA Wor.zero WLoc.zero) 40)) w.heap.size=worA x L:=by go_simp
 have q2:frOf ((w.alloc (.cells (worA x L) 40)).alloc (.cells (worA Wor.zero WLoc.zero) 40)) w.heap.size=(0,0):=by go_simp
 have q3:rowOf ((w.alloc (.cells (worA x L) 40)).alloc (.cells (worA Wor.zero WLoc.zero) 40)) (w.heap.size+1)=worA Wor.zero WLoc.zero:=by go_simp
 have q4:frOf ((w.alloc (.cells (worA x L) 40)).alloc (.cells (worA Wor.zero WLoc.zero) 40)) (w.heap.size+1)=(0,0):=by go_simp
 obtain⟨w5,hw1⟩:=eX ((w.alloc (.cells (worA x L) 40)).alloc (.cells (worA Wor.zero WLoc.zero) 40));have HB1:Hid (Below w.heap.size w w5):=qH (by rw[<-hw1];exact(bL _).alloc (by simp) _);have HSZ:Hid (w5.heap.size=w.heap.size+2):=qH (by rw[<-hw1];simp);obtain⟨g,hg⟩:=eX (w.heap.size);rw[hw1,hg]at q1 q2 q3 q4;have HR:=qH q1;have HF:=qH q2;have HRz:=qH q3;have HFz:=qH q4;rw[hg]at HSZ;have HGz:Hid (g+1<w5.heap.size):=qH (by rw[HSZ.out];omega);rw[hw1];rw[hg]at HB1⊢;have HGE:=qH hg;clear hw1 hg q1 q2 q3 q4;have HIN:Hid (WorIn w5 x L):=qH (HI.out.stays (HGE.out▸HB1.out));have KA:Hid (∀wq,Below w5.heap.size w5 wq->Calls Tryz.prog 51 #[.slice L.ar x.rel.length L.cr] wq (KrRet kImg wq x.rel)):=qH (fun wq h=>images_calls _ _ _ wq HI.out.lr (HIN.out.rel.stays h));have KB:Hid (∀wq,Below w5.heap.size w5 wq->Calls Tryz.prog 41 #[.agg (devA x.d L.l)] wq (DcRet wq x.d)):=qH (fun wq h=>devCopy_calls _ _ wq (HIN.out.dev.stays h));have KN:Hid (∀wq,Below w5.heap.size w5 wq->Calls Tryz.prog 69 #[.slice L.an x.net.length L.cn] wq (KrRet kChk wq x.net)):=qH (fun wq h=>chkCopy_calls _ _ _ wq HI.out.ln (HIN.out.net.stays h));refine wp_region_mix (by kernel_rfl) (some 3::some 4::some 5::some 6::some 7::some 8::some 9::some 10::some 11::some 12::none::[]) (none::none::some 0::none::none::some 1::none::none::some 2::some 3::some 4::[]) (.pointer (some ⟨g,0,none⟩)::.slice L.ar x.rel.length L.cr::undef::.pointer (some ⟨g,1,none⟩)::.agg (devA x.d L.l)::undef::.pointer (some ⟨g,38,none⟩)::.slice L.an x.net.length L.cn::undef::undef::undef::[]) 5 (wcJ w5 g x) 13 rfl rfl (by decide+kernel) (by decide+kernel) (by decide+kernel) (by decide+kernel) rfl rfl (by decide+kernel) (by decide+kernel) (rfl) ?_ ?_
 ·refine⟨?_,?_,?_,?_,?_,?_,?_,?_,?_,?_,?_,trivial⟩
  ·exact x9ik
  ·intro done cv k2 a wq hw h hJ hn;have e1:=mN 0 3 h hw;exact x13e
  ·intro done cv a wq hw h hJ;have e1:=mN 1 4 h hw;obtain rfl:wq=w5.drew:=hJ;refine wp_call (vals:=#[.slice L.ar x.rel.length L.cr]) (by rw[List.map_toArray,List.map_cons,List.map_nil,ch_ev e1]) (enters_of Tryz.func51 (by kernel_rfl) rfl _ _) (KA.out _ ((Below.refl _ _).drew)) ?_;exact x8e1
  ·exact x9ik
  ·intro done cv k2 a wq hw h hJ hn;have e1:=mN 3 6 h hw;exact x13e
  ·intro done cv a wq hw h hJ;have e1:=mN 4 7 h hw;obtain⟨A1,c1,ds,y1,hrow,heach,hbel⟩:=hJ;refine wp_call (vals:=#[.agg (devA x.d L.l)]) (by rw[List.map_toArray,List.map_cons,List.map_nil,ch_ev e1]) (enters_of Tryz.func41 (by kernel_rfl) rfl _ _) (KB.out _ hbel) ?_;rintro e w' ⟨L1,rfl,hfr,hbel1⟩;exact⟨_,rfl,_,rfl,A1,c1,ds,wq,L1,by simpa using y1,by simp,hrow,heach,hbel,hfr,hbel1⟩
  ·exact x9ik
  ·intro done cv k2 a wq hw h hJ hn;have e1:=mN 6 9 h hw;exact x13e
  ·intro done cv a wq hw h hJ;have e1:=mN 7 10 h hw;obtain⟨A1,c1,ds,w1,L1,y1,y2,hrow,heach,hbel,hfr,hbel1⟩:=hJ;refine wp_call (vals:=#[.slice L.an x.net.length L.cn]) (by rw[List.map_toArray,List.map_cons,List.map_nil,ch_ev e1]) (enters_of Tryz.func69 (by kernel_rfl) rfl _ _) (KN.out _ (hbel.trans (hbel1.mono hbel.size))) ?_;rintro e w' ⟨A2,c2,ds1,rfl,hrow1,heach1,hbel2⟩;exact⟨_,rfl,_,rfl,A1,c1,ds,w1,L1,wq,A2,c2,ds1,by simpa using y1,by simpa using y2,by simp,hrow,heach,hbel,hfr,hbel1,hrow1,heach1,hbel2⟩
  ·intro done cv a wq hw h hJ;have e1:=mx_cv (i:=2) (t:=5) h (hw 2 (by decide)) rfl rfl;have e8:=mx_cv (i:=5) (t:=8) h (hw 5 (by decide)) rfl rfl;have e11:=mx_cv (i:=8) (t:=11) h (hw 8 (by decide)) rfl rfl;obtain⟨A1,c1,ds,w1,L1,w2,A2,c2,ds1,y1,y2,y3,hrow,heach,hbel,hfr,hbel1,hrow1,heach1,hbel3⟩:=hJ;rw[y1]at e1;rw[y2]at e8;rw[y3]at e11;refine wp_val (v:=.agg (worA ⟨x.rel,x.d,x.net⟩ ⟨A1,c1,L1,A2,c2⟩)) (by go_simp) ⟨_,rfl,A1,c1,ds,w1,L1,w2,A2,c2,ds1,by simp,hrow,heach,hbel,hfr,hbel1,hrow1,heach1,hbel3⟩
  ·intro done cv a wq hw h hJ;have e1:=mO 2 (.pointer (some ⟨g+1,0,none⟩)) h;have e12:=mx_cv (i:=9) (t:=12) h (hw 9 (by decide)) rfl rfl;obtain⟨A1,c1,ds,w1,L1,w2,A2,c2,ds1,y1,hrow,heach,hbel,hfr,hbel1,hrow1,heach1,hbel3⟩:=hJ;rw[y1]at e12;have hbl:=hbel.trans ((hbel1.trans (hbel3.mono hbel1.size)).mono hbel.size);refine wp_srow e1 e12 (by go_simp) (by go_simp) (cs:=worA Wor.zero WLoc.zero) ((rowOf_below HGz.out hbl).trans HRz.out) (by go_simp) ((frOf_below HGz.out hbl).trans HFz.out) (by go_simp) ⟨undef,rfl,A1,c1,ds,w1,L1,w2,A2,c2,ds1,wq,hrow,heach,hbel,hfr,hbel1,hrow1,heach1,hbel3,?_⟩;rw[splice_all _ _ (by simp[worA])]
 intro cv w4 hJ;obtain⟨A1,c1,ds,w1,L1,w2,A2,c2,ds1,w3,hrow,heach,hbel,hfr,hbel1,hrow1,heach1,hbel3,rfl⟩:=hJ;simp only[mixAll,putAll_some,putAll_none,putAll_nil,List.getElem?_cons_zero,List.getElem?_cons_succ,Nat.zero_add,Nat.reduceAdd,List.setIfInBounds_toArray,List.set_cons_zero,List.set_cons_succ];have hbl:=hbel.trans ((hbel1.trans (hbel3.mono hbel1.size)).mono hbel.size);have r1:0<(rowOf w3 (g+1)).size:=by rw[rowOf_below HGz.out hbl,HRz.out];simp[worA]
 have hs4:=HSZ.out;have hs1:=hbel.size;have hs2:=hbel1.size;have hs3:=hbel3.size;have HW:Hid (WorAt w3 w5.heap.size w2.heap.size w3.heap.size ds1 x ⟨A1,c1,L1,A2,c2⟩):=qH ⟨by omega,hs3,nl,by
   have h1:FrIn w5.heap.size w1.heap.size w1 (fun v=>Ims v A1 x.rel):=((hrow.fresh heach).imp fun v hv=>hv.src.ims HBD.out.2).frIn;exact(h1.of (v:=w3) (fun k a b=>((hbel3.block k (by omega)).trans (hbel1.block k b)))).wider nl hs2,by
   have h2:FrIn w1.heap.size w2.heap.size w2 (fun v=>DevIn v x.d L1):=(hfr.imp fun v hv=>hv.devIn).frIn;exact(h2.wider hs1 nl).of (fun k a b=>hbel3.block k b),hrow1,(fun i o d e1 e2 hx k hk=>⟨heach1 i o d e1 e2 hx k hk,hrow1.src.each i o d e1 e2 hx k hk⟩),(fun k e=>(hrow1.row.block k e).2),HBD.out.1,hrow.row.le,HI.out.lr,HI.out.ln⟩
 have HB2:Hid (Below g w (w3.setRow (g+1) (worA ⟨x.rel,x.d,x.net⟩ ⟨A1,c1,L1,A2,c2⟩))):=qH (below_row (HB1.out.trans (hbl.mono (by omega))) (by omega) _);clear hrow heach hbel hfr hbel1 hrow1 heach1 hbel3 KA KB KN;have r2:rowOf (w3.setRow (g+1) (worA ⟨x.rel,x.d,x.net⟩ ⟨A1,c1,L1,A2,c2⟩)) (g+1)=worA ⟨x.rel,x.d,x.net⟩ ⟨A1,c1,L1,A2,c2⟩:=by rw[rowOf_setRow _ _ _ _ r1,if_pos rfl]
 go_wp2_with fail;refine bodyPost_ret (results_c rfl rfl (cs:=worA ⟨x.rel,x.d,x.net⟩ ⟨A1,c1,L1,A2,c2⟩) r2 (by go_simp) (by go_simp)) rfl ⟨⟨A1,c1,L1,A2,c2⟩,w2.heap.size,ds1,rfl,?_,?_⟩
 ·rw[HGE.out,<-hs4];have h1:=HW.out.same (v:=w3.setRow (g+1) (worA ⟨x.rel,x.d,x.net⟩ ⟨A1,c1,L1,A2,c2⟩)) (fun k a b=>setRow_other _ _ _ _ (by omega)) (by simp[World.setRow]);have e1:(w3.setRow (g+1) (worA ⟨x.rel,x.d,x.net⟩ ⟨A1,c1,L1,A2,c2⟩)).heap.size=w3.heap.size:=by simp[World.setRow]
  rw[e1];exact h1
 rw[HGE.out];exact HB2.out
theorem x0yz(h:Y:=by
 rcases hor6 with h9|h9
 ·exact .inl (h9▸e)
 rw[h9]at e;injection e with e
 simp[World.setRow]at e;exact .inr (by omega)):Y:=h
theorem x4uv(h:Y:=by
 go_enter Tryz.func21,Tryz.ntmps21;go_wp2_with fail;refine(K1.out _ (HIN.out.stays HBA.out)).mono ?_;rintro e w1 ⟨rfl,hb⟩;have a2:=kp (w.heap.size) (worA x0 L0) hb;have a1:=kp (w.heap.size+1) (worA Wor.zero WLoc.zero) hb;have hs1:w.heap.size+2<=w1.heap.size:=by have:=hb.size;simp at this;omega
 have HB1:=bT HBA hb;clear hb;go_wp2_with fail;refine bodyPost_ret (results_ctt rfl rfl (cs:=worA Wor.zero WLoc.zero) (by go_simp) (by go_simp) (by go_simp)) rfl ⟨WLoc.zero,none,0,w.heap.size,rfl,Own.nil_ _ _ _ _,nl,fun v _=>WorIn.zero v,bZ HB1⟩):Y:=h
theorem x8cd(h:Y:=by
 have h1:=rowOf_heap (hk1 (g+1) (by omega) (hgA _ (by omega)) (by omega));exact⟨h1.1.trans b1.1,h1.2.trans b1.2.1⟩):Y:=h
def rHap:CR (Int×Int):=fun w cs x=>cs=[iv x.1,iv x.2]∧I64 x.1∧I64 x.2
abbrev Hps (w:World) (A:OA) (l:List (Int×Int)):=Elems 2 rHap w A l
def WrRet(w:World)(x:Wor)(said:List Int)(n:Int):Ending->World->Prop:=fun en w'=>
 ∃L A c b,en=.returned (.tuple #[.agg (worA x L),.slice A said.length c,iv n])∧Own w' b 41 1 A said.length c (said.map iv)∧w.heap.size<=b∧(∀v:World,(∀q,b<=q->A.map (·.block)≠some q->q<w'.heap.size->v.heap[q]?=w'.heap[q]?)->WorIn v x L)∧Below w.heap.size w w'
theorem said_len:∀(l:List (Int×Int)) (x:Wor),(worSaid l x).length=l.length
 |[],x=>rfl
 |y::l,x=>by simp[worSaid,said_len l]
theorem worRun_bad(h:worCheck x≠0):worRun x l=(Wor.zero,[],worCheck x):=by unfold worRun;rw[if_pos h]
theorem worRun_many(h:worCheck x=0)(g:200<l.length):worRun x l=(Wor.zero,[],1):=by unfold worRun;rw[if_neg (by omega),if_pos g]
theorem worRun_ok(h:worCheck x=0)(g:¬200<l.length):worRun x l=(worGo l x,worSaid l x,0):=by unfold worRun;rw[if_neg (by omega),if_neg g]
theorem worRun_gen(x0:Wor)(L0:WLoc)(B:OA)(cl:Nat)(l:List (Int×Int))(w:World)(h:WorIn w x0 L0)(hl:l.length<=140737488351232)(hcl:l.length<=cl)(hh:Hps w B l)(KHP:∀y∈l,HapOk y.1 y.2):Calls Tryz.prog 21 #[.agg (worA x0 L0),.slice B l.length cl] w (WrRet w (worRun x0 l).1 (worRun x0 l).2.1 (worRun x0 l).2.2):=by
 have hba:Below w.heap.size w ((w.alloc (.cells (worA x0 L0) 40)).alloc (.cells (worA Wor.zero WLoc.zero) 40)):=bA (bA (Below.refl _ _) _) _;have HBA:=qH hba;have HIN:=qH h;have HH:=qH hh;have HKP:=qH KHP;clear KHP;have K1:=qH (fun w h=>worCheck_calls x0 L0 w h);by_cases hc:worCheck x0≠0
 ·rw[worRun_bad hc];have q:(worCheck x0 !=0)=true:=by simp[hc]
  generalize worCheck x0=cc at *
  clear hc hba h hh;exact x4uv
 have hc:=Decidable.not_not.1 hc;have hok:=worCheck_ok.1 hc;by_cases hm:200<l.length
 ·rw[worRun_many hc hm];rw[hc]at K1;have q:(200:Int)<(l.length:Int):=by omega
  clear hc hba h hh hok;exact x4uv
 rw[worRun_ok hc hm];rw[hc]at K1;have q1:¬(200:Int)<(l.length:Int):=by omega
 have HOK:=qH hok;clear hc hba h hh hok;go_enter Tryz.func21,Tryz.ntmps21;go_wp2_with fail;refine(K1.out _ (HIN.out.stays HBA.out)).mono ?_;rintro e w1 ⟨rfl,hb⟩;have a3:=kp (w.heap.size) (worA x0 L0) hb;have a1:=kp (w.heap.size+1) (worA Wor.zero WLoc.zero) hb;have hs1:w.heap.size+2<=w1.heap.size:=by have:=hb.size;simp at this;omega
 have HB1:=bT HBA hb;clear hb;go_wp2_with fail;refine(worCopy_calls x0 L0 _ (HIN.out.stays HB1.out)).mono ?_;rintro e w2 ⟨L1,m,ds,rfl,hwa,hb⟩;have a3:=kr a3 hb;have a1:=kr a1 hb;have hs2:w1.heap.size<=w2.heap.size:=hb.size;have HB2:=bT HB1 hb;have hp1:0<(rowOf w2 w.heap.size).size:=by rw[a3.1];simp[worA]
 have HW1:Hid (∀v:World,(∀q,w.heap.size+2<=q->q<w2.heap.size->v.heap[q]?=w2.heap[q]?)->WorIn v x0 L1):=qH (fun v hv=>hwa.wex (fun k a b=>hv k (by omega) b));have HRW:Hid (rowOf (w2.setRow w.heap.size (worA x0 L1)) w.heap.size=worA x0 L1∧frOf (w2.setRow w.heap.size (worA x0 L1)) w.heap.size=(0,0)∧rowOf (w2.setRow w.heap.size (worA x0 L1)) (w.heap.size+1)=worA Wor.zero WLoc.zero∧frOf (w2.setRow w.heap.size (worA x0 L1)) (w.heap.size+1)=(0,0)):=qH
  ⟨by rw[rowOf_setRow _ _ _ _ hp1,if_pos rfl],by rw[frOf_setRow];exact a3.2.1,by rw[rowOf_setRow _ _ _ _ hp1,if_neg (by omega)];exact a1.1,by rw[frOf_setRow];exact a1.2.1⟩
 clear hb hwa;go_wp2_with fail;clear a3 a1 hp1;obtain⟨g,hg⟩:=eX (w.heap.size);have HG:=qH hg;rw[hg]at HRW HW1 hs1⊢;clear hg;go_loopw [8,27] (fun s i wr=>∃(k:Nat) (x:Wor) (L:WLoc) (A:OA) (c:Nat),k<=l.length∧i=iv k∧s=.slice A k c∧Hid (x=worGo (l.take k) x0∧WorOk x)∧Hid (rowOf wr g=worA x L∧frOf wr g=(0,0)∧rowOf wr (g+1)=worA Wor.zero WLoc.zero∧frOf wr (g+1)=(0,0))∧
  Hid (∀v:World,(∀q,g+2<=q->A.map (·.block)≠some q->q<wr.heap.size->v.heap[q]?=wr.heap[q]?)->WorIn v x L)∧Hid (Own wr (g+2) 41 1 A k c ((worSaid (l.take k) x0).map iv))∧Hid (Below g w wr∧g+2<=wr.heap.size)) (fun _ i _=>l.length-(intOf i).toNat)
 case atStart=>
  refine⟨0,x0,L1,none,0,Nat.zero_le _,rfl,rfl,qH ⟨rfl,HOK.out⟩,HRW,qH (fun v hv=>HW1.out v (fun q h1 h2=>(hv q h1 (by simp) (by simpa[World.setRow]using h2)).trans (setRow_other _ _ _ _ (by omega)))),qH (by simpa[worSaid]using Own.nil_ _ _ _ _),qH ⟨?_,by simp[World.setRow];omega⟩⟩;exact below_row (HG.out▸HB2.out) nl _
 case round=>
  rename World=>wr;obtain⟨k,x,L,A,c,hk,rfl,rfl,HX,HR,HI,HO,HB⟩:=hrel;clear HRW HW1;have hsz:=HB.out.2;by_cases hlt:k<l.length
  ·obtain⟨b,o,rfl,hbl,cs,hcs,hcc,rfl,hi1,hi2⟩:=HH.out k hlt;obtain⟨⟨kd,n⟩,hy⟩:∃y,l[k]=y:=⟨_,rfl⟩;rw[hy]at hcc hi1 hi2;have hb1:b<wr.heap.size:=Nat.lt_of_lt_of_le hbl (by rw[HG.out];omega);have hwb:∀j,wr.cell? ⟨b,j,none⟩=w.cell? ⟨b,j,none⟩:=fun j=>HB.out.1.cell (p:=⟨b,j,none⟩) (by rw[<-HG.out];exact hbl);have p2:wr.cell? ⟨b,o+k*2,none⟩=some (iv kd):=by rw[hwb];have:=hcc 0 (by simp);simpa using this
   have p1:wr.cell? ⟨b,o+k*2+1,none⟩=some (iv n):=by rw[hwb];have:=hcc 1 (by simp);simpa using this
   have HY:=qH hy;have HI1:Hid (I64 n):=qH hi2;have a3:=keep1 (bW wr) HR.out.1 (by go_simp) HR.out.2.1;have a1:=keep1 (bW wr) HR.out.2.2.1 (by go_simp) HR.out.2.2.2;have hwk:IntKind.i64.wrap ((k:Int)+1)=(k:Int)+1:=IntWalk.i64_in _ (by omega);have dl:decide ((k:Int)<(l.length:Int))=true:=decide_eq_true (by omega);have hcap:(l.length:Int)<=(cl:Int):=by omega
   clear hcc hi1 hi2 hcs hy hwb hbl;go_wp2_with fail;have hx1:WorIn (wr.alloc (.cells #[iv kd,iv n] 54)) x L:=HI.out _ (fun q _ _ h2=>Below.heap_alloc wr _ q h2);refine(worCopy_calls x L _ hx1).mono ?_;rintro e w2 ⟨L3,m1,ds1,rfl,hwa,hb⟩;have a3:=kp g (worA x L) hb;have a1:=kp (g+1) (worA Wor.zero WLoc.zero) hb;have a2:=kp (wr.heap.size) (#[iv kd,iv n]) hb;have hs3:wr.heap.size+1<=w2.heap.size:=by have:=hb.size;simpa using this
   have hkb:∀q,q<wr.heap.size->w2.heap[q]?=wr.heap[q]?:=fun q h=>(hb.block q (by simp;omega)).trans (Below.heap_alloc wr _ q h);have HB2':Hid (Below g w w2):=qH ((HB.out.1.alloc (by omega) _).trans (hb.mono (by simp;omega)));have HWA:Hid (WorAt w2 (wr.heap.size+1+2) m1 w2.heap.size ds1 x L3):=qH (by simpa using hwa);have hw1:wr.heap.size+1+2<=w2.heap.size:=by have:=HWA.out.h1;have:=HWA.out.h2;have:=HWA.out.h3;omega
   clear hb hwa hx1;go_wp2_with fail;obtain⟨w3,hw3e⟩:=eX (w2.alloc (.cells (worA x L3) 40));have z1:rowOf w3 w2.heap.size=worA x L3:=by rw[<-hw3e,rowOf_alloc,if_pos rfl]
   have z2:frOf w3 w2.heap.size=(0,0):=by rw[<-hw3e,frOf_alloc,if_pos rfl]
   have hs4:w3.heap.size=w2.heap.size+1:=by rw[<-hw3e];simp
   have hk1:∀q,q<w2.heap.size->w3.heap[q]?=w2.heap[q]?:=fun q h=>by rw[<-hw3e];exact Below.heap_alloc w2 _ q h
   have HW1:Hid (WorAt w3 (wr.heap.size+1+2) m1 w2.heap.size ds1 x L3):=qH (HWA.out.same (fun q a b=>hk1 q b) (by omega));have HB3:Hid (Below g w w3):=qH (by rw[<-hw3e];exact HB2'.out.alloc (by omega) _);try rw[hw3e]
   obtain⟨⟨x',e'⟩,hres⟩:∃res,worHappen x kd n=res:=⟨_,rfl⟩;have KH:=qH (HKP.out (kd,n) (by rw[<-HY.out];exact List.getElem_mem hlt) w2.heap.size (wr.heap.size+1+2) m1 w2.heap.size ds1 x L3 w3 z1 z2 (.inr nl) HW1.out HX.out.2 HI1.out);rw[hres]at KH;have HRES:=qH hres;have y6:=rowOf_heap (hk1 g (by omega));have y1:=rowOf_heap (hk1 (g+1) (by omega));have y2:=y6.1.trans a3.1;have y3:=y6.2.trans a3.2.1;have y4:=y1.1.trans a1.1;have y5:=y1.2.trans a1.2.1;clear hw3e hres z1 z2 y6 y1 a3 a1 a2;refine KH.out.mono ?_;rintro e w4 ⟨rfl,hz,hx,hs5⟩;have HZ:=qH hz;have HX1:=qH hx;have e2:=rowOf_heap (hx.2 g (by omega) (by omega));have e1:=rowOf_heap (hx.2 (g+1) (by omega) (by omega));have r2:=e2.1.trans y2;have f2:=e2.2.trans y3;have r1:=e1.1.trans y4;have f1:=e1.2.trans y5;have HB4:Hid (Below g w w4):=qH (HB3.out.trans (hx.to (by omega) (by omega)));have hk2:∀q,q<wr.heap.size->w4.heap[q]?=wr.heap[q]?:=fun q h=>(hx.2 q (by omega) (by omega)).trans ((hk1 q (by omega)).trans (hkb q h));have HK1:=qH hk2;have HO1:Hid (Own w4 (g+2) 41 1 A k c ((worSaid (l.take k) x0).map iv)):=qH (HO.out.same (fun q e=>hk2 q (HO.out.block q e).2));have HAB:Hid (∀q,A.map (·.block)=some q->g+2<=q∧q<wr.heap.size):=qH (fun q e=>HO.out.block q e);have HSD:Hid (worSaid (l.take (k+1)) x0=worSaid (l.take k) x0++[e']∧worGo (l.take (k+1)) x0=worTry x (kd,n)):=qH (by
    have h1:=worGo_append (l.take k) [(kd,n)] x0;rw[List.take_succ_eq_append_getElem hlt,HY.out,h1.1,h1.2,<-HX.out.1];refine⟨?_,rfl⟩;congr 1
    show [(worHappen x kd n).2]=[e'];rw[HRES.out])
   have b3:=keep1 (bW w4) r2 (by go_simp) f2;have b1:=keep1 (bW w4) r1 (by go_simp) f1;clear hz hx KH e2 e1 r2 f2 r1 f1 y2 y3 y4 y5 hk2 hk1 hkb;by_cases c1:e'=0
   ·subst c1;obtain⟨L2,r1,f1,hw2⟩:=HZ.out rfl;have b2:=keep1 (bW w4) r1 (by go_simp) f1;have HW2:=qH hw2;have q:((0:Int)==0)=true:=rfl;have hp1:0<(rowOf w4 g).size:=by rw[b3.1];simp[worA]
    have hg1:¬w2.heap.size=g:=by omega
    have hg2:¬g=w2.heap.size:=by omega
    have hg3:¬g+1=g:=by omega
    have hown1:Own ((w4.setRow g (worA x' L2)).alloc (.cells #[iv 0] 41)) (g+2) 41 1 A k c ((worSaid (l.take k) x0).map iv):=HO1.out.same (fun q e=>(Below.heap_alloc (w4.setRow g (worA x' L2)) _ q (by have:=(HO1.out.block q e).2;simpa[World.setRow]using this)).trans (setRow_other _ _ _ _ (by have:=(HAB.out q e).1;omega)));have hsrc:Src ((w4.setRow g (worA x' L2)).alloc (.cells #[iv 0] 41)) (some ⟨w4.heap.size,0,none⟩) [iv 0]:=src_blk (blk_top (by simp[World.setRow]));have hbase1:g+2<=((w4.setRow g (worA x' L2)).alloc (.cells #[iv 0] 41)).heap.size:=by simp[World.setRow];omega
    have hlim:k+1<=137438953472:=by omega
    clear hw2 r1 f1;go_wp2_with (at_builtin;go_must (refine wpList_app ((w4.setRow g (worA x' L2)).alloc (.cells #[iv 0] 41)) rfl _ _ 68 rfl elErrs (g+2) A k c ((worSaid (l.take k) x0).map iv) rfl hown1 (some ⟨w4.heap.size,0,none⟩) 1 1 [iv 0] rfl hsrc rfl (by simp[Value.oneCell']) hlim hbase1 ?_;intro A' c' w6 hown6 hg6 hb6 hor6));have hk1:∀q,q<w4.heap.size->A.map (·.block)≠some q->q≠g->w6.heap[q]?=w4.heap[q]?:=fun q h1 h2 h3=>(hg6.block q (by simp[World.setRow];omega) (fun e=>h2 e.symm)).trans ((Below.heap_alloc (w4.setRow g (worA x' L2)) _ q (by simpa[World.setRow]using h1)).trans (setRow_other _ _ _ _ h3));have hgA:∀q,q<g+2->A.map (·.block)≠some q:=fun q h e=>by have:=(HAB.out q e).1;omega
    have hs6:=hb6.size;have hs6':w4.heap.size+1<=w6.heap.size:=by simpa[World.setRow]using hs6
    have hA1:∀q,A'.map (·.block)=some q->A.map (·.block)=some q∨w4.heap.size<=q:=fun q e=>by
     exact x0yz
    have hrow1:rowOf w6 (g+1)=worA Wor.zero WLoc.zero∧frOf w6 (g+1)=(0,0):=by
     exact x8cd
    have hrow2:rowOf w6 g=worA x' L2∧frOf w6 g=(0,0):=by
     have h1:w6.heap[g]?=(w4.setRow g (worA x' L2)).heap[g]?:=(hg6.block g (by simp[World.setRow];omega) (fun e=>hgA g (by omega) e.symm)).trans (Below.heap_alloc (w4.setRow g (worA x' L2)) _ g (by simp[World.setRow];omega));have h2:=rowOf_heap h1;refine⟨h2.1.trans (by rw[rowOf_setRow _ _ _ _ hp1,if_pos rfl]),h2.2.trans (by rw[frOf_setRow];exact b3.2.1)⟩
    have hbel1:Below g w w6:=((below_row HB4.out nl _).alloc (by simp[World.setRow];omega) _).trans (hb6.mono (by omega));have HNEW:Hid (x'=worGo (l.take (k+1)) x0∧WorOk x'):=qH (by
     have h1:(worHappen x kd n).2=0:=by rw[HRES.out]
     have h2:=happen_keeps HX.out.2 h1;rw[HRES.out]at h2;refine⟨?_,h2.1⟩;rw[HSD.out.2];unfold worTry;dsimp only;rw[HRES.out,if_pos rfl])
    have HI2:Hid (∀v:World,(∀q,g+2<=q->A'.map (·.block)≠some q->q<w6.heap.size->v.heap[q]?=w6.heap[q]?)->WorIn v x' L2):=qH (fun v hv=>HW2.out v (fun q h1 h2 h3=>(hv q (by omega) (fun e=>by
      rcases hA1 q e with h9|h9
      ·have:=(HAB.out q h9).2;omega
      omega) (by omega)).trans (hk1 q h3 (fun e=>by have:=(HAB.out q e).2;omega) (by omega))))
    have HR1:Hid (rowOf w6 g=worA x' L2∧frOf w6 g=(0,0)∧rowOf w6 (g+1)=worA Wor.zero WLoc.zero∧frOf w6 (g+1)=(0,0)):=qH ⟨hrow2.1,hrow2.2,hrow1.1,hrow1.2⟩;have HO2:Hid (Own w6 (g+2) 41 1 A' (k+1) c' ((worSaid (l.take (k+1)) x0).map iv)):=qH (by rw[HSD.out.1,List.map_append];exact hown6);have HB5:Hid (Below g w w6∧g+2<=w6.heap.size):=qH ⟨hbel1,by omega⟩;clear hown6 hg6 hb6 hor6 hk1 hA1 hrow1 hrow2 hbel1 hown1 hsrc hs6 b3 b1;go_roundw
    case rel=>exact⟨k+1,x',L2,A',c',by omega,by go_num,by first|rfl|go_num,HNEW,HR1,HI2,HO2,HB5⟩
    case measure=>simp[intOf];omega
   have q:(e'==0)=false:=by simp[c1]
   have hown1:Own (w4.alloc (.cells #[iv e'] 41)) (g+2) 41 1 A k c ((worSaid (l.take k) x0).map iv):=HO1.out.same (fun q e=>Below.heap_alloc w4 _ q (HO1.out.block q e).2);have hsrc:Src (w4.alloc (.cells #[iv e'] 41)) (some ⟨w4.heap.size,0,none⟩) [iv e']:=src_blk (blk_top rfl);have hbase1:g+2<=(w4.alloc (.cells #[iv e'] 41)).heap.size:=by simp;omega
   have hlim:k+1<=137438953472:=by omega
   have HC1:=qH c1;clear c1;go_wp2_with (at_builtin;go_must (refine wpList_app (w4.alloc (.cells #[iv e'] 41)) rfl _ _ 68 rfl elErrs (g+2) A k c ((worSaid (l.take k) x0).map iv) rfl hown1 (some ⟨w4.heap.size,0,none⟩) 1 1 [iv e'] rfl hsrc rfl (by simp[Value.oneCell']) hlim hbase1 ?_;intro A' c' w6 hown6 hg6 hb6 hor6));have hk1:∀q,q<w4.heap.size->A.map (·.block)≠some q->q≠g->w6.heap[q]?=w4.heap[q]?:=fun q h1 h2 h3=>(hg6.block q (by simp[World.setRow];omega) (fun e=>h2 e.symm)).trans (Below.heap_alloc w4 _ q h1);have hgA:∀q,q<g+2->A.map (·.block)≠some q:=fun q h e=>by have:=(HAB.out q e).1;omega
   have hs6:=hb6.size;have hs6':w4.heap.size+1<=w6.heap.size:=by simpa[World.setRow]using hs6
   have hA1:∀q,A'.map (·.block)=some q->A.map (·.block)=some q∨w4.heap.size<=q:=fun q e=>by
    exact x0yz
   have hrow1:rowOf w6 (g+1)=worA Wor.zero WLoc.zero∧frOf w6 (g+1)=(0,0):=by
    exact x8cd
   have hrow2:rowOf w6 g=worA x L∧frOf w6 g=(0,0):=by
    have h1:=rowOf_heap (hg6.block g (by simp;omega) (fun e=>hgA g (by omega) e.symm));have h2:=rowOf_heap (Below.heap_alloc w4 (.cells #[iv e'] 41) g (by omega));exact⟨(h1.1.trans h2.1).trans b3.1,(h1.2.trans h2.2).trans b3.2.1⟩
   have hbel1:Below g w w6:=(HB4.out.alloc (by omega) _).trans (hb6.mono (by omega));have HNEW:Hid (x=worGo (l.take (k+1)) x0∧WorOk x):=qH (by
    refine⟨?_,HX.out.2⟩;rw[HSD.out.2];unfold worTry;dsimp only;rw[HRES.out,if_neg HC1.out])
   have HI2:Hid (∀v:World,(∀q,g+2<=q->A'.map (·.block)≠some q->q<w6.heap.size->v.heap[q]?=w6.heap[q]?)->WorIn v x L):=qH (fun v hv=>HI.out v (fun q h1 h2 h3=>(hv q h1 (fun e=>by
     rcases hA1 q e with h9|h9
     ·exact h2 h9
     omega) (by omega)).trans ((hk1 q (by omega) h2 (by omega)).trans (HK1.out q h3))))
   have HR1:Hid (rowOf w6 g=worA x L∧frOf w6 g=(0,0)∧rowOf w6 (g+1)=worA Wor.zero WLoc.zero∧frOf w6 (g+1)=(0,0)):=qH ⟨hrow2.1,hrow2.2,hrow1.1,hrow1.2⟩;have HO2:Hid (Own w6 (g+2) 41 1 A' (k+1) c' ((worSaid (l.take (k+1)) x0).map iv)):=qH (by rw[HSD.out.1,List.map_append];exact hown6);have HB5:Hid (Below g w w6∧g+2<=w6.heap.size):=qH ⟨hbel1,by omega⟩;clear hown6 hg6 hb6 hor6 hk1 hA1 hrow1 hrow2 hbel1 hown1 hsrc hs6 b3 b1;go_roundw
   case rel=>exact⟨k+1,x,L,A',c',by omega,by go_num,by first|rfl|go_num,HNEW,HR1,HI2,HO2,HB5⟩
   case measure=>simp[intOf];omega
  obtain rfl:k=l.length:=by omega
  have dl:decide ((l.length:Int)<(l.length:Int))=false:=by simp
  have hxx:=HX.out.1;rw[List.take_length]at hxx;have hoo:=HO.out;rw[List.take_length]at hoo;have HXX:=qH hxx;have HOO:=qH hoo;have a2:=keep1 (bW wr) HR.out.1 (by go_simp) HR.out.2.1;have a1:=keep1 (bW wr) HR.out.2.2.1 (by go_simp) HR.out.2.2.2;clear hxx hoo;go_wp2_with fail;refine bodyPost_ret (results_ctt rfl rfl (cs:=worA x L) (by go_simp) (by go_simp) (by go_simp)) rfl ?_;rw[<-HXX.out];refine⟨L,A,c,g+2,by rw[said_len];rfl,?_,by rw[HG.out];omega,?_,?_⟩
  ·rw[said_len];exact HOO.out.same (w':=wr.setRow (g+1) (worA x L)) (fun q e=>setRow_other _ _ _ _ (by have:=(HOO.out.block q e).1;omega))
  ·exact fun v hv=>HI.out v (fun q h1 h2 h3=>(hv q h1 h2 (by simpa[World.setRow]using h3)).trans (setRow_other _ _ _ _ (by omega)))
  rw[HG.out];exact below_row HB.out.1 (by omega) _
def RdRet(w:World)(d:Dev):Ending->World->Prop:=fun en w'=>
 ∃L,en=.returned (.tuple #[.agg (devA d L),.agg (recA d.rec_),iv 0])∧Fresh w.heap.size w' (fun v=>DvOwn v w.heap.size d L)∧Below w.heap.size w w'
theorem devReady_check(h:devCheck d≠0):devReady d=devCheck d:=by unfold devReady;rw[if_pos h]
theorem devReady_off(h:devCheck d=0)(hu:d.up=false):devReady d=5:=by unfold devReady;rw[if_neg (by omega),if_pos hu]
theorem devReady_up(h:devReady d=0):devCheck d=0∧d.up=true:=by
 have:=devReady_ok.1 h;exact⟨devCheck_ok.2 this.1,this.2⟩
theorem ready_bad(d:Dev)(L:DLoc)(w:World)(h:DevIn w d L)(hne:devReady d≠0):Calls Tryz.prog 39 #[.agg (devA d L)] w (RetB w (.tuple #[.agg (devA Dev.zero DLoc.zero),.agg (recA Rec.zero),iv (devReady d)])):=by
 have hba:=(((bW w).alloc nl (.cells (devA d L) 38)).alloc (by simp) (.cells (devA Dev.zero DLoc.zero) 38)).alloc (by simp;omega) (.cells (recA Rec.zero) 29);have HBA:=qH hba;have HIN:=qH h;have K1:=qH (fun w h=>devCheck_calls d L w h);by_cases hc:devCheck d≠0
 first|case' inl=>have T2:Hid True:=qH trivial|case' pos=>have T2:Hid True:=qH trivial|case' refine_1=>have T2:Hid True:=qH trivial
 iterate 2
  ·first
    |
     revert T2;intro T2;rw[devReady_check hc];have q:(devCheck d !=0)=true:=by simp[hc]
     generalize devCheck d=n at *
    |
     have hc:=Decidable.not_not.1 hc;have hu:d.up=false:=by
      cases hu:d.up
      ·rfl
      exact absurd (devReady_ok.2 ⟨devCheck_ok.1 hc,hu⟩) hne
     rw[devReady_off hc hu];rw[hc]at K1
   clear hne hc h hba;go_enter Tryz.func39,Tryz.ntmps39;go_wp2_with fail;refine(K1.out _ (HIN.out.stays HBA.out)).mono ?_;rintro e w1 ⟨rfl,hb1⟩;have a0:=kp (w.heap.size) (devA d L) hb1;have a1:=kp (w.heap.size+1) (devA Dev.zero DLoc.zero) hb1;have a2:=kp (w.heap.size+1+1) (recA Rec.zero) hb1;have HB1:=bT HBA hb1;clear hb1;go_wp2_with fail;refine bodyPost_ret (results_cct rfl rfl (cs:=devA Dev.zero DLoc.zero) (ds:=recA Rec.zero) (by go_simp) (by go_simp) (by go_simp) rfl (by go_simp) (by go_simp) (by go_simp)) rfl ⟨rfl,bZ HB1⟩
def rdJ(w0:World)(g:Nat)(d:Dev):Nat->(Nat->Value)->World->Prop
 |0,_,w=>w=w0.drew
 |1,cv,w=>∃L2,cv 1=.agg (devA d L2)∧Fresh w0.heap.size w (fun v=>DvOwn v w0.heap.size d L2)∧Below w0.heap.size w0 w
 |2,_,w=>∃L2 w2,Fresh w0.heap.size w2 (fun v=>DvOwn v w0.heap.size d L2)∧Below w0.heap.size w0 w2∧w=w2.setRow (g+1) (devA d L2)
 |_,_,w=>∃L2 w2,Fresh w0.heap.size w2 (fun v=>DvOwn v w0.heap.size d L2)∧Below w0.heap.size w0 w2∧w=(w2.setRow (g+1) (devA d L2)).setRow (g+1+1) (recA d.rec_)
theorem rdJ_bel(hk:k<=1)(hJ:rdJ w0 g d k cv w):Below w0.heap.size w0 w:=by
 match k,hk,hJ with
 |0,_,hJ=>obtain rfl:w=w0.drew:=hJ;exact(Below.refl _ _).drew
 |1,_,⟨_,_,_,h⟩=>exact h
theorem rdJ_any{g6:Nat}(hk:k<=2)(hg:g6≠g+1)(hr:rowOf w0 g6=recA d.rec_)(hf:frOf w0 g6=(0,0))(hz:rowOf w0 (g+1)=devA Dev.zero DLoc.zero)(hJ:rdJ w0 g d k cv w):rowOf w g6=recA d.rec_∧frOf w g6=(0,0):=by
 have hlt:=row_lt (w:=w0) (g:=g6) (by rw[hr];simp[recA]);have hlt1:=row_lt (w:=w0) (g:=g+1) (by rw[hz];simp[devA])
 match k,hk,hJ with
 |0,_,hJ=>have hb:=rdJ_bel (k:=0) (by omega) hJ;exact⟨(rowOf_below hlt hb).trans hr,(frOf_below hlt hb).trans hf⟩
 |1,_,hJ=>have hb:=rdJ_bel (k:=1) (by omega) hJ;exact⟨(rowOf_below hlt hb).trans hr,(frOf_below hlt hb).trans hf⟩
 |2,_,⟨L2,w2,_,hb,e⟩=>
  subst e;rw[rowOf_setRow _ _ _ _ (by rw[rowOf_below hlt1 hb,hz];simp[devA]),if_neg hg,frOf_setRow];exact⟨(rowOf_below hlt hb).trans hr,(frOf_below hlt hb).trans hf⟩
theorem ready_ok(d:Dev)(L:DLoc)(w:World)(h:DevIn w d L)(hz:devReady d=0):Calls Tryz.prog 39 #[.agg (devA d L)] w (RdRet w d):=by
 have hba:=(((bW w).alloc nl (.cells (devA d L) 38)).alloc (by simp) (.cells (devA Dev.zero DLoc.zero) 38)).alloc (by simp;omega) (.cells (recA Rec.zero) 29);have HBA:=qH hba;have HIN:=qH h;have K1:=qH (fun w h=>devCheck_calls d L w h);obtain⟨hc,hu⟩:=devReady_up hz;have K2:=qH (fun w=>read_ok d.c0 d.c1 w (devCheck_ok.1 hc).cops);obtain⟨rk,hrk⟩:=eX ((recRead d.c0 d.c1).2);have hrec:(recRead d.c0 d.c1).1=d.rec_:=rfl;rw[hrk,hrec]at K2;rw[hc]at K1;clear hz hc h hba hrk hrec;go_enter Tryz.func39,Tryz.ntmps39;go_wp2_with fail;refine(K1.out _ (HIN.out.stays HBA.out)).mono ?_;rintro e w1 ⟨rfl,hb1⟩;have a3:=kp (w.heap.size) (devA d L) hb1;have a1:=kp (w.heap.size+1) (devA Dev.zero DLoc.zero) hb1;have a2:=kp (w.heap.size+1+1) (recA Rec.zero) hb1;have HB1:=bT HBA hb1;clear hb1;go_wp2_with fail;refine(K2.out _).mono ?_;rintro e w2 ⟨rfl,hb1⟩;have a3:=kr a3 hb1;have a1:=kr a1 hb1;have a2:=kr a2 hb1;have HB2:=bT HB1 hb1;clear hb1;go_wp2_with fail;have q1:rowOf (w2.alloc (.cells (recA d.rec_) 29)) w.heap.size=devA d L:=by rw[rowOf_alloc,if_neg a3.2.2.1];exact a3.1
 have q2:frOf (w2.alloc (.cells (recA d.rec_) 29)) w.heap.size=(0,0):=by rw[frOf_alloc,if_neg a3.2.2.1];exact a3.2.1
 have q3:rowOf (w2.alloc (.cells (recA d.rec_) 29)) (w.heap.size+1)=devA Dev.zero DLoc.zero:=by rw[rowOf_alloc,if_neg a1.2.2.1];exact a1.1
 have q4:frOf (w2.alloc (.cells (recA d.rec_) 29)) (w.heap.size+1)=(0,0):=by rw[frOf_alloc,if_neg a1.2.2.1];exact a1.2.1
 have q5:rowOf (w2.alloc (.cells (recA d.rec_) 29)) (w.heap.size+1+1)=recA Rec.zero:=by rw[rowOf_alloc,if_neg a2.2.2.1];exact a2.1
 have q6:frOf (w2.alloc (.cells (recA d.rec_) 29)) (w.heap.size+1+1)=(0,0):=by rw[frOf_alloc,if_neg a2.2.2.1];exact a2.2.1
 have q7:rowOf (w2.alloc (.cells (recA d.rec_) 29)) w2.heap.size=recA d.rec_:=by rw[rowOf_alloc,if_pos rfl]
 have q8:frOf (w2.alloc (.cells (recA d.rec_) 29)) w2.heap.size=(0,0):=by rw[frOf_alloc,if_pos rfl]
 have HB3:Hid (Below w.heap.size w (w2.alloc (.cells (recA d.rec_) 29))):=qH (HB2.out.alloc HB2.out.size _);have HSZ:Hid (w.heap.size+1+1<(w2.alloc (.cells (recA d.rec_) 29)).heap.size):=qH (by simp;omega);have HG1:Hid (w2.heap.size≠w.heap.size+1):=qH (by omega);obtain⟨g1,hg1⟩:=eX (w2.heap.size);obtain⟨w3,hw1⟩:=eX (w2.alloc (.cells (recA d.rec_) 29));obtain⟨g,hg⟩:=eX (w.heap.size);rw[hw1,hg]at q1 q2 q3 q4 q5 q6 HB3 HSZ;rw[hw1,hg1]at q7 q8;rw[hg1,hg]at HG1;rw[hw1,hg1,hg];have RD:=qH q1;have FD:=qH q2;have RZ:=qH q3;have FZ:=qH q4;have RY:=qH q5;have FY:=qH q6;have RR:=qH q7;have FR:=qH q8;have HG:=qH hg;have KC:Hid (∀wq,Below w3.heap.size w3 wq->Calls Tryz.prog 41 #[.agg (devA d L)] wq (DcRet wq d)):=qH (fun wq h=>devCopy_calls d L wq ((HIN.out.stays (HG.out▸HB3.out)).stays h));clear q1 q2 q3 q4 q5 q6 q7 q8 hw1 hg1 hg a3 a1 a2;refine wp_region_mix (by kernel_rfl) (some 28::some 29::some 30::some 31::none::none::some 4::[]) (none::some 0::none::none::some 1::some 2::none::[]) (.agg (devA d L)::undef::.agg (recA d.rec_)::iv 0::undef::undef::iv 0::[]) 3 (rdJ w3 g d) 32 rfl rfl (by decide+kernel) (by decide+kernel) (by decide+kernel) (by decide+kernel) rfl rfl (by decide+kernel) (by decide+kernel) (rfl) ?_ ?_
 ·refine⟨?_,?_,?_,?_,?_,?_,?_,trivial⟩
  ·intro done cv k1 a wq hw h hJ hn;have e1:=mO 1 (.pointer (some ⟨g,0,none⟩)) h;have hk:=hn 4 _ 1 rfl rfl (by decide);have hb:=rdJ_bel hk hJ;obtain⟨r_,f_,n_,c_,z_,l_⟩:=keep1 hb RD.out (by go_simp) FD.out;go_simp
  ·intro done cv a wq hw h hJ;have e1:=mN 0 28 h hw;obtain rfl:wq=w3.drew:=hJ;refine wp_call (vals:=#[.agg (devA d L)]) (by rw[List.map_toArray,List.map_cons,List.map_nil,ch_ev e1]) (enters_of Tryz.func41 (by kernel_rfl) rfl _ _) (KC.out _ ((Below.refl _ _).drew)) ?_;rintro e w' ⟨L1,rfl,hfr,hbel⟩;exact⟨_,rfl,_,rfl,L1,by simp,hfr,(Below.refl _ _).drew.trans hbel⟩
  ·intro done cv k1 a wq hw h hJ hn;have e1:=mO 6 (.pointer (some ⟨g1,0,none⟩)) h;have hk:=hn 5 _ 2 rfl rfl (by decide);obtain⟨r_,f_⟩:=rdJ_any hk HG1.out RR.out FR.out RZ.out hJ;go_simp
  ·intro done cv k2 a wq hw h hJ hn;have e1:=mO 8 (iv 0) h;exact mx_move (ch_ev e1)
  ·intro done cv a wq hw h hJ;have e1:=mO 2 (.pointer (some ⟨g+1,0,none⟩)) h;have e29:=mx_cv (i:=1) (t:=29) h (hw 1 (by decide)) rfl rfl;obtain⟨L1,y1,hfr,hbel⟩:=hJ;rw[y1]at e29;obtain⟨r_,f_,n_,c_,z_,l_⟩:=keep1 hbel RZ.out (by go_simp) FZ.out;refine wp_srow e1 e29 (by go_simp) (by go_simp) r_ (by go_simp) f_ (by go_simp) ⟨undef,rfl,L1,wq,hfr,hbel,?_⟩;rw[splice_all _ _ (by simp[devA])]
  ·intro done cv a wq hw h hJ;have e1:=mO 3 (.pointer (some ⟨g+1+1,0,none⟩)) h;have e30:=mN 2 30 h hw;obtain⟨L1,w2,hfr,hbel,rfl⟩:=hJ;obtain⟨r_,f_,n_,c_,z_,l_⟩:=keep1 hbel RY.out (by go_simp) FY.out;have r2_:=keep1 hbel RZ.out (by go_simp) FZ.out;refine wp_srow e1 e30 (by go_simp) (by go_simp) (cs:=recA Rec.zero) (by rw[rowOf_setRow _ _ _ _ (by rw[r2_.1];simp[devA]),if_neg (by omega)];exact r_) (by go_simp) (by rw[frOf_setRow];exact f_) (by go_simp) ⟨undef,rfl,L1,w2,hfr,hbel,?_⟩;rw[splice_all _ _ (by simp[recA])]
  ·intro done cv k1 a wq hw h hJ hn;have e1:=mN 3 31 h hw;exact mx_assign (ch_ev e1)
 intro cv w4 hJ;obtain⟨L1,w5,hfr,hbel,rfl⟩:=hJ;simp only[mixAll,putAll_some,putAll_none,putAll_nil,List.getElem?_cons_zero,List.getElem?_cons_succ,Nat.zero_add,Nat.reduceAdd,List.setIfInBounds_toArray,List.set_cons_zero,List.set_cons_succ];have hsz:=HSZ.out;have hge:=HG.out;obtain⟨r_,f_,n_,c_,z_,l_⟩:=keep1 hbel RY.out (by go_simp) FY.out;have r2_:=keep1 hbel RZ.out (by go_simp) FZ.out;have HFR:=qH hfr;have HB4:=qH hbel;clear hfr hbel;go_wp2_with fail;refine bodyPost_ret (results_cct rfl rfl (cs:=devA d L1) (ds:=recA d.rec_) (by go_simp) (by go_simp) (by go_simp) rfl (by go_simp) (by go_simp) (by go_simp)) rfl ⟨L1,rfl,?_,?_⟩
 ·refine Fresh.imp (P:=fun v=>DvOwn v w3.heap.size d L1) (Fresh.mono (base:=w3.heap.size) ?_ (by omega)) (fun v hv=>hv.mono (by omega));repeat (first|exact HFR.out|refine Fresh.row ?_ (by omega) _)
 rw[hge];have hb1:=HB3.out.size;have hb:=HB3.out.trans (HB4.out.mono (by omega));repeat (first|exact hb|refine bR ?_ _)
end Go.Proofs.YtefkfglkpebbmadGreat
