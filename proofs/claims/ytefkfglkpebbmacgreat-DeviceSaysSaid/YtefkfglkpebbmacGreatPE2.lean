/- Walks of functions, and plain words. No conditions. -/
import Derived.Test.YtefkfglkpebbmacGreatPE1
import Derived.StillTailTactics
import Derived.Laws.IdiomStrings
import Derived.Laws.BytesArg
set_option linter.unusedVariables false
set_option linter.unusedSimpArgs false
set_option maxRecDepth 100000
set_option maxHeartbeats 40000000
namespace Go.Proofs.YtefkfglkpebbmacGreat
open Go.RowKit
variable {Y:Prop}
variable {w w' w0:World} {l:List Stp} {A:OA} {n g base c ib ia k:Nat} {xs ns:List Value} {cv:Nat->Value} {ds:List (Option Addr×Nat)}
section
variable (A:OA) (c:Nat) (l:LU) (w:World)
theorem sumOf_calls(hl:l.length<=140737488355328)(hr:Bts w A l):
  Calls Tryz.prog 20 #[.slice A l.length c] w (Ret w (iv (sumOn 1 l))):=by
 go_enter Tryz.func20,Tryz.ntmps20
 go_wp2
 go_loop [3,5,8] (fun s x i=>∃k:Nat,k<=l.length∧i=.int .i64 k∧s=.int .i64 (sumOn 1 (l.take k))) (fun _ _ i=>l.length-(intOf i).toNat)
 case atStart=>exact⟨0,Nat.zero_le _,rfl,rfl⟩
 case round=>
  obtain⟨k,hk,rfl,rfl⟩:=hrel;have hb:=sumOn_bd 1 (l.take k) (by omega);by_cases hlt:k<l.length
  ·obtain⟨b,o,rfl,hbs,hc⟩:=hr k hlt;have hx:=l[k].toNat_lt;have HS:Hid (sumOn 1 (l.take (k+1))=(sumOn 1 (l.take k)*31+(l[k].toNat:Int))%65521):=sumOn_take 1 l k hlt
   go_wp2
   go_round
   case rel=>exact⟨k+1,by omega,by go_num,by rw[HS.out]⟩
   case measure=>simp[intOf]<;>omega
  go_wp2
  go_ret;exact⟨ret_int (by rw[List.take_of_length_le (by omega)]),rfl⟩
end
def ByRet2(w:World)(l:LU)(n:Int):Ending->World->Prop:=fun en w'=>
 ∃A c,en=.returned (.tuple #[.slice A l.length c,iv n])∧Bts w' A l∧l.length<=c∧Below w.heap.size w w'
theorem Bts.drop{b o:Nat}{l:LU}(h:Bts w (some ⟨b,o,none⟩) l)(k:Nat):Bts w (some ⟨b,o+k,none⟩) (l.drop k):=by
 intro i hi;simp only[List.length_drop]at hi;obtain⟨b',o',hA,hlt,hc⟩:=h (k+i) (by omega);injection hA with hA;injection hA with e1 e2;subst e1 e2;refine⟨b,o+k,rfl,hlt,?_⟩;rw[Nat.add_assoc,hc];simp
theorem Bts.take{l:LU}(h:Bts w A l)(k:Nat):Bts w A (l.take k):=by
 intro i hi;simp only[List.length_take]at hi;obtain⟨b,o,hA,hlt,hc⟩:=h i (by omega);exact⟨b,o,hA,hlt,by rw[hc];simp⟩
theorem mid_bts(c:Nat){old:LU}{a:Nat}(h:Bts w A old)(hc:old.length<=c)(hn:a+n<=old.length):Bts w (if c=a then A else Option.map (fun x=>x.add a) A) ((old.drop a).take n):=by
 by_cases e:n=0
 ·subst e;rw[List.take_zero];exact Bts.nil _ _
 obtain⟨b,o,rfl,hlt,_⟩:=h 0 (by omega);rw[if_neg (by omega)];have e1:Option.map (fun x:Addr=>x.add a) (some ⟨b,o,none⟩)=some ⟨b,o+a,none⟩:=by simp[Addr.add]
 rw[e1];exact(h.drop a).take n
theorem deltaApply_bad(A:OA)(c:Nat)(old:LU)(B:OA)(d:Nat)(l:List Stp)(size:Int)(w:World)(ho:old.length<=140737488351232)(hl:l.length<=3518437208780)(hr:Sps w B l)(h:deltaCheck l old.length size≠0):
  Calls Tryz.prog 77 #[.slice A old.length c,.slice B l.length d,iv size] w (RetB w (.tuple #[.slice none 0 0,iv (deltaCheck l old.length size)])):=by
 have hb:(deltaCheck l old.length size !=0)=true:=by simp[h]
 clear h;go_enter Tryz.func77,Tryz.ntmps77;go_wp2_with fail;refine(deltaCheck_calls B d l old.length size w hl hr).mono ?_;rintro e w1 ⟨rfl,hb1⟩;go_wp2_with fail;go_ret2;exact⟨rfl,hb1⟩
theorem deltaApply_ok(A:OA)(c:Nat)(old:LU)(B:OA)(d:Nat)(l:List Stp)(size:Int)(w:World)(hc:old.length<=c)(hA:Bts w A old)(hl:l.length<=3518437208780)(hr:Sps w B l)(h:deltaCheck l old.length size=0):
  Calls Tryz.prog 77 #[.slice A old.length c,.slice B l.length d,iv size] w (ByRet2 w (applied old l) 0):=by
 have hd:=deltaCheck_ok.1 h;have hc3:∀w,Calls Tryz.prog 102 #[.slice B l.length d,iv (old.length:Int),iv size] w (RetB w (iv (deltaCheck l old.length size)))->Calls Tryz.prog 102 #[.slice B l.length d,iv (old.length:Int),iv size] w (RetB w (iv 0)):=by
  intro w hw;rw[h]at hw;exact hw
 have hcc:=hc3 w (deltaCheck_calls B d l old.length size w hl hr);have HC:=qH hcc;have HD:=qH hd;have ho1:=hd.o1;have hm:=hd.many;clear hc3 hcc h hd;go_enter Tryz.func77,Tryz.ntmps77;go_wp2_with fail;refine HC.out.mono ?_;rintro e w1 ⟨rfl,hb1⟩;have HB1:=qH hb1;clear hb1;go_wp2_with fail;go_loopw [9,22] (fun v i wr=>∃(k:Nat) (C:OA) (cc:Nat),k<=l.length∧i=.int .i64 k∧v=.slice C (applied old (l.take k)).length cc∧(applied old (l.take k)).length<=cc∧Bts wr C (applied old (l.take k))∧Hid (Below w.heap.size w wr)) (fun _ i _=>l.length-(intOf i).toNat)
 case atStart=>exact⟨0,none,0,Nat.zero_le _,rfl,rfl,Nat.le_refl _,Bts.nil _ _,HB1⟩
 case round=>
  obtain⟨k,C,cc,hk,rfl,rfl,hcl,hC,HB⟩:=hrel;by_cases hlt:k<l.length
  ·obtain⟨b,o,D,dd,rfl,hs,hc3,hc1,hc2,hd1,hd2,hD,hi2,hi1⟩:=(hr.stays HB.out).at_ hlt;have hsz:=HB.out.size;have hx:l.take (k+1)=l.take k++[l[k]]:=List.take_succ_eq_append_getElem hlt;obtain⟨hform,hin⟩:=HD.out.each _ (List.getElem_mem hlt);have hlen:(applied old (l.take (k+1))).length<=64:=by
    have h1:=applied_len (old:=old) (l:=l.take (k+1)) (fun o ho=>(HD.out.each o (List.mem_of_mem_take ho)).2);have h1:=HD.out.take (k+1);have:=h1.2.2.2;have:=HD.out.s1;omega
   have happ:applied old (l.take (k+1))=applied old (l.take k)++l[k].piece old:=by rw[hx,applied_append,applied_one]
   have HX:=qH happ;rw[happ]at hlen;clear happ hx hform;generalize hx:l[k]=x at *
   clear hx;obtain⟨at_,len,data⟩:=x;unfold Stp.in_ at hin;dsimp only at *
   obtain⟨j1,j2,j3⟩:=hin;obtain⟨n,rfl⟩:=Int.eq_ofNat_of_zero_le j1;obtain⟨a,rfl⟩:=Int.eq_ofNat_of_zero_le j2;have j3:a+n<=old.length:=by omega
   clear j1 j2 hi2 hi1;generalize hp:applied old (l.take k)=pre at *
   clear hp;have hpl:pre.length<=64:=by rw[List.length_append]at hlen;omega
   have hdl:data.length<=64:=by rw[List.length_append]at hlen;simp only[Stp.piece,List.length_append]at hlen;omega
   clear hlen;have w1':IntKind.i64.wrap ((a:Int)+(n:Int))=(a:Int)+(n:Int):=IntWalk.i64_in _ (by omega);have w1:((a:Int)+(n:Int)).toNat=a+n:=by omega
   have w2:(0:Int)<=(a:Int):=by omega
   have w3:(a:Int)<=(a:Int)+(n:Int):=by omega
   have w3:(a:Int)+(n:Int)<=(c:Int):=by omega
   have w3:a+n-a=n:=by omega
   have hMM:∀w',Below wr.heap.size wr w'->Bts w' (if c=a then A else Option.map (fun x=>x.add a) A) ((old.drop a).take n):=fun w' hb=>(mid_bts c (hA.stays HB.out) hc j3).stays hb;have hml:((old.drop a).take n).length=n:=by simp;omega
   have HM:=qH hMM;have HML:=qH hml;have hDs:∀w',Below wr.heap.size wr w'->Bts w' D data:=fun w' hb=>hD.stays hb;have hCs:∀w',Below wr.heap.size wr w'->Bts w' C pre:=fun w' hb=>hC.stays hb;have HDs:=qH hDs;have HCs:=qH hCs;clear hMM hml hDs hCs hD hC;go_wp2_with fail;refine wp_region_still_tail 12 (by kernel_rfl) (by kernel_rfl) ?_
   change wpStill _ _ ((wr.alloc _).drew) _ _ _
   simp only[List.take_succ_cons,List.take_zero,List.drop_succ_cons,List.drop_zero];repeat still_step
   refine wpStill_nil ?_;generalize (if c=a then A else Option.map (fun x=>x.add a) A)=M at *
   have hb1:Below wr.heap.size wr ((wr.alloc (.cells #[.int .i64 a,.int .i64 n,.slice D data.length dd] 121)).drew):=((Below.refl _ _).alloc (Nat.le_refl _) _).drew
   change wpList _ _ _ _ _ ((wr.alloc (.cells #[.int .i64 a,.int .i64 n,.slice D data.length dd] 121)).drew)
   have HB1:=qH hb1;have hs1:wr.heap.size<((wr.alloc (.cells #[.int .i64 a,.int .i64 n,.slice D data.length dd] 121)).drew).heap.size:=by simp
   clear hb1;generalize (wr.alloc (.cells #[.int .i64 a,.int .i64 n,.slice D data.length dd] 121)).drew=w1 at *
   have HT:Hid (applied old (l.take (k+1))=pre++(old.drop a).take n++data):=by
    refine qH ?_;rw[HX.out];simp[Stp.piece]
   clear HX;go_wp2_with fail;have hcat:=concat3_calls (w:=w1.alloc (.cells #[.slice C pre.length cc,.slice M n (c-a),.slice D data.length dd] 22)) (g:=w1.heap.size) (A:=C) (B:=M) (C:=D) (a:=pre) (b:=(old.drop a).take n) (l:=data) (c:=cc) (d:=c-a) (k:=dd) (t:=22) (fr:=(0,0))
    (by rw[HML.out];exact blk_top rfl) (by rw[HML.out];omega) (HCs.out _ (HB1.out.alloc HB1.out.size _)) (HM.out _ (HB1.out.alloc HB1.out.size _)) (HDs.out _ (HB1.out.alloc HB1.out.size _))
   refine hcat.mono ?_;rintro e w1 ⟨C',c',rfl,hown,hb1⟩;have HO:=qH hown;have HB1:Hid (Below w.heap.size w w1):=qH ((HB.out.trans (HB1.out.mono hsz)).trans ((((Below.refl _ _).alloc (Nat.le_refl _) _).mono (by omega)).trans (hb1.mono (by simp;omega))));clear hcat hown hb1;go_wp2_with fail;go_roundw
   case rel=>
    refine⟨k+1,C',c',by omega,by go_num,by rw[HT.out];simp,?_,?_,HB1⟩
    ·rw[HT.out];exact HO.out.le
    rw[HT.out];exact HO.out.src.bts
   case measure=>simp[intOf];omega
  obtain rfl:k=l.length:=by omega
  rw[List.take_length]at hcl hC;go_wp2_with fail;exact bodyPost_ret (results_tmp2 rfl _ _ _) rfl ⟨C,cc,by simp,hC,hcl,HB.out⟩
def axOf(old:LU)(l:List Stp)(size:Int):List UInt8×Int:=if deltaCheck l old.length size≠0 then ([],deltaCheck l old.length size)else (applied old l,0)
theorem byRet2_nil{n:Int}{e:Ending}(h:RetB w (.tuple #[.slice none 0 0,iv n]) e w'):ByRet2 w [] n e w':=
 ⟨none,0,h.1,Bts.nil _ _,Nat.le_refl _,h.2⟩
theorem applyAny_calls(A:OA)(c:Nat)(old:LU)(B:OA)(d:Nat)(l:List Stp)(size:Int)(w:World)(hc:old.length<=c)(ho:old.length<=140737488351232)(hA:Bts w A old)(hl:l.length<=3518437208780)(hr:Sps w B l):
  Calls Tryz.prog 77 #[.slice A old.length c,.slice B l.length d,iv size] w (ByRet2 w (axOf old l size).1 (axOf old l size).2):=by
 unfold axOf;by_cases h:deltaCheck l old.length size=0
 ·rw[if_neg (by simpa using h)];exact deltaApply_ok A c old B d l size w hc hA hl hr h
 rw[if_pos h];exact(deltaApply_bad A c old B d l size w ho hl hr h).mono fun _ _=>byRet2_nil
def apJ(w0:World)(base:Nat)(e:TypeId)(size:Nat)(A:OA)(n c:Nat)(xs ns:List Value)(m:Nat)(ib ia:Nat)(F:World->Prop):Nat->(Nat->Value)->World->Prop
 |0,_,w=>w=w0.drew
 |1,cv,w=>w=w0.drew.alloc (.cells ns.toArray e)∧cv ib=.slice (some ⟨w0.heap.size,0,none⟩) m m
 |2,cv,w=>∃A' c',cv ia=.slice A' (n+m) c'∧Own w base e size A' (n+m) c' (xs++ns)∧Below base w0 w∧(∀k,k<w0.heap.size->A.map (·.block)≠some k->w.heap[k]?=w0.heap[k]?)∧(A'.map (·.block)=A.map (·.block)∨∀k,A'.map (·.block)=some k->w0.heap.size<=k)
 |_,_,w=>F w
section
variable {w0 w w':World} {base size n c m ib ia k:Nat} {e T:TypeId} {A A':OA} {c':Nat} {xs ns:List Value} {F:World->Prop} {cv:Nat->Value}
theorem apJ_blk{o:Obj}(hk:k<=1)(hJ:apJ w0 base e size A n c xs ns m ib ia F k cv w)(h:w0.heap[g]?=some o):w.heap[g]?=some o:=by
 match k,hk,hJ with
 |0,_,hJ=>obtain rfl:w=w0.drew:=hJ;exact h
 |1,_,⟨hJ,_⟩=>subst hJ;exact blk_old (w:=w0.drew) h
theorem apJ_app(hown:Own w' base e size A' (n+m) c' (xs++ns))(hgr:(w0.drew.alloc (.cells ns.toArray e)).grownBy w' (A.map (·.block)))(hbel:Below base (w0.drew.alloc (.cells ns.toArray e)) w')
  (hor:A'.map (·.block)=A.map (·.block)∨A'.map (·.block)=some (w0.drew.alloc (.cells ns.toArray e)).heap.size) (hle:base<=w0.heap.size):
  apJ w0 base e size A n c xs ns m ib ia F 2 (fun j=>if j=ia then .slice A' (n+m) c' else cv j) w':=by
 have hb1:Below base w0 (w0.drew.alloc (.cells ns.toArray e)):=((Below.refl _ _).drew).alloc hle _;exact x5lc
end
def apF(w0:World)(base:Nat)(e:TypeId)(size:Nat)(A:OA)(n c:Nat)(xs ns:List Value)(m gp j:Nat)(w:World):Prop:=
 ∃A2 c2 wq,w=wq.setCell ⟨gp,j,none⟩ (.slice A2 (n+m) c2)∧Own wq base e size A2 (n+m) c2 (xs++ns)∧Below base w0 wq∧(∀k,k<w0.heap.size->A.map (·.block)≠some k->wq.heap[k]?=w0.heap[k]?)∧(A2.map (·.block)=A.map (·.block)∨∀k,A2.map (·.block)=some k->w0.heap.size<=k)
theorem apJ_any{size m gp j:Nat}{e:TypeId}{o:Obj}(hJ:apJ w0 base e size A n c xs ns m ib ia (apF w0 base e size A n c xs ns m gp j) k cv w)(h:w0.heap[g]?=some o)(hA:A.map (·.block)≠some g)(hg:g≠gp):w.heap[g]?=some o:=by
 match k,hJ with
 |0,hJ=>exact apJ_blk (k:=0) (F:=apF w0 base e size A n c xs ns m gp j) (Nat.zero_le _) hJ h
 |1,hJ=>exact apJ_blk (k:=1) (F:=apF w0 base e size A n c xs ns m gp j) (Nat.le_refl _) hJ h
 |2,⟨A2,c2,_,_,_,k2,_⟩=>exact(k2 g (blk_lt h) hA).trans h
 |q+3,⟨A2,c2,wq,e,_,_,k2,_⟩=>
  subst e;rw[Below.heap_setCell _ _ _ _ (fun e2=>hg e2)];exact(k2 g (blk_lt h) hA).trans h
theorem wp_callv{P:Program}{Q:Exit->Act->World->Prop}{K:Act->World->Prop}{R:Ending->World->Prop}{d:Option Tmp}{t:TypeId}{p:String}{af:Array Edge}{g:Option (Nat×Bool)}{a:Act}{f:FuncId}{x:Tmp}{cap:Array Value}{args:Array Operand}{ts:Array TypeId}{vals:Array Value}
  (hx:a.tmps[x]?=some (.func (Fn.func f) #[] cap)) (e:args.map a.eval++cap=vals) (hf:(callFunc f vals).run P w=.ok (.enter f vals) w) (h:Calls P f vals w R)
  (hk:∀e w',R e w'->∃v,e=.returned v∧K (a.put d v) w'):Oper.wp P ⟨d,.call {callee:=.value (.tmp x),args:=args,argTypes:=ts},t,p,af,g⟩ a w K Q:=by
 have e1:a.eval (.tmp x)=.func (Fn.func f) #[] cap:=by simp[Act.eval,hx]
 have hx:(execOp a.eval ⟨d,.call {callee:=.value (.tmp x),args:=args,argTypes:=ts},t,p,af,g⟩).run P w=(callFunc f vals).run P w:=by
  simp[execOp,resolve,e,e1,invoke,Deferred.ofValue]
 exact x7hu
theorem x2jf(h:Y:=by
 rcases snoc_at hd' with hd'|⟨rfl,rfl⟩
 ·exact h.off i d' hd' k hk
 exact hd3 k hk):Y:=h
theorem x5hd(h:Y:=by
 intro i o' d' hi hd';rcases snoc_at hi with hi|⟨rfl,rfl⟩
 ·have hil:i<l.length:=(List.getElem?_eq_some_iff.1 hi).1;rw[List.getElem?_append_left (by omega)]at hd';obtain⟨e1,e2⟩:=h.data i o' d' hi hd';exact⟨bts_grown e1 h2 (fun k hk=>(h.off i d' hd' k hk).1),e2⟩
 rw[<-hlen]at hd';simp at hd';subst hd';exact⟨bts_grown hd h2 (fun k hk=>(hd3 k hk).1),hd2⟩):Y:=h
structure CRow(w:World)(base:Nat)(l:List Stp)(ds:List (Option Addr×Nat))(A:OA)(c:Nat):Prop where
 len:ds.length=l.length
 row:Own w base 121 3 A l.length c (opCells l ds)
 data:∀(i:Nat) (o:Stp) (d:Option Addr×Nat),l[i]?=some o->ds[i]?=some d->Bts w d.1 o.data∧o.data.length<=d.2
 off:∀(i:Nat) (d:Option Addr×Nat),ds[i]?=some d->∀k,d.1.map (·.block)=some k->A.map (·.block)≠some k∧k<w.heap.size
theorem CRow.nil(w:World)(base:Nat):CRow w base [] [] none 0:=⟨rfl,Own.nil_ _ _ _ _,fun i o d h=>by simp at h,fun i d h=>by simp at h⟩
theorem CRow.below(h:CRow w base l ds A c)(hb:Below w.heap.size w w'):CRow w' base l ds A c:=
 ⟨h.len,h.row.below hb,fun i o d h1 h2=>⟨(h.data i o d h1 h2).1.stays hb,(h.data i o d h1 h2).2⟩,fun i d h1 k hk=>⟨(h.off i d h1 k hk).1,Nat.lt_of_lt_of_le (h.off i d h1 k hk).2 hb.size⟩⟩
theorem bts_grown{row:Option Nat}{l:LU}(h:Bts w A l)(hg:w.grownBy w' row)(hA:∀k,A.map (·.block)=some k->row≠some k):Bts w' A l:=by
 intro i hi;obtain⟨b,o,rfl,hlt,hc⟩:=h i hi;refine⟨b,o,rfl,Nat.lt_of_lt_of_le hlt hg.size,?_⟩;rw[World.cell?_of_block (hg.block b hlt (fun e=>hA b rfl e.symm))];exact hc
theorem bts_set{p:Addr}{v:Value}{l:LU}(h:Bts w A l)(hA:∀k,A.map (·.block)=some k->p.block≠k):Bts (w.setCell p v) A l:=by
 intro i hi;obtain⟨b,o,rfl,hlt,hc⟩:=h i hi;refine⟨b,o,rfl,by simpa using hlt,?_⟩;rw[World.cell?_setCell_other _ _ _ _ (fun e=>hA b rfl (by rw[e]))];exact hc
theorem CRow.push{A':OA}{c':Nat}{o:Stp}{d:Option Addr×Nat}(h:CRow w base l ds A c)
  (h1:Own w' base 121 3 A' (l.length+1) c' (opCells l ds++opCell o d)) (h2:w.grownBy w' (A.map (·.block))) (h3:A'.map (·.block)=A.map (·.block)∨A'.map (·.block)=some w.heap.size)
  (hd:Bts w d.1 o.data) (hd2:o.data.length<=d.2) (hd3:∀k,d.1.map (·.block)=some k->A.map (·.block)≠some k∧k<w.heap.size):
  CRow w' base (l++[o]) (ds++[d]) A' c':=by
 have hlen:=h.len;refine⟨by simp[hlen],?_,?_,?_⟩
 ·rw[opCells_snoc _ _ _ _ hlen,List.length_append];exact h1
 ·exact x5hd
 intro i d' hd' k hk;have key:A.map (·.block)≠some k∧k<w.heap.size:=by
  exact x2jf
 refine⟨?_,Nat.lt_of_lt_of_le key.2 h2.size⟩;rcases h3 with h3|h3
 ·rw[h3];exact key.1
 rw[h3];intro e;injection e with e;omega
theorem CRow.sps(h:CRow w base l ds A c)(hb:∀o∈l,I64 o.at_∧I64 o.len∧o.data.length<=140737488351232):Sps w A l:=by
 intro i hi;have hd:i<ds.length:=by rw[h.len];exact hi
 have hl:l[i]?=some l[i]:=List.getElem?_eq_getElem hi;have hds:ds[i]?=some ds[i]:=List.getElem?_eq_getElem hd;have hs:=h.row.src;have hcl:=opCells_len l ds h.len;obtain⟨b,o,rfl,hlt,_⟩:=hs (i*3) (by omega);obtain⟨hd1,hd2⟩:=h.data i _ _ hl hds;obtain⟨b1,b2,b3⟩:=hb _ (List.getElem_mem hi);refine⟨b,o,rfl,hlt,opCell l[i] ds[i],rfl,fun j hj=>?_,ds[i].1,ds[i].2,rfl,hd2,b3,hd1,b1,b2⟩;have hj1:j<3:=by simpa[opCell]using hj
 obtain⟨b',o',e,_,hc⟩:=hs (i*3+j) (by omega);injection e with e;injection e with e1 e2;subst e1 e2;rw[show o+i*3+j=o+(i*3+j) by omega,hc];have:=opCells_at l ds h.len i j _ _ hl hds hj1;rw[List.getElem?_eq_getElem (by omega),List.getElem?_eq_getElem hj]at this;exact this
theorem x17v(h:Y:=by
 refine⟨b,o1,e1,?_,(World.cell?_of_block e).trans hc⟩;rcases Nat.lt_or_ge b v.heap.size with h|h
 ·exact h
 rw[Array.getElem?_eq_none h,Array.getElem?_eq_getElem hlt]at e;cases e):Y:=h
theorem x7td(h:Y:=by
 rcases Nat.lt_or_ge k v.heap.size with h|h
 ·exact h
 rw[Array.getElem?_eq_none h,Array.getElem?_eq_getElem hlt]at e1;cases e1):Y:=h
theorem x8f0(h:Y:=by
 exact⟨b,o1,e1,Nat.lt_of_lt_of_le hlt hs,(World.cell?_of_block e).trans hc⟩):Y:=h
theorem x9w3(h:Y:=by
 repeat (first|exact Below.refl _ _|refine bR ?_ _|refine bA ?_ _)):Y:=h
theorem CRow.keep(h:CRow w base l ds A c)(hs:w.heap.size<=w'.heap.size)
  (hk:∀k,k<w.heap.size->(A.map (·.block)=some k∨∃(i:Nat) (e:Option Addr×Nat),ds[i]?=some e∧e.1.map (·.block)=some k)->w'.heap[k]?=w.heap[k]?):CRow w' base l ds A c:=by
 refine⟨h.len,h.row.same (fun k e=>hk k (h.row.block k e).2 (.inl e)),fun i o d h1 h2=>⟨?_,(h.data i o d h1 h2).2⟩,fun i d h1 k e=>⟨(h.off i d h1 k e).1,Nat.lt_of_lt_of_le (h.off i d h1 k e).2 hs⟩⟩;intro j hj;obtain⟨b,o1,e1,hlt,hc⟩:=(h.data i o d h1 h2).1 j hj;have e:=hk b hlt (.inr ⟨i,d,h2,by rw[e1];rfl⟩);exact x8f0
theorem CRow.drewN(h:CRow w base l ds A c)(n:Nat):CRow (w.drewN n) base l ds A c:=h.keep (Nat.le_refl _) (fun _ _ _=>rfl)
theorem CRow.setOther(h:CRow w base l ds A c)(hA:A.map (·.block)≠some g)(hd:∀(i:Nat) (e:Option Addr×Nat),ds[i]?=some e->e.1.map (·.block)≠some g)(v:Value){j:Nat}:CRow (w.setCell ⟨g,j,none⟩ v) base l ds A c:=by
 refine h.keep (by simp) (fun k _ hk=>Below.heap_setCell _ _ _ _ (fun e=>?_));have e:k=g:=e;subst e;rcases hk with hk|⟨i,e,h1,h2⟩
 ·exact hA hk
 exact hd i e h1 h2
theorem CRow.fresh(h:CRow w base l ds A c)(hn:∀(i:Nat) (e:Option Addr×Nat),ds[i]?=some e->∀k,e.1.map (·.block)=some k->base<=k)(hb:∀o∈l,I64 o.at_∧I64 o.len∧o.data.length<=140737488351232):Fresh base w (fun v=>Sps v A l):=by
 intro v hv;refine CRow.sps (w:=v) (base:=base) (ds:=ds) (c:=c) ⟨h.len,own_fresh h.row hv,fun i o d h1 h2=>⟨fun j hj=>?_,(h.data i o d h1 h2).2⟩,fun i d h1 k e=>⟨(h.off i d h1 k e).1,?_⟩⟩ hb
 ·obtain⟨b,o1,e1,hlt,hc⟩:=(h.data i o d h1 h2).1 j hj;have e:=hv b (hn i d h2 b (by rw[e1];rfl)) hlt;exact x17v
 have hlt:=(h.off i d h1 k e).2;have e1:=hv k (hn i d h1 k e) hlt;exact x7td
theorem conv_str(A:OA)(c:Nat)(l:LU)(w:World)(hc:l.length<=c)(h:Bts w A l):(convert 22 9 (.slice A l.length c)).run Tryz.prog w=.ok (.string ⟨l.toArray⟩) w:=by
 by_cases e:l=[]
 ·subst e
  cases A with
  |none=>exact run_convert_bytes_nil (P:=Tryz.prog) w 22 5 Tryz.underlying22 Tryz.underlying5 0 c 9 Tryz.underlying9
  |some a=>exact run_convert_bytes_back (P:=Tryz.prog) w 22 9 5 a c [] Tryz.underlying22 Tryz.underlying5 Tryz.underlying9 (fun j hj=>by simp at hj)
 obtain⟨b,o,rfl,-,-⟩:=h 0 (by rcases l with _|⟨x,l⟩;exact absurd rfl e;simp);refine run_convert_bytes_back (P:=Tryz.prog) w 22 9 5 ⟨b,o,none⟩ c l Tryz.underlying22 Tryz.underlying5 Tryz.underlying9 (fun j hj=>?_);obtain⟨b',o',e,-,hc⟩:=h j hj;injection e with e;injection e with e1 e2;subst e1 e2;rw[show (⟨b,o,none⟩:Addr).add j=⟨b,o+j,none⟩ by simp[Addr.add]];exact hc
theorem bytesEqual_calls(A B:OA)(c d:Nat)(l m:LU)(w:World)(hc:l.length<=c)(hd:m.length<=d)(ha:Bts w A l)(hb:Bts w B m):
  Calls Tryz.prog 29 #[.slice A l.length c,.slice B m.length d] w (Ret w (.bool (decide (l=m)))):=by
 have k1:=conv_str A c l w hc ha;have k1:=conv_str B d m w hd hb;go_enter Tryz.func29,Tryz.ntmps29;go_wp2_with fail;go_ret;exact⟨ret_bool (by by_cases e:l=m<;>simp[e]),rfl⟩
theorem x675(h:Y:=by
 go_enter Tryz.func25,Tryz.ntmps25;go_wp2_with fail;go_ret;exact⟨rfl,rfl⟩):Y:=h
theorem refIn_t{n a b:Int}(h:a<=n∧n<=b)(w:World):Calls Tryz.prog 25 #[iv n,iv a,iv b] w (Ret w (.bool true)):=by
 obtain⟨h1,h2⟩:=h;exact x675
theorem refIn_f{n a b:Int}(h:n<a∨b<n)(w:World):Calls Tryz.prog 25 #[iv n,iv a,iv b] w (Ret w (.bool false)):=by
 by_cases h1:a<=n
 ·have h1:¬n<=b:=by omega
  clear h;exact x675
 clear h;exact x675
theorem x018(h:Y:=by
 go_wp2_with fail;go_ret;exact⟨ret_int HR.out.symm,Below.refl _ _⟩):Y:=h
theorem refCheck_calls(A:OA)(c:Nat)(l:List Stp)(old size:Int)(w:World)(hl:l.length<=3518437208780)(hr:Sps w A l):
  Calls Tryz.prog 94 #[.slice A l.length c,iv old,iv size] w (RetB w (iv (deltaCheck l old size))):=by
 by_cases hm:40<l.length∨old<0∨64<old∨size<0∨64<size
 ·have HR:=qH (dc_many hm);by_cases h1:40<l.length
  ·have h1':(40:Int)<(l.length:Int):=by omega
   clear hm h1;go_enter Tryz.func94,Tryz.ntmps94;exact x018
  have h1':¬(40:Int)<(l.length:Int):=by omega
  by_cases h2:old<0∨64<old
  ·have I1:=qH (fun w=>refIn_f (a:=0) (b:=64) h2 w);clear hm h1 h2;go_enter Tryz.func94,Tryz.ntmps94;go_wp2_with fail;refine(I1.out _).mono ?_;rintro e1 w1 ⟨rfl,rfl⟩;exact x018
  have I1:=qH (fun w=>refIn_t (n:=old) (a:=0) (b:=64) (by omega) w);have I2:=qH (fun w=>refIn_f (n:=size) (a:=0) (b:=64) (by omega) w);clear hm h1 h2;go_enter Tryz.func94,Tryz.ntmps94;go_wp2_with fail;refine(I1.out _).mono ?_;rintro e1 w1 ⟨rfl,rfl⟩;go_wp2_with fail;refine(I2.out _).mono ?_;rintro e1 w1 ⟨rfl,rfl⟩;exact x018
 have HR:=qH (dc_go hm);have h1:¬(40:Int)<(l.length:Int):=by omega
 have I1:=qH (fun w=>refIn_t (n:=old) (a:=0) (b:=64) (by omega) w);have I2:=qH (fun w=>refIn_t (n:=size) (a:=0) (b:=64) (by omega) w);have h1:0<=old:=by omega
 have h1:old<=64:=by omega
 have h1:0<=size:=by omega
 have h1:size<=64:=by omega
 have h1:l.length<=40:=by omega
 clear hm;go_enter Tryz.func94,Tryz.ntmps94;go_wp2_with fail;refine(I1.out _).mono ?_;rintro e5 w3 ⟨rfl,rfl⟩;go_wp2_with fail;refine(I2.out _).mono ?_;rintro e5 w3 ⟨rfl,rfl⟩;go_wp2_with fail;go_loopw [26,7] (fun i s wr=>∃(k:Nat) (z:Int),k<=l.length∧i=.int .i64 k∧s=.int .i64 (size-z)∧0<=z∧z<=size∧Hid (ScAt old l size k z)∧Hid (Below w.heap.size w wr)) (fun i _ _=>l.length-(intOf i).toNat)
 case atStart=>exact⟨0,size,Nat.zero_le _,rfl,by simp,by omega,by omega,qH (by unfold ScAt;rw[List.drop_zero]),qH (Below.refl _ _)⟩
 case round=>
  obtain⟨k,z,hk,rfl,rfl,hz2,hz1,HS,HB⟩:=hrel;by_cases hlt:k<l.length
  ·obtain⟨b,o,B,cc,rfl,hs,hc3,hc1,hc2,hd1,hd2,-,hi2,hi1⟩:=(hr.stays HB.out).at_ hlt;have HH:=qH (HS.out.here hlt);have hsz:=HB.out.size;clear HS;unfold I64 at hi2 hi1;obtain⟨i1,i01⟩:=hi2;obtain⟨i1,i2⟩:=hi1;generalize hx:l[k]=x at *
   clear hx;obtain⟨at_,len,data⟩:=x;dsimp only at *
   have hdl:0<=(data.length:Int):=by omega
   by_cases hf:(⟨at_,len,data⟩:Stp).form
   ·by_cases hin:(⟨at_,len,data⟩:Stp).in_ old
    ·have hn:(⟨at_,len,data⟩:Stp).n=len+data.length:=rfl;have hin':=hin;unfold Stp.in_ at hin';dsimp only at hin';obtain⟨j1,j2,j3⟩:=hin';have hf':=hf;unfold Stp.form at hf';dsimp only at hf';have t1:¬len<0:=by omega
     have t2:¬at_<0:=by omega
     have t3:¬64<len:=by omega
     have t4:¬64<at_:=by omega
     have t5:¬old<at_+len:=by omega
     have w1:IntKind.i64.wrap (at_+len)=at_+len:=IntWalk.i64_in _ (by omega);by_cases hzn:z<len+data.length
     ·have HE:=qH (HH.out.symm.trans (sc_many hf hin (by rw[hn];exact hzn)));clear hf hin hn HH;by_cases e1:len=0
      ·obtain⟨rfl,e2,e3⟩:=hf'.1 e1;subst e1;have e1:1<=data.length:=by rcases data with _|⟨y,d⟩;exact absurd rfl e2;simp
       have I1:=qH (fun w=>refIn_t (n:=(data.length:Int)) (a:=1) (b:=64) (by omega) w);have w2:IntKind.i64.wrap ((size-z)+(data.length:Int))=(size-z)+(data.length:Int):=IntWalk.i64_in _ (by omega);have t6:size<(size-z)+(data.length:Int):=by omega
       clear hf' e2 w1 t1 t2 t3 t4 t5;go_wp2_with fail;refine(I1.out _).mono ?_;rintro e1 w1 ⟨rfl,rfl⟩;exact x1gl
      have e2:=hf'.2 e1;subst e2;have q1:(len==0)=false:=by simp[e1]
      have q1:(len !=0)=true:=by simp[e1]
      clear hf' e1;simp only[List.length_nil,Int.ofNat_eq_natCast,Int.natCast_zero,Int.add_zero]at *
      have w1:IntKind.i64.wrap ((size-z)+len)=(size-z)+len:=IntWalk.i64_in _ (by omega);have t1:size<(size-z)+len:=by omega
      exact x1gl
     have HE:=qH ((sc_on hf hin (by rw[hn];exact hzn)).symm.trans HH.out);clear hf hin HH;rw[hn]at HE;clear hn;by_cases e1:len=0
     ·obtain⟨rfl,e2,e3⟩:=hf'.1 e1;subst e1;have e1:1<=data.length:=by rcases data with _|⟨y,d⟩;exact absurd rfl e2;simp
      have I1:=qH (fun w=>refIn_t (n:=(data.length:Int)) (a:=1) (b:=64) (by omega) w);have w2:IntKind.i64.wrap ((size-z)+(data.length:Int))=(size-z)+(data.length:Int):=IntWalk.i64_in _ (by omega);have t6:¬size<(size-z)+(data.length:Int):=by omega
      clear hf' e2 w1 t1 t2 t3 t4 t5;go_wp2_with fail;refine(I1.out _).mono ?_;rintro e1 w1 ⟨rfl,rfl⟩;go_wp2_with fail;go_roundw
      case rel=>exact⟨k+1,z-(0+data.length),by omega,by go_num,by go_num,by omega,by omega,HE,qH (HB.out.alloc hsz _)⟩
      case measure=>simp[intOf];omega
     have e2:=hf'.2 e1;subst e2;have q1:(len==0)=false:=by simp[e1]
     have q1:(len !=0)=true:=by simp[e1]
     clear hf' e1;have HE1:Hid (ScAt old l size (k+1) (z-len)):=by
      have:=HE.out;refine qH ?_;simpa[ScAt]using this
     clear HE;simp only[List.length_nil,Int.ofNat_eq_natCast,Int.natCast_zero,Int.add_zero]at *
     have w1:IntKind.i64.wrap ((size-z)+len)=(size-z)+len:=IntWalk.i64_in _ (by omega);have t1:¬size<(size-z)+len:=by omega
     go_wp2_with fail;go_roundw
     case rel=>exact⟨k+1,z-len,by omega,by go_num,by go_num,by omega,by omega,HE1,qH (HB.out.alloc hsz _)⟩
     case measure=>simp[intOf];omega
    ·have HE:=qH (HH.out.symm.trans (sc_range hf hin));have hf':=hf;unfold Stp.form at hf';dsimp only at hf';have hin':=hin;unfold Stp.in_ at hin';dsimp only at hin';clear hf hin HH;have e1:len≠0:=by
      intro e2;obtain⟨e1,_,_⟩:=hf'.1 e2;omega
     have e2:=hf'.2 e1;subst e2;have q1:(len==0)=false:=by simp[e1]
     have q1:(len !=0)=true:=by simp[e1]
     clear hf' e1;simp only[List.length_nil,Int.ofNat_eq_natCast,Int.natCast_zero,Int.add_zero]at *
     have HI:=qH hin';clear hin';by_cases r1:len<0
     ·exact x1gl
     by_cases r1:at_<0
     ·exact x1gl
     by_cases r1:64<len
     ·exact x1gl
     by_cases r1:64<at_
     ·exact x1gl
     have w1:IntKind.i64.wrap (at_+len)=at_+len:=IntWalk.i64_in _ (by omega);have r1:old<at_+len:=by have:=HI.out;omega
     exact x1gl
   have HE:=qH (HH.out.symm.trans (sc_form hf));have hf':=hf;unfold Stp.form at hf';dsimp only at hf';clear hf HH;by_cases e3:len=0
   ·subst e3;by_cases e1:at_=0
    ·subst e1;have I1:Hid (∀w,Calls Tryz.prog 25 #[iv (data.length:Int),iv 1,iv 64] w (Ret w (.bool false))):=qH (fun w=>by
      by_cases e1:data=[]
      ·subst e1;exact refIn_f (Or.inl (by decide)) w
      refine refIn_f (Or.inr ?_) w;exact x614)
     clear hf';go_wp2_with fail;refine(I1.out _).mono ?_;rintro e1 w1 ⟨rfl,rfl⟩;exact x1gl
    have q1:(at_ !=0)=true:=by simp[e1]
    clear hf' e1;exact x1gl
   have e1:data≠[]:=fun e=>hf' ⟨fun h=>absurd h e3,fun _=>e⟩;have e2:1<=data.length:=by rcases data with _|⟨y,d⟩;exact absurd rfl e1;simp
   have q1:(len==0)=false:=by simp[e3]
   have q1:(len !=0)=true:=by simp[e3]
   have q1:((data.length:Int) !=0)=true:=by simp;omega
   clear hf' e3 e1;exact x1gl
  obtain rfl:k=l.length:=by omega
  have HE:Hid (stepsCheck old l size=if z=0 then 0 else 3):=by
   exact x017
  clear HS;by_cases e:z=0
  ·have HF:=qH (HE.out.trans (if_pos e));subst e;exact x5ag
  have HF:=qH (HE.out.trans (if_neg e));have q:size-z<size:=by omega
  clear e;exact x5ag
theorem x40u(h:Y:=by
 go_wp2_with fail;go_ret;exact⟨ret_int hz.out.symm,HB.out⟩):Y:=h
theorem refPatCheckA_calls(A:OA)(c:Nat)(f t o n sz:Int)(l:List Stp)(w:World)(hl:l.length<=3518437208780)(hs:Sps w A l):
  Calls Tryz.prog 65 #[.agg #[iv f,iv t,iv o,iv n,iv sz,.slice A l.length c]] w (RetB w (iv (patCheck ⟨f,t,o,n,sz,l⟩))):=by
 have hb:Below w.heap.size w (w.alloc (.cells #[iv f,iv t,iv o,iv n,iv sz,.slice A l.length c] 35)):=(Below.refl _ _).alloc (Nat.le_refl _) _;have HB:=qH hb;have HC:=qH (refCheck_calls A c l 64 sz _ hl (hs.stays hb));clear hb hs;by_cases h4:¬((1:Int)<=f∧f<=30)
 ·have hz:=qH (patCheck_bad (p:=⟨f,t,o,n,sz,l⟩) (by unfold Pat.range;dsimp only;omega));have I1:=qH (fun w=>refIn_f (n:=f) (a:=1) (b:=30) (by omega) w);clear HC h4;go_enter Tryz.func65,Tryz.ntmps65;go_wp2_with fail;refine(I1.out _).mono ?_;rintro e1 w1 ⟨rfl,rfl⟩;exact x40u
 have h4:=Decidable.not_not.1 h4;have I4:=qH (fun w=>refIn_t (n:=f) (a:=1) (b:=30) h4 w);by_cases h1:¬((1:Int)<=t∧t<=30)
 ·have hz:=qH (patCheck_bad (p:=⟨f,t,o,n,sz,l⟩) (by unfold Pat.range;dsimp only;omega));have I1:=qH (fun w=>refIn_f (n:=t) (a:=1) (b:=30) (by omega) w);clear HC h1;go_enter Tryz.func65,Tryz.ntmps65;go_wp2_with fail;refine(I4.out _).mono ?_;rintro e2 w2 ⟨rfl,rfl⟩;go_wp2_with fail;refine(I1.out _).mono ?_;rintro e1 w1 ⟨rfl,rfl⟩;exact x40u
 have h1:=Decidable.not_not.1 h1;have I1:=qH (fun w=>refIn_t (n:=t) (a:=1) (b:=30) h1 w);by_cases h2:¬((0:Int)<=o∧o<=65535)
 ·have hz:=qH (patCheck_bad (p:=⟨f,t,o,n,sz,l⟩) (by unfold Pat.range;dsimp only;omega));have I2:=qH (fun w=>refIn_f (n:=o) (a:=0) (b:=65535) (by omega) w);clear HC h2;go_enter Tryz.func65,Tryz.ntmps65;go_wp2_with fail;refine(I4.out _).mono ?_;rintro e3 w3 ⟨rfl,rfl⟩;go_wp2_with fail;refine(I1.out _).mono ?_;rintro e1 w1 ⟨rfl,rfl⟩;go_wp2_with fail;refine(I2.out _).mono ?_;rintro e1 w1 ⟨rfl,rfl⟩;exact x40u
 have h2:=Decidable.not_not.1 h2;have I2:=qH (fun w=>refIn_t (n:=o) (a:=0) (b:=65535) h2 w);by_cases h3:¬((0:Int)<=n∧n<=65535)
 ·have hz:=qH (patCheck_bad (p:=⟨f,t,o,n,sz,l⟩) (by unfold Pat.range;dsimp only;omega));have I3:=qH (fun w=>refIn_f (n:=n) (a:=0) (b:=65535) (by omega) w);clear HC h3;go_enter Tryz.func65,Tryz.ntmps65;go_wp2_with fail;refine(I4.out _).mono ?_;rintro e4 w4 ⟨rfl,rfl⟩;go_wp2_with fail;refine(I1.out _).mono ?_;rintro e1 w1 ⟨rfl,rfl⟩;go_wp2_with fail;refine(I2.out _).mono ?_;rintro e1 w1 ⟨rfl,rfl⟩;go_wp2_with fail;refine(I3.out _).mono ?_;rintro e1 w1 ⟨rfl,rfl⟩;exact x40u
 have h3:=Decidable.not_not.1 h3;have I3:=qH (fun w=>refIn_t (n:=n) (a:=0) (b:=65535) h3 w);have hz:=qH (patCheck_in (p:=⟨f,t,o,n,sz,l⟩) (by unfold Pat.range;dsimp only;omega));clear h4 h1 h2 h3;go_enter Tryz.func65,Tryz.ntmps65;go_wp2_with fail;refine(I4.out _).mono ?_;rintro e4 w4 ⟨rfl,rfl⟩;go_wp2_with fail;refine(I1.out _).mono ?_;rintro e1 w1 ⟨rfl,rfl⟩;go_wp2_with fail;refine(I2.out _).mono ?_;rintro e1 w1 ⟨rfl,rfl⟩;go_wp2_with fail;refine(I3.out _).mono ?_;rintro e1 w1 ⟨rfl,rfl⟩;exact x3ef
def bxJ(w0:World)(base:Nat)(A:OA)(n c:Nat)(xs ns:List Value)(ib ia:Nat)(F:World->Prop):Nat->(Nat->Value)->World->Prop
 |0,_,w=>w=w0.drew
 |1,cv,w=>w=w0.drew.alloc (.cells ns.toArray 5)∧cv ib=.slice (some ⟨w0.heap.size,0,none⟩) ns.length ns.length
 |2,cv,w=>∃A' c',cv ia=.slice A' (n+ns.length) c'∧Own w base 5 1 A' (n+ns.length) c' (xs++ns)∧Below base w0 w∧(∀k,k<w0.heap.size->A.map (·.block)≠some k->w.heap[k]?=w0.heap[k]?)∧(A'.map (·.block)=A.map (·.block)∨∀k,A'.map (·.block)=some k->w0.heap.size<=k)
 |_,_,w=>F w
theorem bxJ_box{F:World->Prop}{T:TypeId}{v:Value}(hk:k<=1)(hJ:bxJ w0 base A n c xs ns ib ia F k cv w)(h:Box w0 g T v):Box w g T v:=by
 match k,hk,hJ with
 |0,_,hJ=>obtain rfl:w=w0.drew:=hJ;exact h
 |1,_,⟨hJ,_⟩=>subst hJ;exact h.drew.alloc _
theorem bxJ_app{A':OA}{c':Nat}{F:World->Prop}(hown:Own w' base 5 1 A' (n+ns.length) c' (xs++ns))(hgr:(w0.drew.alloc (.cells ns.toArray 5)).grownBy w' (A.map (·.block)))(hbel:Below base (w0.drew.alloc (.cells ns.toArray 5)) w')
  (hor:A'.map (·.block)=A.map (·.block)∨A'.map (·.block)=some (w0.drew.alloc (.cells ns.toArray 5)).heap.size) (hle:base<=w0.heap.size):
  bxJ w0 base A n c xs ns ib ia F 2 (fun j=>if j=ia then .slice A' (n+ns.length) c' else cv j) w':=by
 have hb1:Below base w0 (w0.drew.alloc (.cells ns.toArray 5)):=((Below.refl _ _).drew).alloc hle _;exact x5lc
theorem alike_stop{b:LU}(hk:k<b.length):1<=alike (b.drop k)∧alike (b.drop k)<=127∧k+alike (b.drop k)<=b.length∧(∀m,m<alike (b.drop k)->b[k+m]?=some b[k])∧
  (alike (b.drop k)=127∨(alike (b.drop k)<127∧k+alike (b.drop k)=b.length)∨(alike (b.drop k)<127∧∃h:k+alike (b.drop k)<b.length,b[k+alike (b.drop k)]≠b[k])):=by
 have e:b.drop k=b[k]::b.drop (k+1):=List.drop_eq_getElem_cons hk;have hle:=alike_le (b.drop k);rw[List.length_drop]at hle;have ea:alike (b.drop k)=cntEq b[k] (b.drop (k+1)) 126+1:=by rw[e];rfl
 have hat:=cntEq_at b[k] (b.drop (k+1)) 126;have hst:=cntEq_stop b[k] (b.drop (k+1)) 126;refine⟨by omega,hle.1,by omega,fun m hm=>?_,?_⟩
 ·rcases m with _|m
  ·simp[hk]
  ·have:=(hat m (by omega)).2;rw[List.getElem?_drop]at this;rw[show k+(m+1)=k+1+m by omega];exact this
 by_cases h1:alike (b.drop k)=127
 ·exact .inl h1
 by_cases h1:k+alike (b.drop k)=b.length
 ·exact .inr (.inl ⟨by omega,h1⟩)
 refine .inr (.inr ⟨by omega,by omega,fun e2=>?_⟩);have:=hst (by omega);rw[List.getElem?_drop,show k+1+cntEq b[k] (b.drop (k+1)) 126=k+alike (b.drop k) by omega,List.getElem?_eq_getElem (by omega),e2]at this;exact this rfl
theorem x9g1(h:Y:=by
 exact⟨none,0,rfl,.const fun v=>patIn_zero v,below_row HB2.out (by omega) _⟩):Y:=h
theorem data_le(old:LU):∀(l:List Stp),∀o∈l,o.data.length<=(applied old l).length
 |[],_,h=>by cases h
 |x::l,o,h=>by
  rw[applied_cons,List.length_append];rcases List.mem_cons.1 h with rfl|h
  ·simp[Stp.piece];omega
  have:=data_le old l o h;omega
theorem snoc_of{α:Type}(l:List α)(h:l≠[]):∃m x,l=m++[x]:=⟨l.dropLast,l.getLast h,(List.dropLast_concat_getLast h).symm⟩
theorem addByte_len(l:List Stp)(x:UInt8):(addByte l x).length<=l.length+1:=by
 by_cases h:l=[]
 ·subst h;simp[addByte]
 obtain⟨m,o,rfl⟩:=snoc_of l h;rw[addByte_snoc];split<;>simp
theorem diffN_len(old b:LU):∀q,(diffN old b q).2.length<=q
 |0=>by simp[diffN]
 |q+1=>by
  have ih:=diffN_len old b q
  show (diffStep old b (diffN old b q)).2.length<=q+1;generalize diffN old b q=p at *
  unfold diffStep;split
  ·split
   ·simp only[List.length_append,List.length_cons,List.length_nil];omega
   ·have:=addByte_len p.2 (b.getD p.1 0)
    show (addByte p.2 (b.getD p.1 0)).length<=q+1;omega
  omega
theorem bts_win{b o:Nat}{l:LU}(h:Bts w (some ⟨b,o,none⟩) l)(k n:Nat):Bts w (some ⟨b,o+k,none⟩) (win l k n):=by
 intro i hi;have hl:i<n∧k+i<l.length:=by unfold win at hi;simp only[List.length_take,List.length_drop]at hi;omega
 obtain⟨b',o',e,hlt,hc⟩:=h (k+i) hl.2;injection e with e;injection e with e1 e2;subst e1 e2;refine⟨b,o+k,rfl,hlt,?_⟩;rw[Nat.add_assoc,hc];simp[win]
theorem refLongest_calls(A B:OA)(c d:Nat)(old b:LU)(w:World)(k:Nat)(hml:ML w)(hc:old.length<=c)(hd:b.length<=d)(hl:old.length<=64)(hm:b.length<=64)(hk:k<=b.length)(ha:Bts w A old)(hb:Bts w B b):
  Calls Tryz.prog 96 #[.slice A old.length c,.slice B b.length d,iv k] w (RetN w (.tuple #[iv (longest old b k).1,iv (longest old b k).2])):=by
 obtain⟨m0,hm3⟩:∃m0:Nat,min (old.length:Int) ((b.length:Int)-(k:Int))=m0:=⟨(min (old.length:Int) ((b.length:Int)-(k:Int))).toNat,by omega⟩;have hbd:=longTo_le old b k old.length (Nat.le_refl _);have hL1:(longest old b k).2<=m0:=by unfold longest;omega
 have HL1:=qH hL1;have HA:=qH ha;have HB:=qH hb;have HML:=qH hml;have hm1:m0<=old.length:=by omega
 have hm1:k+m0<=b.length:=by omega
 clear ha hb hml hL1 hbd;go_enter Tryz.func96,Tryz.ntmps96;go_wp2_with fail;go_loopw [8] (fun x wr=>∃(m nd:Nat),x=.int .i64 (m:Int)∧(longest old b k).2<=m∧m<=m0∧w.drewN nd=wr) (fun x _=>(intOf x).toNat)
 case atStart=>exact⟨m0,0,int_eq (by omega),HL1.out,Nat.le_refl _,rfl⟩
 case round=>
  obtain⟨m,nd,rfl,h1,h2,rfl⟩:=hrel;by_cases h2:0<m
  ·have d2:(0:Int)<(m:Int):=by omega
   have hA1:A≠none:=fun e=>by
    obtain⟨bb,bo,e1,_⟩:=HA.out 0 (by omega);rw[e]at e1;cases e1
   obtain⟨aa,rfl⟩:=Option.ne_none_iff_exists'.1 hA1;obtain⟨bb,bo,rfl,_⟩:=HB.out 0 (by omega);have hwl:=win_len b k m (by omega);have hck:¬d=k:=by omega
   have hix:=index_calls aa ⟨bb,bo+k,none⟩ c (d-k) old (win b k m) (w.drewN nd) (HML.out.drewN nd) hc (by omega) (by omega) (HA.out.drewN nd) ((bts_win HB.out k m).drewN nd);rw[hwl]at hix;have HIX:=qH hix;clear hix hA1 hwl;have j1:(k:Int)+m<=(d:Int):=by omega
   have j1:(k:Int)<=(k:Int)+m:=by omega
   go_wp2_with fail;refine HIX.out.mono ?_;rintro e w1 ⟨rfl,n1,rfl⟩;rcases Lib.index_spec old (win b k m)with ⟨e1,_⟩|⟨i,e1,_,_,_⟩
   ·have hlt:=index_lt (by omega) (by omega) e1;rw[e1];clear e1 HIX h1;go_wp2_with fail;go_roundw
    case rel=>exact⟨m-1,nd+n1,int_eq (by omega),by omega,by omega,by rw[<-World.drewN_drewN]⟩
    case measure=>simp[intOf];omega
   have his:=index_is (by omega) (by omega) e1 h1;rw[e1];have HIS:=qH his;clear his e1 HIX h1;have d1:(0:Int)<=(i:Int):=by omega
   go_wp2_with fail;go_ret2;exact⟨ret2 (by rw[HIS.out];rfl) (by rw[HIS.out];rfl),nd+n1,by rw[<-World.drewN_drewN]⟩
  obtain rfl:m=0:=by omega
  have hz:=longest_zero (old:=old) (b:=b) (k:=k) (by omega);have HZ:=qH hz;clear hz h1;go_wp2_with fail;go_ret2;exact⟨ret2 (by rw[HZ.out];rfl) (by rw[HZ.out];rfl),nd,rfl⟩
end Go.Proofs.YtefkfglkpebbmacGreat
