/- slices.Chunk: the value that it hands back gives the parts of a slice, one behind the other. No conditions. -/
import Derived.Test.YtefkfglkpebbmacPA
import Derived.RangeFuncNested
import Derived.RangeFuncBound
import Derived.RangeFuncCalls
import Derived.RangeFuncLeaves
import Derived.RangeFuncBox
import Derived.Shelf.Abstract
import Derived.Shelf.RegionOpen
import Derived.OwnWalkIn
import Derived.TacticsInMore
import Derived.LoopNIn
import Derived.LoopIn
set_option linter.unusedVariables false
set_option linter.unusedSimpArgs false
set_option maxRecDepth 100000
set_option maxHeartbeats 40000000
namespace Go.Proofs.Ytefkfglkpebbmac
open Go.RowKit
variable {Y:Prop}
section
open Go.RowKit Go.Shelf
attribute [local go_sem] Oper.semAt_some
def partV(b o len k:Nat):Value:=.slice (some ⟨b,o+16*k,none⟩) (min 16 (len-16*k)) (min 16 (len-16*k))
theorem run_min16(n:Nat)(w:World):(Builtin.min_ #[3,3] 3 #[.int .i64 16,.int .i64 (n:Int)]).run Try.prog w=.ok (.int .i64 ((min 16 n:Nat):Int)) w:=by
 by_cases h:(n:Int)<(16:Int)
 ·have e:min 16 n=n:=by omega
  rw[e];go_simp<;>omega
 have e:min 16 n=16:=by omega
 rw[e];go_simp<;>omega
theorem chunk1_in(n:Nat)(hn:1<=n)(l Bs Bn n₀ b o len cap:Nat)(hlc:len<=cap)(hlm:len<=1048576)(hs:Bs<n₀)(hnn:Bn<n₀)(J Jx:List Nat->World->Prop)(hJd:∀s W,J s W->J s W.drew)
  (hY:∀pre x W,J pre W->pre.length<(len+15) / 16->YieldAt Fence.wide (n-1) Try.prog l #[partV b o len x] W fun e W'=>
    (e=.returned (.bool true)∧J (pre++[x]) W'∧Below n₀ W W')∨(e=.returned (.bool false)∧Jx (pre++[x]) W'))
  (W:World) (hBs:W.cell? ⟨Bs,0,none⟩=some (.slice (some ⟨b,o,none⟩) len cap)) (hBn:W.cell? ⟨Bn,0,none⟩=some (.int .i64 16)) (h0:J [] W):
  CallsIn Fence.wide n Try.prog 146 #[.func (.yield l) #[] #[],.pointer (some ⟨Bs,0,none⟩),.pointer (some ⟨Bn,0,none⟩)] W fun e W'=>(∃v,e=.returned v)∧
   ((∃ys,ys=List.range ((len+15) / 16)∧J ys W')∨(∃pre,True∧Jx pre W')):=by
 refine callsIn_of_wp Try.func146 rfl trivial ?_ rfl;simp only[Try.ntmps146,List.size_toArray,List.length_cons,List.length_nil,Nat.reduceAdd,Nat.reduceSub,Array.replicate_succ,Array.replicate_zero,List.push_toArray,List.append_toArray,List.nil_append,List.cons_append]
 gi_wp2
 gi_loopw [4] (fun i wr=>∃k:Nat,k<=(len+15) / 16∧i=.int .i64 ((16*k:Nat):Int)∧J (List.range k) wr∧Below n₀ W wr)
  (fun i _=>len+16-(intOf i).toNat)
 case atStart=>exact⟨0,Nat.zero_le _,rfl,h0,Below.refl _ _⟩
 case round=>
  obtain⟨k,hk,rfl,hJs,hnx⟩:=hrel;have hc1:=(hnx.cell (p:=⟨Bs,0,none⟩) hs).trans hBs;have hc1:=(hnx.cell (p:=⟨Bn,0,none⟩) hnn).trans hBn;by_cases hlt:16*k<len
  ·obtain⟨fn,tmps,assign,body,hy,hR⟩:=hY _ k wr.drew (hJd _ _ hJs) (by simp;omega);have hmin:=run_min16 (len-16*k);have hp:partV b o len k=.slice (some ⟨b,o+16*k,none⟩) (min 16 (len-16*k)) (min 16 (len-16*k)):=rfl;rw[hp]at hy;obtain⟨en,hen⟩:∃en,min 16 (len-16*k)=en:=⟨_,rfl⟩;rw[hen]at hmin hy;obtain⟨i,hi⟩:∃i,16*k=i:=⟨_,rfl⟩;rw[hi]at hmin hy hlt hen⊢;have he1:1<=en:=by omega
   have he1:i+en<=len:=by omega
   have he1:en<=16:=by omega
   have hw1:IntKind.i64.wrap ((i:Int)+(en:Int))=((i+en:Nat):Int):=by rw[show (i:Int)+(en:Int)=((i+en:Nat):Int) by omega];exact IntWalk.i64_in _ (by omega)
   have dl:decide ((i:Int)<(len:Int))=true:=decide_eq_true (by omega);clear hen hp
   gi_wp2
   gi_region
   gi_wp2
   refine hR.mono ?_;rintro e W1 (⟨rfl,hJ1,hk1⟩|⟨rfl,hJx1⟩)
   ·have hc1:=(hk1.cell (p:=⟨Bn,0,none⟩) hnn).trans hc1;have hw1:IntKind.i64.wrap ((i:Int)+16)=((i+16:Nat):Int):=by rw[show (i:Int)+16=((i+16:Nat):Int) by omega];exact IntWalk.i64_in _ (by omega)
    gi_wp2
    go_roundw
    case rel=>exact⟨k+1,by omega,by rw[show 16*(k+1)=i+16 by omega];simp,by rw[List.range_succ];exact hJ1,hnx.trans ((Below.refl n₀ wr).drew.trans hk1)⟩
    case measure=>simp[intOf];omega
   gi_wp2
   refine bodyPost_ret (results_none rfl _ _ _) rfl ?_;exact⟨⟨_,rfl⟩,.inr ⟨_,trivial,hJx1⟩⟩
  obtain rfl:k=(len+15) / 16:=by omega
  have dl:decide (((16*((len+15) / 16):Nat):Int)<(len:Int))=false:=decide_eq_false (by omega)
  gi_wp2
  go_end0
  exact⟨⟨_,rfl⟩,.inl ⟨_,rfl,hJs⟩⟩
theorem grownBy_drew0(w:World):w.grownBy w.drew none:=⟨rfl,rfl,rfl,Nat.le_refl _,fun _ _ _=>rfl⟩
theorem chunk_stops(n:Nat)(hn:1<=n)(Bs Bn n₀ b o len cap:Nat)(hlc:len<=cap)(hlm:len<=1048576)(hs:Bs<n₀)(hnn:Bn<n₀)(w:World)(h0:n₀<=w.heap.size)
  (hBs:w.cell? ⟨Bs,0,none⟩=some (.slice (some ⟨b,o,none⟩) len cap)) (hBn:w.cell? ⟨Bn,0,none⟩=some (.int .i64 16)):
  SeqStopsK Fence.wide n Try.prog 146 #[.pointer (some ⟨Bs,0,none⟩),.pointer (some ⟨Bn,0,none⟩)] (fun x:Nat=>#[partV b o len x]) (Below n₀) (fun ys=>ys=List.range ((len+15) / 16)) (fun _=>True) ((len+15) / 16) w:=fun l J Jx W hW hJ _ hY hJ0=>by
 refine(chunk1_in n hn l Bs Bn n₀ b o len cap hlc hlm hs hnn J Jx (fun s W' h=>hJ s W' _ none h (grownBy_drew0 W') (fun r e=>by cases e)) hY W ((hW.cell (p:=⟨Bs,0,none⟩) (by show Bs<_;omega)).trans hBs) ((hW.cell (p:=⟨Bn,0,none⟩) (by show Bn<_;omega)).trans hBn) hJ0).mono ?_;rintro e W' h;exact h
theorem chunk_in(n:Nat)(A:OA)(len cap:Nat)(w:World):
  CallsIn Fence.wide n Try.prog 110 #[.slice A len cap,.int .i64 16] w fun e w'=>e=.returned (.func (.func 146) #[] #[.pointer (some ⟨w.heap.size,0,none⟩),.pointer (some ⟨w.heap.size+1,0,none⟩)])∧w'=(w.alloc (.cells #[.slice A len cap] 22)).alloc (.cells #[.int .i64 16] 3):=by
 refine callsIn_of_wp Try.func110 rfl trivial ?_ rfl;simp only[Try.ntmps110,List.size_toArray,List.length_cons,List.length_nil,Nat.reduceAdd,Nat.reduceSub,Array.replicate_succ,Array.replicate_zero,List.push_toArray,List.append_toArray,List.nil_append,List.cons_append]
 gi_wp2
 go_ret;exact⟨rfl,rfl⟩
theorem info_bytes:(Try.prog.info? 22).map (fun i=>(i.zero,i.size,i.bytes))=some (some (.slice none 0 0),1,24):=by kernel_rfl
theorem appendSeq_in(n:Nat)(hn:3<=n)(gf:Nat)(lb:Array Value)(eg:∀args w,(callFunc gf args).run Try.prog w=.ok (.enter gf args) w)(A:Nat->Option Addr)(a b:Nat->Nat)(m:Nat)(hm:m<=1048576)(w:World)
  (hst:SeqStopsK Fence.wide (n-1) Try.prog gf lb (fun x:Nat=>#[Value.slice (A x) (a x) (b x)]) (Below w.heap.size) (fun ys=>ys=List.range m) (fun _=>True) m w):
  CallsIn Fence.wide n Try.prog 145 #[.slice none 0 0,.func (.func gf) #[] lb] w fun e W'=>∃v,e=.returned v∧W'.ownsRow w.heap.size 22 1 v m ((List.range m).map (fun x:Nat=>Value.slice (A x) (a x) (b x)))∧Below w.heap.size w W':=by
 have h1:1<=n:=by omega
 obtain⟨i1,hi,hz3,hz1,hz2⟩:=info_parts (info_bytes);refine callsIn_of_wp_marks Try.func145 rfl trivial ?_ rfl;simp only[Try.ntmps145,List.size_toArray,List.length_cons,List.length_nil,Nat.reduceAdd,Nat.reduceSub,Array.replicate_succ,Array.replicate_zero,List.push_toArray,List.append_toArray,List.nil_append,List.cons_append]
 gi_wp2
 have bO:=Boxed.new w 86 (.slice none 0 0);have hB1:Below w.heap.size w (w.alloc (.cells #[.slice none 0 0] 86)):=(Below.refl _ w).alloc (Nat.le_refl _) _;refine wpIn_rangeFunc_ownG rfl h1 (gf:=gf) (lb:=lb) rfl trivial eg hst belowK_t (belowK_b (by simp)) hB1 (fun _=>rfl)
  (fun (pre:List Nat) W=>(∃v,Boxed W w.heap.size 86 v∧W.ownsRow w.heap.size 22 1 v pre.length (pre.map (fun x:Nat=>Value.slice (A x) (a x) (b x)))∧True)∧Below w.heap.size w W)
  (fun _ _ _=>False)
  (OwnFrom.and (Own.from (holdsRow_own w.heap.size w.heap.size 86 22 1 (fun pre:List Nat=>pre.length) (fun pre=>pre.map (fun x:Nat=>Value.slice (A x) (a x) (b x))) (fun pre v=>True)) _) (ownFrom_below (Nat.le_refl _) (by simp)))
  (fun _ _ _ _ _ hs _ _=>hs)
  ⟨⟨_,bO,World.ownsRow_nil _ _ _ _,trivial⟩,hB1⟩
  (fun x=>{tmps:=#[.slice none 0 0,.func (.func gf) #[] lb,.pointer (some ⟨w.heap.size,0,none⟩),undef,.slice none 0 0,Value.slice (A x) (a x) (b x),.func (.func gf) #[] lb,Value.slice (A x) (a x) (b x),undef,undef,undef,undef,undef],defers:=[]}) ?assign ?body ?done ?stop
 case assign=>
  intro l x W K hK
  gi_wp2
  exact hK
 case body=>
  rintro l pre x W ⟨⟨v,hv,hrow,_⟩,hB⟩ hlt;have hc:=hv.cell
  gi_wp2_with (gi_at_builtin;refine wpListIn_append_own _ rfl _ _ 86 rfl w.heap.size 22 i1 (.slice none 0 0) 1 24 Try.underlying86 hi hz3 hz1 hz2 rfl (by decide) _ _ _ rfl (hrow.alloc _) ⟨W.heap.size,0,none⟩ 1 1 [Value.slice (A x) (a x) (b x)] rfl rfl (cell_one_new _ _ _) (by simp[Value.oneCell']) (by simp[maxLen];omega) (by omega) (by have:=hB.size;simp;omega) ?_;intro v' w1 hown' hgrow _;obtain⟨g',cap',rfl⟩:=ownsRow_succ hown';obtain⟨hv1,hv2,hr2,hk2,hb2⟩:=hv.appended (by decide) hrow hB.size (Nat.le_refl _) hown' hgrow;have hc1:=hv1.cell;have hf1:=hv1.frozen)
  exact⟨hk2.from _,hb2,⟨_,hv2,by simpa using hr2,trivial⟩,hB.trans hb2⟩
 case done=>
  rintro D ys W hD rfl ⟨⟨v,hv,hrow,_⟩,hB⟩ hK;have hc:=hv.cell
  gi_wp2
  refine⟨by simp,.inl ⟨_,_,rfl,run_takeDeferred hK,?_⟩⟩;exact⟨_,results_tmp rfl _ _ _,v,rfl,by simpa using ownsRow_putObj hrow _ hK rfl,hB.trans (belowK_b (w:=w) (Nat.le_refl _) W D _ _ (by simp at hD;omega) hK rfl rfl)⟩
 case stop=>
  rintro D c pre W _ _ h _;exact h.elim
theorem collectChunk_calls(Bs Bn b o len cap:Nat)(hlc:len<=cap)(hlm:len<=1048576)(w:World)(hs:Bs<w.heap.size)(hnn:Bn<w.heap.size)
  (hBs:w.cell? ⟨Bs,0,none⟩=some (.slice (some ⟨b,o,none⟩) len cap)) (hBn:w.cell? ⟨Bn,0,none⟩=some (.int .i64 16)):
  Calls Try.prog 109 #[.func (.func 146) #[] #[.pointer (some ⟨Bs,0,none⟩),.pointer (some ⟨Bn,0,none⟩)]] w
   (fun e w'=>∃v,e=.returned v∧w'.ownsRow w.heap.size 22 1 v ((len+15) / 16) ((List.range ((len+15) / 16)).map (partV b o len))∧Below w.heap.size w w'):=by
 refine(callsIn_wide (n:=9)).1 ?_;refine callsIn_of_wp Try.func109 rfl trivial ?_ rfl;simp only[Try.ntmps109,List.size_toArray,List.length_cons,List.length_nil,Nat.reduceAdd,Nat.reduceSub,Array.replicate_succ,Array.replicate_zero,List.push_toArray,List.append_toArray,List.nil_append,List.cons_append]
 gi_wp2
 refine⟨trivial,?_⟩;refine(appendSeq_in 8 (by decide) 146 _ (enters_of Try.func146 (by kernel_rfl) rfl) (fun k=>some ⟨b,o+16*k,none⟩) (fun k=>min 16 (len-16*k)) (fun k=>min 16 (len-16*k)) ((len+15) / 16) (by omega) w (chunk_stops 7 (by decide) Bs Bn w.heap.size b o len cap hlc hlm hs hnn w (Nat.le_refl _) hBs hBn)).mono ?_;rintro e w' ⟨v,rfl,hrow,hb⟩
 gi_wp2
 go_ret;exact⟨v,rfl,hrow,hb⟩
theorem chunk_calls(A:OA)(len cap:Nat)(w:World):
  Calls Try.prog 110 #[.slice A len cap,.int .i64 16] w (fun e w'=>e=.returned (.func (.func 146) #[] #[.pointer (some ⟨w.heap.size,0,none⟩),.pointer (some ⟨w.heap.size+1,0,none⟩)])∧w'=(w.alloc (.cells #[.slice A len cap] 22)).alloc (.cells #[.int .i64 16] 3)):=
 (callsIn_wide (n:=1)).1 (chunk_in 1 A len cap w)
end
end Go.Proofs.Ytefkfglkpebbmac
