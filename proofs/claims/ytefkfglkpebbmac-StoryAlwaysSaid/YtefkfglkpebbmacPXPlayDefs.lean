/- What a played script keeps: plain words, and memory but for one block. No conditions. -/
import Derived.Test.YtefkfglkpebbmacP10
import Derived.Test.YtefkfglkpebbmacPMWorDo
import Derived.Test.YtefkfglkpebbmacPXStoryLaws
set_option linter.unusedVariables false
set_option linter.unusedSimpArgs false
set_option maxRecDepth 100000
set_option maxHeartbeats 40000000
namespace Go.Proofs.Ytefkfglkpebbmac
open Go.RowKit
variable {Y:Prop}
variable {b2:Nat}
def Bx(g:Option Nat)(base:Nat)(w w':World):Prop:=Below 0 w w'∧∀k,k<base->g≠some k->w'.heap[k]?=w.heap[k]?
section
variable {g:Option Nat} {base:Nat} {w w' w2:World}
theorem Bx.trans(h:Bx g base w w')(h2:Bx g b2 w' w2)(hb:base<=b2):Bx g base w w2:=⟨h.1.trans h2.1,fun k h3 h4=>(h2.2 k (by omega) h4).trans (h.2 k h3 h4)⟩
theorem Bx.of(h:Below b2 w w')(hb:base<=b2):Bx g base w w':=⟨h.mono (Nat.zero_le _),fun k h1 _=>h.block k (by omega)⟩
theorem Bx.below(h:Bx g base w w')(hb:Below b2 w' w2)(hs:base<=b2):Bx g base w w2:=h.trans (Bx.of hb nl) hs
theorem Bx.size(h:Bx g base w w'):w.heap.size<=w'.heap.size:=h.1.size
theorem Bx.row(h:Bx g base w w'){q:Nat}(hq:base<=q)(cs:Array Value):Bx g base w (w'.setRow q cs):=⟨below_row h.1 (Nat.zero_le _) _,fun k h1 h2=>(setRow_other _ _ _ _ (by omega)).trans (h.2 k h1 h2)⟩
theorem Bx.same(h:Bx g base w w'){k:Nat}(hk:k<base)(hg:g≠some k):w'.heap[k]?=w.heap[k]?:=h.2 k hk hg
theorem Bx.alloc(h:Bx g base w w')(hs:base<=w'.heap.size)(o:Obj):Bx g base w (w'.alloc o):=h.below (bL o) hs
theorem Bx.cell{q j:Nat}(h:Bx g base w w')(hq:base<=q∨g=some q)(u:Value):Bx g base w (w'.setCell ⟨q,j,none⟩ u):=
 ⟨h.1.setCell (Nat.zero_le _) u,fun k h1 h2=>by
   have hne:k≠q:=fun e=>by
    subst e;rcases hq with h|h
    ·omega
    exact h2 h
   exact(Below.heap_setCell _ _ _ _ (by exact hne)).trans (h.2 k h1 h2)⟩
theorem Bx.belowTop{o:Obj}(h:Bx (some w.heap.size) (w.heap.size+1) (w.alloc o) w'):Below w.heap.size w w':=
 (bL o).trans ⟨h.1.os,h.1.tape,h.1.output,h.1.size,fun k hk=>h.2 k (by omega) (fun e=>by cases e;omega)⟩
theorem Bx.rowBelow{cs:Array Value}(h:Bx g base w w'){k:Nat}(hk:k<base)(hg:g≠some k)(hr:rowOf w k=cs)(hf:frOf w k=(0,0)):rowOf w' k=cs∧frOf w' k=(0,0):=by
 have e:=rowOf_heap (h.2 k hk hg);exact⟨e.1.trans hr,e.2.trans hf⟩
end
theorem run_min150(n:Nat)(w:World):(Builtin.min_ #[3,3] 3 #[iv (n:Int),iv 150]).run Try.prog w=.ok (iv ((min n 150:Nat):Int)) w:=by
 by_cases h:(150:Int)<(n:Int)
 ·have e:min n 150=150:=by omega
  rw[e];go_simp
 have e:min n 150=n:=by omega
 rw[e];go_simp
def PlRet(w:World)(g:Option Nat)(l:List (List UInt8))(scr:List (Int×Int)):Ending->World->Prop:=fun en w'=>
 ∃x L,en=.returned (.tuple #[.agg (worA x L),.bool true])∧((relCheck l≠0∧x=Wor.zero)∨(∃k:Int,relCheck l=0∧Inv l k x∧1<=k∧k<=151))∧
  Fresh w.heap.size w' (fun v=>WorIn v x L)∧Bx g w.heap.size w w'
end Go.Proofs.Ytefkfglkpebbmac
