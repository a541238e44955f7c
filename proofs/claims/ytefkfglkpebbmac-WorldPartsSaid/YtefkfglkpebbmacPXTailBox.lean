/- A region that draws its order, calls a function that returns several values, and lays one of them in a new box (made at any time): what holds between. No conditions. -/
import Derived.Test.YtefkfglkpebbmacP6
set_option linter.unusedVariables false
set_option linter.unusedSimpArgs false
set_option maxRecDepth 100000
set_option maxHeartbeats 40000000
namespace Go.Proofs.Ytefkfglkpebbmac
open Go.RowKit
variable {Y:Prop}
structure TbJ{X:Type}(w0:World)(ci al st:Nat)(ix:List Nat)(val:X->Nat->Value)(row:X->Array Value)(zr:Array Value)(R:X->World->Prop)(x:X)(b gb:Nat)(w2:World)(dn:Nat->Bool)(cv:Nat->Value)(w:World):Prop where
 bel:Below w0.heap.size w0 w
 call:dn ci=true->w0.heap.size<=b∧Fresh b w2 (R x)∧Kp b w2 w∧w2.heap.size<=w.heap.size
 vals:dn ci=true->∀j∈ix,dn j=true->cv j=val x j
 box:dn al=true->cv al=.pointer (some ⟨gb,0,none⟩)∧w0.heap.size<=gb∧gb<w.heap.size∧frOf w gb=(0,0)∧(dn st=false->rowOf w gb=zr)∧(dn st=true->rowOf w gb=row x)
 apart:dn ci=true->dn al=true->gb<b∨w2.heap.size<=gb
def tbJ{X:Type}(w0:World)(ci al st:Nat)(ix:List Nat)(val:X->Nat->Value)(row:X->Array Value)(zr:Array Value)(R:X->World->Prop)(dn:Nat->Bool)(cv:Nat->Value)(w:World):Prop:=
 ∃(x:X) (b gb:Nat) (w2:World),TbJ w0 ci al st ix val row zr R x b gb w2 dn cv w
section
variable {X:Type} {w0 w w':World} {ci al st:Nat} {ix:List Nat} {val:X->Nat->Value} {row:X->Array Value} {zr:Array Value} {R:X->World->Prop} {dn:Nat->Bool} {cv:Nat->Value}
theorem tbJ_start(x:X):tbJ w0 ci al st ix val row zr R (fun _=>false) (fun _=>undef) w0.drew:=
 ⟨x,0,0,w0,(Below.refl _ _).drew,by simp,by simp,by simp,by simp⟩
theorem tbJ_bel(h:tbJ w0 ci al st ix val row zr R dn cv w):Below w0.heap.size w0 w:=by
 obtain⟨_,_,_,_,h⟩:=h;exact h.bel
theorem tbJ_c(hi:∀j∈ix,j≠ci->dn j=false)(h7:dn st=false)(n5:al≠ci)(n6:st≠ci)(h:tbJ w0 ci al st ix val row zr R dn cv w){x:X}{v:Value}(hv:v=val x ci)(hp:Fresh w.heap.size w' (R x))(hb:Below w.heap.size w w'):
  tbJ w0 ci al st ix val row zr R (fun j=>if j=ci then true else dn j) (fun j=>if j=ci then v else cv j) w':=by
 obtain⟨x1,b1,gb,w1,h⟩:=h;have hs:=h.bel.size;refine⟨x,w.heap.size,gb,w',h.bel.trans (hb.mono hs),fun _=>⟨hs,hp,Kp.refl _ _,nl⟩,fun _ j hj hd=>?_,?_,?_⟩
 ·try dsimp only at hd⊢
  exact x38b
 ·exact x2fr
 simp only[n5,if_false];exact fun _ ha=>.inl (h.box ha).2.2.1
theorem tbJ_k{k:Nat}(hc:dn ci=true)(hne:k≠ci)(hal:k≠al)(hst:k≠st)(h:tbJ w0 ci al st ix val row zr R dn cv w):
  ∃x,(∀j∈ix,dn j=true->cv j=val x j)∧∀v,v=val x k->tbJ w0 ci al st ix val row zr R (fun j=>if j=k then true else dn j) (fun j=>if j=k then v else cv j) w:=by
 obtain⟨x,b,gb,w1,h⟩:=h;refine⟨x,h.vals hc,fun v hv=>⟨x,b,gb,w1,h.bel,?_,fun _ j hj hd=>?_,?_,?_⟩⟩
 ·simp only[fun e:ci=k=>hne e.symm,if_neg (fun e:ci=k=>hne e.symm)];exact h.call
 ·try dsimp only at hd⊢
  by_cases e:j=k
  ·rw[if_pos e,e];exact hv
  rw[if_neg e]at hd⊢;exact h.vals hc j hj hd
 ·simp only[if_neg (fun e:al=k=>hal e.symm),if_neg (fun e:st=k=>hst e.symm)];exact h.box
 simp only[if_neg (fun e:ci=k=>hne e.symm),if_neg (fun e:al=k=>hal e.symm)];exact h.apart
theorem tbJ_a{ty:TypeId}(hal:dn al=false)(hs:dn st=false)(hix:∀j∈ix,j≠al)(n5:ci≠al)(n6:st≠al)(h:tbJ w0 ci al st ix val row zr R dn cv w):
  tbJ w0 ci al st ix val row zr R (fun j=>if j=al then true else dn j) (fun j=>if j=al then .pointer (some ⟨w.heap.size,0,none⟩)else cv j) (w.alloc (.cells zr ty)):=by
 obtain⟨x,b,gb,w1,h⟩:=h;have hsz:=h.bel.size;refine⟨x,b,w.heap.size,w1,h.bel.alloc hsz _,?_,?_,?_,?_⟩
 ·simp only[if_neg n5];intro e;obtain⟨g1,g3,g4,g5⟩:=h.call e;exact⟨g1,g3,g4.alloc g5 _,by simp;omega⟩
 ·simp only[if_neg n5];intro e j hj hd;rw[if_neg (hix j hj)]at hd⊢;exact h.vals e j hj hd
 ·exact x874
 simp only[if_neg n5];intro e _;exact .inr (h.call e).2.2.2
theorem tbJ_s(hz:0<zr.size)(hd:dn ci=true)(hs:dn st=false)(hal:dn al=true)(hix:∀j∈ix,j≠st)(n5:ci≠st)(n6:al≠st)(h:tbJ w0 ci al st ix val row zr R dn cv w):
  ∃(x:X) (gb:Nat),cv al=.pointer (some ⟨gb,0,none⟩)∧(∀j∈ix,dn j=true->cv j=val x j)∧rowOf w gb=zr∧frOf w gb=(0,0)∧∀v,tbJ w0 ci al st ix val row zr R (fun j=>if j=st then true else dn j) (fun j=>if j=st then v else cv j) (w.setRow gb (row x)):=by
 obtain⟨x,b,gb,w1,h⟩:=h;obtain⟨b1,b2,b3,b4,b5,b6⟩:=h.box hal;have hr:=b5 hs;refine⟨x,gb,b1,h.vals hd,hr,b4,fun v=>⟨x,b,gb,w1,below_row h.bel b2 _,?_,?_,?_,?_⟩⟩
 ·simp only[if_neg n5];intro e;obtain⟨g1,g3,g4,g5⟩:=h.call e;exact⟨g1,g3,g4.row (h.apart e hal) _,by simp[World.setRow];exact g5⟩
 ·simp only[if_neg n5];intro e j hj hd';rw[if_neg (hix j hj)]at hd'⊢;exact h.vals e j hj hd'
 ·exact x2hi
 simp only[if_neg n5,if_neg n6];exact h.apart
theorem tbJ_end(h1:dn ci=true)(h6:dn al=true)(h7:dn st=true)(h:tbJ w0 ci al st ix val row zr R dn cv w):
  ∃(x:X) (b gb:Nat) (w2:World),(∀j∈ix,dn j=true->cv j=val x j)∧cv al=.pointer (some ⟨gb,0,none⟩)∧
   rowOf w gb=row x∧frOf w gb=(0,0)∧w0.heap.size<=gb∧gb<w.heap.size∧Below w0.heap.size w0 w∧w0.heap.size<=b∧Fresh b w2 (R x)∧Kp b w2 w∧w2.heap.size<=w.heap.size∧(gb<b∨w2.heap.size<=gb):=by
 obtain⟨x,b,gb,w1,h⟩:=h;obtain⟨g1,g3,g4,g5⟩:=h.call h1;obtain⟨b1,b2,b3,b4,b5,b6⟩:=h.box h6;exact⟨x,b,gb,w1,h.vals h1,b1,b6 h7,b4,b2,b3,h.bel,g1,g3,g4,g5,h.apart h1 h6⟩
end
end Go.Proofs.Ytefkfglkpebbmac
