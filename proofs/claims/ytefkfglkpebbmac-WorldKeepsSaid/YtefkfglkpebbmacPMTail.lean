/- Walks of functions, and plain words. No conditions. -/
import Derived.Test.YtefkfglkpebbmacP6
set_option linter.unusedVariables false
set_option linter.unusedSimpArgs false
set_option maxRecDepth 100000
set_option maxHeartbeats 40000000
namespace Go.Proofs.Ytefkfglkpebbmac
open Go.RowKit
variable {Y:Prop}
def tlJ{X:Type}(kn:List (Nat×Value))(ci st:Nat)(Pre:(Nat->Bool)->(Nat->Value)->World->Prop)(Post:X->World->Prop)(ix:List Nat)(val:X->Nat->Value)(sto:X->World->World)(dn:Nat->Bool)(cv:Nat->Value)(w:World):Prop:=
 (∀p∈kn,dn p.1=true->cv p.1=p.2)∧
 ((dn ci=false∧Pre dn cv w)∨(dn ci=true∧∃x w2,Post x w2∧(∀j∈ix,dn j=true->cv j=val x j)∧w=if dn st=true then sto x w2 else w2))
section
variable {X:Type} {kn:List (Nat×Value)} {ci st:Nat} {Pre:(Nat->Bool)->(Nat->Value)->World->Prop} {Post:X->World->Prop} {ix:List Nat} {val:X->Nat->Value} {sto:X->World->World} {dn:Nat->Bool} {cv:Nat->Value} {w w':World}
theorem tl_start(h:Pre (fun _=>false) (fun _=>undef) w):tlJ kn ci st Pre Post ix val sto (fun _=>false) (fun _=>undef) w:=⟨by simp,.inl ⟨rfl,h⟩⟩
theorem tl_kn(h:tlJ kn ci st Pre Post ix val sto dn cv w):∀p∈kn,dn p.1=true->cv p.1=p.2:=h.1
theorem tl_pre(h:tlJ kn ci st Pre Post ix val sto dn cv w)(hc:dn ci=false):Pre dn cv w:=by
 rcases h.2 with ⟨_,h⟩|⟨h,_⟩
 ·exact h
 rw[hc]at h;cases h
theorem tl_one{k:Nat}{v:Value}(h:tlJ kn ci st Pre Post ix val sto dn cv w)(hc:dn ci=false)(hk:k≠ci)(hv:∀p∈kn,p.1=k->p.2=v)(hp:Pre (fun j=>if j=k then true else dn j) (fun j=>if j=k then v else cv j) w'):
  tlJ kn ci st Pre Post ix val sto (fun j=>if j=k then true else dn j) (fun j=>if j=k then v else cv j) w':=by
 refine⟨fun p hp' hd=>?_,.inl ⟨(if_neg (fun e=>hk e.symm)).trans hc,hp⟩⟩;dsimp only at hd⊢;by_cases e:p.1=k
 ·rw[if_pos e];exact(hv p hp' e).symm
 rw[if_neg e]at hd⊢;exact h.1 p hp' hd
theorem tl_ci{x:X}{v:Value}(h:tlJ kn ci st Pre Post ix val sto dn cv w)(hk:∀p∈kn,p.1≠ci)(hi:∀j∈ix,j≠ci->dn j=false)(hs:dn st=false)(hsc:st≠ci)(hv:v=val x ci)(hp:Post x w'):
  tlJ kn ci st Pre Post ix val sto (fun j=>if j=ci then true else dn j) (fun j=>if j=ci then v else cv j) w':=by
 refine⟨fun p hp' hd=>?_,.inr ⟨by simp,x,w',hp,fun j hj hd=>?_,?_⟩⟩
 ·dsimp only at hd⊢;rw[if_neg (hk p hp')]at hd⊢;exact h.1 p hp' hd
 ·dsimp only at hd⊢;exact x38b
 dsimp only;simp[hsc,hs]
theorem tl_ix{k:Nat}(h:tlJ kn ci st Pre Post ix val sto dn cv w)(hc:dn ci=true)(hk:k≠ci)(hs:k≠st)(hkn:∀p∈kn,p.1≠k):
  ∃x,(∀j∈ix,dn j=true->cv j=val x j)∧∀v,v=val x k->tlJ kn ci st Pre Post ix val sto (fun j=>if j=k then true else dn j) (fun j=>if j=k then v else cv j) w:=by
 rcases h.2 with ⟨h2,_⟩|⟨_,x,w2,h1,h2,h3⟩
 ·rw[hc]at h2;cases h2
 refine⟨x,h2,fun v hv=>⟨fun p hp' hd=>?_,.inr ⟨(if_neg (fun e=>hk e.symm)).trans hc,x,w2,h1,fun j hj hd=>?_,?_⟩⟩⟩
 ·dsimp only at hd⊢;rw[if_neg (hkn p hp')]at hd⊢;exact h.1 p hp' hd
 ·dsimp only at hd⊢;by_cases e:j=k
  ·rw[if_pos e,e];exact hv
  rw[if_neg e]at hd⊢;exact h2 j hj hd
 dsimp only;have e:(if st=k then true else dn st)=dn st:=if_neg (fun e=>hs e.symm);simp only[e];exact h3
theorem tl_st(h:tlJ kn ci st Pre Post ix val sto dn cv w)(hc:dn ci=true)(hs:dn st=false)(hsc:ci≠st)(hkn:∀p∈kn,p.1≠st)(hix:∀j∈ix,j≠st):
  ∃x,Post x w∧(∀j∈ix,dn j=true->cv j=val x j)∧∀v,tlJ kn ci st Pre Post ix val sto (fun j=>if j=st then true else dn j) (fun j=>if j=st then v else cv j) (sto x w):=by
 rcases h.2 with ⟨h2,_⟩|⟨_,x,w2,h1,h2,h3⟩
 ·rw[hc]at h2;cases h2
 rw[hs,if_neg (by simp)]at h3;subst h3;refine⟨x,h1,h2,fun v=>⟨fun p hp' hd=>?_,.inr ⟨(if_neg hsc).trans hc,x,w,h1,fun j hj hd=>?_,?_⟩⟩⟩
 ·dsimp only at hd⊢;rw[if_neg (hkn p hp')]at hd⊢;exact h.1 p hp' hd
 ·dsimp only at hd⊢;rw[if_neg (hix j hj)]at hd⊢;exact h2 j hj hd
 simp
theorem tl_end(h:tlJ kn ci st Pre Post ix val sto dn cv w)(hc:dn ci=true)(hs:dn st=true):∃x w2,Post x w2∧(∀j∈ix,dn j=true->cv j=val x j)∧w=sto x w2:=by
 rcases h.2 with ⟨h2,_⟩|⟨_,x,w2,h1,h2,h3⟩
 ·rw[hc]at h2;cases h2
 rw[hs,if_pos rfl]at h3;exact⟨x,w2,h1,h2,h3⟩
end
end Go.Proofs.Ytefkfglkpebbmac
