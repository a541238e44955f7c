/- slices.IndexFunc over chunks with the closure of the document's Added. Printed by gen_refaddfunc.py. No conditions. -/
import Derived.Test.YtefkfglkpebbmacP3
import Derived.Test.YtefkfglkpebbmacPXRefAddMath
set_option linter.unusedVariables false
set_option linter.unusedSimpArgs false
set_option maxRecDepth 100000
set_option maxHeartbeats 40000000
namespace Go.Proofs.Ytefkfglkpebbmac
open Go.RowKit
variable {Y:Prop}
def idxR(p:Chk->Bool):List Chk->Nat->Int
 |[],_=> -1
 |x::r,k=>if p x=true then (k:Int)else idxR p r (k+1)
theorem idxR_f{p:Chk->Bool}{x:Chk}{r:List Chk}{k:Nat}(h:p x=false):idxR p (x::r) k=idxR p r (k+1):=if_neg (by simp[h])
theorem idxR_t{p:Chk->Bool}{x:Chk}{r:List Chk}{k:Nat}(h:p x=true):idxR p (x::r) k=(k:Int):=if_pos h
theorem idxR_spec(p:Chk->Bool):∀(l:List Chk) (k:Nat),(l.find? p=none∧idxR p l k= -1)∨∃j x,l[j]?=some x∧idxR p l k=((k+j:Nat):Int)∧l.find? p=some x
 |[],k=>.inl ⟨rfl,rfl⟩
 |x::r,k=>by
  by_cases h:p x=true
  ·exact .inr ⟨0,x,rfl,by rw[idxR_t h];simp,by simp[h]⟩
  have h:=Bool.eq_false_iff.2 h;rw[idxR_f h];rcases idxR_spec p r (k+1)with ⟨h1,h2⟩|⟨j,y,h1,h2,h3⟩
  ·exact .inl ⟨by simp[h,h1],h2⟩
  exact .inr ⟨j+1,y,by simpa using h1,by rw[h2];congr 1;omega,by simp[h,h3]⟩
def isN(x:Chk)(n:Int):Bool:=x.n==n
theorem atN_isN(l:List Chk)(n:Int):atN l n=l.find? (fun x=>isN x n):=rfl
theorem raN_go(x:Chk)(n:Int)(B:OA)(k g:Nat)(w:World)(hlt:g<w.heap.size)(hc:w.cell? ⟨g,0,none⟩=some (iv n))(b0:Bool)(hb0:(x.n==n)=b0):
  Calls Try.prog 112 #[.agg (chkA x.from_ x.to_ x.n x.of_ B x.data.length k),.pointer (some ⟨g,0,none⟩)] w (RetB w (.bool (b0))):=by
 cases b0<;>(
  go_enter Try.func112,Try.ntmps112;go_wp2_with fail;go_ret;exact⟨rfl,bL _⟩)
theorem raN_calls(x:Chk)(n:Int)(B:OA)(k g:Nat)(w:World)(hlt:g<w.heap.size)(hc:w.cell? ⟨g,0,none⟩=some (iv n)):
  Calls Try.prog 112 #[.agg (chkA x.from_ x.to_ x.n x.of_ B x.data.length k),.pointer (some ⟨g,0,none⟩)] w (RetB w (.bool (isN x n))):=by
 refine(raN_go x n B k g w hlt hc _ rfl).mono fun _ _ h=>?_;exact h
theorem raN_idx(A:OA)(cc g:Nat)(l:List Chk)(n:Int)(w:World)(hl:l.length<=2513169434843)(hs:Chs w A l)(hlt:g<w.heap.size)(hc:w.cell? ⟨g,0,none⟩=some (iv n)):
  Calls Try.prog 107 #[.slice A l.length cc,.func (Fn.func 112) #[] #[.pointer (some ⟨g,0,none⟩)]] w (RetB w (iv (idxR (fun x=>isN x n) l 0))):=by
 have HS:=qH hs;have HCC:Hid (∀(x:Chk) (B:OA) (k:Nat) w',Below w.heap.size w w'->Calls Try.prog 112 #[.agg (chkA x.from_ x.to_ x.n x.of_ B x.data.length k),.pointer (some ⟨g,0,none⟩)] w' (RetB w' (.bool ((fun x=>isN x n) x)))):=qH fun x B k w' hb=>raN_calls x n B k g w' (by have:=hb.size;omega) ((hb.cell (p:=⟨g,0,none⟩) hlt).trans hc);clear hs hc;generalize (fun x=>isN x n)=p at *
 obtain⟨r,hr⟩:=eX (idxR p l 0);rw[hr];have HR:Hid (idxR p l 0=r):=qH hr;clear hr;go_enter Try.func107,Try.ntmps107;go_wp2_with fail;go_loopw [8] (fun i wr=>∃k:Nat,k<=l.length∧i=iv k∧Hid (idxR p (l.drop k) k=r)∧Hid (Below w.heap.size w wr)) (fun i _=>l.length-(intOf i).toNat)
 case atStart=>exact⟨0,Nat.zero_le _,rfl,qH HR.out,qH (Below.refl _ _)⟩
 case round=>
  rename World=>wr;obtain⟨k,hk,rfl,HE,HB⟩:=hrel;have hsz:=HB.out.size;by_cases hlk:k<l.length
  ·obtain⟨b,o,B,cx,rfl,hs1,p6,p1,p2,p3,p4,p5⟩:=(HS.out.stays HB.out).at_ hlk;have hdr:l.drop k=l[k]::l.drop (k+1):=List.drop_eq_getElem_cons hlk;rw[hdr]at HE;clear p5 hdr;generalize l[k]=x at *
   obtain⟨q,hq⟩:=eX (p x);have HX:Hid (p x=q):=qH hq;have HC1:Hid (∀w',Below wr.heap.size wr w'->Calls Try.prog 112 #[.agg (chkA x.from_ x.to_ x.n x.of_ B x.data.length cx),.pointer (some ⟨g,0,none⟩)] w' (RetB w' (.bool q))):=qH fun w' hb=>by
    exact x2zx
   clear hq;go_wp2_with fail;refine(HC1.out _ ?_).mono ?_
   ·exact x9o6
   rintro e w1 ⟨rfl,hb1⟩;have HB1:Hid (Below w.heap.size w w1):=by
    exact x7ta
   clear hb1
   cases q
   ·have HE1:Hid (idxR p (l.drop (k+1)) (k+1)=r):=qH ((idxR_f HX.out).symm.trans HE.out);clear HE HX;go_wp2_with fail;go_roundw
    case rel=>exact⟨k+1,by omega,by go_num,HE1,HB1⟩
    case measure=>simp[intOf]<;>omega
   have HE1:Hid ((k:Int)=r):=qH ((idxR_t HX.out).symm.trans HE.out);clear HE HX;go_wp2_with fail;go_ret;exact⟨by rw[<-HE1.out];rfl,HB1.out⟩
  exact x00g
end Go.Proofs.Ytefkfglkpebbmac
