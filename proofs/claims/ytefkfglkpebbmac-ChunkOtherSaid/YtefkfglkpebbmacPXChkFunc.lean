/- slices.IndexFunc and slices.ContainsFunc over chunks with a closure that holds one block. Printed by gen_chkfunc.py. No conditions. -/
import Derived.Test.YtefkfglkpebbmacP3
set_option linter.unusedVariables false
set_option linter.unusedSimpArgs false
set_option maxRecDepth 100000
set_option maxHeartbeats 40000000
namespace Go.Proofs.Ytefkfglkpebbmac
open Go.RowKit
variable {Y:Prop}
theorem x2ze(h:Y:=by
 go_enter Try.func41,Try.ntmps41;go_wp2_with fail;refine HK.out.mono ?_;rintro e w1 ⟨rfl,hb⟩;have HB:=qH hb;clear hb;go_wp2_with fail;go_ret;exact⟨rfl,HB.out⟩):Y:=h
theorem x48w(h:Y:=by
 clear hb1
 cases q
 ·have HE1:Hid (idxF p (l.drop (k+1)) (k+1)=r):=qH ((idxF_f HX.out).symm.trans HE.out);clear HE HX;go_wp2_with fail;go_roundw
  case rel=>exact⟨k+1,by omega,by go_num,HE1,HB1⟩
  case measure=>simp[intOf]<;>omega
 have HE1:Hid ((k:Int)=r):=qH ((idxF_t HX.out).symm.trans HE.out);clear HE HX;go_wp2_with fail;go_ret;exact⟨by rw[<-HE1.out];rfl,HB1.out⟩):Y:=h
def idxF(p:Chk->Bool):List Chk->Nat->Int
 |[],_=> -1
 |x::r,k=>if p x=true then (k:Int)else idxF p r (k+1)
theorem idxF_f{p:Chk->Bool}{x:Chk}{r:List Chk}{k:Nat}(h:p x=false):idxF p (x::r) k=idxF p r (k+1):=if_neg (by simp[h])
theorem idxF_t{p:Chk->Bool}{x:Chk}{r:List Chk}{k:Nat}(h:p x=true):idxF p (x::r) k=(k:Int):=if_pos h
theorem idxF_ge(p:Chk->Bool):∀(l:List Chk) (k:Nat),decide ((0:Int)<=idxF p l k)=l.any p
 |[],k=>by simp[idxF]
 |x::r,k=>by
  unfold idxF;by_cases h:p x=true
  ·rw[if_pos h];simp[h]
  rw[if_neg h,idxF_ge p r];simp[h]
def same4(x c:Chk):Bool:=x.n==c.n&&x.from_==c.from_&&x.to_==c.to_&&x.of_==c.of_
def sameN(x c:Chk):Bool:=x.n==c.n
theorem coA_go(x c:Chk)(B D:OA)(k d g:Nat)(w:World)(hlt:g<w.heap.size)(hc:ChkAt w g 0 c D d)(b0 b1 b2 b3:Bool)(hb0:(x.n==c.n)=b0)(hb1:(x.from_==c.from_)=b1)(hb2:(x.to_==c.to_)=b2)(hb3:(x.of_==c.of_)=b3):
  Calls Try.prog 42 #[.agg (chkA x.from_ x.to_ x.n x.of_ B x.data.length k),.pointer (some ⟨g,0,none⟩)] w (RetB w (.bool (b0&&b1&&b2&&b3))):=by
 obtain⟨e5,e1,e2,e3,e4⟩:=hc;simp only[Nat.zero_add]at e5 e1 e2 e3 e4
 cases b0<;>cases b1<;>cases b2<;>cases b3<;>(
  go_enter Try.func42,Try.ntmps42;go_wp2_with fail;go_ret;exact⟨rfl,bL _⟩)
theorem coA_calls(x c:Chk)(B D:OA)(k d g:Nat)(w:World)(hlt:g<w.heap.size)(hc:ChkAt w g 0 c D d):
  Calls Try.prog 42 #[.agg (chkA x.from_ x.to_ x.n x.of_ B x.data.length k),.pointer (some ⟨g,0,none⟩)] w (RetB w (.bool (same4 x c))):=by
 refine(coA_go x c B D k d g w hlt hc _ _ _ _ rfl rfl rfl rfl).mono fun _ _ h=>?_;exact h
theorem coB_go(x c:Chk)(B D:OA)(k d g:Nat)(w:World)(hlt:g<w.heap.size)(hc:ChkAt w g 0 c D d)(b0:Bool)(hb0:(x.n==c.n)=b0):
  Calls Try.prog 43 #[.agg (chkA x.from_ x.to_ x.n x.of_ B x.data.length k),.pointer (some ⟨g,0,none⟩)] w (RetB w (.bool (b0))):=by
 obtain⟨e5,e1,e2,e3,e4⟩:=hc;simp only[Nat.zero_add]at e5 e1 e2 e3 e4
 cases b0<;>(
  go_enter Try.func43,Try.ntmps43;go_wp2_with fail;go_ret;exact⟨rfl,bL _⟩)
theorem coB_calls(x c:Chk)(B D:OA)(k d g:Nat)(w:World)(hlt:g<w.heap.size)(hc:ChkAt w g 0 c D d):
  Calls Try.prog 43 #[.agg (chkA x.from_ x.to_ x.n x.of_ B x.data.length k),.pointer (some ⟨g,0,none⟩)] w (RetB w (.bool (sameN x c))):=by
 refine(coB_go x c B D k d g w hlt hc _ rfl).mono fun _ _ h=>?_;exact h
theorem coA_idx(A D:OA)(cc d g:Nat)(l:List Chk)(c:Chk)(w:World)(hl:l.length<=2513169434843)(hs:Chs w A l)(hlt:g<w.heap.size)(hc:ChkAt w g 0 c D d):
  Calls Try.prog 107 #[.slice A l.length cc,.func (Fn.func 42) #[] #[.pointer (some ⟨g,0,none⟩)]] w (RetB w (iv (idxF (fun x=>same4 x c) l 0))):=by
 have HS:=qH hs;have HCC:Hid (∀(x:Chk) (B:OA) (k:Nat) w',Below w.heap.size w w'->Calls Try.prog 42 #[.agg (chkA x.from_ x.to_ x.n x.of_ B x.data.length k),.pointer (some ⟨g,0,none⟩)] w' (RetB w' (.bool ((fun x=>same4 x c) x)))):=qH fun x B k w' hb=>coA_calls x c B D k d g w' (by have:=hb.size;omega) (hc.stays hlt hb);clear hs hc;generalize (fun x=>same4 x c)=p at *
 obtain⟨r,hr⟩:=eX (idxF p l 0);rw[hr];have HR:Hid (idxF p l 0=r):=qH hr;clear hr;go_enter Try.func107,Try.ntmps107;go_wp2_with fail;go_loopw [8] (fun i wr=>∃k:Nat,k<=l.length∧i=iv k∧Hid (idxF p (l.drop k) k=r)∧Hid (Below w.heap.size w wr)) (fun i _=>l.length-(intOf i).toNat)
 case atStart=>exact⟨0,Nat.zero_le _,rfl,qH HR.out,qH (Below.refl _ _)⟩
 case round=>
  rename World=>wr;obtain⟨k,hk,rfl,HE,HB⟩:=hrel;have hsz:=HB.out.size;by_cases hlk:k<l.length
  ·obtain⟨b,o,B,cx,rfl,hs1,p6,p1,p2,p3,p4,p5⟩:=(HS.out.stays HB.out).at_ hlk;have hdr:l.drop k=l[k]::l.drop (k+1):=List.drop_eq_getElem_cons hlk;rw[hdr]at HE;clear p5 hdr;generalize l[k]=x at *
   obtain⟨q,hq⟩:=eX (p x);have HX:Hid (p x=q):=qH hq;have HC1:Hid (∀w',Below wr.heap.size wr w'->Calls Try.prog 42 #[.agg (chkA x.from_ x.to_ x.n x.of_ B x.data.length cx),.pointer (some ⟨g,0,none⟩)] w' (RetB w' (.bool q))):=qH fun w' hb=>by
    exact x2zx
   clear hq;go_wp2_with fail;refine(HC1.out _ ?_).mono ?_
   ·exact x9o6
   rintro e w1 ⟨rfl,hb1⟩;have HB1:Hid (Below w.heap.size w w1):=by
    exact x7ta
   exact x48w
  exact x00g
theorem coA_has(A D:OA)(cc d g:Nat)(l:List Chk)(c:Chk)(w:World)(hl:l.length<=2513169434843)(hs:Chs w A l)(hlt:g<w.heap.size)(hc:ChkAt w g 0 c D d):
  Calls Try.prog 41 #[.slice A l.length cc,.func (Fn.func 42) #[] #[.pointer (some ⟨g,0,none⟩)]] w (RetB w (.bool (l.any (fun x=>same4 x c)))):=by
 have HK:=qH (coA_idx A D cc d g l c w hl hs hlt hc);rw[<-idxF_ge (fun x=>same4 x c) l 0];clear hs hc;generalize idxF (fun x=>same4 x c) l 0=r at *
 exact x2ze
theorem coB_idx(A D:OA)(cc d g:Nat)(l:List Chk)(c:Chk)(w:World)(hl:l.length<=2513169434843)(hs:Chs w A l)(hlt:g<w.heap.size)(hc:ChkAt w g 0 c D d):
  Calls Try.prog 107 #[.slice A l.length cc,.func (Fn.func 43) #[] #[.pointer (some ⟨g,0,none⟩)]] w (RetB w (iv (idxF (fun x=>sameN x c) l 0))):=by
 have HS:=qH hs;have HCC:Hid (∀(x:Chk) (B:OA) (k:Nat) w',Below w.heap.size w w'->Calls Try.prog 43 #[.agg (chkA x.from_ x.to_ x.n x.of_ B x.data.length k),.pointer (some ⟨g,0,none⟩)] w' (RetB w' (.bool ((fun x=>sameN x c) x)))):=qH fun x B k w' hb=>coB_calls x c B D k d g w' (by have:=hb.size;omega) (hc.stays hlt hb);clear hs hc;generalize (fun x=>sameN x c)=p at *
 obtain⟨r,hr⟩:=eX (idxF p l 0);rw[hr];have HR:Hid (idxF p l 0=r):=qH hr;clear hr;go_enter Try.func107,Try.ntmps107;go_wp2_with fail;go_loopw [8] (fun i wr=>∃k:Nat,k<=l.length∧i=iv k∧Hid (idxF p (l.drop k) k=r)∧Hid (Below w.heap.size w wr)) (fun i _=>l.length-(intOf i).toNat)
 case atStart=>exact⟨0,Nat.zero_le _,rfl,qH HR.out,qH (Below.refl _ _)⟩
 case round=>
  rename World=>wr;obtain⟨k,hk,rfl,HE,HB⟩:=hrel;have hsz:=HB.out.size;by_cases hlk:k<l.length
  ·obtain⟨b,o,B,cx,rfl,hs1,p6,p1,p2,p3,p4,p5⟩:=(HS.out.stays HB.out).at_ hlk;have hdr:l.drop k=l[k]::l.drop (k+1):=List.drop_eq_getElem_cons hlk;rw[hdr]at HE;clear p5 hdr;generalize l[k]=x at *
   obtain⟨q,hq⟩:=eX (p x);have HX:Hid (p x=q):=qH hq;have HC1:Hid (∀w',Below wr.heap.size wr w'->Calls Try.prog 43 #[.agg (chkA x.from_ x.to_ x.n x.of_ B x.data.length cx),.pointer (some ⟨g,0,none⟩)] w' (RetB w' (.bool q))):=qH fun w' hb=>by
    exact x2zx
   clear hq;go_wp2_with fail;refine(HC1.out _ ?_).mono ?_
   ·exact x9o6
   rintro e w1 ⟨rfl,hb1⟩;have HB1:Hid (Below w.heap.size w w1):=by
    exact x7ta
   exact x48w
  exact x00g
theorem coB_has(A D:OA)(cc d g:Nat)(l:List Chk)(c:Chk)(w:World)(hl:l.length<=2513169434843)(hs:Chs w A l)(hlt:g<w.heap.size)(hc:ChkAt w g 0 c D d):
  Calls Try.prog 41 #[.slice A l.length cc,.func (Fn.func 43) #[] #[.pointer (some ⟨g,0,none⟩)]] w (RetB w (.bool (l.any (fun x=>sameN x c)))):=by
 have HK:=qH (coB_idx A D cc d g l c w hl hs hlt hc);rw[<-idxF_ge (fun x=>sameN x c) l 0];clear hs hc;generalize idxF (fun x=>sameN x c) l 0=r at *
 exact x2ze
end Go.Proofs.Ytefkfglkpebbmac
