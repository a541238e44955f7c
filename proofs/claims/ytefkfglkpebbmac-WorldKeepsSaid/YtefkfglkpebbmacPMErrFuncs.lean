/- Walks of functions, and plain words. No conditions. -/
import Derived.Test.YtefkfglkpebbmacP10
set_option linter.unusedVariables false
set_option linter.unusedSimpArgs false
set_option maxRecDepth 100000
set_option maxHeartbeats 40000000
namespace Go.Proofs.Ytefkfglkpebbmac
open Go.RowKit
variable {Y:Prop}
theorem x80a(h:Y:=by
 have HE1:Hid ((-1:Int)=r):=qH (by
  rw[<-HE.out,List.drop_of_length_le (by omega)];rfl)
 clear HE;go_wp2_with fail;go_ret;exact⟨by rw[<-HE1.out];rfl,HB.out⟩):Y:=h
def idxE(p:Int->Bool):List Int->Nat->Int
 |[],_=> -1
 |x::r,k=>if p x=true then (k:Int)else idxE p r (k+1)
theorem idxE_f{p:Int->Bool}{x:Int}{r:List Int}{k:Nat}(h:p x=false):idxE p (x::r) k=idxE p r (k+1):=if_neg (by simp[h])
theorem idxE_t{p:Int->Bool}{x:Int}{r:List Int}{k:Nat}(h:p x=true):idxE p (x::r) k=(k:Int):=if_pos h
theorem idxE_ge(p:Int->Bool):∀(l:List Int) (k:Nat),decide ((0:Int)<=idxE p l k)=l.any p
 |[],k=>by simp[idxE]
 |x::r,k=>by
  unfold idxE;by_cases h:p x=true
  ·rw[if_pos h];simp[h]
  rw[if_neg h,idxE_ge p r];simp[h]
theorem indexErrs_calls(A:OA)(c:Nat)(l:List Int)(e:Int)(w:World)(hl:l.length<=140737488351232)(hs:Nts w A l):
  Calls Try.prog 131 #[.slice A l.length c,iv e] w (RetB w (iv (idxE (fun x=>e==x) l 0))):=by
 have HS:=qH hs;obtain⟨r,hr⟩:=eX (idxE (fun x=>e==x) l 0);rw[hr];have HR:Hid (idxE (fun x=>e==x) l 0=r):=qH hr;clear hr hs;go_enter Try.func131,Try.ntmps131;go_wp2_with fail;go_loopw [8] (fun i wr=>∃k:Nat,k<=l.length∧i=iv k∧Hid (idxE (fun x=>e==x) (l.drop k) k=r)∧Hid (Below w.heap.size w wr)) (fun i _=>l.length-(intOf i).toNat)
 case atStart=>exact⟨0,Nat.zero_le _,rfl,qH HR.out,qH (Below.refl _ _)⟩
 case round=>
  rename World=>wr;obtain⟨k,hk,rfl,HE,HB⟩:=hrel;have hsz:=HB.out.size;by_cases hlk:k<l.length
  ·obtain⟨b,o,rfl,hs1,p1⟩:=(HS.out.stays HB.out) k hlk;have hdr:l.drop k=l[k]::l.drop (k+1):=List.drop_eq_getElem_cons hlk;rw[hdr]at HE;clear hdr;generalize l[k]=x at *
   obtain⟨q,hq⟩:=eX ((e==x));have HX:Hid ((fun x=>e==x) x=q):=qH hq
   cases q
   ·have HE1:Hid (idxE (fun x=>e==x) (l.drop (k+1)) (k+1)=r):=qH ((idxE_f (p:=fun x=>e==x) HX.out).symm.trans HE.out);clear HE HX;go_wp2_with fail;go_roundw
    case rel=>exact⟨k+1,by omega,by go_num,HE1,qH (by first|exact HB.out|exact HB.out.drew)⟩
    case measure=>simp[intOf]<;>omega
   have HE1:Hid ((k:Int)=r):=qH ((idxE_t (p:=fun x=>e==x) HX.out).symm.trans HE.out);clear HE HX;go_wp2_with fail;go_ret;exact⟨by rw[<-HE1.out];rfl,by first|exact HB.out|exact HB.out.drew⟩
  exact x80a
theorem gone2_calls(x:Int)(w:World):Calls Try.prog 134 #[iv x] w (RetB w (.bool (x !=0))):=by
 go_enter Try.func134,Try.ntmps134;go_wp2_with fail;go_ret;exact⟨rfl,Below.refl _ _⟩
theorem idxErrs_calls(A:OA)(c:Nat)(l:List Int)(w:World)(hl:l.length<=140737488351232)(hs:Nts w A l):
  Calls Try.prog 156 #[.slice A l.length c,.func (Fn.func 134) #[] #[]] w (RetB w (iv (idxE (fun x=>x !=0) l 0))):=by
 have HS:=qH hs;obtain⟨r,hr⟩:=eX (idxE (fun x=>x !=0) l 0);rw[hr];have HR:Hid (idxE (fun x=>x !=0) l 0=r):=qH hr;clear hr hs;go_enter Try.func156,Try.ntmps156;go_wp2_with fail;go_loopw [8] (fun i wr=>∃k:Nat,k<=l.length∧i=iv k∧Hid (idxE (fun x=>x !=0) (l.drop k) k=r)∧Hid (Below w.heap.size w wr)) (fun i _=>l.length-(intOf i).toNat)
 case atStart=>exact⟨0,Nat.zero_le _,rfl,qH HR.out,qH (Below.refl _ _)⟩
 case round=>
  rename World=>wr;obtain⟨k,hk,rfl,HE,HB⟩:=hrel;have hsz:=HB.out.size;by_cases hlk:k<l.length
  ·obtain⟨b,o,rfl,hs1,p1⟩:=(HS.out.stays HB.out) k hlk;have hdr:l.drop k=l[k]::l.drop (k+1):=List.drop_eq_getElem_cons hlk;rw[hdr]at HE;clear hdr;generalize l[k]=x at *
   obtain⟨q,hq⟩:=eX ((x !=0));have HX:Hid ((fun x=>x !=0) x=q):=qH hq;have HC:Hid (∀w',Calls Try.prog 134 #[iv x] w' (RetB w' (.bool q))):=qH fun w'=>hq▸gone2_calls x w';clear hq;go_wp2_with fail;refine(HC.out _).mono ?_;rintro e w1 ⟨rfl,hb1⟩;have HB1:Hid (Below w.heap.size w w1):=qH (HB.out.trans (hb1.mono hsz));clear hb1
   cases q
   ·have HE1:Hid (idxE (fun x=>x !=0) (l.drop (k+1)) (k+1)=r):=qH ((idxE_f (p:=fun x=>x !=0) HX.out).symm.trans HE.out);clear HE HX;go_wp2_with fail;go_roundw
    case rel=>exact⟨k+1,by omega,by go_num,HE1,HB1⟩
    case measure=>simp[intOf]<;>omega
   have HE1:Hid ((k:Int)=r):=qH ((idxE_t (p:=fun x=>x !=0) HX.out).symm.trans HE.out);clear HE HX;go_wp2_with fail;go_ret;exact⟨by rw[<-HE1.out];rfl,HB1.out⟩
  exact x80a
theorem anyErrs_calls(A:OA)(c:Nat)(l:List Int)(w:World)(hl:l.length<=140737488351232)(hs:Nts w A l):
  Calls Try.prog 132 #[.slice A l.length c,.func (Fn.func 134) #[] #[]] w (RetB w (.bool (l.any (fun x=>x !=0)))):=by
 have HK:=qH (idxErrs_calls A c l w hl hs);rw[<-idxE_ge (fun x=>x !=0) l 0];clear hs;generalize idxE (fun x=>x !=0) l 0=r at *
 go_enter Try.func132,Try.ntmps132;go_wp2_with fail;refine HK.out.mono ?_;exact x3rf
theorem ofHap_calls(k n:Int)(w:World):Calls Try.prog 129 #[iv k,iv n] w (RetB w (.agg #[iv k,iv n])):=by
 go_enter Try.func129,Try.ntmps129;go_wp2_with fail;refine bodyPost_ret (results_c rfl rfl (cs:=#[iv k,iv n]) (by go_simp) (by go_simp) (by go_simp)) rfl ⟨rfl,?_⟩;exact bL _
end Go.Proofs.Ytefkfglkpebbmac
