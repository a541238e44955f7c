/- The walk of the document's SameOps. No conditions. -/
import Derived.Test.YtefkfglkpebbmacPE1
import Derived.Test.YtefkfglkpebbmacPA
import Derived.Deep.DeepCutAuto
set_option linter.unusedVariables false
set_option linter.unusedSimpArgs false
set_option maxRecDepth 100000
set_option maxHeartbeats 40000000
namespace Go.Proofs.Ytefkfglkpebbmac
open Go.RowKit
variable {Y:Prop}
theorem refSame_calls(A B:OA)(c d:Nat)(l m:List Stp)(w:World)(hl:l.length<=3518437208780)(hm:m.length<=3518437208780)(ha:Sps w A l)(hb:Sps w B m):
  Calls Try.prog 22 #[.slice A l.length c,.slice B m.length d] w (RetB w (.bool (decide (l=m)))):=by
 by_cases hne:l.length=m.length
 ·have hdl:((l.length:Int) !=(m.length:Int))=false:=by simp[hne]
  have HE:=qH hne;have hm1:l.length<=m.length:=by omega
  have hm1:m.length<=l.length:=by omega
  clear hne;have HA:=qH ha;have HB2:=qH hb;clear ha hb;go_enter Try.func22,Try.ntmps22;go_wp2_with fail;go_loopw [14] (fun i wr=>∃k:Nat,k<=l.length∧i=.int .i64 k∧Hid (l.take k=m.take k)∧Hid (Below w.heap.size w wr)) (fun i _=>l.length-(intOf i).toNat)
  case atStart=>exact⟨0,Nat.zero_le _,rfl,qH rfl,qH (Below.refl _ _)⟩
  case round=>
   obtain⟨k,hk,rfl,HT,HB⟩:=hrel;by_cases hlt:k<l.length
   ·obtain⟨b1,o1,B1,c1,rfl,hs1,p6,p1,p2,p3,p4,p5,-,-⟩:=(HA.out.stays HB.out).at_ hlt;have hsz:=HB.out.size;have hbx:Below wr.heap.size wr (wr.alloc (.cells #[iv l[k].at_,iv l[k].len,.slice B1 l[k].data.length c1] 117)):=(Below.refl _ _).alloc (Nat.le_refl _) _;obtain⟨b1,o1,B2,c2,rfl,hs2,r6,r1,r2,r3,r4,r5,-,-⟩:=((HB2.out.stays HB.out).stays hbx).at_ (i:=k) (by omega);obtain⟨b2,o1,B3,c3,e1,hs3,-⟩:=(HB2.out.stays HB.out).at_ (i:=k) (by omega);injection e1 with e1;injection e1 with e4 e5;subst e4 e5;have HBX:=qH (HB.out.trans (hbx.mono hsz));have HX:Hid (l[k]=m[k]'(by omega)->l.take (k+1)=m.take (k+1)):=qH fun e=>take_eq_succ HT.out hlt (by omega) e;have HN:Hid (l[k]≠m[k]'(by omega)->l≠m):=qH fun e=>ne_of_at hlt (by omega) e;have p5x:=p5.stays hbx;generalize l[k]=x at *
    generalize m[k]'(by omega)=y at *
    obtain⟨xa,xl,xd⟩:=x;obtain⟨ya,yl,yd⟩:=y;dsimp only at *
    clear p5 hbx HA HB2;have hkm:k<m.length:=by omega
    have hsx:wr.heap.size<=(wr.alloc (.cells #[iv xa,iv xl,.slice B1 xd.length c1] 117)).heap.size:=by simp
    obtain⟨v1,hv1⟩:∃v,(xa !=ya)=v:=⟨_,rfl⟩;obtain⟨v2,hv2⟩:∃v,(xl !=yl)=v:=⟨_,rfl⟩;obtain⟨v3,hv3⟩:∃v,decide (xd=yd)=v:=⟨_,rfl⟩;have HV:Hid ((v1 || v2 || !v3)=decide ((⟨xa,xl,xd⟩:Stp)≠⟨ya,yl,yd⟩)):=qH (by
     rw[<-hv1,<-hv2,<-hv3];by_cases h1:xa=ya<;>by_cases h2:xl=yl<;>by_cases h3:xd=yd<;>simp[h1,h2,h3])
    go_upto_region 6 with fail
    have q3:(wr.alloc (.cells #[iv xa,iv xl,.slice B1 xd.length c1] 117)).cell? ⟨wr.heap.size,0,none⟩=some (iv xa):=by go_simp
    have q1:(wr.alloc (.cells #[iv xa,iv xl,.slice B1 xd.length c1] 117)).cell? ⟨wr.heap.size,1,none⟩=some (iv xl):=by go_simp
    have q2:(wr.alloc (.cells #[iv xa,iv xl,.slice B1 xd.length c1] 117)).cell? ⟨wr.heap.size,2,none⟩=some (.slice B1 xd.length c1):=by go_simp
    have hs3:wr.heap.size<(wr.alloc (.cells #[iv xa,iv xl,.slice B1 xd.length c1] 117)).heap.size:=by simp
    have hb1:b1<(wr.alloc (.cells #[iv xa,iv xl,.slice B1 xd.length c1] 117)).heap.size:=by simp;omega
    obtain⟨W1,hw1⟩:∃W1,(wr.alloc (.cells #[iv xa,iv xl,.slice B1 xd.length c1] 117))=W1:=⟨_,rfl⟩;rw[hw1]at HBX p5x r5 r6 r1 r2 q3 q1 q2 hs3 hb1⊢;clear hw1 hs2 hs1 p6 p1 p2;go_cut [47] (fun v wx=>v=.bool (v1 || v2 || !v3)∧Hid (Below W1.heap.size W1 wx))
    case first=>
     have HQ:=qH (fun n=>bytesEqual_calls B1 B2 c1 c2 xd yd (W1.drewN n) p3 r3 (p5x.drewN n) (r5.drewN n));rw[hv3]at HQ;have hk1:(k:Int)<(m.length:Int):=by omega
     clear hs3 hb1 HX HN HV p5x r5 hv3 p3 p4 r3 r4
     cases v1<;>cases v2<;>cases v3<;>(
      go_quiet ((go_at_call 23;exact Calls.quiet_of_same ((HQ.out _).mono fun _ _ h=>⟨h.1,h.2.symm⟩)))
      go_wp2_with fail;go_meet
      case rel=>exact⟨rfl,qH (below_drewN _ _)⟩)
    case rest=>
    obtain⟨rfl,hcb⟩:=hcut;have HB1:=qH (HBX.out.trans (hcb.out.mono HBX.out.size));clear q3 q1 q2 r6 r1 r2 HBX hcb hs3 hb1 hv1 hv2 hv3 p5x r5;by_cases hx:(⟨xa,xl,xd⟩:Stp)=⟨ya,yl,yd⟩
    ·have hv:(v1 || v2 || !v3)=false:=HV.out.trans (decide_eq_false (fun h=>h hx));have HX1:=qH (HX.out hx);rw[hv];clear hx HV HN HX;go_wp2_with fail;go_roundw
     case rel=>exact⟨k+1,by omega,by go_num,HX1,HB1⟩
     case measure=>simp[intOf];omega
    have hv:(v1 || v2 || !v3)=true:=HV.out.trans (decide_eq_true hx);have HN1:=qH (HN.out hx);rw[hv];clear hx HV HN HX;go_wp2_with fail;go_ret;exact⟨ret_bool (decide_eq_false HN1.out).symm,HB1.out⟩
   obtain rfl:k=l.length:=by omega
   have HL:Hid (l=m):=qH (by
    have:=HT.out;rwa [List.take_length,HE.out,List.take_length]at this)
   go_wp2_with fail;go_ret;exact⟨ret_bool (decide_eq_true HL.out).symm,HB.out⟩
 have hdl:((l.length:Int) !=(m.length:Int))=true:=by simp;omega
 have HE:Hid (l≠m):=qH fun e=>hne (by rw[e]);clear hne ha hb;go_enter Try.func22,Try.ntmps22;go_wp2_with fail;go_ret;exact⟨ret_bool (decide_eq_false HE.out).symm,Below.refl _ _⟩
end Go.Proofs.Ytefkfglkpebbmac
