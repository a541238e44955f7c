/- A device whose power goes as a sector is written, and that is started again: it can be sent the patch anew. No program here. -/
import Derived.Test.YtefkfglkpebbmacPMTriesLaw
set_option linter.unusedVariables false
set_option linter.unusedSimpArgs false
set_option maxRecDepth 100000
set_option maxHeartbeats 40000000
namespace Go.Proofs.Ytefkfglkpebbmac
open Go.RowKit
variable {Y:Prop}
structure TrO(old b:LU)(G:Int)(d:Dev):Prop where
 ok:DevOk d
 up:d.up=false
 tr:d.rec_.trying=false
 act:d.rec_.active=0
 fl:d.rec_.floor=1
 s0:d.s0=room old
 at0:d.rec_.at_ 0=⟨1,old.length,sumOn 1 old⟩
 gen:d.rec_.gen<=G
section
variable {old b:LU} {to_ G:Int} {d:Dev} {n:Int}
theorem tr_s0(h:TrW old b to_ G n d):d.s0=room old:=by
 obtain⟨r1,hw,h1,_⟩:=h;have:=hw.sl;rw[h1]at this;exact this
theorem tr_torn(h:TrW old b to_ G n d)(hn:n<b.length)(keep:Int):∃e,devWrite d true keep=(e,0)∧TrO old b (G+1) e:=by
 obtain⟨r1,hw,h1,h2,h3,h4⟩:=h;obtain⟨e,e1,e2,e3,e4,e5⟩:=hw.torn hn keep;have ht:=(hw.ok.work hw.up hw.busy).tr;have hg:=hw.gen;rw[h1]at e5;refine⟨e,e1,e2,e3,by rw[e4];exact ht,by rw[e4,hw.act];exact h1,by rw[e4,hw.fl];exact h2,e5,?_,by rw[e4];omega⟩;rw[e4];have:=hw.at_;rw[h1,h3]at this;exact this
theorem tr_reboot(h:TrO old b G d)(hG:G<999000)(ho:old.length<=64)(hb:b.length<=64)(ht:1<=to_∧to_<=30):∃e,devBoot d=(e,0)∧e.running=0∧e.busy=false∧TrB old b to_ G 0 e:=by
 have hn:nowAt d.rec_ 1=d.rec_:=by unfold nowAt;rw[if_neg (by rw[h.tr];simp)]
 have e1:devBoot d=(d.boots,0):=by rw[boot_is h.ok h.up,if_neg (fun x=>x.1 hn)]
 have bt:Booted d:=⟨h.ok,h.up,fun x=>absurd hn x⟩;obtain⟨b1,b2,b3,b4,b5,b6,b7,b8,b9,b10⟩:=boots_rec bt;have hr:d.boots.rec_=d.rec_:=by
  rcases b10 with x|x
  ·exact x.2
  exact absurd hn x.1
 have hs:slotAt d.rec_ 0=0:=by unfold slotAt;rw[if_neg (by rw[h.tr];simp)];exact h.act
 rw[hs]at b4;have hg:=h.gen;refine⟨_,e1,b4,b6,tr_fits ho hb ht (boot_ok_dev bt) b3 b6 (by rw[hr];exact h.tr) (by rw[hr];exact h.act) (by rw[hr];exact h.fl) (by rw[b1];exact h.s0) (by rw[hr];exact h.at0) (by rw[hr];omega),?_,by rw[hr];exact h.act,by rw[hr];exact h.fl,by rw[b1];exact h.s0,by rw[hr];exact h.at0,by rw[hr];exact hg,b4⟩;rw[gotS_none (fun j _=>by simp)];exact b5
end
end Go.Proofs.Ytefkfglkpebbmac
