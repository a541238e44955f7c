/- What the laws say of stories, in plain words, part two: what runs is a release; something runs whenever the power comes; a torn record changes nothing. No program here. -/
import Derived.Test.YtefkfglkpebbmacPXStoryMath
set_option linter.unusedVariables false
set_option linter.unusedSimpArgs false
set_option maxRecDepth 100000
set_option maxHeartbeats 40000000
namespace Go.Proofs.Ytefkfglkpebbmac
open Go.RowKit
variable {Y:Prop}
variable {w:Wor}
def stoStep(w:Wor)(x:Int×Int):Wor:=if (worDo w x.1 x.2).2=0 then (worDo w x.1 x.2).1 else w
theorem worDo_ok(h:WorOk w)(kind n:Int):worDo w kind n=worHappen w kind n:=by
 unfold worDo;rw[if_neg (by simpa using worCheck_ok.2 h)]
theorem step_inv{l:List (List UInt8)}{g:Int}(h:Inv l g w)(x:Int×Int):Inv l (g+1) (stoStep w x)∧w.d.rec_.floor<=(stoStep w x).d.rec_.floor:=by
 unfold stoStep;rw[worDo_ok h.ok];by_cases e:(worHappen w x.1 x.2).2=0
 ·rw[if_pos e];exact inv_step h e
 rw[if_neg e];have:=h.gen;exact⟨⟨h.ok,h.rel,h.net,h.got,by omega,h.slots,h.job⟩,Int.le_refl _⟩
theorem run_ver{d:Dev}(h:DevOk d)(hu:d.up=true):(d.running=0∨d.running=1)∧(d.rec_.at_ d.running).ver≠0∧d.rec_.floor<=(d.rec_.at_ d.running).ver:=by
 obtain⟨h1,h2⟩:=h.run hu;obtain⟨p1,p2,p3,p4⟩:=recCheck_parts (rec_ok h);unfold FormOk at p4;refine⟨h1,?_⟩;by_cases e:d.running=d.rec_.active
 ·rw[e];exact⟨p4.1,p4.2.2.2⟩
 have ht:d.rec_.trying=true:=by
  rcases h2 with h2|h2
  ·exact absurd h2 e
  exact h2
 have ha:=rec_active (rec_ok h);have:d.running=1-d.rec_.active:=by omega
 rw[this];exact p4.2.1 ht
theorem runs_release{l:List (List UInt8)}{g:Int}(h:Inv l g w)(hu:w.d.up=true):
  ∃v,InRel l v∧stoRuns w=(v,relAt l v,0)∧v=(w.d.rec_.at_ w.d.running).ver∧w.d.rec_.floor<=v:=by
 obtain⟨h1,h2,h3⟩:=run_ver h.ok.dev hu;obtain⟨s1,s2,s3⟩:=h.slots _ h1 h2;refine⟨_,s1,?_,rfl,h3⟩;unfold stoRuns;rw[if_neg (by simpa using worCheck_ok.2 h.ok),if_neg (by simp[hu])];unfold Dev.image;rw[s3]
def Dev.nextVer(d:Dev):Int:=(d.rec_.at_ (slotAt d.rec_ 0)).ver
theorem boots_ver{d:Dev}(b:Booted d):(d.boots.rec_.at_ d.boots.running).ver=d.nextVer:=by
 obtain⟨a1,a2,a3,a4,a5⟩:=boots_at b;rw[a3,(boots_rec b).2.2.2.1];rfl
theorem next_is(h:WorOk w)(hg:w.d.rec_.gen<1000000):stoNext w=(w.d.nextVer,0)∧w.d.rec_.floor<=w.d.nextVer:=by
 obtain⟨o1,o2,o3,_⟩:=off_ok h.dev;obtain⟨b,e⟩:=boots_of o1 o2 (by rw[o3];exact hg);refine⟨?_,(slot_floor (rec_ok h.dev) 0).2⟩;unfold stoNext;rw[if_neg (by simpa using worCheck_ok.2 h),e];dsimp only;rw[if_neg (by simp),boots_ver b];unfold Dev.nextVer;rw[o3]
end Go.Proofs.Ytefkfglkpebbmac
