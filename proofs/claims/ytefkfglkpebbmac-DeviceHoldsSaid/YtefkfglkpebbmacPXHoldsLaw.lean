/- Whatever a device does: it stays one, what its record calls active is not written, the floor does not sink, and only a confirmation makes another slot active. No program here. -/
import Derived.Test.YtefkfglkpebbmacPA
set_option linter.unusedVariables false
set_option linter.unusedSimpArgs false
set_option maxRecDepth 100000
set_option maxHeartbeats 40000000
namespace Go.Proofs.Ytefkfglkpebbmac
open Go.RowKit
variable {Y:Prop}
def holdAct(k:Nat)(d:Dev)(c:Chk)(n:Int):Dev×Int:=
 match k with
 |0=>devHear d c
 |1=>devOpen d
 |2=>devWrite d (decide (n.tmod 2=0)) n
 |3=>devFinish d (decide (n.tmod 2=0))
 |4=>devCrash d
 |5=>devBoot d
 |_=>devConfirm d
theorem holds_law{k:Nat}(hk:k<7){d:Dev}{c:Chk}{n:Int}(hok:DevOk d)(h:(holdAct k d c n).2=0):
  DevOk (holdAct k d c n).1∧(holdAct k d c n).1.slot d.rec_.active=d.slot d.rec_.active∧d.rec_.floor<=(holdAct k d c n).1.rec_.floor∧((holdAct k d c n).1.rec_.active=d.rec_.active∨k=6∧d.rec_.trying=true):=by
 have hact:=rec_active (rec_ok hok)
 match k,hk,h with
 |0,_,h=>
  obtain⟨_,_,_,_,e,o⟩:=hear_keeps (d:=d) (c:=c) h;refine⟨o,?_,?_,.inl ?_⟩
  ·show (devHear d c).1.slot _=_;rw[e];rfl
  ·show _<=(devHear d c).1.rec_.floor;rw[e];exact Int.le_refl _
  show (devHear d c).1.rec_.active=_;rw[e];rfl
 |1,_,h=>
  have o:=open_parts (d:=d) h;obtain⟨e1,e2,e3,_⟩:=opened_rec o;obtain⟨s1,s2,s3,s4,s5,s6⟩:=setOther_at hact Inf.zero;refine⟨opened_ok o,?_,?_,.inl ?_⟩
  ·show (devOpen d).1.slot _=_;unfold Dev.slot;rw[e2,e3]
  ·show _<=(devOpen d).1.rec_.floor;rw[e1];exact Int.le_of_eq s4.symm
  show (devOpen d).1.rec_.active=_;rw[e1];exact s3
 |2,_,h=>
  obtain⟨h1,h2⟩:=write_parts (d:=d) (torn:=decide (n.tmod 2=0)) (keep:=n) h;obtain⟨e1,e2,e3,e4,e5⟩:=wrote_slots h1 (decide (n.tmod 2=0)) n;have h3:(devWrite d (decide (n.tmod 2=0)) n).1.rec_=d.rec_∧(devWrite d (decide (n.tmod 2=0)) n).1.slot d.rec_.active=d.slot d.rec_.active:=by
   rw[h2];split
   ·exact⟨e1,e2⟩
   exact⟨e1,e2⟩
  refine⟨write_ok_dev h,h3.2,?_,.inl ?_⟩
  ·show _<=(devWrite d (decide (n.tmod 2=0)) n).1.rec_.floor;rw[h3.1];exact Int.le_refl _
  show (devWrite d (decide (n.tmod 2=0)) n).1.rec_.active=_;rw[h3.1]
 |3,_,h=>
  obtain⟨h1,h2⟩:=finish_parts (d:=d) (torn:=decide (n.tmod 2=0)) h;have hr:=fin_rec h1;obtain⟨s1,s2,s3,s4,s5,s6⟩:=tryIt_at hact d.jobInf;have h3:(devFinish d (decide (n.tmod 2=0))).1.rec_.active=d.rec_.active∧(devFinish d (decide (n.tmod 2=0))).1.rec_.floor=d.rec_.floor∧(devFinish d (decide (n.tmod 2=0))).1.slot d.rec_.active=d.slot d.rec_.active:=by
   have h4:(d.fin (decide (n.tmod 2=0))).rec_.active=d.rec_.active∧(d.fin (decide (n.tmod 2=0))).rec_.floor=d.rec_.floor:=by
    rw[hr];split
    ·exact⟨rfl,rfl⟩
    exact⟨s3,s4⟩
   rw[h2];split
   ·exact⟨h4.1,h4.2,rfl⟩
   exact⟨h4.1,h4.2,rfl⟩
  refine⟨finish_ok_dev h,h3.2.2,?_,.inl h3.1⟩
  show _<=(devFinish d (decide (n.tmod 2=0))).1.rec_.floor;rw[h3.2.1];exact Int.le_refl _
 |4,_,h=>
  obtain⟨_,_,e,o⟩:=crash_parts (d:=d) h;have e':(holdAct 4 d c n).1=d.down:=e;rw[e'];exact⟨o,rfl,Int.le_refl _,.inl rfl⟩
 |5,_,h=>
  obtain⟨b,e⟩:=boot_parts (d:=d) h;have e':(holdAct 5 d c n).1=d.boots:=e;obtain⟨f1,f2,_⟩:=boots_rec b;obtain⟨a1,a2,_⟩:=boots_at b;rw[e'];exact⟨boot_ok_dev b,by unfold Dev.slot;rw[f1,f2],by rw[a2];exact Int.le_refl _,.inl a1⟩
 |6,_,h=>
  obtain⟨h1,h2⟩:=confirm_parts (d:=d) h;obtain⟨o,e,_⟩:=confirm_ok_dev (d:=d) h;have e':(holdAct 6 d c n).1=(devConfirm d).1:=rfl;rw[e'];refine⟨o,by rw[h2];rfl,?_,.inr ⟨rfl,h1.trying⟩⟩;rw[e]
  show d.rec_.floor<=max d.rec_.floor _;omega
end Go.Proofs.Ytefkfglkpebbmac
