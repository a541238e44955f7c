/- The walk of the law StoryWhole. No conditions. -/
import Derived.Test.YtefkfglkpebbmadPXPlayedStoryWhole
set_option linter.unusedVariables false
set_option linter.unusedSimpArgs false
set_option maxRecDepth 100000
set_option maxHeartbeats 40000000
namespace Go.Proofs.Ytefkfglkpebbmad
open Go.RowKit
variable {Y:Prop}
theorem wholeOk_calls(gb:Nat)(A:OA)(c:Nat)(l:List (List UInt8))(x:Wor)(L:WLoc)(wr:World)(k:Int)(hinv:Inv l k x)(hl:l.length<=5864062014634)(h:WorIn wr x L)(hc:l.length<=c)(hi:Ims wr A l)(hbx:Box wr gb 22 (.slice A l.length c)):
  Calls Try.prog 13 #[.agg (worA x L),.pointer (some ⟨gb,0,none⟩)] wr (RetB wr (.bool true)):=by
 have HIN:=qH h;have HI:=qH hi;have HBX:=qH hbx;have hgb:=hbx.lt;have K1:=qH (fun w h=>stoRuns_calls x L w h);have HBA:Hid (Below wr.heap.size wr (wr.alloc (.cells (worA x L) 41))):=qH (bL _);obtain⟨up,hup⟩:∃up,x.d.up=up:=⟨_,rfl⟩
 cases up
 ·rw[runs_off hinv hup]at K1;have q1:(!x.d.up)=true:=by rw[hup];rfl
  clear hup hinv h hi hbx;go_enter Try.func13,Try.ntmps13;go_wp2_with fail;refine(K1.out _ (HIN.out.stays HBA.out)).mono ?_;rintro e w1 ⟨A1,c1,rfl,hc1,hf1,hb⟩;have a1:=kp (wr.heap.size) (worA x L) hb;have HB1:Hid (Below wr.heap.size wr w1):=qH (HBA.out.trans (hb.mono (by simp)));clear hb hf1 hc1;exact x3zi
 obtain⟨v,hr,h1,h3,h4⟩:=runs_release hinv hup;rw[h1]at K1;obtain⟨n,rfl⟩:∃n:Nat,v=(n:Int)+1:=⟨(v-1).toNat,by have:=hr.1;omega⟩;have hn:n<l.length:=by have:=hr.2;omega
 rw[relAt_get hn]at K1;obtain⟨b,o,B,m,rfl,hbl,hcell,hm,hbt⟩:=hi.at_ hn;have HBT:=qH hbt;have HCE:=qH hcell;obtain⟨im,him⟩:=eX (l[n]);rw[him]at K1 HBT HCE hm;have q1:(!x.d.up)=false:=by rw[hup];rfl
 clear hup hinv h hi hbx hr h1 h3 h4 him hbt hcell;have hwk:IntKind.i64.wrap ((n:Int)+1-1)=(n:Int):=by rw[show (n:Int)+1-1=(n:Int) by omega];exact IntWalk.i64_in _ (by omega)
 have d1:decide ((1:Int)<=(n:Int)+1)=true:=decide_eq_true (by omega);have d2:decide ((n:Int)+1<=(l.length:Int))=true:=decide_eq_true (by omega);go_enter Try.func13,Try.ntmps13;go_wp2_with fail;refine(K1.out _ (HIN.out.stays HBA.out)).mono ?_;rintro e w1 ⟨A1,c1,rfl,hc1,hf1,hb⟩;have a1:=kp (wr.heap.size) (worA x L) hb;have HB1:Hid (Below wr.heap.size wr w1):=qH (HBA.out.trans (hb.mono (by simp)));have hbx1:=HBX.out.keep HB1.out hgb;have b2:=hbx1.cell;have b1:=hbx1.free;have e1:w1.cell? ⟨b,o+n,none⟩=some (.slice B im.length m):=(World.cell?_of_block (HB1.out.block b hbl)).trans HCE.out;have ke:=bytesEqual_calls A1 B c1 m im im w1 hc1 hm hf1.now (HBT.out.stays HB1.out);rw[decide_eq_true rfl]at ke;have KE:=qH ke;clear hb hf1 hc1 ke hbx1;go_wp2_with fail;refine KE.out.mono ?_;rintro e w2 ⟨rfl,rfl⟩;exact x3zi
theorem StoryWhole_walk(W:World)(v0 v1:Value)(x0:List (List UInt8))(x1:List (Int×Int))(g0:ArgImgs W v0 x0)(g1:ArgHaps W v1 x1):Calls Try.prog 4 #[v0,v1] W (RetB W (.bool true)):=by
 obtain⟨A,c,rfl,hc,hl,hi⟩:=g0;obtain⟨B,e,rfl,he,hsl,hh⟩:=g1;have KR:=qH (fun w=>runs_calls w);obtain⟨W1,hW1⟩:=eX (W.alloc (.cells #[.slice A x0.length c] 22));have hb1:Below W.heap.size W W1:=by rw[<-hW1];exact bL _
 have hsz:W1.heap.size=W.heap.size+1:=by rw[<-hW1];simp
 have hbx1:Box W1 W.heap.size 22 (.slice A x0.length c):=by rw[<-hW1];exact Box.new W _ _
 have KP:Hid (Calls Try.prog 6 #[.slice A x0.length c,.slice B x1.length e,.func (Fn.func 13) #[] #[.pointer (some ⟨W.heap.size,0,none⟩)]] W1 (PlRet W1 none x0 x1)):=qH (by
  refine playedStoryWhole_calls W.heap.size none (fun _ _=>True) 1 A c x0 B e x1 W1 hc hl (hi.stays hb1) he hsl (hh.stays hb1) (fun k hk=>by cases hk) (fun _ _ _ _ _=>trivial) trivial (Int.le_refl _) (fun _ k hk=>by cases hk) ?_;intro x L wr k f hinv hk1 hk2 hf hwi hst hbx;refine(wholeOk_calls W.heap.size A c x0 x L wr k hinv hl (hwi wr (fun _ _ _=>rfl)) hc ((hi.stays hb1).stays hbx.to) (hbx1.keep hbx.to (by omega))).mono ?_;exact x960)
 have HW:Hid (W.alloc (.cells #[.slice A x0.length c] 22)=W1):=qH hW1;clear hi hh hb1 hsz hW1 hbx1;go_enter Try.func4,Try.ntmps4;go_wp2_with fail;rw[HW.out];refine KP.out.mono ?_;rintro en w1 ⟨x,L,rfl,hx,hf,hbx⟩;have HB1:Hid (Below W.heap.size W w1):=qH (by
  have h1:=HW.out;have hs:W1.heap.size=W.heap.size+1:=by rw[<-h1];simp
  rw[hs,<-h1]at hbx;exact hbx.belowTop')
 clear hx hf hbx HW KP;go_wp2_with fail;refine(KR.out _).mono ?_;rintro en w2 ⟨rfl,hb⟩;have HB2:Hid (Below W.heap.size W w2):=qH (by first|exact(HB1.out.alloc HB1.out.size _).trans (hb.mono (by have:=HB1.out.size;simp;omega))|exact HB1.out.trans (hb.mono HB1.out.size));clear hb;go_wp2_with fail;go_ret;exact⟨rfl,HB2.out⟩
end Go.Proofs.Ytefkfglkpebbmad
