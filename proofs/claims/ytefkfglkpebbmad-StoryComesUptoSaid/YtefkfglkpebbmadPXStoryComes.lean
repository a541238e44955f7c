/- The walk of the law StoryComes. No conditions. -/
import Derived.Test.YtefkfglkpebbmadP15
import Derived.Test.YtefkfglkpebbmadPXPlayedStoryComes
import Derived.Test.YtefkfglkpebbmadPXComesDo
import Derived.Test.YtefkfglkpebbmadPXAtFn
set_option linter.unusedVariables false
set_option linter.unusedSimpArgs false
set_option maxRecDepth 100000
set_option maxHeartbeats 40000000
namespace Go.Proofs.Ytefkfglkpebbmad
open Go.RowKit
def netLen (w : World) (g : Nat) : Nat := match ((rowOf w g)[38]? : Option Value) with
 | some (Value.slice _ n _) => n
 | _ => 0
def doneLeft (w : World) (g : Nat) : Nat := match ((rowOf w g)[37]? : Option Value) with
 | some (Value.int _ d) => (100 - d).toNat
 | _ => 0
theorem WoB.net {w : World} {g : Nat} {x : Wor} {L : WLoc} (h : WoB w g x L) : netLen w g = x.net.length := by unfold netLen; rw [h.row, worA_get38]
theorem WoB.done {w : World} {g : Nat} {x : Wor} {L : WLoc} (h : WoB w g x L) : doneLeft w g = (100 - x.d.done).toNat := by unfold doneLeft; rw [h.row, worA_get37]
theorem comesOk_calls (x : Wor) (L : WLoc) (w : World) : Calls Try.prog 14 #[.agg (worA x L)] w (RetB w (.bool true)) := by
 go_enter Try.func14, Try.ntmps14
 go_wp2_with fail
 go_ret
 exact ⟨rfl, by first | exact Below.refl _ _ | exact (Below.refl _ _).alloc (Nat.le_refl _) _⟩
theorem StoryComes_walk (W : World) (v0 v1 v2 : Value) (x0 : List (List UInt8)) (x1 : List (Int × Int)) (to_ : Int) (g0 : ArgImgs W v0 x0) (g1 : ArgHaps W v1 x1) (g2 : v2 = iv to_ ∧ I64 to_) : Calls Try.prog 5 #[v0, v1, v2] W (RetB W (.bool true)) := by
 obtain ⟨A, c, rfl, hc, hl, hi⟩ := g0
 obtain ⟨B, e, rfl, he, hsl, hh⟩ := g1
 obtain ⟨rfl, ht1, ht2⟩ := g2
 have KR := hD (fun w => runs_calls w)
 have KP : Hid (Calls Try.prog 6 #[.slice A x0.length c, .slice B x1.length e, .func (Fn.func 14) #[] #[]] W (PlRet W none x0 x1)) := hD (by
  refine playedStoryComes_calls none (fun _ _ => True) 1 A c x0 B e x1 W hc hl hi he hsl hh (fun k hk => by cases hk) (fun _ _ _ _ _ => trivial) trivial (Int.le_refl _) (fun _ k hk => by cases hk) ?_
  intro x L wr k f hinv hk1 hk2 hf hwi hst hbx
  refine (comesOk_calls x L wr).mono ?_
  rintro en w2 ⟨h1, h2⟩
  exact ⟨h1, trivial, Bx.of h2 (Nat.le_refl _)⟩)
 have HI := hD hi
 clear hh hi
 go_enter Try.func5, Try.ntmps5
 go_wp2_with fail
 refine KP.out.mono ?_
 rintro en w1 ⟨x, L, rfl, hx, hf, hbx⟩
 have HB1 : Hid (Below W.heap.size W w1) := hD hbx.to
 have hs1 : W.heap.size ≤ w1.heap.size := hbx.size
 have hwo : WoB (w1.alloc (.cells (worA x L) 41)) w1.heap.size x L := WoB.new hf
 clear hbx KP hf
 go_wp2_with fail
 refine (KR.out _).mono ?_
 rintro en w2 ⟨rfl, hb⟩
 obtain ⟨a0r, a0f, a0n, a0c, a0z, a0l⟩ := kp (w1.heap.size) (worA x L) hb
 have HB2 : Hid (Below W.heap.size W w2) := hD ((HB1.out.alloc HB1.out.size _).trans (hb.mono (by simp; omega)))
 have HWO := hD (hwo.below hb)
 clear hb hwo
 rcases hx with ⟨_, rfl⟩ | ⟨k, hrel, hinv, hk1, hk2⟩
 ·by_cases hz : x0.length = 0
  ·have q0 : ((x0.length : Int) == 0) = true := by rw [hz]; rfl
   clear hz
   go_wp2_with fail
   refine (KR.out _).mono ?_
   rintro en w3 ⟨rfl, hb⟩
   have HB3 : Hid (Below W.heap.size W w3) := hD (HB2.out.trans (hb.mono HB2.out.size))
   clear hb
   go_wp2_with fail
   go_ret
   exact ⟨rfl, HB3.out⟩
  ·have q0 : ((x0.length : Int) == 0) = false := by rw [beq_eq_false_iff_ne]; omega
   clear hz
   go_wp2_with fail
   refine (KR.out _).mono ?_
   rintro en w3 ⟨rfl, hb⟩
   have HB3 : Hid (Below W.heap.size W w3) := hD (HB2.out.trans (hb.mono HB2.out.size))
   clear hb
   go_wp2_with fail
   go_ret
   exact ⟨rfl, HB3.out⟩
 have hne : 0 < x.rel.length := by
  rw [hinv.rel]
  exact List.length_pos_iff.2 (relCheck_ok.1 hrel).1
 have hl30 := (relCheck_ok.1 hrel).2.1
 have q0 : ((x0.length : Int) == 0) = false := by rw [beq_eq_false_iff_ne]; rw [hinv.rel] at hne; omega
 have q1 : ((x.rel.length : Int) == 0) = false := by rw [beq_eq_false_iff_ne]; omega
 have hlp : 0 < x0.length := by rw [← hinv.rel]; exact hne
 have HA0 : Hid (CmA x0 0 x) := hD (cmA_start hinv hk2)
 obtain ⟨gw, hgw⟩ : ∃ gw, w1.heap.size = gw := ⟨_, rfl⟩
 have hgW : W.heap.size ≤ gw := by omega
 have HGW := hD hgw
 clear hne hrel hinv hk1 hk2 HB1 hs1 hgw
 go_wp2_with fail
 rw [HGW.out] at HWO ⊢
 clear HGW q0 q1 a0r a0f a0n a0c a0z a0l
 go_loopw [45] (fun i wr => ∃ (k : Nat) (x : Wor) (L : WLoc), k ≤ 5 ∧ i = .int .i64 k ∧ Hid (CmA x0 k x) ∧ Hid (WoB wr gw x L) ∧ Hid (Below W.heap.size W wr)) (fun i _ => 5 - (intOf i).toNat)
 case atStart => exact ⟨0, x, L, by omega, rfl, HA0, HWO, HB2⟩
 case round =>
  rename World => wr
  clear HA0 HWO HB2
  obtain ⟨k, x, L, hk, rfl, HA, HW, HB⟩ := hrel
  have hsz := HB.out.size
  by_cases hlt : k < 5
  ·have dl : decide ((k : Int) < 5) = true := decide_eq_true (by omega)
   have hwk : IntKind.i64.wrap ((k : Int) + 1) = (k : Int) + 1 := IntWalk.i64_in _ (by omega)
   go_wp2_with fail
   refine (comesDo_calls gw x L 9 0 wr HW.out ⟨by decide, by decide⟩).mono ?_
   rintro en w3 ⟨L3, rfl, hw3, hbx3⟩
   rw [(cmA_crash HA.out).1] at hw3
   obtain ⟨x', hx', ha'⟩ := cmA_boot HA.out hlt
   have HB3 : Hid (Below W.heap.size W w3) := hD (HB.out.trans (hbx3.low hsz hgW))
   have HX := hD hx'
   have HA' := hD ha'
   have HW3 := hD hw3
   have hs3 := HB3.out.size
   clear hx' ha' hw3 hbx3
   go_wp2_with fail
   refine (comesDo_fine gw _ x' L3 10 0 w3 HW3.out ⟨by decide, by decide⟩ HX.out).mono ?_
   rintro en w4 ⟨L4, rfl, hw4, hbx4⟩
   have HB4 : Hid (Below W.heap.size W w4) := hD (HB3.out.trans (hbx4.low hs3 hgW))
   have HW4 := hD hw4
   clear hw4 hbx4
   go_wp2_with fail
   go_roundw
   case rel => exact ⟨k + 1, x', L4, by omega, by go_num, HA', HW4, HB4⟩
   case measure => simp [intOf] <;> omega
  ·obtain rfl : k = 5 := by omega
   have HC : Hid (CmB x0 x) := hD HA.out.calm
   clear HA
   go_wp2_with fail
   go_loopw [53] (fun _ wr => ∃ (x : Wor) (L : WLoc), Hid (CmB x0 x) ∧ Hid (WoB wr gw x L) ∧ Hid (Below W.heap.size W wr)) (fun _ wr => netLen wr gw)
   case atStart => exact ⟨x, L, HC, HW, HB⟩
   case round =>
    clear HC HW HB
    rename World => wr
    obtain ⟨x, L, HC, HW, HB⟩ := hrel
    have hsz := HB.out.size
    obtain ⟨a0r, a0f, a0n, a0c, a0z, a0l⟩ := keep1 (Below.refl wr.heap.size wr) HW.out.row (by go_simp) HW.out.fr
    by_cases hlt : 0 < x.net.length
    ·have dl : decide ((0 : Int) < (x.net.length : Int)) = true := decide_eq_true (by omega)
     have dk : decide (0 < x.net.length) = true := decide_eq_true hlt
     obtain ⟨x', hx', hc', hn'⟩ := cmB_lose HC.out hlt
     have HX := hD hx'
     have HC' := hD hc'
     have hm := HW.out.net
     have HM : Hid (netLen wr gw = x.net.length ∧ x'.net.length + 1 = x.net.length) := hD ⟨hm, hn'⟩
     clear hx' hc' hn' hm
     go_wp2_with fail
     refine (comesDo_fine gw x x' L 4 0 wr HW.out ⟨by decide, by decide⟩ HX.out).mono ?_
     rintro en w4 ⟨L4, rfl, hw4, hbx4⟩
     have HB4 : Hid (Below W.heap.size W w4) := hD (HB.out.trans (hbx4.low hsz hgW))
     have HW4 := hD hw4
     have hm4 : netLen w4 gw < netLen wr gw := by rw [hw4.net, HM.out.1]; have := HM.out.2; omega
     have HM4 := hD hm4
     clear hw4 hbx4 hm4 a0r a0f a0n a0c a0z a0l
     go_wp2_with fail
     go_roundw
     case rel => exact ⟨_, _, _, _, _, _, _, _, ⟨x', L4, HC', HW4, HB4⟩, rfl⟩
     case measure => exact HM4.out
    ·have dl : decide ((0 : Int) < (x.net.length : Int)) = false := decide_eq_false (by omega)
     have hn0 : x.net.length = 0 := by omega
     have HN0 := hD hn0
     have dk : decide (0 < x.net.length) = false := decide_eq_false hlt
     clear hn0
     have K9 := hD (fun w => read_ok x.d.c0 x.d.c1 w HC.out.inv.ok.dev.cops)
     obtain ⟨rk, hrk⟩ : ∃ rk, (recRead x.d.c0 x.d.c1).2 = rk := ⟨_, rfl⟩
     have hre : (recRead x.d.c0 x.d.c1).1 = x.d.rec_ := rfl
     rw [hrk, hre] at K9
     have htr := HC.out.tr
     obtain ⟨tv, htv⟩ : ∃ tv, 1 + to_ % (x0.length : Int) = tv := ⟨_, rfl⟩
     have hmod1 := Int.emod_nonneg to_ (show (x0.length : Int) ≠ 0 by omega)
     have hmod2 := Int.emod_lt_of_pos to_ (show 0 < (x0.length : Int) by omega)
     have HTV : Hid (InRel x0 tv) := hD ⟨by omega, by omega⟩
     have hwt : IntKind.i64.wrap (1 + to_ % (x0.length : Int)) = tv := by rw [htv]; exact IntWalk.i64_in _ (by omega)
     have KA := hD (fun w => at2_calls to_ (x0.length : Int) w ht1 ht2 (by omega) (by omega))
     have HTR := hD htr
     have HRT := hD (show (recA x.d.rec_)[2]? = some (.bool false) by unfold recA; rw [htr]; rfl)
     clear hrk hre htr hmod1 hmod2 htv
     go_wp2_with fail
     refine (K9.out _).mono ?_
     rintro en w4 ⟨rfl, hb⟩
     have HB4 : Hid (Below W.heap.size W w4) := hD (HB.out.trans (hb.mono hsz))
     have HW4 := hD (HW.out.below hb)
     clear hb a0r a0f a0n a0c a0z a0l
     go_wp2_with fail
     refine (KA.out _).mono ?_
     rintro en w5 ⟨rfl, rfl⟩
     have htr := HTR.out
     by_cases hfl : tv < x.d.rec_.floor
     ·have df : decide (tv < x.d.rec_.floor) = true := decide_eq_true hfl
      clear hfl
      go_wp2_with fail
      go_ret
      refine ⟨rfl, ?_⟩
      first | exact HB4.out | exact HB4.out.alloc HB4.out.size _
     have df : decide (tv < x.d.rec_.floor) = false := decide_eq_false hfl
     obtain ⟨x', j, hx', hc', hj⟩ := cmC_start HC.out HN0.out HTV.out (Int.not_lt.1 hfl)
     have HX := hD hx'
     have HC' := hD hc'
     have hs4 := HB4.out.size
     have HWA : Hid (WoB (w4.alloc (.cells (recA x.d.rec_) 30)) gw x L) := hD (HW4.out.below ((Below.refl _ _).alloc (Nat.le_refl _) _))
     have htv64 : I64 tv := ⟨by have := HTV.out.1; omega, by have := HTV.out.2; omega⟩
     clear hx' hc' hfl
     go_wp2_with fail
     refine (comesDo_fine gw x x' L 1 tv _ HWA.out htv64 HX.out).mono ?_
     rintro en w6 ⟨L6, rfl, hw6, hbx6⟩
     have HB6 : Hid (Below W.heap.size W w6) := hD ((HB4.out.alloc hs4 _).trans (hbx6.low (by simp; omega) hgW))
     have HW6 := hD hw6
     clear hw6 hbx6 HC HW HB HW4 HB4 HWA HX K9 KA htr HTR HRT df
     go_wp2_with fail
     go_loopw [96] (fun _ wr => ∃ (j : Nat) (x : Wor) (L : WLoc), Hid (CmC x0 tv j x) ∧ Hid (WoB wr gw x L) ∧ Hid (Below W.heap.size W wr) ∧ Hid (j ≤ 10)) (fun _ wr => netLen wr gw)
     case atStart => exact ⟨j, x', L6, HC', HW6, HB6, hD hj⟩
     case round =>
      clear HC' HW6 HB6 hj
      rename World => wr
      obtain ⟨j, x, L, HC, HW, HB, HJ⟩ := hrel
      have hsz := HB.out.size
      obtain ⟨a0r, a0f, a0n, a0c, a0z, a0l⟩ := keep1 (Below.refl wr.heap.size wr) HW.out.row (by go_simp) HW.out.fr
      rcases j with _ | j
      ·have hnet := HC.out.net
       rw [List.take_zero] at hnet
       have hn0 : ¬ 0 < x.net.length := by rw [hnet]; simp
       have dk : decide (0 < x.net.length) = false := decide_eq_false hn0
       obtain ⟨y, hy, hcd⟩ := cmD_open HC.out
       have HY := hD hy
       have HD := hD hcd
       clear hnet hy hcd
       go_wp2_with fail
       refine (comesDo_fine gw x y L 5 0 wr HW.out ⟨by decide, by decide⟩ HY.out).mono ?_
       rintro en w7 ⟨L7, rfl, hw7, hbx7⟩
       have HB7 : Hid (Below W.heap.size W w7) := hD (HB.out.trans (hbx7.low hsz hgW))
       have HW7 := hD hw7
       clear hw7 hbx7 HC HW HB HJ HY a0r a0f a0n a0c a0z a0l dk hn0
       go_wp2_with fail
       go_loopw [110] (fun _ wr => ∃ (n : Int) (x : Wor) (L : WLoc), Hid (CmD x0 tv n x ∧ 0 ≤ n) ∧ Hid (WoB wr gw x L) ∧ Hid (Below W.heap.size W wr)) (fun _ wr => doneLeft wr gw)
       case atStart => exact ⟨0, y, L7, hD ⟨HD.out, Int.le_refl _⟩, HW7, HB7⟩
       case round =>
        clear HD HW7 HB7
        rename World => wr
        obtain ⟨n, x, L, HD, HW, HB⟩ := hrel
        have hsz := HB.out.size
        obtain ⟨hdn, hwr⟩ := cmD_write HD.out.1
        have hn0 := HD.out.2
        rcases hwr with ⟨x', hx', hd', hn⟩ | ⟨hx', y, hy, p, r0, sa, run, i1, i2, i3, i4, i5, i6⟩
        ·have HX := hD hx'
         have HD' : Hid (CmD x0 tv (n + 8) x' ∧ 0 ≤ n + 8) := hD ⟨hd', by omega⟩
         have HM : Hid (doneLeft wr gw = (100 - n).toNat ∧ x'.d.done = n + 8) := hD ⟨by rw [HW.out.done, hdn], (cmD_write hd').1⟩
         clear hx' hd' hdn HD
         go_wp2_with fail
         refine (comesDo_fine gw x x' L 6 0 wr HW.out ⟨by decide, by decide⟩ HX.out).mono ?_
         rintro en w8 ⟨L8, rfl, hw8, hbx8⟩
         have HB8 : Hid (Below W.heap.size W w8) := hD (HB.out.trans (hbx8.low hsz hgW))
         have HW8 := hD hw8
         have hm8 : doneLeft w8 gw < doneLeft wr gw := by rw [hw8.done, HM.out.1, HM.out.2]; omega
         have HM8 := hD hm8
         clear hw8 hbx8 hm8
         go_wp2_with fail
         go_roundw
         case rel => exact ⟨n + 8, x', L8, HD', HW8, HB8⟩
         case measure => exact HM8.out
        ·have HX := hD hx'
         have HY := hD hy
         obtain ⟨x1, x2, x3, e1, e2, e3, g, hg, hg2, e4, e5⟩ := cm_end i1 i2 i3 i4 i5 i6
         have H1 := hD e1
         have H2 := hD e2
         have H3 := hD e3
         have K4 := hD (fun L w h => stoRuns_calls x3 L w h)
         have K5 := hD (fun L w h => stoNext_calls x3 L w h)
         rw [e4] at K4
         rw [e5] at K5
         have hin := HTV.out
         obtain ⟨m, rfl⟩ : ∃ m : Nat, tv = (m : Int) + 1 := ⟨(tv - 1).toNat, by have := hin.1; omega⟩
         have hm : m < x0.length := by have := hin.2; omega
         rw [relAt_get hm] at K4
         obtain ⟨b, o, B1, mc, rfl, hbl, hcell, hmc, hbt⟩ := HI.out.at_ hm
         have HBT := hD hbt
         have HCE := hD hcell
         obtain ⟨im, him⟩ : ∃ im, x0[m] = im := ⟨_, rfl⟩
         rw [him] at K4 HBT HCE hmc
         have hwk2 : IntKind.i64.wrap ((m : Int) + 1 - 1) = (m : Int) := by rw [show (m : Int) + 1 - 1 = (m : Int) by omega]; exact IntWalk.i64_in _ (by omega)
         clear hx' hy i1 i2 i3 i4 i5 i6 e1 e2 e3 e4 e5 hg hg2 hin him hbt hcell hdn HD
         go_wp2_with fail
         refine (comesDo_stop gw x L 6 0 wr HW.out ⟨by decide, by decide⟩ HX.out).mono ?_
         rintro en w8 ⟨L8, rfl, hw8, hbx8⟩
         have HB8 : Hid (Below W.heap.size W w8) := hD (HB.out.trans (hbx8.low hsz hgW))
         have HW8 := hD hw8
         have hs8 := HB8.out.size
         clear hw8 hbx8 HX HW HB hsz
         go_wp2_with fail
         refine (comesDo_fine gw x y L8 7 0 w8 HW8.out ⟨by decide, by decide⟩ HY.out).mono ?_
         rintro en w9 ⟨L9, rfl, hw9, hbx9⟩
         have HB9 : Hid (Below W.heap.size W w9) := hD (HB8.out.trans (hbx9.low hs8 hgW))
         have HW9 := hD hw9
         have hs9 := HB9.out.size
         clear hw9 hbx9 HY HW8 HB8 hs8
         go_wp2_with fail
         refine (comesDo_fine gw y x1 L9 9 0 w9 HW9.out ⟨by decide, by decide⟩ H1.out).mono ?_
         rintro en w10 ⟨L10, rfl, hw10, hbx10⟩
         have HB10 : Hid (Below W.heap.size W w10) := hD (HB9.out.trans (hbx10.low hs9 hgW))
         have HW10 := hD hw10
         have hs10 := HB10.out.size
         clear hw10 hbx10 H1 HW9 HB9 hs9
         go_wp2_with fail
         refine (comesDo_fine gw x1 x2 L10 10 0 w10 HW10.out ⟨by decide, by decide⟩ H2.out).mono ?_
         rintro en w11 ⟨L11, rfl, hw11, hbx11⟩
         have HB11 : Hid (Below W.heap.size W w11) := hD (HB10.out.trans (hbx11.low hs10 hgW))
         have HW11 := hD hw11
         have hs11 := HB11.out.size
         clear hw11 hbx11 H2 HW10 HB10 hs10
         go_wp2_with fail
         refine (comesDo_fine gw x2 x3 L11 8 0 w11 HW11.out ⟨by decide, by decide⟩ H3.out).mono ?_
         rintro en w12 ⟨L12, rfl, hw12, hbx12⟩
         have HB12 : Hid (Below W.heap.size W w12) := hD (HB11.out.trans (hbx12.low hs11 hgW))
         have HW12 := hD hw12
         have hs12 := HB12.out.size
         obtain ⟨a0r, a0f, a0n, a0c, a0z, a0l⟩ := keep1 (Below.refl w12.heap.size w12) hw12.row (by go_simp) hw12.fr
         clear hw12 hbx12 H3 HW11 HB11 hs11
         go_wp2_with fail
         refine (K4.out L12 _ HW12.out.now).mono ?_
         rintro en w13 ⟨A13, c13, rfl, hc13, hf13, hb⟩
         obtain ⟨a0r, a0f, a0n, a0c, a0z, a0l⟩ := keep1 (g := gw) (cs := worA x3 L12) hb a0r (by go_simp) a0f
         have HB13 : Hid (Below W.heap.size W w13) := hD (HB12.out.trans (hb.mono hs12))
         have HW13 := hD (HW12.out.below hb)
         have HF13 := hD hf13
         have HC13 := hD hc13
         have hs13 := HB13.out.size
         clear hb hf13 hc13 HB12 HW12 hs12
         go_wp2_with fail
         refine (K5.out L12 _ HW13.out.now).mono ?_
         rintro en w14 ⟨rfl, hb⟩
         have HB14 : Hid (Below W.heap.size W w14) := hD (HB13.out.trans (hb.mono hs13))
         have e0 : w14.cell? ⟨b, o + m, none⟩ = some (.slice B1 im.length mc) := (World.cell?_of_block (HB14.out.block b hbl)).trans HCE.out
         have ke := bytesEqual_calls A13 B1 c13 mc im im w14 HC13.out hmc (HF13.out.now.stays hb) (HBT.out.stays HB14.out)
         rw [decide_eq_true rfl] at ke
         have KE := hD ke
         clear hb ke a0r a0f a0n a0c a0z a0l
         go_wp2_with fail
         refine KE.out.mono ?_
         rintro en w15 ⟨rfl, rfl⟩
         go_wp2_with fail
         go_ret
         exact ⟨rfl, HB14.out⟩
      ·obtain ⟨hnl, x', hx', hc'⟩ := cmC_hear HC.out
       have hlt : 0 < x.net.length := by omega
       have dk : decide (0 < x.net.length) = true := decide_eq_true hlt
       have hj10 := HJ.out
       have hwk : IntKind.i64.wrap ((x.net.length : Int) - 1) = (j : Int) := by rw [show (x.net.length : Int) - 1 = (j : Int) by omega]; exact IntWalk.i64_in _ (by omega)
       have HX := hD hx'
       have HC' := hD hc'
       have HM : Hid (netLen wr gw = j + 1) := hD (by rw [HW.out.net]; exact hnl)
       clear hx' hc'
       have HNL := hD hnl
       clear hnl
       go_wp2_with fail
       refine (comesDo_fine gw x x' L 2 (j : Int) wr HW.out ⟨by omega, by omega⟩ HX.out).mono ?_
       rintro en w7 ⟨L7, rfl, hw7, hbx7⟩
       have HB7 : Hid (Below W.heap.size W w7) := hD (HB.out.trans (hbx7.low hsz hgW))
       have HW7 := hD hw7
       have hm7 : netLen w7 gw < netLen wr gw := by
        rw [hw7.net, HM.out, HC'.out.net, List.length_take]
        omega
       have HM7 := hD hm7
       clear hw7 hbx7 hm7 a0r a0f a0n a0c a0z a0l
       go_wp2_with fail
       go_roundw
       case rel => exact ⟨j, x', L7, HC', HW7, HB7, hD (by omega)⟩
       case measure => exact HM7.out
end Go.Proofs.Ytefkfglkpebbmad
