/- The walk of the law StoryTorn. No conditions. -/
import Derived.Test.YtefkfglkpebbmadP15
import Derived.Test.YtefkfglkpebbmadPXPlayedStoryTorn
set_option linter.unusedVariables false
set_option linter.unusedSimpArgs false
set_option maxRecDepth 100000
set_option maxHeartbeats 40000000
namespace Go.Proofs.Ytefkfglkpebbmad
open Go.RowKit
theorem tornOk_calls (x : Wor) (L : WLoc) (w : World) : Calls Try.prog 7 #[.agg (worA x L)] w (RetB w (.bool true)) := by
 go_enter Try.func7, Try.ntmps7
 go_wp2_with fail
 go_ret
 exact ⟨rfl, by first | exact Below.refl _ _ | exact (Below.refl _ _).alloc (Nat.le_refl _) _⟩
theorem StoryTorn_walk (W : World) (v0 v1 : Value) (x0 : List (List UInt8)) (x1 : List (Int × Int)) (g0 : ArgImgs W v0 x0) (g1 : ArgHaps W v1 x1) : Calls Try.prog 3 #[v0, v1] W (RetB W (.bool true)) := by
 obtain ⟨A, c, rfl, hc, hl, hi⟩ := g0
 obtain ⟨B, e, rfl, he, hsl, hh⟩ := g1
 have KR := hD (fun w => runs_calls w)
 have KP : Hid (Calls Try.prog 6 #[.slice A x0.length c, .slice B x1.length e, .func (Fn.func 7) #[] #[]] W (PlRet W none x0 x1)) := hD (by
  refine playedStoryTorn_calls none (fun _ _ => True) 1 A c x0 B e x1 W hc hl hi he hsl hh (fun k hk => by cases hk) (fun _ _ _ _ _ => trivial) trivial (Int.le_refl _) (fun _ k hk => by cases hk) ?_
  intro x L wr k f hinv hk1 hk2 hf hwi hst hbx
  refine (tornOk_calls x L wr).mono ?_
  rintro en w2 ⟨h1, h2⟩
  exact ⟨h1, trivial, Bx.of h2 (Nat.le_refl _)⟩)
 have HI := hD hi
 clear hh hi
 go_enter Try.func3, Try.ntmps3
 go_wp2_with fail
 refine KP.out.mono ?_
 rintro en w1 ⟨x, L, rfl, hx, hf, hbx⟩
 have HB1 : Hid (Below W.heap.size W w1) := hD hbx.to
 have HW1 := hD hf.now
 have hs1 : W.heap.size ≤ w1.heap.size := hbx.size
 have HBA : Hid (Below w1.heap.size w1 (w1.alloc (.cells (worA x L) 41))) := hD ((Below.refl _ _).alloc (Nat.le_refl _) _)
 clear hf hbx KP
 rcases hx with ⟨_, rfl⟩ | ⟨k, hrel, hinv, hk1, hk2⟩
 ·go_wp2_with fail
  refine (KR.out _).mono ?_
  rintro en w2 ⟨rfl, hb⟩
  obtain ⟨a0r, a0f, a0n, a0c, a0z, a0l⟩ := kp (w1.heap.size) (worA Wor.zero L) hb
  have HB2 : Hid (Below W.heap.size W w2) := hD ((HB1.out.alloc HB1.out.size _).trans (hb.mono (by simp; omega)))
  clear hb
  go_wp2_with fail
  refine (KR.out _).mono ?_
  rintro en w3 ⟨rfl, hb⟩
  have HB3 : Hid (Below W.heap.size W w3) := hD (HB2.out.trans (hb.mono HB2.out.size))
  clear hb
  go_wp2_with fail
  go_ret
  exact ⟨rfl, HB3.out⟩
 ·have hne : 0 < x.rel.length := by
   rw [hinv.rel]
   have := (relCheck_ok.1 hrel).1
   exact List.length_pos_iff.2 this
  have q0 : ((x.rel.length : Int) == 0) = false := by rw [beq_eq_false_iff_ne]; omega
  have HT := hD (fun h => torn_same hinv (show k < 999999 by omega) h)
  obtain ⟨n1, n2⟩ := next_is hinv.ok (by have := hinv.gen; omega)
  have K1 : Hid (∀ w, WorIn w x L → Calls Try.prog 9 #[.agg (worA x L)] w (RetB w (.tuple #[iv x.d.nextVer, iv 0]))) := hD (fun w h => by
   have := stoNext_calls x L w h
   rwa [n1] at this)
  obtain ⟨nv, hnv⟩ : ∃ nv, x.d.nextVer = nv := ⟨_, rfl⟩
  obtain ⟨⟨x', e'⟩, hres⟩ : ∃ res, worDo x 12 0 = res := ⟨_, rfl⟩
  have K2 : Hid (∀ w, WorIn w x L → Calls Try.prog 10 #[.agg (worA x L), .agg #[iv 12, iv 0]] w (WvRet w x' e')) := hD (fun w h => by
   have := worDo_calls x L 12 0 w h ⟨by decide, by decide⟩
   rwa [hres] at this)
  rw [hnv] at K1 HT
  rw [hres] at HT
  clear hrel hinv n1 n2 hnv hres hk1 hk2 hne
  go_wp2_with fail
  refine (KR.out _).mono ?_
  rintro en w2 ⟨rfl, hb⟩
  obtain ⟨a0r, a0f, a0n, a0c, a0z, a0l⟩ := kp (w1.heap.size) (worA x L) hb
  have HB2 : Hid (Below W.heap.size W w2) := hD ((HB1.out.alloc HB1.out.size _).trans (hb.mono (by simp; omega)))
  have HW2 := hD ((HW1.out.stays HBA.out).stays hb)
  clear hb
  go_wp2_with fail
  refine (K1.out _ HW2.out).mono ?_
  rintro en w3 ⟨rfl, hb⟩
  obtain ⟨a0r, a0f, a0n, a0c, a0z, a0l⟩ := kp (w1.heap.size) (worA x L) hb
  have HB3 : Hid (Below W.heap.size W w3) := hD (HB2.out.trans (hb.mono HB2.out.size))
  have HW3 := hD (HW2.out.stays hb)
  clear hb
  go_wp2_with fail
  refine (K2.out _ HW3.out).mono ?_
  rintro en w4 ⟨L4, rfl, hf4, hb⟩
  obtain ⟨a0r, a0f, a0n, a0c, a0z, a0l⟩ := kp (w1.heap.size) (worA x L) hb
  have HB4 : Hid (Below W.heap.size W w4) := hD (HB3.out.trans (hb.mono HB3.out.size))
  have HW4 := hD hf4.now
  have HBA4 : Hid (Below w4.heap.size w4 (w4.alloc (.cells (worA x' L4) 41))) := hD ((Below.refl _ _).alloc (Nat.le_refl _) _)
  clear hb hf4
  by_cases he0 : e' = 0
  ·subst he0
   obtain ⟨t1, t2, t3, t4⟩ := HT.out rfl
   try dsimp only at t1 t2 t3
   obtain ⟨⟨y, e2⟩, hres2⟩ : ∃ res, worDo x' 10 0 = res := ⟨_, rfl⟩
   rw [hres2] at t2 t3
   try dsimp only at t2 t3
   subst t2
   have K5 : Hid (∀ w, WorIn w x' L4 → Calls Try.prog 9 #[.agg (worA x' L4)] w (RetB w (.tuple #[iv nv, iv 0]))) := hD (fun w h => by
    have := stoNext_calls x' L4 w h
    rwa [t1] at this)
   have K6 : Hid (∀ w, WorIn w x' L4 → Calls Try.prog 10 #[.agg (worA x' L4), .agg #[iv 10, iv 0]] w (WvRet w y 0)) := hD (fun w h => by
    have := worDo_calls x' L4 10 0 w h ⟨by decide, by decide⟩
    rwa [hres2] at this)
   obtain ⟨n, rfl⟩ : ∃ n : Nat, nv = (n : Int) + 1 := ⟨(nv - 1).toNat, by have := t4.1; omega⟩
   have hn : n < x0.length := by have := t4.2; omega
   rw [relAt_get hn] at t3
   obtain ⟨b, o, B1, m, rfl, hbl, hcell, hm, hbt⟩ := HI.out.at_ hn
   have HBT := hD hbt
   have HCE := hD hcell
   obtain ⟨im, him⟩ : ∃ im, x0[n] = im := ⟨_, rfl⟩
   rw [him] at t3 HBT HCE hm
   have K7 : Hid (∀ L w, WorIn w y L → Calls Try.prog 11 #[.agg (worA y L)] w (SrRet w ((n : Int) + 1) im 0)) := hD (fun L w h => by
    have := stoRuns_calls y L w h
    rwa [t3] at this)
   have hwk : IntKind.i64.wrap ((n : Int) + 1 - 1) = (n : Int) := by rw [show (n : Int) + 1 - 1 = (n : Int) by omega]; exact IntWalk.i64_in _ (by omega)
   clear t1 t3 t4 hres2 HT HI him hbt hcell K1 K2
   go_wp2_with fail
   refine (K5.out _ (HW4.out.stays HBA4.out)).mono ?_
   rintro en w5 ⟨rfl, hb⟩
   obtain ⟨a1r, a1f, a1n, a1c, a1z, a1l⟩ := kp (w4.heap.size) (worA x' L4) hb
   have HB5 : Hid (Below W.heap.size W w5) := hD ((HB4.out.alloc HB4.out.size _).trans (hb.mono (by have := HB4.out.size; simp; omega)))
   have HW5 := hD ((HW4.out.stays HBA4.out).stays hb)
   clear hb
   go_wp2_with fail
   refine (K6.out _ HW5.out).mono ?_
   rintro en w6 ⟨L6, rfl, hf6, hb⟩
   have HB6 : Hid (Below W.heap.size W w6) := hD (HB5.out.trans (hb.mono HB5.out.size))
   have HW6 := hD hf6.now
   have HBA6 : Hid (Below w6.heap.size w6 (w6.alloc (.cells (worA y L6) 41))) := hD ((Below.refl _ _).alloc (Nat.le_refl _) _)
   clear hb hf6
   go_wp2_with fail
   refine (K7.out _ _ (HW6.out.stays HBA6.out)).mono ?_
   rintro en w7 ⟨A7, c7, rfl, hc7, hf7, hb⟩
   have HB7 : Hid (Below W.heap.size W w7) := hD ((HB6.out.alloc HB6.out.size _).trans (hb.mono (by have := HB6.out.size; simp; omega)))
   have e0 : w7.cell? ⟨b, o + n, none⟩ = some (.slice B1 im.length m) := (World.cell?_of_block (HB7.out.block b hbl)).trans HCE.out
   have ke := bytesEqual_calls A7 B1 c7 m im im w7 hc7 hm hf7.now (HBT.out.stays HB7.out)
   rw [decide_eq_true rfl] at ke
   have KE := hD ke
   clear hb hf7 hc7 ke
   go_wp2_with fail
   refine KE.out.mono ?_
   rintro en w8 ⟨rfl, rfl⟩
   go_wp2_with fail
   go_ret
   exact ⟨rfl, HB7.out⟩
  ·have q1 : (e' != 0) = true := by simp [he0]
   clear he0 HT
   go_wp2_with fail
   go_ret
   refine ⟨rfl, ?_⟩
   first | exact HB4.out | exact HB4.out.alloc HB4.out.size _
end Go.Proofs.Ytefkfglkpebbmad
