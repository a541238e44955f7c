/- Walks of functions, and plain words. No conditions. -/
import Derived.Test.YtefkfglkpebbmacGreatP11
import Derived.Test.YtefkfglkpebbmacGreatP12
set_option linter.unusedVariables false
set_option linter.unusedSimpArgs false
set_option maxRecDepth 100000
set_option maxHeartbeats 40000000
namespace Go.Proofs.YtefkfglkpebbmacGreat
open Go.RowKit
theorem x8 {p : Prop} (h : p := by
 refine ⟨.inl ⟨rfl, ?_⟩, .inl ⟨rfl, ?_⟩, .inl ⟨rfl, ?_⟩, .inl ⟨rfl, ?_⟩, .inl ⟨rfl, ?_⟩, .inl ⟨rfl, ?_⟩, .inl ⟨rfl, ?_⟩, .inl ⟨rfl, ?_⟩, .inl ⟨rfl, ?_⟩, .inl ⟨rfl, ?_⟩, .inl ⟨rfl, ?_⟩, .inl ⟨rfl, ?_⟩, .inl ⟨rfl, ?_⟩, .inl ⟨rfl, ?_⟩, .inl ⟨rfl, ?_⟩, .inl ⟨rfl, ?_⟩, trivial⟩
 all_goals intro done a wq hw h
 ·have e6 := cO 6 (.pointer (some ⟨w2.heap.size, 0, none⟩)) h; refine ch_pure ?_; go_simp
 ·have e36 := cN 0 36 h hw; obtain ⟨r_, f_, n_, c_, z_, l_⟩ := kq h.bel RP FP; refine ch_pure ?_; go_simp
 ·have e4 := cO 4 (.pointer (some ⟨w1.heap.size, 0, none⟩)) h; refine ch_pure ?_; go_simp
 ·have e38 := cN 2 38 h hw; obtain ⟨r_, f_, n_, c_, z_, l_⟩ := kq h.bel RR FR; have hk_ := HKK.out; refine ch_pure ?_; go_simp
 ·have e4 := cO 4 (.pointer (some ⟨w1.heap.size, 0, none⟩)) h; refine ch_pure ?_; go_simp
 ·have e40 := cN 4 40 h hw; have e39 := cN 3 39 h hw; refine ch_pure ?_; go_simp
 ·have e41 := cN 5 41 h hw; refine ch_pure ?_; go_simp
 ·have e42 := cN 6 42 h hw; obtain ⟨r_, f_, n_, c_, z_, l_⟩ := kq h.bel RR FR; refine ch_pure ?_; go_simp
 ·have e37 := cN 1 37 h hw; have e43 := cN 7 43 h hw; exact ch_neq_int (by kernel_rfl) (ch_ev e37) (ch_ev e43) (by have := HA.out; simp; omega)
 ·have e44 := cN 8 44 h hw; exact ch_move (ch_ev e44)
 ·have e6 := cO 6 (.pointer (some ⟨w2.heap.size, 0, none⟩)) h; refine ch_pure ?_; go_simp
 ·have e46 := cN 10 46 h hw; obtain ⟨r_, f_, n_, c_, z_, l_⟩ := kq h.bel RP FP; refine ch_pure ?_; go_simp
 ·have e4 := cO 4 (.pointer (some ⟨w1.heap.size, 0, none⟩)) h; refine ch_pure ?_; go_simp
 ·have e48 := cN 12 48 h hw; obtain ⟨r_, f_, n_, c_, z_, l_⟩ := kq h.bel RR FR; refine ch_pure ?_; go_simp
 ·have e47 := cN 11 47 h hw; have e49 := cN 13 49 h hw; exact ch_lss_int (by kernel_rfl) (ch_ev e47) (ch_ev e49) (by have := HA.out; simp; omega)
 ·have e45 := cN 9 45 h hw; have e50 := cN 14 50 h hw; exact ch_pick_f e45 (ch_ev e50)) : p := h
theorem x52 {p : Prop} (h : p := by
 have e4 := cO 4 (.pointer (some ⟨w1.heap.size, 0, none⟩)) h; refine ch_pure ?_; go_simp) : p := h
theorem x98 {p : Prop} (h : p := by
 intro done cv k0 a wq hw h hJ hn
 have e1 := mO 1 (.pointer (some ⟨w.heap.size, 0, none⟩)) h
 go_simp) : p := h
theorem setOther0 {r : Rec} (h : r.active = 0) : r.setOther Inf.zero = ⟨r.gen, 0, r.trying, r.tries, r.floor, r.a, Inf.zero⟩ := by
 unfold Rec.setOther
 rw [if_pos h, Rec.mk.injEq]; exact ⟨rfl, h, rfl, rfl, rfl, rfl, rfl⟩
theorem setOther1 {r : Rec} (h : r.active = 1) : r.setOther Inf.zero = ⟨r.gen, 1, r.trying, r.tries, r.floor, Inf.zero, r.b⟩ := by
 unfold Rec.setOther
 rw [if_neg (by omega), Rec.mk.injEq]; exact ⟨rfl, h, rfl, rfl, rfl, rfl, rfl⟩
theorem devOpen_bad (d : Dev) (L : DLoc) (w : World) (h : DevIn w d L)  (hne : devReady d ≠ 0) : Calls Tryz.prog 13 #[.agg (devA d L)] w (DvRet w Dev.zero (devReady d)) := by
 have hba : Below w.heap.size w ((w.alloc (.cells (devA d L) 37)).alloc (.cells (devA Dev.zero DLoc.zero) 37)) := bA (bA (Below.refl _ _) _) _
 have HBA := hD hba
 have HIN := hD h
 have KB := hD (fun w h => ready_bad d L w h hne)
 have q : (devReady d != 0) = true := by simp [hne]
 generalize devReady d = n at *
 clear hne h hba
 go_enter Tryz.func13, Tryz.ntmps13
 go_wp2_with fail
 refine (KB.out _ (HIN.out.stays HBA.out)).mono ?_
 rintro e w1 ⟨rfl, hb1⟩
 obtain ⟨a0r, a0f, a0n, a0c, a0z, a0l⟩ := kp (w.heap.size) (devA d L) hb1
 obtain ⟨a1r, a1f, a1n, a1c, a1z, a1l⟩ := kp (w.heap.size + 1) (devA Dev.zero DLoc.zero) hb1
 have HB1 := hD (HBA.out.trans (hb1.mono (by simp <;> omega)))
 clear hb1
 go_wp2_with fail
 refine bodyPost_ret (rC (devA Dev.zero DLoc.zero)) rfl ⟨DLoc.zero, rfl, .const fun v => DevIn.zero v, ?_⟩
 have hs := HB1.out.size
 exact x0
theorem devOpen_ok (d : Dev) (L : DLoc) (w : World) (h : DevIn w d L)  (hz : devReady d = 0) : Calls Tryz.prog 13 #[.agg (devA d L)] w (DvRet w (devOpen d).1 (devOpen d).2) := by
 have hba : Below w.heap.size w ((w.alloc (.cells (devA d L) 37)).alloc (.cells (devA Dev.zero DLoc.zero) 37)) := bA (bA (Below.refl _ _) _) _
 have HBA := hD hba
 have HIN := hD h
 have KR := hD (fun w h => ready_ok d L w h hz)
 have hdef : devOpen d = if d.busy = true ∨ d.rec_.trying = true then (Dev.zero, 5)
   else if (chkJoin d.got).2 ≠ 0 then (Dev.zero, (chkJoin d.got).2)
   else if (chkJoin d.got).1.from_ ≠ (d.rec_.at_ d.rec_.active).ver ∨ (chkJoin d.got).1.to_ < d.rec_.floor then (Dev.zero, 4)
   else if (patDo (sumOn 1) (chkJoin d.got).1 (d.image d.rec_.active d.rec_)).2 ≠ 0 then (Dev.zero, (patDo (sumOn 1) (chkJoin d.got).1 (d.image d.rec_.active d.rec_)).2)
   else if (recWrite d.c0 d.c1 (d.rec_.setOther Inf.zero) false).2 ≠ 0 then (Dev.zero, (recWrite d.c0 d.c1 (d.rec_.setOther Inf.zero) false).2)
   else ({ d with c0 := (recWrite d.c0 d.c1 (d.rec_.setOther Inf.zero) false).1.1, c1 := (recWrite d.c0 d.c1 (d.rec_.setOther Inf.zero) false).1.2, busy := true, job := (chkJoin d.got).1, done := 0, got := [] }, 0) := by unfold devOpen; rw [if_neg (by omega)]; rfl
 obtain ⟨hok, hup⟩ := devReady_ok.1 hz
 have hrec := rec_ok hok
 have hact := rec_active hrec
 have HOK := hD hok
 have HREC := hD hrec
 have HLG := hD h.lg
 have KJ := hD (fun A c w hs => chkJoin_calls A c d.got w HLG.out hs)
 obtain ⟨⟨p, e2⟩, hq⟩ : ∃ y, chkJoin d.got = y := ⟨_, rfl⟩
 rw [hq] at hdef KJ
 dsimp only at hdef KJ
 obtain ⟨⟨⟨p1, p2⟩, e5⟩, hw⟩ : ∃ y, recWrite d.c0 d.c1 (d.rec_.setOther Inf.zero) false = y := ⟨_, rfl⟩
 have KW := hD (fun w => write_calls d.c0 d.c1 (d.rec_.setOther Inf.zero) false w)
 rw [hw] at hdef KW
 dsimp only at hdef KW
 have HD := hD hdef
 generalize devOpen d = res at *
 clear hz h hba hdef hok hrec hup hq hw
 go_enter Tryz.func13, Tryz.ntmps13
 go_wp2_with fail
 refine (KR.out _ (HIN.out.stays HBA.out)).mono ?_
 rintro e w1 ⟨L1, rfl, hfr, hb1⟩
 obtain ⟨a0r, a0f, a0n, a0c, a0z, a0l⟩ := kp (w.heap.size) (devA d L) hb1
 obtain ⟨a1r, a1f, a1n, a1c, a1z, a1l⟩ := kp (w.heap.size + 1) (devA Dev.zero DLoc.zero) hb1
 have HFR : Hid (Fresh (w.heap.size + 2) w1 (fun v => DvOwn v (w.heap.size + 2) d L1)) := hD (by simpa [Nat.add_assoc] using hfr)
 have HB1 := hD (HBA.out.trans (hb1.mono (by simp <;> omega)))
 have hsz1 : w.heap.size + 2 <= w1.heap.size := by have := hb1.size; simp at this; omega
 have HK1 : Hid (Kp (w.heap.size + 2) w1 w1) := hD (Kp.refl _ _)
 clear hb1 hfr
 cases hbz : d.busy
 case true =>
  have hz : res = (Dev.zero, 5) := HD.out.trans (if_pos (.inl hbz))
  subst hz
  go_wp2_with fail
  refine bodyPost_ret (rC (devA Dev.zero DLoc.zero)) rfl ⟨DLoc.zero, rfl, .const fun v => DevIn.zero v, ?_⟩
  have hs := HB1.out.size
  exact x0
 cases ht : d.rec_.trying
 case true =>
  have hz : res = (Dev.zero, 5) := HD.out.trans (if_pos (.inr ht))
  subst hz
  go_wp2_with fail
  refine bodyPost_ret (rC (devA Dev.zero DLoc.zero)) rfl ⟨DLoc.zero, rfl, .const fun v => DevIn.zero v, ?_⟩
  have hs := HB1.out.size
  exact x0
 have HD2 := hD (HD.out.trans (if_neg (by rw [hbz, ht]; decide)))
 clear HD
 go_wp2_with fail
 refine (KJ.out L1.ag L1.cg _ ?_).mono ?_
 ·refine (Fresh.kp (B := w.heap.size + 2) HFR.out ?_ (Nat.le_refl _) (by first | omega | (simp <;> omega))).now.devIn.got
  exact x27
 rintro en w2 ⟨A2, c2, rfl, hfr2, hb⟩
 have HS2 : Hid (w1.heap.size + 1 <= w2.heap.size) := hD (by have := hb.size; simpa using this)
 obtain ⟨a0r, a0f, a0n, a0c, a0z, a0l⟩ := kp (w.heap.size) (devA d L1) hb
 obtain ⟨a1r, a1f, a1n, a1c, a1z, a1l⟩ := kp (w.heap.size + 1) (devA Dev.zero DLoc.zero) hb
 obtain ⟨a2r, a2f, a2n, a2c, a2z, a2l⟩ := kp (w1.heap.size) (recA d.rec_) hb
 have hbs2 := hb.size
 have hsz2 : w1.heap.size <= w2.heap.size := by first | omega | (simp at hbs2; omega)
 have HK2 : Hid (Kp (w.heap.size + 2) w1 w2) := hD (by
  refine Kp.below ?_ (by first | omega | (simp <;> omega)) hb
  exact x27)
 have HB2 : Hid (Below w.heap.size w w2) := hD (by
  refine Below.trans ?_ (hb.mono (by first | omega | (simp <;> omega)))
  have hs := HB1.out.size
  exact x0)
 clear hb hbs2
 have HGP : Hid (Fresh (w1.heap.size + 1) w2 (fun v => PatIn v p A2 c2)) := hD (by simpa using hfr2)
 have hsz2b := HS2.out
 clear hfr2 hbz ht
 by_cases c2' : e2 ≠ 0
 ·have hz : res = (Dev.zero, e2) := HD2.out.trans (if_pos c2')
  subst hz
  have q : (e2 != 0) = true := by simp [c2']
  clear c2'
  go_wp2_with fail
  refine bodyPost_ret (rC (devA Dev.zero DLoc.zero)) rfl ⟨DLoc.zero, rfl, .const fun v => DevIn.zero v, ?_⟩
  have hs := HB2.out.size
  exact x0
 have c2' := Decidable.not_not.1 c2'
 subst c2'
 have HD3 := hD (HD2.out.trans (if_neg (by decide)))
 clear HD2
 have q0 : ((0 : Int) != 0) = false := rfl
 rcases hact with hk | hk
 first | case' inl => have T2 : Hid True := hD trivial | case' pos => have T2 : Hid True := hD trivial | case' refine_1 => have T2 : Hid True := hD trivial
 iterate 2
  ·have HKK := hD hk
   first
    |
     revert T2; intro T2
     have hver : (d.rec_.at_ d.rec_.active).ver = d.rec_.a.ver := by rw [hk, at_0]
    | have hver : (d.rec_.at_ d.rec_.active).ver = d.rec_.b.ver := by rw [hk, at_1]
   rw [hver] at HD3
   first
    |
     revert T2; intro T2
     obtain ⟨img, himg⟩ : ∃ img, d.image 0 d.rec_ = img := ⟨_, rfl⟩
    | obtain ⟨img, himg⟩ : ∃ img, d.image 1 d.rec_ = img := ⟨_, rfl⟩
   have himg2 : d.image d.rec_.active d.rec_ = img := by rw [hk]; exact himg
   rw [himg2] at HD3
   obtain ⟨⟨b, en⟩, hpd⟩ : ∃ y, patDo (sumOn 1) p img = y := ⟨_, rfl⟩
   rw [hpd] at HD3
   first
    |
     revert T2; intro T2
     have hsz := (recCheck_parts HREC.out).2.1
    | have hsz := (recCheck_parts HREC.out).2.2.1
   first
    |
     revert T2; intro T2
     have HSZ : Hid (0 <= d.rec_.a.size ∧ d.rec_.a.size <= 64) := hD (by
      unfold infCheck at hsz
      by_cases hh : InfRange d.rec_.a
      ·unfold InfRange at hh; omega
      rw [if_neg hh] at hsz; exact absurd hsz (by decide))
    |
     have HSZ : Hid (0 <= d.rec_.b.size ∧ d.rec_.b.size <= 64) := hD (by
      unfold infCheck at hsz
      by_cases hh : InfRange d.rec_.b
      ·unfold InfRange at hh; omega
      rw [if_neg hh] at hsz; exact absurd hsz (by decide))
   first
    |
     revert T2; intro T2
     have KI0 : Hid (∀ wq, DevIn wq d L1 -> Calls Tryz.prog 38 #[.agg (devA d L1), iv 0, .agg (recA d.rec_)] wq (ImRet wq img)) := hD (fun wq h => by
      rw [← himg]
      exact image_calls d L1 0 d.rec_ wq (.inl rfl) h (slot_len HOK.out.l0 HOK.out.l1 _) HSZ.out.1 HSZ.out.2)
    |
     have KI0 : Hid (∀ wq, DevIn wq d L1 -> Calls Tryz.prog 38 #[.agg (devA d L1), iv 1, .agg (recA d.rec_)] wq (ImRet wq img)) := hD (fun wq h => by
      rw [← himg]
      exact image_calls d L1 1 d.rec_ wq (.inr rfl) h (slot_len HOK.out.l0 HOK.out.l1 _) HSZ.out.1 HSZ.out.2)
   have HPD := hD hpd
   first
    |
     revert T2; intro T2
     have HIL : Hid (img.length <= 64) := hD (by
      rw [← himg]; unfold Dev.image; rw [List.length_take]
      have h9 : (d.rec_.at_ 0).size.toNat <= 64 := by rw [at_0]; have := HSZ.out; omega
      omega)
    |
     have HIL : Hid (img.length <= 64) := hD (by
      rw [← himg]; unfold Dev.image; rw [List.length_take]
      have h9 : (d.rec_.at_ 1).size.toNat <= 64 := by rw [at_1]; have := HSZ.out; omega
      omega)
   first
    |
     revert T2; intro T2
     have hso := setOther0 hk
    | have hso := setOther1 hk
   rw [hso] at KW
   have hk' := hk
   clear himg himg2 hpd hsz hver hso hk'
   clear hk
   go_wp2_with fail
   obtain ⟨w2p, hw2p⟩ : ∃ w2p, w2.alloc (.cells (patA p.from_ p.to_ p.old p.new_ p.size A2 p.ops.length c2) 35) = w2p := ⟨_, rfl⟩
   have r0 : rowOf w2p w.heap.size = devA d L1 := by rw [← hw2p, rowOf_alloc, if_neg a0n]; exact a0r
   have r0f : frOf w2p w.heap.size = (0, 0) := by rw [← hw2p, frOf_alloc, if_neg a0n]; exact a0f
   have r1 : rowOf w2p (w.heap.size + 1) = devA Dev.zero DLoc.zero := by rw [← hw2p, rowOf_alloc, if_neg a1n]; exact a1r
   have r1f : frOf w2p (w.heap.size + 1) = (0, 0) := by rw [← hw2p, frOf_alloc, if_neg a1n]; exact a1f
   have r2 : rowOf w2p w1.heap.size = recA d.rec_ := by rw [← hw2p, rowOf_alloc, if_neg a2n]; exact a2r
   have r2f : frOf w2p w1.heap.size = (0, 0) := by rw [← hw2p, frOf_alloc, if_neg a2n]; exact a2f
   have r3 : rowOf w2p w2.heap.size = patA p.from_ p.to_ p.old p.new_ p.size A2 p.ops.length c2 := by rw [← hw2p, rowOf_alloc, if_pos rfl]
   have r3f : frOf w2p w2.heap.size = (0, 0) := by rw [← hw2p, frOf_alloc, if_pos rfl]
   have hszp : w2p.heap.size = w2.heap.size + 1 := by rw [← hw2p]; simp
   have HBP : Hid (Below w.heap.size w w2p) := hD (by rw [← hw2p]; exact HB2.out.alloc HB2.out.size _)
   have HKP : Hid (Kp (w.heap.size + 2) w1 w2p) := hD (by rw [← hw2p]; exact HK2.out.alloc (by omega) _)
   have HGQ : Hid (Kp (w1.heap.size + 1) w2 w2p) := hD (by rw [← hw2p]; exact (Kp.refl _ _).alloc (Nat.le_refl _) _)
   rw [hw2p]
   have RD : Hid (rowOf w2p.drew w.heap.size = devA d L1) := hD (by rw [rowOf_drew]; exact r0)
   have FD : Hid (frOf w2p.drew w.heap.size = (0, 0)) := hD (by rw [frOf_drew]; exact r0f)
   have RZ : Hid (rowOf w2p.drew (w.heap.size + 1) = devA Dev.zero DLoc.zero) := hD (by rw [rowOf_drew]; exact r1)
   have FZ : Hid (frOf w2p.drew (w.heap.size + 1) = (0, 0)) := hD (by rw [frOf_drew]; exact r1f)
   have RR : Hid (rowOf w2p.drew w1.heap.size = recA d.rec_) := hD (by rw [rowOf_drew]; exact r2)
   have FR : Hid (frOf w2p.drew w1.heap.size = (0, 0)) := hD (by rw [frOf_drew]; exact r2f)
   have RP : Hid (rowOf w2p.drew w2.heap.size = patA p.from_ p.to_ p.old p.new_ p.size A2 p.ops.length c2) := hD (by rw [rowOf_drew]; exact r3)
   have FP : Hid (frOf w2p.drew w2.heap.size = (0, 0)) := hD (by rw [frOf_drew]; exact r3f)
   clear hw2p a0r a0f a0n a0c a0z a0l a1r a1f a1n a1c a1z a1l a2r a2f a2n a2c a2z a2l r0 r0f r1 r1f r2 r2f r3 r3f
   first
    |
     revert T2; intro T2
     by_cases d1 : p.from_ ≠ d.rec_.a.ver ∨ p.to_ < d.rec_.floor
    | by_cases d1 : p.from_ ≠ d.rec_.b.ver ∨ p.to_ < d.rec_.floor
   ·have hz : res = (Dev.zero, 4) := HD3.out.trans (if_pos d1)
    subst hz
    first
     |
      revert T2; intro T2
      by_cases d2 : p.from_ ≠ d.rec_.a.ver
     | by_cases d2 : p.from_ ≠ d.rec_.b.ver
    ·have HA := hD d2
     clear d1 d2
     first
      |
       revert T2; intro T2
       refine wp_region_chain (by kernel_rfl) (some 36 :: some 37 :: some 38 :: some 39 :: some 40 :: some 41 :: some 42 :: some 43 :: some 44 :: some 45 :: some 46 :: some 47 :: some 48 :: some 49 :: some 50 :: some 51 :: []) (.pointer (some ⟨w2.heap.size, 0, none⟩) :: iv p.from_ :: .pointer (some ⟨w1.heap.size, 1, none⟩) :: iv 0 :: .pointer (some ⟨w1.heap.size, 5, none⟩) :: .pointer (some ⟨w1.heap.size, 5, none⟩) :: .pointer (some ⟨w1.heap.size, 5, none⟩) :: iv d.rec_.a.ver :: .bool true :: .bool true :: undef :: undef :: undef :: undef :: undef :: .bool true :: []) 91 rfl rfl (by decide +kernel) (by decide +kernel) (by decide +kernel) rfl ?_ ?_
      | refine wp_region_chain (by kernel_rfl) (some 36 :: some 37 :: some 38 :: some 39 :: some 40 :: some 41 :: some 42 :: some 43 :: some 44 :: some 45 :: some 46 :: some 47 :: some 48 :: some 49 :: some 50 :: some 51 :: []) (.pointer (some ⟨w2.heap.size, 0, none⟩) :: iv p.from_ :: .pointer (some ⟨w1.heap.size, 1, none⟩) :: iv 1 :: .pointer (some ⟨w1.heap.size, 5, none⟩) :: .pointer (some ⟨w1.heap.size, 8, none⟩) :: .pointer (some ⟨w1.heap.size, 8, none⟩) :: iv d.rec_.b.ver :: .bool true :: .bool true :: undef :: undef :: undef :: undef :: undef :: .bool true :: []) 91 rfl rfl (by decide +kernel) (by decide +kernel) (by decide +kernel) rfl ?_ ?_
     ·refine ⟨.inl ⟨rfl, ?_⟩, .inl ⟨rfl, ?_⟩, .inl ⟨rfl, ?_⟩, .inl ⟨rfl, ?_⟩, .inl ⟨rfl, ?_⟩, .inl ⟨rfl, ?_⟩, .inl ⟨rfl, ?_⟩, .inl ⟨rfl, ?_⟩, .inl ⟨rfl, ?_⟩, .inl ⟨rfl, ?_⟩, .inr ⟨rfl, rfl⟩, .inr ⟨rfl, rfl⟩, .inr ⟨rfl, rfl⟩, .inr ⟨rfl, rfl⟩, .inr ⟨rfl, rfl⟩, .inl ⟨rfl, ?_⟩, trivial⟩
      all_goals intro done a wq hw h
      ·have e6 := cO 6 (.pointer (some ⟨w2.heap.size, 0, none⟩)) h; refine ch_pure ?_; go_simp
      ·have e36 := cN 0 36 h hw; obtain ⟨r_, f_, n_, c_, z_, l_⟩ := kq h.bel RP FP; refine ch_pure ?_; go_simp
      ·exact x52
      ·have e38 := cN 2 38 h hw; obtain ⟨r_, f_, n_, c_, z_, l_⟩ := kq h.bel RR FR; have hk_ := HKK.out; refine ch_pure ?_; go_simp
      ·exact x52
      ·have e40 := cN 4 40 h hw; have e39 := cN 3 39 h hw; refine ch_pure ?_; go_simp
      ·have e41 := cN 5 41 h hw; refine ch_pure ?_; go_simp
      ·have e42 := cN 6 42 h hw; obtain ⟨r_, f_, n_, c_, z_, l_⟩ := kq h.bel RR FR; refine ch_pure ?_; go_simp
      ·have e37 := cN 1 37 h hw; have e43 := cN 7 43 h hw; exact ch_neq_int (by kernel_rfl) (ch_ev e37) (ch_ev e43) (by have := HA.out; simp; omega)
      ·have e44 := cN 8 44 h hw; exact ch_move (ch_ev e44)
      ·have e45 := cN 9 45 h hw; exact ch_pick_t e45 rfl
     intro w3 hb
     simp only [putAll_some, putAll_none, putAll_nil, List.setIfInBounds_toArray, List.set_cons_zero, List.set_cons_succ]
     have hb3 : Below w2p.heap.size w2p w3 := hb
     obtain ⟨a1r, a1f, a1n, a1c, a1z, a1l⟩ := keep1 hb RZ.out (by go_simp) FZ.out
     have HB3 := bT HBP hb3
     clear hb hb3
     go_wp2_with fail
     refine bodyPost_ret (rC (devA Dev.zero DLoc.zero)) rfl ⟨DLoc.zero, rfl, .const fun v => DevIn.zero v, ?_⟩
     have hs := HB3.out.size
     exact x0
    first
     |
      revert T2; intro T2
      have HA : Hid (p.from_ = d.rec_.a.ver ∧ p.to_ < d.rec_.floor) := hD ⟨Decidable.not_not.1 d2, d1.resolve_left d2⟩
     | have HA : Hid (p.from_ = d.rec_.b.ver ∧ p.to_ < d.rec_.floor) := hD ⟨Decidable.not_not.1 d2, d1.resolve_left d2⟩
    clear d1 d2
    first
     |
      revert T2; intro T2
      refine wp_region_chain (by kernel_rfl) (some 36 :: some 37 :: some 38 :: some 39 :: some 40 :: some 41 :: some 42 :: some 43 :: some 44 :: some 45 :: some 46 :: some 47 :: some 48 :: some 49 :: some 50 :: some 51 :: []) (.pointer (some ⟨w2.heap.size, 0, none⟩) :: iv p.from_ :: .pointer (some ⟨w1.heap.size, 1, none⟩) :: iv 0 :: .pointer (some ⟨w1.heap.size, 5, none⟩) :: .pointer (some ⟨w1.heap.size, 5, none⟩) :: .pointer (some ⟨w1.heap.size, 5, none⟩) :: iv d.rec_.a.ver :: .bool false :: .bool false :: .pointer (some ⟨w2.heap.size, 1, none⟩) :: iv p.to_ :: .pointer (some ⟨w1.heap.size, 4, none⟩) :: iv d.rec_.floor :: .bool true :: .bool true :: []) 91 rfl rfl (by decide +kernel) (by decide +kernel) (by decide +kernel) rfl ?_ ?_
     | refine wp_region_chain (by kernel_rfl) (some 36 :: some 37 :: some 38 :: some 39 :: some 40 :: some 41 :: some 42 :: some 43 :: some 44 :: some 45 :: some 46 :: some 47 :: some 48 :: some 49 :: some 50 :: some 51 :: []) (.pointer (some ⟨w2.heap.size, 0, none⟩) :: iv p.from_ :: .pointer (some ⟨w1.heap.size, 1, none⟩) :: iv 1 :: .pointer (some ⟨w1.heap.size, 5, none⟩) :: .pointer (some ⟨w1.heap.size, 8, none⟩) :: .pointer (some ⟨w1.heap.size, 8, none⟩) :: iv d.rec_.b.ver :: .bool false :: .bool false :: .pointer (some ⟨w2.heap.size, 1, none⟩) :: iv p.to_ :: .pointer (some ⟨w1.heap.size, 4, none⟩) :: iv d.rec_.floor :: .bool true :: .bool true :: []) 91 rfl rfl (by decide +kernel) (by decide +kernel) (by decide +kernel) rfl ?_ ?_
    ·exact x8
    intro w3 hb
    simp only [putAll_some, putAll_none, putAll_nil, List.setIfInBounds_toArray, List.set_cons_zero, List.set_cons_succ]
    have hb3 : Below w2p.heap.size w2p w3 := hb
    obtain ⟨a1r, a1f, a1n, a1c, a1z, a1l⟩ := keep1 hb RZ.out (by go_simp) FZ.out
    have HB3 := bT HBP hb3
    clear hb hb3
    go_wp2_with fail
    refine bodyPost_ret (rC (devA Dev.zero DLoc.zero)) rfl ⟨DLoc.zero, rfl, .const fun v => DevIn.zero v, ?_⟩
    have hs := HB3.out.size
    exact x0
   first
    |
     revert T2; intro T2
     have HA : Hid (p.from_ = d.rec_.a.ver ∧ ¬ p.to_ < d.rec_.floor) := hD ⟨Decidable.not_not.1 fun e => d1 (.inl e), fun e => d1 (.inr e)⟩
    | have HA : Hid (p.from_ = d.rec_.b.ver ∧ ¬ p.to_ < d.rec_.floor) := hD ⟨Decidable.not_not.1 fun e => d1 (.inl e), fun e => d1 (.inr e)⟩
   have HD4 := hD (HD3.out.trans (if_neg d1))
   clear d1 HD3
   first
    |
     revert T2; intro T2
     refine wp_region_chain (by kernel_rfl) (some 36 :: some 37 :: some 38 :: some 39 :: some 40 :: some 41 :: some 42 :: some 43 :: some 44 :: some 45 :: some 46 :: some 47 :: some 48 :: some 49 :: some 50 :: some 51 :: []) (.pointer (some ⟨w2.heap.size, 0, none⟩) :: iv p.from_ :: .pointer (some ⟨w1.heap.size, 1, none⟩) :: iv 0 :: .pointer (some ⟨w1.heap.size, 5, none⟩) :: .pointer (some ⟨w1.heap.size, 5, none⟩) :: .pointer (some ⟨w1.heap.size, 5, none⟩) :: iv d.rec_.a.ver :: .bool false :: .bool false :: .pointer (some ⟨w2.heap.size, 1, none⟩) :: iv p.to_ :: .pointer (some ⟨w1.heap.size, 4, none⟩) :: iv d.rec_.floor :: .bool false :: .bool false :: []) 91 rfl rfl (by decide +kernel) (by decide +kernel) (by decide +kernel) rfl ?_ ?_
    | refine wp_region_chain (by kernel_rfl) (some 36 :: some 37 :: some 38 :: some 39 :: some 40 :: some 41 :: some 42 :: some 43 :: some 44 :: some 45 :: some 46 :: some 47 :: some 48 :: some 49 :: some 50 :: some 51 :: []) (.pointer (some ⟨w2.heap.size, 0, none⟩) :: iv p.from_ :: .pointer (some ⟨w1.heap.size, 1, none⟩) :: iv 1 :: .pointer (some ⟨w1.heap.size, 5, none⟩) :: .pointer (some ⟨w1.heap.size, 8, none⟩) :: .pointer (some ⟨w1.heap.size, 8, none⟩) :: iv d.rec_.b.ver :: .bool false :: .bool false :: .pointer (some ⟨w2.heap.size, 1, none⟩) :: iv p.to_ :: .pointer (some ⟨w1.heap.size, 4, none⟩) :: iv d.rec_.floor :: .bool false :: .bool false :: []) 91 rfl rfl (by decide +kernel) (by decide +kernel) (by decide +kernel) rfl ?_ ?_
   ·exact x8
   intro w3 hb
   simp only [putAll_some, putAll_none, putAll_nil, List.setIfInBounds_toArray, List.set_cons_zero, List.set_cons_succ]
   have hb3 : Below w2p.heap.size w2p w3 := hb
   obtain ⟨a0r, a0f, a0n, a0c, a0z, a0l⟩ := keep1 hb RD.out (by go_simp) FD.out
   obtain ⟨a1r, a1f, a1n, a1c, a1z, a1l⟩ := keep1 hb RZ.out (by go_simp) FZ.out
   obtain ⟨a2r, a2f, a2n, a2c, a2z, a2l⟩ := keep1 hb RR.out (by go_simp) FR.out
   obtain ⟨a3r, a3f, a3n, a3c, a3z, a3l⟩ := keep1 hb RP.out (by go_simp) FP.out
   have hs3 := hb3.size
   have HB3 := bT HBP hb3
   have HK3 : Hid (Kp (w.heap.size + 2) w1 w3) := hD (HKP.out.below (by omega) hb3)
   have HG3 : Hid (Kp (w1.heap.size + 1) w2 w3) := hD (HGQ.out.below (by omega) hb3)
   clear hb hb3 RD FD RZ FZ RR FR RP FP
   go_wp2_with fail
   have RD := hD a0r
   have FD := hD a0f
   have RZ := hD a1r
   have FZ := hD a1f
   have RR := hD a2r
   have FR := hD a2f
   have RP := hD a3r
   have FP := hD a3f
   have HI3 : Hid (DevIn w3 d L1) := hD (Fresh.kp HFR.out HK3.out (Nat.le_refl _) (by omega)).now.devIn
   have HP3 : Hid (PatIn w3 p A2 c2) := hD (Fresh.kp HGP.out HG3.out (Nat.le_refl _) (by omega)).now
   first
    |
     revert T2; intro T2
     have KI : Hid (∀ wq, Below w3.heap.size w3 wq -> Calls Tryz.prog 38 #[.agg (devA d L1), iv 0, .agg (recA d.rec_)] wq (ImRet wq img)) := hD (fun wq h => KI0.out wq (HI3.out.stays h))
    | have KI : Hid (∀ wq, Below w3.heap.size w3 wq -> Calls Tryz.prog 38 #[.agg (devA d L1), iv 1, .agg (recA d.rec_)] wq (ImRet wq img)) := hD (fun wq h => KI0.out wq (HI3.out.stays h))
   have KD : Hid (∀ wq A c, Below w3.heap.size w3 wq -> img.length <= c -> Bts wq A img -> Calls Tryz.prog 37 #[.agg (patA p.from_ p.to_ p.old p.new_ p.size A2 p.ops.length c2), .slice A img.length c] wq (ByRet2 wq b en)) := hD (fun wq A c h hc hb => by
    have hq := patDo_calls A2 A c2 c p img wq hc (by have := HIL.out; omega) hb (HP3.out.stays h)
    rw [HPD.out] at hq
    exact hq)
   first
    |
     revert T2; intro T2
     refine wp_region_free (by kernel_rfl) (some 54 :: some 55 :: some 56 :: some 57 :: some 58 :: some 59 :: some 60 :: some 53 :: some 61 :: some 62 :: some 7 :: some 8 :: []) (false :: false :: false :: false :: false :: true :: true :: true :: true :: true :: true :: true :: []) (.agg (patA p.from_ p.to_ p.old p.new_ p.size A2 p.ops.length c2) :: .agg (devA d L1) :: .pointer (some ⟨w1.heap.size, 1, none⟩) :: iv 0 :: .agg (recA d.rec_) :: undef :: undef :: undef :: undef :: undef :: undef :: undef :: []) (imJ w3 5 6 7 8 9 10 11 img b en) 91 rfl rfl (by decide +kernel) (by decide +kernel) (by decide +kernel) rfl rfl (rfl) ?_ ?_
    | refine wp_region_free (by kernel_rfl) (some 54 :: some 55 :: some 56 :: some 57 :: some 58 :: some 59 :: some 60 :: some 53 :: some 61 :: some 62 :: some 7 :: some 8 :: []) (false :: false :: false :: false :: false :: true :: true :: true :: true :: true :: true :: true :: []) (.agg (patA p.from_ p.to_ p.old p.new_ p.size A2 p.ops.length c2) :: .agg (devA d L1) :: .pointer (some ⟨w1.heap.size, 1, none⟩) :: iv 1 :: .agg (recA d.rec_) :: undef :: undef :: undef :: undef :: undef :: undef :: undef :: []) (imJ w3 5 6 7 8 9 10 11 img b en) 91 rfl rfl (by decide +kernel) (by decide +kernel) (by decide +kernel) rfl rfl (rfl) ?_ ?_
   ·refine ⟨?_, ?_, ?_, ?_, ?_, ?_, ?_, ?_, ?_, ?_, ?_, ?_, trivial⟩
    all_goals intro done cv a wq hn hw hcl h hJ
    ·have e6 := fO 6 (.pointer (some ⟨w2.heap.size, 0, none⟩)) h
     obtain ⟨r_, f_, n_, c_, z_, l_⟩ := kq (imJ_bel hJ) RP FP
     go_simp
    ·have e1 := fO 1 (.pointer (some ⟨w.heap.size, 0, none⟩)) h
     exact x61
    ·have e4 := fO 4 (.pointer (some ⟨w1.heap.size, 0, none⟩)) h
     go_simp
    ·have e56 := fN 2 56 h hw
     obtain ⟨r_, f_, n_, c_, z_, l_⟩ := kq (imJ_bel hJ) RR FR
     have hk_ := HKK.out
     go_simp
    ·have e4 := fO 4 (.pointer (some ⟨w1.heap.size, 0, none⟩)) h
     obtain ⟨r_, f_, n_, c_, z_, l_⟩ := kq (imJ_bel hJ) RR FR
     go_simp
    ·have e55 := fN 1 55 h hw; have e57 := fN 3 57 h hw; have e58 := fN 4 58 h hw
     have n5 := hn
     have n6 := nW 6 5 hcl n5
     obtain rfl : wq = w3.drew := imJ_0 (by simp [maskB, n5]) (by simp [maskB, n6]) hJ
     first
      |
       revert T2; intro T2
       refine wp_call (vals := #[.agg (devA d L1), iv 0, .agg (recA d.rec_)]) (by rw [List.map_toArray, List.map_cons, List.map_cons, List.map_cons, List.map_nil, ch_ev e55, ch_ev e57, ch_ev e58]) (enters_of Tryz.func38 (by kernel_rfl) rfl _ _) (KI.out _ ((Below.refl _ _).drew)) ?_
      | refine wp_call (vals := #[.agg (devA d L1), iv 1, .agg (recA d.rec_)]) (by rw [List.map_toArray, List.map_cons, List.map_cons, List.map_cons, List.map_nil, ch_ev e55, ch_ev e57, ch_ev e58]) (enters_of Tryz.func38 (by kernel_rfl) rfl _ _) (KI.out _ ((Below.refl _ _).drew)) ?_
     rintro e w' ⟨A1, c1, rfl, h3, h4, h5⟩
     exact ⟨_, rfl, _, rfl, imJ_i (by decide) (by simp [maskB, n6]) h3 h4 ((Below.refl _ _).drew.trans h5)⟩
    ·have e54 := fN 0 54 h hw; have e59 := fr_cv (i := 5) (t := 59) h (hw 5 (by decide)) rfl rfl
     have n6 := hn
     have m5 := hw 5 (by decide)
     have n7 := nW 7 6 hcl n6
     have n8 := nW 8 7 hcl n7
     have n9 := nW 9 7 hcl n7
     have n10 := nW 10 6 hcl n6
     have n11 := nW 11 6 hcl n6
     obtain ⟨A1, c1, y1, h3, h4, h5⟩ := imJ_1 (by simp [maskB, m5]) (by simp [maskB, n6]) hJ
     rw [y1] at e59
     refine wp_call (vals := #[.agg (patA p.from_ p.to_ p.old p.new_ p.size A2 p.ops.length c2), .slice A1 (img).length c1]) (by rw [List.map_toArray, List.map_cons, List.map_cons, List.map_nil, ch_ev e54, ch_ev e59]) (enters_of Tryz.func37 (by kernel_rfl) rfl _ _) (KD.out _ _ _ h5 h3 h4) ?_
     rintro e w' ⟨A2, c2, rfl, g1, g2, g3⟩
     exact ⟨_, rfl, _, rfl, imJ_d (by simp [maskB, n7]) (by simp [maskB, n8]) (by simp [maskB, n9]) (by simp [maskB, n10]) (by simp [maskB, n11]) (by decide) (by decide) (by decide) (by decide) (by decide) g1 g2 (h5.trans (g3.mono h5.size))⟩
    ·have e60 := fr_cv (i := 6) (t := 60) h (hw 6 (by decide)) rfl rfl
     have m6 := hw 6 (by decide)
     refine wp_val (v := cv 6) (mx_move (ch_ev e60)) ⟨_, rfl, imJ_k (by simp [maskB, m6]) (by decide) hJ (fun A2 c2 _ _ _ q => ⟨fun _ => q, fun h => absurd h (by decide), fun h => absurd h (by decide), fun h => absurd h (by decide), fun h => absurd h (by decide)⟩)⟩
    ·have e53 := fr_cv (i := 7) (t := 53) h (hw 7 (by decide)) rfl rfl
     have m7 := hw 7 (by decide)
     have m6 := hcl 7 _ rfl m7 6 (by decide)
     obtain ⟨A2, c2, y1, _, _, _, g5, _⟩ := imJ_2 (by simp [maskB, m6]) hJ
     have y := g5 (by simp [maskB, m7])
     rw [y] at e53
     refine wp_val (v := .slice A2 (b).length c2) (by go_simp) ⟨_, rfl, imJ_k (by simp [maskB, m6]) (by decide) hJ (fun A3 c3 h8 _ _ _ => ⟨fun h => absurd h (by decide), fun _ => by have q := h8 (by simp [maskB, m7]); rw [y] at q; simp at q ⊢; exact q, fun h => absurd h (by decide), fun h => absurd h (by decide), fun h => absurd h (by decide)⟩)⟩
    ·have e53 := fr_cv (i := 7) (t := 53) h (hw 7 (by decide)) rfl rfl
     have m7 := hw 7 (by decide)
     have m6 := hcl 7 _ rfl m7 6 (by decide)
     obtain ⟨A2, c2, y1, _, _, _, g5, _⟩ := imJ_2 (by simp [maskB, m6]) hJ
     have y := g5 (by simp [maskB, m7])
     rw [y] at e53
     refine wp_val (v := iv en) (by go_simp) ⟨_, rfl, imJ_k (by simp [maskB, m6]) (by decide) hJ (fun A3 c3 h8 _ _ _ => ⟨fun h => absurd h (by decide), fun h => absurd h (by decide), fun _ => rfl, fun h => absurd h (by decide), fun h => absurd h (by decide)⟩)⟩
    ·have e61 := fr_cv (i := 8) (t := 61) h (hw 8 (by decide)) rfl rfl
     have m6 := hw 6 (by decide)
     have m8 := hw 8 (by decide)
     obtain ⟨A2, c2, y1, _, _, _, _, g6, _⟩ := imJ_2 (by simp [maskB, m6]) hJ
     have y := g6 (by simp [maskB, m8])
     rw [y] at e61
     refine wp_asg (v := .slice A2 (b).length c2) (ch_ev e61) ⟨_, rfl, imJ_k (by simp [maskB, m6]) (by decide) hJ (fun A3 c3 _ h9 _ _ => ⟨fun h => absurd h (by decide), fun h => absurd h (by decide), fun h => absurd h (by decide), fun _ => by have q := h9 (by simp [maskB, m8]); rw [y] at q; exact q, fun h => absurd h (by decide)⟩)⟩
    ·have e62 := fr_cv (i := 9) (t := 62) h (hw 9 (by decide)) rfl rfl
     have m6 := hw 6 (by decide)
     have m9 := hw 9 (by decide)
     obtain ⟨A2, c2, y1, _, _, _, _, _, g7, _⟩ := imJ_2 (by simp [maskB, m6]) hJ
     have y := g7 (by simp [maskB, m9])
     rw [y] at e62
     refine wp_asg (v := iv en) (ch_ev e62) ⟨_, rfl, imJ_k (by simp [maskB, m6]) (by decide) hJ (fun A3 c3 _ _ _ _ => ⟨fun h => absurd h (by decide), fun h => absurd h (by decide), fun h => absurd h (by decide), fun h => absurd h (by decide), fun _ => rfl⟩)⟩
   intro dnn cv w4 hall hJ
   obtain ⟨A5, c5, y7, g1, g2, g3, g5, g6, g7, g8, g9⟩ := imJ_2 (hall 6 rfl (by decide)) hJ
   replace g5 := g5 (hall 7 rfl (by decide))
   replace g6 := g6 (hall 8 rfl (by decide))
   replace g7 := g7 (hall 9 rfl (by decide))
   replace g8 := g8 (hall 10 rfl (by decide))
   replace g9 := g9 (hall 11 rfl (by decide))
   simp only [freeAll, putAll_some, putAll_none, putAll_nil, List.getD_cons_zero, List.getD_cons_succ, Bool.false_eq_true, if_true, if_false, reduceIte, Nat.zero_add, Nat.reduceAdd, List.setIfInBounds_toArray, List.set_cons_zero, List.set_cons_succ]
   rw [y7, g5, g6, g7, g8, g9]
   obtain ⟨a0r, a0f, a0n, a0c, a0z, a0l⟩ := keep1 g3 RD.out (by go_simp) FD.out
   obtain ⟨a1r, a1f, a1n, a1c, a1z, a1l⟩ := keep1 g3 RZ.out (by go_simp) FZ.out
   obtain ⟨a2r, a2f, a2n, a2c, a2z, a2l⟩ := keep1 g3 RR.out (by go_simp) FR.out
   obtain ⟨a3r, a3f, a3n, a3c, a3z, a3l⟩ := keep1 g3 RP.out (by go_simp) FP.out
   have hs4 := g3.size
   have HB4 : Hid (Below w.heap.size w w4) := hD (HB3.out.trans (g3.mono HB3.out.size))
   have HK4 : Hid (Kp (w.heap.size + 2) w1 w4) := hD (HK3.out.below (by omega) g3)
   have HG4 : Hid (Kp (w1.heap.size + 1) w2 w4) := hD (HG3.out.below (by omega) g3)
   clear hJ hall y7 g5 g6 g7 g8 g9 g1 g2 g3 KI KD RD FD RZ FZ RR FR RP FP KI0 HI3 HP3
   by_cases e1 : en ≠ 0
   ·have hz : res = (Dev.zero, en) := HD4.out.trans (if_pos e1)
    subst hz
    have q : (en != 0) = true := by simp [e1]
    clear e1
    go_wp2_with fail
    refine bodyPost_ret (rC (devA Dev.zero DLoc.zero)) rfl ⟨DLoc.zero, rfl, .const fun v => DevIn.zero v, ?_⟩
    have hs := HB4.out.size
    exact x0
   have e1 := Decidable.not_not.1 e1
   subst e1
   have HD5 := hD (HD4.out.trans (if_neg (by decide)))
   clear HD4
   have hk := HKK.out
   have w1e : IntKind.i64.wrap (1 - 0) = 1 := by decide
   have w2e : IntKind.i64.wrap (1 - 1) = 0 := by decide
   have w3e : IntKind.i64.wrap 1 = 1 := by decide
   go_wp2_with fail
   refine (KW.out _).mono ?_
   rintro e w5 ⟨rfl, hb⟩
   have hbs := hb.size
   have hsz5 : w4.heap.size <= w5.heap.size := by simpa [World.setRow] using hbs
   obtain ⟨a0r, a0f, a0n, a0c, a0z, a0l⟩ := kp (w.heap.size) (devA d L1) hb
   obtain ⟨a1r, a1f, a1n, a1c, a1z, a1l⟩ := kp (w.heap.size + 1) (devA Dev.zero DLoc.zero) hb
   have hne21 : ¬ w2.heap.size = w1.heap.size := by omega
   obtain ⟨a3r, a3f, a3n, a3c, a3z, a3l⟩ := kp (w2.heap.size) (patA p.from_ p.to_ p.old p.new_ p.size A2 p.ops.length c2) hb
   have HB5 : Hid (Below w.heap.size w w5) := hD (by
    refine Below.trans ?_ (hb.mono (by first | omega | (simp <;> omega)))
    have hs := HB4.out.size
    exact x0)
   have HK5 : Hid (Kp (w.heap.size + 2) w1 w5) := hD (by
    refine Kp.below ?_ (by first | omega | (simp [World.setRow] <;> omega)) hb
    exact x62)
   have HG5 : Hid (Kp (w1.heap.size + 1) w2 w5) := hD (by
    refine Kp.below ?_ (by first | omega | (simp [World.setRow] <;> omega)) hb
    repeat (first | exact HG4.out | exact Kp.refl _ _ | refine Kp.row ?_ (by omega) _ | refine Kp.cell ?_ (by first | (show _ < _ ∨ _ <= _; omega) | (simp <;> omega)) _ | refine Kp.alloc ?_ (by first | omega | (simp <;> omega)) _))
   clear hb hbs hk w1e w2e w3e a2r a2f a2n a2c a2z a2l
   by_cases c6 : e5 ≠ 0
   ·have hz : res = (Dev.zero, e5) := HD5.out.trans (if_pos c6)
    subst hz
    have q : (e5 != 0) = true := by simp [c6]
    clear c6
    go_wp2_with fail
    refine bodyPost_ret (rC (devA Dev.zero DLoc.zero)) rfl ⟨DLoc.zero, rfl, .const fun v => DevIn.zero v, ?_⟩
    have hs := HB5.out.size
    exact x0
   have c6 := Decidable.not_not.1 c6
   subst c6
   have hz : res = ({ d with c0 := p1, c1 := p2, busy := true, job := p, done := 0, got := [] }, 0) := HD5.out.trans (if_neg (by decide))
   subst hz
   clear HD5
   go_wp2_with fail
   have hp0 : 0 < (rowOf w5 w.heap.size).size := by rw [a0r]; simp [devA]
   obtain ⟨w6, hw6⟩ : ∃ w6, w5.setRow w.heap.size (devA { d with c0 := p1, c1 := p2 } L1) = w6 := ⟨_, rfl⟩
   have RD : Hid (rowOf w6 w.heap.size = devA { d with c0 := p1, c1 := p2 } L1) := hD (by rw [← hw6, rowOf_setRow _ _ _ _ hp0, if_pos rfl])
   have FD : Hid (frOf w6 w.heap.size = (0, 0)) := hD (by rw [← hw6, frOf_setRow]; exact a0f)
   have RZ : Hid (rowOf w6 (w.heap.size + 1) = devA Dev.zero DLoc.zero) := hD (by rw [← hw6, rowOf_setRow _ _ _ _ hp0, if_neg (by omega)]; exact a1r)
   have FZ : Hid (frOf w6 (w.heap.size + 1) = (0, 0)) := hD (by rw [← hw6, frOf_setRow]; exact a1f)
   have RP : Hid (rowOf w6 w2.heap.size = patA p.from_ p.to_ p.old p.new_ p.size A2 p.ops.length c2) := hD (by rw [← hw6, rowOf_setRow _ _ _ _ hp0, if_neg (by omega)]; exact a3r)
   have FP : Hid (frOf w6 w2.heap.size = (0, 0)) := hD (by rw [← hw6, frOf_setRow]; exact a3f)
   have hsz6 : w6.heap.size = w5.heap.size := by rw [← hw6]; simp [World.setRow]
   have HB6 : Hid (Below w.heap.size w w6) := hD (by rw [← hw6]; exact below_row HB5.out (Nat.le_refl _) _)
   have HK6 : Hid (Kp (w.heap.size + 2) w1 w6) := hD (by rw [← hw6]; exact HK5.out.row (.inl (by omega)) _)
   have HG6 : Hid (Kp (w1.heap.size + 1) w2 w6) := hD (by rw [← hw6]; exact HG5.out.row (.inl (by omega)) _)
   have HQ1 : Hid (w2.heap.size ≠ w.heap.size) := hD (by omega)
   have HP0 : Hid (0 < (rowOf w6 w.heap.size).size) := hD (by rw [RD.out]; simp [devA])
   rw [hw6]
   clear hw6 hp0 a0r a0f a0n a0c a0z a0l a1r a1f a1n a1c a1z a1l a3r a3f a3n a3c a3z a3l
   refine wp_region_mix (by kernel_rfl) (some 85 :: some 86 :: none :: some 87 :: none :: some 88 :: none :: some 89 :: none :: []) (none :: none :: some 0 :: none :: some 1 :: none :: some 2 :: none :: some 3 :: []) (.agg (patA p.from_ p.to_ p.old p.new_ p.size A2 p.ops.length c2) :: .pointer (some ⟨w.heap.size, 29, none⟩) :: undef :: .pointer (some ⟨w.heap.size, 30, none⟩) :: undef :: .pointer (some ⟨w.heap.size, 36, none⟩) :: undef :: .pointer (some ⟨w.heap.size, 28, none⟩) :: undef :: []) 4 (opJ w6 w.heap.size { d with c0 := p1, c1 := p2 } L1 p A2 c2) 91 rfl rfl (by decide +kernel) (by decide +kernel) (by decide +kernel) (by decide +kernel) rfl rfl (by decide +kernel) (by decide +kernel) (rfl) ?_ ?_
   ·refine ⟨?_, ?_, ?_, ?_, ?_, ?_, ?_, ?_, ?_, trivial⟩
    ·intro done cv k0 a wq hw h hJ hn
     have e6 := mO 6 (.pointer (some ⟨w2.heap.size, 0, none⟩)) h
     obtain ⟨r_, f_⟩ := opJ_row hJ HQ1.out RP.out FP.out HP0.out
     go_simp
    ·exact x98
    ·intro done cv a wq hw h hJ
     have e86 := mN 1 86 h hw
     obtain rfl : wq = w6.drew := hJ
     refine wp_sb1c e86 (cs := devA { d with c0 := p1, c1 := p2 } L1) (by rw [rowOf_drew]; exact RD.out) (by go_simp) (by rw [frOf_drew]; exact FD.out) ⟨undef, rfl, ?_⟩
     show _ = _
     rw [devA_set_busy]
    ·exact x98
    ·intro done cv a wq hw h hJ
     have e87 := mN 3 87 h hw; have e85 := mN 0 85 h hw
     have hJ' : wq = w6.drew.setRow w.heap.size (devA { { d with c0 := p1, c1 := p2 } with busy := true } L1) := hJ
     subst hJ'
     refine wp_srow e87 e85 (by go_simp) (by go_simp) (cs := devA { { d with c0 := p1, c1 := p2 } with busy := true } L1) (by rw [rowOf_setRow _ _ _ _ (by rw [rowOf_drew]; exact HP0.out), if_pos rfl]) (by go_simp) (by rw [frOf_setRow, frOf_drew]; exact FD.out) (by go_simp) ⟨undef, rfl, ?_⟩
     show _ = _
     rw [devA_splice_job, setRow_setRow]
    ·exact x98
    ·intro done cv a wq hw h hJ
     have e88 := mN 5 88 h hw
     have hJ' : wq = w6.drew.setRow w.heap.size (devA { { d with c0 := p1, c1 := p2 } with busy := true, job := p } { L1 with aj := A2, cj := c2 }) := hJ
     subst hJ'
     refine wp_si1c e88 (cs := devA { { d with c0 := p1, c1 := p2 } with busy := true, job := p } { L1 with aj := A2, cj := c2 }) (by rw [rowOf_setRow _ _ _ _ (by rw [rowOf_drew]; exact HP0.out), if_pos rfl]) (by go_simp) (by rw [frOf_setRow, frOf_drew]; exact FD.out) ⟨undef, rfl, ?_⟩
     show _ = _
     rw [devA_set_done, setRow_setRow]
    ·exact x98
    ·intro done cv a wq hw h hJ
     have e89 := mN 7 89 h hw
     have hJ' : wq = w6.drew.setRow w.heap.size (devA { { d with c0 := p1, c1 := p2 } with busy := true, job := p, done := 0 } { L1 with aj := A2, cj := c2 }) := hJ
     subst hJ'
     refine wp_sn1c e89 (cs := devA { { d with c0 := p1, c1 := p2 } with busy := true, job := p, done := 0 } { L1 with aj := A2, cj := c2 }) (by rw [rowOf_setRow _ _ _ _ (by rw [rowOf_drew]; exact HP0.out), if_pos rfl]) (by go_simp) (by rw [frOf_setRow, frOf_drew]; exact FD.out) ⟨undef, rfl, ?_⟩
     show _ = _
     rw [devA_set_got0, setRow_setRow]
   intro cv7 w7 hJ
   have hw7 : w7 = w6.drew.setRow w.heap.size (devA { d with c0 := p1, c1 := p2, busy := true, job := p, done := 0, got := [] } { L1 with aj := A2, cj := c2, ag := none, cg := 0 }) := hJ
   simp only [mixAll, putAll_some, putAll_none, putAll_nil, List.getElem?_cons_zero, List.getElem?_cons_succ, Nat.zero_add, Nat.reduceAdd, List.setIfInBounds_toArray, List.set_cons_zero, List.set_cons_succ]
   have r7 : rowOf w7 w.heap.size = devA { d with c0 := p1, c1 := p2, busy := true, job := p, done := 0, got := [] } { L1 with aj := A2, cj := c2, ag := none, cg := 0 } := by rw [hw7, rowOf_setRow _ _ _ _ (by rw [rowOf_drew]; exact HP0.out), if_pos rfl]
   have r7f : frOf w7 w.heap.size = (0, 0) := by rw [hw7, frOf_setRow, frOf_drew]; exact FD.out
   have r7z : rowOf w7 (w.heap.size + 1) = devA Dev.zero DLoc.zero := by rw [hw7, rowOf_setRow _ _ _ _ (by rw [rowOf_drew]; exact HP0.out), if_neg (by omega), rowOf_drew]; exact RZ.out
   have r7zf : frOf w7 (w.heap.size + 1) = (0, 0) := by rw [hw7, frOf_setRow, frOf_drew]; exact FZ.out
   have hsz7 : w7.heap.size = w6.heap.size := by
    have h9 : w7.heap.size = w6.drew.heap.size := by rw [hw7]; simp [World.setRow]
    exact h9
   have HB7 : Hid (Below w.heap.size w w7) := hD (by rw [hw7]; exact below_row HB6.out.drew (Nat.le_refl _) _)
   have HK7 : Hid (Kp (w.heap.size + 2) w1 w7) := hD (by rw [hw7]; exact Kp.row (w := w6.drew) HK6.out (.inl (by omega)) _)
   have HG7 : Hid (Kp (w1.heap.size + 1) w2 w7) := hD (by rw [hw7]; exact Kp.row (w := w6.drew) HG6.out (.inl (by omega)) _)
   clear hJ hw7 RD FD RZ FZ RP FP HP0
   go_wp2_with fail
   refine bodyPost_ret (rC (devA { d with c0 := p1, c1 := p2, busy := true, job := p, done := 0, got := [] } { L1 with aj := A2, cj := c2, ag := none, cg := 0 })) rfl ⟨{ L1 with aj := A2, cj := c2, ag := none, cg := 0 }, rfl, ?_, ?_⟩
   ·refine Fresh.imp (P := fun v => DvOwn v (w.heap.size + 2) d L1 ∧ PatIn v p A2 c2) (Fresh.and' (Fresh.kp HFR.out ?_ (by omega) (by first | omega | (simp [World.setRow] <;> omega))) (Fresh.kp HGP.out ?_ (by omega) (by first | omega | (simp [World.setRow] <;> omega)))) (fun v hv => hv.1.devIn.opened p1 p2 hv.2)
    ·repeat (first | exact HK7.out | exact Kp.refl _ _ | refine Kp.row ?_ (by omega) _ | refine Kp.cell ?_ (by first | (show _ < _ ∨ _ <= _; omega) | (simp <;> omega)) _ | refine Kp.alloc ?_ (by first | omega | (simp <;> omega)) _)
    ·repeat (first | exact HG7.out | exact Kp.refl _ _ | refine Kp.row ?_ (by omega) _ | refine Kp.cell ?_ (by first | (show _ < _ ∨ _ <= _; omega) | (simp <;> omega)) _ | refine Kp.alloc ?_ (by first | omega | (simp <;> omega)) _)
   have hs := HB7.out.size
   exact x0
theorem devOpen_calls (d : Dev) (L : DLoc) (w : World) (h : DevIn w d L) : Calls Tryz.prog 13 #[.agg (devA d L)] w (DvRet w (devOpen d).1 (devOpen d).2) := by
 by_cases hz : devReady d = 0
 ·exact devOpen_ok d L w h hz
 have e : devOpen d = (Dev.zero, devReady d) := by unfold devOpen; rw [if_pos hz]
 rw [e]; exact devOpen_bad d L w h hz
end Go.Proofs.YtefkfglkpebbmacGreat
