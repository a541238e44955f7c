/- The walk of the law WorldKeeps. Printed by gen_wkeeps.py. No conditions. -/
import Derived.Test.YtefkfglkpebbmacPMWorDo
import Derived.Test.YtefkfglkpebbmacPMGoneWalk
import Derived.Test.YtefkfglkpebbmacPMWorArgs
import Derived.Test.YtefkfglkpebbmacPMChkSame
import Derived.Test.YtefkfglkpebbmacPXEqImgsB
set_option linter.unusedVariables false
set_option linter.unusedSimpArgs false
set_option maxRecDepth 100000
set_option maxHeartbeats 40000000
namespace Go.Proofs.Ytefkfglkpebbmac
open Go.RowKit
theorem chs_take {w : World} {A : Option Addr} {l : List Chk} (h : Chs w A l) (n : Nat) : Chs w A (l.take n) := by
 intro i hi
 have h2 : i < l.length := by simp at hi; omega
 obtain ⟨b, o, e, hl, cs, h3, h4, h5⟩ := h i h2
 exact ⟨b, o, e, hl, cs, h3, h4, by simpa using h5⟩
theorem slice_to (A : Option Addr) (n c k : Nat) (hk : k ≤ n) (hc : n ≤ c) (hA : A = none → k = 0) (wq : World) : (Instr.slice 43 (.slice A n c) none (some (.int .i64 (k : Int))) none).run Try.prog wq = .ok (.slice A k c) wq := by
 have k1 : (k : Int) ≤ (c : Int) := by omega
 cases A with
 | none =>
  have k2 : k = 0 := hA rfl
  subst k2
  go_simp
 | some a =>
  by_cases k2 : c = 0
  ·subst k2
   have k3 : k = 0 := by omega
   subst k3
   go_simp
  ·go_simp
theorem WorldKeeps_walk (W : World) (v0 v1 : Value) (x0 : Wor) (x1 : Int × Int) (g0 : ArgWor W v0 x0) (g1 : ArgHap v1 x1) : Calls Try.prog 13 #[v0, v1] W (RetB W (.bool true)) := by
 obtain ⟨L, rfl, hin⟩ := g0
 obtain ⟨kd, n⟩ := x1
 obtain ⟨rfl, hi1, hi2⟩ := g1
 dsimp only at hi1 hi2 ⊢
 have KG := hD (fun w => gone_calls w)
 obtain ⟨⟨x', e'⟩, hres⟩ : ∃ res, worDo x0 kd n = res := ⟨_, rfl⟩
 have K1 : Hid (∀ w, WorIn w x0 L → Calls Try.prog 81 #[.agg (worA x0 L), .agg #[iv kd, iv n]] w (WvRet w x' e')) := hD (fun w h => by
  have := worDo_calls x0 L kd n w h hi2
  rwa [hres] at this)
 have HIN := hD hin
 have HRES := hD hres
 have HI2 := hD hi2
 have HBA : Hid (Below W.heap.size W ((W.alloc (.cells (worA x0 L) 88)).alloc (.cells #[iv kd, iv n] 106))) := hD (((Below.refl _ _).alloc (Nat.le_refl _) _).alloc (by simp) _)
 clear hin hres hi1 hi2
 go_enter Try.func13, Try.ntmps13
 go_wp2_with fail
 refine (K1.out _ (HIN.out.stays HBA.out)).mono ?_
 rintro e w1 ⟨L', rfl, hf, hb⟩
 obtain ⟨a0r, a0f, a0n, a0c, a0z, a0l⟩ := kp (W.heap.size) (worA x0 L) hb
 obtain ⟨a1r, a1f, a1n, a1c, a1z, a1l⟩ := kp ((W.heap.size + 1)) (#[iv kd, iv n]) hb
 have HB1 : Hid (Below W.heap.size W w1) := hD (HBA.out.trans (hb.mono (by simp; omega)))
 have HW1 := hD hf.now
 have HF1 := hD hf
 have hs1 : W.heap.size + 2 ≤ w1.heap.size := by have := hb.size; simpa using this
 clear hb hf K1
 go_wp2_with fail
 refine (KG.out _).mono ?_
 rintro e w2 ⟨rfl, hb⟩
 obtain ⟨a0r, a0f, a0n, a0c, a0z, a0l⟩ := kp (W.heap.size) (worA x0 L) hb
 obtain ⟨a1r, a1f, a1n, a1c, a1z, a1l⟩ := kp ((W.heap.size + 1)) (#[iv kd, iv n]) hb
 obtain ⟨a2r, a2f, a2n, a2c, a2z, a2l⟩ := kp (w1.heap.size) (worA x' L') hb
 have hbx : Below w1.heap.size w1 w2 := ((Below.refl _ _).alloc (Nat.le_refl _) _).trans (hb.mono (by simp))
 have HB2 : Hid (Below W.heap.size W w2) := hD (HB1.out.trans (hbx.mono (by omega)))
 have HW2 := hD (HW1.out.stays hbx)
 have hs2 : w1.heap.size + 1 ≤ w2.heap.size := by have := hb.size; simpa using this
 have HX12 : Hid (∀ q, q < w1.heap.size → w2.heap[q]? = w1.heap[q]?) := hD (fun q h => hbx.block q h)
 clear hb hbx HW1
 by_cases he : ¬ e' = 0
 ·have q : (e' != 0) = true := by simp [he]
  clear he HRES
  go_wp2_with fail
  refine (KG.out _).mono ?_
  rintro e w3 ⟨rfl, hb⟩
  have HB3 : Hid (Below W.heap.size W w3) := hD (HB2.out.trans (hb.mono HB2.out.size))
  clear hb
  go_wp2_with fail
  go_ret
  exact ⟨rfl, HB3.out⟩
 have he := Decidable.not_not.1 he
 subst he
 have hwc : worCheck x0 = 0 := by
  have h1 := HRES.out
  unfold worDo at h1
  by_cases h : worCheck x0 = 0
  ·exact h
  ·rw [if_pos h] at h1; exact absurd (congrArg Prod.snd h1) h
 have hok := worCheck_ok.1 hwc
 have hh : worHappen x0 kd n = (x', 0) := by
  have h1 := HRES.out
  unfold worDo at h1
  rwa [if_neg (by simpa using hwc)] at h1
 have hkp := happen_keeps hok (kind := kd) (n := n) (by rw [hh])
 rw [hh] at hkp
 dsimp only at hkp
 obtain ⟨k1, k2, k3, k4, k5⟩ := hkp
 have HCK : Hid (worCheck x' = 0) := hD (worCheck_ok.2 k1)
 have HREL : Hid (decide (x0.rel = x'.rel) = true) := hD (decide_eq_true k2.symm)
 have hfew := hok.few
 obtain ⟨ds, hg⟩ := HIN.out.net.gsrc
 have HG := hD hg
 have HBD := hD HIN.out.net.bound
 have K3 : Hid (∀ w, Below W.heap.size W w → Calls Try.prog 82 #[.slice L.an x0.net.length L.cn] w (SlRet w 49 5 x0.net.length (kChk.cells x0.net ds))) := hD (fun w h => cloneChunks_calls L.an x0.net.length L.cn (kChk.cells x0.net ds) w (cells_len _ _ HG.out.len) (by omega) (HG.out.stays h).row (cells_oneCell _ _))
 have HK3 := hD k3
 have HK4 := hD k4
 have HK5 := hD k5
 clear hwc hok hh k1 k2 k3 k4 k5 hg HRES
 go_wp2_with fail
 refine (K3.out _ HB2.out).mono ?_
 rintro e w3 ⟨A3, c3, rfl, ho3, hb⟩
 obtain ⟨a0r, a0f, a0n, a0c, a0z, a0l⟩ := kp (W.heap.size) (worA x0 L) hb
 obtain ⟨a1r, a1f, a1n, a1c, a1z, a1l⟩ := kp ((W.heap.size + 1)) (#[iv kd, iv n]) hb
 obtain ⟨a2r, a2f, a2n, a2c, a2z, a2l⟩ := kp (w1.heap.size) (worA x' L') hb
 have HB3 : Hid (Below W.heap.size W w3) := hD (HB2.out.trans (hb.mono HB2.out.size))
 have HW3 := hD (HW2.out.stays hb)
 have hs3 : w2.heap.size ≤ w3.heap.size := hb.size
 have HR3 : Hid (GRow kChk w3 w2.heap.size x0.net ds A3 c3) := hD ⟨HG.out.len, ho3, (HG.out.stays HB3.out).data, fun i o d h1 h2 hx k hk e => by
  have h3 := HG.out.each i o d h1 h2 hx k hk
  have h4 := (ho3.block k e).1
  have h5 := HB2.out.size
  omega⟩
 have HX13 : Hid (∀ q, q < w1.heap.size → w3.heap[q]? = w1.heap[q]?) := hD (fun q h => (hb.block q (by omega)).trans (HX12.out q h))
 clear hb ho3 K3 HW2 HX12
 by_cases hkd : kd = 2 ∨ kd = 4
 ·obtain ⟨j1, j2⟩ := HK5.out hkd
  obtain ⟨i, rfl⟩ : ∃ i : Nat, n = (i : Int) := ⟨n.toNat, by omega⟩
  have hi : i < x0.net.length := by omega
  have hl0 : netLeft x0 kd (i : Int) = x0.net.eraseIdx i := by unfold netLeft; rw [if_pos hkd]; simp
  have HLEN : Hid ((x0.net.eraseIdx i).length = x0.net.length - 1) := hD (List.length_eraseIdx_of_lt hi)
  have hpre := HK3.out
  rw [hl0] at hpre
  have HLE : Hid ((x0.net.eraseIdx i).length ≤ x'.net.length) := hD hpre.length_le
  have HTK : Hid (x'.net.take (x0.net.eraseIdx i).length = x0.net.eraseIdx i) := hD (List.prefix_iff_eq_take.1 hpre).symm
  have hk4 := HK4.out (by omega)
  rw [hl0] at hk4
  have heq : (((x'.net.length : Nat) : Int) == (((x0.net.eraseIdx i).length : Nat) : Int)) = true := by rw [hk4]; simp
  obtain ⟨g3, rfl⟩ : ∃ g3, A3 = some ⟨g3, 0, none⟩ := by
   rcases HR3.out.row.2 with ⟨h1, h2⟩ | ⟨g, cap, cur, h1, _⟩
   ·injection h1 with h1 h3 h4; omega
   ·injection h1 with h1; exact ⟨g, h1⟩
  have hg3 := HR3.out.row.block g3 rfl
  have KD := hD (delChunk_calls g3 x0.net.length c3 i (kChk.cells x0.net ds) w3 w2.heap.size HR3.out.row (cells_oneCell _ _) hi (by omega))
  have hwk : IntKind.i64.wrap ((i : Int) + 1) = (i : Int) + 1 := IntWalk.i64_in _ (by omega)
  have hq : kd ≠ 1 := by omega
  have HEQ := hD heq
  clear hpre hk4 hl0 j1 j2 heq
  by_cases hk2 : kd = 2
  first | case' inl => have T4 : Hid True := hD trivial | case' pos => have T4 : Hid True := hD trivial | case' refine_1 => have T4 : Hid True := hD trivial
  iterate 2
   ·first
     |
      revert T4; intro T4
      have q1 : (kd == 2) = true := by simp [hk2]
     |
      have q1 : (kd == 2) = false := by simp [hk2]
      have q2 : (kd == 4) = true := by simp; omega
    have q3 : (kd == 1) = false := by simp [hq]
    clear hkd hk2 hq
    go_wp2_with fail
    refine KD.out.mono ?_
    rintro e w4 ⟨rfl, ho4, hb4, hs4, hk4⟩
    have hgx0 : W.heap.size ≠ g3 := by omega
    have hgx1 : W.heap.size + 1 ≠ g3 := by omega
    have hgx2 : w1.heap.size ≠ g3 := by omega
    have e0 := rowOf_heap (hk4 W.heap.size hgx0)
    have r0 : rowOf w4 W.heap.size = worA x0 L := e0.1.trans a0r
    have f0 : frOf w4 W.heap.size = (0, 0) := e0.2.trans a0f
    have e1 := rowOf_heap (hk4 (W.heap.size + 1) hgx1)
    have r1 : rowOf w4 (W.heap.size + 1) = #[iv kd, iv (i : Int)] := e1.1.trans a1r
    have f1 : frOf w4 (W.heap.size + 1) = (0, 0) := e1.2.trans a1f
    have e2 := rowOf_heap (hk4 w1.heap.size hgx2)
    have r2 : rowOf w4 w1.heap.size = worA x' L' := e2.1.trans a2r
    have f2 : frOf w4 w1.heap.size = (0, 0) := e2.2.trans a2f
    have HB4 : Hid (Below W.heap.size W w4) := hD (HB3.out.trans (hb4.mono (by have := HB2.out.size; omega)))
    have HW4 : Hid (WorIn w4 x' L') := hD (HF1.out w4 (fun q h1 h2 => (hk4 q (by omega)).trans (HX13.out q h2)))
    have HL4 : Hid (Chs w4 (some ⟨g3, 0, none⟩) (x0.net.eraseIdx i)) := hD ((HR3.out.del hi ho4 hk4 hs4).src.chs (fun x hx => HBD.out x (List.mem_of_mem_eraseIdx hx)))
    clear e0 e1 e2 a0r a0f a0n a0c a0z a0l a1r a1f a1n a1c a1z a1l a2r a2f a2n a2c a2z a2l
    obtain ⟨a0r, a0f, a0n, a0c, a0z, a0l⟩ := keep1 (g := W.heap.size) (cs := worA x0 L) (Below.refl w4.heap.size w4) r0 (by go_simp) f0
    obtain ⟨a1r, a1f, a1n, a1c, a1z, a1l⟩ := keep1 (g := (W.heap.size + 1)) (cs := #[iv kd, iv (i : Int)]) (Below.refl w4.heap.size w4) r1 (by go_simp) f1
    obtain ⟨a2r, a2f, a2n, a2c, a2z, a2l⟩ := keep1 (g := w1.heap.size) (cs := worA x' L') (Below.refl w4.heap.size w4) r2 (by go_simp) f2
    clear r0 r1 r2 f0 f1 f2 hgx0 hgx1 hgx2 ho4 hb4 hk4 hg3
    have hln4 := HLEN.out
    have hlen9 : x0.net.length - 1 = (x0.net.eraseIdx i).length := HLEN.out.symm
    rw [hlen9]
    clear hln4 hlen9 hs4
    go_wp2_with fail
    refine (worCheck_calls x' L' _ HW4.out).mono ?_
    rintro e w6 ⟨rfl, hb⟩
    rw [HCK.out]
    obtain ⟨a0r, a0f, a0n, a0c, a0z, a0l⟩ := kp (W.heap.size) (worA x0 L) hb
    obtain ⟨a1r, a1f, a1n, a1c, a1z, a1l⟩ := kp ((W.heap.size + 1)) (#[iv kd, iv (i : Int)]) hb
    obtain ⟨a2r, a2f, a2n, a2c, a2z, a2l⟩ := kp (w1.heap.size) (worA x' L') hb
    have HB6 : Hid (Below W.heap.size W w6) := hD (HB4.out.trans (hb.mono HB4.out.size))
    have HW6 := hD (HW4.out.stays hb)
    have HIN6 := hD (HIN.out.stays HB6.out)
    have HL6 := hD (HL4.out.stays hb)
    clear hb
    go_wp2_with fail
    refine (eqImgsB_calls L.ar L'.ar L.cr L'.cr x0.rel x'.rel _ HIN6.out.lr HW6.out.lr HIN6.out.rel HW6.out.rel).mono ?_
    rintro e w7 ⟨rfl, hb⟩
    rw [HREL.out]
    obtain ⟨a0r, a0f, a0n, a0c, a0z, a0l⟩ := kp (W.heap.size) (worA x0 L) hb
    obtain ⟨a1r, a1f, a1n, a1c, a1z, a1l⟩ := kp ((W.heap.size + 1)) (#[iv kd, iv (i : Int)]) hb
    obtain ⟨a2r, a2f, a2n, a2c, a2z, a2l⟩ := kp (w1.heap.size) (worA x' L') hb
    have HB7 : Hid (Below W.heap.size W w7) := hD (HB6.out.trans (hb.mono HB6.out.size))
    have HW7 := hD (HW6.out.stays hb)
    have HL7 := hD (HL6.out.stays hb)
    clear hb
    have hge : decide (((x0.net.eraseIdx i).length : Int) ≤ (x'.net.length : Int)) = true := decide_eq_true (by have := HLE.out; omega)
    have hge2 : (x0.net.eraseIdx i).length ≤ x'.net.length := HLE.out
    have hkn := HW7.out.kn
    have hln := HW7.out.ln
    have hsl : ∀ wq, (Instr.slice 43 (.slice L'.an x'.net.length L'.cn) none (some (.int .i64 ((x0.net.eraseIdx i).length : Int))) none).run Try.prog wq = .ok (.slice L'.an (x0.net.eraseIdx i).length L'.cn) wq := fun wq => by
     obtain ⟨k, hk⟩ : ∃ k, (x0.net.eraseIdx i).length = k := ⟨_, rfl⟩
     rw [hk] at hge2 ⊢
     exact slice_to _ _ _ _ hge2 hkn (fun e => by
      rcases Nat.eq_zero_or_pos x'.net.length with h | h
      ·omega
      ·obtain ⟨b, o, h9, _⟩ := HW7.out.net 0 h
       rw [e] at h9; cases h9) wq
    have KS : Hid (Calls Try.prog 39 #[.slice L'.an (x0.net.eraseIdx i).length L'.cn, .slice (some ⟨g3, 0, none⟩) (x0.net.eraseIdx i).length c3] w7 (RetB w7 (.bool true))) := hD (by
     have h1 := chkSame_calls L'.an (some ⟨g3, 0, none⟩) L'.cn c3 (x'.net.take (x0.net.eraseIdx i).length) (x0.net.eraseIdx i) w7 (by rw [List.length_take]; omega) (by omega) (chs_take HW7.out.net _) HL7.out
     rw [HTK.out, decide_eq_true rfl] at h1
     exact h1)
    clear hln
    go_wp2_with fail
    refine KS.out.mono ?_
    rintro e w8 ⟨rfl, hb⟩
    obtain ⟨a0r, a0f, a0n, a0c, a0z, a0l⟩ := kp (W.heap.size) (worA x0 L) hb
    obtain ⟨a1r, a1f, a1n, a1c, a1z, a1l⟩ := kp ((W.heap.size + 1)) (#[iv kd, iv (i : Int)]) hb
    obtain ⟨a2r, a2f, a2n, a2c, a2z, a2l⟩ := kp (w1.heap.size) (worA x' L') hb
    have HB8 : Hid (Below W.heap.size W w8) := hD (HB7.out.trans (hb.mono HB7.out.size))
    clear hb
    have heq := HEQ.out
    go_wp2_with fail
    go_ret
    exact ⟨rfl, HB8.out⟩
 ·have hl0 : netLeft x0 kd n = x0.net := by unfold netLeft; rw [if_neg hkd]
  have hpre := HK3.out
  rw [hl0] at hpre
  have HLE : Hid (x0.net.length ≤ x'.net.length) := hD hpre.length_le
  have HTK : Hid (x'.net.take x0.net.length = x0.net) := hD (List.prefix_iff_eq_take.1 hpre).symm
  have q1 : (kd == 2) = false := by simp; omega
  have q2 : (kd == 4) = false := by simp; omega
  have HL3 : Hid (Chs w3 A3 x0.net) := hD (HR3.out.src.chs HBD.out)
  by_cases hq : kd = 1
  first | case' inl => have T4 : Hid True := hD trivial | case' pos => have T4 : Hid True := hD trivial | case' refine_1 => have T4 : Hid True := hD trivial
  iterate 2
   ·first
     |
      revert T4; intro T4
      have q3 : (kd == 1) = true := by simp [hq]
      clear hkd hq hpre hl0
     |
      have q3 : (kd == 1) = false := by simp [hq]
      have hk4 := HK4.out hq
      rw [hl0] at hk4
      have heq : (((x'.net.length : Nat) : Int) == ((x0.net.length : Nat) : Int)) = true := by rw [hk4]; simp
      have HEQ := hD heq
      clear hkd hq hpre hl0 hk4 heq
    go_wp2_with fail
    refine (worCheck_calls x' L' _ HW3.out).mono ?_
    rintro e w6 ⟨rfl, hb⟩
    rw [HCK.out]
    obtain ⟨a0r, a0f, a0n, a0c, a0z, a0l⟩ := kp (W.heap.size) (worA x0 L) hb
    obtain ⟨a1r, a1f, a1n, a1c, a1z, a1l⟩ := kp ((W.heap.size + 1)) (#[iv kd, iv n]) hb
    obtain ⟨a2r, a2f, a2n, a2c, a2z, a2l⟩ := kp (w1.heap.size) (worA x' L') hb
    have HB6 : Hid (Below W.heap.size W w6) := hD (HB3.out.trans (hb.mono HB3.out.size))
    have HW6 := hD (HW3.out.stays hb)
    have HIN6 := hD (HIN.out.stays HB6.out)
    have HL6 := hD (HL3.out.stays hb)
    clear hb
    go_wp2_with fail
    refine (eqImgsB_calls L.ar L'.ar L.cr L'.cr x0.rel x'.rel _ HIN6.out.lr HW6.out.lr HIN6.out.rel HW6.out.rel).mono ?_
    rintro e w7 ⟨rfl, hb⟩
    rw [HREL.out]
    obtain ⟨a0r, a0f, a0n, a0c, a0z, a0l⟩ := kp (W.heap.size) (worA x0 L) hb
    obtain ⟨a1r, a1f, a1n, a1c, a1z, a1l⟩ := kp ((W.heap.size + 1)) (#[iv kd, iv n]) hb
    obtain ⟨a2r, a2f, a2n, a2c, a2z, a2l⟩ := kp (w1.heap.size) (worA x' L') hb
    have HB7 : Hid (Below W.heap.size W w7) := hD (HB6.out.trans (hb.mono HB6.out.size))
    have HW7 := hD (HW6.out.stays hb)
    have HL7 := hD (HL6.out.stays hb)
    clear hb
    have hge : decide (((x0.net).length : Int) ≤ (x'.net.length : Int)) = true := decide_eq_true (by have := HLE.out; omega)
    have hge2 : (x0.net).length ≤ x'.net.length := HLE.out
    have hkn := HW7.out.kn
    have hln := HW7.out.ln
    have hsl : ∀ wq, (Instr.slice 43 (.slice L'.an x'.net.length L'.cn) none (some (.int .i64 ((x0.net).length : Int))) none).run Try.prog wq = .ok (.slice L'.an (x0.net).length L'.cn) wq := fun wq => by
     obtain ⟨k, hk⟩ : ∃ k, (x0.net).length = k := ⟨_, rfl⟩
     rw [hk] at hge2 ⊢
     exact slice_to _ _ _ _ hge2 hkn (fun e => by
      rcases Nat.eq_zero_or_pos x'.net.length with h | h
      ·omega
      ·obtain ⟨b, o, h9, _⟩ := HW7.out.net 0 h
       rw [e] at h9; cases h9) wq
    have KS : Hid (Calls Try.prog 39 #[.slice L'.an (x0.net).length L'.cn, .slice A3 (x0.net).length c3] w7 (RetB w7 (.bool true))) := hD (by
     have h1 := chkSame_calls L'.an A3 L'.cn c3 (x'.net.take (x0.net).length) (x0.net) w7 (by rw [List.length_take]; omega) (by omega) (chs_take HW7.out.net _) HL7.out
     rw [HTK.out, decide_eq_true rfl] at h1
     exact h1)
    clear hln
    go_wp2_with fail
    refine KS.out.mono ?_
    rintro e w8 ⟨rfl, hb⟩
    obtain ⟨a0r, a0f, a0n, a0c, a0z, a0l⟩ := kp (W.heap.size) (worA x0 L) hb
    obtain ⟨a1r, a1f, a1n, a1c, a1z, a1l⟩ := kp ((W.heap.size + 1)) (#[iv kd, iv n]) hb
    obtain ⟨a2r, a2f, a2n, a2c, a2z, a2l⟩ := kp (w1.heap.size) (worA x' L') hb
    have HB8 : Hid (Below W.heap.size W w8) := hD (HB7.out.trans (hb.mono HB7.out.size))
    clear hb
    first
     | revert T4; intro T4
     | have heq := HEQ.out
    go_wp2_with fail
    go_ret
    exact ⟨rfl, HB8.out⟩
end Go.Proofs.Ytefkfglkpebbmac
