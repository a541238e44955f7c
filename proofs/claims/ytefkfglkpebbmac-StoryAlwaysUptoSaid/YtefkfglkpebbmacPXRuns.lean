/- The walk of the closed fact runs(). No conditions. -/
import Derived.Test.YtefkfglkpebbmacP14
import Derived.Test.YtefkfglkpebbmacPXStoRuns
import Derived.Test.YtefkfglkpebbmacPXStoNext
set_option linter.unusedVariables false
set_option linter.unusedSimpArgs false
set_option maxRecDepth 100000
set_option maxHeartbeats 40000000
namespace Go.Proofs.Ytefkfglkpebbmac
open Go.RowKit
theorem hps_one {w : World} {g : Nat} {t : TypeId} {f : Nat × Nat} {k n : Int} (h : w.heap[g]? = some (.cells #[iv k, iv n] t f)) (h1 : I64 k) (h2 : I64 n) : Hps w (some ⟨g, 0, none⟩) [(k, n)] := by
 intro i hi
 obtain rfl : i = 0 := by simpa using hi
 refine ⟨g, 0, rfl, blk_lt h, [iv k, iv n], rfl, fun j hj => ?_, rfl, h1, h2⟩
 rw [cell_of_row w g _ _ _ _ h]
 match j, hj with
 | 0, _ => rfl
 | 1, _ => rfl
theorem runs_calls (W : World) : Calls Try.prog 80 #[] W (RetB W (.bool true)) := by
 obtain ⟨x0, hx0⟩ : ∃ x0, (worNew ims).1 = x0 := ⟨_, rfl⟩
 obtain ⟨x1, hx1⟩ : ∃ x1, (worRun x0 [(9, 0)]).1 = x1 := ⟨_, rfl⟩
 obtain ⟨v1, hv1⟩ : ∃ v, (stoRuns x1).1 = v := ⟨_, rfl⟩
 obtain ⟨b1, hb1⟩ : ∃ v, (stoRuns x1).2.1 = v := ⟨_, rfl⟩
 have f1 := runs_runs
 have f2 := runs_next
 have f3 := runs_run
 have f4 := runs_late
 rw [hx0] at f1 f2 f3 f4
 rw [hx1] at f4
 have K1 : Hid (∀ A c w, ims.length ≤ c → Ims w A ims → Calls Try.prog 130 #[.slice A ims.length c] w (WvRet w x0 0)) := hD (fun A c w hc h => by
  have := worNew_calls A c ims w hc (by decide) h
  rwa [gone_new, hx0] at this)
 have K2 : Hid (∀ L w, WorIn w x0 L → Calls Try.prog 79 #[.agg (worA x0 L)] w (SrRet w 1 im0 0)) := hD (fun L w h => by
  have := stoRuns_calls x0 L w h
  rwa [f1] at this)
 have K3 : Hid (∀ L w, WorIn w x0 L → Calls Try.prog 78 #[.agg (worA x0 L)] w (RetB w (.tuple #[iv 1, iv 0]))) := hD (fun L w h => by
  have := stoNext_calls x0 L w h
  rwa [f2] at this)
 have K4 : Hid (∀ L B cl w, WorIn w x0 L → 1 ≤ cl → Hps w B [(9, 0)] → Calls Try.prog 71 #[.agg (worA x0 L), .slice B 1 cl] w (WrRet w x1 [0] 0)) := hD (fun L B cl w h hc hh => by
  have := worRun_calls x0 L B cl [(9, 0)] w h (by decide) hc hh
  rwa [f3, hx1] at this)
 have K5 : Hid (∀ L w, WorIn w x1 L → Calls Try.prog 79 #[.agg (worA x1 L)] w (SrRet w v1 b1 5)) := hD (fun L w h => by
  have := stoRuns_calls x1 L w h
  rwa [f4, hv1, hb1] at this)
 clear f1 f2 f3 f4 hx0 hx1 hv1 hb1
 have HL0 : Hid (im0.length = 8) := hD rfl
 have HE0 : Hid (∀ (A : Option Addr) (c : Nat) (w : World), im0.length ≤ c → Bts w A im0 → (convert 22 9 (.slice A im0.length c)).run Try.prog w = .ok (.string ⟨#[97, 98, 99, 100, 101, 102, 103, 104]⟩) w) := hD (fun A c w h1 h2 => conv_str A c im0 w h1 h2)
 generalize im0 = i0 at *
 go_enter Try.func80, Try.ntmps80
 go_wp2_with fail
 refine (lawImages_calls _).mono ?_
 rintro e w1 ⟨A, c, rfl, hc, hi, hb1⟩
 have HB1 := hD hb1
 have HI1 := hD hi
 have HC1 := hD hc
 clear hb1 hi hc
 go_wp2_with fail
 refine (K1.out _ _ _ HC1.out (by first | exact HI1.out | exact HI1.out.stays (Below.refl _ _))).mono ?_
 rintro e w2 ⟨L, rfl, hf, hb2⟩
 have HW2 := hD hf.now
 have HB2 : Hid (Below W.heap.size W w2) := hD (HB1.out.trans (hb2.mono HB1.out.size))
 clear hb2 hf
 go_wp2_with fail
 have hin3 : WorIn (w2.alloc (.cells (worA x0 L) 88)) x0 L := HW2.out.stays ((Below.refl _ _).alloc (Nat.le_refl _) _)
 refine (K2.out _ _ hin3).mono ?_
 rintro e w3 ⟨A3, c3, rfl, hc3, hbt, hb⟩
 obtain ⟨a0r, a0f, a0n, a0c, a0z, a0l⟩ := kp (w2.heap.size) (worA x0 L) hb
 have HB3 : Hid (Below W.heap.size W w3) := hD ((HB2.out.alloc HB2.out.size _).trans (hb.mono (by have := HB2.out.size; simp; omega)))
 have HW3 := hD (hin3.stays hb)
 have HT3 := hD hbt.now
 have HF3 := hD hbt
 have HC3 := hD hc3
 clear hb hbt hc3 hin3
 go_wp2_with fail
 refine (K3.out _ _ HW3.out).mono ?_
 rintro e w4 ⟨rfl, hb⟩
 obtain ⟨a0r, a0f, a0n, a0c, a0z, a0l⟩ := kp (w2.heap.size) (worA x0 L) hb
 have HB4 : Hid (Below W.heap.size W w4) := hD (HB3.out.trans (hb.mono HB3.out.size))
 have HB34 := hD hb
 have HW4 := hD (HW3.out.stays hb)
 have HT4 := hD (HT3.out.stays hb)
 clear hb
 go_wp2_with fail
 refine (K4.out _ _ _ _ (HW4.out.stays ((Below.refl _ _).alloc (Nat.le_refl _) _)) (Nat.le_refl _) (hps_one (blk_top rfl) ⟨by decide, by decide⟩ ⟨by decide, by decide⟩)).mono ?_
 rintro e w5 ⟨L5, A5, c5, b5, rfl, ho5, hbs5, hw5, hb⟩
 obtain ⟨a0r, a0f, a0n, a0c, a0z, a0l⟩ := kp (w2.heap.size) (worA x0 L) hb
 have hbx : Below w4.heap.size w4 w5 := ((Below.refl _ _).alloc (Nat.le_refl _) _).trans (hb.mono (by simp))
 have HB5 : Hid (Below W.heap.size W w5) := hD (HB4.out.trans (hbx.mono HB4.out.size))
 have HT5 := hD (HT4.out.stays hbx)
 have HB35 : Hid (Below w3.heap.size w3 w5) := hD (HB34.out.trans (hbx.mono HB34.out.size))
 have hp5 : 0 < (rowOf w5 w2.heap.size).size := by rw [a0r]; simp [worA]
 have hs5 : w2.heap.size < b5 := by have := hb.size; simp at hbs5; omega
 have HW5 : Hid (WorIn (w5.setRow w2.heap.size (worA x1 L5)) x1 L5) := hD (hw5 _ (fun q h1 _ _ => setRow_other _ _ _ _ (by omega)))
 have HB5' : Hid (Below W.heap.size W (w5.setRow w2.heap.size (worA x1 L5))) := hD (below_row HB5.out HB2.out.size _)
 have HT5' : Hid (Bts (w5.setRow w2.heap.size (worA x1 L5)) A3 i0) := hD (HF3.out _ (fun k h1 h2 => by
  simp at h1
  exact (setRow_other _ _ _ _ (by omega)).trans ((HB35.out.block k h2))))
 clear hb hbx ho5 hbs5 hw5
 go_wp2_with fail
 refine (K5.out _ _ HW5.out).mono ?_
 rintro e w6 ⟨A6, c6, rfl, hc6, hbt6, hb⟩
 have HB6 : Hid (Below W.heap.size W w6) := hD (HB5'.out.trans (hb.mono HB5'.out.size))
 have ks := HE0.out A3 c3 w6 HC3.out (HT5'.out.stays hb)
 clear hb hbt6 hc6 a0r a0f a0n a0c a0z a0l
 go_wp2_with fail
 go_ret
 refine ⟨rfl, ?_⟩
 first | exact HB6.out | (repeat (first | exact HB6.out | refine below_drewN ?_ _ | refine Below.drew ?_))
end Go.Proofs.Ytefkfglkpebbmac
