/- The walk of the law PackSays. No conditions. -/
import Derived.Test.YtefkfglkpebbmabPacked
import Derived.Test.YtefkfglkpebbmabRefPacked
import Derived.Test.YtefkfglkpebbmabRefUnpack
import Derived.Test.YtefkfglkpebbmabArgs
import Derived.IntWalk
namespace Go.Proofs.Ytefkfglkpebbmab
open Go.RowKit
set_option linter.unusedVariables false
set_option linter.unusedSimpArgs false

set_option maxRecDepth 100000 in
set_option maxHeartbeats 8000000 in
theorem PackSays_walk (W : World) (v0 v1 : Value) (b : List UInt8) (most : Int) (g0 : ArgBytes W v0 b) (g1 : ArgInt v1 most) :
    Calls Try.prog 8 #[v0, v1] W (RetB W (.bool true)) := by
  obtain ⟨A, ca, rfl, hca, hla, hA⟩ := g0
  obtain ⟨rfl, m1, m2⟩ := g1
  have hm : I64 most := ⟨m1, m2⟩
  obtain ⟨p, hp⟩ : ∃ p, packed b = p := ⟨_, rfl⟩
  obtain ⟨u, e0, hu⟩ : ∃ u e, unpacked b most = (u, e) := ⟨_, _, rfl⟩
  have HA := Lib.hid hA
  have K1 := Lib.hid (fun w h => unpackB_calls (Ab := A) (cb := ca) (w := w) hu rfl hca (by omega) hm h)
  have K2 : Hid (∀ w, Bts w A b → Calls Try.prog 29 #[.slice A b.length ca, iv most] w (UnRet w (u, e0))) := Lib.hid (fun w h => hu ▸ refUnpack_calls A ca b most w hca (by omega) hm h)
  have K3 := Lib.hid (fun w h => packB_calls (Ab := A) (cb := ca) (w := w) hp rfl hca hla h)
  have K4 : Hid (∀ w, Bts w A b → Calls Try.prog 30 #[.slice A b.length ca] w (BtRet w p)) := Lib.hid (fun w h => hp ▸ refPacked_calls A ca b w hca hla h)
  clear hA hp hu
  have de : (e0 == e0) = true := by simp
  go_enter Try.func8, Try.ntmps8
  go_wp2_with fail
  refine (K1.out _ HA.out).mono ?_
  rintro e w1 ⟨A1, c1, rfl, ho1, hb1⟩
  have HB1 : Hid (Below W.heap.size W w1) := Lib.hid hb1
  have HU1 := Lib.hid ho1.src.bts
  have hc1 : u.length ≤ c1 := ho1.le
  clear ho1 hb1
  go_wp2_with fail
  refine (K2.out _ (HA.out.stays HB1.out)).mono ?_
  rintro e w2 ⟨A2, c2, rfl, ho2, hb2⟩
  have HB2 : Hid (Below W.heap.size W w2) := Lib.hid (HB1.out.trans (hb2.mono HB1.out.size))
  have HU2 := Lib.hid (HU1.out.stays hb2)
  have HV2 := Lib.hid ho2.src.bts
  have hc2 : u.length ≤ c2 := ho2.le
  clear ho2 hb2
  go_wp2_with fail
  refine (packed_calls _).mono ?_
  rintro e w3 ⟨rfl, hb3⟩
  have HB3 : Hid (Below W.heap.size W w3) := Lib.hid (HB2.out.trans (hb3.mono HB2.out.size))
  have HU3 := Lib.hid (HU2.out.stays hb3)
  have HV3 := Lib.hid (HV2.out.stays hb3)
  clear hb3
  go_wp2_with fail
  refine (K3.out _ (HA.out.stays HB3.out)).mono ?_
  rintro e w4 ⟨A4, c4, rfl, ho4, hb4⟩
  have HB4 : Hid (Below W.heap.size W w4) := Lib.hid (HB3.out.trans (hb4.mono HB3.out.size))
  have HU4 := Lib.hid (HU3.out.stays hb4)
  have HV4 := Lib.hid (HV3.out.stays hb4)
  have HP4 := Lib.hid ho4.src.bts
  have hc4 : p.length ≤ c4 := ho4.le
  clear ho4 hb4
  go_wp2_with fail
  refine (K4.out _ (HA.out.stays HB4.out)).mono ?_
  rintro e w5 ⟨A5, c5, rfl, ho5, hb5⟩
  have HB5 : Hid (Below W.heap.size W w5) := Lib.hid (HB4.out.trans (hb5.mono HB4.out.size))
  have HU5 := Lib.hid (HU4.out.stays hb5)
  have HV5 := Lib.hid (HV4.out.stays hb5)
  have HP5 := Lib.hid (HP4.out.stays hb5)
  have HQ5 := Lib.hid ho5.src.bts
  have hc5 : p.length ≤ c5 := ho5.le
  clear ho5 hb5
  go_wp2_with fail
  refine (eqB_calls rfl rfl hc4 hc5 HP5.out HQ5.out (decide_eq_true rfl)).mono ?_
  rintro e w6 ⟨rfl, rfl⟩
  go_wp2_with fail
  refine (eqB_calls rfl rfl hc1 hc2 HU5.out HV5.out (decide_eq_true rfl)).mono ?_
  rintro e w7 ⟨rfl, rfl⟩
  go_wp2_with fail
  go_ret
  exact ⟨rfl, HB5.out⟩
end Go.Proofs.Ytefkfglkpebbmab
