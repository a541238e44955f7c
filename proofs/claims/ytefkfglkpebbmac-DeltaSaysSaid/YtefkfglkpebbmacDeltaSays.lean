/- The walk of the law DeltaSays. Condition: the library's own variable holds some number. -/
import Derived.Test.YtefkfglkpebbmacRefAny
import Derived.Test.YtefkfglkpebbmacRefSame
import Derived.Test.YtefkfglkpebbmacDeltaSame
import Derived.Test.YtefkfglkpebbmacParted
import Derived.Test.YtefkfglkpebbmacBytesEqual
namespace Go.Proofs.Ytefkfglkpebbmac
open Go.RowKit
set_option linter.unusedVariables false
set_option linter.unusedSimpArgs false

set_option maxRecDepth 100000 in
set_option maxHeartbeats 8000000 in
theorem DeltaSays_walk (W : World) (v0 v1 v2 v3 v4 v5 : Value) (old b : List UInt8) (l : List Stp) (size : Int) (m : List Stp) (many : Int) (g0 : ArgBytes W v0 old) (g1 : ArgBytes W v1 b) (g2 : ArgOps W v2 l) (g3 : ArgInt v3 size) (g4 : ArgOps W v4 m) (g5 : ArgInt v5 many) (hml : ML W) :
    Calls Try.prog 3 #[v0, v1, v2, v3, v4, v5] W (RetB W (.bool true)) := by
  obtain ⟨A, ca, rfl, hca, hla, hA⟩ := g0
  obtain ⟨B, cb, rfl, hcb, hlb, hB⟩ := g1
  obtain ⟨L, cl, rfl, hcl, hll, hL⟩ := g2
  obtain ⟨rfl, s1, s2⟩ := g3
  obtain ⟨M, cm, rfl, hcm, hlm, hM⟩ := g4
  obtain ⟨rfl, n1, n2⟩ := g5
  have hxl := dx_len old b
  have K1 := Lib.hid (fun w h1 h2 => diffAny_calls A B ca cb old b w hla hlb h1 h2)
  have K2 := Lib.hid (fun w h1 h2 => applyAny_calls A ca old L cl l size w hca hla h1 hll h2)
  have K3 := Lib.hid (fun w hm h1 h2 => refDiffAny_calls A B ca cb old b w hm hca hcb hla hlb h1 h2)
  have K4 := Lib.hid (fun w h1 h2 => refApplyAny_calls A ca old L cl l size w hca hla h1 hll h2)
  have K5 := Lib.hid (fun w h => deltaCheck_calls L cl l many size w hll h)
  have K6 := Lib.hid (fun w h => refCheck_calls L cl l many size w hll h)
  have K7 := Lib.hid (fun w h1 h2 => equalOps_calls L M cl cm l m w hll hlm h1 h2)
  have K8 := Lib.hid (fun w h1 h2 => refSame_calls L M cl cm l m w hll hlm h1 h2)
  generalize (dxOf old b).1 = x at *
  generalize (dxOf old b).2 = e1 at *
  generalize (axOf old l size).1 = y at *
  generalize (axOf old l size).2 = f1 at *
  generalize deltaCheck l many size = ck at *
  generalize decide (l = m) = sm at *
  have HA := Lib.hid hA
  have HBB := Lib.hid hB
  have HL := Lib.hid hL
  have HM := Lib.hid hM
  have HML := Lib.hid hml
  clear hA hB hL hM hml
  have z1 : (e1 == e1) = true := by simp
  have z2 : (f1 == f1) = true := by simp
  have z3 : (ck == ck) = true := by simp
  have z4 : (sm == sm) = true := by simp
  go_enter Try.func3, Try.ntmps3
  go_wp2_with fail
  refine (K1.out _ HA.out HBB.out).mono ?_
  rintro e w1 ⟨A1, c1, rfl, hx1, hc1, hb1⟩
  have HB1 : Hid (Below W.heap.size W w1) := Lib.hid hb1
  have HX1 := Lib.hid hx1
  clear hx1 hb1
  go_wp2_with fail
  refine (K2.out _ (HA.out.stays HB1.out) (HL.out.stays HB1.out)).mono ?_
  rintro e w2 ⟨A2, c2, rfl, hy2, hc2, hb2⟩
  have HB2 : Hid (Below W.heap.size W w2) := Lib.hid (HB1.out.trans (hb2.mono HB1.out.size))
  have HX2 := Lib.hid (HX1.out.stays hb2)
  have HY2 := Lib.hid hy2
  clear hy2 hb2
  go_wp2_with fail
  refine (K3.out _ (HML.out.stays HB2.out) (HA.out.stays HB2.out) (HBB.out.stays HB2.out)).mono ?_
  rintro e w3 ⟨A3, c3, rfl, hx3, hc3, hb3⟩
  have HB3 : Hid (Below W.heap.size W w3) := Lib.hid (HB2.out.trans (hb3.mono HB2.out.size))
  have HX3 := Lib.hid (HX2.out.stays hb3)
  have HY3 := Lib.hid (HY2.out.stays hb3)
  have HU3 := Lib.hid hx3
  clear hx3 hb3
  go_wp2_with fail
  refine (K4.out _ (HA.out.stays HB3.out) (HL.out.stays HB3.out)).mono ?_
  rintro e w4 ⟨A4, c4, rfl, hy4, hc4, hb4⟩
  have HB4 : Hid (Below W.heap.size W w4) := Lib.hid (HB3.out.trans (hb4.mono HB3.out.size))
  have HX4 := Lib.hid (HX3.out.stays hb4)
  have HY4 := Lib.hid (HY3.out.stays hb4)
  have HU4 := Lib.hid (HU3.out.stays hb4)
  have HV4 := Lib.hid hy4
  clear hy4 hb4
  go_wp2_with fail
  refine (parted_calls _).mono ?_
  rintro e w5 ⟨rfl, hb5⟩
  have HB5 : Hid (Below W.heap.size W w5) := Lib.hid (HB4.out.trans (hb5.mono HB4.out.size))
  have HX5 := Lib.hid (HX4.out.stays hb5)
  have HY5 := Lib.hid (HY4.out.stays hb5)
  have HU5 := Lib.hid (HU4.out.stays hb5)
  have HV5 := Lib.hid (HV4.out.stays hb5)
  clear hb5
  go_wp2_with fail
  refine (K5.out _ (HL.out.stays HB5.out)).mono ?_
  rintro e w6 ⟨rfl, hb6⟩
  have HB6 : Hid (Below W.heap.size W w6) := Lib.hid (HB5.out.trans (hb6.mono HB5.out.size))
  have HX6 := Lib.hid (HX5.out.stays hb6)
  have HY6 := Lib.hid (HY5.out.stays hb6)
  have HU6 := Lib.hid (HU5.out.stays hb6)
  have HV6 := Lib.hid (HV5.out.stays hb6)
  clear hb6
  go_wp2_with fail
  refine (K6.out _ (HL.out.stays HB6.out)).mono ?_
  rintro e w7 ⟨rfl, hb7⟩
  have HB7 : Hid (Below W.heap.size W w7) := Lib.hid (HB6.out.trans (hb7.mono HB6.out.size))
  have HX7 := Lib.hid (HX6.out.stays hb7)
  have HY7 := Lib.hid (HY6.out.stays hb7)
  have HU7 := Lib.hid (HU6.out.stays hb7)
  have HV7 := Lib.hid (HV6.out.stays hb7)
  clear hb7
  go_wp2_with fail
  refine (K7.out _ (HL.out.stays HB7.out) (HM.out.stays HB7.out)).mono ?_
  rintro e w8 ⟨rfl, hb8⟩
  have HB8 : Hid (Below W.heap.size W w8) := Lib.hid (HB7.out.trans (hb8.mono HB7.out.size))
  have HX8 := Lib.hid (HX7.out.stays hb8)
  have HY8 := Lib.hid (HY7.out.stays hb8)
  have HU8 := Lib.hid (HU7.out.stays hb8)
  have HV8 := Lib.hid (HV7.out.stays hb8)
  clear hb8
  go_wp2_with fail
  refine (K8.out _ (HL.out.stays HB8.out) (HM.out.stays HB8.out)).mono ?_
  rintro e w9 ⟨rfl, hb9⟩
  have HB9 : Hid (Below W.heap.size W w9) := Lib.hid (HB8.out.trans (hb9.mono HB8.out.size))
  have HX9 := Lib.hid (HX8.out.stays hb9)
  have HY9 := Lib.hid (HY8.out.stays hb9)
  have HU9 := Lib.hid (HU8.out.stays hb9)
  have HV9 := Lib.hid (HV8.out.stays hb9)
  clear hb9
  go_wp2_with fail
  refine (refSame_calls A1 A3 c1 c3 x x w9 (by omega) (by omega) HX9.out HU9.out).mono ?_
  rintro e wa ⟨rfl, hba⟩
  have HBa : Hid (Below W.heap.size W wa) := Lib.hid (HB9.out.trans (hba.mono HB9.out.size))
  have HYa := Lib.hid (HY9.out.stays hba)
  have HVa := Lib.hid (HV9.out.stays hba)
  clear hba
  go_wp2_with fail
  refine (bytesEqual_calls A2 A4 c2 c4 y y wa hc2 hc4 HYa.out HVa.out).mono ?_
  rintro e wb ⟨rfl, rfl⟩
  go_wp2_with fail
  go_ret
  exact ⟨ret_bool (by simp), HBa.out⟩
end Go.Proofs.Ytefkfglkpebbmac
