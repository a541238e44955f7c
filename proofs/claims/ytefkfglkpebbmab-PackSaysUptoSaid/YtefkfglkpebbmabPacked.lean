/- The closed fact 'packed'. No conditions. -/
import Derived.Test.YtefkfglkpebbmabPack
import Derived.Test.YtefkfglkpebbmabUnpack
import Derived.Test.YtefkfglkpebbmabBytesEqual
namespace Go.Proofs.Ytefkfglkpebbmab
open Go.RowKit
set_option linter.unusedVariables false
set_option linter.unusedSimpArgs false

theorem packB_calls {Ab : Option Addr} {n cb : Nat} {b p : List UInt8} {w : World} (hp : packed b = p) (hn : n = b.length) (hc : b.length ≤ cb) (hl : b.length ≤ 1048576) (hB : Bts w Ab b) :
    Calls Try.prog 20 #[.slice Ab n cb] w (BtRet w p) := by
  subst hn hp; exact pack_calls Ab cb b w hc hl hB
theorem unpackB_calls {Ab : Option Addr} {n cb : Nat} {b u : List UInt8} {most e : Int} {w : World} (hu : unpacked b most = (u, e)) (hn : n = b.length) (hc : b.length ≤ cb) (hl : b.length ≤ 4194304) (hm : I64 most) (hB : Bts w Ab b) :
    Calls Try.prog 21 #[.slice Ab n cb, iv most] w (UnRet w (u, e)) := by
  subst hn; rw [← hu]; exact unpack_calls Ab cb b most w hc hl hm hB
theorem eqB_calls {A B : Option Addr} {n m c d : Nat} {l k : List UInt8} {w : World} {r : Bool} (hn : n = l.length) (hm : m = k.length) (hc : n ≤ c) (hd : m ≤ d) (ha : Bts w A l) (hb : Bts w B k) (hr : decide (l = k) = r) :
    Calls Try.prog 18 #[.slice A n c, .slice B m d] w (Ret w (.bool r)) := by
  subst hn hm hr; exact bytesEqual_calls A B c d l k w hc hd ha hb
set_option maxRecDepth 100000 in
set_option maxHeartbeats 4000000 in
theorem packed_calls (w : World) : Calls Try.prog 22 #[] w (RetB w (.bool true)) := by
  have K1 := fun (w : World) (A : Option Addr) (h : Bts w A [7, 7, 7, 7, 9]) => packB_calls (b := [7, 7, 7, 7, 9]) (p := [132, 7, 1, 9]) (n := 5) (cb := 5) (by decide +kernel) rfl (by decide) (by decide) h
  have K2 := fun (w : World) (A : Option Addr) (c : Nat) (hc : 4 ≤ c) (h : Bts w A [132, 7, 1, 9]) => unpackB_calls (b := [132, 7, 1, 9]) (n := 4) (cb := c) (most := 5) (u := [7, 7, 7, 7, 9]) (e := 0) (by decide +kernel) rfl hc (by decide) ⟨by decide, by decide⟩ h
  have K3 := fun (w : World) (A : Option Addr) (c : Nat) (hc : 4 ≤ c) (h : Bts w A [132, 7, 1, 9]) => unpackB_calls (b := [132, 7, 1, 9]) (n := 4) (cb := c) (most := 4) (u := []) (e := 1) (by decide +kernel) rfl hc (by decide) ⟨by decide, by decide⟩ h
  have K4 := fun (w : World) (A : Option Addr) (h : Bts w A [128]) => unpackB_calls (b := [128]) (n := 1) (cb := 1) (most := 9) (u := []) (e := 3) (by decide +kernel) rfl (by decide) (by decide) ⟨by decide, by decide⟩ h
  have K5 := fun (w : World) (A : Option Addr) (h : Bts w A [2, 1]) => unpackB_calls (b := [2, 1]) (n := 2) (cb := 2) (most := 9) (u := []) (e := 7) (by decide +kernel) rfl (by decide) (by decide) ⟨by decide, by decide⟩ h
  go_enter Try.func22, Try.ntmps22
  go_wp2_with fail
  refine (K1 _ _ (bts_top rfl rfl)).mono ?_
  rintro e w1 ⟨A1, c1, rfl, ho1, hb1⟩
  have HB1 : Hid (Below w.heap.size w w1) := Lib.hid (((Below.refl _ _).alloc (Nat.le_refl _) _).trans (hb1.mono (by simp)))
  have HP1 := Lib.hid ho1.src.bts
  have hc1 : 4 ≤ c1 := ho1.le
  clear ho1 hb1
  go_wp2_with fail
  refine (K2 _ _ _ hc1 HP1.out).mono ?_
  rintro e w2 ⟨A2, c2, rfl, ho2, hb2⟩
  have HB2 : Hid (Below w.heap.size w w2) := Lib.hid (HB1.out.trans (hb2.mono HB1.out.size))
  have HP2 := Lib.hid (HP1.out.stays hb2)
  have HU2 := Lib.hid ho2.src.bts
  have hc2 : 5 ≤ c2 := ho2.le
  clear ho2 hb2
  go_wp2_with fail
  refine (K3 _ _ _ hc1 HP2.out).mono ?_
  rintro e w3 ⟨A3, c3, rfl, ho3, hb3⟩
  have HB3 : Hid (Below w.heap.size w w3) := Lib.hid (HB2.out.trans (hb3.mono HB2.out.size))
  have HP3 := Lib.hid (HP2.out.stays hb3)
  have HU3 := Lib.hid (HU2.out.stays hb3)
  clear ho3 hb3
  go_wp2_with fail
  refine (K4 _ _ (bts_top rfl rfl)).mono ?_
  rintro e w4 ⟨A4, c4, rfl, ho4, hb4⟩
  have hba := (Below.refl w3.heap.size w3).alloc (Nat.le_refl _) (.cells #[.int .u8 128] 5)
  have HB4 : Hid (Below w.heap.size w w4) := Lib.hid ((HB3.out.alloc HB3.out.size _).trans (hb4.mono (Nat.le_trans HB3.out.size hba.size)))
  have HP4 := Lib.hid ((HP3.out.stays hba).stays hb4)
  have HU4 := Lib.hid ((HU3.out.stays hba).stays hb4)
  clear ho4 hb4 hba
  go_wp2_with fail
  refine (K5 _ _ (bts_top rfl rfl)).mono ?_
  rintro e w5 ⟨A5, c5, rfl, ho5, hb5⟩
  have hba := (Below.refl w4.heap.size w4).alloc (Nat.le_refl _) (.cells #[.int .u8 2, .int .u8 1] 5)
  have HB5 : Hid (Below w.heap.size w w5) := Lib.hid ((HB4.out.alloc HB4.out.size _).trans (hb5.mono (Nat.le_trans HB4.out.size hba.size)))
  have HP5 := Lib.hid ((HP4.out.stays hba).stays hb5)
  have HU5 := Lib.hid ((HU4.out.stays hba).stays hb5)
  clear ho5 hb5 hba
  go_wp2_with fail
  have hba := (Below.refl w5.heap.size w5).alloc (Nat.le_refl _) (.cells #[.int .u8 132, .int .u8 7, .int .u8 1, .int .u8 9] 5)
  refine (eqB_calls (l := [132, 7, 1, 9]) (k := [132, 7, 1, 9]) (r := true) rfl rfl hc1 (by decide) (HP5.out.stays hba) (bts_top rfl rfl) (by decide)).mono ?_
  rintro e w6 ⟨rfl, rfl⟩
  have HU6 := Lib.hid (HU5.out.stays hba)
  clear hba
  go_wp2_with fail
  refine (eqB_calls (l := [7, 7, 7, 7, 9]) (k := [7, 7, 7, 7, 9]) (r := true) rfl rfl hc2 (by decide) (HU6.out.stays ((Below.refl _ _).alloc (Nat.le_refl _) _)) (bts_top (by simp) rfl) (by decide)).mono ?_
  rintro e w7 ⟨rfl, rfl⟩
  go_wp2_with fail
  go_ret
  exact ⟨rfl, (HB5.out.alloc HB5.out.size _).alloc (by have := HB5.out.size; simp; omega) _⟩
end Go.Proofs.Ytefkfglkpebbmab
