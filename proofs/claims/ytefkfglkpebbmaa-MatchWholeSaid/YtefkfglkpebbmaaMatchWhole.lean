/- The walk of the law MatchWhole. -/
import Derived.Test.YtefkfglkpebbmaaMatched
import Derived.Test.YtefkfglkpebbmaaAux
import Derived.Test.YtefkfglkpebbmaaArgs
namespace Go.Proofs.Ytefkfglkpebbmaa
open Go.RowKit
set_option linter.unusedVariables false

theorem bts_take {w : World} {A : Option Addr} {l : List UInt8} (h : Bts w A l) (n : Nat) : Bts w A (l.take n) := by
  intro i hi
  obtain ⟨b, o, hA, hs, hc⟩ := h i (by simp only [List.length_take] at hi; omega)
  exact ⟨b, o, hA, hs, by rw [hc]; simp⟩

set_option maxHeartbeats 400000 in
theorem MatchWhole_walk (W : World) (v0 v1 v2 v3 : Value) (old0 b0 : List UInt8) (k0 n0 : Int) (g0 : ArgBytes W v0 old0) (g1 : ArgBytes W v1 b0) (g2 : ArgInt v2 k0) (g3 : ArgInt v3 n0) :
    Calls Try.prog 5 #[v0, v1, v2, v3] W (RetB W (.bool true)) := by
  obtain ⟨A, c, rfl, hc, hl, hr⟩ := g0
  obtain ⟨B, d, rfl, hd, hm, hs⟩ := g1
  obtain ⟨rfl, hk1, hk2⟩ := g2
  obtain ⟨rfl, hn1, hn2⟩ := g3
  have himg := lawImage_calls A c old0 W hc hl
  have himg2 := lawImage_calls B d b0 W hd hm
  have r1 := img_bts hr
  have r2 := img_bts hs
  have l1 := img_len old0
  have l2 := img_len b0
  have c1 : (img old0).length ≤ c := by unfold img; rw [List.length_take]; omega
  have HI := Lib.hid himg
  have HJ := Lib.hid himg2
  clear himg himg2 hr hs
  generalize img old0 = old at *
  generalize img b0 = b at *
  obtain ⟨k, hk⟩ : ∃ k : Nat, k0 % ((b.length : Int) + 1) = k := ⟨(k0 % ((b.length : Int) + 1)).toNat, by have := Int.emod_nonneg k0 (show (b.length : Int) + 1 ≠ 0 by omega); omega⟩
  have hkb : k ≤ b.length := by have := Int.emod_lt_of_pos k0 (show 0 < (b.length : Int) + 1 by omega); omega
  obtain ⟨n, hn⟩ : ∃ n : Nat, n0 % ((old.length : Int) + 1) = n := ⟨(n0 % ((old.length : Int) + 1)).toNat, by have := Int.emod_nonneg n0 (show (old.length : Int) + 1 ≠ 0 by omega); omega⟩
  have hnb : n ≤ old.length := by have := Int.emod_lt_of_pos n0 (show 0 < (old.length : Int) + 1 by omega); omega
  have a1 := at_calls k0 ((b.length : Int) + 1) W hk1 hk2 (by omega) (by omega)
  rw [hk] at a1
  have a2 := fun w => at_calls n0 ((old.length : Int) + 1) w hn1 hn2 (by omega) (by omega)
  rw [hn] at a2
  have hself := longest_self b k hkb
  have hsome := longest_take old b k n
  have hlen : (old.take n).length = n := by rw [List.length_take]; omega
  have s1 := fun w hb => longest_calls B B d d b b w k l2 l2 hkb hb hb
  have s2 := fun w ha hb => longest_calls A B c d old b w k l1 l2 hkb ha hb
  have s3 := fun w ha hb => longest_calls A B c d (old.take n) b w k (by omega) l2 hkb ha hb
  rw [hlen] at s3
  have hlb := longTo_le b b k b.length (Nat.le_refl _)
  have HA1 := Lib.hid a1
  have HA2 := Lib.hid a2
  have HS1 := Lib.hid s1
  have HS2 := Lib.hid s2
  have HS3 := Lib.hid s3
  have r3 := bts_take r1 n
  have hd1 : ((((longest b b k).2 : Nat) : Int) != (b.length : Int) - (k : Int)) = false := by simp; omega
  have hd2 : (((longest (old.take n) b k).2 : Nat) : Int) ≤ ((longest old b k).2 : Int) := by omega
  clear hk hn a1 a2 hself hsome hlen s1 s2 s3 hlb
  go_enter Try.func5, Try.ntmps5
  go_wp2_with fail
  refine HI.out.mono ?_
  rintro e w1 ⟨rfl, rfl⟩
  go_wp2_with fail
  refine HJ.out.mono ?_
  rintro e w1 ⟨rfl, rfl⟩
  go_wp2_with fail
  refine HA1.out.mono ?_
  rintro e w1 ⟨rfl, rfl⟩
  go_wp2_with fail
  refine (HS1.out _ r2).mono ?_
  rintro e w1 ⟨rfl, m1, rfl⟩
  go_wp2_with fail
  refine (matched_calls _).mono ?_
  rintro e w1 ⟨rfl, hb1⟩
  have hb2 : Below W.heap.size W w1 := (below_drewN W m1).trans hb1
  have r1' := r1.stays hb2
  have r2' := r2.stays hb2
  have r3' := r3.stays hb2
  go_wp2_with fail
  refine (HS2.out _ r1' r2').mono ?_
  rintro e w2 ⟨rfl, m2, rfl⟩
  go_wp2_with fail
  refine (HA2.out _).mono ?_
  rintro e w2 ⟨rfl, rfl⟩
  go_wp2_with fail
  refine (HS3.out _ (r3'.drewN _) (r2'.drewN _)).mono ?_
  rintro e w2 ⟨rfl, m3, rfl⟩
  go_wp2_with fail
  go_ret
  refine ⟨rfl, ?_⟩
  repeat (first | exact hb2 | refine Below.drewN' ?_ _)
end Go.Proofs.Ytefkfglkpebbmaa
