/- The walk of the law MatchSays. Printed by gen_matchsays.py. Condition: the library's own variable holds some number. -/
import Derived.Test.YtefkfglkpebbmabLongestOf
import Derived.Test.YtefkfglkpebbmabMatched
import Derived.Test.YtefkfglkpebbmabArgs
namespace Go.Proofs.Ytefkfglkpebbmab
open Go.RowKit
set_option linter.unusedVariables false
set_option linter.unusedSimpArgs false

set_option maxRecDepth 100000 in
set_option maxHeartbeats 4000000 in
theorem MatchSays_walk (W : World) (v0 v1 v2 : Value) (old b : List UInt8) (k : Int) (g0 : ArgBytes W v0 old) (g1 : ArgBytes W v1 b) (g2 : ArgInt v2 k) (hml : ML W) :
    Calls Try.prog 9 #[v0, v1, v2] W (RetB W (.bool true)) := by
  obtain ⟨A, c, rfl, hc, hl, hr⟩ := g0
  obtain ⟨B, d, rfl, hd, hm, hs⟩ := g1
  obtain ⟨rfl, -, -⟩ := g2
  have HR := Lib.hid hr
  have HS := Lib.hid hs
  have HML := Lib.hid hml
  clear hr hs hml
  by_cases hmany : 64 < old.length ∨ 64 < b.length
  · have K := Lib.hid (longest_many A B c d old b W k hmany hl hm)
    by_cases h1 : (64 : Int) < (old.length : Int)
    · clear hmany
      go_enter Try.func9, Try.ntmps9
      go_wp2_with fail
      refine K.out.mono ?_
      rintro e w1 ⟨rfl, rfl⟩
      go_wp2_with fail
      refine (matched_calls _).mono ?_
      rintro e w2 ⟨rfl, hb2⟩
      have HB2 := Lib.hid hb2
      clear hb2
      go_wp2_with fail
      refine (matched_calls _).mono ?_
      rintro e w3 ⟨rfl, hb3⟩
      have HB3 := Lib.hid (HB2.out.trans (hb3.mono HB2.out.size))
      clear hb3
      go_wp2_with fail
      go_ret
      exact ⟨rfl, HB3.out⟩
    · have h2 : (64 : Int) < (b.length : Int) := by omega
      clear hmany
      go_enter Try.func9, Try.ntmps9
      go_wp2_with fail
      refine K.out.mono ?_
      rintro e w1 ⟨rfl, rfl⟩
      go_wp2_with fail
      refine (matched_calls _).mono ?_
      rintro e w2 ⟨rfl, hb2⟩
      have HB2 := Lib.hid hb2
      clear hb2
      go_wp2_with fail
      refine (matched_calls _).mono ?_
      rintro e w3 ⟨rfl, hb3⟩
      have HB3 := Lib.hid (HB2.out.trans (hb3.mono HB2.out.size))
      clear hb3
      go_wp2_with fail
      go_ret
      exact ⟨rfl, HB3.out⟩
  · have l1 : old.length ≤ 64 := by omega
    have l2 : b.length ≤ 64 := by omega
    have h1 : ¬ (64 : Int) < (old.length : Int) := by omega
    have h2 : ¬ (64 : Int) < (b.length : Int) := by omega
    clear hmany
    by_cases hk : 0 ≤ k ∧ k ≤ b.length
    · obtain ⟨hk1, hk2⟩ := hk
      obtain ⟨nk, rfl⟩ := Int.eq_ofNat_of_zero_le hk1
      have K1 := Lib.hid (longest_calls A B c d old b W nk l1 l2 (by omega) HR.out HS.out)
      have K2 := Lib.hid (fun w m r s => refLongest_calls A B c d old b w nk m hc hd l1 l2 (by omega) r s)
      generalize longest old b nk = p at *
      go_enter Try.func9, Try.ntmps9
      go_wp2_with fail
      refine K1.out.mono ?_
      rintro e w1 ⟨rfl, n1, rfl⟩
      go_wp2_with fail
      refine (matched_calls _).mono ?_
      rintro e w2 ⟨rfl, hb2⟩
      have HB2 : Hid (Below W.heap.size W w2) := Lib.hid ((below_drewN W n1).trans hb2)
      clear hb2
      go_wp2_with fail
      refine (K2.out _ (HML.out.stays HB2.out) (HR.out.stays HB2.out) (HS.out.stays HB2.out)).mono ?_
      rintro e w3 ⟨rfl, n3, rfl⟩
      go_wp2_with fail
      go_ret
      exact ⟨rfl, Below.drewN' HB2.out _⟩
    · have K := Lib.hid (longest_who A B c d old b W k l1 l2 hk)
      by_cases h3 : k < 0
      · clear hk
        go_enter Try.func9, Try.ntmps9
        go_wp2_with fail
        refine K.out.mono ?_
        rintro e w1 ⟨rfl, rfl⟩
        go_wp2_with fail
        refine (matched_calls _).mono ?_
        rintro e w2 ⟨rfl, hb2⟩
        have HB2 := Lib.hid hb2
        clear hb2
        go_wp2_with fail
        refine (matched_calls _).mono ?_
        rintro e w3 ⟨rfl, hb3⟩
        have HB3 := Lib.hid (HB2.out.trans (hb3.mono HB2.out.size))
        clear hb3
        go_wp2_with fail
        go_ret
        exact ⟨rfl, HB3.out⟩
      · have h4 : (b.length : Int) < k := by omega
        clear hk
        go_enter Try.func9, Try.ntmps9
        go_wp2_with fail
        refine K.out.mono ?_
        rintro e w1 ⟨rfl, rfl⟩
        go_wp2_with fail
        refine (matched_calls _).mono ?_
        rintro e w2 ⟨rfl, hb2⟩
        have HB2 := Lib.hid hb2
        clear hb2
        go_wp2_with fail
        refine (matched_calls _).mono ?_
        rintro e w3 ⟨rfl, hb3⟩
        have HB3 := Lib.hid (HB2.out.trans (hb3.mono HB2.out.size))
        clear hb3
        go_wp2_with fail
        go_ret
        exact ⟨rfl, HB3.out⟩
end Go.Proofs.Ytefkfglkpebbmab
