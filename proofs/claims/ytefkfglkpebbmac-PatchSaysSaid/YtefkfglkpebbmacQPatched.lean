/- The laws' closed fact on a patch. No conditions. -/
import Derived.Test.YtefkfglkpebbmacQPatRead
import Derived.Test.YtefkfglkpebbmacQPatPut
import Derived.Test.YtefkfglkpebbmacQPatDo
import Derived.Test.YtefkfglkpebbmacQPatSame
import Derived.Test.YtefkfglkpebbmacQEqB
import Derived.Laws.IdiomStrings
namespace Go.Proofs.Ytefkfglkpebbmac
open Go.RowKit
set_option linter.unusedVariables false
set_option linter.unusedSimpArgs false

def ptOld : List UInt8 := [97, 98, 99, 100, 101, 102, 103, 104]
def ptOther : List UInt8 := [97, 98, 99, 100, 101, 102, 103, 105]
def ptNew : List UInt8 := [120, 101, 102, 103, 104, 97, 98, 99, 100]
def ptP : Pat := ⟨1, 2, sumOn 1 ptOld, sumOn 1 ptNew, 9, diffed ptOld ptNew⟩
theorem sum_in (l : List UInt8) : 0 ≤ sumOn 1 l ∧ sumOn 1 l ≤ 65535 := by have := sumOn_bd 1 l (by omega); omega
theorem pt_make : patMake (sumOn 1) 1 2 ptOld ptNew = (ptP, 0) ∧ patCheck ptP = 0 ∧ patDo (sumOn 1) ptP ptOld = (ptNew, 0) := patMake_ok sum_in (by omega) (by omega) (by decide) (by decide)
theorem pt_other : patDo (sumOn 1) ptP ptOther = ([], 6) := by
  unfold patDo
  rw [if_neg (by rw [pt_make.2.1]; simp), if_neg (by decide), if_pos (by decide +kernel)]
theorem pt_len : (patBytes ptP).length = 15 := by decide +kernel
theorem pt_tail : (patBytes ptP).drop 6 = [9, 3, 255, 1, 120, 4, 4, 0, 4] := by decide +kernel
/-- patch.Put, whatever the patch is. -/
def putOf (p : Pat) : List UInt8 × Int := if patCheck p ≠ 0 then ([], patCheck p) else (patBytes p, 0)
theorem patPut_calls (B : Option Addr) (d : Nat) (p : Pat) (w : World) (hp : PatIn w p B d) :
    Calls Try.prog 97 #[.agg (patA p.from_ p.to_ p.old p.new_ p.size B p.ops.length d)] w (UnRet w (putOf p)) := by
  unfold putOf
  by_cases h : patCheck p = 0
  · rw [if_neg (by simpa using h)]; exact patPut_ok B d p w hp h
  · rw [if_pos h]
    refine (patPut_bad B d p w hp h).mono ?_
    rintro e w' ⟨rfl, hb⟩
    exact ⟨none, 0, rfl, Own.nil_ _ _ _ _, hb⟩
theorem patRead_calls (A : Option Addr) (c : Nat) (b : List UInt8) (w : World) (hc : b.length ≤ c) (hB : Bts w A b) :
    Calls Try.prog 98 #[.slice A b.length c] w (PaRet w (patRead b).1 (patRead b).2) := by
  by_cases h : 400 < b.length ∨ b.length < 8
  · exact patRead_short A c b w h
  · exact patRead_long A c b w hc (by omega) (by omega) hB
theorem patMake_calls (A B : Option Addr) (c d : Nat) (fr to_ : Int) (old b : List UInt8) (w : World) (hf : I64 fr) (ht : I64 to_) (ho : old.length ≤ 140737488351232) (hl : b.length ≤ 140737488351232) (hA : Bts w A old) (hB : Bts w B b) :
    Calls Try.prog 24 #[iv fr, iv to_, .slice A old.length c, .slice B b.length d] w (PaRet w (patMake (sumOn 1) fr to_ old b).1 (patMake (sumOn 1) fr to_ old b).2) := by
  by_cases h : 64 < old.length ∨ 64 < b.length
  · have e : patMake (sumOn 1) fr to_ old b = (Pat.zero, 1) := by unfold patMake; rw [if_pos h]
    rw [e]; exact patMake_many A B c d fr to_ old b w h ho hl
  · exact patMake_fit A B c d fr to_ old b w hf ht (by omega) (by omega) hA hB
/-- patch.Same. -/
theorem patSame_calls (A B : Option Addr) (c d : Nat) (p q : Pat) (w : World) (hp : PatIn w p A c) (hq : PatIn w q B d) :
    Calls Try.prog 31 #[.agg (patA p.from_ p.to_ p.old p.new_ p.size A p.ops.length c), .agg (patA q.from_ q.to_ q.old q.new_ q.size B q.ops.length d)] w (RetB w (.bool (decide (p = q)))) :=
  patSameA_calls A B c d p.from_ p.to_ p.old p.new_ p.size q.from_ q.to_ q.old q.new_ q.size p.ops q.ops w hp.len hq.len hp.ops hq.ops
set_option maxRecDepth 100000 in
set_option maxHeartbeats 8000000 in
theorem patched_calls (w : World) : Calls Try.prog 28 #[] w (RetB w (.bool true)) := by
  have K1 : Hid (∀ (g h : Nat) w, Bts w (some ⟨g, 0, none⟩) ptOld → Bts w (some ⟨h, 0, none⟩) ptNew → Calls Try.prog 24 #[iv 1, iv 2, .slice (some ⟨g, 0, none⟩) 8 8, .slice (some ⟨h, 0, none⟩) 9 9] w (PaRet w ptP 0)) := Lib.hid fun g h w h1 h2 => by
    have := patMake_calls (some ⟨g, 0, none⟩) (some ⟨h, 0, none⟩) 8 9 1 2 ptOld ptNew w ⟨by decide, by decide⟩ ⟨by decide, by decide⟩ (by decide) (by decide) h1 h2
    rwa [pt_make.1] at this
  have K2 : Hid (∀ B d w, PatIn w ptP B d → Calls Try.prog 97 #[.agg (patA ptP.from_ ptP.to_ ptP.old ptP.new_ ptP.size B ptP.ops.length d)] w (UnRet w (patBytes ptP, 0))) := Lib.hid fun B d w h => patPut_ok B d ptP w h pt_make.2.1
  have K3 : Hid (∀ A c w, 15 ≤ c → Bts w A (patBytes ptP) → Calls Try.prog 98 #[.slice A 15 c] w (PaRet w ptP 0)) := Lib.hid fun A c w h1 h2 => by
    have := patRead_calls A c (patBytes ptP) w (by rw [pt_len]; exact h1) h2
    rwa [pt_len, read_put pt_make.2.1] at this
  have K4 : Hid (∀ B d g w, PatIn w ptP B d → Bts w (some ⟨g, 0, none⟩) ptOld → Calls Try.prog 25 #[.agg (patA ptP.from_ ptP.to_ ptP.old ptP.new_ ptP.size B ptP.ops.length d), .slice (some ⟨g, 0, none⟩) 8 8] w (ByRet2 w ptNew 0)) := Lib.hid fun B d g w h1 h2 => by
    have := patDo_calls B (some ⟨g, 0, none⟩) d 8 ptP ptOld w (by decide) (by decide) h2 h1
    rwa [pt_make.2.2] at this
  have K5 : Hid (∀ B d g w, PatIn w ptP B d → Bts w (some ⟨g, 0, none⟩) ptOther → Calls Try.prog 25 #[.agg (patA ptP.from_ ptP.to_ ptP.old ptP.new_ ptP.size B ptP.ops.length d), .slice (some ⟨g, 0, none⟩) 8 8] w (ByRet2 w [] 6)) := Lib.hid fun B d g w h1 h2 => by
    have := patDo_calls B (some ⟨g, 0, none⟩) d 8 ptP ptOther w (by decide) (by decide) h2 h1
    rwa [pt_other] at this
  have K6 : Hid (∀ A B c d w, PatIn w ptP A c → PatIn w ptP B d → Calls Try.prog 31 #[.agg (patA ptP.from_ ptP.to_ ptP.old ptP.new_ ptP.size A ptP.ops.length c), .agg (patA ptP.from_ ptP.to_ ptP.old ptP.new_ ptP.size B ptP.ops.length d)] w (RetB w (.bool true))) := Lib.hid fun A B c d w h1 h2 => by
    have := patSame_calls A B c d ptP ptP w h1 h2
    rwa [show decide (ptP = ptP) = true by simp] at this
  have HTL := Lib.hid pt_tail
  have HLN := Lib.hid pt_len
  have kc := convert_const (P := Try.prog) 22 5 Try.underlying22 Try.underlying5
  generalize ptP = p at *
  go_enter Try.func28, Try.ntmps28
  go_wp2_with fail
  refine (K1.out _ _ _ ?_ ?_).mono ?_
  · exact bts_ex ⟨_, _, _, blk_old (blk_top rfl), rfl⟩
  · exact bts_ex ⟨_, _, _, blk_top (by simp), rfl⟩
  rintro e w1 ⟨A1, c1, rfl, hp1, hb1⟩
  have HP1 := Lib.hid hp1.now
  have HB1 : Hid (Below w.heap.size w w1) := Lib.hid ((((Below.refl _ _).alloc (Nat.le_refl _) _).alloc (by simp) _).trans (hb1.mono (by simp <;> omega)))
  have hz1 := HB1.out.size
  clear hp1 hb1
  go_wp2_with fail
  refine (K2.out _ _ _ (HP1.out.stays ((Below.refl _ _).alloc (Nat.le_refl _) _))).mono ?_
  rintro e w2 ⟨A2, c2, rfl, ho2, hb2⟩
  obtain ⟨a0r, a0f, a0n, a0c, a0z, a0l⟩ := keep1 (g := w1.heap.size) (cs := patA p.from_ p.to_ p.old p.new_ p.size A1 p.ops.length c1) hb2 (by first | (go_simp; done) | (go_simp; rfl)) (by go_simp) (by go_simp)
  have HB2 : Hid (Below w1.heap.size w1 w2) := Lib.hid (((Below.refl _ _).alloc (Nat.le_refl _) _).trans (hb2.mono (by simp)))
  have HP2 := Lib.hid (HP1.out.stays HB2.out)
  have HT2 := Lib.hid ho2.src.bts
  have hc2 : (patBytes p).length ≤ c2 := ho2.le
  rw [HLN.out] at hc2
  clear ho2 hb2
  obtain ⟨tb, tof, rfl, _, _⟩ := HT2.out 0 (by rw [HLN.out]; decide)
  simp only [HLN.out]
  go_wp2_with fail
  refine (K3.out _ _ _ hc2 HT2.out).mono ?_
  rintro e w3 ⟨A3, c3, rfl, hp3, hb3⟩
  obtain ⟨b0r, b0f, b0n, b0c, b0z, b0l⟩ := keep1 (g := w1.heap.size) (cs := patA p.from_ p.to_ p.old p.new_ p.size A1 p.ops.length c1) hb3 (by first | (go_simp; done) | (go_simp; rfl)) (by go_simp) (by go_simp)
  have HB3 : Hid (Below w1.heap.size w1 w3) := Lib.hid (HB2.out.trans (hb3.mono HB2.out.size))
  have HQ3 := Lib.hid hp3.now
  have HT3 := Lib.hid (HT2.out.stays hb3)
  have hz3 := HB3.out.size
  clear hp3 hb3 a0r a0f a0n a0c a0z a0l
  go_wp2_with fail
  refine (K4.out _ _ _ _ ((HP1.out.stays HB3.out).stays (((Below.refl _ _).alloc (Nat.le_refl _) _).alloc (by simp) _)) (bts_ex ⟨_, _, _, blk_top (by simp), rfl⟩)).mono ?_
  rintro e w4 ⟨A4, c4, rfl, ht4, hc4, hb4⟩
  have n1 : ¬ w1.heap.size = w3.heap.size + 1 := by omega
  obtain ⟨a0r, a0f, a0n, a0c, a0z, a0l⟩ := keep1 (g := w1.heap.size) (cs := patA p.from_ p.to_ p.old p.new_ p.size A1 p.ops.length c1) hb4 (by first | (go_simp; done) | (go_simp; rfl)) (by go_simp) (by go_simp)
  obtain ⟨a1r, a1f, a1n, a1c, a1z, a1l⟩ := keep1 (g := w3.heap.size) (cs := patA p.from_ p.to_ p.old p.new_ p.size A3 p.ops.length c3) hb4 (by first | (go_simp; done) | (go_simp; rfl)) (by go_simp) (by go_simp)
  have HB4 : Hid (Below w3.heap.size w3 w4) := Lib.hid ((((Below.refl _ _).alloc (Nat.le_refl _) _).alloc (by simp) _).trans (hb4.mono (by simp; omega)))
  have HC4 := Lib.hid ht4
  have hz4 := HB4.out.size
  clear hb4 ht4 b0r b0f b0n b0c b0z b0l
  go_wp2_with fail
  refine (K5.out _ _ _ _ (((HP1.out.stays HB3.out).stays HB4.out).stays ((Below.refl _ _).alloc (Nat.le_refl _) _)) (bts_ex ⟨_, _, _, blk_top (by simp), rfl⟩)).mono ?_
  rintro e w5 ⟨A5, c5, rfl, ht5, hc5, hb5⟩
  obtain ⟨b0r, b0f, b0n, b0c, b0z, b0l⟩ := keep1 (g := w1.heap.size) (cs := patA p.from_ p.to_ p.old p.new_ p.size A1 p.ops.length c1) hb5 (by first | (go_simp; done) | (go_simp; rfl)) (by go_simp) (by go_simp)
  obtain ⟨b1r, b1f, b1n, b1c, b1z, b1l⟩ := keep1 (g := w3.heap.size) (cs := patA p.from_ p.to_ p.old p.new_ p.size A3 p.ops.length c3) hb5 (by first | (go_simp; done) | (go_simp; rfl)) (by go_simp) (by go_simp)
  have HB5a : Hid (Below w4.heap.size w4 w5) := Lib.hid (((Below.refl _ _).alloc (Nat.le_refl _) _).trans (hb5.mono (by simp)))
  have HB5 : Hid (Below w3.heap.size w3 w5) := Lib.hid (HB4.out.trans (HB5a.out.mono HB4.out.size))
  have HC5 := Lib.hid (HC4.out.stays HB5a.out)
  clear hb5 ht5 a0r a0f a0n a0c a0z a0l a1r a1f a1n a1c a1z a1l
  go_wp2_with fail
  refine (K6.out _ _ _ _ _ ((HP1.out.stays HB3.out).stays HB5.out) (HQ3.out.stays HB5.out)).mono ?_
  rintro e w6 ⟨rfl, hb6⟩
  have HB6 : Hid (Below w3.heap.size w3 w6) := Lib.hid (HB5.out.trans (hb6.mono HB5.out.size))
  have HC6 := HC5.out.stays hb6
  have ks := conv_str A4 c4 ptNew w6 hc4 HC6
  have HT6 := Lib.hid (HT3.out.stays HB6.out)
  have dst : ((⟨ptNew.toArray⟩ : ByteArray) == ⟨#[120, 101, 102, 103, 104, 97, 98, 99, 100]⟩) = true := by decide
  clear hb6 HC6
  have n6 : ¬ c2 = 6 := by omega
  have HCC : Hid (9 ≤ c2 - 6) := Lib.hid (by omega)
  have j6 : (15 : Int) ≤ (c2 : Int) := by omega
  have HT7 : Hid (Bts w6 (some ⟨tb, tof + 6, none⟩) [9, 3, 255, 1, 120, 4, 4, 0, 4]) := Lib.hid (by have := mid_at HT6.out 6; rwa [HTL.out] at this)
  go_wp2_with fail
  refine (eqB_calls (l := [9, 3, 255, 1, 120, 4, 4, 0, 4]) (k := [9, 3, 255, 1, 120, 4, 4, 0, 4]) (r := true) rfl rfl HCC.out (by decide) (HT7.out.stays ((Below.refl _ _).alloc (Nat.le_refl _) _)) (bts_top rfl rfl) (by decide)).mono ?_
  rintro e w7 ⟨rfl, rfl⟩
  go_wp2_with fail
  go_ret
  exact ⟨rfl, (HB1.out.trans ((HB3.out.trans (HB6.out.mono hz3)).mono hz1)).alloc (by have h1 := HB1.out.size; have h3 := HB3.out.size; have h6 := HB6.out.size; omega) _⟩
end Go.Proofs.Ytefkfglkpebbmac
