/- The laws' closed fact on chunks. Printed by gen_cut.py. Condition: the library's own variable holds some number. -/
import Derived.Test.YtefkfglkpebbmacQPatched
import Derived.Test.YtefkfglkpebbmacQRefMade
import Derived.Test.YtefkfglkpebbmacQChkAdd
import Derived.Test.YtefkfglkpebbmacQChkJoin
import Derived.Test.YtefkfglkpebbmacQBase
namespace Go.Proofs.Ytefkfglkpebbmac
open Go.RowKit
set_option linter.unusedVariables false
set_option linter.unusedSimpArgs false

def ctC : Chk := ⟨1, 2, 0, 1, packed (patBytes ptP)⟩
def ctD : Chk := ⟨1, 2, 0, 1, [1, 2]⟩
theorem ct_cut : chkCut ptP = ([ctC], 0) := by decide +kernel
theorem ct_len : ctC.data.length = 16 := by decide +kernel
theorem ct_head : ctC.data[0]? = some 15 := by decide +kernel
theorem ct_list : chkList [ctC] = 0 := by decide +kernel
theorem ct_join : chkJoin [ctC] = (ptP, 0) := by decide +kernel
theorem ct_none : chkJoin [] = (Pat.zero, 5) := by decide +kernel
theorem ct_add : chkAdd [] ctD = ([ctD], 0) := by decide +kernel
theorem GRow.chs {w : World} {base : Nat} {l : List Chk} {ds : List (Option Addr × Nat)} {A : Option Addr} {c : Nat} (h : GRow kChk w base l ds A c) (hb : ∀ x ∈ l, ChkB x) : Chs w A l := h.src.chs hb
set_option maxRecDepth 100000 in
set_option maxHeartbeats 8000000 in
theorem cut_calls (W : World) (hml : ML W) : Calls Try.prog 34 #[] W (RetB W (.bool true)) := by
  have HML := Lib.hid hml
  clear hml
  have K1 : Hid (∀ (g h : Nat) w, ML w → Bts w (some ⟨g, 0, none⟩) ptOld → Bts w (some ⟨h, 0, none⟩) ptNew → Calls Try.prog 26 #[iv 1, iv 2, .slice (some ⟨g, 0, none⟩) 8 8, .slice (some ⟨h, 0, none⟩) 9 9] w (PaRet w ptP 0)) := Lib.hid fun g h w hm h1 h2 => by
    have := refMade_calls (some ⟨g, 0, none⟩) (some ⟨h, 0, none⟩) 8 9 1 2 ptOld ptNew w hm (by decide) (by decide) ⟨by decide, by decide⟩ ⟨by decide, by decide⟩ (by decide) (by decide) h1 h2
    rwa [pt_make.1] at this
  have K2 : Hid (∀ B d w, PatIn w ptP B d → Calls Try.prog 33 #[.agg (patA ptP.from_ ptP.to_ ptP.old ptP.new_ ptP.size B ptP.ops.length d)] w (ChkRet2 w [ctC] 0)) := Lib.hid fun B d w h => by
    have := chkCut_calls B d ptP w h
    rwa [ct_cut] at this
  have K3 : Hid (∀ A c w, Chs w A [ctC] → Calls Try.prog 37 #[.slice A 1 c] w (PaRet w ptP 0)) := Lib.hid fun A c w h => by
    have := chkJoin_calls A c [ctC] w (by decide) h
    rwa [ct_join] at this
  have K4 : Hid (∀ w, Calls Try.prog 37 #[.slice none 0 0] w (PaRet w Pat.zero 5)) := Lib.hid fun w => by
    have := chkJoin_calls none 0 [] w (by decide) (Chs.nil _ _)
    rwa [ct_none] at this
  have K5 : Hid (∀ g w, Bts w (some ⟨g, 0, none⟩) [1, 2] → Calls Try.prog 36 #[.slice none 0 0, .agg (chkA 1 2 0 1 (some ⟨g, 0, none⟩) 2 2)] w (ChkRet2 w [ctD] 0)) := Lib.hid fun g w h => by
    have := chkAdd_calls none (some ⟨g, 0, none⟩) 0 2 [] ctD w (by decide) (Chs.nil _ _) ⟨by decide, by decide, h, ⟨by decide, by decide⟩, ⟨by decide, by decide⟩, ⟨by decide, by decide⟩, ⟨by decide, by decide⟩⟩
    rwa [ct_add] at this
  have K6 : Hid (∀ A B c d w, PatIn w ptP A c → PatIn w ptP B d → Calls Try.prog 31 #[.agg (patA ptP.from_ ptP.to_ ptP.old ptP.new_ ptP.size A ptP.ops.length c), .agg (patA ptP.from_ ptP.to_ ptP.old ptP.new_ ptP.size B ptP.ops.length d)] w (RetB w (.bool true))) := Lib.hid fun A B c d w h1 h2 => by
    have := patSame_calls A B c d ptP ptP w h1 h2
    rwa [show decide (ptP = ptP) = true by simp] at this
  have K7 : Hid (∀ A c w, Chs w A [ctC] → Calls Try.prog 40 #[.slice A 1 c] w (RetB w (iv 0))) := Lib.hid fun A c w h => by
    have := chkList_calls A c [ctC] w (by decide) h
    rwa [ct_list] at this
  have HB1' : Hid (∀ x ∈ [ctC], ChkB x) := Lib.hid (fun x hx => by
    rw [List.mem_singleton.1 hx]
    exact ⟨by rw [ct_len]; decide, ⟨by decide, by decide⟩, ⟨by decide, by decide⟩, ⟨by decide, by decide⟩, ⟨by decide, by decide⟩⟩)
  have HLN := Lib.hid ct_len
  have HHD := Lib.hid ct_head
  generalize ctC = ch at *
  generalize ptP = p at *
  have kc := convert_const (P := Try.prog) 22 5 Try.underlying22 Try.underlying5
  go_enter Try.func34, Try.ntmps34
  go_wp2_with fail
  refine (K1.out _ _ _ (HML.out.stays (((Below.refl _ _).alloc (Nat.le_refl _) _).alloc (by simp) _)) ?_ ?_).mono ?_
  · exact bts_ex ⟨_, _, _, blk_old (blk_top rfl), rfl⟩
  · exact bts_ex ⟨_, _, _, blk_top (by simp), rfl⟩
  rintro e w1 ⟨A1, c1, rfl, hp1, hb1⟩
  have HP1 := Lib.hid hp1.now
  have HB1 : Hid (Below W.heap.size W w1) := Lib.hid ((((Below.refl _ _).alloc (Nat.le_refl _) _).alloc (by simp) _).trans (hb1.mono (by simp <;> omega)))
  clear hp1 hb1 kc
  go_wp2_with fail
  refine (K2.out _ _ _ (HP1.out.stays (by repeat (first | exact Below.refl _ _ | refine Below.alloc ?_ (by first | omega | (simp <;> omega)) _)))).mono ?_
  rintro e w2 ⟨A2, c2, ds2, rfl, hg, hn, hb⟩
  obtain ⟨a0r, a0f, a0n, a0c, a0z, a0l⟩ := keep1 (g := w1.heap.size) (cs := patA p.from_ p.to_ p.old p.new_ p.size A1 p.ops.length c1) hb (by first | (go_simp; done) | (go_simp; rfl)) (by go_simp) (by go_simp)
  have hbx : Below w1.heap.size w1 w2 := Below.trans (by repeat (first | exact Below.refl _ _ | refine Below.alloc ?_ (by first | omega | (simp <;> omega)) _)) (hb.mono (by first | omega | (simp <;> omega)))
  have HB2 : Hid (Below W.heap.size W w2) := Lib.hid (HB1.out.trans (hbx.mono HB1.out.size))
  have HP2 := Lib.hid (HP1.out.stays hbx)
  have HC2 := Lib.hid (hg.chs HB1'.out)
  clear hg hn
  clear hb hbx 
  go_wp2_with fail
  refine (K3.out _ _ _ (HC2.out.stays (by repeat (first | exact Below.refl _ _ | refine Below.alloc ?_ (by first | omega | (simp <;> omega)) _)))).mono ?_
  rintro e w3 ⟨A3, c3, rfl, hq, hb⟩
  obtain ⟨a0r, a0f, a0n, a0c, a0z, a0l⟩ := keep1 (g := w1.heap.size) (cs := patA p.from_ p.to_ p.old p.new_ p.size A1 p.ops.length c1) hb (by first | (go_simp; done) | (go_simp; rfl)) (by go_simp) (by go_simp)
  have hbx : Below w2.heap.size w2 w3 := Below.trans (by repeat (first | exact Below.refl _ _ | refine Below.alloc ?_ (by first | omega | (simp <;> omega)) _)) (hb.mono (by first | omega | (simp <;> omega)))
  have HB3 : Hid (Below W.heap.size W w3) := Lib.hid (HB2.out.trans (hbx.mono HB2.out.size))
  have HP3 := Lib.hid (HP2.out.stays hbx)
  have HC3 := Lib.hid (HC2.out.stays hbx)
  have HQ3 := Lib.hid hq.now
  clear hq
  clear hb hbx 
  go_wp2_with fail
  refine (K4.out _).mono ?_
  rintro e w4 ⟨A4, c4, rfl, hq, hb⟩
  obtain ⟨a0r, a0f, a0n, a0c, a0z, a0l⟩ := keep1 (g := w1.heap.size) (cs := patA p.from_ p.to_ p.old p.new_ p.size A1 p.ops.length c1) hb (by first | (go_simp; done) | (go_simp; rfl)) (by go_simp) (by go_simp)
  obtain ⟨a1r, a1f, a1n, a1c, a1z, a1l⟩ := keep1 (g := w3.heap.size) (cs := patA p.from_ p.to_ p.old p.new_ p.size A3 p.ops.length c3) hb (by first | (go_simp; done) | (go_simp; rfl)) (by go_simp) (by go_simp)
  have hbx : Below w3.heap.size w3 w4 := Below.trans (by repeat (first | exact Below.refl _ _ | refine Below.alloc ?_ (by first | omega | (simp <;> omega)) _)) (hb.mono (by first | omega | (simp <;> omega)))
  have HB4 : Hid (Below W.heap.size W w4) := Lib.hid (HB3.out.trans (hbx.mono HB3.out.size))
  have HP4 := Lib.hid (HP3.out.stays hbx)
  have HC4 := Lib.hid (HC3.out.stays hbx)
  have HQ4 := Lib.hid (HQ3.out.stays hbx)
  clear hq
  clear hb hbx 
  go_wp2_with fail
  refine (K5.out _ _ (bts_ex ⟨_, _, _, blk_top (by simp), rfl⟩)).mono ?_
  rintro e w5 ⟨A5, c5, ds5, rfl, hg, hn, hb⟩
  have nq1 : ¬w1.heap.size = w4.heap.size + 1 := by omega
  have nq3 : ¬w3.heap.size = w4.heap.size + 1 := by omega
  obtain ⟨a0r, a0f, a0n, a0c, a0z, a0l⟩ := keep1 (g := w1.heap.size) (cs := patA p.from_ p.to_ p.old p.new_ p.size A1 p.ops.length c1) hb (by first | (go_simp; done) | (go_simp; rfl)) (by go_simp) (by go_simp)
  obtain ⟨a1r, a1f, a1n, a1c, a1z, a1l⟩ := keep1 (g := w3.heap.size) (cs := patA p.from_ p.to_ p.old p.new_ p.size A3 p.ops.length c3) hb (by first | (go_simp; done) | (go_simp; rfl)) (by go_simp) (by go_simp)
  have hbx : Below w4.heap.size w4 w5 := Below.trans (by repeat (first | exact Below.refl _ _ | refine Below.alloc ?_ (by first | omega | (simp <;> omega)) _)) (hb.mono (by first | omega | (simp <;> omega)))
  have HB5 : Hid (Below W.heap.size W w5) := Lib.hid (HB4.out.trans (hbx.mono HB4.out.size))
  have HP5 := Lib.hid (HP4.out.stays hbx)
  have HC5 := Lib.hid (HC4.out.stays hbx)
  have HQ5 := Lib.hid (HQ4.out.stays hbx)
  clear hg hn
  clear hb hbx 
  obtain ⟨bb, oo, D, dd, rfl, hbl, ⟨e0, e1, e2, e3, e4⟩, hin⟩ := HC5.out.chk (i := 0) (by simp)
  simp only [List.getElem_cons_zero, Nat.zero_mul, Nat.add_zero] at e0 e1 e2 e3 e4 hin
  rw [HLN.out] at e4
  obtain ⟨b3, o3, rfl, hb3, hc3⟩ := hin.data 0 (by rw [HLN.out]; decide)
  have hx15 : ch.data[0]'(by rw [HLN.out]; decide) = 15 := by
    have := HHD.out
    rw [List.getElem?_eq_getElem (by rw [HLN.out]; decide)] at this
    injection this
  rw [hx15, Nat.add_zero] at hc3
  clear hx15 hin
  clear HHD HLN HB1' K1 K2 K3 K4 K5
  go_wp2_with fail
  refine (K6.out _ _ _ _ _ HP5.out HQ5.out).mono ?_
  rintro e w6 ⟨rfl, hb⟩
  have HB6 : Hid (Below W.heap.size W w6) := Lib.hid (HB5.out.trans (hb.mono HB5.out.size))
  have HC6 := Lib.hid (HC5.out.stays hb)
  clear hb
  go_wp2_with fail
  refine (K7.out _ _ _ HC6.out).mono ?_
  rintro e w7 ⟨rfl, hb⟩
  have HB7 : Hid (Below W.heap.size W w7) := Lib.hid (HB6.out.trans (hb.mono HB6.out.size))
  clear hb
  go_wp2_with fail
  go_ret
  exact ⟨rfl, HB7.out⟩
end Go.Proofs.Ytefkfglkpebbmac
