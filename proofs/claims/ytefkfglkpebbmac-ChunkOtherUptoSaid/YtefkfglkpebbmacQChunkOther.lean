/- The walk of the law ChunkOther. Printed by gen_chunkother.py. Condition: the library's own variable holds some number. -/
import Derived.Test.YtefkfglkpebbmacQCut
import Derived.Test.YtefkfglkpebbmacQChkFunc
import Derived.Test.YtefkfglkpebbmacQChkSame
namespace Go.Proofs.Ytefkfglkpebbmac
open Go.RowKit
set_option linter.unusedVariables false
set_option linter.unusedSimpArgs false

theorem chs_one {w : World} {g : Nat} {x : Chk} {D : Option Addr} {d : Nat} {t : TypeId} {fr : Nat × Nat} (h : w.heap[g]? = some (.cells (chkA x.from_ x.to_ x.n x.of_ D x.data.length d) t fr)) (hx : ChkIn w x D d) : Chs w (some ⟨g, 0, none⟩) [x] := by
  intro i hi
  obtain rfl : i = 0 := by simpa using hi
  refine ⟨g, 0, rfl, blk_lt h, chkC x D d, rfl, fun j hj => ?_, D, d, rfl, hx⟩
  have hs := src_blk h
  rw [chkA_list] at hs
  obtain ⟨b', o', e, _, hc⟩ := hs j hj
  injection e with e
  injection e with e1 e2
  subst e1 e2
  simpa using hc
theorem chkB_ok {x : Chk} (h : chkCheck x = 0) : ChkB x := by
  obtain ⟨⟨h1, h2, h3, h4, h5, h6, h7, h8⟩, _, h9, _⟩ := chkCheck_ok.1 h
  refine ⟨by omega, ⟨?_, ?_⟩, ⟨?_, ?_⟩, ⟨?_, ?_⟩, ⟨?_, ?_⟩⟩ <;> omega
theorem chkBs_ok {l : List Chk} (h : chkList l = 0) : ∀ x ∈ l, ChkB x := fun x hx => chkB_ok ((chkList_ok.1 h).1 x hx)
theorem row_at {w : World} {g : Nat} {x : Chk} {D : Option Addr} {d : Nat} (h : ∀ j, w.cell? ⟨g, j, none⟩ = (chkA x.from_ x.to_ x.n x.of_ D x.data.length d)[j]?) : ChkAt w g 0 x D d :=
  ⟨(h 0).trans (chkA_get0 _ _ _ _ _ _ _), (h 1).trans (chkA_get1 _ _ _ _ _ _ _), (h 2).trans (chkA_get2 _ _ _ _ _ _ _), (h 3).trans (chkA_get3 _ _ _ _ _ _ _), (h 4).trans (chkA_get4 _ _ _ _ _ _ _)⟩
set_option maxRecDepth 100000 in
set_option maxHeartbeats 8000000 in
theorem ChunkOther_walk (W : World) (v0 v1 : Value) (l : List Chk) (c : Chk) (g0 : ArgChks W v0 l) (g1 : ArgChk W v1 c) (hml : ML W) :
    Calls Try.prog 6 #[v0, v1] W (RetB W (.bool true)) := by
  obtain ⟨L, cl, rfl, hcl, hll, hL⟩ := g0
  obtain ⟨D, d, rfl, hx⟩ := g1
  rw [chkC_eq]
  have HL := Lib.hid hL
  have HX := Lib.hid hx
  have HML := Lib.hid hml
  have K0 := Lib.hid (fun w h => cut_calls w h)
  have K1 := Lib.hid (fun w h1 h2 => chkAdd_calls L D cl d l c w hll h1 h2)
  clear hL hx hml
  obtain ⟨m, e, hm⟩ : ∃ m e, chkAdd l c = (m, e) := ⟨_, _, rfl⟩
  rw [hm] at K1
  dsimp only at K1
  have HM := Lib.hid hm
  clear hm
  by_cases he : e = 0
  · subst he
    have hlc := chkAdd_zero (by rw [HM.out] : (chkAdd l c).2 = 0)
    have hag := add_again hlc.1 hlc.2
    rw [HM.out] at hag
    dsimp only at hag
    obtain ⟨ha1, ha2, ha3⟩ := hag
    have hml2 := chkList_len ha1
    have hml3 : m.length ≤ 1048576 := by omega
    have HBm := Lib.hid (chkBs_ok ha1)
    have K2 := Lib.hid (fun A k w h => by have := chkList_calls A k m w hml3 h; rwa [ha1] at this : ∀ A k w, Chs w A m → Calls Try.prog 40 #[.slice A m.length k] w (RetB w (iv 0)))
    have hany : m.any (fun x => same4 x c) = true := by
      obtain ⟨y, hy, h1, h2, h3, h4⟩ := ha2
      exact List.any_eq_true.2 ⟨y, hy, by simp [same4, h1, h2, h3, h4]⟩
    have K3 := Lib.hid (fun A k g w h1 h2 h3 => by have := coA_has A D k d g m c w hml3 h1 h2 h3; rwa [hany] at this : ∀ A k g w, Chs w A m → g < w.heap.size → ChkAt w g 0 c D d → Calls Try.prog 41 #[.slice A m.length k, .func (Fn.func 42) #[] #[.pointer (some ⟨g, 0, none⟩)]] w (RetB w (.bool true)))
    have K4 := Lib.hid (fun A k w h1 h2 => by have := chkAdd_calls A D k d m c w hml3 h1 h2; rwa [ha3] at this : ∀ A k w, Chs w A m → ChkIn w c D d → Calls Try.prog 36 #[.slice A m.length k, .agg (chkA c.from_ c.to_ c.n c.of_ D c.data.length d)] w (ChkRet2 w m 0))
    have K5 := Lib.hid (fun A B k j w h1 h2 => by have := chkSame_calls A B k j m m w hml3 hml3 h1 h2; rwa [show decide (m = m) = true by simp] at this : ∀ A B k j w, Chs w A m → Chs w B m → Calls Try.prog 39 #[.slice A m.length k, .slice B m.length j] w (RetB w (.bool true)))
    have hthere : (∃ x, l[0]? = some x ∧ kin x c) → (l.any (fun x => sameN x c) = true) → m = l := fun h1 h2 => by
      have := add_there hlc.1 hlc.2 h1 (by obtain ⟨y, hy, h⟩ := List.any_eq_true.1 h2; exact ⟨y, hy, by simpa [sameN] using h⟩)
      rwa [HM.out] at this
    have hnew : (∃ x, l[0]? = some x ∧ kin x c) → (l.any (fun x => sameN x c) = false) → m.length = l.length + 1 := fun h1 h2 => by
      have := add_new hlc.1 hlc.2 h1 (fun ⟨y, hy, h⟩ => by have := List.any_eq_false.1 h2 y hy; simp [sameN, h] at this)
      rwa [HM.out] at this
    have hoth : (¬ ∃ x, l[0]? = some x ∧ kin x c) → m = [c] := fun h => by
      have := add_other hlc.1 hlc.2 h
      rwa [HM.out] at this
    have HT := Lib.hid hthere
    have HN := Lib.hid hnew
    have HO := Lib.hid hoth
    have HK7 := Lib.hid (fun g w h1 h2 h3 => coB_has L D cl d g l c w hll h1 h2 h3)
    clear hlc ha1 ha2 ha3 hany hthere hnew hoth hml2
    go_enter Try.func6, Try.ntmps6
    go_wp2_with fail
    refine (K1.out _ (HL.out.stays (by repeat (first | exact Below.refl _ _ | refine Below.alloc ?_ (by first | omega | (simp <;> omega)) _))) (HX.out.stays (by repeat (first | exact Below.refl _ _ | refine Below.alloc ?_ (by first | omega | (simp <;> omega)) _)))).mono ?_
    rintro e w1 ⟨A1, c1, ds1, rfl, hg, hn, hb⟩
    obtain ⟨a0r, a0f, a0n, a0c, a0z, a0l⟩ := keep1 (g := W.heap.size) (cs := chkA c.from_ c.to_ c.n c.of_ D c.data.length d) hb (by first | (go_simp; done) | (go_simp; rfl)) (by go_simp) (by go_simp)
    have hbx : Below W.heap.size W w1 := Below.trans (by repeat (first | exact Below.refl _ _ | refine Below.alloc ?_ (by first | omega | (simp <;> omega)) _)) (hb.mono (by first | omega | (simp <;> omega)))
    have HB1 : Hid (Below W.heap.size W w1) := Lib.hid (hbx)
    have hg1 := Lib.hid (hg.chs HBm.out)
    clear hg hn
    clear hb hbx 
    go_wp2_with fail
    refine (K0.out _ (HML.out.stays (by have hs := HB1.out.size; repeat (first | exact HB1.out | refine Below.alloc ?_ (by first | omega | (simp <;> omega)) _)))).mono ?_
    rintro e w2 ⟨rfl, hb⟩
    obtain ⟨a0r, a0f, a0n, a0c, a0z, a0l⟩ := keep1 (g := W.heap.size) (cs := chkA c.from_ c.to_ c.n c.of_ D c.data.length d) hb (by first | (go_simp; done) | (go_simp; rfl)) (by go_simp) (by go_simp)
    have hbx : Below w1.heap.size w1 w2 := Below.trans (by repeat (first | exact Below.refl _ _ | refine Below.alloc ?_ (by first | omega | (simp <;> omega)) _)) (hb.mono (by first | omega | (simp <;> omega)))
    have HB2 : Hid (Below W.heap.size W w2) := Lib.hid (HB1.out.trans (hbx.mono HB1.out.size))
    have HM2 := Lib.hid (hg1.out.stays hbx)
    clear hb hbx 
    go_wp2_with fail
    refine (K2.out _ _ _ (HM2.out.stays (by repeat (first | exact Below.refl _ _ | refine Below.alloc ?_ (by first | omega | (simp <;> omega)) _)))).mono ?_
    rintro e w3 ⟨rfl, hb⟩
    obtain ⟨a0r, a0f, a0n, a0c, a0z, a0l⟩ := keep1 (g := W.heap.size) (cs := chkA c.from_ c.to_ c.n c.of_ D c.data.length d) hb (by first | (go_simp; done) | (go_simp; rfl)) (by go_simp) (by go_simp)
    have hbx : Below w2.heap.size w2 w3 := Below.trans (by repeat (first | exact Below.refl _ _ | refine Below.alloc ?_ (by first | omega | (simp <;> omega)) _)) (hb.mono (by first | omega | (simp <;> omega)))
    have HB3 : Hid (Below W.heap.size W w3) := Lib.hid (HB2.out.trans (hbx.mono HB2.out.size))
    have HM3 := Lib.hid (HM2.out.stays hbx)
    clear hb hbx 
    go_wp2_with fail
    refine (K3.out _ _ _ _ (HM3.out.stays (by repeat (first | exact Below.refl _ _ | refine Below.alloc ?_ (by first | omega | (simp <;> omega)) _))) a0l (row_at a0c)).mono ?_
    rintro e w4 ⟨rfl, hb⟩
    obtain ⟨a0r, a0f, a0n, a0c, a0z, a0l⟩ := keep1 (g := W.heap.size) (cs := chkA c.from_ c.to_ c.n c.of_ D c.data.length d) hb (by first | (go_simp; done) | (go_simp; rfl)) (by go_simp) (by go_simp)
    have hbx : Below w3.heap.size w3 w4 := Below.trans (by repeat (first | exact Below.refl _ _ | refine Below.alloc ?_ (by first | omega | (simp <;> omega)) _)) (hb.mono (by first | omega | (simp <;> omega)))
    have HB4 : Hid (Below W.heap.size W w4) := Lib.hid (HB3.out.trans (hbx.mono HB3.out.size))
    have HM4 := Lib.hid (HM3.out.stays hbx)
    clear hb hbx 
    go_wp2_with fail
    by_cases hlp : ¬ 0 < l.length
    · obtain rfl : l = [] := List.length_eq_zero_iff.1 (by omega)
      have hs : ¬ ∃ x, ([] : List Chk)[0]? = some x ∧ kin x c := fun ⟨x, h, _⟩ => by simp at h
      refine wp_region_chain (by kernel_rfl) (some 32 :: some 33 :: some 34 :: some 35 :: some 36 :: some 37 :: some 38 :: some 39 :: some 40 :: some 41 :: some 42 :: some 43 :: some 44 :: some 45 :: some 46 :: some 47 :: some 48 :: some 49 :: some 50 :: some 51 :: some 52 :: some 53 :: some 54 :: some 55 :: some 56 :: some 57 :: some 58 :: some 59 :: some 60 :: some 61 :: some 7 :: []) (.slice L 0 cl :: iv 0 :: .bool false :: .bool false :: undef :: undef :: undef :: undef :: undef :: undef :: undef :: .bool false :: .bool false :: undef :: undef :: undef :: undef :: undef :: undef :: undef :: .bool false :: .bool false :: undef :: undef :: undef :: undef :: undef :: undef :: undef :: .bool false :: .bool false :: []) 99 rfl rfl (by decide +kernel) (by decide +kernel) (by decide +kernel) rfl ?_ ?_
      · refine ⟨.inl ⟨rfl, fun done a wq hw h => ?_⟩, ?_⟩
        · have e0 := ch_old (t := 0) (v := .slice L 0 cl) h rfl rfl; exact ch_move (ch_ev e0)
        refine ⟨.inl ⟨rfl, fun done a wq hw h => ?_⟩, ?_⟩
        · have e32 := ch_new (i := 0) (t := 32) h (hw 0 (by decide)) rfl rfl; refine ch_pure ?_; go_simp
        refine ⟨.inl ⟨rfl, fun done a wq hw h => ?_⟩, ?_⟩
        · have e33 := ch_new (i := 1) (t := 33) h (hw 1 (by decide)) rfl rfl; exact ch_gtr_int (by kernel_rfl) (ch_ev e33) rfl (by simp)
        refine ⟨.inl ⟨rfl, fun done a wq hw h => ?_⟩, ?_⟩
        · have e34 := ch_new (i := 2) (t := 34) h (hw 2 (by decide)) rfl rfl; exact ch_move (ch_ev e34)
        refine ⟨.inr ⟨rfl, rfl⟩, ?_⟩
        refine ⟨.inr ⟨rfl, rfl⟩, ?_⟩
        refine ⟨.inr ⟨rfl, rfl⟩, ?_⟩
        refine ⟨.inr ⟨rfl, rfl⟩, ?_⟩
        refine ⟨.inr ⟨rfl, rfl⟩, ?_⟩
        refine ⟨.inr ⟨rfl, rfl⟩, ?_⟩
        refine ⟨.inr ⟨rfl, rfl⟩, ?_⟩
        refine ⟨.inl ⟨rfl, fun done a wq hw h => ?_⟩, ?_⟩
        · have e35 := ch_new (i := 3) (t := 35) h (hw 3 (by decide)) rfl rfl; exact ch_pick_f e35 rfl
        refine ⟨.inl ⟨rfl, fun done a wq hw h => ?_⟩, ?_⟩
        · have e43 := ch_new (i := 11) (t := 43) h (hw 11 (by decide)) rfl rfl; exact ch_move (ch_ev e43)
        refine ⟨.inr ⟨rfl, rfl⟩, ?_⟩
        refine ⟨.inr ⟨rfl, rfl⟩, ?_⟩
        refine ⟨.inr ⟨rfl, rfl⟩, ?_⟩
        refine ⟨.inr ⟨rfl, rfl⟩, ?_⟩
        refine ⟨.inr ⟨rfl, rfl⟩, ?_⟩
        refine ⟨.inr ⟨rfl, rfl⟩, ?_⟩
        refine ⟨.inr ⟨rfl, rfl⟩, ?_⟩
        refine ⟨.inl ⟨rfl, fun done a wq hw h => ?_⟩, ?_⟩
        · have e44 := ch_new (i := 12) (t := 44) h (hw 12 (by decide)) rfl rfl; exact ch_pick_f e44 rfl
        refine ⟨.inl ⟨rfl, fun done a wq hw h => ?_⟩, ?_⟩
        · have e52 := ch_new (i := 20) (t := 52) h (hw 20 (by decide)) rfl rfl; exact ch_move (ch_ev e52)
        refine ⟨.inr ⟨rfl, rfl⟩, ?_⟩
        refine ⟨.inr ⟨rfl, rfl⟩, ?_⟩
        refine ⟨.inr ⟨rfl, rfl⟩, ?_⟩
        refine ⟨.inr ⟨rfl, rfl⟩, ?_⟩
        refine ⟨.inr ⟨rfl, rfl⟩, ?_⟩
        refine ⟨.inr ⟨rfl, rfl⟩, ?_⟩
        refine ⟨.inr ⟨rfl, rfl⟩, ?_⟩
        refine ⟨.inl ⟨rfl, fun done a wq hw h => ?_⟩, ?_⟩
        · have e53 := ch_new (i := 21) (t := 53) h (hw 21 (by decide)) rfl rfl; exact ch_pick_f e53 rfl
        refine ⟨.inl ⟨rfl, fun done a wq hw h => ?_⟩, ?_⟩
        · have e61 := ch_new (i := 29) (t := 61) h (hw 29 (by decide)) rfl rfl; exact ch_assign (ch_ev e61)
        exact trivial
      · intro w5 hb
        simp only [putAll_some, putAll_none, putAll_nil, List.setIfInBounds_toArray, List.set_cons_zero, List.set_cons_succ]
        obtain ⟨a0r, a0f, a0n, a0c, a0z, a0l⟩ := keep1 (g := W.heap.size) (cs := chkA c.from_ c.to_ c.n c.of_ D c.data.length d) hb a0r (by go_simp) a0f
        have hbx : Below w4.heap.size w4 w5 := hb
        have HB5 : Hid (Below W.heap.size W w5) := Lib.hid (HB4.out.trans (hbx.mono HB4.out.size))
        have HM5 := Lib.hid (HM4.out.stays hbx)
        clear hb hbx
        go_wp2_with fail
        refine (K4.out _ _ _ (HM5.out.stays (by repeat (first | exact Below.refl _ _ | refine Below.alloc ?_ (by first | omega | (simp <;> omega)) _))) (HX.out.stays (by have hs := HB5.out.size; repeat (first | exact HB5.out | refine Below.alloc ?_ (by first | omega | (simp <;> omega)) _)))).mono ?_
        rintro e w6 ⟨A6, c6, ds6, rfl, hg, hn, hb⟩
        obtain ⟨a0r, a0f, a0n, a0c, a0z, a0l⟩ := keep1 (g := W.heap.size) (cs := chkA c.from_ c.to_ c.n c.of_ D c.data.length d) hb (by first | (go_simp; done) | (go_simp; rfl)) (by go_simp) (by go_simp)
        have hbx : Below w5.heap.size w5 w6 := Below.trans (by repeat (first | exact Below.refl _ _ | refine Below.alloc ?_ (by first | omega | (simp <;> omega)) _)) (hb.mono (by first | omega | (simp <;> omega)))
        have HB6 : Hid (Below W.heap.size W w6) := Lib.hid (HB5.out.trans (hbx.mono HB5.out.size))
        have HM6 := Lib.hid (HM5.out.stays hbx)
        have hg6 := Lib.hid (hg.chs HBm.out)
        clear hg hn
        clear hb hbx 
        go_wp2_with fail
        refine (K5.out _ _ _ _ _ (HM6.out.stays (by repeat (first | exact Below.refl _ _ | refine Below.alloc ?_ (by first | omega | (simp <;> omega)) _))) (hg6.out.stays (by repeat (first | exact Below.refl _ _ | refine Below.alloc ?_ (by first | omega | (simp <;> omega)) _)))).mono ?_
        rintro e w7 ⟨rfl, hb⟩
        obtain ⟨a0r, a0f, a0n, a0c, a0z, a0l⟩ := keep1 (g := W.heap.size) (cs := chkA c.from_ c.to_ c.n c.of_ D c.data.length d) hb (by first | (go_simp; done) | (go_simp; rfl)) (by go_simp) (by go_simp)
        have hbx : Below w6.heap.size w6 w7 := Below.trans (by repeat (first | exact Below.refl _ _ | refine Below.alloc ?_ (by first | omega | (simp <;> omega)) _)) (hb.mono (by first | omega | (simp <;> omega)))
        have HB7 : Hid (Below W.heap.size W w7) := Lib.hid (HB6.out.trans (hbx.mono HB6.out.size))
        have HM7 := Lib.hid (HM6.out.stays hbx)
        have HN7 := Lib.hid (hg6.out.stays hbx)
        clear hb hbx 
        have HE := HO.out hs
        subst HE
        go_wp2_with fail
        refine (K5.out _ _ _ _ _ (HM7.out.stays (by repeat (first | exact Below.refl _ _ | refine Below.alloc ?_ (by first | omega | (simp <;> omega)) _))) (chs_one (blk_top rfl) (HX.out.stays (by have hs := HB7.out.size; repeat (first | exact HB7.out | refine Below.alloc ?_ (by first | omega | (simp <;> omega)) _))))).mono ?_
        rintro e w8 ⟨rfl, hb⟩
        obtain ⟨a0r, a0f, a0n, a0c, a0z, a0l⟩ := keep1 (g := W.heap.size) (cs := chkA c.from_ c.to_ c.n c.of_ D c.data.length d) hb (by first | (go_simp; done) | (go_simp; rfl)) (by go_simp) (by go_simp)
        have hbx : Below w7.heap.size w7 w8 := Below.trans (by repeat (first | exact Below.refl _ _ | refine Below.alloc ?_ (by first | omega | (simp <;> omega)) _)) (hb.mono (by first | omega | (simp <;> omega)))
        have HB8 : Hid (Below W.heap.size W w8) := Lib.hid (HB7.out.trans (hbx.mono HB7.out.size))
        have HM8 := Lib.hid (HM7.out.stays hbx)
        have HN8 := Lib.hid (HN7.out.stays hbx)
        clear hb hbx 
        go_wp2_with fail
        go_ret
        refine ⟨ret_bool (by simp), ?_⟩
        have hs := HB8.out.size
        repeat (first | exact HB8.out | refine Below.alloc ?_ (by first | omega | (simp <;> omega)) _)
    · have hlp := Decidable.not_not.1 hlp
      obtain ⟨x, hx0⟩ : ∃ x, l[0]? = some x := ⟨_, List.getElem?_eq_getElem hlp⟩
      obtain ⟨b, o, B, dd, rfl, hbl, hat, _⟩ := (HL.out.stays HB4.out).chk hlp
      have hat : ChkAt w4 b o x B dd := by
        have e0 : l[0] = x := by rw [List.getElem?_eq_getElem hlp] at hx0; injection hx0
        rw [e0] at hat
        simpa using hat
      obtain ⟨x0, x1, x2, x3, x4⟩ := hat
      have HX0 := Lib.hid hx0
      clear hx0
      by_cases q0 : ¬ x.from_ = c.from_
      · have hs : ¬ ∃ x, l[0]? = some x ∧ kin x c := fun ⟨y, h1, h2⟩ => by
          rw [HX0.out] at h1; injection h1 with h1; subst h1; exact q0 h2.1
        refine wp_region_chain (by kernel_rfl) (some 32 :: some 33 :: some 34 :: some 35 :: some 36 :: some 37 :: some 38 :: some 39 :: some 40 :: some 41 :: some 42 :: some 43 :: some 44 :: some 45 :: some 46 :: some 47 :: some 48 :: some 49 :: some 50 :: some 51 :: some 52 :: some 53 :: some 54 :: some 55 :: some 56 :: some 57 :: some 58 :: some 59 :: some 60 :: some 61 :: some 7 :: []) (.slice (some ⟨b, o, none⟩) l.length cl :: iv (l.length : Int) :: .bool true :: .bool true :: .slice (some ⟨b, o, none⟩) l.length cl :: .pointer (some ⟨b, o, none⟩) :: .pointer (some ⟨b, o, none⟩) :: iv x.from_ :: .pointer (some ⟨W.heap.size, 0, none⟩) :: iv c.from_ :: .bool false :: .bool false :: .bool false :: undef :: undef :: undef :: undef :: undef :: undef :: undef :: .bool false :: .bool false :: undef :: undef :: undef :: undef :: undef :: undef :: undef :: .bool false :: .bool false :: []) 99 rfl rfl (by decide +kernel) (by decide +kernel) (by decide +kernel) rfl ?_ ?_
        · refine ⟨.inl ⟨rfl, fun done a wq hw h => ?_⟩, ?_⟩
          · have e0 := ch_old (t := 0) (v := .slice (some ⟨b, o, none⟩) l.length cl) h rfl rfl; exact ch_move (ch_ev e0)
          refine ⟨.inl ⟨rfl, fun done a wq hw h => ?_⟩, ?_⟩
          · have e32 := ch_new (i := 0) (t := 32) h (hw 0 (by decide)) rfl rfl; refine ch_pure ?_; go_simp
          refine ⟨.inl ⟨rfl, fun done a wq hw h => ?_⟩, ?_⟩
          · have e33 := ch_new (i := 1) (t := 33) h (hw 1 (by decide)) rfl rfl; exact ch_gtr_int (by kernel_rfl) (ch_ev e33) rfl (by simp; omega)
          refine ⟨.inl ⟨rfl, fun done a wq hw h => ?_⟩, ?_⟩
          · have e34 := ch_new (i := 2) (t := 34) h (hw 2 (by decide)) rfl rfl; exact ch_move (ch_ev e34)
          refine ⟨.inl ⟨rfl, fun done a wq hw h => ?_⟩, ?_⟩
          · have e0 := ch_old (t := 0) (v := .slice (some ⟨b, o, none⟩) l.length cl) h rfl rfl; exact ch_move (ch_ev e0)
          refine ⟨.inl ⟨rfl, fun done a wq hw h => ?_⟩, ?_⟩
          · have e36 := ch_new (i := 4) (t := 36) h (hw 4 (by decide)) rfl rfl; refine ch_pure ?_; go_simp
          refine ⟨.inl ⟨rfl, fun done a wq hw h => ?_⟩, ?_⟩
          · have e37 := ch_new (i := 5) (t := 37) h (hw 5 (by decide)) rfl rfl; refine ch_pure ?_; go_simp
          refine ⟨.inl ⟨rfl, fun done a wq hw h => ?_⟩, ?_⟩
          · have e38 := ch_new (i := 6) (t := 38) h (hw 6 (by decide)) rfl rfl; have hc := (h.bel.cell (p := ⟨b, o, none⟩) (by simp; omega)).trans (show w4.cell? _ = some (iv x.from_) from x0); refine ch_pure ?_; go_simp
          refine ⟨.inl ⟨rfl, fun done a wq hw h => ?_⟩, ?_⟩
          · have e3 := ch_old (t := 3) (v := .pointer (some ⟨W.heap.size, 0, none⟩)) h rfl rfl; refine ch_pure ?_; go_simp
          refine ⟨.inl ⟨rfl, fun done a wq hw h => ?_⟩, ?_⟩
          · have e40 := ch_new (i := 8) (t := 40) h (hw 8 (by decide)) rfl rfl; obtain ⟨r_, f_, n_, c_, z_, l_⟩ := keep1 h.bel a0r (by go_simp) a0f; refine ch_pure ?_; go_simp
          refine ⟨.inl ⟨rfl, fun done a wq hw h => ?_⟩, ?_⟩
          · have e39 := ch_new (i := 7) (t := 39) h (hw 7 (by decide)) rfl rfl; have e41 := ch_new (i := 9) (t := 41) h (hw 9 (by decide)) rfl rfl; exact ch_eql_int (by kernel_rfl) (ch_ev e39) (ch_ev e41) (by simp [q0])
          refine ⟨.inl ⟨rfl, fun done a wq hw h => ?_⟩, ?_⟩
          · have e35 := ch_new (i := 3) (t := 35) h (hw 3 (by decide)) rfl rfl; have e42 := ch_new (i := 10) (t := 42) h (hw 10 (by decide)) rfl rfl; exact ch_pick_t e35 (ch_ev e42)
          refine ⟨.inl ⟨rfl, fun done a wq hw h => ?_⟩, ?_⟩
          · have e43 := ch_new (i := 11) (t := 43) h (hw 11 (by decide)) rfl rfl; exact ch_move (ch_ev e43)
          refine ⟨.inr ⟨rfl, rfl⟩, ?_⟩
          refine ⟨.inr ⟨rfl, rfl⟩, ?_⟩
          refine ⟨.inr ⟨rfl, rfl⟩, ?_⟩
          refine ⟨.inr ⟨rfl, rfl⟩, ?_⟩
          refine ⟨.inr ⟨rfl, rfl⟩, ?_⟩
          refine ⟨.inr ⟨rfl, rfl⟩, ?_⟩
          refine ⟨.inr ⟨rfl, rfl⟩, ?_⟩
          refine ⟨.inl ⟨rfl, fun done a wq hw h => ?_⟩, ?_⟩
          · have e44 := ch_new (i := 12) (t := 44) h (hw 12 (by decide)) rfl rfl; exact ch_pick_f e44 rfl
          refine ⟨.inl ⟨rfl, fun done a wq hw h => ?_⟩, ?_⟩
          · have e52 := ch_new (i := 20) (t := 52) h (hw 20 (by decide)) rfl rfl; exact ch_move (ch_ev e52)
          refine ⟨.inr ⟨rfl, rfl⟩, ?_⟩
          refine ⟨.inr ⟨rfl, rfl⟩, ?_⟩
          refine ⟨.inr ⟨rfl, rfl⟩, ?_⟩
          refine ⟨.inr ⟨rfl, rfl⟩, ?_⟩
          refine ⟨.inr ⟨rfl, rfl⟩, ?_⟩
          refine ⟨.inr ⟨rfl, rfl⟩, ?_⟩
          refine ⟨.inr ⟨rfl, rfl⟩, ?_⟩
          refine ⟨.inl ⟨rfl, fun done a wq hw h => ?_⟩, ?_⟩
          · have e53 := ch_new (i := 21) (t := 53) h (hw 21 (by decide)) rfl rfl; exact ch_pick_f e53 rfl
          refine ⟨.inl ⟨rfl, fun done a wq hw h => ?_⟩, ?_⟩
          · have e61 := ch_new (i := 29) (t := 61) h (hw 29 (by decide)) rfl rfl; exact ch_assign (ch_ev e61)
          exact trivial
        · intro w5 hb
          simp only [putAll_some, putAll_none, putAll_nil, List.setIfInBounds_toArray, List.set_cons_zero, List.set_cons_succ]
          obtain ⟨a0r, a0f, a0n, a0c, a0z, a0l⟩ := keep1 (g := W.heap.size) (cs := chkA c.from_ c.to_ c.n c.of_ D c.data.length d) hb a0r (by go_simp) a0f
          have hbx : Below w4.heap.size w4 w5 := hb
          have HB5 : Hid (Below W.heap.size W w5) := Lib.hid (HB4.out.trans (hbx.mono HB4.out.size))
          have HM5 := Lib.hid (HM4.out.stays hbx)
          clear hb hbx
          go_wp2_with fail
          refine (K4.out _ _ _ (HM5.out.stays (by repeat (first | exact Below.refl _ _ | refine Below.alloc ?_ (by first | omega | (simp <;> omega)) _))) (HX.out.stays (by have hs := HB5.out.size; repeat (first | exact HB5.out | refine Below.alloc ?_ (by first | omega | (simp <;> omega)) _)))).mono ?_
          rintro e w6 ⟨A6, c6, ds6, rfl, hg, hn, hb⟩
          obtain ⟨a0r, a0f, a0n, a0c, a0z, a0l⟩ := keep1 (g := W.heap.size) (cs := chkA c.from_ c.to_ c.n c.of_ D c.data.length d) hb (by first | (go_simp; done) | (go_simp; rfl)) (by go_simp) (by go_simp)
          have hbx : Below w5.heap.size w5 w6 := Below.trans (by repeat (first | exact Below.refl _ _ | refine Below.alloc ?_ (by first | omega | (simp <;> omega)) _)) (hb.mono (by first | omega | (simp <;> omega)))
          have HB6 : Hid (Below W.heap.size W w6) := Lib.hid (HB5.out.trans (hbx.mono HB5.out.size))
          have HM6 := Lib.hid (HM5.out.stays hbx)
          have hg6 := Lib.hid (hg.chs HBm.out)
          clear hg hn
          clear hb hbx 
          go_wp2_with fail
          refine (K5.out _ _ _ _ _ (HM6.out.stays (by repeat (first | exact Below.refl _ _ | refine Below.alloc ?_ (by first | omega | (simp <;> omega)) _))) (hg6.out.stays (by repeat (first | exact Below.refl _ _ | refine Below.alloc ?_ (by first | omega | (simp <;> omega)) _)))).mono ?_
          rintro e w7 ⟨rfl, hb⟩
          obtain ⟨a0r, a0f, a0n, a0c, a0z, a0l⟩ := keep1 (g := W.heap.size) (cs := chkA c.from_ c.to_ c.n c.of_ D c.data.length d) hb (by first | (go_simp; done) | (go_simp; rfl)) (by go_simp) (by go_simp)
          have hbx : Below w6.heap.size w6 w7 := Below.trans (by repeat (first | exact Below.refl _ _ | refine Below.alloc ?_ (by first | omega | (simp <;> omega)) _)) (hb.mono (by first | omega | (simp <;> omega)))
          have HB7 : Hid (Below W.heap.size W w7) := Lib.hid (HB6.out.trans (hbx.mono HB6.out.size))
          have HM7 := Lib.hid (HM6.out.stays hbx)
          have HN7 := Lib.hid (hg6.out.stays hbx)
          clear hb hbx 
          have HE := HO.out hs
          subst HE
          go_wp2_with fail
          refine (K5.out _ _ _ _ _ (HM7.out.stays (by repeat (first | exact Below.refl _ _ | refine Below.alloc ?_ (by first | omega | (simp <;> omega)) _))) (chs_one (blk_top rfl) (HX.out.stays (by have hs := HB7.out.size; repeat (first | exact HB7.out | refine Below.alloc ?_ (by first | omega | (simp <;> omega)) _))))).mono ?_
          rintro e w8 ⟨rfl, hb⟩
          obtain ⟨a0r, a0f, a0n, a0c, a0z, a0l⟩ := keep1 (g := W.heap.size) (cs := chkA c.from_ c.to_ c.n c.of_ D c.data.length d) hb (by first | (go_simp; done) | (go_simp; rfl)) (by go_simp) (by go_simp)
          have hbx : Below w7.heap.size w7 w8 := Below.trans (by repeat (first | exact Below.refl _ _ | refine Below.alloc ?_ (by first | omega | (simp <;> omega)) _)) (hb.mono (by first | omega | (simp <;> omega)))
          have HB8 : Hid (Below W.heap.size W w8) := Lib.hid (HB7.out.trans (hbx.mono HB7.out.size))
          have HM8 := Lib.hid (HM7.out.stays hbx)
          have HN8 := Lib.hid (HN7.out.stays hbx)
          clear hb hbx 
          go_wp2_with fail
          go_ret
          refine ⟨ret_bool (by simp), ?_⟩
          have hs := HB8.out.size
          repeat (first | exact HB8.out | refine Below.alloc ?_ (by first | omega | (simp <;> omega)) _)
      have q0 := Decidable.not_not.1 q0
      by_cases q1 : ¬ x.to_ = c.to_
      · have hs : ¬ ∃ x, l[0]? = some x ∧ kin x c := fun ⟨y, h1, h2⟩ => by
          rw [HX0.out] at h1; injection h1 with h1; subst h1; exact q1 h2.2.1
        refine wp_region_chain (by kernel_rfl) (some 32 :: some 33 :: some 34 :: some 35 :: some 36 :: some 37 :: some 38 :: some 39 :: some 40 :: some 41 :: some 42 :: some 43 :: some 44 :: some 45 :: some 46 :: some 47 :: some 48 :: some 49 :: some 50 :: some 51 :: some 52 :: some 53 :: some 54 :: some 55 :: some 56 :: some 57 :: some 58 :: some 59 :: some 60 :: some 61 :: some 7 :: []) (.slice (some ⟨b, o, none⟩) l.length cl :: iv (l.length : Int) :: .bool true :: .bool true :: .slice (some ⟨b, o, none⟩) l.length cl :: .pointer (some ⟨b, o, none⟩) :: .pointer (some ⟨b, o, none⟩) :: iv x.from_ :: .pointer (some ⟨W.heap.size, 0, none⟩) :: iv c.from_ :: .bool true :: .bool true :: .bool true :: .slice (some ⟨b, o, none⟩) l.length cl :: .pointer (some ⟨b, o, none⟩) :: .pointer (some ⟨b, o + 1, none⟩) :: iv x.to_ :: .pointer (some ⟨W.heap.size, 1, none⟩) :: iv c.to_ :: .bool false :: .bool false :: .bool false :: undef :: undef :: undef :: undef :: undef :: undef :: undef :: .bool false :: .bool false :: []) 99 rfl rfl (by decide +kernel) (by decide +kernel) (by decide +kernel) rfl ?_ ?_
        · refine ⟨.inl ⟨rfl, fun done a wq hw h => ?_⟩, ?_⟩
          · have e0 := ch_old (t := 0) (v := .slice (some ⟨b, o, none⟩) l.length cl) h rfl rfl; exact ch_move (ch_ev e0)
          refine ⟨.inl ⟨rfl, fun done a wq hw h => ?_⟩, ?_⟩
          · have e32 := ch_new (i := 0) (t := 32) h (hw 0 (by decide)) rfl rfl; refine ch_pure ?_; go_simp
          refine ⟨.inl ⟨rfl, fun done a wq hw h => ?_⟩, ?_⟩
          · have e33 := ch_new (i := 1) (t := 33) h (hw 1 (by decide)) rfl rfl; exact ch_gtr_int (by kernel_rfl) (ch_ev e33) rfl (by simp; omega)
          refine ⟨.inl ⟨rfl, fun done a wq hw h => ?_⟩, ?_⟩
          · have e34 := ch_new (i := 2) (t := 34) h (hw 2 (by decide)) rfl rfl; exact ch_move (ch_ev e34)
          refine ⟨.inl ⟨rfl, fun done a wq hw h => ?_⟩, ?_⟩
          · have e0 := ch_old (t := 0) (v := .slice (some ⟨b, o, none⟩) l.length cl) h rfl rfl; exact ch_move (ch_ev e0)
          refine ⟨.inl ⟨rfl, fun done a wq hw h => ?_⟩, ?_⟩
          · have e36 := ch_new (i := 4) (t := 36) h (hw 4 (by decide)) rfl rfl; refine ch_pure ?_; go_simp
          refine ⟨.inl ⟨rfl, fun done a wq hw h => ?_⟩, ?_⟩
          · have e37 := ch_new (i := 5) (t := 37) h (hw 5 (by decide)) rfl rfl; refine ch_pure ?_; go_simp
          refine ⟨.inl ⟨rfl, fun done a wq hw h => ?_⟩, ?_⟩
          · have e38 := ch_new (i := 6) (t := 38) h (hw 6 (by decide)) rfl rfl; have hc := (h.bel.cell (p := ⟨b, o, none⟩) (by simp; omega)).trans (show w4.cell? _ = some (iv x.from_) from x0); refine ch_pure ?_; go_simp
          refine ⟨.inl ⟨rfl, fun done a wq hw h => ?_⟩, ?_⟩
          · have e3 := ch_old (t := 3) (v := .pointer (some ⟨W.heap.size, 0, none⟩)) h rfl rfl; refine ch_pure ?_; go_simp
          refine ⟨.inl ⟨rfl, fun done a wq hw h => ?_⟩, ?_⟩
          · have e40 := ch_new (i := 8) (t := 40) h (hw 8 (by decide)) rfl rfl; obtain ⟨r_, f_, n_, c_, z_, l_⟩ := keep1 h.bel a0r (by go_simp) a0f; refine ch_pure ?_; go_simp
          refine ⟨.inl ⟨rfl, fun done a wq hw h => ?_⟩, ?_⟩
          · have e39 := ch_new (i := 7) (t := 39) h (hw 7 (by decide)) rfl rfl; have e41 := ch_new (i := 9) (t := 41) h (hw 9 (by decide)) rfl rfl; exact ch_eql_int (by kernel_rfl) (ch_ev e39) (ch_ev e41) (by simp [q0])
          refine ⟨.inl ⟨rfl, fun done a wq hw h => ?_⟩, ?_⟩
          · have e35 := ch_new (i := 3) (t := 35) h (hw 3 (by decide)) rfl rfl; have e42 := ch_new (i := 10) (t := 42) h (hw 10 (by decide)) rfl rfl; exact ch_pick_t e35 (ch_ev e42)
          refine ⟨.inl ⟨rfl, fun done a wq hw h => ?_⟩, ?_⟩
          · have e43 := ch_new (i := 11) (t := 43) h (hw 11 (by decide)) rfl rfl; exact ch_move (ch_ev e43)
          refine ⟨.inl ⟨rfl, fun done a wq hw h => ?_⟩, ?_⟩
          · have e0 := ch_old (t := 0) (v := .slice (some ⟨b, o, none⟩) l.length cl) h rfl rfl; exact ch_move (ch_ev e0)
          refine ⟨.inl ⟨rfl, fun done a wq hw h => ?_⟩, ?_⟩
          · have e45 := ch_new (i := 13) (t := 45) h (hw 13 (by decide)) rfl rfl; refine ch_pure ?_; go_simp
          refine ⟨.inl ⟨rfl, fun done a wq hw h => ?_⟩, ?_⟩
          · have e46 := ch_new (i := 14) (t := 46) h (hw 14 (by decide)) rfl rfl; refine ch_pure ?_; go_simp
          refine ⟨.inl ⟨rfl, fun done a wq hw h => ?_⟩, ?_⟩
          · have e47 := ch_new (i := 15) (t := 47) h (hw 15 (by decide)) rfl rfl; have hc := (h.bel.cell (p := ⟨b, o + 1, none⟩) (by simp; omega)).trans (show w4.cell? _ = some (iv x.to_) from x1); refine ch_pure ?_; go_simp
          refine ⟨.inl ⟨rfl, fun done a wq hw h => ?_⟩, ?_⟩
          · have e3 := ch_old (t := 3) (v := .pointer (some ⟨W.heap.size, 0, none⟩)) h rfl rfl; refine ch_pure ?_; go_simp
          refine ⟨.inl ⟨rfl, fun done a wq hw h => ?_⟩, ?_⟩
          · have e49 := ch_new (i := 17) (t := 49) h (hw 17 (by decide)) rfl rfl; obtain ⟨r_, f_, n_, c_, z_, l_⟩ := keep1 h.bel a0r (by go_simp) a0f; refine ch_pure ?_; go_simp
          refine ⟨.inl ⟨rfl, fun done a wq hw h => ?_⟩, ?_⟩
          · have e48 := ch_new (i := 16) (t := 48) h (hw 16 (by decide)) rfl rfl; have e50 := ch_new (i := 18) (t := 50) h (hw 18 (by decide)) rfl rfl; exact ch_eql_int (by kernel_rfl) (ch_ev e48) (ch_ev e50) (by simp [q1])
          refine ⟨.inl ⟨rfl, fun done a wq hw h => ?_⟩, ?_⟩
          · have e44 := ch_new (i := 12) (t := 44) h (hw 12 (by decide)) rfl rfl; have e51 := ch_new (i := 19) (t := 51) h (hw 19 (by decide)) rfl rfl; exact ch_pick_t e44 (ch_ev e51)
          refine ⟨.inl ⟨rfl, fun done a wq hw h => ?_⟩, ?_⟩
          · have e52 := ch_new (i := 20) (t := 52) h (hw 20 (by decide)) rfl rfl; exact ch_move (ch_ev e52)
          refine ⟨.inr ⟨rfl, rfl⟩, ?_⟩
          refine ⟨.inr ⟨rfl, rfl⟩, ?_⟩
          refine ⟨.inr ⟨rfl, rfl⟩, ?_⟩
          refine ⟨.inr ⟨rfl, rfl⟩, ?_⟩
          refine ⟨.inr ⟨rfl, rfl⟩, ?_⟩
          refine ⟨.inr ⟨rfl, rfl⟩, ?_⟩
          refine ⟨.inr ⟨rfl, rfl⟩, ?_⟩
          refine ⟨.inl ⟨rfl, fun done a wq hw h => ?_⟩, ?_⟩
          · have e53 := ch_new (i := 21) (t := 53) h (hw 21 (by decide)) rfl rfl; exact ch_pick_f e53 rfl
          refine ⟨.inl ⟨rfl, fun done a wq hw h => ?_⟩, ?_⟩
          · have e61 := ch_new (i := 29) (t := 61) h (hw 29 (by decide)) rfl rfl; exact ch_assign (ch_ev e61)
          exact trivial
        · intro w5 hb
          simp only [putAll_some, putAll_none, putAll_nil, List.setIfInBounds_toArray, List.set_cons_zero, List.set_cons_succ]
          obtain ⟨a0r, a0f, a0n, a0c, a0z, a0l⟩ := keep1 (g := W.heap.size) (cs := chkA c.from_ c.to_ c.n c.of_ D c.data.length d) hb a0r (by go_simp) a0f
          have hbx : Below w4.heap.size w4 w5 := hb
          have HB5 : Hid (Below W.heap.size W w5) := Lib.hid (HB4.out.trans (hbx.mono HB4.out.size))
          have HM5 := Lib.hid (HM4.out.stays hbx)
          clear hb hbx
          go_wp2_with fail
          refine (K4.out _ _ _ (HM5.out.stays (by repeat (first | exact Below.refl _ _ | refine Below.alloc ?_ (by first | omega | (simp <;> omega)) _))) (HX.out.stays (by have hs := HB5.out.size; repeat (first | exact HB5.out | refine Below.alloc ?_ (by first | omega | (simp <;> omega)) _)))).mono ?_
          rintro e w6 ⟨A6, c6, ds6, rfl, hg, hn, hb⟩
          obtain ⟨a0r, a0f, a0n, a0c, a0z, a0l⟩ := keep1 (g := W.heap.size) (cs := chkA c.from_ c.to_ c.n c.of_ D c.data.length d) hb (by first | (go_simp; done) | (go_simp; rfl)) (by go_simp) (by go_simp)
          have hbx : Below w5.heap.size w5 w6 := Below.trans (by repeat (first | exact Below.refl _ _ | refine Below.alloc ?_ (by first | omega | (simp <;> omega)) _)) (hb.mono (by first | omega | (simp <;> omega)))
          have HB6 : Hid (Below W.heap.size W w6) := Lib.hid (HB5.out.trans (hbx.mono HB5.out.size))
          have HM6 := Lib.hid (HM5.out.stays hbx)
          have hg6 := Lib.hid (hg.chs HBm.out)
          clear hg hn
          clear hb hbx 
          go_wp2_with fail
          refine (K5.out _ _ _ _ _ (HM6.out.stays (by repeat (first | exact Below.refl _ _ | refine Below.alloc ?_ (by first | omega | (simp <;> omega)) _))) (hg6.out.stays (by repeat (first | exact Below.refl _ _ | refine Below.alloc ?_ (by first | omega | (simp <;> omega)) _)))).mono ?_
          rintro e w7 ⟨rfl, hb⟩
          obtain ⟨a0r, a0f, a0n, a0c, a0z, a0l⟩ := keep1 (g := W.heap.size) (cs := chkA c.from_ c.to_ c.n c.of_ D c.data.length d) hb (by first | (go_simp; done) | (go_simp; rfl)) (by go_simp) (by go_simp)
          have hbx : Below w6.heap.size w6 w7 := Below.trans (by repeat (first | exact Below.refl _ _ | refine Below.alloc ?_ (by first | omega | (simp <;> omega)) _)) (hb.mono (by first | omega | (simp <;> omega)))
          have HB7 : Hid (Below W.heap.size W w7) := Lib.hid (HB6.out.trans (hbx.mono HB6.out.size))
          have HM7 := Lib.hid (HM6.out.stays hbx)
          have HN7 := Lib.hid (hg6.out.stays hbx)
          clear hb hbx 
          have HE := HO.out hs
          subst HE
          go_wp2_with fail
          refine (K5.out _ _ _ _ _ (HM7.out.stays (by repeat (first | exact Below.refl _ _ | refine Below.alloc ?_ (by first | omega | (simp <;> omega)) _))) (chs_one (blk_top rfl) (HX.out.stays (by have hs := HB7.out.size; repeat (first | exact HB7.out | refine Below.alloc ?_ (by first | omega | (simp <;> omega)) _))))).mono ?_
          rintro e w8 ⟨rfl, hb⟩
          obtain ⟨a0r, a0f, a0n, a0c, a0z, a0l⟩ := keep1 (g := W.heap.size) (cs := chkA c.from_ c.to_ c.n c.of_ D c.data.length d) hb (by first | (go_simp; done) | (go_simp; rfl)) (by go_simp) (by go_simp)
          have hbx : Below w7.heap.size w7 w8 := Below.trans (by repeat (first | exact Below.refl _ _ | refine Below.alloc ?_ (by first | omega | (simp <;> omega)) _)) (hb.mono (by first | omega | (simp <;> omega)))
          have HB8 : Hid (Below W.heap.size W w8) := Lib.hid (HB7.out.trans (hbx.mono HB7.out.size))
          have HM8 := Lib.hid (HM7.out.stays hbx)
          have HN8 := Lib.hid (HN7.out.stays hbx)
          clear hb hbx 
          go_wp2_with fail
          go_ret
          refine ⟨ret_bool (by simp), ?_⟩
          have hs := HB8.out.size
          repeat (first | exact HB8.out | refine Below.alloc ?_ (by first | omega | (simp <;> omega)) _)
      have q1 := Decidable.not_not.1 q1
      by_cases q2 : ¬ x.of_ = c.of_
      · have hs : ¬ ∃ x, l[0]? = some x ∧ kin x c := fun ⟨y, h1, h2⟩ => by
          rw [HX0.out] at h1; injection h1 with h1; subst h1; exact q2 h2.2.2
        refine wp_region_chain (by kernel_rfl) (some 32 :: some 33 :: some 34 :: some 35 :: some 36 :: some 37 :: some 38 :: some 39 :: some 40 :: some 41 :: some 42 :: some 43 :: some 44 :: some 45 :: some 46 :: some 47 :: some 48 :: some 49 :: some 50 :: some 51 :: some 52 :: some 53 :: some 54 :: some 55 :: some 56 :: some 57 :: some 58 :: some 59 :: some 60 :: some 61 :: some 7 :: []) (.slice (some ⟨b, o, none⟩) l.length cl :: iv (l.length : Int) :: .bool true :: .bool true :: .slice (some ⟨b, o, none⟩) l.length cl :: .pointer (some ⟨b, o, none⟩) :: .pointer (some ⟨b, o, none⟩) :: iv x.from_ :: .pointer (some ⟨W.heap.size, 0, none⟩) :: iv c.from_ :: .bool true :: .bool true :: .bool true :: .slice (some ⟨b, o, none⟩) l.length cl :: .pointer (some ⟨b, o, none⟩) :: .pointer (some ⟨b, o + 1, none⟩) :: iv x.to_ :: .pointer (some ⟨W.heap.size, 1, none⟩) :: iv c.to_ :: .bool true :: .bool true :: .bool true :: .slice (some ⟨b, o, none⟩) l.length cl :: .pointer (some ⟨b, o, none⟩) :: .pointer (some ⟨b, o + 3, none⟩) :: iv x.of_ :: .pointer (some ⟨W.heap.size, 3, none⟩) :: iv c.of_ :: .bool false :: .bool false :: .bool false :: []) 99 rfl rfl (by decide +kernel) (by decide +kernel) (by decide +kernel) rfl ?_ ?_
        · refine ⟨.inl ⟨rfl, fun done a wq hw h => ?_⟩, ?_⟩
          · have e0 := ch_old (t := 0) (v := .slice (some ⟨b, o, none⟩) l.length cl) h rfl rfl; exact ch_move (ch_ev e0)
          refine ⟨.inl ⟨rfl, fun done a wq hw h => ?_⟩, ?_⟩
          · have e32 := ch_new (i := 0) (t := 32) h (hw 0 (by decide)) rfl rfl; refine ch_pure ?_; go_simp
          refine ⟨.inl ⟨rfl, fun done a wq hw h => ?_⟩, ?_⟩
          · have e33 := ch_new (i := 1) (t := 33) h (hw 1 (by decide)) rfl rfl; exact ch_gtr_int (by kernel_rfl) (ch_ev e33) rfl (by simp; omega)
          refine ⟨.inl ⟨rfl, fun done a wq hw h => ?_⟩, ?_⟩
          · have e34 := ch_new (i := 2) (t := 34) h (hw 2 (by decide)) rfl rfl; exact ch_move (ch_ev e34)
          refine ⟨.inl ⟨rfl, fun done a wq hw h => ?_⟩, ?_⟩
          · have e0 := ch_old (t := 0) (v := .slice (some ⟨b, o, none⟩) l.length cl) h rfl rfl; exact ch_move (ch_ev e0)
          refine ⟨.inl ⟨rfl, fun done a wq hw h => ?_⟩, ?_⟩
          · have e36 := ch_new (i := 4) (t := 36) h (hw 4 (by decide)) rfl rfl; refine ch_pure ?_; go_simp
          refine ⟨.inl ⟨rfl, fun done a wq hw h => ?_⟩, ?_⟩
          · have e37 := ch_new (i := 5) (t := 37) h (hw 5 (by decide)) rfl rfl; refine ch_pure ?_; go_simp
          refine ⟨.inl ⟨rfl, fun done a wq hw h => ?_⟩, ?_⟩
          · have e38 := ch_new (i := 6) (t := 38) h (hw 6 (by decide)) rfl rfl; have hc := (h.bel.cell (p := ⟨b, o, none⟩) (by simp; omega)).trans (show w4.cell? _ = some (iv x.from_) from x0); refine ch_pure ?_; go_simp
          refine ⟨.inl ⟨rfl, fun done a wq hw h => ?_⟩, ?_⟩
          · have e3 := ch_old (t := 3) (v := .pointer (some ⟨W.heap.size, 0, none⟩)) h rfl rfl; refine ch_pure ?_; go_simp
          refine ⟨.inl ⟨rfl, fun done a wq hw h => ?_⟩, ?_⟩
          · have e40 := ch_new (i := 8) (t := 40) h (hw 8 (by decide)) rfl rfl; obtain ⟨r_, f_, n_, c_, z_, l_⟩ := keep1 h.bel a0r (by go_simp) a0f; refine ch_pure ?_; go_simp
          refine ⟨.inl ⟨rfl, fun done a wq hw h => ?_⟩, ?_⟩
          · have e39 := ch_new (i := 7) (t := 39) h (hw 7 (by decide)) rfl rfl; have e41 := ch_new (i := 9) (t := 41) h (hw 9 (by decide)) rfl rfl; exact ch_eql_int (by kernel_rfl) (ch_ev e39) (ch_ev e41) (by simp [q0])
          refine ⟨.inl ⟨rfl, fun done a wq hw h => ?_⟩, ?_⟩
          · have e35 := ch_new (i := 3) (t := 35) h (hw 3 (by decide)) rfl rfl; have e42 := ch_new (i := 10) (t := 42) h (hw 10 (by decide)) rfl rfl; exact ch_pick_t e35 (ch_ev e42)
          refine ⟨.inl ⟨rfl, fun done a wq hw h => ?_⟩, ?_⟩
          · have e43 := ch_new (i := 11) (t := 43) h (hw 11 (by decide)) rfl rfl; exact ch_move (ch_ev e43)
          refine ⟨.inl ⟨rfl, fun done a wq hw h => ?_⟩, ?_⟩
          · have e0 := ch_old (t := 0) (v := .slice (some ⟨b, o, none⟩) l.length cl) h rfl rfl; exact ch_move (ch_ev e0)
          refine ⟨.inl ⟨rfl, fun done a wq hw h => ?_⟩, ?_⟩
          · have e45 := ch_new (i := 13) (t := 45) h (hw 13 (by decide)) rfl rfl; refine ch_pure ?_; go_simp
          refine ⟨.inl ⟨rfl, fun done a wq hw h => ?_⟩, ?_⟩
          · have e46 := ch_new (i := 14) (t := 46) h (hw 14 (by decide)) rfl rfl; refine ch_pure ?_; go_simp
          refine ⟨.inl ⟨rfl, fun done a wq hw h => ?_⟩, ?_⟩
          · have e47 := ch_new (i := 15) (t := 47) h (hw 15 (by decide)) rfl rfl; have hc := (h.bel.cell (p := ⟨b, o + 1, none⟩) (by simp; omega)).trans (show w4.cell? _ = some (iv x.to_) from x1); refine ch_pure ?_; go_simp
          refine ⟨.inl ⟨rfl, fun done a wq hw h => ?_⟩, ?_⟩
          · have e3 := ch_old (t := 3) (v := .pointer (some ⟨W.heap.size, 0, none⟩)) h rfl rfl; refine ch_pure ?_; go_simp
          refine ⟨.inl ⟨rfl, fun done a wq hw h => ?_⟩, ?_⟩
          · have e49 := ch_new (i := 17) (t := 49) h (hw 17 (by decide)) rfl rfl; obtain ⟨r_, f_, n_, c_, z_, l_⟩ := keep1 h.bel a0r (by go_simp) a0f; refine ch_pure ?_; go_simp
          refine ⟨.inl ⟨rfl, fun done a wq hw h => ?_⟩, ?_⟩
          · have e48 := ch_new (i := 16) (t := 48) h (hw 16 (by decide)) rfl rfl; have e50 := ch_new (i := 18) (t := 50) h (hw 18 (by decide)) rfl rfl; exact ch_eql_int (by kernel_rfl) (ch_ev e48) (ch_ev e50) (by simp [q1])
          refine ⟨.inl ⟨rfl, fun done a wq hw h => ?_⟩, ?_⟩
          · have e44 := ch_new (i := 12) (t := 44) h (hw 12 (by decide)) rfl rfl; have e51 := ch_new (i := 19) (t := 51) h (hw 19 (by decide)) rfl rfl; exact ch_pick_t e44 (ch_ev e51)
          refine ⟨.inl ⟨rfl, fun done a wq hw h => ?_⟩, ?_⟩
          · have e52 := ch_new (i := 20) (t := 52) h (hw 20 (by decide)) rfl rfl; exact ch_move (ch_ev e52)
          refine ⟨.inl ⟨rfl, fun done a wq hw h => ?_⟩, ?_⟩
          · have e0 := ch_old (t := 0) (v := .slice (some ⟨b, o, none⟩) l.length cl) h rfl rfl; exact ch_move (ch_ev e0)
          refine ⟨.inl ⟨rfl, fun done a wq hw h => ?_⟩, ?_⟩
          · have e54 := ch_new (i := 22) (t := 54) h (hw 22 (by decide)) rfl rfl; refine ch_pure ?_; go_simp
          refine ⟨.inl ⟨rfl, fun done a wq hw h => ?_⟩, ?_⟩
          · have e55 := ch_new (i := 23) (t := 55) h (hw 23 (by decide)) rfl rfl; refine ch_pure ?_; go_simp
          refine ⟨.inl ⟨rfl, fun done a wq hw h => ?_⟩, ?_⟩
          · have e56 := ch_new (i := 24) (t := 56) h (hw 24 (by decide)) rfl rfl; have hc := (h.bel.cell (p := ⟨b, o + 3, none⟩) (by simp; omega)).trans (show w4.cell? _ = some (iv x.of_) from x3); refine ch_pure ?_; go_simp
          refine ⟨.inl ⟨rfl, fun done a wq hw h => ?_⟩, ?_⟩
          · have e3 := ch_old (t := 3) (v := .pointer (some ⟨W.heap.size, 0, none⟩)) h rfl rfl; refine ch_pure ?_; go_simp
          refine ⟨.inl ⟨rfl, fun done a wq hw h => ?_⟩, ?_⟩
          · have e58 := ch_new (i := 26) (t := 58) h (hw 26 (by decide)) rfl rfl; obtain ⟨r_, f_, n_, c_, z_, l_⟩ := keep1 h.bel a0r (by go_simp) a0f; refine ch_pure ?_; go_simp
          refine ⟨.inl ⟨rfl, fun done a wq hw h => ?_⟩, ?_⟩
          · have e57 := ch_new (i := 25) (t := 57) h (hw 25 (by decide)) rfl rfl; have e59 := ch_new (i := 27) (t := 59) h (hw 27 (by decide)) rfl rfl; exact ch_eql_int (by kernel_rfl) (ch_ev e57) (ch_ev e59) (by simp [q2])
          refine ⟨.inl ⟨rfl, fun done a wq hw h => ?_⟩, ?_⟩
          · have e53 := ch_new (i := 21) (t := 53) h (hw 21 (by decide)) rfl rfl; have e60 := ch_new (i := 28) (t := 60) h (hw 28 (by decide)) rfl rfl; exact ch_pick_t e53 (ch_ev e60)
          refine ⟨.inl ⟨rfl, fun done a wq hw h => ?_⟩, ?_⟩
          · have e61 := ch_new (i := 29) (t := 61) h (hw 29 (by decide)) rfl rfl; exact ch_assign (ch_ev e61)
          exact trivial
        · intro w5 hb
          simp only [putAll_some, putAll_none, putAll_nil, List.setIfInBounds_toArray, List.set_cons_zero, List.set_cons_succ]
          obtain ⟨a0r, a0f, a0n, a0c, a0z, a0l⟩ := keep1 (g := W.heap.size) (cs := chkA c.from_ c.to_ c.n c.of_ D c.data.length d) hb a0r (by go_simp) a0f
          have hbx : Below w4.heap.size w4 w5 := hb
          have HB5 : Hid (Below W.heap.size W w5) := Lib.hid (HB4.out.trans (hbx.mono HB4.out.size))
          have HM5 := Lib.hid (HM4.out.stays hbx)
          clear hb hbx
          go_wp2_with fail
          refine (K4.out _ _ _ (HM5.out.stays (by repeat (first | exact Below.refl _ _ | refine Below.alloc ?_ (by first | omega | (simp <;> omega)) _))) (HX.out.stays (by have hs := HB5.out.size; repeat (first | exact HB5.out | refine Below.alloc ?_ (by first | omega | (simp <;> omega)) _)))).mono ?_
          rintro e w6 ⟨A6, c6, ds6, rfl, hg, hn, hb⟩
          obtain ⟨a0r, a0f, a0n, a0c, a0z, a0l⟩ := keep1 (g := W.heap.size) (cs := chkA c.from_ c.to_ c.n c.of_ D c.data.length d) hb (by first | (go_simp; done) | (go_simp; rfl)) (by go_simp) (by go_simp)
          have hbx : Below w5.heap.size w5 w6 := Below.trans (by repeat (first | exact Below.refl _ _ | refine Below.alloc ?_ (by first | omega | (simp <;> omega)) _)) (hb.mono (by first | omega | (simp <;> omega)))
          have HB6 : Hid (Below W.heap.size W w6) := Lib.hid (HB5.out.trans (hbx.mono HB5.out.size))
          have HM6 := Lib.hid (HM5.out.stays hbx)
          have hg6 := Lib.hid (hg.chs HBm.out)
          clear hg hn
          clear hb hbx 
          go_wp2_with fail
          refine (K5.out _ _ _ _ _ (HM6.out.stays (by repeat (first | exact Below.refl _ _ | refine Below.alloc ?_ (by first | omega | (simp <;> omega)) _))) (hg6.out.stays (by repeat (first | exact Below.refl _ _ | refine Below.alloc ?_ (by first | omega | (simp <;> omega)) _)))).mono ?_
          rintro e w7 ⟨rfl, hb⟩
          obtain ⟨a0r, a0f, a0n, a0c, a0z, a0l⟩ := keep1 (g := W.heap.size) (cs := chkA c.from_ c.to_ c.n c.of_ D c.data.length d) hb (by first | (go_simp; done) | (go_simp; rfl)) (by go_simp) (by go_simp)
          have hbx : Below w6.heap.size w6 w7 := Below.trans (by repeat (first | exact Below.refl _ _ | refine Below.alloc ?_ (by first | omega | (simp <;> omega)) _)) (hb.mono (by first | omega | (simp <;> omega)))
          have HB7 : Hid (Below W.heap.size W w7) := Lib.hid (HB6.out.trans (hbx.mono HB6.out.size))
          have HM7 := Lib.hid (HM6.out.stays hbx)
          have HN7 := Lib.hid (hg6.out.stays hbx)
          clear hb hbx 
          have HE := HO.out hs
          subst HE
          go_wp2_with fail
          refine (K5.out _ _ _ _ _ (HM7.out.stays (by repeat (first | exact Below.refl _ _ | refine Below.alloc ?_ (by first | omega | (simp <;> omega)) _))) (chs_one (blk_top rfl) (HX.out.stays (by have hs := HB7.out.size; repeat (first | exact HB7.out | refine Below.alloc ?_ (by first | omega | (simp <;> omega)) _))))).mono ?_
          rintro e w8 ⟨rfl, hb⟩
          obtain ⟨a0r, a0f, a0n, a0c, a0z, a0l⟩ := keep1 (g := W.heap.size) (cs := chkA c.from_ c.to_ c.n c.of_ D c.data.length d) hb (by first | (go_simp; done) | (go_simp; rfl)) (by go_simp) (by go_simp)
          have hbx : Below w7.heap.size w7 w8 := Below.trans (by repeat (first | exact Below.refl _ _ | refine Below.alloc ?_ (by first | omega | (simp <;> omega)) _)) (hb.mono (by first | omega | (simp <;> omega)))
          have HB8 : Hid (Below W.heap.size W w8) := Lib.hid (HB7.out.trans (hbx.mono HB7.out.size))
          have HM8 := Lib.hid (HM7.out.stays hbx)
          have HN8 := Lib.hid (HN7.out.stays hbx)
          clear hb hbx 
          go_wp2_with fail
          go_ret
          refine ⟨ret_bool (by simp), ?_⟩
          have hs := HB8.out.size
          repeat (first | exact HB8.out | refine Below.alloc ?_ (by first | omega | (simp <;> omega)) _)
      have q2 := Decidable.not_not.1 q2
      have hs : ∃ x, l[0]? = some x ∧ kin x c := ⟨x, HX0.out, q0, q1, q2⟩
      refine wp_region_chain (by kernel_rfl) (some 32 :: some 33 :: some 34 :: some 35 :: some 36 :: some 37 :: some 38 :: some 39 :: some 40 :: some 41 :: some 42 :: some 43 :: some 44 :: some 45 :: some 46 :: some 47 :: some 48 :: some 49 :: some 50 :: some 51 :: some 52 :: some 53 :: some 54 :: some 55 :: some 56 :: some 57 :: some 58 :: some 59 :: some 60 :: some 61 :: some 7 :: []) (.slice (some ⟨b, o, none⟩) l.length cl :: iv (l.length : Int) :: .bool true :: .bool true :: .slice (some ⟨b, o, none⟩) l.length cl :: .pointer (some ⟨b, o, none⟩) :: .pointer (some ⟨b, o, none⟩) :: iv x.from_ :: .pointer (some ⟨W.heap.size, 0, none⟩) :: iv c.from_ :: .bool true :: .bool true :: .bool true :: .slice (some ⟨b, o, none⟩) l.length cl :: .pointer (some ⟨b, o, none⟩) :: .pointer (some ⟨b, o + 1, none⟩) :: iv x.to_ :: .pointer (some ⟨W.heap.size, 1, none⟩) :: iv c.to_ :: .bool true :: .bool true :: .bool true :: .slice (some ⟨b, o, none⟩) l.length cl :: .pointer (some ⟨b, o, none⟩) :: .pointer (some ⟨b, o + 3, none⟩) :: iv x.of_ :: .pointer (some ⟨W.heap.size, 3, none⟩) :: iv c.of_ :: .bool true :: .bool true :: .bool true :: []) 99 rfl rfl (by decide +kernel) (by decide +kernel) (by decide +kernel) rfl ?_ ?_
      · refine ⟨.inl ⟨rfl, fun done a wq hw h => ?_⟩, ?_⟩
        · have e0 := ch_old (t := 0) (v := .slice (some ⟨b, o, none⟩) l.length cl) h rfl rfl; exact ch_move (ch_ev e0)
        refine ⟨.inl ⟨rfl, fun done a wq hw h => ?_⟩, ?_⟩
        · have e32 := ch_new (i := 0) (t := 32) h (hw 0 (by decide)) rfl rfl; refine ch_pure ?_; go_simp
        refine ⟨.inl ⟨rfl, fun done a wq hw h => ?_⟩, ?_⟩
        · have e33 := ch_new (i := 1) (t := 33) h (hw 1 (by decide)) rfl rfl; exact ch_gtr_int (by kernel_rfl) (ch_ev e33) rfl (by simp; omega)
        refine ⟨.inl ⟨rfl, fun done a wq hw h => ?_⟩, ?_⟩
        · have e34 := ch_new (i := 2) (t := 34) h (hw 2 (by decide)) rfl rfl; exact ch_move (ch_ev e34)
        refine ⟨.inl ⟨rfl, fun done a wq hw h => ?_⟩, ?_⟩
        · have e0 := ch_old (t := 0) (v := .slice (some ⟨b, o, none⟩) l.length cl) h rfl rfl; exact ch_move (ch_ev e0)
        refine ⟨.inl ⟨rfl, fun done a wq hw h => ?_⟩, ?_⟩
        · have e36 := ch_new (i := 4) (t := 36) h (hw 4 (by decide)) rfl rfl; refine ch_pure ?_; go_simp
        refine ⟨.inl ⟨rfl, fun done a wq hw h => ?_⟩, ?_⟩
        · have e37 := ch_new (i := 5) (t := 37) h (hw 5 (by decide)) rfl rfl; refine ch_pure ?_; go_simp
        refine ⟨.inl ⟨rfl, fun done a wq hw h => ?_⟩, ?_⟩
        · have e38 := ch_new (i := 6) (t := 38) h (hw 6 (by decide)) rfl rfl; have hc := (h.bel.cell (p := ⟨b, o, none⟩) (by simp; omega)).trans (show w4.cell? _ = some (iv x.from_) from x0); refine ch_pure ?_; go_simp
        refine ⟨.inl ⟨rfl, fun done a wq hw h => ?_⟩, ?_⟩
        · have e3 := ch_old (t := 3) (v := .pointer (some ⟨W.heap.size, 0, none⟩)) h rfl rfl; refine ch_pure ?_; go_simp
        refine ⟨.inl ⟨rfl, fun done a wq hw h => ?_⟩, ?_⟩
        · have e40 := ch_new (i := 8) (t := 40) h (hw 8 (by decide)) rfl rfl; obtain ⟨r_, f_, n_, c_, z_, l_⟩ := keep1 h.bel a0r (by go_simp) a0f; refine ch_pure ?_; go_simp
        refine ⟨.inl ⟨rfl, fun done a wq hw h => ?_⟩, ?_⟩
        · have e39 := ch_new (i := 7) (t := 39) h (hw 7 (by decide)) rfl rfl; have e41 := ch_new (i := 9) (t := 41) h (hw 9 (by decide)) rfl rfl; exact ch_eql_int (by kernel_rfl) (ch_ev e39) (ch_ev e41) (by simp [q0])
        refine ⟨.inl ⟨rfl, fun done a wq hw h => ?_⟩, ?_⟩
        · have e35 := ch_new (i := 3) (t := 35) h (hw 3 (by decide)) rfl rfl; have e42 := ch_new (i := 10) (t := 42) h (hw 10 (by decide)) rfl rfl; exact ch_pick_t e35 (ch_ev e42)
        refine ⟨.inl ⟨rfl, fun done a wq hw h => ?_⟩, ?_⟩
        · have e43 := ch_new (i := 11) (t := 43) h (hw 11 (by decide)) rfl rfl; exact ch_move (ch_ev e43)
        refine ⟨.inl ⟨rfl, fun done a wq hw h => ?_⟩, ?_⟩
        · have e0 := ch_old (t := 0) (v := .slice (some ⟨b, o, none⟩) l.length cl) h rfl rfl; exact ch_move (ch_ev e0)
        refine ⟨.inl ⟨rfl, fun done a wq hw h => ?_⟩, ?_⟩
        · have e45 := ch_new (i := 13) (t := 45) h (hw 13 (by decide)) rfl rfl; refine ch_pure ?_; go_simp
        refine ⟨.inl ⟨rfl, fun done a wq hw h => ?_⟩, ?_⟩
        · have e46 := ch_new (i := 14) (t := 46) h (hw 14 (by decide)) rfl rfl; refine ch_pure ?_; go_simp
        refine ⟨.inl ⟨rfl, fun done a wq hw h => ?_⟩, ?_⟩
        · have e47 := ch_new (i := 15) (t := 47) h (hw 15 (by decide)) rfl rfl; have hc := (h.bel.cell (p := ⟨b, o + 1, none⟩) (by simp; omega)).trans (show w4.cell? _ = some (iv x.to_) from x1); refine ch_pure ?_; go_simp
        refine ⟨.inl ⟨rfl, fun done a wq hw h => ?_⟩, ?_⟩
        · have e3 := ch_old (t := 3) (v := .pointer (some ⟨W.heap.size, 0, none⟩)) h rfl rfl; refine ch_pure ?_; go_simp
        refine ⟨.inl ⟨rfl, fun done a wq hw h => ?_⟩, ?_⟩
        · have e49 := ch_new (i := 17) (t := 49) h (hw 17 (by decide)) rfl rfl; obtain ⟨r_, f_, n_, c_, z_, l_⟩ := keep1 h.bel a0r (by go_simp) a0f; refine ch_pure ?_; go_simp
        refine ⟨.inl ⟨rfl, fun done a wq hw h => ?_⟩, ?_⟩
        · have e48 := ch_new (i := 16) (t := 48) h (hw 16 (by decide)) rfl rfl; have e50 := ch_new (i := 18) (t := 50) h (hw 18 (by decide)) rfl rfl; exact ch_eql_int (by kernel_rfl) (ch_ev e48) (ch_ev e50) (by simp [q1])
        refine ⟨.inl ⟨rfl, fun done a wq hw h => ?_⟩, ?_⟩
        · have e44 := ch_new (i := 12) (t := 44) h (hw 12 (by decide)) rfl rfl; have e51 := ch_new (i := 19) (t := 51) h (hw 19 (by decide)) rfl rfl; exact ch_pick_t e44 (ch_ev e51)
        refine ⟨.inl ⟨rfl, fun done a wq hw h => ?_⟩, ?_⟩
        · have e52 := ch_new (i := 20) (t := 52) h (hw 20 (by decide)) rfl rfl; exact ch_move (ch_ev e52)
        refine ⟨.inl ⟨rfl, fun done a wq hw h => ?_⟩, ?_⟩
        · have e0 := ch_old (t := 0) (v := .slice (some ⟨b, o, none⟩) l.length cl) h rfl rfl; exact ch_move (ch_ev e0)
        refine ⟨.inl ⟨rfl, fun done a wq hw h => ?_⟩, ?_⟩
        · have e54 := ch_new (i := 22) (t := 54) h (hw 22 (by decide)) rfl rfl; refine ch_pure ?_; go_simp
        refine ⟨.inl ⟨rfl, fun done a wq hw h => ?_⟩, ?_⟩
        · have e55 := ch_new (i := 23) (t := 55) h (hw 23 (by decide)) rfl rfl; refine ch_pure ?_; go_simp
        refine ⟨.inl ⟨rfl, fun done a wq hw h => ?_⟩, ?_⟩
        · have e56 := ch_new (i := 24) (t := 56) h (hw 24 (by decide)) rfl rfl; have hc := (h.bel.cell (p := ⟨b, o + 3, none⟩) (by simp; omega)).trans (show w4.cell? _ = some (iv x.of_) from x3); refine ch_pure ?_; go_simp
        refine ⟨.inl ⟨rfl, fun done a wq hw h => ?_⟩, ?_⟩
        · have e3 := ch_old (t := 3) (v := .pointer (some ⟨W.heap.size, 0, none⟩)) h rfl rfl; refine ch_pure ?_; go_simp
        refine ⟨.inl ⟨rfl, fun done a wq hw h => ?_⟩, ?_⟩
        · have e58 := ch_new (i := 26) (t := 58) h (hw 26 (by decide)) rfl rfl; obtain ⟨r_, f_, n_, c_, z_, l_⟩ := keep1 h.bel a0r (by go_simp) a0f; refine ch_pure ?_; go_simp
        refine ⟨.inl ⟨rfl, fun done a wq hw h => ?_⟩, ?_⟩
        · have e57 := ch_new (i := 25) (t := 57) h (hw 25 (by decide)) rfl rfl; have e59 := ch_new (i := 27) (t := 59) h (hw 27 (by decide)) rfl rfl; exact ch_eql_int (by kernel_rfl) (ch_ev e57) (ch_ev e59) (by simp [q2])
        refine ⟨.inl ⟨rfl, fun done a wq hw h => ?_⟩, ?_⟩
        · have e53 := ch_new (i := 21) (t := 53) h (hw 21 (by decide)) rfl rfl; have e60 := ch_new (i := 28) (t := 60) h (hw 28 (by decide)) rfl rfl; exact ch_pick_t e53 (ch_ev e60)
        refine ⟨.inl ⟨rfl, fun done a wq hw h => ?_⟩, ?_⟩
        · have e61 := ch_new (i := 29) (t := 61) h (hw 29 (by decide)) rfl rfl; exact ch_assign (ch_ev e61)
        exact trivial
      · intro w5 hb
        simp only [putAll_some, putAll_none, putAll_nil, List.setIfInBounds_toArray, List.set_cons_zero, List.set_cons_succ]
        obtain ⟨a0r, a0f, a0n, a0c, a0z, a0l⟩ := keep1 (g := W.heap.size) (cs := chkA c.from_ c.to_ c.n c.of_ D c.data.length d) hb a0r (by go_simp) a0f
        have hbx : Below w4.heap.size w4 w5 := hb
        have HB5 : Hid (Below W.heap.size W w5) := Lib.hid (HB4.out.trans (hbx.mono HB4.out.size))
        have HM5 := Lib.hid (HM4.out.stays hbx)
        clear hb hbx
        obtain ⟨hv, hh⟩ : ∃ hv, l.any (fun x => sameN x c) = hv := ⟨_, rfl⟩
        rw [hh] at HK7
        go_wp2_with fail
        refine (HK7.out _ _ (HL.out.stays (by have hs := HB5.out.size; repeat (first | exact HB5.out | refine Below.alloc ?_ (by first | omega | (simp <;> omega)) _))) a0l (row_at a0c)).mono ?_
        rintro e w6 ⟨rfl, hb⟩
        obtain ⟨a0r, a0f, a0n, a0c, a0z, a0l⟩ := keep1 (g := W.heap.size) (cs := chkA c.from_ c.to_ c.n c.of_ D c.data.length d) hb (by first | (go_simp; done) | (go_simp; rfl)) (by go_simp) (by go_simp)
        have hbx : Below w5.heap.size w5 w6 := Below.trans (by repeat (first | exact Below.refl _ _ | refine Below.alloc ?_ (by first | omega | (simp <;> omega)) _)) (hb.mono (by first | omega | (simp <;> omega)))
        have HB6 : Hid (Below W.heap.size W w6) := Lib.hid (HB5.out.trans (hbx.mono HB5.out.size))
        have HM6 := Lib.hid (HM5.out.stays hbx)
        clear hb hbx 
        cases hv
        · go_wp2_with fail
          refine (K4.out _ _ _ (HM6.out.stays (by repeat (first | exact Below.refl _ _ | refine Below.alloc ?_ (by first | omega | (simp <;> omega)) _))) (HX.out.stays (by have hs := HB6.out.size; repeat (first | exact HB6.out | refine Below.alloc ?_ (by first | omega | (simp <;> omega)) _)))).mono ?_
          rintro e w7 ⟨A6, c6, ds6, rfl, hg, hn, hb⟩
          obtain ⟨a0r, a0f, a0n, a0c, a0z, a0l⟩ := keep1 (g := W.heap.size) (cs := chkA c.from_ c.to_ c.n c.of_ D c.data.length d) hb (by first | (go_simp; done) | (go_simp; rfl)) (by go_simp) (by go_simp)
          have hbx : Below w6.heap.size w6 w7 := Below.trans (by repeat (first | exact Below.refl _ _ | refine Below.alloc ?_ (by first | omega | (simp <;> omega)) _)) (hb.mono (by first | omega | (simp <;> omega)))
          have HB7 : Hid (Below W.heap.size W w7) := Lib.hid (HB6.out.trans (hbx.mono HB6.out.size))
          have HM7 := Lib.hid (HM6.out.stays hbx)
          have hg6 := Lib.hid (hg.chs HBm.out)
          clear hg hn
          clear hb hbx 
          go_wp2_with fail
          refine (K5.out _ _ _ _ _ (HM7.out.stays (by repeat (first | exact Below.refl _ _ | refine Below.alloc ?_ (by first | omega | (simp <;> omega)) _))) (hg6.out.stays (by repeat (first | exact Below.refl _ _ | refine Below.alloc ?_ (by first | omega | (simp <;> omega)) _)))).mono ?_
          rintro e w8 ⟨rfl, hb⟩
          obtain ⟨a0r, a0f, a0n, a0c, a0z, a0l⟩ := keep1 (g := W.heap.size) (cs := chkA c.from_ c.to_ c.n c.of_ D c.data.length d) hb (by first | (go_simp; done) | (go_simp; rfl)) (by go_simp) (by go_simp)
          have hbx : Below w7.heap.size w7 w8 := Below.trans (by repeat (first | exact Below.refl _ _ | refine Below.alloc ?_ (by first | omega | (simp <;> omega)) _)) (hb.mono (by first | omega | (simp <;> omega)))
          have HB8 : Hid (Below W.heap.size W w8) := Lib.hid (HB7.out.trans (hbx.mono HB7.out.size))
          have HM8 := Lib.hid (HM7.out.stays hbx)
          have HN8 := Lib.hid (hg6.out.stays hbx)
          clear hb hbx 
          have HE := HN.out hs hh
          have qq : ((m.length : Int) == (l.length : Int) + 1) = true := by simp [HE]
          go_wp2_with fail
          go_ret
          refine ⟨ret_bool (by simp), ?_⟩
          have hs := HB8.out.size
          repeat (first | exact HB8.out | refine Below.alloc ?_ (by first | omega | (simp <;> omega)) _)
        · go_wp2_with fail
          refine (K4.out _ _ _ (HM6.out.stays (by repeat (first | exact Below.refl _ _ | refine Below.alloc ?_ (by first | omega | (simp <;> omega)) _))) (HX.out.stays (by have hs := HB6.out.size; repeat (first | exact HB6.out | refine Below.alloc ?_ (by first | omega | (simp <;> omega)) _)))).mono ?_
          rintro e w7 ⟨A6, c6, ds6, rfl, hg, hn, hb⟩
          obtain ⟨a0r, a0f, a0n, a0c, a0z, a0l⟩ := keep1 (g := W.heap.size) (cs := chkA c.from_ c.to_ c.n c.of_ D c.data.length d) hb (by first | (go_simp; done) | (go_simp; rfl)) (by go_simp) (by go_simp)
          have hbx : Below w6.heap.size w6 w7 := Below.trans (by repeat (first | exact Below.refl _ _ | refine Below.alloc ?_ (by first | omega | (simp <;> omega)) _)) (hb.mono (by first | omega | (simp <;> omega)))
          have HB7 : Hid (Below W.heap.size W w7) := Lib.hid (HB6.out.trans (hbx.mono HB6.out.size))
          have HM7 := Lib.hid (HM6.out.stays hbx)
          have hg6 := Lib.hid (hg.chs HBm.out)
          clear hg hn
          clear hb hbx 
          go_wp2_with fail
          refine (K5.out _ _ _ _ _ (HM7.out.stays (by repeat (first | exact Below.refl _ _ | refine Below.alloc ?_ (by first | omega | (simp <;> omega)) _))) (hg6.out.stays (by repeat (first | exact Below.refl _ _ | refine Below.alloc ?_ (by first | omega | (simp <;> omega)) _)))).mono ?_
          rintro e w8 ⟨rfl, hb⟩
          obtain ⟨a0r, a0f, a0n, a0c, a0z, a0l⟩ := keep1 (g := W.heap.size) (cs := chkA c.from_ c.to_ c.n c.of_ D c.data.length d) hb (by first | (go_simp; done) | (go_simp; rfl)) (by go_simp) (by go_simp)
          have hbx : Below w7.heap.size w7 w8 := Below.trans (by repeat (first | exact Below.refl _ _ | refine Below.alloc ?_ (by first | omega | (simp <;> omega)) _)) (hb.mono (by first | omega | (simp <;> omega)))
          have HB8 : Hid (Below W.heap.size W w8) := Lib.hid (HB7.out.trans (hbx.mono HB7.out.size))
          have HM8 := Lib.hid (HM7.out.stays hbx)
          have HN8 := Lib.hid (hg6.out.stays hbx)
          clear hb hbx 
          have HE := HT.out hs hh
          subst HE
          go_wp2_with fail
          refine (K5.out _ _ _ _ _ (HM8.out.stays (by repeat (first | exact Below.refl _ _ | refine Below.alloc ?_ (by first | omega | (simp <;> omega)) _))) (HL.out.stays (by have hs := HB8.out.size; repeat (first | exact HB8.out | refine Below.alloc ?_ (by first | omega | (simp <;> omega)) _)))).mono ?_
          rintro e w9 ⟨rfl, hb⟩
          obtain ⟨a0r, a0f, a0n, a0c, a0z, a0l⟩ := keep1 (g := W.heap.size) (cs := chkA c.from_ c.to_ c.n c.of_ D c.data.length d) hb (by first | (go_simp; done) | (go_simp; rfl)) (by go_simp) (by go_simp)
          have hbx : Below w8.heap.size w8 w9 := Below.trans (by repeat (first | exact Below.refl _ _ | refine Below.alloc ?_ (by first | omega | (simp <;> omega)) _)) (hb.mono (by first | omega | (simp <;> omega)))
          have HB9 : Hid (Below W.heap.size W w9) := Lib.hid (HB8.out.trans (hbx.mono HB8.out.size))
          have HM9 := Lib.hid (HM8.out.stays hbx)
          have HN9 := Lib.hid (HN8.out.stays hbx)
          clear hb hbx 
          go_wp2_with fail
          go_ret
          refine ⟨ret_bool (by simp), ?_⟩
          have hs := HB9.out.size
          repeat (first | exact HB9.out | refine Below.alloc ?_ (by first | omega | (simp <;> omega)) _)
  · have hne : (e != 0) = true := by simp [he]
    clear he
    go_enter Try.func6, Try.ntmps6
    go_wp2_with fail
    refine (K1.out _ (HL.out.stays (by repeat (first | exact Below.refl _ _ | refine Below.alloc ?_ (by first | omega | (simp <;> omega)) _))) (HX.out.stays (by repeat (first | exact Below.refl _ _ | refine Below.alloc ?_ (by first | omega | (simp <;> omega)) _)))).mono ?_
    rintro e w1 ⟨A1, c1, ds1, rfl, hg, hn, hb⟩
    obtain ⟨a0r, a0f, a0n, a0c, a0z, a0l⟩ := keep1 (g := W.heap.size) (cs := chkA c.from_ c.to_ c.n c.of_ D c.data.length d) hb (by first | (go_simp; done) | (go_simp; rfl)) (by go_simp) (by go_simp)
    have hbx : Below W.heap.size W w1 := Below.trans (by repeat (first | exact Below.refl _ _ | refine Below.alloc ?_ (by first | omega | (simp <;> omega)) _)) (hb.mono (by first | omega | (simp <;> omega)))
    have HB1 : Hid (Below W.heap.size W w1) := Lib.hid (hbx)
    clear hg hn
    clear hb hbx 
    go_wp2_with fail
    refine (K0.out _ (HML.out.stays (by have hs := HB1.out.size; repeat (first | exact HB1.out | refine Below.alloc ?_ (by first | omega | (simp <;> omega)) _)))).mono ?_
    rintro e w2 ⟨rfl, hb⟩
    obtain ⟨a0r, a0f, a0n, a0c, a0z, a0l⟩ := keep1 (g := W.heap.size) (cs := chkA c.from_ c.to_ c.n c.of_ D c.data.length d) hb (by first | (go_simp; done) | (go_simp; rfl)) (by go_simp) (by go_simp)
    have hbx : Below w1.heap.size w1 w2 := Below.trans (by repeat (first | exact Below.refl _ _ | refine Below.alloc ?_ (by first | omega | (simp <;> omega)) _)) (hb.mono (by first | omega | (simp <;> omega)))
    have HB2 : Hid (Below W.heap.size W w2) := Lib.hid (HB1.out.trans (hbx.mono HB1.out.size))
    clear hb hbx 
    go_wp2_with fail
    refine (K0.out _ (HML.out.stays (by have hs := HB2.out.size; repeat (first | exact HB2.out | refine Below.alloc ?_ (by first | omega | (simp <;> omega)) _)))).mono ?_
    rintro e w3 ⟨rfl, hb⟩
    obtain ⟨a0r, a0f, a0n, a0c, a0z, a0l⟩ := keep1 (g := W.heap.size) (cs := chkA c.from_ c.to_ c.n c.of_ D c.data.length d) hb (by first | (go_simp; done) | (go_simp; rfl)) (by go_simp) (by go_simp)
    have hbx : Below w2.heap.size w2 w3 := Below.trans (by repeat (first | exact Below.refl _ _ | refine Below.alloc ?_ (by first | omega | (simp <;> omega)) _)) (hb.mono (by first | omega | (simp <;> omega)))
    have HB3 : Hid (Below W.heap.size W w3) := Lib.hid (HB2.out.trans (hbx.mono HB2.out.size))
    clear hb hbx 
    go_wp2_with fail
    go_ret
    refine ⟨ret_bool (by simp), ?_⟩
    have hs := HB3.out.size
    repeat (first | exact HB3.out | refine Below.alloc ?_ (by first | omega | (simp <;> omega)) _)
end Go.Proofs.Ytefkfglkpebbmac
