/- The walk of the document's SameOps. No conditions. -/
import Derived.Test.YtefkfglkpebbmabDeltaSame
import Derived.Test.YtefkfglkpebbmabBytesEqual
import Derived.Test.YtefkfglkpebbmabChain
namespace Go.Proofs.Ytefkfglkpebbmab
open Go.RowKit
set_option linter.unusedVariables false
set_option linter.unusedSimpArgs false

set_option maxRecDepth 100000 in
set_option maxHeartbeats 8000000 in
theorem refSame_calls (A B : Option Addr) (c d : Nat) (l m : List Stp) (w : World) (hl : l.length ≤ 1048576) (hm : m.length ≤ 1048576) (ha : Sps w A l) (hb : Sps w B m) :
    Calls Try.prog 26 #[.slice A l.length c, .slice B m.length d] w (RetB w (.bool (decide (l = m)))) := by
  by_cases hne : l.length = m.length
  · have hdl : ((l.length : Int) != (m.length : Int)) = false := by simp [hne]
    have HE := Lib.hid hne
    have hm1 : l.length ≤ m.length := by omega
    have hm2 : m.length ≤ l.length := by omega
    clear hne
    have HA := Lib.hid ha
    have HB0 := Lib.hid hb
    clear ha hb
    go_enter Try.func26, Try.ntmps26
    go_wp2_with fail
    go_loopw [14] (fun i wr => ∃ k : Nat, k ≤ l.length ∧ i = .int .i64 k ∧ Hid (l.take k = m.take k) ∧ Hid (Below w.heap.size w wr)) (fun i _ => l.length - (intOf i).toNat)
    case atStart => exact ⟨0, Nat.zero_le _, rfl, Lib.hid rfl, Lib.hid (Below.refl _ _)⟩
    case round =>
      obtain ⟨k, hk, rfl, HT, HB⟩ := hrel
      by_cases hlt : k < l.length
      · obtain ⟨b1, o1, B1, c1, rfl, hs1, p0, p1, p2, p3, p4, p5, -, -⟩ := (HA.out.stays HB.out).at_ hlt
        have hsz := HB.out.size
        have hbx : Below wr.heap.size wr (wr.alloc (.cells #[iv l[k].at_, iv l[k].len, .slice B1 l[k].data.length c1] 31)) := (Below.refl _ _).alloc (Nat.le_refl _) _
        obtain ⟨b2, o2, B2, c2, rfl, hs2, r0, r1, r2, r3, r4, r5, -, -⟩ := ((HB0.out.stays HB.out).stays hbx).at_ (i := k) (by omega)
        obtain ⟨b3, o3, B3, c3, e3, hs3, -⟩ := (HB0.out.stays HB.out).at_ (i := k) (by omega)
        injection e3 with e3
        injection e3 with e4 e5
        subst e4 e5
        have HBX := Lib.hid (HB.out.trans (hbx.mono hsz))
        have HX : Hid (l[k] = m[k]'(by omega) → l.take (k + 1) = m.take (k + 1)) := Lib.hid fun e => take_eq_succ HT.out hlt (by omega) e
        have HN : Hid (l[k] ≠ m[k]'(by omega) → l ≠ m) := Lib.hid fun e => ne_of_at hlt (by omega) e
        have p5x := p5.stays hbx
        generalize l[k] = x at *
        generalize m[k]'(by omega) = y at *
        obtain ⟨xa, xl, xd⟩ := x
        obtain ⟨ya, yl, yd⟩ := y
        dsimp only at *
        have HK : Hid (∀ w', Below (wr.alloc (.cells #[iv xa, iv xl, .slice B1 xd.length c1] 31)).heap.size (wr.alloc (.cells #[iv xa, iv xl, .slice B1 xd.length c1] 31)) w' → Calls Try.prog 18 #[.slice B1 xd.length c1, .slice B2 yd.length c2] w' (RetB w' (.bool (decide (xd = yd))))) :=
          Lib.hid fun w' hb => (bytesEqual_calls B1 B2 c1 c2 xd yd w' p3 r3 (p5x.stays hb) (r5.stays hb)).mono fun e w'' h => h.to
        clear p5 p5x r5 hbx HA HB0
        have hkm : k < m.length := by omega
        have hsx : wr.heap.size ≤ (wr.alloc (.cells #[iv xa, iv xl, .slice B1 xd.length c1] 31)).heap.size := by simp
        by_cases h1 : xa = ya
        · subst h1
          by_cases h2 : xl = yl
          · subst h2
            by_cases h3 : xd = yd
            · subst h3
              have HC : Hid (∀ w', Below (wr.alloc (.cells #[iv xa, iv xl, .slice B1 xd.length c1] 31)).heap.size (wr.alloc (.cells #[iv xa, iv xl, .slice B1 xd.length c1] 31)) w' → Calls Try.prog 18 #[.slice B1 xd.length c1, .slice B2 xd.length c2] w' (RetB w' (.bool true))) := Lib.hid fun w' hb => by
                have := HK.out w' hb
                rwa [show decide (xd = xd) = true by simp] at this
              clear HK HN
              go_wp2_with fail
              refine wp_region_chain (by kernel_rfl) (some 19 :: some 20 :: some 21 :: some 22 :: some 23 :: some 24 :: some 25 :: some 26 :: some 27 :: some 28 :: some 29 :: some 30 :: some 31 :: some 32 :: some 33 :: some 34 :: some 35 :: some 36 :: some 37 :: some 38 :: some 39 :: some 40 :: some 41 :: some 42 :: some 43 :: some 44 :: some 45 :: some 46 :: some 47 :: []) (.pointer (some ⟨wr.heap.size, 0, none⟩) :: iv xa :: .slice (some ⟨b2, o2, none⟩) m.length d :: .int .i64 (k : Int) :: .pointer (some ⟨b2, o2 + k * 3, none⟩) :: .pointer (some ⟨b2, o2 + k * 3, none⟩) :: iv xa :: .bool false :: .bool false :: .pointer (some ⟨wr.heap.size, 1, none⟩) :: iv xl :: .slice (some ⟨b2, o2, none⟩) m.length d :: .int .i64 (k : Int) :: .pointer (some ⟨b2, o2 + k * 3, none⟩) :: .pointer (some ⟨b2, o2 + k * 3 + 1, none⟩) :: iv xl :: .bool false :: .bool false :: .bool false :: .pointer (some ⟨wr.heap.size, 2, none⟩) :: .slice B1 xd.length c1 :: .slice (some ⟨b2, o2, none⟩) m.length d :: .int .i64 (k : Int) :: .pointer (some ⟨b2, o2 + k * 3, none⟩) :: .pointer (some ⟨b2, o2 + k * 3 + 2, none⟩) :: .slice B2 xd.length c2 :: .bool true :: .bool false :: .bool false :: []) 49 rfl rfl (by decide +kernel) (by decide +kernel) (by decide +kernel) rfl ?_ ?_
              · refine ⟨.inl ⟨rfl, fun done a wq hw h => ?_⟩, ?_⟩
                · have e6 := ch_old (t := 6) (v := .pointer (some ⟨wr.heap.size, 0, none⟩)) h rfl rfl; refine ch_pure ?_; go_simp
                refine ⟨.inl ⟨rfl, fun done a wq hw h => ?_⟩, ?_⟩
                · have e19 := ch_new (i := 0) (t := 19) h (hw 0 (by decide)) rfl rfl; have hc := (h.bel.cell (p := ⟨wr.heap.size, 0, none⟩) (by simp)).trans (show (wr.alloc (.cells #[iv xa, iv xl, .slice B1 xd.length c1] 31)).cell? ⟨wr.heap.size, 0, none⟩ = some (iv xa) by go_simp); refine ch_pure ?_; go_simp
                refine ⟨.inl ⟨rfl, fun done a wq hw h => ?_⟩, ?_⟩
                · have e1 := ch_old (t := 1) (v := .slice (some ⟨b2, o2, none⟩) m.length d) h rfl rfl; exact ch_move (ch_ev e1)
                refine ⟨.inl ⟨rfl, fun done a wq hw h => ?_⟩, ?_⟩
                · have e5 := ch_old (t := 5) (v := .int .i64 (k : Int)) h rfl rfl; exact ch_move (ch_ev e5)
                refine ⟨.inl ⟨rfl, fun done a wq hw h => ?_⟩, ?_⟩
                · have e21 := ch_new (i := 2) (t := 21) h (hw 2 (by decide)) rfl rfl; have e22 := ch_new (i := 3) (t := 22) h (hw 3 (by decide)) rfl rfl; refine ch_pure ?_; go_simp
                refine ⟨.inl ⟨rfl, fun done a wq hw h => ?_⟩, ?_⟩
                · have e23 := ch_new (i := 4) (t := 23) h (hw 4 (by decide)) rfl rfl; refine ch_pure ?_; go_simp
                refine ⟨.inl ⟨rfl, fun done a wq hw h => ?_⟩, ?_⟩
                · have e24 := ch_new (i := 5) (t := 24) h (hw 5 (by decide)) rfl rfl; have hc := (h.bel.cell (p := ⟨b2, o2 + k * 3, none⟩) (by simp; omega)).trans (show (wr.alloc (.cells #[iv xa, iv xl, .slice B1 xd.length c1] 31)).cell? _ = some (iv xa) from r0); refine ch_pure ?_; go_simp
                refine ⟨.inl ⟨rfl, fun done a wq hw h => ?_⟩, ?_⟩
                · have e20 := ch_new (i := 1) (t := 20) h (hw 1 (by decide)) rfl rfl; have e25 := ch_new (i := 6) (t := 25) h (hw 6 (by decide)) rfl rfl; exact ch_neq_int (by kernel_rfl) (ch_ev e20) (ch_ev e25) (by simp)
                refine ⟨.inl ⟨rfl, fun done a wq hw h => ?_⟩, ?_⟩
                · have e26 := ch_new (i := 7) (t := 26) h (hw 7 (by decide)) rfl rfl; exact ch_move (ch_ev e26)
                refine ⟨.inl ⟨rfl, fun done a wq hw h => ?_⟩, ?_⟩
                · have e6 := ch_old (t := 6) (v := .pointer (some ⟨wr.heap.size, 0, none⟩)) h rfl rfl; refine ch_pure ?_; go_simp
                refine ⟨.inl ⟨rfl, fun done a wq hw h => ?_⟩, ?_⟩
                · have e28 := ch_new (i := 9) (t := 28) h (hw 9 (by decide)) rfl rfl; have hc := (h.bel.cell (p := ⟨wr.heap.size, 1, none⟩) (by simp)).trans (show (wr.alloc (.cells #[iv xa, iv xl, .slice B1 xd.length c1] 31)).cell? ⟨wr.heap.size, 1, none⟩ = some (iv xl) by go_simp); refine ch_pure ?_; go_simp
                refine ⟨.inl ⟨rfl, fun done a wq hw h => ?_⟩, ?_⟩
                · have e1 := ch_old (t := 1) (v := .slice (some ⟨b2, o2, none⟩) m.length d) h rfl rfl; exact ch_move (ch_ev e1)
                refine ⟨.inl ⟨rfl, fun done a wq hw h => ?_⟩, ?_⟩
                · have e5 := ch_old (t := 5) (v := .int .i64 (k : Int)) h rfl rfl; exact ch_move (ch_ev e5)
                refine ⟨.inl ⟨rfl, fun done a wq hw h => ?_⟩, ?_⟩
                · have e30 := ch_new (i := 11) (t := 30) h (hw 11 (by decide)) rfl rfl; have e31 := ch_new (i := 12) (t := 31) h (hw 12 (by decide)) rfl rfl; refine ch_pure ?_; go_simp
                refine ⟨.inl ⟨rfl, fun done a wq hw h => ?_⟩, ?_⟩
                · have e32 := ch_new (i := 13) (t := 32) h (hw 13 (by decide)) rfl rfl; refine ch_pure ?_; go_simp
                refine ⟨.inl ⟨rfl, fun done a wq hw h => ?_⟩, ?_⟩
                · have e33 := ch_new (i := 14) (t := 33) h (hw 14 (by decide)) rfl rfl; have hc := (h.bel.cell (p := ⟨b2, o2 + k * 3 + 1, none⟩) (by simp; omega)).trans (show (wr.alloc (.cells #[iv xa, iv xl, .slice B1 xd.length c1] 31)).cell? _ = some (iv xl) from r1); refine ch_pure ?_; go_simp
                refine ⟨.inl ⟨rfl, fun done a wq hw h => ?_⟩, ?_⟩
                · have e29 := ch_new (i := 10) (t := 29) h (hw 10 (by decide)) rfl rfl; have e34 := ch_new (i := 15) (t := 34) h (hw 15 (by decide)) rfl rfl; exact ch_neq_int (by kernel_rfl) (ch_ev e29) (ch_ev e34) (by simp)
                refine ⟨.inl ⟨rfl, fun done a wq hw h => ?_⟩, ?_⟩
                · have e27 := ch_new (i := 8) (t := 27) h (hw 8 (by decide)) rfl rfl; have e35 := ch_new (i := 16) (t := 35) h (hw 16 (by decide)) rfl rfl; exact ch_pick_f e27 (ch_ev e35)
                refine ⟨.inl ⟨rfl, fun done a wq hw h => ?_⟩, ?_⟩
                · have e36 := ch_new (i := 17) (t := 36) h (hw 17 (by decide)) rfl rfl; exact ch_move (ch_ev e36)
                refine ⟨.inl ⟨rfl, fun done a wq hw h => ?_⟩, ?_⟩
                · have e6 := ch_old (t := 6) (v := .pointer (some ⟨wr.heap.size, 0, none⟩)) h rfl rfl; refine ch_pure ?_; go_simp
                refine ⟨.inl ⟨rfl, fun done a wq hw h => ?_⟩, ?_⟩
                · have e38 := ch_new (i := 19) (t := 38) h (hw 19 (by decide)) rfl rfl; have hc := (h.bel.cell (p := ⟨wr.heap.size, 2, none⟩) (by simp)).trans (show (wr.alloc (.cells #[iv xa, iv xl, .slice B1 xd.length c1] 31)).cell? ⟨wr.heap.size, 2, none⟩ = some (.slice B1 xd.length c1) by go_simp); refine ch_pure ?_; go_simp
                refine ⟨.inl ⟨rfl, fun done a wq hw h => ?_⟩, ?_⟩
                · have e1 := ch_old (t := 1) (v := .slice (some ⟨b2, o2, none⟩) m.length d) h rfl rfl; exact ch_move (ch_ev e1)
                refine ⟨.inl ⟨rfl, fun done a wq hw h => ?_⟩, ?_⟩
                · have e5 := ch_old (t := 5) (v := .int .i64 (k : Int)) h rfl rfl; exact ch_move (ch_ev e5)
                refine ⟨.inl ⟨rfl, fun done a wq hw h => ?_⟩, ?_⟩
                · have e40 := ch_new (i := 21) (t := 40) h (hw 21 (by decide)) rfl rfl; have e41 := ch_new (i := 22) (t := 41) h (hw 22 (by decide)) rfl rfl; refine ch_pure ?_; go_simp
                refine ⟨.inl ⟨rfl, fun done a wq hw h => ?_⟩, ?_⟩
                · have e42 := ch_new (i := 23) (t := 42) h (hw 23 (by decide)) rfl rfl; refine ch_pure ?_; go_simp
                refine ⟨.inl ⟨rfl, fun done a wq hw h => ?_⟩, ?_⟩
                · have e43 := ch_new (i := 24) (t := 43) h (hw 24 (by decide)) rfl rfl; have hc := (h.bel.cell (p := ⟨b2, o2 + k * 3 + 2, none⟩) (by simp; omega)).trans (show (wr.alloc (.cells #[iv xa, iv xl, .slice B1 xd.length c1] 31)).cell? _ = some (.slice B2 xd.length c2) from r2); refine ch_pure ?_; go_simp
                refine ⟨.inl ⟨rfl, fun done a wq hw h => ?_⟩, ?_⟩
                · have e39 := ch_new (i := 20) (t := 39) h (hw 20 (by decide)) rfl rfl; have e44 := ch_new (i := 25) (t := 44) h (hw 25 (by decide)) rfl rfl; exact ch_call (by go_simp) (by go_simp) (HC.out _ ((Below.refl _ _).drew.trans h.bel))
                refine ⟨.inl ⟨rfl, fun done a wq hw h => ?_⟩, ?_⟩
                · have e45 := ch_new (i := 26) (t := 45) h (hw 26 (by decide)) rfl rfl; refine ch_pure ?_; go_simp
                refine ⟨.inl ⟨rfl, fun done a wq hw h => ?_⟩, ?_⟩
                · have e37 := ch_new (i := 18) (t := 37) h (hw 18 (by decide)) rfl rfl; have e46 := ch_new (i := 27) (t := 46) h (hw 27 (by decide)) rfl rfl; exact ch_pick_f e37 (ch_ev e46)
                exact trivial
              intro w1 hb
              have HB1 := Lib.hid (HBX.out.trans (hb.mono (by simp; omega)))
              clear hb r0 r1 r2
              simp only [putAll_some, putAll_none, putAll_nil, List.getElem?_cons_zero, List.getElem?_cons_succ, List.setIfInBounds_toArray, List.set_cons_zero, List.set_cons_succ]
              go_wp2_with fail
              go_roundw
              case rel => exact ⟨k + 1, by omega, by go_num, Lib.hid (by first | exact HX.out trivial | exact HX.out rfl), HB1⟩
              case measure => simp [intOf]; omega
            · have HC : Hid (∀ w', Below (wr.alloc (.cells #[iv xa, iv xl, .slice B1 xd.length c1] 31)).heap.size (wr.alloc (.cells #[iv xa, iv xl, .slice B1 xd.length c1] 31)) w' → Calls Try.prog 18 #[.slice B1 xd.length c1, .slice B2 yd.length c2] w' (RetB w' (.bool false))) := Lib.hid fun w' hb => by
                have := HK.out w' hb
                rwa [show decide (xd = yd) = false by simp [h3]] at this
              have HNE : Hid ((⟨xa, xl, xd⟩ : Stp) ≠ ⟨xa, xl, yd⟩) := Lib.hid fun e => by injection e; contradiction
              clear HK HX h3
              go_wp2_with fail
              refine wp_region_chain (by kernel_rfl) (some 19 :: some 20 :: some 21 :: some 22 :: some 23 :: some 24 :: some 25 :: some 26 :: some 27 :: some 28 :: some 29 :: some 30 :: some 31 :: some 32 :: some 33 :: some 34 :: some 35 :: some 36 :: some 37 :: some 38 :: some 39 :: some 40 :: some 41 :: some 42 :: some 43 :: some 44 :: some 45 :: some 46 :: some 47 :: []) (.pointer (some ⟨wr.heap.size, 0, none⟩) :: iv xa :: .slice (some ⟨b2, o2, none⟩) m.length d :: .int .i64 (k : Int) :: .pointer (some ⟨b2, o2 + k * 3, none⟩) :: .pointer (some ⟨b2, o2 + k * 3, none⟩) :: iv xa :: .bool false :: .bool false :: .pointer (some ⟨wr.heap.size, 1, none⟩) :: iv xl :: .slice (some ⟨b2, o2, none⟩) m.length d :: .int .i64 (k : Int) :: .pointer (some ⟨b2, o2 + k * 3, none⟩) :: .pointer (some ⟨b2, o2 + k * 3 + 1, none⟩) :: iv xl :: .bool false :: .bool false :: .bool false :: .pointer (some ⟨wr.heap.size, 2, none⟩) :: .slice B1 xd.length c1 :: .slice (some ⟨b2, o2, none⟩) m.length d :: .int .i64 (k : Int) :: .pointer (some ⟨b2, o2 + k * 3, none⟩) :: .pointer (some ⟨b2, o2 + k * 3 + 2, none⟩) :: .slice B2 yd.length c2 :: .bool false :: .bool true :: .bool true :: []) 49 rfl rfl (by decide +kernel) (by decide +kernel) (by decide +kernel) rfl ?_ ?_
              · refine ⟨.inl ⟨rfl, fun done a wq hw h => ?_⟩, ?_⟩
                · have e6 := ch_old (t := 6) (v := .pointer (some ⟨wr.heap.size, 0, none⟩)) h rfl rfl; refine ch_pure ?_; go_simp
                refine ⟨.inl ⟨rfl, fun done a wq hw h => ?_⟩, ?_⟩
                · have e19 := ch_new (i := 0) (t := 19) h (hw 0 (by decide)) rfl rfl; have hc := (h.bel.cell (p := ⟨wr.heap.size, 0, none⟩) (by simp)).trans (show (wr.alloc (.cells #[iv xa, iv xl, .slice B1 xd.length c1] 31)).cell? ⟨wr.heap.size, 0, none⟩ = some (iv xa) by go_simp); refine ch_pure ?_; go_simp
                refine ⟨.inl ⟨rfl, fun done a wq hw h => ?_⟩, ?_⟩
                · have e1 := ch_old (t := 1) (v := .slice (some ⟨b2, o2, none⟩) m.length d) h rfl rfl; exact ch_move (ch_ev e1)
                refine ⟨.inl ⟨rfl, fun done a wq hw h => ?_⟩, ?_⟩
                · have e5 := ch_old (t := 5) (v := .int .i64 (k : Int)) h rfl rfl; exact ch_move (ch_ev e5)
                refine ⟨.inl ⟨rfl, fun done a wq hw h => ?_⟩, ?_⟩
                · have e21 := ch_new (i := 2) (t := 21) h (hw 2 (by decide)) rfl rfl; have e22 := ch_new (i := 3) (t := 22) h (hw 3 (by decide)) rfl rfl; refine ch_pure ?_; go_simp
                refine ⟨.inl ⟨rfl, fun done a wq hw h => ?_⟩, ?_⟩
                · have e23 := ch_new (i := 4) (t := 23) h (hw 4 (by decide)) rfl rfl; refine ch_pure ?_; go_simp
                refine ⟨.inl ⟨rfl, fun done a wq hw h => ?_⟩, ?_⟩
                · have e24 := ch_new (i := 5) (t := 24) h (hw 5 (by decide)) rfl rfl; have hc := (h.bel.cell (p := ⟨b2, o2 + k * 3, none⟩) (by simp; omega)).trans (show (wr.alloc (.cells #[iv xa, iv xl, .slice B1 xd.length c1] 31)).cell? _ = some (iv xa) from r0); refine ch_pure ?_; go_simp
                refine ⟨.inl ⟨rfl, fun done a wq hw h => ?_⟩, ?_⟩
                · have e20 := ch_new (i := 1) (t := 20) h (hw 1 (by decide)) rfl rfl; have e25 := ch_new (i := 6) (t := 25) h (hw 6 (by decide)) rfl rfl; exact ch_neq_int (by kernel_rfl) (ch_ev e20) (ch_ev e25) (by simp)
                refine ⟨.inl ⟨rfl, fun done a wq hw h => ?_⟩, ?_⟩
                · have e26 := ch_new (i := 7) (t := 26) h (hw 7 (by decide)) rfl rfl; exact ch_move (ch_ev e26)
                refine ⟨.inl ⟨rfl, fun done a wq hw h => ?_⟩, ?_⟩
                · have e6 := ch_old (t := 6) (v := .pointer (some ⟨wr.heap.size, 0, none⟩)) h rfl rfl; refine ch_pure ?_; go_simp
                refine ⟨.inl ⟨rfl, fun done a wq hw h => ?_⟩, ?_⟩
                · have e28 := ch_new (i := 9) (t := 28) h (hw 9 (by decide)) rfl rfl; have hc := (h.bel.cell (p := ⟨wr.heap.size, 1, none⟩) (by simp)).trans (show (wr.alloc (.cells #[iv xa, iv xl, .slice B1 xd.length c1] 31)).cell? ⟨wr.heap.size, 1, none⟩ = some (iv xl) by go_simp); refine ch_pure ?_; go_simp
                refine ⟨.inl ⟨rfl, fun done a wq hw h => ?_⟩, ?_⟩
                · have e1 := ch_old (t := 1) (v := .slice (some ⟨b2, o2, none⟩) m.length d) h rfl rfl; exact ch_move (ch_ev e1)
                refine ⟨.inl ⟨rfl, fun done a wq hw h => ?_⟩, ?_⟩
                · have e5 := ch_old (t := 5) (v := .int .i64 (k : Int)) h rfl rfl; exact ch_move (ch_ev e5)
                refine ⟨.inl ⟨rfl, fun done a wq hw h => ?_⟩, ?_⟩
                · have e30 := ch_new (i := 11) (t := 30) h (hw 11 (by decide)) rfl rfl; have e31 := ch_new (i := 12) (t := 31) h (hw 12 (by decide)) rfl rfl; refine ch_pure ?_; go_simp
                refine ⟨.inl ⟨rfl, fun done a wq hw h => ?_⟩, ?_⟩
                · have e32 := ch_new (i := 13) (t := 32) h (hw 13 (by decide)) rfl rfl; refine ch_pure ?_; go_simp
                refine ⟨.inl ⟨rfl, fun done a wq hw h => ?_⟩, ?_⟩
                · have e33 := ch_new (i := 14) (t := 33) h (hw 14 (by decide)) rfl rfl; have hc := (h.bel.cell (p := ⟨b2, o2 + k * 3 + 1, none⟩) (by simp; omega)).trans (show (wr.alloc (.cells #[iv xa, iv xl, .slice B1 xd.length c1] 31)).cell? _ = some (iv xl) from r1); refine ch_pure ?_; go_simp
                refine ⟨.inl ⟨rfl, fun done a wq hw h => ?_⟩, ?_⟩
                · have e29 := ch_new (i := 10) (t := 29) h (hw 10 (by decide)) rfl rfl; have e34 := ch_new (i := 15) (t := 34) h (hw 15 (by decide)) rfl rfl; exact ch_neq_int (by kernel_rfl) (ch_ev e29) (ch_ev e34) (by simp)
                refine ⟨.inl ⟨rfl, fun done a wq hw h => ?_⟩, ?_⟩
                · have e27 := ch_new (i := 8) (t := 27) h (hw 8 (by decide)) rfl rfl; have e35 := ch_new (i := 16) (t := 35) h (hw 16 (by decide)) rfl rfl; exact ch_pick_f e27 (ch_ev e35)
                refine ⟨.inl ⟨rfl, fun done a wq hw h => ?_⟩, ?_⟩
                · have e36 := ch_new (i := 17) (t := 36) h (hw 17 (by decide)) rfl rfl; exact ch_move (ch_ev e36)
                refine ⟨.inl ⟨rfl, fun done a wq hw h => ?_⟩, ?_⟩
                · have e6 := ch_old (t := 6) (v := .pointer (some ⟨wr.heap.size, 0, none⟩)) h rfl rfl; refine ch_pure ?_; go_simp
                refine ⟨.inl ⟨rfl, fun done a wq hw h => ?_⟩, ?_⟩
                · have e38 := ch_new (i := 19) (t := 38) h (hw 19 (by decide)) rfl rfl; have hc := (h.bel.cell (p := ⟨wr.heap.size, 2, none⟩) (by simp)).trans (show (wr.alloc (.cells #[iv xa, iv xl, .slice B1 xd.length c1] 31)).cell? ⟨wr.heap.size, 2, none⟩ = some (.slice B1 xd.length c1) by go_simp); refine ch_pure ?_; go_simp
                refine ⟨.inl ⟨rfl, fun done a wq hw h => ?_⟩, ?_⟩
                · have e1 := ch_old (t := 1) (v := .slice (some ⟨b2, o2, none⟩) m.length d) h rfl rfl; exact ch_move (ch_ev e1)
                refine ⟨.inl ⟨rfl, fun done a wq hw h => ?_⟩, ?_⟩
                · have e5 := ch_old (t := 5) (v := .int .i64 (k : Int)) h rfl rfl; exact ch_move (ch_ev e5)
                refine ⟨.inl ⟨rfl, fun done a wq hw h => ?_⟩, ?_⟩
                · have e40 := ch_new (i := 21) (t := 40) h (hw 21 (by decide)) rfl rfl; have e41 := ch_new (i := 22) (t := 41) h (hw 22 (by decide)) rfl rfl; refine ch_pure ?_; go_simp
                refine ⟨.inl ⟨rfl, fun done a wq hw h => ?_⟩, ?_⟩
                · have e42 := ch_new (i := 23) (t := 42) h (hw 23 (by decide)) rfl rfl; refine ch_pure ?_; go_simp
                refine ⟨.inl ⟨rfl, fun done a wq hw h => ?_⟩, ?_⟩
                · have e43 := ch_new (i := 24) (t := 43) h (hw 24 (by decide)) rfl rfl; have hc := (h.bel.cell (p := ⟨b2, o2 + k * 3 + 2, none⟩) (by simp; omega)).trans (show (wr.alloc (.cells #[iv xa, iv xl, .slice B1 xd.length c1] 31)).cell? _ = some (.slice B2 yd.length c2) from r2); refine ch_pure ?_; go_simp
                refine ⟨.inl ⟨rfl, fun done a wq hw h => ?_⟩, ?_⟩
                · have e39 := ch_new (i := 20) (t := 39) h (hw 20 (by decide)) rfl rfl; have e44 := ch_new (i := 25) (t := 44) h (hw 25 (by decide)) rfl rfl; exact ch_call (by go_simp) (by go_simp) (HC.out _ ((Below.refl _ _).drew.trans h.bel))
                refine ⟨.inl ⟨rfl, fun done a wq hw h => ?_⟩, ?_⟩
                · have e45 := ch_new (i := 26) (t := 45) h (hw 26 (by decide)) rfl rfl; refine ch_pure ?_; go_simp
                refine ⟨.inl ⟨rfl, fun done a wq hw h => ?_⟩, ?_⟩
                · have e37 := ch_new (i := 18) (t := 37) h (hw 18 (by decide)) rfl rfl; have e46 := ch_new (i := 27) (t := 46) h (hw 27 (by decide)) rfl rfl; exact ch_pick_f e37 (ch_ev e46)
                exact trivial
              intro w1 hb
              have HB1 := Lib.hid (HBX.out.trans (hb.mono (by simp; omega)))
              clear hb r0 r1 r2
              simp only [putAll_some, putAll_none, putAll_nil, List.getElem?_cons_zero, List.getElem?_cons_succ, List.setIfInBounds_toArray, List.set_cons_zero, List.set_cons_succ]
              go_wp2_with fail
              go_ret
              exact ⟨ret_bool (decide_eq_false (HN.out HNE.out)).symm, HB1.out⟩
          · have HNE : Hid ((⟨xa, xl, xd⟩ : Stp) ≠ ⟨xa, yl, yd⟩) := Lib.hid fun e => by injection e; contradiction
            clear HK HX
            go_wp2_with fail
            refine wp_region_chain (by kernel_rfl) (some 19 :: some 20 :: some 21 :: some 22 :: some 23 :: some 24 :: some 25 :: some 26 :: some 27 :: some 28 :: some 29 :: some 30 :: some 31 :: some 32 :: some 33 :: some 34 :: some 35 :: some 36 :: some 37 :: some 38 :: some 39 :: some 40 :: some 41 :: some 42 :: some 43 :: some 44 :: some 45 :: some 46 :: some 47 :: []) (.pointer (some ⟨wr.heap.size, 0, none⟩) :: iv xa :: .slice (some ⟨b2, o2, none⟩) m.length d :: .int .i64 (k : Int) :: .pointer (some ⟨b2, o2 + k * 3, none⟩) :: .pointer (some ⟨b2, o2 + k * 3, none⟩) :: iv xa :: .bool false :: .bool false :: .pointer (some ⟨wr.heap.size, 1, none⟩) :: iv xl :: .slice (some ⟨b2, o2, none⟩) m.length d :: .int .i64 (k : Int) :: .pointer (some ⟨b2, o2 + k * 3, none⟩) :: .pointer (some ⟨b2, o2 + k * 3 + 1, none⟩) :: iv yl :: .bool true :: .bool true :: .bool true :: undef :: undef :: undef :: undef :: undef :: undef :: undef :: undef :: undef :: .bool true :: []) 49 rfl rfl (by decide +kernel) (by decide +kernel) (by decide +kernel) rfl ?_ ?_
            · refine ⟨.inl ⟨rfl, fun done a wq hw h => ?_⟩, ?_⟩
              · have e6 := ch_old (t := 6) (v := .pointer (some ⟨wr.heap.size, 0, none⟩)) h rfl rfl; refine ch_pure ?_; go_simp
              refine ⟨.inl ⟨rfl, fun done a wq hw h => ?_⟩, ?_⟩
              · have e19 := ch_new (i := 0) (t := 19) h (hw 0 (by decide)) rfl rfl; have hc := (h.bel.cell (p := ⟨wr.heap.size, 0, none⟩) (by simp)).trans (show (wr.alloc (.cells #[iv xa, iv xl, .slice B1 xd.length c1] 31)).cell? ⟨wr.heap.size, 0, none⟩ = some (iv xa) by go_simp); refine ch_pure ?_; go_simp
              refine ⟨.inl ⟨rfl, fun done a wq hw h => ?_⟩, ?_⟩
              · have e1 := ch_old (t := 1) (v := .slice (some ⟨b2, o2, none⟩) m.length d) h rfl rfl; exact ch_move (ch_ev e1)
              refine ⟨.inl ⟨rfl, fun done a wq hw h => ?_⟩, ?_⟩
              · have e5 := ch_old (t := 5) (v := .int .i64 (k : Int)) h rfl rfl; exact ch_move (ch_ev e5)
              refine ⟨.inl ⟨rfl, fun done a wq hw h => ?_⟩, ?_⟩
              · have e21 := ch_new (i := 2) (t := 21) h (hw 2 (by decide)) rfl rfl; have e22 := ch_new (i := 3) (t := 22) h (hw 3 (by decide)) rfl rfl; refine ch_pure ?_; go_simp
              refine ⟨.inl ⟨rfl, fun done a wq hw h => ?_⟩, ?_⟩
              · have e23 := ch_new (i := 4) (t := 23) h (hw 4 (by decide)) rfl rfl; refine ch_pure ?_; go_simp
              refine ⟨.inl ⟨rfl, fun done a wq hw h => ?_⟩, ?_⟩
              · have e24 := ch_new (i := 5) (t := 24) h (hw 5 (by decide)) rfl rfl; have hc := (h.bel.cell (p := ⟨b2, o2 + k * 3, none⟩) (by simp; omega)).trans (show (wr.alloc (.cells #[iv xa, iv xl, .slice B1 xd.length c1] 31)).cell? _ = some (iv xa) from r0); refine ch_pure ?_; go_simp
              refine ⟨.inl ⟨rfl, fun done a wq hw h => ?_⟩, ?_⟩
              · have e20 := ch_new (i := 1) (t := 20) h (hw 1 (by decide)) rfl rfl; have e25 := ch_new (i := 6) (t := 25) h (hw 6 (by decide)) rfl rfl; exact ch_neq_int (by kernel_rfl) (ch_ev e20) (ch_ev e25) (by simp)
              refine ⟨.inl ⟨rfl, fun done a wq hw h => ?_⟩, ?_⟩
              · have e26 := ch_new (i := 7) (t := 26) h (hw 7 (by decide)) rfl rfl; exact ch_move (ch_ev e26)
              refine ⟨.inl ⟨rfl, fun done a wq hw h => ?_⟩, ?_⟩
              · have e6 := ch_old (t := 6) (v := .pointer (some ⟨wr.heap.size, 0, none⟩)) h rfl rfl; refine ch_pure ?_; go_simp
              refine ⟨.inl ⟨rfl, fun done a wq hw h => ?_⟩, ?_⟩
              · have e28 := ch_new (i := 9) (t := 28) h (hw 9 (by decide)) rfl rfl; have hc := (h.bel.cell (p := ⟨wr.heap.size, 1, none⟩) (by simp)).trans (show (wr.alloc (.cells #[iv xa, iv xl, .slice B1 xd.length c1] 31)).cell? ⟨wr.heap.size, 1, none⟩ = some (iv xl) by go_simp); refine ch_pure ?_; go_simp
              refine ⟨.inl ⟨rfl, fun done a wq hw h => ?_⟩, ?_⟩
              · have e1 := ch_old (t := 1) (v := .slice (some ⟨b2, o2, none⟩) m.length d) h rfl rfl; exact ch_move (ch_ev e1)
              refine ⟨.inl ⟨rfl, fun done a wq hw h => ?_⟩, ?_⟩
              · have e5 := ch_old (t := 5) (v := .int .i64 (k : Int)) h rfl rfl; exact ch_move (ch_ev e5)
              refine ⟨.inl ⟨rfl, fun done a wq hw h => ?_⟩, ?_⟩
              · have e30 := ch_new (i := 11) (t := 30) h (hw 11 (by decide)) rfl rfl; have e31 := ch_new (i := 12) (t := 31) h (hw 12 (by decide)) rfl rfl; refine ch_pure ?_; go_simp
              refine ⟨.inl ⟨rfl, fun done a wq hw h => ?_⟩, ?_⟩
              · have e32 := ch_new (i := 13) (t := 32) h (hw 13 (by decide)) rfl rfl; refine ch_pure ?_; go_simp
              refine ⟨.inl ⟨rfl, fun done a wq hw h => ?_⟩, ?_⟩
              · have e33 := ch_new (i := 14) (t := 33) h (hw 14 (by decide)) rfl rfl; have hc := (h.bel.cell (p := ⟨b2, o2 + k * 3 + 1, none⟩) (by simp; omega)).trans (show (wr.alloc (.cells #[iv xa, iv xl, .slice B1 xd.length c1] 31)).cell? _ = some (iv yl) from r1); refine ch_pure ?_; go_simp
              refine ⟨.inl ⟨rfl, fun done a wq hw h => ?_⟩, ?_⟩
              · have e29 := ch_new (i := 10) (t := 29) h (hw 10 (by decide)) rfl rfl; have e34 := ch_new (i := 15) (t := 34) h (hw 15 (by decide)) rfl rfl; exact ch_neq_int (by kernel_rfl) (ch_ev e29) (ch_ev e34) (by simp [h2])
              refine ⟨.inl ⟨rfl, fun done a wq hw h => ?_⟩, ?_⟩
              · have e27 := ch_new (i := 8) (t := 27) h (hw 8 (by decide)) rfl rfl; have e35 := ch_new (i := 16) (t := 35) h (hw 16 (by decide)) rfl rfl; exact ch_pick_f e27 (ch_ev e35)
              refine ⟨.inl ⟨rfl, fun done a wq hw h => ?_⟩, ?_⟩
              · have e36 := ch_new (i := 17) (t := 36) h (hw 17 (by decide)) rfl rfl; exact ch_move (ch_ev e36)
              refine ⟨.inr ⟨rfl, rfl⟩, ?_⟩
              refine ⟨.inr ⟨rfl, rfl⟩, ?_⟩
              refine ⟨.inr ⟨rfl, rfl⟩, ?_⟩
              refine ⟨.inr ⟨rfl, rfl⟩, ?_⟩
              refine ⟨.inr ⟨rfl, rfl⟩, ?_⟩
              refine ⟨.inr ⟨rfl, rfl⟩, ?_⟩
              refine ⟨.inr ⟨rfl, rfl⟩, ?_⟩
              refine ⟨.inr ⟨rfl, rfl⟩, ?_⟩
              refine ⟨.inr ⟨rfl, rfl⟩, ?_⟩
              refine ⟨.inl ⟨rfl, fun done a wq hw h => ?_⟩, ?_⟩
              · have e37 := ch_new (i := 18) (t := 37) h (hw 18 (by decide)) rfl rfl; exact ch_pick_t e37 rfl
              exact trivial
            intro w1 hb
            have HB1 := Lib.hid (HBX.out.trans (hb.mono (by simp; omega)))
            clear hb r0 r1 r2
            simp only [putAll_some, putAll_none, putAll_nil, List.getElem?_cons_zero, List.getElem?_cons_succ, List.setIfInBounds_toArray, List.set_cons_zero, List.set_cons_succ]
            go_wp2_with fail
            go_ret
            exact ⟨ret_bool (decide_eq_false (HN.out HNE.out)).symm, HB1.out⟩
        · have HNE : Hid ((⟨xa, xl, xd⟩ : Stp) ≠ ⟨ya, yl, yd⟩) := Lib.hid fun e => by injection e; contradiction
          clear HK HX
          go_wp2_with fail
          refine wp_region_chain (by kernel_rfl) (some 19 :: some 20 :: some 21 :: some 22 :: some 23 :: some 24 :: some 25 :: some 26 :: some 27 :: some 28 :: some 29 :: some 30 :: some 31 :: some 32 :: some 33 :: some 34 :: some 35 :: some 36 :: some 37 :: some 38 :: some 39 :: some 40 :: some 41 :: some 42 :: some 43 :: some 44 :: some 45 :: some 46 :: some 47 :: []) (.pointer (some ⟨wr.heap.size, 0, none⟩) :: iv xa :: .slice (some ⟨b2, o2, none⟩) m.length d :: .int .i64 (k : Int) :: .pointer (some ⟨b2, o2 + k * 3, none⟩) :: .pointer (some ⟨b2, o2 + k * 3, none⟩) :: iv ya :: .bool true :: .bool true :: undef :: undef :: undef :: undef :: undef :: undef :: undef :: undef :: .bool true :: .bool true :: undef :: undef :: undef :: undef :: undef :: undef :: undef :: undef :: undef :: .bool true :: []) 49 rfl rfl (by decide +kernel) (by decide +kernel) (by decide +kernel) rfl ?_ ?_
          · refine ⟨.inl ⟨rfl, fun done a wq hw h => ?_⟩, ?_⟩
            · have e6 := ch_old (t := 6) (v := .pointer (some ⟨wr.heap.size, 0, none⟩)) h rfl rfl; refine ch_pure ?_; go_simp
            refine ⟨.inl ⟨rfl, fun done a wq hw h => ?_⟩, ?_⟩
            · have e19 := ch_new (i := 0) (t := 19) h (hw 0 (by decide)) rfl rfl; have hc := (h.bel.cell (p := ⟨wr.heap.size, 0, none⟩) (by simp)).trans (show (wr.alloc (.cells #[iv xa, iv xl, .slice B1 xd.length c1] 31)).cell? ⟨wr.heap.size, 0, none⟩ = some (iv xa) by go_simp); refine ch_pure ?_; go_simp
            refine ⟨.inl ⟨rfl, fun done a wq hw h => ?_⟩, ?_⟩
            · have e1 := ch_old (t := 1) (v := .slice (some ⟨b2, o2, none⟩) m.length d) h rfl rfl; exact ch_move (ch_ev e1)
            refine ⟨.inl ⟨rfl, fun done a wq hw h => ?_⟩, ?_⟩
            · have e5 := ch_old (t := 5) (v := .int .i64 (k : Int)) h rfl rfl; exact ch_move (ch_ev e5)
            refine ⟨.inl ⟨rfl, fun done a wq hw h => ?_⟩, ?_⟩
            · have e21 := ch_new (i := 2) (t := 21) h (hw 2 (by decide)) rfl rfl; have e22 := ch_new (i := 3) (t := 22) h (hw 3 (by decide)) rfl rfl; refine ch_pure ?_; go_simp
            refine ⟨.inl ⟨rfl, fun done a wq hw h => ?_⟩, ?_⟩
            · have e23 := ch_new (i := 4) (t := 23) h (hw 4 (by decide)) rfl rfl; refine ch_pure ?_; go_simp
            refine ⟨.inl ⟨rfl, fun done a wq hw h => ?_⟩, ?_⟩
            · have e24 := ch_new (i := 5) (t := 24) h (hw 5 (by decide)) rfl rfl; have hc := (h.bel.cell (p := ⟨b2, o2 + k * 3, none⟩) (by simp; omega)).trans (show (wr.alloc (.cells #[iv xa, iv xl, .slice B1 xd.length c1] 31)).cell? _ = some (iv ya) from r0); refine ch_pure ?_; go_simp
            refine ⟨.inl ⟨rfl, fun done a wq hw h => ?_⟩, ?_⟩
            · have e20 := ch_new (i := 1) (t := 20) h (hw 1 (by decide)) rfl rfl; have e25 := ch_new (i := 6) (t := 25) h (hw 6 (by decide)) rfl rfl; exact ch_neq_int (by kernel_rfl) (ch_ev e20) (ch_ev e25) (by simp [h1])
            refine ⟨.inl ⟨rfl, fun done a wq hw h => ?_⟩, ?_⟩
            · have e26 := ch_new (i := 7) (t := 26) h (hw 7 (by decide)) rfl rfl; exact ch_move (ch_ev e26)
            refine ⟨.inr ⟨rfl, rfl⟩, ?_⟩
            refine ⟨.inr ⟨rfl, rfl⟩, ?_⟩
            refine ⟨.inr ⟨rfl, rfl⟩, ?_⟩
            refine ⟨.inr ⟨rfl, rfl⟩, ?_⟩
            refine ⟨.inr ⟨rfl, rfl⟩, ?_⟩
            refine ⟨.inr ⟨rfl, rfl⟩, ?_⟩
            refine ⟨.inr ⟨rfl, rfl⟩, ?_⟩
            refine ⟨.inr ⟨rfl, rfl⟩, ?_⟩
            refine ⟨.inl ⟨rfl, fun done a wq hw h => ?_⟩, ?_⟩
            · have e27 := ch_new (i := 8) (t := 27) h (hw 8 (by decide)) rfl rfl; exact ch_pick_t e27 rfl
            refine ⟨.inl ⟨rfl, fun done a wq hw h => ?_⟩, ?_⟩
            · have e36 := ch_new (i := 17) (t := 36) h (hw 17 (by decide)) rfl rfl; exact ch_move (ch_ev e36)
            refine ⟨.inr ⟨rfl, rfl⟩, ?_⟩
            refine ⟨.inr ⟨rfl, rfl⟩, ?_⟩
            refine ⟨.inr ⟨rfl, rfl⟩, ?_⟩
            refine ⟨.inr ⟨rfl, rfl⟩, ?_⟩
            refine ⟨.inr ⟨rfl, rfl⟩, ?_⟩
            refine ⟨.inr ⟨rfl, rfl⟩, ?_⟩
            refine ⟨.inr ⟨rfl, rfl⟩, ?_⟩
            refine ⟨.inr ⟨rfl, rfl⟩, ?_⟩
            refine ⟨.inr ⟨rfl, rfl⟩, ?_⟩
            refine ⟨.inl ⟨rfl, fun done a wq hw h => ?_⟩, ?_⟩
            · have e37 := ch_new (i := 18) (t := 37) h (hw 18 (by decide)) rfl rfl; exact ch_pick_t e37 rfl
            exact trivial
          intro w1 hb
          have HB1 := Lib.hid (HBX.out.trans (hb.mono (by simp; omega)))
          clear hb r0 r1 r2
          simp only [putAll_some, putAll_none, putAll_nil, List.getElem?_cons_zero, List.getElem?_cons_succ, List.setIfInBounds_toArray, List.set_cons_zero, List.set_cons_succ]
          go_wp2_with fail
          go_ret
          exact ⟨ret_bool (decide_eq_false (HN.out HNE.out)).symm, HB1.out⟩
      · obtain rfl : k = l.length := by omega
        have HL : Hid (l = m) := Lib.hid (by
          have := HT.out
          rwa [List.take_length, HE.out, List.take_length] at this)
        go_wp2_with fail
        go_ret
        exact ⟨ret_bool (decide_eq_true HL.out).symm, HB.out⟩
  · have hdl : ((l.length : Int) != (m.length : Int)) = true := by simp; omega
    have HE : Hid (l ≠ m) := Lib.hid fun e => hne (by rw [e])
    clear hne ha hb
    go_enter Try.func26, Try.ntmps26
    go_wp2_with fail
    go_ret
    exact ⟨ret_bool (decide_eq_false HE.out).symm, Below.refl _ _⟩
end Go.Proofs.Ytefkfglkpebbmab
