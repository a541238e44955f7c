/- The walk of route.Best. No conditions. -/
import Derived.Test.YtefkfglkpebbmaaRouteNew
import Derived.Test.YtefkfglkpebbmaaRouteBest
import Derived.Deep.LoopGhost
import Derived.IntWalk
namespace Go.Proofs.Ytefkfglkpebbmaa
open Go.RowKit
set_option linter.unusedVariables false
set_option linter.unusedSimpArgs false

/-- It returns a way and an error. -/
def WayRet (w : World) (u : Way) (n : Int) : Ending → World → Prop := fun en w' =>
  ∃ A c, en = .returned (.tuple #[.slice A u.at_.length c, iv u.cost, iv n]) ∧ Nts w' A u.at_ ∧ u.at_.length ≤ c ∧ Below w.heap.size w w'
set_option maxRecDepth 100000 in
theorem run_allocWays (w : World) : (Instr.alloc 94 true (.tuple #[])).run Try.prog w = .ok (.pointer (some ⟨w.heap.size, 0, none⟩)) (w.alloc (.cells zerosA 94)) := by
  have hz : (zeroValue 94).run Try.prog w = .ok (.agg zerosA) w := by kernel_rfl
  have hc : (Value.agg zerosA).cells = zerosA := rfl
  unfold Instr.alloc newVar newRow
  generalize zerosA = z at *
  simp only [Sem.run_bind, Sem.run_pure, Result.andThen_ok, hz, hc]
  simp
/-- The table is made. -/
theorem wpList_ways0 {ops : Array Oper} {rest : List Oper} {a : Act} {w : World} {Q : Exit → Act → World → Prop} {d : Tmp} {t : TypeId} {p : String} {af : Array Edge}
    (h : ∀ w', WaysAt w' w.heap.size (fun _ => Way.none) → Below w.heap.size w w' → w'.heap.size = w.heap.size + 1 → wpList Try.prog ops Q rest (a.put (some d) (.pointer (some ⟨w.heap.size, 0, none⟩))) w') :
    wpList Try.prog ops Q (⟨some d, .alloc 94, t, p, af, none⟩ :: rest) a w := by
  refine wpList_plain rfl fun K hK => ?_
  have key := hK _ _ (h (w.alloc (.cells zerosA 94)) (ways_first _ _) ((Below.refl _ _).alloc (Nat.le_refl _) _) (by simp))
  unfold Oper.wp execOp
  simp only [Sem.run_bind, Sem.run_pure, Result.andThen_ok, run_allocWays]
  exact key
/-- A way is laid into the table. -/
theorem wpList_setWay {ops : Array Oper} {rest : List Oper} {a : Act} {w : World} {Q : Exit → Act → World → Prop} {x y : Tmp} {t : TypeId} {p : String} {af : Array Edge} (g : Nat) (s : St) (v : Nat) (u : Way) (A : Option Addr) (c : Nat)
    (hx : a.tmps[x]? = some (.pointer (some ⟨g, v * 2, none⟩))) (hy : a.tmps[y]? = some (.agg #[iv u.cost, .slice A u.at_.length c])) (hW : WaysAt w g s) (hv : v ≤ 30) (hu : Nts w A u.at_) (hc : u.at_.length ≤ c) (hA : A.map (·.block) ≠ some g)
    (h : ∀ w', WaysAt w' g (s.set v u) → (∀ B w0, B ≤ g → Below B w0 w → Below B w0 w') → w'.heap.size = w.heap.size → wpList Try.prog ops Q rest a w') :
    wpList Try.prog ops Q (⟨none, .store 93 (.tmp x) (.tmp y), t, p, af, none⟩ :: rest) a w := by
  refine wpList_plain rfl fun K hK => ?_
  have e1 : a.eval (.tmp x) = .pointer (some ⟨g, v * 2, none⟩) := by simp [Act.eval, hx]
  have e2 : a.eval (.tmp y) = .agg #[iv u.cost, .slice A u.at_.length c] := by simp [Act.eval, hy]
  have key := hK _ _ (h ((w.setCell ⟨g, v * 2, none⟩ (iv u.cost)).setCell ⟨g, v * 2 + 1, none⟩ (.slice A u.at_.length c)) (WaysAt.set hW hv hu hc hA)
    (fun B w0 hB hb => (hb.setCell (p := ⟨g, _, none⟩) hB _).setCell (p := ⟨g, _, none⟩) hB _) (by simp))
  obtain ⟨A0, c0, q0, q1, _⟩ := hW.at_ v hv
  have f0 := hW.frozen (v * 2)
  have f1 := hW.frozen (v * 2 + 1)
  clear h hW hu hA
  unfold Oper.wp execOp
  simp only [e1, e2]
  go_simp
  exact key
set_option maxRecDepth 100000 in
set_option maxHeartbeats 1000000 in
theorem best_bad (A : Option Addr) (c : Nat) (l : List Edg) (f t : Int) (w : World) (hl : l.length ≤ 140737488351232) (hr : Eds w A l) (h : routeCheck l ≠ 0) :
    Calls Try.prog 39 #[.slice A l.length c, iv f, iv t] w (WayRet w Way.none (routeCheck l)) := by
  have hb : (routeCheck l != 0) = true := by simp [h]
  clear h
  go_enter Try.func39, Try.ntmps39
  go_wp2_with fail
  refine (routeCheck_calls A c l w hl hr).mono ?_
  rintro e w1 ⟨rfl, hb1⟩
  go_wp2_with fail
  go_ret3
  exact ⟨none, 0, rfl, Nts.nil _ _, Nat.le_refl _, hb1⟩
set_option maxRecDepth 100000 in
set_option maxHeartbeats 1000000 in
theorem best_range (A : Option Addr) (c : Nat) (l : List Edg) (f t : Int) (w : World) (hl : l.length ≤ 140737488351232) (hr : Eds w A l) (h : routeCheck l = 0) (hft : ¬ ((1 ≤ f ∧ f ≤ 30) ∧ (1 ≤ t ∧ t ≤ 30))) :
    Calls Try.prog 39 #[.slice A l.length c, iv f, iv t] w (WayRet w Way.none 2) := by
  have hc := routeCheck_calls A c l w hl hr
  rw [h] at hc
  have HC := Lib.hid hc
  clear hc h
  by_cases h1 : f < 1
  · clear hft
    go_enter Try.func39, Try.ntmps39
    go_wp2_with fail
    refine HC.out.mono ?_
    rintro e w1 ⟨rfl, hb1⟩
    go_wp2_with fail
    go_ret3
    exact ⟨none, 0, rfl, Nts.nil _ _, Nat.le_refl _, hb1⟩
  by_cases h2 : 30 < f
  · clear hft
    go_enter Try.func39, Try.ntmps39
    go_wp2_with fail
    refine HC.out.mono ?_
    rintro e w1 ⟨rfl, hb1⟩
    go_wp2_with fail
    go_ret3
    exact ⟨none, 0, rfl, Nts.nil _ _, Nat.le_refl _, hb1⟩
  by_cases h3 : t < 1
  · clear hft
    go_enter Try.func39, Try.ntmps39
    go_wp2_with fail
    refine HC.out.mono ?_
    rintro e w1 ⟨rfl, hb1⟩
    go_wp2_with fail
    go_ret3
    exact ⟨none, 0, rfl, Nts.nil _ _, Nat.le_refl _, hb1⟩
  have h4 : 30 < t := by omega
  clear hft
  go_enter Try.func39, Try.ntmps39
  go_wp2_with fail
  refine HC.out.mono ?_
  rintro e w1 ⟨rfl, hb1⟩
  go_wp2_with fail
  go_ret3
  exact ⟨none, 0, rfl, Nts.nil _ _, Nat.le_refl _, hb1⟩
theorem told_ne {l : List Edg} (hl : ∀ x ∈ l, EdgOk x) {s : Int} (hs : 1 ≤ s ∧ s ≤ 30) {b : St} (hg : Good l s b) (h : Still l b) {v : Int} (e : (b v).at_ ≠ []) : bestOf l s v = b v := by
  have h1 := (still_ends hg h v).1 e
  exact (bestOf_told hl hs v).unique ⟨fun _ => h1, fun e' => absurd e' e⟩
theorem told_empty {l : List Edg} (hl : ∀ x ∈ l, EdgOk x) {s : Int} (hs : 1 ≤ s ∧ s ≤ 30) {b : St} (hg : Good l s b) (h : Still l b) {v : Int} (e : (b v).at_ = []) : bestOf l s v = Way.none := by
  have h1 := (still_ends hg h v).2 e
  have h2 := bestOf_told hl hs v
  by_cases f : (bestOf l s v).at_ = []
  · exact (h2.2 f).1
  · exact absurd (h2.1 f).1 (h1 _)
set_option maxRecDepth 100000 in
set_option maxHeartbeats 8000000 in
theorem best_ok (A : Option Addr) (c : Nat) (l : List Edg) (f t : Nat) (w : World) (hr : Eds w A l) (h : routeCheck l = 0) (hf1 : 1 ≤ f) (hf2 : f ≤ 30) (ht1 : 1 ≤ t) (ht2 : t ≤ 30) :
    Calls Try.prog 39 #[.slice A l.length c, iv f, iv t] w (WayRet w (bestOf l f t) (if (bestOf l f t).at_ = [] then 4 else 0)) := by
  obtain ⟨hl60, hok⟩ := routeCheck_zero h
  have hc := routeCheck_calls A c l w (by omega) hr
  rw [h] at hc
  have HC := Lib.hid hc
  have HE := Lib.hid hok
  have HR := Lib.hid hr
  clear hc h hok hr
  have i1 : ¬ (f : Int) < 1 := by omega
  have i2 : ¬ (30 : Int) < (f : Int) := by omega
  have i3 : ¬ (t : Int) < 1 := by omega
  have i4 : ¬ (30 : Int) < (t : Int) := by omega
  generalize hres : (if (bestOf l f t).at_ = [] then (4 : Int) else 0) = res
  have HRES := Lib.hid hres
  clear hres
  go_enter Try.func39, Try.ntmps39
  go_wp2_with fail
  refine HC.out.mono ?_
  rintro e w1 ⟨rfl, hb1⟩
  have HB1 := Lib.hid hb1
  clear hb1
  have hs1 := HB1.out.size
  go_wp2_with (first | ((with_reducible refine wpList_ways0 ?_); intro w2 hW2 hb2 hs2) | ((with_reducible refine wpList_setWay w1.heap.size (fun _ => Way.none) f ⟨0, [(f : Int)]⟩ (some ⟨w1.heap.size + 1, 0, none⟩) 1 rfl rfl (hW2.stays ((Below.refl _ _).alloc (Nat.le_refl _) _)) hf2 (nts_top (by omega) rfl) (Nat.le_refl _) (by simp) ?_); intro w3 hW3 hf3 hs3))
  have hz3 : w3.heap.size = w1.heap.size + 2 := by simp at hs3; omega
  have hb3 : Below w.heap.size w w3 := hf3 _ _ hs1 (((HB1.out.trans (hb2.mono hs1))).alloc (by omega) _)
  have HB3 := Lib.hid hb3
  have HW3 := Lib.hid hW3
  have hs13 := HB3.out.size
  clear hW2 hb2 hs2 hf3 hs3 hb3 hW3
  generalize hg : w1.heap.size = g at *
  have HG := Lib.hid hg
  clear hg
  have hs3 : w.heap.size ≤ g := hs1
  go_wp2_with fail
  go_loopg [11] (total (St.first f) 30 + 2) (fun k mo wr => ∃ (m : Bool) (b : St), mo = .bool m ∧ Hid (Good l f b) ∧ Hid (WaysAt wr g b) ∧ Hid (Below w.heap.size w wr) ∧ Hid (m = true → total b 30 + 2 ≤ k) ∧ Hid (m = false → Still l b ∧ 1 ≤ k))
  case atStart => exact ⟨true, St.first f, rfl, Lib.hid (first_good l f), HW3, HB3, Lib.hid (fun _ => Nat.le_refl _), Lib.hid (fun e => by cases e)⟩
  case round =>
    rename World => wo
    obtain ⟨m, b, rfl, HGood, HW, HB, HT, HST⟩ := hrel
    cases m with
    | true =>
      clear HST
      have HT := Lib.hid (HT.out rfl)
      go_wp2_with fail
      go_loopw [11, 42] (fun mo i wr => ∃ k : Nat, k ≤ l.length ∧ i = .int .i64 k ∧ mo = .bool (rounds (l.take k) b false).2 ∧ Hid (WaysAt wr g (rounds (l.take k) b false).1) ∧ Hid (Below w.heap.size w wr)) (fun _ i _ => l.length - (intOf i).toNat)
      case atStart => exact ⟨0, Nat.zero_le _, rfl, rfl, HW, HB⟩
      case round =>
        clear HW HB
        rename World => wi
        obtain ⟨k, hk, rfl, rfl, HW, HB⟩ := hrel
        by_cases hlt : k < l.length
        · have hgd := rounds_good HE.out (l.take k) b false (fun _ h => List.mem_of_mem_take h) HGood.out
          have hstep : rounds (l.take (k + 1)) b false = relax l[k] (rounds (l.take k) b false).1 (rounds (l.take k) b false).2 := by rw [List.take_succ_eq_append_getElem hlt, rounds_append]; rfl
          obtain ⟨ex1, ex2, ex3, ex4, ex5, ex6⟩ := HE.out _ (List.getElem_mem hlt)
          obtain ⟨xb, xo, rfl, xs, xc0, xc1, xc2⟩ := HR.out.stays HB.out k hlt
          have HGD := Lib.hid hgd
          have HS := Lib.hid hstep
          clear hgd hstep
          generalize rounds (l.take k) b false = sm at *
          obtain ⟨s, m⟩ := sm
          generalize l[k] = x at *
          obtain ⟨xf, xt, xc⟩ := x
          dsimp only at *
          obtain ⟨nf, rfl⟩ := Int.eq_ofNat_of_zero_le (show 0 ≤ xf by omega)
          obtain ⟨nt, rfl⟩ := Int.eq_ofNat_of_zero_le (show 0 ≤ xt by omega)
          obtain ⟨Af, cf, f0, f1, f2, f3, f4⟩ := HW.out.at_ nf (by omega)
          obtain ⟨At, ct, t0, t1, t2, t3, t4⟩ := HW.out.at_ nt (by omega)
          have hsz := HB.out.size
          have hgw := HW.out.lt
          have i6 : ¬ (31 : Int) ≤ (nf : Int) := by omega
          have i7 : ¬ (31 : Int) ≤ (nt : Int) := by omega
          by_cases he : (s nf).at_ = []
          · have hd : (((s nf).at_.length : Int) == 0) = true := by simp [he]
            have HX : Hid (rounds (l.take (k + 1)) b false = (s, m)) := Lib.hid (by rw [HS.out]; unfold relax; rw [if_pos he])
            clear he HS t0 t1 t2 t3 t4 f2 f3 f4
            go_wp2_with fail
            go_roundw
            case rel => exact ⟨k + 1, by omega, by go_num, by rw [HX.out], by rw [HX.out]; exact Lib.hid (HW.out.stays ((Below.refl _ _).alloc (Nat.le_refl _) _)), Lib.hid (HB.out.alloc hsz _)⟩
            case measure => simp [intOf]; omega
          · have hd : (((s nf).at_.length : Int) == 0) = false := by simp [he]
            have hcost := HGD.out.cost HE.out ⟨by omega, by omega⟩ nf he
            have hlf := HGD.out.len HE.out ⟨by omega, by omega⟩ nf
            have hlt2 := HGD.out.len HE.out ⟨by omega, by omega⟩ nt
            have HW7 : Hid (IntKind.i64.wrap ((s nf).cost + xc) = (s nf).cost + xc) := Lib.hid (IntWalk.i64_in _ (by omega))
            have HX0 : Hid (better ((s nf).on ⟨nf, nt, xc⟩) (s nt) = true → rounds (l.take (k + 1)) b false = (s.set nt ((s nf).on ⟨nf, nt, xc⟩), true)) := Lib.hid (fun e => by rw [HS.out]; unfold relax; rw [if_neg he, if_pos e])
            have HX1 : Hid (better ((s nf).on ⟨nf, nt, xc⟩) (s nt) = false → rounds (l.take (k + 1)) b false = (s, m)) := Lib.hid (fun e => by rw [HS.out]; unfold relax; rw [if_neg he, if_neg (by simpa using e)])
            have hrd : ∀ w', Below (wi.heap.size + 1) (wi.alloc (.cells #[iv nf, iv nt, iv xc] 74)) w' → w'.cell? ⟨wi.heap.size, 0, none⟩ = some (iv nf) ∧ w'.cell? ⟨wi.heap.size, 1, none⟩ = some (iv nt) ∧ w'.cell? ⟨wi.heap.size, 2, none⟩ = some (iv xc) ∧ w'.cell? ⟨g, nf * 2, none⟩ = some (iv (s nf).cost) ∧ w'.cell? ⟨g, nf * 2 + 1, none⟩ = some (.slice Af (s nf).at_.length cf) ∧ Nts w' Af (s nf).at_ := fun w' hb => by
              have hb' : Below (wi.alloc (.cells #[iv nf, iv nt, iv xc] 74)).heap.size (wi.alloc (.cells #[iv nf, iv nt, iv xc] 74)) w' := by simpa using hb
              have hg1 := blk_below (blk_top (w := wi) (o := .cells #[iv nf, iv nt, iv xc] 74) rfl) hb'
              have hb2 : Below wi.heap.size wi w' := ((Below.refl _ _).alloc (Nat.le_refl _) _).trans (hb'.mono (by simp))
              refine ⟨by rw [cell_of_row _ _ _ _ _ _ hg1]; rfl, by rw [cell_of_row _ _ _ _ _ _ hg1]; rfl, by rw [cell_of_row _ _ _ _ _ _ hg1]; rfl, (hb2.cell (p := ⟨g, _, none⟩) hgw).trans f0, (hb2.cell (p := ⟨g, _, none⟩) hgw).trans f1, f2.stays hb2⟩
            have HRD0 := Lib.hid hrd
            have HT2 := Lib.hid t2
            clear hrd HS he t2 t3 t4 f2 f3 f4
            go_wp2_with fail
            have hs4 : (wi.alloc (.cells #[iv nf, iv nt, iv xc] 74)).heap.size = wi.heap.size + 1 := by simp
            have HWo : Hid (WaysAt (wi.alloc (.cells #[iv nf, iv nt, iv xc] 74)) g s) := Lib.hid (HW.out.stays ((Below.refl _ _).alloc (Nat.le_refl _) _))
            have HBo : Hid (Below w.heap.size w (wi.alloc (.cells #[iv nf, iv nt, iv xc] 74))) := Lib.hid (HB.out.alloc hsz _)
            have HT2o : Hid (Nts (wi.alloc (.cells #[iv nf, iv nt, iv xc] 74)) At (s nt).at_) := Lib.hid (HT2.out.stays ((Below.refl _ _).alloc (Nat.le_refl _) _))
            have t0o : Hid ((wi.alloc (.cells #[iv nf, iv nt, iv xc] 74)).cell? ⟨g, nt * 2, none⟩ = some (iv (s nt).cost)) := Lib.hid ((((Below.refl _ _).alloc (Nat.le_refl _) _).cell (p := ⟨g, _, none⟩) hgw).trans t0)
            have t1o : Hid ((wi.alloc (.cells #[iv nf, iv nt, iv xc] 74)).cell? ⟨g, nt * 2 + 1, none⟩ = some (.slice At (s nt).at_.length ct)) := Lib.hid ((((Below.refl _ _).alloc (Nat.le_refl _) _).cell (p := ⟨g, _, none⟩) hgw).trans t1)
            clear f0 f1 t0 t1 xc0 xc1 xc2
            generalize hwo : wi.alloc (.cells #[iv nf, iv nt, iv xc] 74) = wo at *
            have HRD : Hid (∀ w', Below wo.heap.size wo w' → w'.cell? ⟨wi.heap.size, 0, none⟩ = some (iv nf) ∧ w'.cell? ⟨wi.heap.size, 1, none⟩ = some (iv nt) ∧ w'.cell? ⟨wi.heap.size, 2, none⟩ = some (iv xc) ∧ w'.cell? ⟨g, nf * 2, none⟩ = some (iv (s nf).cost) ∧ w'.cell? ⟨g, nf * 2 + 1, none⟩ = some (.slice Af (s nf).at_.length cf) ∧ Nts w' Af (s nf).at_) := Lib.hid (fun w' hb => HRD0.out w' (by rw [← hs4]; exact hb))
            have hgx : wi.heap.size < wo.heap.size := by omega
            clear hwo HRD0 HW HB HT2
            generalize wi.heap.size = gx at *
            refine wp_region_free (by kernel_rfl) (some 53 :: some 54 :: some 55 :: some 56 :: some 57 :: some 58 :: some 59 :: some 60 :: some 61 :: some 62 :: some 63 :: some 64 :: some 65 :: some 66 :: some 67 :: some 68 :: some 69 :: some 70 :: some 71 :: some 14 :: none :: []) (false :: false :: false :: false :: false :: false :: false :: false :: false :: false :: false :: false :: false :: true :: false :: false :: true :: true :: true :: true :: true :: []) (.pointer (some ⟨gx, 0, none⟩) :: iv nf :: .pointer (some ⟨g, nf * 2, none⟩) :: .pointer (some ⟨g, nf * 2, none⟩) :: iv (s nf).cost :: .pointer (some ⟨gx, 2, none⟩) :: iv xc :: iv ((s nf).cost + xc) :: .pointer (some ⟨gx, 0, none⟩) :: iv nf :: .pointer (some ⟨g, nf * 2, none⟩) :: .pointer (some ⟨g, nf * 2 + 1, none⟩) :: .slice Af (s nf).at_.length cf :: undef :: .pointer (some ⟨gx, 1, none⟩) :: iv nt :: undef :: undef :: undef :: undef :: undef :: []) (WayJ wo (s nf).at_ nt ((s nf).cost + xc)) 98 rfl rfl (by decide +kernel) (by decide +kernel) (by decide +kernel) rfl rfl (⟨(Below.refl _ _).drew, (fun h => by cases h), (fun h => by cases h), (fun h => by cases h), (fun h => by cases h), (fun h => by cases h), (fun h => by cases h)⟩) ?_ ?_
            · refine ⟨?_, ?_⟩
              · intro done cv a wq hn hw hcl h hJ
                have e13 := fr_old (t := 13) (v := .pointer (some ⟨gx, 0, none⟩)) h rfl rfl
                go_simp
              refine ⟨?_, ?_⟩
              · intro done cv a wq hn hw hcl h hJ
                have e53 := fr_new (i := 0) (t := 53) h (hw 0 (by decide)) rfl rfl rfl
                obtain ⟨r0, r1, r2, r3, r4, r5⟩ := HRD.out wq (hJ.bel)
                go_simp
              refine ⟨?_, ?_⟩
              · intro done cv a wq hn hw hcl h hJ
                have e10 := fr_old (t := 10) (v := .pointer (some ⟨g, 0, none⟩)) h rfl rfl; have e54 := fr_new (i := 1) (t := 54) h (hw 1 (by decide)) rfl rfl rfl
                go_simp
              refine ⟨?_, ?_⟩
              · intro done cv a wq hn hw hcl h hJ
                have e55 := fr_new (i := 2) (t := 55) h (hw 2 (by decide)) rfl rfl rfl
                go_simp
              refine ⟨?_, ?_⟩
              · intro done cv a wq hn hw hcl h hJ
                have e56 := fr_new (i := 3) (t := 56) h (hw 3 (by decide)) rfl rfl rfl
                obtain ⟨r0, r1, r2, r3, r4, r5⟩ := HRD.out wq (hJ.bel)
                go_simp
              refine ⟨?_, ?_⟩
              · intro done cv a wq hn hw hcl h hJ
                have e13 := fr_old (t := 13) (v := .pointer (some ⟨gx, 0, none⟩)) h rfl rfl
                go_simp
              refine ⟨?_, ?_⟩
              · intro done cv a wq hn hw hcl h hJ
                have e58 := fr_new (i := 5) (t := 58) h (hw 5 (by decide)) rfl rfl rfl
                obtain ⟨r0, r1, r2, r3, r4, r5⟩ := HRD.out wq (hJ.bel)
                go_simp
              refine ⟨?_, ?_⟩
              · intro done cv a wq hn hw hcl h hJ
                have e57 := fr_new (i := 4) (t := 57) h (hw 4 (by decide)) rfl rfl rfl; have e59 := fr_new (i := 6) (t := 59) h (hw 6 (by decide)) rfl rfl rfl
                have hw7 := HW7.out
                go_simp
              refine ⟨?_, ?_⟩
              · intro done cv a wq hn hw hcl h hJ
                have e13 := fr_old (t := 13) (v := .pointer (some ⟨gx, 0, none⟩)) h rfl rfl
                go_simp
              refine ⟨?_, ?_⟩
              · intro done cv a wq hn hw hcl h hJ
                have e61 := fr_new (i := 8) (t := 61) h (hw 8 (by decide)) rfl rfl rfl
                obtain ⟨r0, r1, r2, r3, r4, r5⟩ := HRD.out wq (hJ.bel)
                go_simp
              refine ⟨?_, ?_⟩
              · intro done cv a wq hn hw hcl h hJ
                have e10 := fr_old (t := 10) (v := .pointer (some ⟨g, 0, none⟩)) h rfl rfl; have e62 := fr_new (i := 9) (t := 62) h (hw 9 (by decide)) rfl rfl rfl
                go_simp
              refine ⟨?_, ?_⟩
              · intro done cv a wq hn hw hcl h hJ
                have e63 := fr_new (i := 10) (t := 63) h (hw 10 (by decide)) rfl rfl rfl
                go_simp
              refine ⟨?_, ?_⟩
              · intro done cv a wq hn hw hcl h hJ
                have e64 := fr_new (i := 11) (t := 64) h (hw 11 (by decide)) rfl rfl rfl
                obtain ⟨r0, r1, r2, r3, r4, r5⟩ := HRD.out wq (hJ.bel)
                go_simp
              refine ⟨?_, ?_⟩
              · intro done cv a wq hn hw hcl h hJ
                have e65 := fr_new (i := 12) (t := 65) h (hw 12 (by decide)) rfl rfl rfl
                obtain ⟨r0, r1, r2, r3, r4, r5⟩ := HRD.out wq (hJ.bel)
                refine wp_cloneInts e65 ?_
                refine (cloneInts_calls Af _ cf ((s nf).at_.map iv) wq (by simp) (by omega) r5.src (by simp [Value.oneCell'])).mono ?_
                rintro e w' ⟨A', c', rfl, ho, hb⟩
                have h17 : done 17 = false := by
                  cases hd : done 17 with
                  | false => rfl
                  | true => have := hcl 17 _ rfl hd 13 (by decide); rw [hn] at this; cases this
                have h18 : done 18 = false := by
                  cases hd : done 18 with
                  | false => rfl
                  | true => have := hcl 18 _ rfl hd 17 (by decide); rw [h17] at this; cases this
                have h20 : done 20 = false := by
                  cases hd : done 20 with
                  | false => rfl
                  | true => have := hcl 20 _ rfl hd 18 (by decide); rw [h18] at this; cases this
                exact ⟨_, rfl, _, rfl, hJ.clone (by simp [maskB, h17]) (by simp [maskB, h18]) (by simp [maskB, h20]) ho hb⟩
              refine ⟨?_, ?_⟩
              · intro done cv a wq hn hw hcl h hJ
                have e13 := fr_old (t := 13) (v := .pointer (some ⟨gx, 0, none⟩)) h rfl rfl
                go_simp
              refine ⟨?_, ?_⟩
              · intro done cv a wq hn hw hcl h hJ
                have e67 := fr_new (i := 14) (t := 67) h (hw 14 (by decide)) rfl rfl rfl
                obtain ⟨r0, r1, r2, r3, r4, r5⟩ := HRD.out wq (hJ.bel)
                go_simp
              refine ⟨?_, ?_⟩
              · intro done cv a wq hn hw hcl h hJ
                have e68 := fr_new (i := 15) (t := 68) h (hw 15 (by decide)) rfl rfl rfl
                have h17 : done 17 = false := by
                  cases hd : done 17 with
                  | false => rfl
                  | true => have := hcl 17 _ rfl hd 16 (by decide); rw [hn] at this; cases this
                have h18 : done 18 = false := by
                  cases hd : done 18 with
                  | false => rfl
                  | true => have := hcl 18 _ rfl hd 17 (by decide); rw [h17] at this; cases this
                have h20 : done 20 = false := by
                  cases hd : done 20 with
                  | false => rfl
                  | true => have := hcl 20 _ rfl hd 18 (by decide); rw [h18] at this; cases this
                exact wp_sl1 e68 ⟨_, rfl, hJ.one (by simp [maskB, h17]) (by simp [maskB, h18]) (by simp [maskB, h20])⟩
              refine ⟨?_, ?_⟩
              · intro done cv a wq hn hw hcl h hJ
                have e66 := fr_cv (i := 13) (t := 66) h (hw 13 (by decide)) rfl rfl; have e69 := fr_cv (i := 16) (t := 69) h (hw 16 (by decide)) rfl rfl
                have h18 : done 18 = false := by
                  cases hd : done 18 with
                  | false => rfl
                  | true => have := hcl 18 _ rfl hd 17 (by decide); rw [hn] at this; cases this
                have h20 : done 20 = false := by
                  cases hd : done 20 with
                  | false => rfl
                  | true => have := hcl 20 _ rfl hd 18 (by decide); rw [h18] at this; cases this
                have d13 := hw 13 (by decide)
                have d16 := hw 16 (by decide)
                have m17 : maskB (false :: false :: false :: false :: false :: false :: false :: false :: false :: false :: false :: false :: false :: true :: false :: false :: true :: true :: true :: true :: true :: []) done 17 = false := by simp [maskB, hn]
                have m13 : maskB (false :: false :: false :: false :: false :: false :: false :: false :: false :: false :: false :: false :: false :: true :: false :: false :: true :: true :: true :: true :: true :: []) done 13 = true := by simp [maskB, d13]
                have m16 : maskB (false :: false :: false :: false :: false :: false :: false :: false :: false :: false :: false :: false :: false :: true :: false :: false :: true :: true :: true :: true :: true :: []) done 16 = true := by simp [maskB, d16]
                obtain ⟨Aa, ca, x1, x2⟩ := hJ.f13 m13 m17
                obtain ⟨bb, y1, y2, y3, y4⟩ := hJ.f16 m16 m17
                rw [x1] at e66
                rw [y1] at e69
                refine wp_app wq (.tmp 66) (.tmp 69) 24 rfl elInts _ Aa (s nf).at_.length ca ((s nf).at_.map iv) (ch_ev e66) x2 (some ⟨bb, 0, none⟩) 1 1 [iv nt] (ch_ev e69) (src_blk1 y3) rfl (by simp [Value.oneCell']) (by omega) hJ.bel.size ?_
                intro A' c' w' hown hgr hb hor
                exact ⟨_, rfl, hJ.app m17 (by simp [maskB, h18]) (by simp [maskB, h20]) m13 x1 hown hgr hb hor⟩
              refine ⟨?_, ?_⟩
              · intro done cv a wq hn hw hcl h hJ
                have e60 := fr_new (i := 7) (t := 60) h (hw 7 (by decide)) rfl rfl rfl; have e70 := fr_cv (i := 17) (t := 70) h (hw 17 (by decide)) rfl rfl
                have h20 : done 20 = false := by
                  cases hd : done 20 with
                  | false => rfl
                  | true => have := hcl 20 _ rfl hd 18 (by decide); rw [hn] at this; cases this
                have d17 := hw 17 (by decide)
                have m17 : maskB (false :: false :: false :: false :: false :: false :: false :: false :: false :: false :: false :: false :: false :: true :: false :: false :: true :: true :: true :: true :: true :: []) done 17 = true := by simp [maskB, d17]
                obtain ⟨Aa, ca, x1, x2, x3, x4⟩ := hJ.f17 m17
                have hv := hJ.val m17 (by simp [maskB, h20])
                rw [x1] at e70 hv
                exact wp_wayb e60 e70 ⟨_, rfl, hv⟩
              refine ⟨?_, ?_⟩
              · intro done cv a wq hn hw hcl h hJ
                have h20 : done 20 = false := by
                  cases hd : done 20 with
                  | false => rfl
                  | true => have := hcl 20 _ rfl hd 19 (by decide); rw [hn] at this; cases this
                exact wp_way0 ⟨_, rfl, hJ.blk (by simp [maskB, h20])⟩
              refine ⟨?_, ?_⟩
              · intro done cv a wq hn hw hcl h hJ
                have e14 := fr_cv (i := 19) (t := 14) h (hw 19 (by decide)) rfl rfl; have e71 := fr_cv (i := 18) (t := 71) h (hw 18 (by decide)) rfl rfl
                have d17 := hw 17 (by decide)
                have d18 := hw 18 (by decide)
                have d19 := hw 19 (by decide)
                have m17 : maskB (false :: false :: false :: false :: false :: false :: false :: false :: false :: false :: false :: false :: false :: true :: false :: false :: true :: true :: true :: true :: true :: []) done 17 = true := by simp [maskB, d17]
                have m18 : maskB (false :: false :: false :: false :: false :: false :: false :: false :: false :: false :: false :: false :: false :: true :: false :: false :: true :: true :: true :: true :: true :: []) done 18 = true := by simp [maskB, d18]
                have m19 : maskB (false :: false :: false :: false :: false :: false :: false :: false :: false :: false :: false :: false :: false :: true :: false :: false :: true :: true :: true :: true :: true :: []) done 19 = true := by simp [maskB, d19]
                have m20 : maskB (false :: false :: false :: false :: false :: false :: false :: false :: false :: false :: false :: false :: false :: true :: false :: false :: true :: true :: true :: true :: true :: []) done 20 = false := by simp [maskB, hn]
                obtain ⟨q, q1, q2, q3, q4, q5⟩ := hJ.f19 m19 m20
                obtain ⟨Aa, ca, x1, x2, x3, x4⟩ := hJ.f17 m17
                have hv := hJ.f18 m18
                rw [q1] at e14
                rw [hv, x1] at e71
                refine wp_ways e14 e71 q3 ?_
                intro w' g1 g2 g3 g4
                exact ⟨undef, rfl, hJ.laid m17 q1 q2 (q5 m17) (by rw [x1]; exact g1) g2 g4 _⟩
              exact trivial
            · rintro d cv w4 hd4 hJ
              obtain ⟨gb, An, cn, e17, e19, hN0, ⟨TN, hN1⟩, hN2, hN3, hN4, hN5⟩ := hJ.all (hd4 17 rfl (by decide)) (hd4 20 rfl (by decide))
              dsimp only at hN1 hN2 hN3
              have hwf := HWo.out.frozen
              have hwl := HWo.out.lt
              have HN4 := Lib.hid hN4
              have HNN := Lib.hid hN2
              have hbc := better_calls An At cn ct ((s nf).on ⟨nf, nt, xc⟩) (s nt)
              simp only [Way.on, List.length_append, List.length_cons, List.length_nil, Nat.zero_add] at hbc
              generalize hbt : better ((s nf).on ⟨nf, nt, xc⟩) (s nt) = bt at *
              have hbc2 : ∀ wq, Nts wq An ((s nf).at_ ++ [(nt : Int)]) → Nts wq At (s nt).at_ → Calls Try.prog 56 #[.agg #[iv ((s nf).cost + xc), .slice An ((s nf).at_.length + 1) cn], .agg #[iv (s nt).cost, .slice At (s nt).at_.length ct]] wq (RetB wq (.bool bt)) := fun wq q1 q2 => by
                have := hbc wq (by omega) (by omega) q1 q2
                simp only [Way.on] at hbt
                rwa [hbt] at this
              have HBT := Lib.hid hbc2
              have hrq : ∀ w', Below w4.heap.size w4 w' → w'.cell? ⟨gb, 0, none⟩ = some (iv ((s nf).cost + xc)) ∧ w'.cell? ⟨gb, 1, none⟩ = some (.slice An ((s nf).at_.length + 1) cn) ∧ w'.cell? ⟨gx, 1, none⟩ = some (iv nt) ∧ w'.cell? ⟨g, nt * 2, none⟩ = some (iv (s nt).cost) ∧ w'.cell? ⟨g, nt * 2 + 1, none⟩ = some (.slice At (s nt).at_.length ct) ∧ Nts w' An ((s nf).at_ ++ [(nt : Int)]) ∧ Nts w' At (s nt).at_ := fun w' hb => by
                have hb2 := HN4.out.trans (hb.mono HN4.out.size)
                have hg1 := blk_below hN1 hb
                refine ⟨by rw [cell_of_row _ _ _ _ _ _ hg1]; rfl, by rw [cell_of_row _ _ _ _ _ _ hg1]; simp, (HRD.out w' hb2).2.1, (hb2.cell (p := ⟨g, _, none⟩) hwl).trans t0o.out, (hb2.cell (p := ⟨g, _, none⟩) hwl).trans t1o.out, HNN.out.stays hb, HT2o.out.stays hb2⟩
              have HRQ := Lib.hid hrq
              have HN1 := Lib.hid hN1
              have HN5 := Lib.hid hN5
              clear hbc hbc2 hN1 hN2 hN4 hN5 hrq hJ hwf
              simp only [freeAll, putAll_some, putAll_none, putAll_nil, List.getD_cons_zero, List.getD_cons_succ, Nat.zero_add, Nat.reduceAdd, List.setIfInBounds_toArray, List.set_cons_zero, List.set_cons_succ, if_true, if_false, Bool.false_eq_true, e17, e19]
              go_wp2_with fail
              refine wp_region_chain (by kernel_rfl) (some 72 :: some 73 :: some 74 :: some 75 :: some 76 :: some 77 :: []) (.agg #[iv ((s nf).cost + xc), .slice An ((s nf).at_.length + 1) cn] :: .pointer (some ⟨gx, 1, none⟩) :: iv nt :: .pointer (some ⟨g, nt * 2, none⟩) :: .agg #[iv (s nt).cost, .slice At (s nt).at_.length ct] :: .bool bt :: []) 98 rfl rfl (by decide +kernel) (by decide +kernel) (by decide +kernel) rfl ?_ ?_
              · refine ⟨.inl ⟨rfl, fun done a wq hw h => ?_⟩, ?_⟩
                · have e14 := ch_old (t := 14) (v := .pointer (some ⟨gb, 0, none⟩)) h rfl rfl; obtain ⟨r0, r1, r2, r3, r4, r5, r6⟩ := HRQ.out wq ((Below.refl _ _).drew.trans h.bel); refine ch_pure ?_; go_simp
                refine ⟨.inl ⟨rfl, fun done a wq hw h => ?_⟩, ?_⟩
                · have e13 := ch_old (t := 13) (v := .pointer (some ⟨gx, 0, none⟩)) h rfl rfl; refine ch_pure ?_; go_simp
                refine ⟨.inl ⟨rfl, fun done a wq hw h => ?_⟩, ?_⟩
                · have e73 := ch_new (i := 1) (t := 73) h (hw 1 (by decide)) rfl rfl; obtain ⟨r0, r1, r2, r3, r4, r5, r6⟩ := HRQ.out wq ((Below.refl _ _).drew.trans h.bel); refine ch_pure ?_; go_simp
                refine ⟨.inl ⟨rfl, fun done a wq hw h => ?_⟩, ?_⟩
                · have e10 := ch_old (t := 10) (v := .pointer (some ⟨g, 0, none⟩)) h rfl rfl; have e74 := ch_new (i := 2) (t := 74) h (hw 2 (by decide)) rfl rfl; refine ch_pure ?_; go_simp
                refine ⟨.inl ⟨rfl, fun done a wq hw h => ?_⟩, ?_⟩
                · have e75 := ch_new (i := 3) (t := 75) h (hw 3 (by decide)) rfl rfl; obtain ⟨r0, r1, r2, r3, r4, r5, r6⟩ := HRQ.out wq ((Below.refl _ _).drew.trans h.bel); refine ch_pure ?_; go_simp
                refine ⟨.inl ⟨rfl, fun done a wq hw h => ?_⟩, ?_⟩
                · have e72 := ch_new (i := 0) (t := 72) h (hw 0 (by decide)) rfl rfl; have e76 := ch_new (i := 4) (t := 76) h (hw 4 (by decide)) rfl rfl; obtain ⟨r0, r1, r2, r3, r4, r5, r6⟩ := HRQ.out wq ((Below.refl _ _).drew.trans h.bel); exact ch_call (by go_simp) (by go_simp) (HBT.out _ r5 r6)
                exact trivial
              · intro w5 hb5
                simp only [putAll_some, putAll_none, putAll_nil, List.setIfInBounds_toArray, List.set_cons_zero, List.set_cons_succ]
                have HB5 : Hid (Below w.heap.size w w5) := Lib.hid ((HBo.out.trans (HN4.out.mono HBo.out.size)).trans (hb5.mono (Nat.le_trans HBo.out.size HN4.out.size)))
                have HW5 : Hid (WaysAt w5 g s) := Lib.hid ((HWo.out.stays HN4.out).stays hb5)
                obtain ⟨r0, r1, r2, -, -, r5, -⟩ := HRQ.out w5 hb5
                have HR5 := Lib.hid r5
                clear r5 hb5
                cases bt with
                | false =>
                  have HX := Lib.hid (HX1.out rfl)
                  clear HX0 HX1
                  go_wp2_with fail
                  go_roundw
                  case rel => exact ⟨k + 1, by omega, by go_num, by rw [HX.out], by rw [HX.out]; exact HW5, HB5⟩
                  case measure => simp [intOf]; omega
                | true =>
                  have HX := Lib.hid (HX0.out rfl)
                  clear HX0 HX1
                  go_wp2_with (with_reducible refine wpList_setWay g s nt ⟨(s nf).cost + xc, (s nf).at_ ++ [(nt : Int)]⟩ An cn ?_ ?_ ?_ ?_ ?_ ?_ ?_ ?_)
                  · exact HW5.out
                  · omega
                  · exact HR5.out
                  · simpa using hN3
                  · exact fun e => by have := HN5.out g e; omega
                  intro w6 hW6 hf6 hs6
                  have HW6 := Lib.hid hW6
                  have HB6 := Lib.hid (hf6 _ _ (Nat.le_trans hs1 (Nat.le_refl _)) HB5.out)
                  clear hW6 hf6
                  go_wp2_with fail
                  go_roundw
                  case rel => exact ⟨k + 1, by omega, by go_num, by rw [HX.out], by rw [HX.out]; exact HW6, HB6⟩
                  case measure => simp [intOf]; omega
        · obtain rfl : k = l.length := by omega
          rw [List.take_length] at *
          have hg2 := rounds_good HE.out l b false (fun _ h => h) HGood.out
          have htot := rounds_total HE.out ⟨by omega, by omega⟩ l b false (fun _ h => h) HGood.out
          have hstl := rounds_still l b false
          have HG2 := Lib.hid hg2
          have HTO := Lib.hid htot
          have HSL := Lib.hid hstl
          clear hg2 htot hstl
          generalize rounds l b false = sm at *
          obtain ⟨s, m⟩ := sm
          go_wp2_with fail
          go_roundg (if m = true then total s 30 + 2 else 1)
          case measure =>
            have h1 : total b 30 + 2 ≤ gk := by simpa using HT.out
            have h2 := HTO.out.2
            clear HTO HSL HT
            cases m with
            | true =>
              rcases h2 rfl with e | e
              · cases e
              · rw [if_pos rfl]; omega
            | false => rw [if_neg (by simp)]; omega
          case rel =>
            refine ⟨m, s, rfl, HG2, HW, HB, Lib.hid (fun e => ?_), Lib.hid (fun e => ?_)⟩
            · rw [if_pos e]; exact Nat.le_refl _
            · subst e
              obtain ⟨e1, _, e3⟩ := HSL.out rfl
              try dsimp only at e1
              rw [e1]
              exact ⟨e3, by simp⟩
    | false =>
      have hst := (HST.out rfl).1
      have htl := fun e => told_ne HE.out ⟨by omega, by omega⟩ HGood.out hst (v := (t : Int)) e
      have hte := fun e => told_empty HE.out ⟨by omega, by omega⟩ HGood.out hst (v := (t : Int)) e
      have hlen := HGood.out.len HE.out ⟨by omega, by omega⟩ (t : Int)
      have HLN := Lib.hid hlen
      obtain ⟨At, ct, q0, q1, q2, q3, q4⟩ := HW.out.at_ t ht2
      have hrd : ∀ w', Below wo.heap.size wo w' → w'.cell? ⟨g, t * 2, none⟩ = some (iv (b t).cost) ∧ w'.cell? ⟨g, t * 2 + 1, none⟩ = some (.slice At (b t).at_.length ct) ∧ Nts w' At (b t).at_ := fun w' hb => ⟨(hb.cell (p := ⟨g, _, none⟩) HW.out.lt).trans q0, (hb.cell (p := ⟨g, _, none⟩) HW.out.lt).trans q1, q2.stays hb⟩
      have HRD := Lib.hid hrd
      have HTL := Lib.hid htl
      have HTE := Lib.hid hte
      clear HST HT hst htl hte hlen q2 q3 q4 hrd
      by_cases he : (b t).at_ = []
      · have hd : (((b t).at_.length : Int) == 0) = true := by simp [he]
        have HX := Lib.hid (HTE.out he)
        clear he
        go_wp2_with fail
        go_ret3
        refine ⟨none, 0, ret3 (by rw [HX.out]; rfl) (by rw [HX.out]; rfl) (int_eq (by rw [← HRES.out, HX.out]; rfl)), ?_, ?_, HB.out⟩
        · rw [HX.out]; exact Nts.nil _ _
        · rw [HX.out]; exact Nat.le_refl _
      · have hd : (((b t).at_.length : Int) == 0) = false := by simp [he]
        have i5 : ¬ (31 : Int) ≤ (t : Int) := by omega
        have HX := Lib.hid he
        clear he
        go_wp2_with fail
        refine wp_region_free (by kernel_rfl) (some 89 :: some 90 :: some 91 :: some 92 :: some 93 :: some 94 :: some 95 :: some 96 :: some 97 :: some 6 :: some 7 :: some 8 :: []) (false :: false :: false :: false :: true :: false :: false :: false :: false :: true :: false :: false :: []) (iv t :: .pointer (some ⟨g, t * 2, none⟩) :: .pointer (some ⟨g, t * 2 + 1, none⟩) :: .slice At (b t).at_.length ct :: undef :: iv t :: .pointer (some ⟨g, t * 2, none⟩) :: .pointer (some ⟨g, t * 2, none⟩) :: iv (b t).cost :: undef :: iv (b t).cost :: .int .i64 0 :: []) (fun d cv w => Below wo.heap.size wo w ∧ (d 4 = true → ∃ A c, cv 4 = .slice A (b t).at_.length c ∧ Nts w A (b t).at_ ∧ (b t).at_.length ≤ c) ∧ (d 9 = true → cv 9 = cv 4)) 98 rfl rfl (by decide +kernel) (by decide +kernel) (by decide +kernel) rfl rfl (⟨(Below.refl _ _).drew, (fun h => by cases h), (fun h => by cases h)⟩) ?_ ?_
        · refine ⟨?_, ?_⟩
          · intro done cv a wq hn hw hcl h hJ
            have e2 := fr_old (t := 2) (v := iv t) h rfl rfl
            exact mx_move (ch_ev e2)
          refine ⟨?_, ?_⟩
          · intro done cv a wq hn hw hcl h hJ
            have e10 := fr_old (t := 10) (v := .pointer (some ⟨g, 0, none⟩)) h rfl rfl; have e89 := fr_new (i := 0) (t := 89) h (hw 0 (by decide)) rfl rfl rfl
            go_simp
          refine ⟨?_, ?_⟩
          · intro done cv a wq hn hw hcl h hJ
            have e90 := fr_new (i := 1) (t := 90) h (hw 1 (by decide)) rfl rfl rfl
            go_simp
          refine ⟨?_, ?_⟩
          · intro done cv a wq hn hw hcl h hJ
            have e91 := fr_new (i := 2) (t := 91) h (hw 2 (by decide)) rfl rfl rfl
            obtain ⟨r0, r1, r2⟩ := HRD.out wq hJ.1
            go_simp
          refine ⟨?_, ?_⟩
          · intro done cv a wq hn hw hcl h hJ
            have e92 := fr_new (i := 3) (t := 92) h (hw 3 (by decide)) rfl rfl rfl
            obtain ⟨r0, r1, r2⟩ := HRD.out wq hJ.1
            refine wp_cloneInts e92 ?_
            refine (cloneInts_calls At _ ct ((b t).at_.map iv) wq (by simp) (by have := HLN.out; omega) r2.src (by simp [Value.oneCell'])).mono ?_
            rintro e w' ⟨A', c', rfl, ho, hb⟩
            have hsz := hJ.1.size
            have h9 : done 9 = false := by
              cases hd : done 9 with
              | false => rfl
              | true => have := hcl 9 _ rfl hd 4 (by decide); rw [hn] at this; cases this
            exact ⟨_, rfl, _, rfl, hJ.1.trans (hb.mono hsz), fun _ => ⟨A', c', rfl, ho.src.nts, ho.le⟩, fun h => by simp [maskB, h9] at h⟩
          refine ⟨?_, ?_⟩
          · intro done cv a wq hn hw hcl h hJ
            have e2 := fr_old (t := 2) (v := iv t) h rfl rfl
            exact mx_move (ch_ev e2)
          refine ⟨?_, ?_⟩
          · intro done cv a wq hn hw hcl h hJ
            have e10 := fr_old (t := 10) (v := .pointer (some ⟨g, 0, none⟩)) h rfl rfl; have e94 := fr_new (i := 5) (t := 94) h (hw 5 (by decide)) rfl rfl rfl
            go_simp
          refine ⟨?_, ?_⟩
          · intro done cv a wq hn hw hcl h hJ
            have e95 := fr_new (i := 6) (t := 95) h (hw 6 (by decide)) rfl rfl rfl
            go_simp
          refine ⟨?_, ?_⟩
          · intro done cv a wq hn hw hcl h hJ
            have e96 := fr_new (i := 7) (t := 96) h (hw 7 (by decide)) rfl rfl rfl
            obtain ⟨r0, r1, r2⟩ := HRD.out wq hJ.1
            go_simp
          refine ⟨?_, ?_⟩
          · intro done cv a wq hn hw hcl h hJ
            have e93 := fr_cv (i := 4) (t := 93) h (hw 4 (by decide)) rfl rfl
            have h4 := hw 4 (by decide)
            unfold Oper.wp
            rw [mx_assign (ch_ev e93)]
            exact ⟨_, rfl, hJ.1, fun _ => hJ.2.1 (by simp [maskB, h4]), fun _ => rfl⟩
          refine ⟨?_, ?_⟩
          · intro done cv a wq hn hw hcl h hJ
            have e97 := fr_new (i := 8) (t := 97) h (hw 8 (by decide)) rfl rfl rfl
            exact mx_assign (ch_ev e97)
          refine ⟨?_, ?_⟩
          · intro done cv a wq hn hw hcl h hJ
            exact mx_assign rfl
          exact trivial
        · rintro d cv w4 hd4 ⟨hb4, hv, hv9⟩
          obtain ⟨A', c', e4, n4, l4⟩ := hv (hd4 4 rfl (by decide))
          have e9 := hv9 (hd4 9 rfl (by decide))
          have HB4 := Lib.hid (HB.out.trans (hb4.mono HB.out.size))
          have HN := Lib.hid n4
          clear hb4 n4 hv hv9
          simp only [freeAll, putAll_some, putAll_none, putAll_nil, List.getD_cons_zero, List.getD_cons_succ, Nat.zero_add, Nat.reduceAdd, List.setIfInBounds_toArray, List.set_cons_zero, List.set_cons_succ, if_true, if_false, Bool.false_eq_true, e9, e4]
          go_wp2_with fail
          go_ret3
          refine ⟨A', c', ret3 (by rw [HTL.out HX.out]; rfl) (by rw [HTL.out HX.out]; rfl) (int_eq (by rw [← HRES.out, HTL.out HX.out, if_neg HX.out])), ?_, ?_, HB4.out⟩
          · rw [HTL.out HX.out]; exact HN.out
          · rw [HTL.out HX.out]; exact l4
end Go.Proofs.Ytefkfglkpebbmaa
