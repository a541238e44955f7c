/- Walks of functions, and plain words. No conditions. -/
import Derived.Test.YtefkfglkpebbmacP7
set_option linter.unusedVariables false
set_option linter.unusedSimpArgs false
set_option maxRecDepth 100000
set_option maxHeartbeats 40000000
namespace Go.Proofs.Ytefkfglkpebbmac
open Go.RowKit
def DelE (w : World) (base n c : Nat) (g : Nat) (out : List Value) : Ending → World → Prop := fun en w' =>
 en = .returned (.slice (some ⟨g, 0, none⟩) (n - 1) c) ∧ Own w' base 24 1 (some ⟨g, 0, none⟩) (n - 1) c out ∧ Below base w w' ∧ w'.heap.size = w.heap.size ∧ (∀ k, k ≠ g → w'.heap[k]? = w.heap[k]?)
def delE (w0 : World) (g n c : Nat) (w1 : World) : Nat → (Nat → Value) → World → Prop
 | 0, _, w => w = w0.drew
 | 1, cv, w => w = w1.drew ∧ cv 6 = .slice (some ⟨g, 0, none⟩) (n - 1) c
 | _, cv, w => w = w1.drew ∧ cv 7 = .slice (some ⟨g, 0, none⟩) (n - 1) c
theorem delE_list (L cs Z : List Value) (i n : Nat) (hL : n ≤ L.length) (hi : i < n) (hc : cs = (L.take (n)).drop (i + 1)) (hZ : Z.length = 1) :
  (over (over L i cs) (n - 1) Z).take (n - 1) = (L.take (n)).take i ++ (L.take (n)).drop (i + 1) ∧ (over (over L i cs) (n - 1) Z).length = L.length := by
 have hcl : cs.length = n - (i + 1) := by rw [hc]; simp; omega
 have h1 : (over L i cs).length = L.length := by unfold over; simp; omega
 constructor
 ·unfold over
  have e1 : (L.take i ++ cs).length = n - 1 := by simp; omega
  rw [List.append_assoc, List.take_append_of_le_length (by simp; omega), List.take_take, Nat.min_self, List.take_append_of_le_length (by omega), List.take_of_length_le (by omega), hc]
  congr 1
  rw [List.take_take]
  congr 1
  omega
 ·unfold over at h1 ⊢
  simp at h1 ⊢
  omega
theorem delErr_calls (g n c i : Nat) (xs : List Value) (wo : World) (base : Nat) (hO : Own wo base 24 1 (some ⟨g, 0, none⟩) n c xs) (h2 : ∀ u ∈ xs, u.oneCell' = true) (hi : i < n) (hn : n ≤ 1000) :
  Calls Try.prog 133 #[.slice (some ⟨g, 0, none⟩) n c, iv (i : Int), iv ((i : Int) + 1)] wo (DelE wo base n c g (xs.take i ++ xs.drop (i + 1))) := by
 have hle := hO.le
 obtain ⟨hxl, ⟨hv0, _⟩ | ⟨g', cap, cur, hv0, hbg, hgc, hncap, hmax, hcs, hxs0⟩⟩ := hO
 ·cases hv0
 injection hv0 with e1 e2 e3
 injection e1 with e1
 injection e1 with e1 e4
 subst e1 e3
 obtain ⟨L, hL⟩ : ∃ L, cur.toList = L := ⟨_, rfl⟩
 have hcur : cur = L.toArray := by rw [← hL]
 subst hcur
 simp only [List.size_toArray] at hcs
 have hxs : xs = L.take (n) := by simpa using hxs0.symm
 subst hxs
 have hgl := blk_lt hgc
 obtain ⟨cs, hcs2⟩ : ∃ cs, (L.take (n)).drop (i + 1) = cs := ⟨_, rfl⟩
 have hcl : cs.length = n - (i + 1) := by rw [← hcs2]; simp; omega
 have h3 : ∀ u ∈ cs, u.oneCell' = true := fun u hu => h2 u (by rw [← hcs2] at hu; exact List.mem_of_mem_drop hu)
 have k0 : 0 < c := by omega
 have HS0 : ∀ wq, (Instr.slice 90 (.slice (some ⟨g, 0, none⟩) n c) (some (.int .i64 (i : Int))) (some (.int .i64 ((i : Int) + 1))) (some (.int .i64 (n : Int)))).run Try.prog wq = .ok (.slice (some ⟨g, i, none⟩) 1 (n - i)) wq := fun wq => by
  have k1 : (i : Int) ≤ (i : Int) + 1 := by omega
  have k2 : (i : Int) + 1 ≤ (n : Int) := by omega
  have k3 : (n : Int) ≤ (c : Int) := by omega
  have k4 : ((i : Int) + 1).toNat = i + 1 := by omega
  have k5 : (0 : Int) ≤ (i : Int) + 1 := by omega
  have k6 : i + 1 - i = 1 := by omega
  have k7 : ¬ n = i := by omega
  go_simp
 have HS1 : Hid (∀ wq, (Instr.slice 90 (.slice (some ⟨g, 0, none⟩) n c) none (some (.int .i64 (i : Int))) none).run Try.prog wq = .ok (.slice (some ⟨g, 0, none⟩) i c) wq) := hD (fun wq => by
  have k1 : ¬ c = 0 := by omega
  have k2 : (i : Int) ≤ (c : Int) := by omega
  go_simp)
 obtain ⟨a2, c2, hs2, hcell⟩ : ∃ a2 c2, (∀ wq, (Instr.slice 90 (.slice (some ⟨g, 0, none⟩) n c) (some (.int .i64 ((i : Int) + 1))) none none).run Try.prog wq = .ok (.slice (some a2) (n - (i + 1)) c2) wq) ∧ (∀ j u, cs[j]? = some u → wo.cell? (a2.add j) = some u) := by
  have k2 : (i : Int) + 1 ≤ (n : Int) := by omega
  have k4 : ((i : Int) + 1).toNat = i + 1 := by omega
  have k5 : (0 : Int) ≤ (i : Int) + 1 := by omega
  by_cases e : c = i + 1
  ·refine ⟨⟨g, 0, none⟩, 0, fun wq => ?_, fun j u hu => ?_⟩
   ·have k6 : n = i + 1 := by omega
    subst k6
    subst e
    go_simp
   ·have : cs = [] := List.eq_nil_of_length_eq_zero (by rw [hcl]; omega)
    rw [this] at hu; simp at hu
  ·refine ⟨⟨g, i + 1, none⟩, c - (i + 1), fun wq => ?_, fun j u hu => ?_⟩
   ·go_simp
   ·rw [← hcs2, List.getElem?_drop] at hu
    have hj : i + 1 + j < (L.take (n)).length := (List.getElem?_eq_some_iff.1 hu).1
    rw [List.length_take] at hj
    have e5 : (⟨g, i + 1, none⟩ : Addr).add j = ⟨g, i + 1 + j, none⟩ := by simp [Addr.add]
    rw [e5, cell_of_row _ _ _ _ _ _ hgc]
    rw [List.getElem?_take, if_pos (by omega)] at hu
    simpa using hu
 have HS2 := hD hs2
 obtain ⟨w1, hw1⟩ : ∃ w1, wo.setRow g (over L i cs).toArray = w1 := ⟨_, rfl⟩
 have hi1 : (Try.prog.info? 24).map (fun t => t.size) = some 1 := by kernel_rfl
 have HA : Hid (∀ (ty : TypeId) (q : Unit), (Builtin.append_ #[90, 90] ty #[.slice (some ⟨g, 0, none⟩) i c, .slice (some a2) (n - (i + 1)) c2]).run Try.prog wo.drew = .ok (.slice (some ⟨g, 0, none⟩) (n - 1) c) w1.drew) := hD (fun ty q => by
  cases hq : Try.prog.info? 24 with
  | none => rw [hq] at hi1; cases hi1
  | some t =>
   rw [hq] at hi1
   have ht1 : t.size = 1 := by simpa using hi1
   have hgd : wo.drew.heap[g]? = some (.cells L.toArray 24 (0, 0)) := hgc
   have h9 := run_append_room_cells (P := Try.prog) wo.drew 90 ty 24 t Try.underlying90 hq g 0 i c a2 (n - (i + 1)) c2 cs (by rw [ht1, Nat.mul_one]; exact hcl) (fun j u hu => hcell j u hu) h3 (by omega)
    (fun j hj => by rw [ht1, cell_of_row _ _ _ _ _ _ hgd]; simp; omega) (fun j hj => frozen_of_row _ _ _ _ _ hgd)
   rw [h9, ht1, show i + (n - (i + 1)) = n - 1 by omega, setRow_eq hgd cs (by simp; omega), ← hw1]
   congr 1
   rw [Nat.zero_add, drew_setRowD, Nat.mul_one]
   congr 2)
 have hw1g : w1.heap[g]? = some (.cells (over L i cs).toArray 24 (0, 0)) := by rw [← hw1]; exact setRow_heap wo g _ _ _ _ hgc
 obtain ⟨Z, hZ⟩ : ∃ Z : List Value, [.int .i64 0] = Z := ⟨_, rfl⟩
 have hZl : Z.length = 1 := by rw [← hZ]; rfl
 obtain ⟨hd1, hd2⟩ := delE_list L cs Z i n (by omega) hi hcs2.symm hZl
 have hol : (over L i cs).length = L.length := by unfold over; simp; omega
 have hcl2 : ∀ ty, (Builtin.clear_ #[90] ty #[.slice (some ⟨g, n - 1, none⟩) 1 (c - (n - 1))]).run Try.prog w1.drew = .ok (.tuple #[]) (w1.setRow g (over (over L i cs) (n - 1) Z).toArray).drew := fun ty => by
  have hgd : w1.drew.heap[g]? = some (.cells (over L i cs).toArray 24 (0, 0)) := hw1g
  have h9 := run_storeCells_at Try.prog g (n - 1) 24 Z 0 (over L i cs).toArray w1.drew hgd (by simp only [List.size_toArray]; omega) (by rw [← hZ]; simp [Value.oneCell'])
  have hzv : (zeroValue 24).run Try.prog w1.drew = .ok (.int .i64 0) w1.drew := by kernel_rfl
  have hst : (storeCells ⟨g, n - 1, none⟩ Z).run Try.prog w1.drew = .ok () (w1.setRow g (over (over L i cs) (n - 1) Z).toArray).drew := by
   rw [h9, drew_setRowD]
   congr 3
  rw [← hZ] at hst ⊢
  have hze : (Builtin.zeroCells (Value.int .i64 0).cells 1).toList = [.int .i64 0] := by kernel_rfl
  simp [Builtin.clear_, run_underlying Try.underlying90, hzv, hze, hst]
 have HS3 : ∀ wq, (Instr.slice 90 (.slice (some ⟨g, 0, none⟩) (n - 1) c) (some (.int .i64 ((n - 1 : Nat) : Int))) (some (.int .i64 (n : Int))) none).run Try.prog wq = .ok (.slice (some ⟨g, n - 1, none⟩) 1 (c - (n - 1))) wq := fun wq => by
  have k1 : ((n - 1 : Nat) : Int) ≤ (n : Int) := by omega
  have k3 : (n : Int) ≤ (c : Int) := by omega
  have k6 : n - (n - 1) = 1 := by omega
  have k7 : ¬ c = n - 1 := by omega
  go_simp
 have q0 : ((i : Int) == (i : Int) + 1) = false := beq_eq_false_iff_ne.2 (by omega)
 have HOUT : Hid (Own (w1.setRow g (over (over L i cs) (n - 1) Z).toArray).drew base 24 1 (some ⟨g, 0, none⟩) (n - 1) c ((L.take (n)).take i ++ (L.take (n)).drop (i + 1))) := hD
  ⟨by simp; omega, Or.inr ⟨g, c, (over (over L i cs) (n - 1) Z).toArray, rfl, hbg, (setRow_heap w1 g _ _ _ _ hw1g : _), by omega, hmax, by simp only [List.size_toArray]; omega, by simpa using hd1⟩⟩
 have HBW : Hid (Below base wo (w1.setRow g (over (over L i cs) (n - 1) Z).toArray).drew) := hD (by rw [← hw1]; exact (below_row (below_row (Below.refl _ _) hbg _) hbg _).drew)
 have HSZ : Hid ((w1.setRow g (over (over L i cs) (n - 1) Z).toArray).drew.heap.size = wo.heap.size) := hD (by rw [← hw1]; show ((wo.setRow g _).setRow g _).heap.size = _; simp [World.setRow])
 have HKP : Hid (∀ k, k ≠ g → (w1.setRow g (over (over L i cs) (n - 1) Z).toArray).drew.heap[k]? = wo.heap[k]?) := hD (fun k hk => by
  rw [← hw1]
  show ((wo.setRow g _).setRow g _).heap[k]? = _
  exact (setRow_other _ _ _ _ hk).trans (setRow_other _ _ _ _ hk))
 generalize (L.take (n)).take i ++ (L.take (n)).drop (i + 1) = out at *
 generalize w1.setRow g (over (over L i cs) (n - 1) Z).toArray = w2 at *
 have hni : (i : Int) + 1 ≤ (n : Int) := by omega
 clear hs2 hcell hw1 hw1g hd1 hd2 hol hcs2 hZ hZl hgc hcs h2 h3 hxl hxs0 hL
 go_enter Try.func133, Try.ntmps133
 go_wp2_with fail
 refine wp_region_free (by kernel_rfl) (some 20 :: some 21 :: some 22 :: some 23 :: some 24 :: some 25 :: some 26 :: some 0 :: []) (false :: false :: false :: false :: false :: false :: true :: true :: []) (.slice (some ⟨g, 0, none⟩) n c :: iv (i : Int) :: .slice (some ⟨g, 0, none⟩) i c :: .slice (some ⟨g, 0, none⟩) n c :: iv ((i : Int) + 1) :: .slice (some a2) (n - (i + 1)) c2 :: undef :: undef :: []) (fun done cv w => delE wo g n c w1 (lvlN [7, 6] done) cv w) 33 rfl rfl (by decide +kernel) (by decide +kernel) (by decide +kernel) rfl rfl (rfl) ?_ ?_
 ·refine ⟨?_, ?_⟩
  ·intro done cv a wq hn hw hcl h hJ
   have e0 := fr_un (t := 0) (i := 0) (i0 := 7) (v := .slice (some ⟨g, 0, none⟩) n c) h hcl hn rfl (by decide) (by decide) rfl
   exact mx_move (ch_ev e0)
  refine ⟨?_, ?_⟩
  ·intro done cv a wq hn hw hcl h hJ
   have e1 := fO 1 (iv (i : Int)) h
   exact mx_move (ch_ev e1)
  refine ⟨?_, ?_⟩
  ·intro done cv a wq hn hw hcl h hJ
   have e20 := fN 0 20 h hw; have e21 := fN 1 21 h hw
   have h1 := HS1.out
   go_simp
  refine ⟨?_, ?_⟩
  ·intro done cv a wq hn hw hcl h hJ
   have e0 := fr_un (t := 0) (i := 3) (i0 := 7) (v := .slice (some ⟨g, 0, none⟩) n c) h hcl hn rfl (by decide) (by decide) rfl
   exact mx_move (ch_ev e0)
  refine ⟨?_, ?_⟩
  ·intro done cv a wq hn hw hcl h hJ
   have e2 := fO 2 (iv ((i : Int) + 1)) h
   exact mx_move (ch_ev e2)
  refine ⟨?_, ?_⟩
  ·intro done cv a wq hn hw hcl h hJ
   have e23 := fN 3 23 h hw; have e24 := fN 4 24 h hw
   have h1 := HS2.out
   go_simp
  refine ⟨?_, ?_⟩
  ·intro done cv a wq hn hw hcl h hJ
   have e22 := fN 2 22 h hw; have e25 := fN 5 25 h hw
   have n6 := hn
   have n7 := nW 7 6 hcl n6
   have hl : lvlN [7, 6] (maskB [false, false, false, false, false, false, true, true] done) = 0 := by simp [lvlN, maskB, n6, n7]
   have hl2 : lvlN [7, 6] (fun j => if j = 6 then true else maskB [false, false, false, false, false, false, true, true] done j) = 1 := by simp [lvlN, maskB, n6, n7]
   rw [hl] at hJ
   have hK : ∀ (v : Value) (w' : World), delE wo g n c w1 1 (fun j => if j = 6 then v else cv j) w' → delE wo g n c w1 (lvlN [7, 6] (fun j => if j = 6 then true else maskB [false, false, false, false, false, false, true, true] done j)) (fun j => if j = 6 then v else cv j) w' := fun v w' h => by rw [hl2]; exact h
   obtain rfl : wq = wo.drew := hJ
   refine wp_appN (.tmp 22) (.tmp 25) 90 90 rfl _ _ (ch_ev e22) (ch_ev e25) (HA.out _ ()) ⟨_, rfl, hK _ _ ?_⟩
   exact ⟨rfl, by simp⟩
  refine ⟨?_, ?_⟩
  ·intro done cv a wq hn hw hcl h hJ
   have e26 := fr_cv (i := 6) (t := 26) h (hw 6 (by decide)) rfl rfl
   have n7 := hn
   have m6 := hw 6 (by decide)
   have hl : lvlN [7, 6] (maskB [false, false, false, false, false, false, true, true] done) = 1 := by simp [lvlN, maskB, n7, m6]
   have hl2 : lvlN [7, 6] (fun j => if j = 7 then true else maskB [false, false, false, false, false, false, true, true] done j) = 2 := by simp [lvlN, maskB, n7, m6]
   rw [hl] at hJ
   have hK : ∀ (v : Value) (w' : World), delE wo g n c w1 2 (fun j => if j = 7 then v else cv j) w' → delE wo g n c w1 (lvlN [7, 6] (fun j => if j = 7 then true else maskB [false, false, false, false, false, false, true, true] done j)) (fun j => if j = 7 then v else cv j) w' := fun v w' h => by rw [hl2]; exact h
   obtain ⟨rfl, y1⟩ := hJ
   rw [y1] at e26
   exact wp_asg (ch_ev e26) ⟨_, rfl, hK _ _ ⟨rfl, by simp⟩⟩
  exact trivial
 intro dn cv w6 hall hJ
 rw [show lvlN [7, 6] dn = 2 by simp [lvlN, hall 7 rfl (by decide)]] at hJ
 obtain ⟨rfl, y7⟩ := hJ
 simp only [freeAll, putAll_some, putAll_none, putAll_nil, List.getD_cons_zero, List.getD_cons_succ, Bool.false_eq_true, if_true, if_false, reduceIte, Nat.zero_add, Nat.reduceAdd, List.setIfInBounds_toArray, List.set_cons_zero, List.set_cons_succ]
 rw [y7]
 go_wp2_with fail
 go_ret
 exact ⟨rfl, HOUT.out, HBW.out, HSZ.out, HKP.out⟩
end Go.Proofs.Ytefkfglkpebbmac
