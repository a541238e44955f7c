/- The walk of the law DeviceInstalls. Printed by gen_dinst.py. Condition: the library's variable holds some number. -/
import Derived.Test.YtefkfglkpebbmacPMDeviceTries
import Derived.Test.YtefkfglkpebbmacPXDevInstall
import Derived.Deep.DeepCutAuto
set_option linter.unusedVariables false
set_option linter.unusedSimpArgs false
set_option maxRecDepth 100000
set_option maxHeartbeats 40000000
namespace Go.Proofs.Ytefkfglkpebbmac
open Go.RowKit
def isJ (w0 : World) (g : Nat) (v1 v3 v5 : Value) (done : Nat → Bool) (cv : Nat → Value) (w : World) : Prop :=
 (w = if done 8 = true then w0.drew.setCell ⟨g, 0, none⟩ v3 else w0.drew) ∧ (done 1 = true → cv 1 = v1) ∧ (done 3 = true → cv 3 = v3) ∧ (done 5 = true → cv 5 = v5) ∧ (done 7 = true → cv 7 = v1)
section
variable {w0 w : World} {g : Nat} {v1 v3 v5 v : Value} {done : Nat → Bool} {cv : Nat → Value}
theorem isJ_0 (h : done 8 = false) (hJ : isJ w0 g v1 v3 v5 done cv w) : w = w0.drew := by
 have := hJ.1
 rwa [h, if_neg (by simp)] at this
theorem isJ_v {k : Nat} (hk : k ≠ 8) (hJ : isJ w0 g v1 v3 v5 done cv w) (hv : (k = 1 → v = v1) ∧ (k = 3 → v = v3) ∧ (k = 5 → v = v5) ∧ (k = 7 → v = v1)) : isJ w0 g v1 v3 v5 (fun j => if j = k then true else done j) (fun j => if j = k then v else cv j) w := by
 have key : ∀ q u, (done q = true → cv q = u) → (k = q → v = u) → (if q = k then true else done q) = true → (if q = k then v else cv q) = u := fun q u h1 h2 h3 => by
  by_cases e : q = k
  ·rw [if_pos e]; exact h2 e.symm
  ·rw [if_neg e] at h3 ⊢; exact h1 h3
 refine ⟨?_, key _ _ hJ.2.1 hv.1, key _ _ hJ.2.2.1 hv.2.1, key _ _ hJ.2.2.2.1 hv.2.2.1, key _ _ hJ.2.2.2.2 hv.2.2.2⟩
 have e : (if 8 = k then true else done 8) = done 8 := if_neg (fun e => hk e.symm)
 show w = if (if 8 = k then true else done 8) = true then _ else _
 rw [e]
 exact hJ.1
theorem isJ_s (h8 : done 8 = false) (hJ : isJ w0 g v1 v3 v5 done cv w) : isJ w0 g v1 v3 v5 (fun j => if j = 8 then true else done j) (fun j => if j = 8 then undef else cv j) (w.setCell ⟨g, 0, none⟩ v3) := by
 refine ⟨?_, by simpa using hJ.2.1, by simpa using hJ.2.2.1, by simpa using hJ.2.2.2.1, by simpa using hJ.2.2.2.2⟩
 rw [if_pos (by simp), isJ_0 h8 hJ]
end
theorem DeviceInstalls_walk (W : World) (v0 v1 v2 v3 v4 : Value) (old0 b0 : List UInt8) (tz nz kz : Int) (g0 : ArgBytes W v0 old0) (g1 : ArgBytes W v1 b0) (g2 : v2 = iv tz ∧ I64 tz) (g3 : v3 = iv nz ∧ I64 nz) (g4 : v4 = iv kz ∧ I64 kz) (hml : ML W) : Calls Try.prog 9 #[v0, v1, v2, v3, v4] W (RetB W (.bool true)) := by
 obtain ⟨A, c, rfl, hc, hl, hr⟩ := g0
 obtain ⟨B, e0, rfl, hd, hm, hs⟩ := g1
 obtain ⟨rfl, ht1, ht2⟩ := g2
 obtain ⟨rfl, hn1, hn2⟩ := g3
 obtain ⟨rfl, hk1, hk2⟩ := g4
 have HI := hD (fun w => lawImage_calls A c old0 w hc hl)
 have HJ := hD (fun w => lawImage_calls B e0 b0 w hd hm)
 have HAT := hD (fun w => at_calls tz 30 w ht1 ht2 (by omega) (by omega))
 have HA8 := hD (fun w => at_calls nz 8 w hn1 hn2 (by omega) (by omega))
 have R1 := hD (img_bts hr)
 have R2 := hD (img_bts hs)
 have l1 := img_len old0
 have l2 := img_len b0
 have c1 : (img old0).length ≤ c := by unfold img; rw [List.length_take]; omega
 have c2 : (img b0).length ≤ e0 := by unfold img; rw [List.length_take]; omega
 have HML := hD hml
 clear hr hs hl hm hc hd hml
 obtain ⟨old, hold⟩ : ∃ old, img old0 = old := ⟨_, rfl⟩
 obtain ⟨b, hb_⟩ : ∃ b, img b0 = b := ⟨_, rfl⟩
 rw [hold] at HI R1 l1 c1
 rw [hb_] at HJ R2 l2 c2
 clear hold hb_
 have HW30 : Hid (IntKind.i64.wrap (1 + tz % 30) = 1 + tz % 30) := hD (IntWalk.i64_in _ (by omega))
 obtain ⟨w0, hw0⟩ : ∃ w0, (W.alloc (.cells #[.slice B b0.length e0] 22)).alloc (.cells #[iv kz] 3) = w0 := ⟨_, rfl⟩
 have HBX : Hid (∀ w, w = w0.drew → w.cell? ⟨W.heap.size, 0, none⟩ = some (.slice B b0.length e0) ∧ w.frozen? ⟨W.heap.size, 0, none⟩ = false) := hD (fun w h => by
  have hx : Box w W.heap.size 22 (.slice B b0.length e0) := by
   rw [h, ← hw0]
   exact ((Box.new W 22 (.slice B b0.length e0)).alloc _).drew
  exact ⟨hx.cell, hx.free⟩)
 have HSB : Hid (Below W.heap.size W w0) := hD (by rw [← hw0]; exact ((Below.refl _ _).alloc (Nat.le_refl _) _).alloc (by simp) _)
 have HSZ : Hid (w0.heap.size = W.heap.size + 2) := hD (by rw [← hw0]; simp)
 have HBB : Hid (Box w0 W.heap.size 22 (.slice B b0.length e0) ∧ Box w0 (W.heap.size + 1) 3 (iv kz)) := hD (by
  rw [← hw0]
  refine ⟨(Box.new W 22 (.slice B b0.length e0)).alloc _, ?_⟩
  have := Box.new (W.alloc (.cells #[.slice B b0.length e0] 22)) 3 (iv kz)
  simpa using this)
 have HW0 := hD hw0
 clear hw0
 go_enter Try.func9, Try.ntmps9
 go_wp2_with fail
 rw [HW0.out]
 clear HW0
 refine wp_region_free (by kernel_rfl) (some 20 :: some 21 :: some 22 :: some 23 :: some 24 :: some 25 :: some 26 :: some 0 :: none :: some 2 :: []) (false :: true :: false :: true :: false :: true :: false :: true :: true :: false :: []) (.slice A old0.length c :: undef :: .slice B b0.length e0 :: undef :: iv tz :: undef :: iv (1 + tz % 30) :: undef :: undef :: iv (1 + tz % 30) :: []) (isJ w0 W.heap.size (.slice A old.length c) (.slice B b.length e0) (iv (tz % 30))) 161 rfl rfl (by decide +kernel) (by decide +kernel) (by decide +kernel) rfl rfl (⟨by simp, by simp, by simp, by simp, by simp⟩) ?_ ?_
 ·refine ⟨?_, ?_⟩
  ·intro done cv a wq hn hw hcl h hJ
   have e0 := fr_un (t := 0) (i := 0) (i0 := 7) (v := .slice A old0.length c) h hcl hn rfl (by decide) (by decide) rfl
   exact mx_move (ch_ev e0)
  refine ⟨?_, ?_⟩
  ·intro done cv a wq hn hw hcl h hJ
   have e20 := fN 0 20 h hw
   refine wp_call (vals := #[.slice A old0.length c]) (by rw [List.map_toArray, List.map_cons, List.map_nil, ch_ev e20]) (enters_of Try.func68 (by kernel_rfl) rfl _ _) (HI.out _) ?_
   rintro e w' ⟨rfl, rfl⟩
   exact ⟨_, rfl, _, rfl, isJ_v (by decide) hJ (by simp)⟩
  refine ⟨?_, ?_⟩
  ·intro done cv a wq hn hw hcl h hJ
   have e6 := fO 6 (.pointer (some ⟨W.heap.size, 0, none⟩)) h
   have n8 : done 8 = false := Bool.eq_false_iff.2 (fun e => by have h3 := hcl 8 _ rfl e 3 (by decide); have h2 := hcl 3 _ rfl h3 2 (by decide); rw [hn] at h2; cases h2)
   obtain ⟨z1, z2⟩ := HBX.out _ (isJ_0 (by simp [maskB, n8]) hJ)
   have hz : wq.cell? ⟨W.heap.size, 0, none⟩ = some (.slice B b0.length e0) := z1
   go_simp
  refine ⟨?_, ?_⟩
  ·intro done cv a wq hn hw hcl h hJ
   have e22 := fN 2 22 h hw
   refine wp_call (vals := #[.slice B b0.length e0]) (by rw [List.map_toArray, List.map_cons, List.map_nil, ch_ev e22]) (enters_of Try.func68 (by kernel_rfl) rfl _ _) (HJ.out _) ?_
   rintro e w' ⟨rfl, rfl⟩
   exact ⟨_, rfl, _, rfl, isJ_v (by decide) hJ (by simp)⟩
  refine ⟨?_, ?_⟩
  ·intro done cv a wq hn hw hcl h hJ
   have e2 := fr_un (t := 2) (i := 4) (i0 := 9) (v := iv tz) h hcl hn rfl (by decide) (by decide) rfl
   exact mx_move (ch_ev e2)
  refine ⟨?_, ?_⟩
  ·intro done cv a wq hn hw hcl h hJ
   have e24 := fN 4 24 h hw
   refine wp_call (vals := #[iv tz, iv 30]) (by rw [List.map_toArray, List.map_cons, List.map_cons, List.map_nil, ch_ev e24]; rfl) (enters_of Try.func38 (by kernel_rfl) rfl _ _) (HAT.out _) ?_
   rintro e w' ⟨rfl, rfl⟩
   exact ⟨_, rfl, _, rfl, isJ_v (by decide) hJ (by simp)⟩
  refine ⟨?_, ?_⟩
  ·intro done cv a wq hn hw hcl h hJ
   have e25 := fr_cv (i := 5) (t := 25) h (hw 5 (by decide)) rfl rfl
   have m5 := hw 5 (by decide)
   rw [hJ.2.2.2.1 (by simp [maskB, m5])] at e25
   have hw1 := HW30.out
   go_simp
  refine ⟨?_, ?_⟩
  ·intro done cv a wq hn hw hcl h hJ
   have e21 := fr_cv (i := 1) (t := 21) h (hw 1 (by decide)) rfl rfl
   have m1 := hw 1 (by decide)
   rw [hJ.2.1 (by simp [maskB, m1])] at e21
   refine wp_asg (v := .slice A old.length c) (ch_ev e21) ⟨_, rfl, isJ_v (by decide) hJ (by simp)⟩
  refine ⟨?_, ?_⟩
  ·intro done cv a wq hn hw hcl h hJ
   have e6 := fO 6 (.pointer (some ⟨W.heap.size, 0, none⟩)) h; have e23 := fr_cv (i := 3) (t := 23) h (hw 3 (by decide)) rfl rfl
   have m3 := hw 3 (by decide)
   have n8 := hn
   rw [hJ.2.2.1 (by simp [maskB, m3])] at e23
   obtain ⟨z1, z2⟩ := HBX.out _ (isJ_0 (by simp [maskB, n8]) hJ)
   refine wp_ssl e6 e23 z1 z2 ⟨undef, rfl, isJ_s (by simp [maskB, n8]) hJ⟩
  refine ⟨?_, ?_⟩
  ·intro done cv a wq hn hw hcl h hJ
   have e26 := fN 6 26 h hw
   exact mx_assign (ch_ev e26)
  exact trivial
 ·intro dn cv wL hall hJ
  obtain ⟨hw, -, -, -, h7⟩ := hJ
  have h7 := h7 (hall 7 rfl (by decide))
  rw [hall 8 rfl (by decide), if_pos rfl] at hw
  simp only [freeAll, putAll_some, putAll_none, putAll_nil, List.getD_cons_zero, List.getD_cons_succ, Bool.false_eq_true, if_true, if_false, reduceIte, Nat.zero_add, Nat.reduceAdd, List.setIfInBounds_toArray, List.set_cons_zero, List.set_cons_succ]
  rw [h7]
  have HBL : Hid (Below W.heap.size W wL) := hD (by rw [hw]; exact (HSB.out.drew).setCell (p := ⟨W.heap.size, 0, none⟩) (Nat.le_refl _) _)
  have HRB : Hid (rowOf wL W.heap.size = #[.slice B b.length e0] ∧ frOf wL W.heap.size = (0, 0)) := hD (by
   have hx : Box wL W.heap.size 22 (.slice B b.length e0) := by rw [hw]; exact (HBB.out.1.drew).set _
   exact ⟨row_of_blk hx, fr_of_blk hx⟩)
  have HRK : Hid (rowOf wL (W.heap.size + 1) = #[iv kz] ∧ frOf wL (W.heap.size + 1) = (0, 0)) := hD (by
   have hx : Box wL (W.heap.size + 1) 3 (iv kz) := by rw [hw]; exact (HBB.out.2.drew).other (p := ⟨W.heap.size, 0, none⟩) (by simp) _
   exact ⟨row_of_blk hx, fr_of_blk hx⟩)
  have hsl : wL.heap.size = W.heap.size + 2 := by rw [hw]; simpa using HSZ.out
  obtain ⟨to_, hto⟩ : ∃ to_, 1 + tz % 30 = to_ := ⟨_, rfl⟩
  have htr : 1 ≤ to_ ∧ to_ ≤ 30 := by omega
  rw [hto]
  clear hall hw h7 hto HBB HBX HSB HSZ HW30 HAT HI HJ ht1 ht2
  obtain ⟨gb, hgb⟩ : ∃ gb, W.heap.size = gb := ⟨_, rfl⟩
  have HGB := hD hgb
  have R1L := hD (R1.out.stays HBL.out)
  have R2L := hD (R2.out.stays HBL.out)
  rw [hgb] at HRB HRK hsl ⊢
  clear hgb
  obtain ⟨m1, m2, m3⟩ := trP_ok (old := old) (b := b) (to_ := to_) l1 l2 htr
  obtain ⟨k1, k2, k3⟩ := cut_ok m2
  have HLN := hD (trChunks_len (trP old b to_) (bytesOf (trP old b to_)))
  have K0 := hD (fun w h => installed_calls w h)
  have KN : Hid (∀ w, Bts w A old → Calls Try.prog 69 #[.slice A old.length c] w (DvRet w (newDev old) 0)) := hD (fun w h => by
   have := devNew_calls A c old w (by omega) h
   rwa [show devNew old = (newDev old, 0) by unfold devNew; rw [if_neg (by omega)]] at this)
  have KM : Hid (∀ w, Bts w A old → Bts w B b → Calls Try.prog 24 #[iv 1, iv to_, .slice A old.length c, .slice B b.length e0] w (PaRet w (trP old b to_) 0)) := hD (fun w h h2 => by
   have := patMake_fit A B c e0 1 to_ old b w ⟨by decide, by decide⟩ ⟨by omega, by omega⟩ (by omega) (by omega) h h2
   rwa [m1] at this)
  have KC : Hid (∀ E e w, PatIn w (trP old b to_) E e → Calls Try.prog 33 #[.agg (patA (trP old b to_).from_ (trP old b to_).to_ (trP old b to_).old (trP old b to_).new_ (trP old b to_).size E (trP old b to_).ops.length e)] w (ChkRet2 w (chunksOf (trP old b to_) (bytesOf (trP old b to_))) 0)) := hD (fun E e w h => by
   have := chkCut_calls E e (trP old b to_) w h
   rwa [k1] at this)
  have HCB : Hid (∀ x ∈ chunksOf (trP old b to_) (bytesOf (trP old b to_)), ChkB x) := hD (fun x hx => cut_bound (p := trP old b to_) (by rw [k1]; exact hx))
  have T0 := hD (tr_start (to_ := to_) l1 l2 htr)
  have TH := hD (fun G k d => @tr_hear old b to_ G k d)
  have TO := hD (fun G k d => @tr_open old b to_ G k d)
  have TF := hD (fun (G : Int) (d : Dev) (n : Int) (h : TrW old b to_ G n d) hn hG => tr_finish h hn hG l1 l2 htr)
  have TR := hD (fun (G : Int) (d : Dev) (h : TrO old b G d) hG => tr_reboot (to_ := to_) h hG l1 l2 htr)
  have HN1 : Hid (1 ≤ nOf (bytesOf (trP old b to_)) ∧ nOf (bytesOf (trP old b to_)) ≤ 10) := hD ⟨k2, k3⟩
  have HRM := hD (tr_room (old := old))
  clear m1 m2 m3 k1 k2 k3
  obtain ⟨P, hP⟩ : ∃ P, trP old b to_ = P := ⟨_, rfl⟩
  obtain ⟨l, hl⟩ : ∃ l, chunksOf P (bytesOf P) = l := ⟨_, rfl⟩
  rw [hP] at KM KC HCB HN1 HLN
  rw [hl] at HLN KC HCB
  have TH2 : Hid (∀ G k d, TrB old b to_ G k d → ∀ hk : k < l.length, ∃ e, devHear d (l[k]) = (e, 0) ∧ TrB old b to_ G (k + 1) e) := hD (fun G k d h hk => by
   subst hP; subst hl
   exact TH.out _ _ _ h hk)
  have TO2 : Hid (∀ G k d, TrB old b to_ G k d → l.length ≤ k → ∃ e, devOpen d = (e, 0) ∧ TrW old b to_ G 0 e) := hD (fun G k d h hk => by
   refine TO.out _ _ _ h ?_
   rw [HLN.out] at hk
   subst hP
   exact hk)
  have hN : 1 ≤ l.length ∧ l.length ≤ 10 := by rw [HLN.out]; exact HN1.out
  obtain ⟨hN1, hN2⟩ := hN
  clear hP hl TH TO HLN HN1
  go_wp2_with fail
  refine (KN.out _ R1L.out).mono ?_
  rintro e w1 ⟨L0, rfl, hf1, hb1⟩
  have HFR := hD hf1
  have HB1 := hD hb1
  have hg1 := hb1.size
  clear hf1 hb1
  go_upto_region 3 with fail
  obtain ⟨w3, hw3⟩ : ∃ w3, (w1.alloc (.cells (devA (newDev old) L0) 71)).alloc (.cells #[.int .i64 0] 24) = w3 := ⟨_, rfl⟩
  have HD3 : Hid (DeB w3 w1.heap.size (w1.heap.size + 2) (newDev old) L0) := hD (DeB.start HFR.out (by rw [← hw3]; clear hw3; go_simp) (by rw [← hw3]; clear hw3; go_simp) (by omega) (by rw [← hw3]; simp) (fun k h => by rw [← hw3]; exact (Below.heap_alloc (w1.alloc (.cells (devA (newDev old) L0) 71)) _ k (by simp; omega)).trans (Below.heap_alloc w1 _ k h)))
  have HE3 : Hid (rowOf w3 (w1.heap.size + 1) = #[iv 0] ∧ frOf w3 (w1.heap.size + 1) = (0, 0)) := hD (by rw [← hw3]; clear hw3; exact ⟨by go_simp, by go_simp⟩)
  have HB3 : Hid (Below wL.heap.size wL w3) := hD (by rw [← hw3]; exact (HB1.out.alloc hg1 _).alloc (by simp; omega) _)
  have hs3 : w3.heap.size = w1.heap.size + 2 := by rw [← hw3]; simp
  rw [hw3]
  obtain ⟨g, hg⟩ : ∃ g, w1.heap.size = g := ⟨_, rfl⟩
  rw [hg] at HD3 HE3 hg1 hs3 ⊢
  clear hw3 hg HFR HB1
  obtain ⟨b0r, b0f, b0n, b0c, b0z, b0l⟩ := keep1 HB3.out HRB.out.1 (by go_simp) HRB.out.2
  go_wp2_with fail
  refine (KM.out _ (R1L.out.stays HB3.out) (R2L.out.stays HB3.out)).mono ?_
  rintro e w4 ⟨A4, c4, rfl, hf4, hb4⟩
  have HD4 := hD (HD3.out.below hb4)
  have HE4 : Hid (rowOf w4 (g + 1) = #[iv 0] ∧ frOf w4 (g + 1) = (0, 0)) := hD ⟨(rowOf_below (by omega) hb4).trans HE3.out.1, (frOf_below (by omega) hb4).trans HE3.out.2⟩
  have HB4 : Hid (Below wL.heap.size wL w4) := hD (HB3.out.trans (hb4.mono HB3.out.size))
  have hs4 : g + 2 ≤ w4.heap.size := by have := hb4.size; omega
  have HP4 := hD hf4.now
  clear hb4 hf4 HD3 HB3 HE3
  go_wp2_with fail
  have hba : Below w4.heap.size w4 (w4.alloc (.cells (patA P.from_ P.to_ P.old P.new_ P.size A4 P.ops.length c4) 35)) := (Below.refl _ _).alloc (Nat.le_refl _) _
  have HD5 := hD (HD4.out.below hba)
  have HE5 : Hid (rowOf (w4.alloc (.cells (patA P.from_ P.to_ P.old P.new_ P.size A4 P.ops.length c4) 35)) (g + 1) = #[iv 0] ∧ frOf (w4.alloc (.cells (patA P.from_ P.to_ P.old P.new_ P.size A4 P.ops.length c4) 35)) (g + 1) = (0, 0)) := hD ⟨(rowOf_below (by omega) hba).trans HE4.out.1, (frOf_below (by omega) hba).trans HE4.out.2⟩
  have HB5 : Hid (Below wL.heap.size wL (w4.alloc (.cells (patA P.from_ P.to_ P.old P.new_ P.size A4 P.ops.length c4) 35))) := hD (HB4.out.trans (hba.mono HB4.out.size))
  have HP5 := hD (HP4.out.stays hba)
  have hs5 : g + 3 ≤ (w4.alloc (.cells (patA P.from_ P.to_ P.old P.new_ P.size A4 P.ops.length c4) 35)).heap.size := by simp; omega
  refine (KC.out _ _ _ HP5.out).mono ?_
  clear hba
  generalize w4.alloc (.cells (patA P.from_ P.to_ P.old P.new_ P.size A4 P.ops.length c4) 35) = w5 at *
  rintro e w6 ⟨A6, c6, ds, rfl, hgr, hea, hb6⟩
  have HCH : Hid (Fresh w5.heap.size w6 (fun v => Chs v A6 l)) := hD (Fresh.imp (hgr.fresh hea) (fun v hv => hv.src.chs HCB.out))
  have hc6 := hgr.row.le
  obtain ⟨ab, ao, _, _, rfl, -, -, -⟩ := HCH.out.now.chk (i := 0) hN1
  go_upto_region 5 with fail
  obtain ⟨w7, hw7⟩ : ∃ w7, w6.alloc (.cells #[.slice (some ⟨ab, ao, none⟩) l.length c6] 43) = w7 := ⟨_, rfl⟩
  have hb7 : Below w6.heap.size w6 w7 := by rw [← hw7]; exact (Below.refl _ _).alloc (Nat.le_refl _) _
  have hb57 : Below w5.heap.size w5 w7 := hb6.trans (hb7.mono hb6.size)
  have HRL : Hid (rowOf w7 w6.heap.size = #[.slice (some ⟨ab, ao, none⟩) l.length c6] ∧ frOf w7 w6.heap.size = (0, 0)) := hD (by rw [← hw7]; clear hw7 hb57 hb7; exact ⟨by go_simp, by go_simp⟩)
  obtain ⟨bs, hbs⟩ : ∃ bs, w5.heap.size = bs := ⟨_, rfl⟩
  have HCW : Hid (∀ v, Kp bs w7 v → Chs v (some ⟨ab, ao, none⟩) l) := hD (fun v hv => HCH.out v (fun k h1 h2 => (hv k (by omega) (Nat.lt_of_lt_of_le h2 hb7.size)).trans (hb7.block k h2)))
  have HIS7 : Hid (IS wL w7 bs g (newDev old) L0 w7) := hD ⟨⟨HD5.out.below hb57, HB5.out.trans (hb57.mono HB5.out.size), Kp.refl _ _, Nat.le_refl _⟩, (rowOf_below (by omega) hb57).trans HE5.out.1, (frOf_below (by omega) hb57).trans HE5.out.2⟩
  have hgl : bs ≤ w6.heap.size := by have := hb6.size; omega
  rw [hbs] at hs5
  have HML7 : Hid (ML w7) := hD (HML.out.stays (HBL.out.trans (HIS7.out.ds.bel.mono HBL.out.size)))
  rw [hw7]
  obtain ⟨gl, hgl_⟩ : ∃ gl, w6.heap.size = gl := ⟨_, rfl⟩
  rw [hgl_] at HRL hgl ⊢
  clear hgr hea hb6 hb7 hb57 hw7 hbs hgl_ HD5 HB5 HE5 HP5 HD4 HB4 HE4 HP4 HCH KM KC KN HML b0r b0f b0n b0c b0z b0l
  obtain ⟨a1r, a1f, a1n, a1c, a1z, a1l⟩ := keep1 (Below.refl w7.heap.size w7) HIS7.out.er (by go_simp) HIS7.out.ef
  go_wp2_with fail
  refine (K0.out _ HML7.out).mono ?_
  rintro e w8 ⟨rfl, hb8⟩
  have HIS := hD (HIS7.out.below hb8)
  clear hb8 HIS7 HML7 K0
  obtain ⟨a0r, a0f, a0n, a0c, a0z, a0l⟩ := keep1 (Below.refl w8.heap.size w8) HIS.out.ds.box.row (by go_simp) HIS.out.ds.box.fr
  obtain ⟨a1r, a1f, a1n, a1c, a1z, a1l⟩ := keep1 (Below.refl w8.heap.size w8) HIS.out.er (by go_simp) HIS.out.ef
  obtain ⟨b0r, b0f, b0n, b0c, b0z, b0l⟩ := keep1 HIS.out.ds.bel HRB.out.1 (by go_simp) HRB.out.2
  go_wp2_with fail
  refine (HA8.out _).mono ?_
  rintro e w8_ ⟨rfl, rfl⟩
  have hz8 : 0 ≤ nz % 8 ∧ nz % 8 ≤ 7 := by omega
  have hzw : IntKind.i64.wrap (nz % 8 * 8) = nz % 8 * 8 := IntWalk.i64_in _ (by omega)
  obtain ⟨z, hz⟩ : ∃ z, nz % 8 * 8 = z := ⟨_, rfl⟩
  have hz1 : 0 ≤ z ∧ z % 8 = 0 ∧ z ≤ 64 := by omega
  rw [hz] at hzw
  have HZ := hD hz
  clear hz hz8
  go_upto_region 9 with fail
  try rw [HZ.out]
  go_wp2_with fail
  refine (install_calls (keep := kz) (gl := gl) (gb := gb) (gk := gb + 1) hg1 (by omega) l2 (.inr ⟨hz1.1, hz1.2.1⟩) hz1.2.2 (TH2.out 1) (TO2.out 1) HRB.out HRK.out HRL.out hgl HCW.out hc6 (by omega) HIS.out T0.out).mono ?_
  rintro en w9 ⟨rfl, dA, LA, hIA, hor⟩
  have HIA := hD hIA
  have hs0 : dA.s0 = room old := by
   rcases hor with ⟨_, _, h⟩ | ⟨_, n, _, h⟩
   ·exact h.s0
   ·exact tr_s0 h
  have HOR := hD hor
  have HEQ : Hid (∀ (d : Dev) (L : DLoc) (w : World), DevIn w d L → d.s0 = room old → Bts w A old → (∀ W, (Instr.slice 22 (.slice L.a0 d.s0.length L.c0) none (some (.int .i64 (old.length : Int))) none).run Try.prog W = .ok (.slice L.a0 old.length L.c0) W) ∧ Calls Try.prog 23 #[.slice L.a0 old.length L.c0, .slice A old.length c] w (RetB w (.bool true))) := hD (fun d L w hin h0 hA => by
   have h64 : d.s0.length = 64 := by rw [h0]; exact room_len l1
   obtain ⟨zb, zo, hA9, -⟩ := hin.b0 0 (by omega)
   refine ⟨pre_slice (A := L.a0) (n := d.s0.length) (c := L.c0) old.length rfl hin.k0 (by omega) (by omega) ⟨zb, zo, hA9⟩, ?_⟩
   have h9 := (bytesEqual_calls L.a0 A L.c0 c (d.s0.take old.length) old w (by rw [List.length_take]; have := hin.k0; omega) c1 (mid_take hin.b0 _) hA).mono (fun _ _ h => h.to)
   rw [h0, HRM.out] at h9
   simpa using h9)
  have HE1 := hD (HEQ.out dA LA w9 HIA.out.ds.box.now hs0 (R1L.out.stays HIA.out.ds.bel))
  clear hIA hor hs0 HIS T0
  obtain ⟨a0r, a0f, a0n, a0c, a0z, a0l⟩ := keep1 (Below.refl w9.heap.size w9) HIA.out.ds.box.row (by go_simp) HIA.out.ds.box.fr
  obtain ⟨a1r, a1f, a1n, a1c, a1z, a1l⟩ := keep1 (Below.refl w9.heap.size w9) HIA.out.er (by go_simp) HIA.out.ef
  obtain ⟨b0r, b0f, b0n, b0c, b0z, b0l⟩ := keep1 HIA.out.ds.bel HRB.out.1 (by go_simp) HRB.out.2
  have hsl1 := HE1.out.1
  go_wp2_with fail
  refine HE1.out.2.mono ?_
  rintro en w10 ⟨rfl, hb10⟩
  have HIB := hD (HIA.out.below hb10)
  clear hb10 hsl1 HE1 HIA
  obtain ⟨a0r, a0f, a0n, a0c, a0z, a0l⟩ := keep1 (Below.refl w10.heap.size w10) HIB.out.ds.box.row (by go_simp) HIB.out.ds.box.fr
  obtain ⟨a1r, a1f, a1n, a1c, a1z, a1l⟩ := keep1 (Below.refl w10.heap.size w10) HIB.out.er (by go_simp) HIB.out.ef
  obtain ⟨b0r, b0f, b0n, b0c, b0z, b0l⟩ := keep1 HIB.out.ds.bel HRB.out.1 (by go_simp) HRB.out.2
  go_upto_if 80 with fail
  go_cut [] (fun wx => ∃ (d : Dev) (L : DLoc) (n : Int), (b.length : Int) ≤ n ∧ Hid (IS wL w7 bs g d L wx) ∧ Hid (TrW old b to_ 2 n d))
  case first =>
   by_cases hzb : z < (b.length : Int)
   ·have q80 : decide (z < (b.length : Int)) = true := decide_eq_true hzb
    have htO : TrO old b 2 dA := by
     rcases HOR.out with ⟨_, _, h⟩ | ⟨h, _⟩
     ·exact h
     ·exact absurd h (by omega)
    obtain ⟨eb, h3, hru, hbu, h4⟩ := TR.out _ _ htO (by decide)
    have hup : dA.up = false := htO.up
    have HX := hD h3
    have HT2 := hD h4
    have HRU := hD (And.intro hru hbu)
    clear h3 h4 htO HOR hru hbu
    go_wp2_with fail
    have KH := hD (devBoot_calls dA LA _ HIB.out.ds.box.now)
    rw [HX.out] at KH
    refine KH.out.mono ?_
    rintro en w11 ⟨L11, rfl, hf11, hb11⟩
    have HI11 := hD (HIB.out.step hg1 (by omega) hb11 hf11)
    obtain ⟨a0r, a0f, a0n, a0c, a0z, a0l⟩ := kp g (devA dA LA) hb11
    obtain ⟨a1r, a1f, a1n, a1c, a1z, a1l⟩ := kp (g + 1) (#[iv 0]) hb11
    clear hb11 hf11 KH HIB hup HX
    go_upto_region 15 with fail
    generalize (w11.setRow g (devA eb L11)).setCell ⟨g + 1, 0, none⟩ (iv 0) = wa at *
    obtain ⟨a0r, a0f, a0n, a0c, a0z, a0l⟩ := keep1 (Below.refl wa.heap.size wa) HI11.out.ds.box.row (by go_simp) HI11.out.ds.box.fr
    obtain ⟨a1r, a1f, a1n, a1c, a1z, a1l⟩ := keep1 (Below.refl wa.heap.size wa) HI11.out.er (by go_simp) HI11.out.ef
    obtain ⟨b0r, b0f, b0n, b0c, b0z, b0l⟩ := keep1 HI11.out.ds.bel HRB.out.1 (by go_simp) HRB.out.2
    have hru := HRU.out.1
    have hbu := HRU.out.2
    go_wp2_with fail
    refine (install_calls (keep := kz) (gl := gl) (gb := gb) (gk := gb + 1) (z := -1) hg1 (by omega) l2 (.inl rfl) (by decide) (TH2.out 2) (TO2.out 2) HRB.out HRK.out HRL.out hgl HCW.out hc6 (by omega) HI11.out HT2.out).mono ?_
    rintro en w12 ⟨rfl, d12, L12, hI12, hor12⟩
    have HI12 := hD hI12
    have HOR := hD hor12
    clear hI12 hor12 hru hbu
    go_wp2_with fail
    go_meet
    case rel =>
     rcases HOR.out with ⟨h, _⟩ | ⟨_, n, hn, h⟩
     ·exact absurd h (by decide)
     ·exact ⟨d12, L12, n, hn, HI12, hD h⟩
   ·have q80 : decide (z < (b.length : Int)) = false := decide_eq_false hzb
    go_wp2_with fail
    go_meet
    case rel =>
     rcases HOR.out with ⟨_, h, _⟩ | ⟨_, n, hn, h⟩
     ·exact absurd h (by omega)
     ·exact ⟨dA, LA, n, hn, HIB, hD (h.mono (by decide))⟩
  case rest =>
  clear HOR HIB TR a0r a0f a0n a0c a0z a0l a1r a1f a1n a1c a1z a1l b0r b0f b0n b0c b0z b0l
  obtain ⟨d, L, n, hn, HI, HT⟩ := hcut
  obtain ⟨e9, h3, hs1, ht9⟩ := TF.out _ _ _ HT.out hn (by decide)
  have HX := hD h3
  have HT9 := hD ht9
  have HS1 := hD hs1
  clear h3 hs1 ht9 HT TF
  obtain ⟨a0r, a0f, a0n, a0c, a0z, a0l⟩ := keep1 (Below.refl wc.heap.size wc) HI.out.ds.box.row (by go_simp) HI.out.ds.box.fr
  obtain ⟨a1r, a1f, a1n, a1c, a1z, a1l⟩ := keep1 (Below.refl wc.heap.size wc) HI.out.er (by go_simp) HI.out.ef
  obtain ⟨b0r, b0f, b0n, b0c, b0z, b0l⟩ := keep1 HI.out.ds.bel HRB.out.1 (by go_simp) HRB.out.2
  go_wp2_with fail
  have KH := hD (devFinish_calls d L false _ HI.out.ds.box.now)
  rw [HX.out] at KH
  refine KH.out.mono ?_
  rintro en w13 ⟨L9, rfl, hf13, hb13⟩
  have HI13 := hD (HI.out.step hg1 (by omega) hb13 hf13)
  obtain ⟨a0r, a0f, a0n, a0c, a0z, a0l⟩ := kp g (devA d L) hb13
  obtain ⟨a1r, a1f, a1n, a1c, a1z, a1l⟩ := kp (g + 1) (#[iv 0]) hb13
  clear hb13 hf13 KH HI HX
  go_upto_region 18 with fail
  generalize (w13.setRow g (devA e9 L9)).setCell ⟨g + 1, 0, none⟩ (iv 0) = wa at *
  obtain ⟨a0r, a0f, a0n, a0c, a0z, a0l⟩ := keep1 (Below.refl wa.heap.size wa) HI13.out.ds.box.row (by go_simp) HI13.out.ds.box.fr
  obtain ⟨a1r, a1f, a1n, a1c, a1z, a1l⟩ := keep1 (Below.refl wa.heap.size wa) HI13.out.er (by go_simp) HI13.out.ef
  obtain ⟨b0r, b0f, b0n, b0c, b0z, b0l⟩ := keep1 HI13.out.ds.bel HRB.out.1 (by go_simp) HRB.out.2
  obtain ⟨s9, htr9⟩ := HT9.out.try_
  have hcp := htr9.ok.cops
  have hso : e9.s0 = room old := htr9.s0
  have h1l : e9.s1.length = 64 := htr9.ok.l1
  have KR := hD (fun w => read_ok e9.c0 e9.c1 w hcp)
  have hrec : (recRead e9.c0 e9.c1).1 = e9.rec_ := rfl
  rw [hrec] at KR
  obtain ⟨rk, hrk⟩ : ∃ rk, (recRead e9.c0 e9.c1).2 = rk := ⟨_, rfl⟩
  rw [hrk] at KR
  have HTR := hD HT9.out.tr
  have HAC := hD HT9.out.act
  have hat1 := HT9.out.at1
  have hb1 : e9.rec_.at_ 1 = e9.rec_.b := by unfold Rec.at_; rw [if_neg (by decide)]
  rw [hb1] at hat1
  have HV1 : Hid (e9.rec_.b.ver = to_) := hD (by rw [hat1])
  have HV2 : Hid (e9.rec_.b.size = (b.length : Int)) := hD (by rw [hat1])
  generalize e9.rec_ = r at *
  clear hcp hrec hrk hat1 hb1 htr9
  go_wp2_with fail
  refine (KR.out _).mono ?_
  rintro en w14 ⟨rfl, hb14⟩
  have HI14 := hD (HI13.out.below hb14)
  obtain ⟨a0r, a0f, a0n, a0c, a0z, a0l⟩ := kp g (devA e9 L9) hb14
  obtain ⟨a1r, a1f, a1n, a1c, a1z, a1l⟩ := kp (g + 1) (#[iv 0]) hb14
  clear hb14 HI13 KR
  go_wp2_with fail
  obtain ⟨w15, hw15⟩ : ∃ w15, w14.alloc (.cells (recA r) 66) = w15 := ⟨_, rfl⟩
  have hb15 : Below w14.heap.size w14 w15 := by rw [← hw15]; exact (Below.refl _ _).alloc (Nat.le_refl _) _
  have HI15 := hD (HI14.out.below hb15)
  have RR : Hid (rowOf w15 w14.heap.size = recA r ∧ frOf w15 w14.heap.size = (0, 0)) := hD (by rw [← hw15]; exact ⟨by rw [rowOf_alloc, if_pos rfl], by rw [frOf_alloc, if_pos rfl]⟩)
  obtain ⟨gr, hgr⟩ : ∃ gr, w14.heap.size = gr := ⟨_, rfl⟩
  rw [hw15, hgr]
  rw [hgr] at RR
  clear hw15 hgr hb15 HI14 a0r a0f a0n a0c a0z a0l a1r a1f a1n a1c a1z a1l b0r b0f b0n b0c b0z b0l
  have RD : Hid (rowOf w15 g = devA e9 L9 ∧ frOf w15 g = (0, 0)) := hD ⟨HI15.out.ds.box.row, HI15.out.ds.box.fr⟩
  have RE : Hid (rowOf w15 (g + 1) = #[iv 0] ∧ frOf w15 (g + 1) = (0, 0)) := hD ⟨HI15.out.er, HI15.out.ef⟩
  have RB : Hid (rowOf w15 gb = #[.slice B b.length e0] ∧ frOf w15 gb = (0, 0)) := hD (by
   obtain ⟨q1, q2, _⟩ := keep1 HI15.out.ds.bel HRB.out.1 (by go_simp) HRB.out.2
   exact ⟨q1, q2⟩)
  have HIN := hD HI15.out.ds.box.now
  have HSL0 := hD (HEQ.out e9 L9 w15 HIN.out hso (R1L.out.stays HI15.out.ds.bel)).1
  have KE0 : Hid (∀ w, Below w15.drew.heap.size w15.drew w → Calls Try.prog 23 #[.slice L9.a0 old.length L9.c0, .slice A old.length c] w (RetB w (.bool true))) := hD (fun w hb => (HEQ.out e9 L9 w (HIN.out.stays ((Below.refl _ _).drew.trans hb)) hso ((R1L.out.stays HI15.out.ds.bel).stays ((Below.refl _ _).drew.trans hb))).2)
  obtain ⟨zb, zo, hA9, -⟩ := HIN.out.b1 0 (by omega)
  have HSL1 := hD (pre_slice (A := L9.a1) (n := e9.s1.length) (c := L9.c1) b.length rfl HIN.out.k1 (by omega) (by omega) ⟨zb, zo, hA9⟩)
  have KE1 : Hid (∀ w, Below w15.drew.heap.size w15.drew w → Calls Try.prog 23 #[.slice L9.a1 b.length L9.c1, .slice B b.length e0] w (RetB w (.bool true))) := hD (fun w hb => by
   have h9 := (bytesEqual_calls L9.a1 B L9.c1 e0 (e9.s1.take b.length) b w (by rw [List.length_take]; have := HIN.out.k1; omega) c2 ((mid_take HIN.out.b1 _).stays ((Below.refl _ _).drew.trans hb)) ((R2L.out.stays HI15.out.ds.bel).stays ((Below.refl _ _).drew.trans hb))).mono (fun _ _ h => h.to)
   rw [HS1.out] at h9
   simpa using h9)
  clear hA9 hso h1l
  refine wp_region_chain (by kernel_rfl) (some 116 :: some 117 :: some 118 :: some 119 :: some 120 :: some 121 :: some 122 :: some 123 :: some 124 :: some 125 :: some 126 :: some 127 :: some 128 :: some 129 :: some 130 :: some 131 :: some 132 :: some 133 :: some 134 :: some 135 :: some 136 :: some 137 :: some 138 :: some 139 :: some 140 :: some 141 :: some 142 :: some 143 :: some 144 :: some 145 :: some 146 :: some 147 :: some 148 :: some 149 :: some 150 :: some 151 :: some 152 :: some 153 :: some 154 :: some 155 :: some 156 :: some 157 :: some 158 :: some 159 :: some 160 :: some 10 :: []) (iv 0 :: .bool true :: .bool true :: iv 0 :: .bool true :: .bool true :: .bool true :: .pointer (some ⟨gr, 2, none⟩) :: .bool true :: .bool true :: .bool true :: .pointer (some ⟨gr, 1, none⟩) :: iv r.active :: .bool true :: .bool true :: .bool true :: .pointer (some ⟨gr, 5, none⟩) :: .pointer (some ⟨gr, 8, none⟩) :: .pointer (some ⟨gr, 8, none⟩) :: iv to_ :: iv to_ :: .bool true :: .bool true :: .bool true :: .pointer (some ⟨g, 0, none⟩) :: .pointer (some ⟨g, 1, none⟩) :: .slice L9.a1 e9.s1.length L9.c1 :: .pointer (some ⟨gr, 5, none⟩) :: .pointer (some ⟨gr, 8, none⟩) :: .pointer (some ⟨gr, 9, none⟩) :: iv (b.length : Int) :: .slice L9.a1 b.length L9.c1 :: .slice B b.length e0 :: .bool true :: .bool true :: .bool true :: .pointer (some ⟨g, 0, none⟩) :: .pointer (some ⟨g, 0, none⟩) :: .slice L9.a0 e9.s0.length L9.c0 :: .slice A old.length c :: iv (old.length : Int) :: .slice L9.a0 old.length L9.c0 :: .slice A old.length c :: .bool true :: .bool true :: .bool true :: []) 161 rfl rfl (by decide +kernel) (by decide +kernel) (by decide +kernel) rfl ?_ ?_
  ·refine ⟨.inl ⟨rfl, fun done a wq hw h => ?_⟩, ?_⟩
   ·have e12 := cO 12 (.pointer (some ⟨g + 1, 0, none⟩)) h; obtain ⟨r_, f_, n_, c_, z_, l_⟩ := keep1 (g := g + 1) (cs := #[iv 0]) h.bel RE.out.1 (by first | (go_simp; done) | simp [recA]) RE.out.2; refine ch_pure ?_; go_simp
   refine ⟨.inl ⟨rfl, fun done a wq hw h => ?_⟩, ?_⟩
   ·have e116 := cN 0 116 h hw; exact ch_eql_int (by kernel_rfl) (ch_ev e116) rfl (by simp)
   refine ⟨.inl ⟨rfl, fun done a wq hw h => ?_⟩, ?_⟩
   ·have e117 := cN 1 117 h hw; exact ch_move (ch_ev e117)
   refine ⟨.inl ⟨rfl, fun done a wq hw h => ?_⟩, ?_⟩
   ·have e14 := cO 14 (iv 0) h; exact ch_move (ch_ev e14)
   refine ⟨.inl ⟨rfl, fun done a wq hw h => ?_⟩, ?_⟩
   ·have e119 := cN 3 119 h hw; exact ch_eql_int (by kernel_rfl) (ch_ev e119) rfl (by simp)
   refine ⟨.inl ⟨rfl, fun done a wq hw h => ?_⟩, ?_⟩
   ·have e118 := cN 2 118 h hw; have e120 := cN 4 120 h hw; exact ch_pick_t e118 (ch_ev e120)
   refine ⟨.inl ⟨rfl, fun done a wq hw h => ?_⟩, ?_⟩
   ·have e121 := cN 5 121 h hw; exact ch_move (ch_ev e121)
   refine ⟨.inl ⟨rfl, fun done a wq hw h => ?_⟩, ?_⟩
   ·have e18 := cO 18 (.pointer (some ⟨gr, 0, none⟩)) h; refine ch_pure ?_; go_simp
   refine ⟨.inl ⟨rfl, fun done a wq hw h => ?_⟩, ?_⟩
   ·have e123 := cN 7 123 h hw; obtain ⟨r_, f_, n_, c_, z_, l_⟩ := keep1 (g := gr) (cs := recA r) h.bel RR.out.1 (by first | (go_simp; done) | simp [recA]) RR.out.2; have ht_ := HTR.out; refine ch_pure ?_; go_simp
   refine ⟨.inl ⟨rfl, fun done a wq hw h => ?_⟩, ?_⟩
   ·have e122 := cN 6 122 h hw; have e124 := cN 8 124 h hw; exact ch_pick_t e122 (ch_ev e124)
   refine ⟨.inl ⟨rfl, fun done a wq hw h => ?_⟩, ?_⟩
   ·have e125 := cN 9 125 h hw; exact ch_move (ch_ev e125)
   refine ⟨.inl ⟨rfl, fun done a wq hw h => ?_⟩, ?_⟩
   ·have e18 := cO 18 (.pointer (some ⟨gr, 0, none⟩)) h; refine ch_pure ?_; go_simp
   refine ⟨.inl ⟨rfl, fun done a wq hw h => ?_⟩, ?_⟩
   ·have e127 := cN 11 127 h hw; obtain ⟨r_, f_, n_, c_, z_, l_⟩ := keep1 (g := gr) (cs := recA r) h.bel RR.out.1 (by first | (go_simp; done) | simp [recA]) RR.out.2; refine ch_pure ?_; go_simp
   refine ⟨.inl ⟨rfl, fun done a wq hw h => ?_⟩, ?_⟩
   ·have e128 := cN 12 128 h hw; exact ch_eql_int (by kernel_rfl) (ch_ev e128) rfl (by rw [HAC.out]; rfl)
   refine ⟨.inl ⟨rfl, fun done a wq hw h => ?_⟩, ?_⟩
   ·have e126 := cN 10 126 h hw; have e129 := cN 13 129 h hw; exact ch_pick_t e126 (ch_ev e129)
   refine ⟨.inl ⟨rfl, fun done a wq hw h => ?_⟩, ?_⟩
   ·have e130 := cN 14 130 h hw; exact ch_move (ch_ev e130)
   refine ⟨.inl ⟨rfl, fun done a wq hw h => ?_⟩, ?_⟩
   ·have e18 := cO 18 (.pointer (some ⟨gr, 0, none⟩)) h; refine ch_pure ?_; go_simp
   refine ⟨.inl ⟨rfl, fun done a wq hw h => ?_⟩, ?_⟩
   ·have e132 := cN 16 132 h hw; refine ch_pure ?_; go_simp
   refine ⟨.inl ⟨rfl, fun done a wq hw h => ?_⟩, ?_⟩
   ·have e133 := cN 17 133 h hw; refine ch_pure ?_; go_simp
   refine ⟨.inl ⟨rfl, fun done a wq hw h => ?_⟩, ?_⟩
   ·have e134 := cN 18 134 h hw; obtain ⟨r_, f_, n_, c_, z_, l_⟩ := keep1 (g := gr) (cs := recA r) h.bel RR.out.1 (by first | (go_simp; done) | simp [recA]) RR.out.2; have hv_ := HV1.out; refine ch_pure ?_; go_simp
   refine ⟨.inl ⟨rfl, fun done a wq hw h => ?_⟩, ?_⟩
   ·have e2 := cO 2 (iv to_) h; exact ch_move (ch_ev e2)
   refine ⟨.inl ⟨rfl, fun done a wq hw h => ?_⟩, ?_⟩
   ·have e135 := cN 19 135 h hw; have e136 := cN 20 136 h hw; exact ch_eql_int (by kernel_rfl) (ch_ev e135) (ch_ev e136) (by simp)
   refine ⟨.inl ⟨rfl, fun done a wq hw h => ?_⟩, ?_⟩
   ·have e131 := cN 15 131 h hw; have e137 := cN 21 137 h hw; exact ch_pick_t e131 (ch_ev e137)
   refine ⟨.inl ⟨rfl, fun done a wq hw h => ?_⟩, ?_⟩
   ·have e138 := cN 22 138 h hw; exact ch_move (ch_ev e138)
   refine ⟨.inl ⟨rfl, fun done a wq hw h => ?_⟩, ?_⟩
   ·have e11 := cO 11 (.pointer (some ⟨g, 0, none⟩)) h; refine ch_pure ?_; go_simp
   refine ⟨.inl ⟨rfl, fun done a wq hw h => ?_⟩, ?_⟩
   ·have e140 := cN 24 140 h hw; refine ch_pure ?_; go_simp
   refine ⟨.inl ⟨rfl, fun done a wq hw h => ?_⟩, ?_⟩
   ·have e141 := cN 25 141 h hw; obtain ⟨r_, f_, n_, c_, z_, l_⟩ := keep1 (g := g) (cs := devA e9 L9) h.bel RD.out.1 (by first | (go_simp; done) | simp [recA]) RD.out.2; refine ch_pure ?_; go_simp
   refine ⟨.inl ⟨rfl, fun done a wq hw h => ?_⟩, ?_⟩
   ·have e18 := cO 18 (.pointer (some ⟨gr, 0, none⟩)) h; refine ch_pure ?_; go_simp
   refine ⟨.inl ⟨rfl, fun done a wq hw h => ?_⟩, ?_⟩
   ·have e143 := cN 27 143 h hw; refine ch_pure ?_; go_simp
   refine ⟨.inl ⟨rfl, fun done a wq hw h => ?_⟩, ?_⟩
   ·have e144 := cN 28 144 h hw; refine ch_pure ?_; go_simp
   refine ⟨.inl ⟨rfl, fun done a wq hw h => ?_⟩, ?_⟩
   ·have e145 := cN 29 145 h hw; obtain ⟨r_, f_, n_, c_, z_, l_⟩ := keep1 (g := gr) (cs := recA r) h.bel RR.out.1 (by first | (go_simp; done) | simp [recA]) RR.out.2; have hv_ := HV2.out; refine ch_pure ?_; go_simp
   refine ⟨.inl ⟨rfl, fun done a wq hw h => ?_⟩, ?_⟩
   ·have e142 := cN 26 142 h hw; have e146 := cN 30 146 h hw; have hs_ := HSL1.out; refine ch_pure ?_; go_simp
   refine ⟨.inl ⟨rfl, fun done a wq hw h => ?_⟩, ?_⟩
   ·have e6 := cO 6 (.pointer (some ⟨gb, 0, none⟩)) h; obtain ⟨r_, f_, n_, c_, z_, l_⟩ := keep1 (g := gb) (cs := #[.slice B b.length e0]) h.bel RB.out.1 (by first | (go_simp; done) | simp [recA]) RB.out.2; refine ch_pure ?_; go_simp
   refine ⟨.inl ⟨rfl, fun done a wq hw h => ?_⟩, ?_⟩
   ·have e147 := cN 31 147 h hw; have e148 := cN 32 148 h hw; exact ch_call (by go_simp) (by go_simp) (KE1.out _ h.bel)
   refine ⟨.inl ⟨rfl, fun done a wq hw h => ?_⟩, ?_⟩
   ·have e139 := cN 23 139 h hw; have e149 := cN 33 149 h hw; exact ch_pick_t e139 (ch_ev e149)
   refine ⟨.inl ⟨rfl, fun done a wq hw h => ?_⟩, ?_⟩
   ·have e150 := cN 34 150 h hw; exact ch_move (ch_ev e150)
   refine ⟨.inl ⟨rfl, fun done a wq hw h => ?_⟩, ?_⟩
   ·have e11 := cO 11 (.pointer (some ⟨g, 0, none⟩)) h; refine ch_pure ?_; go_simp
   refine ⟨.inl ⟨rfl, fun done a wq hw h => ?_⟩, ?_⟩
   ·have e152 := cN 36 152 h hw; refine ch_pure ?_; go_simp
   refine ⟨.inl ⟨rfl, fun done a wq hw h => ?_⟩, ?_⟩
   ·have e153 := cN 37 153 h hw; obtain ⟨r_, f_, n_, c_, z_, l_⟩ := keep1 (g := g) (cs := devA e9 L9) h.bel RD.out.1 (by first | (go_simp; done) | simp [recA]) RD.out.2; refine ch_pure ?_; go_simp
   refine ⟨.inl ⟨rfl, fun done a wq hw h => ?_⟩, ?_⟩
   ·have e0 := cO 0 (.slice A old.length c) h; exact ch_move (ch_ev e0)
   refine ⟨.inl ⟨rfl, fun done a wq hw h => ?_⟩, ?_⟩
   ·have e155 := cN 39 155 h hw; refine ch_pure ?_; go_simp
   refine ⟨.inl ⟨rfl, fun done a wq hw h => ?_⟩, ?_⟩
   ·have e154 := cN 38 154 h hw; have e156 := cN 40 156 h hw; have hs_ := HSL0.out; refine ch_pure ?_; go_simp
   refine ⟨.inl ⟨rfl, fun done a wq hw h => ?_⟩, ?_⟩
   ·have e0 := cO 0 (.slice A old.length c) h; exact ch_move (ch_ev e0)
   refine ⟨.inl ⟨rfl, fun done a wq hw h => ?_⟩, ?_⟩
   ·have e157 := cN 41 157 h hw; have e158 := cN 42 158 h hw; exact ch_call (by go_simp) (by go_simp) (KE0.out _ h.bel)
   refine ⟨.inl ⟨rfl, fun done a wq hw h => ?_⟩, ?_⟩
   ·have e151 := cN 35 151 h hw; have e159 := cN 43 159 h hw; exact ch_pick_t e151 (ch_ev e159)
   refine ⟨.inl ⟨rfl, fun done a wq hw h => ?_⟩, ?_⟩
   ·have e160 := cN 44 160 h hw; exact ch_assign (ch_ev e160)
   exact trivial
  ·intro w16 hb
   simp only [putAll_some, putAll_none, putAll_nil, List.setIfInBounds_toArray, List.set_cons_zero, List.set_cons_succ]
   have HBE : Hid (Below W.heap.size W w16) := hD (HBL.out.trans ((HI15.out.ds.bel.trans (hb.mono HI15.out.ds.bel.size)).mono HBL.out.size))
   clear hb
   go_wp2_with fail
   go_ret
   exact ⟨rfl, HBE.out⟩
end Go.Proofs.Ytefkfglkpebbmac
