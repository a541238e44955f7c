/- Walks of functions, and plain words. No conditions. -/
import Derived.Test.YtefkfglkpebbmadPE3
import Derived.Test.YtefkfglkpebbmadP3
set_option linter.unusedVariables false
set_option linter.unusedSimpArgs false
set_option maxRecDepth 100000
set_option maxHeartbeats 40000000
namespace Go.Proofs.Ytefkfglkpebbmad
open Go.RowKit
variable {w : World} {c : Nat}
def ctJ (w0 : World) (base : Nat) (C : Option Addr) (n c : Nat) (xs bs : List Value) (y : Nat) (mk : Option Addr × Nat → List Value) : Nat → (Nat → Value) → World → Prop
 | 0, _, w => w = w0.drew
 | 1, cv, w => ∃ A5 c5, cv 17 = .slice A5 y c5 ∧ Own w w0.heap.size 5 1 A5 y c5 bs ∧ Below w0.heap.size w0 w
 | 2, cv, w => ∃ A5 c5, cv 18 = .agg (mk (A5, c5)).toArray ∧ Own w w0.heap.size 5 1 A5 y c5 bs ∧ Below w0.heap.size w0 w
 | 3, cv, w => ∃ A5 c5 w1, Own w1 w0.heap.size 5 1 A5 y c5 bs ∧ Below w0.heap.size w0 w1 ∧ w = w1.alloc (.cells (mk (A5, c5)).toArray 80) ∧ cv 19 = .slice (some ⟨w1.heap.size, 0, none⟩) 1 1
 | 4, cv, w => ∃ A5 c5 w1 A' c', Own w1 w0.heap.size 5 1 A5 y c5 bs ∧ Below w0.heap.size w0 w1 ∧ cv 20 = .slice A' (n + 1) c' ∧ Own w base 80 5 A' (n + 1) c' (xs ++ mk (A5, c5)) ∧ Below base w1 w ∧ (∀ k, k < w1.heap.size → C.map (·.block) ≠ some k → w.heap[k]? = w1.heap[k]?) ∧ (A'.map (·.block) = C.map (·.block) ∨ ∀ k, A'.map (·.block) = some k → w1.heap.size ≤ k)
 | _, cv, w => ∃ A5 c5 w1 A' c', Own w1 w0.heap.size 5 1 A5 y c5 bs ∧ Below w0.heap.size w0 w1 ∧ cv 21 = .slice A' (n + 1) c' ∧ Own w base 80 5 A' (n + 1) c' (xs ++ mk (A5, c5)) ∧ Below base w1 w ∧ (∀ k, k < w1.heap.size → C.map (·.block) ≠ some k → w.heap[k]? = w1.heap[k]?) ∧ (A'.map (·.block) = C.map (·.block) ∨ ∀ k, A'.map (·.block) = some k → w1.heap.size ≤ k)
theorem ctJ_blk {w0 : World} {base n y k g : Nat} {C : Option Addr} {xs bs : List Value} {mk : Option Addr × Nat → List Value} {cv : Nat → Value} {o : Obj} (hJ : ctJ w0 base C n c xs bs y mk k cv w) (h : w0.heap[g]? = some o) (hg : g < base) : w.heap[g]? = some o := by
 have hl := blk_lt h
 match k, hJ with
 | 0, hJ => obtain rfl : w = w0.drew := hJ; exact h
 | 1, ⟨_, _, _, _, h2⟩ => exact blk_below h h2
 | 2, ⟨_, _, _, _, h2⟩ => exact blk_below h h2
 | 3, ⟨_, _, w1, _, h2, h3, _⟩ => subst h3; exact blk_old (blk_below h h2)
 | 4, ⟨_, _, w1, _, _, _, h2, _, _, h3, _⟩ => exact (h3.block g hg).trans (blk_below h h2)
 | q + 5, ⟨_, _, w1, _, _, _, h2, _, _, h3, _⟩ => exact (h3.block g hg).trans (blk_below h h2)
theorem ctJ_app {w0 w1 w' : World} {base n y c5 : Nat} {C A5 A' : Option Addr} {c' : Nat} {xs bs : List Value} {mk : Option Addr × Nat → List Value} {cv : Nat → Value} (h1 : Own w1 w0.heap.size 5 1 A5 y c5 bs) (h2 : Below w0.heap.size w0 w1)
  (hown : Own w' base 80 5 A' (n + 1) c' (xs ++ mk (A5, c5))) (hgr : (w1.alloc (.cells (mk (A5, c5)).toArray 80)).grownBy w' (C.map (·.block))) (hbel : Below base (w1.alloc (.cells (mk (A5, c5)).toArray 80)) w')
  (hor : A'.map (·.block) = C.map (·.block) ∨ A'.map (·.block) = some (w1.alloc (.cells (mk (A5, c5)).toArray 80)).heap.size) (hle : base ≤ w1.heap.size) :
  ctJ w0 base C n c xs bs y mk 4 (fun j => if j = 20 then .slice A' (n + 1) c' else cv j) w' := by
 refine ⟨A5, c5, w1, A', c', h1, h2, by simp, hown, ((Below.refl _ _).alloc hle _).trans hbel, fun k hk hn => (hgr.block k (by simp; omega) (fun e => hn e.symm)).trans (Below.heap_alloc w1 _ k hk), ?_⟩
 rcases hor with h | h
 ·exact .inl h
 ·exact .inr (fun k hk => by rw [h] at hk; injection hk with hk; simp at hk; omega)
theorem wp_val {P : Program} {o : Oper} {a : Act} {K : Act → World → Prop} {Q : Exit → Act → World → Prop} {v : Value} (e : (execOp a.eval o).run P w = .ok (.value v) w) (h : K (a.put o.dst v) w) : Oper.wp P o a w K Q := by
 unfold Oper.wp
 rw [e]
 exact h
theorem wp_sbc {a : Act} {K : Act → World → Prop} {Q : Exit → Act → World → Prop} {t : TypeId} {p : String} {af : Array Edge} {gd : Option (Nat × Bool)} {d s : Tmp} {f t1 n o : Int} {A : Option Addr} {k : Nat} (hs : a.tmps[s]? = some (.agg (chkA f t1 n o A k c)))
  (h : K (a.put (some d) (.slice (some ⟨w.heap.size, 0, none⟩) 1 1)) (w.alloc (.cells (chkA f t1 n o A k c) 80))) :
  Oper.wp Try.prog ⟨some d, .buildSlice 34 1 #[(0, .tmp s)], t, p, af, gd⟩ a w K Q := by
 have e1 : a.eval (.tmp s) = .agg (chkA f t1 n o A k c) := by simp [Act.eval, hs]
 unfold Oper.wp execOp
 simp only [e1, List.map_toArray, List.map_cons, List.map_nil]
 go_simp
 trace_state
 exact h
def ChkRet2 (w : World) (l : List Chk) (n : Int) : Ending → World → Prop := fun en w' =>
 ∃ A c ds, en = .returned (.tuple #[.slice A l.length c, iv n]) ∧ GRow kChk w' w.heap.size l ds A c ∧ Each kChk l ds (fun k => w.heap.size ≤ k) ∧ Below w.heap.size w w'
theorem chkCut_bad (B : Option Addr) (d : Nat) (p : Pat) (w : World) (hp : PatIn w p B d) (h : patCheck p ≠ 0) :
  Calls Try.prog 57 #[.agg (patA p.from_ p.to_ p.old p.new_ p.size B p.ops.length d)] w (ChkRet2 w [] (patCheck p)) := by
 have K1 := hD (fun w hp => patPut_bad B d p w hp h)
 have HP := hD hp
 obtain ⟨ck, hck⟩ : ∃ ck, patCheck p = ck := ⟨_, rfl⟩
 rw [hck] at h K1
 rw [hck]
 have q : (ck != 0) = true := by simp [h]
 clear hp h hck
 go_enter Try.func57, Try.ntmps57
 go_wp2_with fail
 have hba := (Below.refl w.heap.size w).alloc (Nat.le_refl _) (.cells (patA p.from_ p.to_ p.old p.new_ p.size B p.ops.length d) 37)
 refine (K1.out _ (HP.out.stays hba)).mono ?_
 rintro e w1 ⟨rfl, hb1⟩
 have HB1 := hD (hba.trans (hb1.mono (by simp)))
 clear hb1
 go_wp2_with fail
 go_ret2
 exact ⟨none, 0, [], rfl, GRow.nil _ _, Each.nil, HB1.out⟩
theorem chkCut_fine (B : Option Addr) (d : Nat) (p : Pat) (w : World) (hp : PatIn w p B d) (h : patCheck p = 0) :
  Calls Try.prog 57 #[.agg (patA p.from_ p.to_ p.old p.new_ p.size B p.ops.length d)] w (ChkRet2 w (chunksOf p (packed (patBytes p))) 0) := by
 have K1 := hD (fun w hp => patPut_ok B d p w hp h)
 have HP := hD hp
 have hl1 := patBytes_len h
 obtain ⟨hl2, hl3⟩ := packed_patch_len h
 obtain ⟨pb, hpb⟩ : ∃ pb, patBytes p = pb := ⟨_, rfl⟩
 rw [hpb] at K1 hl1 hl2 hl3 ⊢
 have K2 := hD (fun A c w hc hb => pack_calls A c pb w hc (by omega) hb)
 obtain ⟨b, hb⟩ : ∃ b, packed pb = b := ⟨_, rfl⟩
 rw [hb] at K2 hl2 hl3 ⊢
 obtain ⟨m, hm⟩ : ∃ m, (b.length + 15) / 16 = m := ⟨_, rfl⟩
 have HCO : Hid (∀ k, k < m → (chunksOf p b)[k]? = some (chunkAt p b m k)) := hD (fun k hk => by unfold chunksOf; rw [hm]; simp [hk])
 have HCL0 : Hid ((chunksOf p b).length = m) := hD (by unfold chunksOf; rw [hm]; simp)
 have hq : ((b.length : Int) + 15).tdiv 16 = (m : Int) := by rw [Int.tdiv_eq_ediv_of_nonneg (by omega)]; omega
 have hm1 : m ≤ 10 := by omega
 have HM := hD hm
 clear hp h hpb hb hm
 generalize chunksOf p b = cs at *
 have HCA : Hid (∀ k, chunkAt p b m k = ⟨p.from_, p.to_, k, m, (b.drop (k * 16)).take 16⟩) := hD (fun k => rfl)
 generalize chunkAt p b m = ca at *
 obtain ⟨f, t, o, n, sz, l⟩ := p
 dsimp only at *
 have j1 : IntKind.i64.wrap ((b.length : Int) + 16) = (b.length : Int) + 16 := IntWalk.i64_in _ (by omega)
 have j2 : IntKind.i64.wrap ((b.length : Int) + 15) = (b.length : Int) + 15 := IntWalk.i64_in _ (by omega)
 have j3 : (b.length : Int) + 16 - 1 = (b.length : Int) + 15 := by omega
 have j4 : IntKind.i64.wrap (m : Int) = (m : Int) := IntWalk.i64_in _ (by omega)
 have j5 : decide ((52 : Int) < (m : Int)) = false := decide_eq_false (by omega)
 have j6 : ¬ 52 < m := by omega
 go_enter Try.func57, Try.ntmps57
 go_wp2_with fail
 have hba := (Below.refl w.heap.size w).alloc (Nat.le_refl _) (.cells (patA f t o n sz B l.length d) 37)
 refine (K1.out _ (HP.out.stays hba)).mono ?_
 rintro e w1 ⟨A1, c1, rfl, ho1, hb1⟩
 have hb1' := hba.trans (hb1.mono (by simp))
 obtain ⟨a0r, a0f, a0n, a0c, a0z, a0l⟩ := kp (w.heap.size) (patA f t o n sz B l.length d) hb1
 have HBT := hD ho1.src.bts
 have hc1 := ho1.le
 dsimp only at hc1
 have HB1 := hD hb1'
 clear ho1 hb1 hb1'
 go_wp2_with fail
 refine (K2.out _ _ _ hc1 HBT.out).mono ?_
 rintro e w2 ⟨A2, c2, rfl, ho2, hb2⟩
 obtain ⟨tT, hgp⟩ := row_blk (w := w2) (g := w.heap.size) (by rw [rowOf_below a0l hb2, a0r]; simp [patA])
 have hpb2 : w2.heap[w.heap.size]? = some (.cells (patA f t o n sz B l.length d) tT (0, 0)) := by rw [rowOf_below a0l hb2, a0r, frOf_below a0l hb2, a0f] at hgp; exact hgp
 have HPB0 := hD hpb2
 have HBB2 := hD ho2.src.bts
 have hc2 := ho2.le
 have HB2 : Hid (Below w.heap.size w w2) := hD (HB1.out.trans (hb2.mono HB1.out.size))
 have hg0l := blk_lt hpb2
 have hlb : 0 < b.length := by omega
 obtain ⟨ab, ao, rfl, hab, _⟩ := HBB2.out 0 hlb
 clear ho2 hb2 hgp hpb2 a0r a0f a0n a0c a0z a0l HP K1 K2
 go_wp2_with fail
 generalize hg0 : w.heap.size = g0 at *
 have HGE := hD hg0
 generalize hbase : w2.heap.size = base at *
 have HBE := hD hbase
 clear hg0 hbase
 go_loopw [7, 27] (fun v i wr => ∃ (k : Nat) (acc : List Chk) (ds : List (Option Addr × Nat)) (C : Option Addr) (cc : Nat), k ≤ m ∧ i = .int .i64 k ∧ v = .slice C acc.length cc ∧ acc.length = k ∧ Hid (acc = cs.take k) ∧ Hid (GRow kChk wr base acc ds C cc) ∧ Hid (Each kChk acc ds (fun q => base ≤ q)) ∧ Hid (Below base w2 wr)) (fun _ i _ => m - (intOf i).toNat)
 case atStart => exact ⟨0, [], [], none, 0, Nat.zero_le _, rfl, rfl, rfl, hD (by simp), hD (GRow.nil _ _), hD Each.nil, hD (Below.refl _ _)⟩
 case round =>
  rename World => wo
  obtain ⟨k, acc, ds, C, cc, hk, rfl, rfl, hal, HAC, HR, HE, HB⟩ := hrel
  have hbo : base ≤ wo.heap.size := Nat.le_trans (Nat.le_of_eq HBE.out.symm) HB.out.size
  have hbw : Below w2.heap.size w2 wo := HBE.out ▸ HB.out
  by_cases hlt : k < m
  ·have dl : decide ((k : Int) < (m : Int)) = true := decide_eq_true (by omega)
   have hwk : IntKind.i64.wrap ((k : Int) + 1) = (k : Int) + 1 := IntWalk.i64_in _ (by omega)
   obtain ⟨x, hx⟩ : ∃ x, ca k = x := ⟨_, rfl⟩
   have hxe := HCA.out k
   rw [hx] at hxe
   obtain ⟨y, hy⟩ : ∃ y, x.data.length = y := ⟨_, rfl⟩
   have hyk : k * 16 + y ≤ b.length ∧ y ≤ 16 ∧ (y = 16 ∨ k * 16 + y = b.length) := by rw [← hy, hxe]; have := HM.out; simp; omega
   obtain ⟨hy1, hy2, hy3⟩ := hyk
   obtain ⟨o3, c3, hc3, hB3, hsl3⟩ := mid_slice (z1 := (k : Int) * 16) (z2 := (k : Int) * 16 + (y : Int)) (k * 16) y (by simp) (by simp) hc2 hy1 (HBB2.out.stays hbw)
   have hdt : (b.drop (k * 16)).take y = x.data := by
    rw [← hy, hxe]
    dsimp only
    rw [List.length_take, List.take_eq_take_iff]
    omega
   rw [hdt] at hB3
   have HNXT : Hid (acc ++ [x] = cs.take (k + 1)) := hD (by
    have h1 := HCO.out k hlt
    rw [hx] at h1
    obtain ⟨h2, h3⟩ := List.getElem?_eq_some_iff.1 h1
    rw [List.take_succ_eq_append_getElem h2, h3, HAC.out])
   have HCL : Hid (∀ wq, Below wo.heap.size wo wq → Calls Try.prog 26 #[.slice (some ⟨ab, o3, none⟩) y c3] wq (SlRet wq 5 1 y (x.data.map bv))) := hD (fun wq h => cloneBytes_calls _ _ _ _ wq (by simp [hy]) (by omega) (hB3.stays h).src (bv_one _))
   have HXE : Hid (∀ e : Option Addr × Nat, (kChk.cell x e).toArray = chkA f t (k : Int) (m : Int) e.1 y e.2) := hD (fun e => by rw [← hy]; rw [show kChk.cell x e = chkC x e.1 e.2 from rfl, hxe]; simp [chkA])
   have HW1 : Hid (IntKind.i64.wrap ((k : Int) * 16) = (k : Int) * 16) := hD (IntWalk.i64_in _ (by omega))
   have HW2 : Hid (IntKind.i64.wrap ((k : Int) + 1) = (k : Int) + 1) := hD hwk
   have HW3 : Hid (IntKind.i64.wrap (((k : Int) + 1) * 16) = ((k : Int) + 1) * 16) := hD (IntWalk.i64_in _ (by omega))
   have HMIN : Hid ((if ((k : Int) + 1) * 16 < (b.length : Int) then ((k : Int) + 1) * 16 else (b.length : Int)) = (k : Int) * 16 + (y : Int)) := hD (by split <;> omega)
   have HSL := hD hsl3
   have HPB : Hid (wo.heap[g0]? = some (.cells (patA f t o n sz B l.length d) tT (0, 0))) := hD ((HB.out.block g0 (by omega)).trans HPB0.out)
   have hg0b : g0 < base := by omega
   have HY := hD hy
   have HAL := hD hal
   have hk10 : k ≤ 10 := by omega
   have hacl : acc.length ≤ 10 := by omega
   clear hx hxe hy3 hB3 hsl3 hdt hbw hal hwk hy
   go_wp2_with fail
   refine wp_region_free (by kernel_rfl) (some 30 :: some 31 :: some 32 :: some 33 :: some 34 :: some 35 :: some 36 :: some 37 :: some 38 :: some 39 :: some 40 :: some 41 :: some 42 :: some 43 :: some 44 :: some 45 :: some 46 :: some 47 :: some 48 :: some 49 :: some 50 :: some 7 :: []) (false :: false :: false :: false :: false :: false :: false :: false :: false :: false :: false :: false :: false :: false :: false :: false :: false :: true :: true :: true :: true :: true :: []) (.slice C acc.length cc :: .pointer (some ⟨g0, 0, none⟩) :: iv f :: .pointer (some ⟨g0, 1, none⟩) :: iv t :: .int .i64 (k : Int) :: .int .i64 (m : Int) :: .slice (some ⟨ab, ao, none⟩) b.length c2 :: .int .i64 (k : Int) :: .int .i64 ((k : Int) * 16) :: .slice (some ⟨ab, ao, none⟩) b.length c2 :: .int .i64 (b.length : Int) :: .int .i64 (k : Int) :: .int .i64 ((k : Int) + 1) :: .int .i64 (((k : Int) + 1) * 16) :: .int .i64 ((k : Int) * 16 + (y : Int)) :: .slice (some ⟨ab, o3, none⟩) y c3 :: undef :: undef :: undef :: undef :: undef :: []) (fun done cv w => ctJ wo base C acc.length cc (kChk.cells acc ds) (x.data.map bv) y (fun e => kChk.cell x e) (lvlN [21, 20, 19, 18, 17] done) cv w) 53 rfl rfl (by decide +kernel) (by decide +kernel) (by decide +kernel) rfl rfl (rfl) ?_ ?_
   ·refine ⟨?_, ?_⟩
    ·intro done cv a wq hn hw hcl h hJ
     have e7 := fr_un (t := 7) (i := 0) (i0 := 21) (v := .slice C acc.length cc) h hcl hn rfl (by decide) (by decide) rfl
     exact mx_move (ch_ev e7)
    refine ⟨?_, ?_⟩
    ·intro done cv a wq hn hw hcl h hJ
     have e1 := fO 1 (.pointer (some ⟨g0, 0, none⟩)) h
     go_simp
    refine ⟨?_, ?_⟩
    ·intro done cv a wq hn hw hcl h hJ
     have e31 := fN 1 31 h hw
     have hc := ctJ_blk hJ HPB.out hg0b
     have hc2 : wq.cell? ⟨g0, 0, none⟩ = some (iv f) := by rw [cell_of_row _ _ _ _ _ _ hc]; rfl
     go_simp
    refine ⟨?_, ?_⟩
    ·intro done cv a wq hn hw hcl h hJ
     have e1 := fO 1 (.pointer (some ⟨g0, 0, none⟩)) h
     go_simp
    refine ⟨?_, ?_⟩
    ·intro done cv a wq hn hw hcl h hJ
     have e33 := fN 3 33 h hw
     have hc := ctJ_blk hJ HPB.out hg0b
     have hc2 : wq.cell? ⟨g0, 1, none⟩ = some (iv t) := by rw [cell_of_row _ _ _ _ _ _ hc]; rfl
     go_simp
    refine ⟨?_, ?_⟩
    ·intro done cv a wq hn hw hcl h hJ
     have e8 := fO 8 (.int .i64 (k : Int)) h
     exact mx_move (ch_ev e8)
    refine ⟨?_, ?_⟩
    ·intro done cv a wq hn hw hcl h hJ
     have e6 := fO 6 (.int .i64 (m : Int)) h
     exact mx_move (ch_ev e6)
    refine ⟨?_, ?_⟩
    ·intro done cv a wq hn hw hcl h hJ
     have e4 := fO 4 (.slice (some ⟨ab, ao, none⟩) b.length c2) h
     exact mx_move (ch_ev e4)
    refine ⟨?_, ?_⟩
    ·intro done cv a wq hn hw hcl h hJ
     have e8 := fO 8 (.int .i64 (k : Int)) h
     exact mx_move (ch_ev e8)
    refine ⟨?_, ?_⟩
    ·intro done cv a wq hn hw hcl h hJ
     have e38 := fN 8 38 h hw
     have h1 := HW1.out
     go_simp
    refine ⟨?_, ?_⟩
    ·intro done cv a wq hn hw hcl h hJ
     have e4 := fO 4 (.slice (some ⟨ab, ao, none⟩) b.length c2) h
     exact mx_move (ch_ev e4)
    refine ⟨?_, ?_⟩
    ·intro done cv a wq hn hw hcl h hJ
     have e40 := fN 10 40 h hw
     go_simp
    refine ⟨?_, ?_⟩
    ·intro done cv a wq hn hw hcl h hJ
     have e8 := fO 8 (.int .i64 (k : Int)) h
     exact mx_move (ch_ev e8)
    refine ⟨?_, ?_⟩
    ·intro done cv a wq hn hw hcl h hJ
     have e42 := fN 12 42 h hw
     have h1 := HW2.out
     go_simp
    refine ⟨?_, ?_⟩
    ·intro done cv a wq hn hw hcl h hJ
     have e43 := fN 13 43 h hw
     have h1 := HW3.out
     go_simp
    refine ⟨?_, ?_⟩
    ·intro done cv a wq hn hw hcl h hJ
     have e41 := fN 11 41 h hw; have e44 := fN 14 44 h hw
     have h1 := HMIN.out
     first | (go_simp; done) | (go_simp; split at h1 <;> omega)
    refine ⟨?_, ?_⟩
    ·intro done cv a wq hn hw hcl h hJ
     have e37 := fN 7 37 h hw; have e39 := fN 9 39 h hw; have e45 := fN 15 45 h hw
     have h1 := HSL.out
     go_simp
    refine ⟨?_, ?_⟩
    ·intro done cv a wq hn hw hcl h hJ
     have e46 := fN 16 46 h hw
     have n17 := hn
     have n18 := nW 18 17 hcl n17
     have n19 := nW 19 18 hcl n18
     have n20 := nW 20 19 hcl n19
     have n21 := nW 21 20 hcl n20
     have hl : lvlN [21, 20, 19, 18, 17] (maskB [false, false, false, false, false, false, false, false, false, false, false, false, false, false, false, false, false, true, true, true, true, true] done) = 0 := by simp [lvlN, maskB, n17, n18, n19, n20, n21]
     have hl2 : lvlN [21, 20, 19, 18, 17] (fun j => if j = 17 then true else maskB [false, false, false, false, false, false, false, false, false, false, false, false, false, false, false, false, false, true, true, true, true, true] done j) = 1 := by simp [lvlN, maskB, n17, n18, n19, n20, n21]
     rw [hl] at hJ
     have hK : ∀ (v : Value) (w' : World), ctJ wo base C acc.length cc (kChk.cells acc ds) (x.data.map bv) y (fun e => kChk.cell x e) 1 (fun j => if j = 17 then v else cv j) w' → ctJ wo base C acc.length cc (kChk.cells acc ds) (x.data.map bv) y (fun e => kChk.cell x e) (lvlN [21, 20, 19, 18, 17] (fun j => if j = 17 then true else maskB [false, false, false, false, false, false, false, false, false, false, false, false, false, false, false, false, false, true, true, true, true, true] done j)) (fun j => if j = 17 then v else cv j) w' := fun v w' h => by rw [hl2]; exact h
     obtain rfl : wq = wo.drew := hJ
     refine wp_call (vals := #[.slice (some ⟨ab, o3, none⟩) y c3]) (by rw [List.map_toArray, List.map_cons, List.map_nil, ch_ev e46]) (enters_of Try.func26 (by kernel_rfl) rfl _ _) (HCL.out _ ((Below.refl _ _).drew)) ?_
     rintro e w' ⟨A5, c5, rfl, hown, hbel⟩
     exact ⟨_, rfl, _, rfl, hK _ _ ⟨A5, c5, by simp, hown, (Below.refl _ _).drew.trans hbel⟩⟩
    refine ⟨?_, ?_⟩
    ·intro done cv a wq hn hw hcl h hJ
     have e32 := fN 2 32 h hw; have e34 := fN 4 34 h hw; have e35 := fN 5 35 h hw; have e36 := fN 6 36 h hw; have e47 := fr_cv (i := 17) (t := 47) h (hw 17 (by decide)) rfl rfl
     have n18 := hn
     have n19 := nW 19 18 hcl n18
     have n20 := nW 20 19 hcl n19
     have n21 := nW 21 20 hcl n20
     have m17 := hw 17 (by decide)
     have hl : lvlN [21, 20, 19, 18, 17] (maskB [false, false, false, false, false, false, false, false, false, false, false, false, false, false, false, false, false, true, true, true, true, true] done) = 1 := by simp [lvlN, maskB, n18, n19, n20, n21, m17]
     have hl2 : lvlN [21, 20, 19, 18, 17] (fun j => if j = 18 then true else maskB [false, false, false, false, false, false, false, false, false, false, false, false, false, false, false, false, false, true, true, true, true, true] done j) = 2 := by simp [lvlN, maskB, n18, n19, n20, n21, m17]
     rw [hl] at hJ
     have hK : ∀ (v : Value) (w' : World), ctJ wo base C acc.length cc (kChk.cells acc ds) (x.data.map bv) y (fun e => kChk.cell x e) 2 (fun j => if j = 18 then v else cv j) w' → ctJ wo base C acc.length cc (kChk.cells acc ds) (x.data.map bv) y (fun e => kChk.cell x e) (lvlN [21, 20, 19, 18, 17] (fun j => if j = 18 then true else maskB [false, false, false, false, false, false, false, false, false, false, false, false, false, false, false, false, false, true, true, true, true, true] done j)) (fun j => if j = 18 then v else cv j) w' := fun v w' h => by rw [hl2]; exact h
     obtain ⟨A5, c5, y1, hown, hbel⟩ := hJ
     rw [y1] at e47
     refine wp_val (v := .agg (chkA f t (k : Int) (m : Int) A5 y c5)) (by go_simp) ⟨_, rfl, hK _ _ ⟨A5, c5, ?_, hown, hbel⟩⟩
     rw [HXE.out]
     simp
    refine ⟨?_, ?_⟩
    ·intro done cv a wq hn hw hcl h hJ
     have e48 := fr_cv (i := 18) (t := 48) h (hw 18 (by decide)) rfl rfl
     have n19 := hn
     have n20 := nW 20 19 hcl n19
     have n21 := nW 21 20 hcl n20
     have m18 := hw 18 (by decide)
     have hl : lvlN [21, 20, 19, 18, 17] (maskB [false, false, false, false, false, false, false, false, false, false, false, false, false, false, false, false, false, true, true, true, true, true] done) = 2 := by simp [lvlN, maskB, n19, n20, n21, m18]
     have hl2 : lvlN [21, 20, 19, 18, 17] (fun j => if j = 19 then true else maskB [false, false, false, false, false, false, false, false, false, false, false, false, false, false, false, false, false, true, true, true, true, true] done j) = 3 := by simp [lvlN, maskB, n19, n20, n21, m18]
     rw [hl] at hJ
     have hK : ∀ (v : Value) (w' : World), ctJ wo base C acc.length cc (kChk.cells acc ds) (x.data.map bv) y (fun e => kChk.cell x e) 3 (fun j => if j = 19 then v else cv j) w' → ctJ wo base C acc.length cc (kChk.cells acc ds) (x.data.map bv) y (fun e => kChk.cell x e) (lvlN [21, 20, 19, 18, 17] (fun j => if j = 19 then true else maskB [false, false, false, false, false, false, false, false, false, false, false, false, false, false, false, false, false, true, true, true, true, true] done j)) (fun j => if j = 19 then v else cv j) w' := fun v w' h => by rw [hl2]; exact h
     obtain ⟨A5, c5, y1, hown, hbel⟩ := hJ
     rw [y1] at e48
     rw [HXE.out] at e48
     refine wp_sbc e48 ⟨_, rfl, hK _ _ ⟨A5, c5, wq, hown, hbel, by rw [HXE.out], by simp⟩⟩
    refine ⟨?_, ?_⟩
    ·intro done cv a wq hn hw hcl h hJ
     have e30 := fN 0 30 h hw; have e49 := fr_cv (i := 19) (t := 49) h (hw 19 (by decide)) rfl rfl
     have n20 := hn
     have n21 := nW 21 20 hcl n20
     have m19 := hw 19 (by decide)
     have hl : lvlN [21, 20, 19, 18, 17] (maskB [false, false, false, false, false, false, false, false, false, false, false, false, false, false, false, false, false, true, true, true, true, true] done) = 3 := by simp [lvlN, maskB, n20, n21, m19]
     have hl2 : lvlN [21, 20, 19, 18, 17] (fun j => if j = 20 then true else maskB [false, false, false, false, false, false, false, false, false, false, false, false, false, false, false, false, false, true, true, true, true, true] done j) = 4 := by simp [lvlN, maskB, n20, n21, m19]
     rw [hl] at hJ
     have hK : ∀ (v : Value) (w' : World), ctJ wo base C acc.length cc (kChk.cells acc ds) (x.data.map bv) y (fun e => kChk.cell x e) 4 (fun j => if j = 20 then v else cv j) w' → ctJ wo base C acc.length cc (kChk.cells acc ds) (x.data.map bv) y (fun e => kChk.cell x e) (lvlN [21, 20, 19, 18, 17] (fun j => if j = 20 then true else maskB [false, false, false, false, false, false, false, false, false, false, false, false, false, false, false, false, false, true, true, true, true, true] done j)) (fun j => if j = 20 then v else cv j) w' := fun v w' h => by rw [hl2]; exact h
     obtain ⟨A5, c5, w1, hown, hbel, rfl, y1⟩ := hJ
     rw [y1] at e49
     refine wp_app _ (.tmp 30) (.tmp 49) 34 rfl elChunks base C acc.length cc (kChk.cells acc ds) (ch_ev e30) ((HR.out.row.below (B := 0) hbel).alloc _) (some ⟨w1.heap.size, 0, none⟩) 1 1 (kChk.cell x (A5, c5)) (ch_ev e49) (src_blk (blk_top rfl)) (by simp [kChk]) (kChk.one _ _) (by omega) (by have := hbel.size; simp; omega) ?_
     intro A' c' w' hown2 hgr hbel2 hor
     exact ⟨_, rfl, hK _ _ (ctJ_app hown hbel hown2 hgr hbel2 hor (Nat.le_trans hbo hbel.size))⟩
    refine ⟨?_, ?_⟩
    ·intro done cv a wq hn hw hcl h hJ
     have e50 := fr_cv (i := 20) (t := 50) h (hw 20 (by decide)) rfl rfl
     have n21 := hn
     have m20 := hw 20 (by decide)
     have hl : lvlN [21, 20, 19, 18, 17] (maskB [false, false, false, false, false, false, false, false, false, false, false, false, false, false, false, false, false, true, true, true, true, true] done) = 4 := by simp [lvlN, maskB, n21, m20]
     have hl2 : lvlN [21, 20, 19, 18, 17] (fun j => if j = 21 then true else maskB [false, false, false, false, false, false, false, false, false, false, false, false, false, false, false, false, false, true, true, true, true, true] done j) = 5 := by simp [lvlN, maskB, n21, m20]
     rw [hl] at hJ
     have hK : ∀ (v : Value) (w' : World), ctJ wo base C acc.length cc (kChk.cells acc ds) (x.data.map bv) y (fun e => kChk.cell x e) 5 (fun j => if j = 21 then v else cv j) w' → ctJ wo base C acc.length cc (kChk.cells acc ds) (x.data.map bv) y (fun e => kChk.cell x e) (lvlN [21, 20, 19, 18, 17] (fun j => if j = 21 then true else maskB [false, false, false, false, false, false, false, false, false, false, false, false, false, false, false, false, false, true, true, true, true, true] done j)) (fun j => if j = 21 then v else cv j) w' := fun v w' h => by rw [hl2]; exact h
     obtain ⟨A5, c5, w1, A', c', hown, hbel, y1, r1, r2, r3, r4⟩ := hJ
     rw [y1] at e50
     exact wp_asg (ch_ev e50) ⟨_, rfl, hK _ _ ⟨A5, c5, w1, A', c', hown, hbel, by simp, r1, r2, r3, r4⟩⟩
    exact trivial
   ·intro dn cv w3 hall hJ
    rw [show lvlN [21, 20, 19, 18, 17] dn = 5 by simp [lvlN, hall 21 rfl (by decide)]] at hJ
    obtain ⟨A5, c5, w1', A', c', hown, hbel, y1, r1, r2, r3, r4⟩ := hJ
    simp only [freeAll, putAll_some, putAll_none, putAll_nil, List.getD_cons_zero, List.getD_cons_succ, Bool.false_eq_true, if_true, if_false, reduceIte, Nat.zero_add, Nat.reduceAdd, List.setIfInBounds_toArray, List.set_cons_zero, List.set_cons_succ]
    rw [y1]
    have hr1 : GRow kChk w1' base acc ds C cc := HR.out.below hbel
    have hdb : x.data.length ≤ c5 := by rw [HY.out]; exact hown.le
    have hblk : ∀ q, A5.map (·.block) = some q → wo.heap.size ≤ q := fun q e => (hown.block q e).1
    have hr2 := hr1.push (o := x) (d := (A5, c5)) r1 r2 r3 r4 hown.src.bts hdb (fun _ q e e2 => by have h5 := hblk q e; have h6 := (HR.out.row.block q e2).2; omega)
    have HR3 := hD hr2
    have HE3 : Hid (Each kChk (acc ++ [x]) (ds ++ [(A5, c5)]) (fun q => base ≤ q)) := hD (HE.out.push HR.out.len (fun _ q e => by have h5 := hblk q e; omega))
    have HB3 : Hid (Below base w2 w3) := hD ((HB.out.trans (hbel.mono hbo)).trans r2)
    have hwk : IntKind.i64.wrap ((k : Int) + 1) = (k : Int) + 1 := HW2.out
    clear hown hbel y1 r1 r2 r3 r4 hr1 hdb hblk hr2
    go_wp2_with fail
    go_roundw
    case rel => exact ⟨k + 1, acc ++ [x], ds ++ [(A5, c5)], A', c', by omega, by go_num, by simp, by rw [List.length_append, HAL.out]; rfl, HNXT, HR3, HE3, HB3⟩
    case measure => simp [intOf]; omega
  ·obtain rfl : k = m := by omega
   have dl : decide ((k : Int) < (k : Int)) = false := by simp
   have hz : acc = cs := by rw [HAC.out, List.take_of_length_le (by rw [HCL0.out]; exact Nat.le_refl _)]
   have HZ := hD hz
   clear hz hal
   go_wp2_with fail
   go_ret2
   rw [← HZ.out]
   exact ⟨C, cc, ds, rfl, HR.out.mono (by rw [HGE.out]; omega), HE.out.imp (fun q hq => by rw [HGE.out]; omega), by rw [HGE.out]; exact HB2.out.trans (HB.out.mono (by omega))⟩
theorem chkCut_calls (B : Option Addr) (d : Nat) (p : Pat) (w : World) (hp : PatIn w p B d) :
  Calls Try.prog 57 #[.agg (patA p.from_ p.to_ p.old p.new_ p.size B p.ops.length d)] w (ChkRet2 w (chkCut p).1 (chkCut p).2) := by
 unfold chkCut
 by_cases h : patCheck p = 0
 ·obtain ⟨h1, h2⟩ := packed_patch_len h
  rw [if_neg (by simpa using h), if_neg (by omega)]
  exact chkCut_fine B d p w hp h
 ·rw [if_pos h]
  exact chkCut_bad B d p w hp h
theorem devBusy_form {d : Dev} {r : Rec} (h : r.trying = true ∨ d.job.to_ < r.floor ∨ d.job.from_ ≠ (r.at_ r.active).ver ∨ (r.at_ (1 - r.active)).ver ≠ 0) : devBusyCheck d r = 3 := by unfold devBusyCheck; rw [if_pos h]
theorem at_0 (r : Rec) : r.at_ 0 = r.a := by simp [Rec.at_]
theorem at_1 (r : Rec) : r.at_ 1 = r.b := by simp [Rec.at_]
theorem devCheck_busyOther0_ : (∀ (d : Dev) (L : DLoc) (w : World) (h : DevIn w d L) (h0 : d.s0.length = 64) (h1 : d.s1.length = 64) (hc : copCheck d.c0 d.c1 = 0) (hu : d.up = true) (hx : d.running = (recRead d.c0 d.c1).1.active) (hg : chkList d.got = 0) (hbz : d.busy = true) (hk : (recRead d.c0 d.c1).1.active = 0) (ht : (recRead d.c0 d.c1).1.trying = false) (ha : ¬ d.job.to_ < (recRead d.c0 d.c1).1.floor ∧ d.job.from_ = (recRead d.c0 d.c1).1.a.ver ∧ (recRead d.c0 d.c1).1.b.ver ≠ 0), Calls Try.prog 31 #[.agg (devA d L)] w (RetB w (iv (devCheck d)))) ∧ (∀ (d : Dev) (L : DLoc) (w : World) (h : DevIn w d L) (h0 : d.s0.length = 64) (h1 : d.s1.length = 64) (hc : copCheck d.c0 d.c1 = 0) (hu : d.up = true) (hx : d.running = (recRead d.c0 d.c1).1.active) (hg : chkList d.got = 0) (hbz : d.busy = true) (hk : (recRead d.c0 d.c1).1.active = 1) (ht : (recRead d.c0 d.c1).1.trying = false) (ha : ¬ d.job.to_ < (recRead d.c0 d.c1).1.floor ∧ d.job.from_ = (recRead d.c0 d.c1).1.b.ver ∧ (recRead d.c0 d.c1).1.a.ver ≠ 0), Calls Try.prog 31 #[.agg (devA d L)] w (RetB w (iv (devCheck d)))) ∧ (∀ (d : Dev) (L : DLoc) (w : World) (h : DevIn w d L) (h0 : d.s0.length = 64) (h1 : d.s1.length = 64) (hc : copCheck d.c0 d.c1 = 0) (hu : d.up = true) (hx : d.running = (recRead d.c0 d.c1).1.active) (hg : chkList d.got = 0) (hbz : d.busy = true) (hk : (recRead d.c0 d.c1).1.active = 0) (ht : (recRead d.c0 d.c1).1.trying = false) (ha : ¬ d.job.to_ < (recRead d.c0 d.c1).1.floor ∧ d.job.from_ ≠ (recRead d.c0 d.c1).1.a.ver), Calls Try.prog 31 #[.agg (devA d L)] w (RetB w (iv (devCheck d)))) ∧ (∀ (d : Dev) (L : DLoc) (w : World) (h : DevIn w d L) (h0 : d.s0.length = 64) (h1 : d.s1.length = 64) (hc : copCheck d.c0 d.c1 = 0) (hu : d.up = true) (hx : d.running = (recRead d.c0 d.c1).1.active) (hg : chkList d.got = 0) (hbz : d.busy = true) (hk : (recRead d.c0 d.c1).1.active = 1) (ht : (recRead d.c0 d.c1).1.trying = false) (ha : ¬ d.job.to_ < (recRead d.c0 d.c1).1.floor ∧ d.job.from_ ≠ (recRead d.c0 d.c1).1.b.ver), Calls Try.prog 31 #[.agg (devA d L)] w (RetB w (iv (devCheck d)))) ∧ (∀ (d : Dev) (L : DLoc) (w : World) (h : DevIn w d L) (h0 : d.s0.length = 64) (h1 : d.s1.length = 64) (hc : copCheck d.c0 d.c1 = 0) (hu : d.up = true) (hx : d.running = (recRead d.c0 d.c1).1.active) (hg : chkList d.got = 0) (hbz : d.busy = true) (hk : (recRead d.c0 d.c1).1.active = 0) (ht : (recRead d.c0 d.c1).1.trying = false) (ha : d.job.to_ < (recRead d.c0 d.c1).1.floor), Calls Try.prog 31 #[.agg (devA d L)] w (RetB w (iv (devCheck d)))) ∧ (∀ (d : Dev) (L : DLoc) (w : World) (h : DevIn w d L) (h0 : d.s0.length = 64) (h1 : d.s1.length = 64) (hc : copCheck d.c0 d.c1 = 0) (hu : d.up = true) (hx : d.running = (recRead d.c0 d.c1).1.active) (hg : chkList d.got = 0) (hbz : d.busy = true) (hk : (recRead d.c0 d.c1).1.active = 1) (ht : (recRead d.c0 d.c1).1.trying = false) (ha : d.job.to_ < (recRead d.c0 d.c1).1.floor), Calls Try.prog 31 #[.agg (devA d L)] w (RetB w (iv (devCheck d)))) ∧ (∀ (d : Dev) (L : DLoc) (w : World) (h : DevIn w d L) (h0 : d.s0.length = 64) (h1 : d.s1.length = 64) (hc : copCheck d.c0 d.c1 = 0) (hu : d.up = true) (hx : d.running = (recRead d.c0 d.c1).1.active) (hg : chkList d.got = 0) (hbz : d.busy = true) (ht : (recRead d.c0 d.c1).1.trying = true), Calls Try.prog 31 #[.agg (devA d L)] w (RetB w (iv (devCheck d)))) ∧ (∀ (d : Dev) (L : DLoc) (w : World) (h : DevIn w d L) (h0 : d.s0.length = 64) (h1 : d.s1.length = 64) (hc : copCheck d.c0 d.c1 = 0) (hu : d.up = true) (hx : d.running ≠ (recRead d.c0 d.c1).1.active) (ht : (recRead d.c0 d.c1).1.trying = true) (hv : d.running = 0 ∨ d.running = 1) (hg : chkList d.got = 0) (hbz : d.busy = true), Calls Try.prog 31 #[.agg (devA d L)] w (RetB w (iv (devCheck d)))) := by
 refine ⟨?_, ?_, ?_, ?_, ?_, ?_, ?_, ?_⟩
 case' refine_1 => have U01 : Hid True := hD trivial; have U02 : Hid True := hD trivial; have U03 : Hid True := hD trivial; have U04 : Hid True := hD trivial; have U05 : Hid True := hD trivial; have U06 : Hid True := hD trivial; have U07 : Hid True := hD trivial; intro d L w h h0 h1 hc hu hx hg hbz hk ht ha
 case' refine_2 => have U02 : Hid True := hD trivial; have U03 : Hid True := hD trivial; have U04 : Hid True := hD trivial; have U05 : Hid True := hD trivial; have U06 : Hid True := hD trivial; have U07 : Hid True := hD trivial; intro d L w h h0 h1 hc hu hx hg hbz hk ht ha
 case' refine_3 => have U03 : Hid True := hD trivial; have U04 : Hid True := hD trivial; have U05 : Hid True := hD trivial; have U06 : Hid True := hD trivial; have U07 : Hid True := hD trivial; intro d L w h h0 h1 hc hu hx hg hbz hk ht ha
 case' refine_4 => have U04 : Hid True := hD trivial; have U05 : Hid True := hD trivial; have U06 : Hid True := hD trivial; have U07 : Hid True := hD trivial; intro d L w h h0 h1 hc hu hx hg hbz hk ht ha
 case' refine_5 => have U05 : Hid True := hD trivial; have U06 : Hid True := hD trivial; have U07 : Hid True := hD trivial; intro d L w h h0 h1 hc hu hx hg hbz hk ht ha
 case' refine_6 => have U06 : Hid True := hD trivial; have U07 : Hid True := hD trivial; intro d L w h h0 h1 hc hu hx hg hbz hk ht ha
 case' refine_7 => have U07 : Hid True := hD trivial; intro d L w h h0 h1 hc hu hx hg hbz ht
 case' refine_8 => intro d L w h h0 h1 hc hu hx ht hv hg hbz
 all_goals
  have E := hD (devCheck_is_up h0 h1 hc hu)
  obtain ⟨n, hn⟩ : ∃ n, devCheck d = n := ⟨_, rfl⟩
  rw [hn] at E
  rw [hn]
  have HIN := hD h
  clear hn h
  have l0 : ((d.s0.length : Int) != 64) = false := by simp; omega
  have l1 : ((d.s1.length : Int) != 64) = false := by simp; omega
  have i0 : ∀ w, (Instr.index 25 (.agg (slotsA L.a0 d.s0.length L.c0 L.a1 d.s1.length L.c1)) (.int .i64 0)).run Try.prog w = .ok (.slice L.a0 d.s0.length L.c0) w := fun _ => by kernel_rfl
  have i1 : ∀ w, (Instr.index 25 (.agg (slotsA L.a0 d.s0.length L.c0 L.a1 d.s1.length L.c1)) (.int .i64 1)).run Try.prog w = .ok (.slice L.a1 d.s1.length L.c1) w := fun _ => by kernel_rfl
  have HBA := hD ((Below.refl w.heap.size w).alloc (Nat.le_refl _) (.cells (devA d L) 39))
  have KR := hD (fun w => read_ok d.c0 d.c1 w hc)
  obtain ⟨r, hr⟩ : ∃ r, (recRead d.c0 d.c1).1 = r := ⟨_, rfl⟩
  obtain ⟨rk, hrk⟩ : ∃ rk, (recRead d.c0 d.c1).2 = rk := ⟨_, rfl⟩
  rw [hr, hrk] at KR
  first
   |
    revert U07; intro U07
    first
     |
      revert U06; intro U06
      rw [hr] at E hx hk ht ha
     | rw [hr] at E hx ht
   | rw [hr] at E hx ht
  have hrec := recRead_ok hc
  rw [hr] at hrec
  have hact := rec_active hrec
  clear hr
  first
   |
    revert U07; intro U07
    have hng : ¬ (d.running < 0 ∨ 1 < d.running ∨ (d.running ≠ r.active ∧ r.trying = false)) := fun a => a.elim (fun a => by omega) (fun a => a.elim (fun a => by omega) (fun a => a.1 hx))
   | have hng : ¬ (d.running < 0 ∨ 1 < d.running ∨ (d.running ≠ r.active ∧ r.trying = false)) := fun a => a.elim (fun a => by omega) (fun a => a.elim (fun a => by omega) (fun a => by rw [ht] at a; exact absurd a.2 (by decide)))
  have z1 : ¬ d.running < 0 := by omega
  have z2 : ¬ (1 : Int) < d.running := by omega
  first
   |
    revert U07; intro U07
    have q3 : (d.running != r.active) = false := by simp [hx]
   | have q3 : (d.running != r.active) = true := by simp [hx]
  have HE2 : Hid (n = devBusyCheck d r) := hD (E.out.trans (devUp_busy hng hg hbz))
  have HT := hD ht
  first
   |
    revert U07; intro U07
    first
     |
      revert U06; intro U06
      have HK := hD hk
      have HA := hD ha
      first
       |
        revert U05; intro U05
        first
         |
          revert U04; intro U04
          first
           |
            revert U03; intro U03
            first
             |
              revert U02; intro U02
              first
               |
                revert U01; intro U01
                have hz : Hid (n = 3) := hD (HE2.out.trans (devBusy_form (.inr (.inr (.inr (by rw [HK.out, show (1 : Int) - 0 = 1 by omega, at_1]; exact ha.2.2))))))
               | have hz : Hid (n = 3) := hD (HE2.out.trans (devBusy_form (.inr (.inr (.inr (by rw [HK.out, show (1 : Int) - 1 = 0 by omega, at_0]; exact ha.2.2))))))
             | have hz : Hid (n = 3) := hD (HE2.out.trans (devBusy_form (.inr (.inr (.inl (by rw [HK.out, at_0]; exact ha.2))))))
           | have hz : Hid (n = 3) := hD (HE2.out.trans (devBusy_form (.inr (.inr (.inl (by rw [HK.out, at_1]; exact ha.2))))))
         | have hz : Hid (n = 3) := hD (HE2.out.trans (devBusy_form (.inr (.inl ha))))
       | have hz : Hid (n = 3) := hD (HE2.out.trans (devBusy_form (.inr (.inl ha))))
      clear ha ht hk
     | have hz : Hid (n = 3) := hD (HE2.out.trans (devBusy_form (.inl ht)))
   | have hz : Hid (n = 3) := hD (HE2.out.trans (devBusy_form (.inl ht)))
  first
   |
    revert U07; intro U07
    clear hx hact hng
   | clear hx hact hng hv
  have HLG := hD HIN.out.lg
  have HG := hD hg
  clear hg E
  clear h0 h1 hc hrk
  go_enter Try.func31, Try.ntmps31
  go_wp2_with fail
  go_loopw [12] (fun i wr => ∃ k : Nat, k ≤ 2 ∧ i = .int .i64 k ∧ wr = w.alloc (.cells (devA d L) 39)) (fun i _ => (2 - intOf i).toNat)
  case atStart => exact ⟨0, by omega, rfl, rfl⟩
  case round =>
   obtain ⟨k, hk, rfl, rfl⟩ := hrel
   by_cases hlt : k < 2
   ·rcases (show k = 0 ∨ k = 1 by omega) with rfl | rfl
    ·go_wp2_with fail
     go_roundw
     case rel => exact ⟨1, by omega, rfl, by first | rfl | trivial⟩
     case measure => simp [intOf] <;> omega
    ·go_wp2_with fail
     go_roundw
     case rel => exact ⟨2, by omega, rfl, by first | rfl | trivial⟩
     case measure => simp [intOf] <;> omega
   ·obtain rfl : k = 2 := by omega
    clear hk hlt i0 i1 l0 l1
    go_wp2_with fail
    refine (KR.out _).mono ?_
    rintro e w1 ⟨rfl, hb1⟩
    obtain ⟨a0r, a0f, a0n, a0c, a0z, a0l⟩ := kp (w.heap.size) (devA d L) hb1
    have HB1 := hD (HBA.out.trans (hb1.mono (by simp)))
    clear hb1
    go_wp2_with fail
    have hbx := HB1.out.alloc HB1.out.size (.cells (recA r) 30)
    refine (chkList_calls L.ag L.cg d.got _ HLG.out (HIN.out.got.stays hbx)).mono ?_
    rintro e w2 ⟨rfl, hb2⟩
    rw [HG.out]
    obtain ⟨a0r, a0f, a0n, a0c, a0z, a0l⟩ := kp (w.heap.size) (devA d L) hb2
    obtain ⟨a1r, a1f, a1n, a1c, a1z, a1l⟩ := kp (w1.heap.size) (recA r) hb2
    have HB2 := hD (hbx.trans (hb2.mono (by simp; have := HB1.out.size; omega)))
    clear hb2 hbx
    go_wp2_with fail
    have RD : Hid (rowOf w2.drew w.heap.size = devA d L) := hD (by rw [rowOf_drew]; exact a0r)
    have FD : Hid (frOf w2.drew w.heap.size = (0, 0)) := hD (by rw [frOf_drew]; exact a0f)
    have RR : Hid (rowOf w2.drew w1.heap.size = recA r) := hD (by rw [rowOf_drew]; exact a1r)
    have FR : Hid (frOf w2.drew w1.heap.size = (0, 0)) := hD (by rw [frOf_drew]; exact a1f)
    first
     |
      revert U07; intro U07
      first
       |
        revert U06; intro U06
        first
         |
          revert U05; intro U05
          first
           |
            revert U04; intro U04
            first
             |
              revert U03; intro U03
              first
               |
                revert U02; intro U02
                first
                 |
                  revert U01; intro U01
                  refine wp_region_chain (by kernel_rfl) (some 96 :: some 97 :: some 98 :: some 99 :: some 100 :: some 101 :: some 102 :: some 103 :: some 104 :: some 105 :: some 106 :: some 107 :: some 108 :: some 109 :: some 110 :: some 111 :: some 112 :: some 113 :: some 114 :: some 115 :: some 116 :: some 117 :: some 118 :: some 119 :: some 120 :: some 121 :: some 122 :: some 123 :: some 124 :: some 125 :: some 126 :: some 127 :: []) (.pointer (some ⟨w1.heap.size, 2, none⟩) :: .bool false :: .bool false :: .pointer (some ⟨w.heap.size, 30, none⟩) :: .pointer (some ⟨w.heap.size, 31, none⟩) :: iv d.job.to_ :: .pointer (some ⟨w1.heap.size, 4, none⟩) :: iv r.floor :: .bool false :: .bool false :: .bool false :: .pointer (some ⟨w.heap.size, 30, none⟩) :: .pointer (some ⟨w.heap.size, 30, none⟩) :: iv d.job.from_ :: .pointer (some ⟨w1.heap.size, 1, none⟩) :: iv 0 :: .pointer (some ⟨w1.heap.size, 5, none⟩) :: .pointer (some ⟨w1.heap.size, 5, none⟩) :: .pointer (some ⟨w1.heap.size, 5, none⟩) :: iv r.a.ver :: .bool false :: .bool false :: .bool false :: .pointer (some ⟨w1.heap.size, 1, none⟩) :: iv 0 :: iv 1 :: .pointer (some ⟨w1.heap.size, 5, none⟩) :: .pointer (some ⟨w1.heap.size, 8, none⟩) :: .pointer (some ⟨w1.heap.size, 8, none⟩) :: iv r.b.ver :: .bool true :: .bool true :: []) 185 rfl rfl (by decide +kernel) (by decide +kernel) (by decide +kernel) rfl ?_ ?_
                 | refine wp_region_chain (by kernel_rfl) (some 96 :: some 97 :: some 98 :: some 99 :: some 100 :: some 101 :: some 102 :: some 103 :: some 104 :: some 105 :: some 106 :: some 107 :: some 108 :: some 109 :: some 110 :: some 111 :: some 112 :: some 113 :: some 114 :: some 115 :: some 116 :: some 117 :: some 118 :: some 119 :: some 120 :: some 121 :: some 122 :: some 123 :: some 124 :: some 125 :: some 126 :: some 127 :: []) (.pointer (some ⟨w1.heap.size, 2, none⟩) :: .bool false :: .bool false :: .pointer (some ⟨w.heap.size, 30, none⟩) :: .pointer (some ⟨w.heap.size, 31, none⟩) :: iv d.job.to_ :: .pointer (some ⟨w1.heap.size, 4, none⟩) :: iv r.floor :: .bool false :: .bool false :: .bool false :: .pointer (some ⟨w.heap.size, 30, none⟩) :: .pointer (some ⟨w.heap.size, 30, none⟩) :: iv d.job.from_ :: .pointer (some ⟨w1.heap.size, 1, none⟩) :: iv 1 :: .pointer (some ⟨w1.heap.size, 5, none⟩) :: .pointer (some ⟨w1.heap.size, 8, none⟩) :: .pointer (some ⟨w1.heap.size, 8, none⟩) :: iv r.b.ver :: .bool false :: .bool false :: .bool false :: .pointer (some ⟨w1.heap.size, 1, none⟩) :: iv 1 :: iv 0 :: .pointer (some ⟨w1.heap.size, 5, none⟩) :: .pointer (some ⟨w1.heap.size, 5, none⟩) :: .pointer (some ⟨w1.heap.size, 5, none⟩) :: iv r.a.ver :: .bool true :: .bool true :: []) 185 rfl rfl (by decide +kernel) (by decide +kernel) (by decide +kernel) rfl ?_ ?_
               | refine wp_region_chain (by kernel_rfl) (some 96 :: some 97 :: some 98 :: some 99 :: some 100 :: some 101 :: some 102 :: some 103 :: some 104 :: some 105 :: some 106 :: some 107 :: some 108 :: some 109 :: some 110 :: some 111 :: some 112 :: some 113 :: some 114 :: some 115 :: some 116 :: some 117 :: some 118 :: some 119 :: some 120 :: some 121 :: some 122 :: some 123 :: some 124 :: some 125 :: some 126 :: some 127 :: []) (.pointer (some ⟨w1.heap.size, 2, none⟩) :: .bool false :: .bool false :: .pointer (some ⟨w.heap.size, 30, none⟩) :: .pointer (some ⟨w.heap.size, 31, none⟩) :: iv d.job.to_ :: .pointer (some ⟨w1.heap.size, 4, none⟩) :: iv r.floor :: .bool false :: .bool false :: .bool false :: .pointer (some ⟨w.heap.size, 30, none⟩) :: .pointer (some ⟨w.heap.size, 30, none⟩) :: iv d.job.from_ :: .pointer (some ⟨w1.heap.size, 1, none⟩) :: iv 0 :: .pointer (some ⟨w1.heap.size, 5, none⟩) :: .pointer (some ⟨w1.heap.size, 5, none⟩) :: .pointer (some ⟨w1.heap.size, 5, none⟩) :: iv r.a.ver :: .bool true :: .bool true :: .bool true :: undef :: undef :: undef :: undef :: undef :: undef :: undef :: undef :: .bool true :: []) 185 rfl rfl (by decide +kernel) (by decide +kernel) (by decide +kernel) rfl ?_ ?_
             | refine wp_region_chain (by kernel_rfl) (some 96 :: some 97 :: some 98 :: some 99 :: some 100 :: some 101 :: some 102 :: some 103 :: some 104 :: some 105 :: some 106 :: some 107 :: some 108 :: some 109 :: some 110 :: some 111 :: some 112 :: some 113 :: some 114 :: some 115 :: some 116 :: some 117 :: some 118 :: some 119 :: some 120 :: some 121 :: some 122 :: some 123 :: some 124 :: some 125 :: some 126 :: some 127 :: []) (.pointer (some ⟨w1.heap.size, 2, none⟩) :: .bool false :: .bool false :: .pointer (some ⟨w.heap.size, 30, none⟩) :: .pointer (some ⟨w.heap.size, 31, none⟩) :: iv d.job.to_ :: .pointer (some ⟨w1.heap.size, 4, none⟩) :: iv r.floor :: .bool false :: .bool false :: .bool false :: .pointer (some ⟨w.heap.size, 30, none⟩) :: .pointer (some ⟨w.heap.size, 30, none⟩) :: iv d.job.from_ :: .pointer (some ⟨w1.heap.size, 1, none⟩) :: iv 1 :: .pointer (some ⟨w1.heap.size, 5, none⟩) :: .pointer (some ⟨w1.heap.size, 8, none⟩) :: .pointer (some ⟨w1.heap.size, 8, none⟩) :: iv r.b.ver :: .bool true :: .bool true :: .bool true :: undef :: undef :: undef :: undef :: undef :: undef :: undef :: undef :: .bool true :: []) 185 rfl rfl (by decide +kernel) (by decide +kernel) (by decide +kernel) rfl ?_ ?_
           | refine wp_region_chain (by kernel_rfl) (some 96 :: some 97 :: some 98 :: some 99 :: some 100 :: some 101 :: some 102 :: some 103 :: some 104 :: some 105 :: some 106 :: some 107 :: some 108 :: some 109 :: some 110 :: some 111 :: some 112 :: some 113 :: some 114 :: some 115 :: some 116 :: some 117 :: some 118 :: some 119 :: some 120 :: some 121 :: some 122 :: some 123 :: some 124 :: some 125 :: some 126 :: some 127 :: []) (.pointer (some ⟨w1.heap.size, 2, none⟩) :: .bool false :: .bool false :: .pointer (some ⟨w.heap.size, 30, none⟩) :: .pointer (some ⟨w.heap.size, 31, none⟩) :: iv d.job.to_ :: .pointer (some ⟨w1.heap.size, 4, none⟩) :: iv r.floor :: .bool true :: .bool true :: .bool true :: undef :: undef :: undef :: undef :: undef :: undef :: undef :: undef :: undef :: undef :: .bool true :: .bool true :: undef :: undef :: undef :: undef :: undef :: undef :: undef :: undef :: .bool true :: []) 185 rfl rfl (by decide +kernel) (by decide +kernel) (by decide +kernel) rfl ?_ ?_
         | refine wp_region_chain (by kernel_rfl) (some 96 :: some 97 :: some 98 :: some 99 :: some 100 :: some 101 :: some 102 :: some 103 :: some 104 :: some 105 :: some 106 :: some 107 :: some 108 :: some 109 :: some 110 :: some 111 :: some 112 :: some 113 :: some 114 :: some 115 :: some 116 :: some 117 :: some 118 :: some 119 :: some 120 :: some 121 :: some 122 :: some 123 :: some 124 :: some 125 :: some 126 :: some 127 :: []) (.pointer (some ⟨w1.heap.size, 2, none⟩) :: .bool false :: .bool false :: .pointer (some ⟨w.heap.size, 30, none⟩) :: .pointer (some ⟨w.heap.size, 31, none⟩) :: iv d.job.to_ :: .pointer (some ⟨w1.heap.size, 4, none⟩) :: iv r.floor :: .bool true :: .bool true :: .bool true :: undef :: undef :: undef :: undef :: undef :: undef :: undef :: undef :: undef :: undef :: .bool true :: .bool true :: undef :: undef :: undef :: undef :: undef :: undef :: undef :: undef :: .bool true :: []) 185 rfl rfl (by decide +kernel) (by decide +kernel) (by decide +kernel) rfl ?_ ?_
       | refine wp_region_chain (by kernel_rfl) (some 96 :: some 97 :: some 98 :: some 99 :: some 100 :: some 101 :: some 102 :: some 103 :: some 104 :: some 105 :: some 106 :: some 107 :: some 108 :: some 109 :: some 110 :: some 111 :: some 112 :: some 113 :: some 114 :: some 115 :: some 116 :: some 117 :: some 118 :: some 119 :: some 120 :: some 121 :: some 122 :: some 123 :: some 124 :: some 125 :: some 126 :: some 127 :: []) (.pointer (some ⟨w1.heap.size, 2, none⟩) :: .bool true :: .bool true :: undef :: undef :: undef :: undef :: undef :: undef :: .bool true :: .bool true :: undef :: undef :: undef :: undef :: undef :: undef :: undef :: undef :: undef :: undef :: .bool true :: .bool true :: undef :: undef :: undef :: undef :: undef :: undef :: undef :: undef :: .bool true :: []) 185 rfl rfl (by decide +kernel) (by decide +kernel) (by decide +kernel) rfl ?_ ?_
     | refine wp_region_chain (by kernel_rfl) (some 96 :: some 97 :: some 98 :: some 99 :: some 100 :: some 101 :: some 102 :: some 103 :: some 104 :: some 105 :: some 106 :: some 107 :: some 108 :: some 109 :: some 110 :: some 111 :: some 112 :: some 113 :: some 114 :: some 115 :: some 116 :: some 117 :: some 118 :: some 119 :: some 120 :: some 121 :: some 122 :: some 123 :: some 124 :: some 125 :: some 126 :: some 127 :: []) (.pointer (some ⟨w1.heap.size, 2, none⟩) :: .bool true :: .bool true :: undef :: undef :: undef :: undef :: undef :: undef :: .bool true :: .bool true :: undef :: undef :: undef :: undef :: undef :: undef :: undef :: undef :: undef :: undef :: .bool true :: .bool true :: undef :: undef :: undef :: undef :: undef :: undef :: undef :: undef :: .bool true :: []) 185 rfl rfl (by decide +kernel) (by decide +kernel) (by decide +kernel) rfl ?_ ?_
    ·refine ⟨.inl ⟨rfl, fun done a wq hw h => ?_⟩, ?_⟩
     ·have e5 := cO 5 (.pointer (some ⟨w1.heap.size, 0, none⟩)) h; refine ch_pure ?_; go_simp
     refine ⟨.inl ⟨rfl, fun done a wq hw h => ?_⟩, ?_⟩
     ·have e96 := cN 0 96 h hw; obtain ⟨r_, f_, n_, c_, z_, l_⟩ := keep1 h.bel RR.out (by go_simp) FR.out; have ht_ := HT.out; refine ch_pure ?_; go_simp
     refine ⟨.inl ⟨rfl, fun done a wq hw h => ?_⟩, ?_⟩
     ·have e97 := cN 1 97 h hw; exact ch_move (ch_ev e97)
     first
      |
       revert U07; intro U07
       first
        | revert U06; intro U06
        |
         iterate 6 refine ⟨.inr ⟨rfl, rfl⟩, ?_⟩
      |
       iterate 6 refine ⟨.inr ⟨rfl, rfl⟩, ?_⟩
     refine ⟨.inl ⟨rfl, fun done a wq hw h => ?_⟩, ?_⟩
     first
      |
       revert U07; intro U07
       first
        |
         revert U06; intro U06
         ·have e1 := cO 1 (.pointer (some ⟨w.heap.size, 0, none⟩)) h; refine ch_pure ?_; go_simp
         refine ⟨.inl ⟨rfl, fun done a wq hw h => ?_⟩, ?_⟩
         ·have e99 := cN 3 99 h hw; refine ch_pure ?_; go_simp
         refine ⟨.inl ⟨rfl, fun done a wq hw h => ?_⟩, ?_⟩
         ·have e100 := cN 4 100 h hw; obtain ⟨r_, f_, n_, c_, z_, l_⟩ := keep1 h.bel RD.out (by go_simp) FD.out; refine ch_pure ?_; go_simp
         refine ⟨.inl ⟨rfl, fun done a wq hw h => ?_⟩, ?_⟩
         ·have e5 := cO 5 (.pointer (some ⟨w1.heap.size, 0, none⟩)) h; refine ch_pure ?_; go_simp
         refine ⟨.inl ⟨rfl, fun done a wq hw h => ?_⟩, ?_⟩
         ·have e102 := cN 6 102 h hw; obtain ⟨r_, f_, n_, c_, z_, l_⟩ := keep1 h.bel RR.out (by go_simp) FR.out; refine ch_pure ?_; go_simp
         refine ⟨.inl ⟨rfl, fun done a wq hw h => ?_⟩, ?_⟩
         ·have e101 := cN 5 101 h hw; have e103 := cN 7 103 h hw; exact ch_lss_int (by kernel_rfl) (ch_ev e101) (ch_ev e103) (by have := HA.out; simp; omega)
         refine ⟨.inl ⟨rfl, fun done a wq hw h => ?_⟩, ?_⟩
         ·have e98 := cN 2 98 h hw; have e104 := cN 8 104 h hw; exact ch_pick_f e98 (ch_ev e104)
        | · have e98 := cN 2 98 h hw; exact ch_pick_t e98 rfl
      | · have e98 := cN 2 98 h hw; exact ch_pick_t e98 rfl
     refine ⟨.inl ⟨rfl, fun done a wq hw h => ?_⟩, ?_⟩
     ·have e105 := cN 9 105 h hw; exact ch_move (ch_ev e105)
     first
      |
       revert U07; intro U07
       first
        |
         revert U06; intro U06
         first
          |
           revert U05; intro U05
           first
            | revert U04; intro U04
            |
             iterate 10 refine ⟨.inr ⟨rfl, rfl⟩, ?_⟩
          |
           iterate 10 refine ⟨.inr ⟨rfl, rfl⟩, ?_⟩
        |
         iterate 10 refine ⟨.inr ⟨rfl, rfl⟩, ?_⟩
      |
       iterate 10 refine ⟨.inr ⟨rfl, rfl⟩, ?_⟩
     refine ⟨.inl ⟨rfl, fun done a wq hw h => ?_⟩, ?_⟩
     first
      |
       revert U07; intro U07
       first
        |
         revert U06; intro U06
         first
          |
           revert U05; intro U05
           first
            |
             revert U04; intro U04
             ·have e1 := cO 1 (.pointer (some ⟨w.heap.size, 0, none⟩)) h; refine ch_pure ?_; go_simp
             refine ⟨.inl ⟨rfl, fun done a wq hw h => ?_⟩, ?_⟩
             ·have e107 := cN 11 107 h hw; refine ch_pure ?_; go_simp
             refine ⟨.inl ⟨rfl, fun done a wq hw h => ?_⟩, ?_⟩
             ·have e108 := cN 12 108 h hw; obtain ⟨r_, f_, n_, c_, z_, l_⟩ := keep1 h.bel RD.out (by go_simp) FD.out; refine ch_pure ?_; go_simp
             refine ⟨.inl ⟨rfl, fun done a wq hw h => ?_⟩, ?_⟩
             ·have e5 := cO 5 (.pointer (some ⟨w1.heap.size, 0, none⟩)) h; refine ch_pure ?_; go_simp
             refine ⟨.inl ⟨rfl, fun done a wq hw h => ?_⟩, ?_⟩
             ·have e110 := cN 14 110 h hw; obtain ⟨r_, f_, n_, c_, z_, l_⟩ := keep1 h.bel RR.out (by go_simp) FR.out; have hk_ := HK.out; refine ch_pure ?_; go_simp
             refine ⟨.inl ⟨rfl, fun done a wq hw h => ?_⟩, ?_⟩
             ·have e5 := cO 5 (.pointer (some ⟨w1.heap.size, 0, none⟩)) h; refine ch_pure ?_; go_simp
             refine ⟨.inl ⟨rfl, fun done a wq hw h => ?_⟩, ?_⟩
             ·have e112 := cN 16 112 h hw; have e111 := cN 15 111 h hw; refine ch_pure ?_; go_simp
             refine ⟨.inl ⟨rfl, fun done a wq hw h => ?_⟩, ?_⟩
             ·have e113 := cN 17 113 h hw; refine ch_pure ?_; go_simp
             refine ⟨.inl ⟨rfl, fun done a wq hw h => ?_⟩, ?_⟩
             ·have e114 := cN 18 114 h hw; obtain ⟨r_, f_, n_, c_, z_, l_⟩ := keep1 h.bel RR.out (by go_simp) FR.out; refine ch_pure ?_; go_simp
             refine ⟨.inl ⟨rfl, fun done a wq hw h => ?_⟩, ?_⟩
             ·have e109 := cN 13 109 h hw; have e115 := cN 19 115 h hw; exact ch_neq_int (by kernel_rfl) (ch_ev e109) (ch_ev e115) (by have := HA.out; simp; omega)
             refine ⟨.inl ⟨rfl, fun done a wq hw h => ?_⟩, ?_⟩
             ·have e106 := cN 10 106 h hw; have e116 := cN 20 116 h hw; exact ch_pick_f e106 (ch_ev e116)
            | · have e106 := cN 10 106 h hw; exact ch_pick_t e106 rfl
          | · have e106 := cN 10 106 h hw; exact ch_pick_t e106 rfl
        | · have e106 := cN 10 106 h hw; exact ch_pick_t e106 rfl
      | · have e106 := cN 10 106 h hw; exact ch_pick_t e106 rfl
     refine ⟨.inl ⟨rfl, fun done a wq hw h => ?_⟩, ?_⟩
     ·have e117 := cN 21 117 h hw; exact ch_move (ch_ev e117)
     first
      |
       revert U07; intro U07
       first
        |
         revert U06; intro U06
         first
          |
           revert U05; intro U05
           first
            |
             revert U04; intro U04
             first
              |
               revert U03; intro U03
               first
                | revert U02; intro U02
                |
                 iterate 8 refine ⟨.inr ⟨rfl, rfl⟩, ?_⟩
              |
               iterate 8 refine ⟨.inr ⟨rfl, rfl⟩, ?_⟩
            |
             iterate 8 refine ⟨.inr ⟨rfl, rfl⟩, ?_⟩
          |
           iterate 8 refine ⟨.inr ⟨rfl, rfl⟩, ?_⟩
        |
         iterate 8 refine ⟨.inr ⟨rfl, rfl⟩, ?_⟩
      |
       iterate 8 refine ⟨.inr ⟨rfl, rfl⟩, ?_⟩
     refine ⟨.inl ⟨rfl, fun done a wq hw h => ?_⟩, ?_⟩
     first
      |
       revert U07; intro U07
       first
        |
         revert U06; intro U06
         first
          |
           revert U05; intro U05
           first
            |
             revert U04; intro U04
             first
              |
               revert U03; intro U03
               first
                |
                 revert U02; intro U02
                 ·have e5 := cO 5 (.pointer (some ⟨w1.heap.size, 0, none⟩)) h; refine ch_pure ?_; go_simp
                 refine ⟨.inl ⟨rfl, fun done a wq hw h => ?_⟩, ?_⟩
                 ·have e119 := cN 23 119 h hw; obtain ⟨r_, f_, n_, c_, z_, l_⟩ := keep1 h.bel RR.out (by go_simp) FR.out; have hk_ := HK.out; refine ch_pure ?_; go_simp
                 refine ⟨.inl ⟨rfl, fun done a wq hw h => ?_⟩, ?_⟩
                 ·have e120 := cN 24 120 h hw; refine ch_pure ?_; first | (go_simp; done) | (go_simp; rfl) | (go_simp; decide)
                 refine ⟨.inl ⟨rfl, fun done a wq hw h => ?_⟩, ?_⟩
                 ·have e5 := cO 5 (.pointer (some ⟨w1.heap.size, 0, none⟩)) h; refine ch_pure ?_; go_simp
                 refine ⟨.inl ⟨rfl, fun done a wq hw h => ?_⟩, ?_⟩
                 ·have e122 := cN 26 122 h hw; have e121 := cN 25 121 h hw; refine ch_pure ?_; go_simp
                 refine ⟨.inl ⟨rfl, fun done a wq hw h => ?_⟩, ?_⟩
                 ·have e123 := cN 27 123 h hw; refine ch_pure ?_; go_simp
                 refine ⟨.inl ⟨rfl, fun done a wq hw h => ?_⟩, ?_⟩
                 ·have e124 := cN 28 124 h hw; obtain ⟨r_, f_, n_, c_, z_, l_⟩ := keep1 h.bel RR.out (by go_simp) FR.out; refine ch_pure ?_; go_simp
                 refine ⟨.inl ⟨rfl, fun done a wq hw h => ?_⟩, ?_⟩
                 ·have e125 := cN 29 125 h hw; exact ch_neq_int (by kernel_rfl) (ch_ev e125) rfl (by have := HA.out; simp; omega)
                 refine ⟨.inl ⟨rfl, fun done a wq hw h => ?_⟩, ?_⟩
                 ·have e118 := cN 22 118 h hw; have e126 := cN 30 126 h hw; exact ch_pick_f e118 (ch_ev e126)
                | · have e118 := cN 22 118 h hw; exact ch_pick_t e118 rfl
              | · have e118 := cN 22 118 h hw; exact ch_pick_t e118 rfl
            | · have e118 := cN 22 118 h hw; exact ch_pick_t e118 rfl
          | · have e118 := cN 22 118 h hw; exact ch_pick_t e118 rfl
        | · have e118 := cN 22 118 h hw; exact ch_pick_t e118 rfl
      | · have e118 := cN 22 118 h hw; exact ch_pick_t e118 rfl
     exact trivial
    ·intro w3 hb
     simp only [putAll_some, putAll_none, putAll_nil, List.setIfInBounds_toArray, List.set_cons_zero, List.set_cons_succ]
     have hs2 := HB2.out.size
     have HB3 := hD (HB2.out.trans (hb.mono (by first | omega | (simp <;> omega))))
     clear hs2
     clear hb
     go_wp2_with fail
     go_ret
     have hs := HB3.out.size
     refine ⟨ret_int hz.out.symm, ?_⟩
     repeat (first | exact HB3.out | refine bR ?_ _ | refine bC ?_ _ | refine bA ?_ _)
end Go.Proofs.Ytefkfglkpebbmad
