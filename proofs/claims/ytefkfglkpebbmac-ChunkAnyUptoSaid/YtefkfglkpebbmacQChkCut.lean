/- The walk of chunk.Cut. Printed by gen_chkcut.py. No conditions. -/
import Derived.Test.YtefkfglkpebbmacQPatPut
import Derived.Test.YtefkfglkpebbmacQPack
import Derived.Test.YtefkfglkpebbmacQMidSlice
import Derived.Test.YtefkfglkpebbmacQCloneBytes
import Derived.Test.YtefkfglkpebbmacQGKinds
import Derived.Test.YtefkfglkpebbmacQChkRows
import Derived.Test.YtefkfglkpebbmacQBase
import Derived.Test.YtefkfglkpebbmacQAppJ
namespace Go.Proofs.Ytefkfglkpebbmac
open Go.RowKit
set_option linter.unusedVariables false
set_option linter.unusedSimpArgs false

/-- While a chunk is made and put behind a row. -/
def ctJ (w0 : World) (base : Nat) (C : Option Addr) (n c : Nat) (xs bs : List Value) (y : Nat) (mk : Option Addr × Nat → List Value) : Nat → (Nat → Value) → World → Prop
  | 0, _, w => w = w0.drew
  | 1, cv, w => ∃ A5 c5, cv 17 = .slice A5 y c5 ∧ Own w w0.heap.size 5 1 A5 y c5 bs ∧ Below w0.heap.size w0 w
  | 2, cv, w => ∃ A5 c5, cv 18 = .agg (mk (A5, c5)).toArray ∧ Own w w0.heap.size 5 1 A5 y c5 bs ∧ Below w0.heap.size w0 w
  | 3, cv, w => ∃ A5 c5 w1, Own w1 w0.heap.size 5 1 A5 y c5 bs ∧ Below w0.heap.size w0 w1 ∧ w = w1.alloc (.cells (mk (A5, c5)).toArray 49) ∧ cv 19 = .slice (some ⟨w1.heap.size, 0, none⟩) 1 1
  | 4, cv, w => ∃ A5 c5 w1 A' c', Own w1 w0.heap.size 5 1 A5 y c5 bs ∧ Below w0.heap.size w0 w1 ∧ cv 20 = .slice A' (n + 1) c' ∧ Own w base 49 5 A' (n + 1) c' (xs ++ mk (A5, c5)) ∧ Below base w1 w ∧ (∀ k, k < w1.heap.size → C.map (·.block) ≠ some k → w.heap[k]? = w1.heap[k]?) ∧ (A'.map (·.block) = C.map (·.block) ∨ ∀ k, A'.map (·.block) = some k → w1.heap.size ≤ k)
  | _, cv, w => ∃ A5 c5 w1 A' c', Own w1 w0.heap.size 5 1 A5 y c5 bs ∧ Below w0.heap.size w0 w1 ∧ cv 21 = .slice A' (n + 1) c' ∧ Own w base 49 5 A' (n + 1) c' (xs ++ mk (A5, c5)) ∧ Below base w1 w ∧ (∀ k, k < w1.heap.size → C.map (·.block) ≠ some k → w.heap[k]? = w1.heap[k]?) ∧ (A'.map (·.block) = C.map (·.block) ∨ ∀ k, A'.map (·.block) = some k → w1.heap.size ≤ k)
theorem ctJ_blk {w0 w : World} {base n c y k g : Nat} {C : Option Addr} {xs bs : List Value} {mk : Option Addr × Nat → List Value} {cv : Nat → Value} {o : Obj} (hJ : ctJ w0 base C n c xs bs y mk k cv w) (h : w0.heap[g]? = some o) (hg : g < base) : w.heap[g]? = some o := by
  have hl := blk_lt h
  match k, hJ with
  | 0, hJ => obtain rfl : w = w0.drew := hJ; exact h
  | 1, ⟨_, _, _, _, h2⟩ => exact blk_below h h2
  | 2, ⟨_, _, _, _, h2⟩ => exact blk_below h h2
  | 3, ⟨_, _, w1, _, h2, h3, _⟩ => subst h3; exact blk_old (blk_below h h2)
  | 4, ⟨_, _, w1, _, _, _, h2, _, _, h3, _⟩ => exact (h3.block g hg).trans (blk_below h h2)
  | q + 5, ⟨_, _, w1, _, _, _, h2, _, _, h3, _⟩ => exact (h3.block g hg).trans (blk_below h h2)
theorem ctJ_app {w0 w1 w' : World} {base n c y c5 : Nat} {C A5 A' : Option Addr} {c' : Nat} {xs bs : List Value} {mk : Option Addr × Nat → List Value} {cv : Nat → Value} (h1 : Own w1 w0.heap.size 5 1 A5 y c5 bs) (h2 : Below w0.heap.size w0 w1)
    (hown : Own w' base 49 5 A' (n + 1) c' (xs ++ mk (A5, c5))) (hgr : (w1.alloc (.cells (mk (A5, c5)).toArray 49)).grownBy w' (C.map (·.block))) (hbel : Below base (w1.alloc (.cells (mk (A5, c5)).toArray 49)) w')
    (hor : A'.map (·.block) = C.map (·.block) ∨ A'.map (·.block) = some (w1.alloc (.cells (mk (A5, c5)).toArray 49)).heap.size) (hle : base ≤ w1.heap.size) :
    ctJ w0 base C n c xs bs y mk 4 (fun j => if j = 20 then .slice A' (n + 1) c' else cv j) w' := by
  refine ⟨A5, c5, w1, A', c', h1, h2, by simp, hown, ((Below.refl _ _).alloc hle _).trans hbel, fun k hk hn => (hgr.block k (by simp; omega) (fun e => hn e.symm)).trans (Below.heap_alloc w1 _ k hk), ?_⟩
  rcases hor with h | h
  · exact .inl h
  · exact .inr (fun k hk => by rw [h] at hk; injection hk with hk; simp at hk; omega)
theorem wp_val {P : Program} {o : Oper} {a : Act} {w : World} {K : Act → World → Prop} {Q : Exit → Act → World → Prop} {v : Value} (e : (execOp a.eval o).run P w = .ok (.value v) w) (h : K (a.put o.dst v) w) : Oper.wp P o a w K Q := by
  unfold Oper.wp
  rw [e]
  exact h
theorem wp_sbc {a : Act} {w : World} {K : Act → World → Prop} {Q : Exit → Act → World → Prop} {t : TypeId} {p : String} {af : Array Edge} {gd : Option (Nat × Bool)} {d s : Tmp} {f t1 n o : Int} {A : Option Addr} {k c : Nat} (hs : a.tmps[s]? = some (.agg (chkA f t1 n o A k c)))
    (h : K (a.put (some d) (.slice (some ⟨w.heap.size, 0, none⟩) 1 1)) (w.alloc (.cells (chkA f t1 n o A k c) 49))) :
    Oper.wp Try.prog ⟨some d, .buildSlice 43 1 #[(0, .tmp s)], t, p, af, gd⟩ a w K Q := by
  have e1 : a.eval (.tmp s) = .agg (chkA f t1 n o A k c) := by simp [Act.eval, hs]
  unfold Oper.wp execOp
  simp only [e1, List.map_toArray, List.map_cons, List.map_nil]
  go_simp
  trace_state
  exact h
/-- It returns chunks of its own, and a number. -/
def ChkRet2 (w : World) (l : List Chk) (n : Int) : Ending → World → Prop := fun en w' =>
  ∃ A c ds, en = .returned (.tuple #[.slice A l.length c, iv n]) ∧ GRow kChk w' w.heap.size l ds A c ∧ Each kChk l ds (fun k => w.heap.size ≤ k) ∧ Below w.heap.size w w'
set_option maxRecDepth 100000 in
set_option maxHeartbeats 8000000 in
theorem chkCut_bad (B : Option Addr) (d : Nat) (p : Pat) (w : World) (hp : PatIn w p B d) (h : patCheck p ≠ 0) :
    Calls Try.prog 33 #[.agg (patA p.from_ p.to_ p.old p.new_ p.size B p.ops.length d)] w (ChkRet2 w [] (patCheck p)) := by
  have K1 := Lib.hid (fun w hp => patPut_bad B d p w hp h)
  have HP := Lib.hid hp
  obtain ⟨ck, hck⟩ : ∃ ck, patCheck p = ck := ⟨_, rfl⟩
  rw [hck] at h K1
  rw [hck]
  have q : (ck != 0) = true := by simp [h]
  clear hp h hck
  go_enter Try.func33, Try.ntmps33
  go_wp2_with fail
  have hba := (Below.refl w.heap.size w).alloc (Nat.le_refl _) (.cells (patA p.from_ p.to_ p.old p.new_ p.size B p.ops.length d) 35)
  refine (K1.out _ (HP.out.stays hba)).mono ?_
  rintro e w1 ⟨rfl, hb1⟩
  have HB1 := Lib.hid (hba.trans (hb1.mono (by simp)))
  clear hb1
  go_wp2_with fail
  go_ret2
  exact ⟨none, 0, [], rfl, GRow.nil _ _, Each.nil, HB1.out⟩
set_option maxRecDepth 100000 in
set_option maxHeartbeats 8000000 in
theorem chkCut_fine (B : Option Addr) (d : Nat) (p : Pat) (w : World) (hp : PatIn w p B d) (h : patCheck p = 0) :
    Calls Try.prog 33 #[.agg (patA p.from_ p.to_ p.old p.new_ p.size B p.ops.length d)] w (ChkRet2 w (chunksOf p (packed (patBytes p))) 0) := by
  have K1 := Lib.hid (fun w hp => patPut_ok B d p w hp h)
  have HP := Lib.hid hp
  have hl1 := patBytes_len h
  obtain ⟨hl2, hl3⟩ := packed_patch_len h
  obtain ⟨pb, hpb⟩ : ∃ pb, patBytes p = pb := ⟨_, rfl⟩
  rw [hpb] at K1 hl1 hl2 hl3 ⊢
  have K2 := Lib.hid (fun A c w hc hb => pack_calls A c pb w hc (by omega) hb)
  obtain ⟨b, hb⟩ : ∃ b, packed pb = b := ⟨_, rfl⟩
  rw [hb] at K2 hl2 hl3 ⊢
  obtain ⟨m, hm⟩ : ∃ m, (b.length + 15) / 16 = m := ⟨_, rfl⟩
  have HCO : Hid (∀ k, k < m → (chunksOf p b)[k]? = some (chunkAt p b m k)) := Lib.hid (fun k hk => by unfold chunksOf; rw [hm]; simp [hk])
  have HCL0 : Hid ((chunksOf p b).length = m) := Lib.hid (by unfold chunksOf; rw [hm]; simp)
  have hq : ((b.length : Int) + 15).tdiv 16 = (m : Int) := by rw [Int.tdiv_eq_ediv_of_nonneg (by omega)]; omega
  have hm1 : m ≤ 10 := by omega
  have HM := Lib.hid hm
  clear hp h hpb hb hm
  generalize chunksOf p b = cs at *
  have HCA : Hid (∀ k, chunkAt p b m k = ⟨p.from_, p.to_, k, m, (b.drop (k * 16)).take 16⟩) := Lib.hid (fun k => rfl)
  generalize chunkAt p b m = ca at *
  obtain ⟨f, t, o, n, sz, l⟩ := p
  dsimp only at *
  have j1 : IntKind.i64.wrap ((b.length : Int) + 16) = (b.length : Int) + 16 := IntWalk.i64_in _ (by omega)
  have j2 : IntKind.i64.wrap ((b.length : Int) + 15) = (b.length : Int) + 15 := IntWalk.i64_in _ (by omega)
  have j3 : (b.length : Int) + 16 - 1 = (b.length : Int) + 15 := by omega
  have j4 : IntKind.i64.wrap (m : Int) = (m : Int) := IntWalk.i64_in _ (by omega)
  have j5 : decide ((52 : Int) < (m : Int)) = false := decide_eq_false (by omega)
  have j6 : ¬ 52 < m := by omega
  go_enter Try.func33, Try.ntmps33
  go_wp2_with fail
  have hba := (Below.refl w.heap.size w).alloc (Nat.le_refl _) (.cells (patA f t o n sz B l.length d) 35)
  refine (K1.out _ (HP.out.stays hba)).mono ?_
  rintro e w1 ⟨A1, c1, rfl, ho1, hb1⟩
  have hb1' := hba.trans (hb1.mono (by simp))
  obtain ⟨a0r, a0f, a0n, a0c, a0z, a0l⟩ := keep1 (g := w.heap.size) (cs := patA f t o n sz B l.length d) hb1 (by first | (go_simp; done) | (go_simp; rfl)) (by go_simp) (by go_simp)
  have HBT := Lib.hid ho1.src.bts
  have hc1 := ho1.le
  dsimp only at hc1
  have HB1 := Lib.hid hb1'
  clear ho1 hb1 hb1'
  go_wp2_with fail
  refine (K2.out _ _ _ hc1 HBT.out).mono ?_
  rintro e w2 ⟨A2, c2, rfl, ho2, hb2⟩
  obtain ⟨tT, hgp⟩ := row_blk (w := w2) (g := w.heap.size) (by rw [rowOf_below a0l hb2, a0r]; simp [patA])
  have hpb2 : w2.heap[w.heap.size]? = some (.cells (patA f t o n sz B l.length d) tT (0, 0)) := by rw [rowOf_below a0l hb2, a0r, frOf_below a0l hb2, a0f] at hgp; exact hgp
  have HPB0 := Lib.hid hpb2
  have HBB2 := Lib.hid ho2.src.bts
  have hc2 := ho2.le
  have HB2 : Hid (Below w.heap.size w w2) := Lib.hid (HB1.out.trans (hb2.mono HB1.out.size))
  have hg0l := blk_lt hpb2
  have hlb : 0 < b.length := by omega
  obtain ⟨ab, ao, rfl, hab, _⟩ := HBB2.out 0 hlb
  clear ho2 hb2 hgp hpb2 a0r a0f a0n a0c a0z a0l HP K1 K2
  go_wp2_with fail
  generalize hg0 : w.heap.size = g0 at *
  have HGE := Lib.hid hg0
  generalize hbase : w2.heap.size = base at *
  have HBE := Lib.hid hbase
  clear hg0 hbase
  go_loopw [7, 27] (fun v i wr => ∃ (k : Nat) (acc : List Chk) (ds : List (Option Addr × Nat)) (C : Option Addr) (cc : Nat), k ≤ m ∧ i = .int .i64 k ∧ v = .slice C acc.length cc ∧ acc.length = k ∧ Hid (acc = cs.take k) ∧ Hid (GRow kChk wr base acc ds C cc) ∧ Hid (Each kChk acc ds (fun q => base ≤ q)) ∧ Hid (Below base w2 wr)) (fun _ i _ => m - (intOf i).toNat)
  case atStart => exact ⟨0, [], [], none, 0, Nat.zero_le _, rfl, rfl, rfl, Lib.hid (by simp), Lib.hid (GRow.nil _ _), Lib.hid Each.nil, Lib.hid (Below.refl _ _)⟩
  case round =>
    rename World => wo
    obtain ⟨k, acc, ds, C, cc, hk, rfl, rfl, hal, HAC, HR, HE, HB⟩ := hrel
    have hbo : base ≤ wo.heap.size := Nat.le_trans (Nat.le_of_eq HBE.out.symm) HB.out.size
    have hbw : Below w2.heap.size w2 wo := HBE.out ▸ HB.out
    by_cases hlt : k < m
    · have dl : decide ((k : Int) < (m : Int)) = true := decide_eq_true (by omega)
      have hwk : IntKind.i64.wrap ((k : Int) + 1) = (k : Int) + 1 := IntWalk.i64_in _ (by omega)
      obtain ⟨x, hx⟩ : ∃ x, ca k = x := ⟨_, rfl⟩
      have hxe := HCA.out k
      rw [hx] at hxe
      obtain ⟨y, hy⟩ : ∃ y, x.data.length = y := ⟨_, rfl⟩
      have hyk : k * 16 + y ≤ b.length ∧ y ≤ 16 ∧ (y = 16 ∨ k * 16 + y = b.length) := by rw [← hy, hxe]; have := HM.out; simp; omega
      obtain ⟨hy1, hy2, hy3⟩ := hyk
      obtain ⟨o3, c3, hc3, hB3, hsl3⟩ := mid_slice (z1 := (k : Int) * 16) (z2 := (k : Int) * 16 + (y : Int)) (k * 16) y (by simp) (by simp) hc2 hy1 (HBB2.out.stays hbw)
      have hdt : (b.drop (k * 16)).take y = x.data := by
        rw [← hy, hxe]
        dsimp only
        rw [List.length_take, List.take_eq_take_iff]
        omega
      rw [hdt] at hB3
      have HNXT : Hid (acc ++ [x] = cs.take (k + 1)) := Lib.hid (by
        have h1 := HCO.out k hlt
        rw [hx] at h1
        obtain ⟨h2, h3⟩ := List.getElem?_eq_some_iff.1 h1
        rw [List.take_succ_eq_append_getElem h2, h3, HAC.out])
      have HCL : Hid (∀ wq, Below wo.heap.size wo wq → Calls Try.prog 100 #[.slice (some ⟨ab, o3, none⟩) y c3] wq (SlRet wq 5 1 y (x.data.map bv))) := Lib.hid (fun wq h => cloneBytes_calls _ _ _ _ wq (by simp [hy]) (by omega) (hB3.stays h).src (bv_one _))
      have HXE : Hid (∀ e : Option Addr × Nat, (kChk.cell x e).toArray = chkA f t (k : Int) (m : Int) e.1 y e.2) := Lib.hid (fun e => by rw [← hy]; rw [show kChk.cell x e = chkC x e.1 e.2 from rfl, hxe]; simp [chkA])
      have HW1 : Hid (IntKind.i64.wrap ((k : Int) * 16) = (k : Int) * 16) := Lib.hid (IntWalk.i64_in _ (by omega))
      have HW2 : Hid (IntKind.i64.wrap ((k : Int) + 1) = (k : Int) + 1) := Lib.hid hwk
      have HW3 : Hid (IntKind.i64.wrap (((k : Int) + 1) * 16) = ((k : Int) + 1) * 16) := Lib.hid (IntWalk.i64_in _ (by omega))
      have HMIN : Hid ((if ((k : Int) + 1) * 16 < (b.length : Int) then ((k : Int) + 1) * 16 else (b.length : Int)) = (k : Int) * 16 + (y : Int)) := Lib.hid (by split <;> omega)
      have HSL := Lib.hid hsl3
      have HPB : Hid (wo.heap[g0]? = some (.cells (patA f t o n sz B l.length d) tT (0, 0))) := Lib.hid ((HB.out.block g0 (by omega)).trans HPB0.out)
      have hg0b : g0 < base := by omega
      have HY := Lib.hid hy
      have HAL := Lib.hid hal
      have hk10 : k ≤ 10 := by omega
      have hacl : acc.length ≤ 10 := by omega
      clear hx hxe hy3 hB3 hsl3 hdt hbw hal hwk hy
      go_wp2_with fail
      refine wp_region_free (by kernel_rfl) (some 30 :: some 31 :: some 32 :: some 33 :: some 34 :: some 35 :: some 36 :: some 37 :: some 38 :: some 39 :: some 40 :: some 41 :: some 42 :: some 43 :: some 44 :: some 45 :: some 46 :: some 47 :: some 48 :: some 49 :: some 50 :: some 7 :: []) (false :: false :: false :: false :: false :: false :: false :: false :: false :: false :: false :: false :: false :: false :: false :: false :: false :: true :: true :: true :: true :: true :: []) (.slice C acc.length cc :: .pointer (some ⟨g0, 0, none⟩) :: iv f :: .pointer (some ⟨g0, 1, none⟩) :: iv t :: .int .i64 (k : Int) :: .int .i64 (m : Int) :: .slice (some ⟨ab, ao, none⟩) b.length c2 :: .int .i64 (k : Int) :: .int .i64 ((k : Int) * 16) :: .slice (some ⟨ab, ao, none⟩) b.length c2 :: .int .i64 (b.length : Int) :: .int .i64 (k : Int) :: .int .i64 ((k : Int) + 1) :: .int .i64 (((k : Int) + 1) * 16) :: .int .i64 ((k : Int) * 16 + (y : Int)) :: .slice (some ⟨ab, o3, none⟩) y c3 :: undef :: undef :: undef :: undef :: undef :: []) (fun done cv w => ctJ wo base C acc.length cc (kChk.cells acc ds) (x.data.map bv) y (fun e => kChk.cell x e) (lvlN [21, 20, 19, 18, 17] done) cv w) 53 rfl rfl (by decide +kernel) (by decide +kernel) (by decide +kernel) rfl rfl (rfl) ?_ ?_
      · refine ⟨?_, ?_⟩
        · intro done cv a wq hn hw hcl h hJ
          have e7 := fr_un (t := 7) (i := 0) (i0 := 21) (v := .slice C acc.length cc) h hcl hn rfl (by decide) (by decide) rfl
          exact mx_move (ch_ev e7)
        refine ⟨?_, ?_⟩
        · intro done cv a wq hn hw hcl h hJ
          have e1 := fr_old (t := 1) (v := .pointer (some ⟨g0, 0, none⟩)) h rfl rfl
          go_simp
        refine ⟨?_, ?_⟩
        · intro done cv a wq hn hw hcl h hJ
          have e31 := fr_new (i := 1) (t := 31) h (hw 1 (by decide)) rfl rfl rfl
          have hc := ctJ_blk hJ HPB.out hg0b
          have hc2 : wq.cell? ⟨g0, 0, none⟩ = some (iv f) := by rw [cell_of_row _ _ _ _ _ _ hc]; rfl
          go_simp
        refine ⟨?_, ?_⟩
        · intro done cv a wq hn hw hcl h hJ
          have e1 := fr_old (t := 1) (v := .pointer (some ⟨g0, 0, none⟩)) h rfl rfl
          go_simp
        refine ⟨?_, ?_⟩
        · intro done cv a wq hn hw hcl h hJ
          have e33 := fr_new (i := 3) (t := 33) h (hw 3 (by decide)) rfl rfl rfl
          have hc := ctJ_blk hJ HPB.out hg0b
          have hc2 : wq.cell? ⟨g0, 1, none⟩ = some (iv t) := by rw [cell_of_row _ _ _ _ _ _ hc]; rfl
          go_simp
        refine ⟨?_, ?_⟩
        · intro done cv a wq hn hw hcl h hJ
          have e8 := fr_old (t := 8) (v := .int .i64 (k : Int)) h rfl rfl
          exact mx_move (ch_ev e8)
        refine ⟨?_, ?_⟩
        · intro done cv a wq hn hw hcl h hJ
          have e6 := fr_old (t := 6) (v := .int .i64 (m : Int)) h rfl rfl
          exact mx_move (ch_ev e6)
        refine ⟨?_, ?_⟩
        · intro done cv a wq hn hw hcl h hJ
          have e4 := fr_old (t := 4) (v := .slice (some ⟨ab, ao, none⟩) b.length c2) h rfl rfl
          exact mx_move (ch_ev e4)
        refine ⟨?_, ?_⟩
        · intro done cv a wq hn hw hcl h hJ
          have e8 := fr_old (t := 8) (v := .int .i64 (k : Int)) h rfl rfl
          exact mx_move (ch_ev e8)
        refine ⟨?_, ?_⟩
        · intro done cv a wq hn hw hcl h hJ
          have e38 := fr_new (i := 8) (t := 38) h (hw 8 (by decide)) rfl rfl rfl
          have h1 := HW1.out
          go_simp
        refine ⟨?_, ?_⟩
        · intro done cv a wq hn hw hcl h hJ
          have e4 := fr_old (t := 4) (v := .slice (some ⟨ab, ao, none⟩) b.length c2) h rfl rfl
          exact mx_move (ch_ev e4)
        refine ⟨?_, ?_⟩
        · intro done cv a wq hn hw hcl h hJ
          have e40 := fr_new (i := 10) (t := 40) h (hw 10 (by decide)) rfl rfl rfl
          go_simp
        refine ⟨?_, ?_⟩
        · intro done cv a wq hn hw hcl h hJ
          have e8 := fr_old (t := 8) (v := .int .i64 (k : Int)) h rfl rfl
          exact mx_move (ch_ev e8)
        refine ⟨?_, ?_⟩
        · intro done cv a wq hn hw hcl h hJ
          have e42 := fr_new (i := 12) (t := 42) h (hw 12 (by decide)) rfl rfl rfl
          have h1 := HW2.out
          go_simp
        refine ⟨?_, ?_⟩
        · intro done cv a wq hn hw hcl h hJ
          have e43 := fr_new (i := 13) (t := 43) h (hw 13 (by decide)) rfl rfl rfl
          have h1 := HW3.out
          go_simp
        refine ⟨?_, ?_⟩
        · intro done cv a wq hn hw hcl h hJ
          have e41 := fr_new (i := 11) (t := 41) h (hw 11 (by decide)) rfl rfl rfl; have e44 := fr_new (i := 14) (t := 44) h (hw 14 (by decide)) rfl rfl rfl
          have h1 := HMIN.out
          first | (go_simp; done) | (go_simp; split at h1 <;> omega)
        refine ⟨?_, ?_⟩
        · intro done cv a wq hn hw hcl h hJ
          have e37 := fr_new (i := 7) (t := 37) h (hw 7 (by decide)) rfl rfl rfl; have e39 := fr_new (i := 9) (t := 39) h (hw 9 (by decide)) rfl rfl rfl; have e45 := fr_new (i := 15) (t := 45) h (hw 15 (by decide)) rfl rfl rfl
          have h1 := HSL.out
          go_simp
        refine ⟨?_, ?_⟩
        · intro done cv a wq hn hw hcl h hJ
          have e46 := fr_new (i := 16) (t := 46) h (hw 16 (by decide)) rfl rfl rfl
          have n17 : done 17 = false := hn
          have n18 : done 18 = false := Bool.eq_false_iff.2 (fun e => by have := hcl 18 _ rfl e 17 (by decide); rw [n17] at this; cases this)
          have n19 : done 19 = false := Bool.eq_false_iff.2 (fun e => by have := hcl 19 _ rfl e 18 (by decide); rw [n18] at this; cases this)
          have n20 : done 20 = false := Bool.eq_false_iff.2 (fun e => by have := hcl 20 _ rfl e 19 (by decide); rw [n19] at this; cases this)
          have n21 : done 21 = false := Bool.eq_false_iff.2 (fun e => by have := hcl 21 _ rfl e 20 (by decide); rw [n20] at this; cases this)
          have hl : lvlN [21, 20, 19, 18, 17] (maskB [false, false, false, false, false, false, false, false, false, false, false, false, false, false, false, false, false, true, true, true, true, true] done) = 0 := by simp [lvlN, maskB, n17, n18, n19, n20, n21]
          have hl2 : lvlN [21, 20, 19, 18, 17] (fun j => if j = 17 then true else maskB [false, false, false, false, false, false, false, false, false, false, false, false, false, false, false, false, false, true, true, true, true, true] done j) = 1 := by simp [lvlN, maskB, n17, n18, n19, n20, n21]
          rw [hl] at hJ
          have hK : ∀ (v : Value) (w' : World), ctJ wo base C acc.length cc (kChk.cells acc ds) (x.data.map bv) y (fun e => kChk.cell x e) 1 (fun j => if j = 17 then v else cv j) w' → ctJ wo base C acc.length cc (kChk.cells acc ds) (x.data.map bv) y (fun e => kChk.cell x e) (lvlN [21, 20, 19, 18, 17] (fun j => if j = 17 then true else maskB [false, false, false, false, false, false, false, false, false, false, false, false, false, false, false, false, false, true, true, true, true, true] done j)) (fun j => if j = 17 then v else cv j) w' := fun v w' h => by rw [hl2]; exact h
          obtain rfl : wq = wo.drew := hJ
          refine wp_call (vals := #[.slice (some ⟨ab, o3, none⟩) y c3]) (by rw [List.map_toArray, List.map_cons, List.map_nil, ch_ev e46]) (enters_of Try.func100 (by kernel_rfl) rfl _ _) (HCL.out _ ((Below.refl _ _).drew)) ?_
          rintro e w' ⟨A5, c5, rfl, hown, hbel⟩
          exact ⟨_, rfl, _, rfl, hK _ _ ⟨A5, c5, by simp, hown, (Below.refl _ _).drew.trans hbel⟩⟩
        refine ⟨?_, ?_⟩
        · intro done cv a wq hn hw hcl h hJ
          have e32 := fr_new (i := 2) (t := 32) h (hw 2 (by decide)) rfl rfl rfl; have e34 := fr_new (i := 4) (t := 34) h (hw 4 (by decide)) rfl rfl rfl; have e35 := fr_new (i := 5) (t := 35) h (hw 5 (by decide)) rfl rfl rfl; have e36 := fr_new (i := 6) (t := 36) h (hw 6 (by decide)) rfl rfl rfl; have e47 := fr_cv (i := 17) (t := 47) h (hw 17 (by decide)) rfl rfl
          have n18 : done 18 = false := hn
          have n19 : done 19 = false := Bool.eq_false_iff.2 (fun e => by have := hcl 19 _ rfl e 18 (by decide); rw [n18] at this; cases this)
          have n20 : done 20 = false := Bool.eq_false_iff.2 (fun e => by have := hcl 20 _ rfl e 19 (by decide); rw [n19] at this; cases this)
          have n21 : done 21 = false := Bool.eq_false_iff.2 (fun e => by have := hcl 21 _ rfl e 20 (by decide); rw [n20] at this; cases this)
          have m17 : done 17 = true := hw 17 (by decide)
          have hl : lvlN [21, 20, 19, 18, 17] (maskB [false, false, false, false, false, false, false, false, false, false, false, false, false, false, false, false, false, true, true, true, true, true] done) = 1 := by simp [lvlN, maskB, n18, n19, n20, n21, m17]
          have hl2 : lvlN [21, 20, 19, 18, 17] (fun j => if j = 18 then true else maskB [false, false, false, false, false, false, false, false, false, false, false, false, false, false, false, false, false, true, true, true, true, true] done j) = 2 := by simp [lvlN, maskB, n18, n19, n20, n21, m17]
          rw [hl] at hJ
          have hK : ∀ (v : Value) (w' : World), ctJ wo base C acc.length cc (kChk.cells acc ds) (x.data.map bv) y (fun e => kChk.cell x e) 2 (fun j => if j = 18 then v else cv j) w' → ctJ wo base C acc.length cc (kChk.cells acc ds) (x.data.map bv) y (fun e => kChk.cell x e) (lvlN [21, 20, 19, 18, 17] (fun j => if j = 18 then true else maskB [false, false, false, false, false, false, false, false, false, false, false, false, false, false, false, false, false, true, true, true, true, true] done j)) (fun j => if j = 18 then v else cv j) w' := fun v w' h => by rw [hl2]; exact h
          obtain ⟨A5, c5, y1, hown, hbel⟩ := hJ
          rw [y1] at e47
          refine wp_val (v := .agg (chkA f t (k : Int) (m : Int) A5 y c5)) (by go_simp) ⟨_, rfl, hK _ _ ⟨A5, c5, ?_, hown, hbel⟩⟩
          rw [HXE.out]
          simp
        refine ⟨?_, ?_⟩
        · intro done cv a wq hn hw hcl h hJ
          have e48 := fr_cv (i := 18) (t := 48) h (hw 18 (by decide)) rfl rfl
          have n19 : done 19 = false := hn
          have n20 : done 20 = false := Bool.eq_false_iff.2 (fun e => by have := hcl 20 _ rfl e 19 (by decide); rw [n19] at this; cases this)
          have n21 : done 21 = false := Bool.eq_false_iff.2 (fun e => by have := hcl 21 _ rfl e 20 (by decide); rw [n20] at this; cases this)
          have m18 : done 18 = true := hw 18 (by decide)
          have hl : lvlN [21, 20, 19, 18, 17] (maskB [false, false, false, false, false, false, false, false, false, false, false, false, false, false, false, false, false, true, true, true, true, true] done) = 2 := by simp [lvlN, maskB, n19, n20, n21, m18]
          have hl2 : lvlN [21, 20, 19, 18, 17] (fun j => if j = 19 then true else maskB [false, false, false, false, false, false, false, false, false, false, false, false, false, false, false, false, false, true, true, true, true, true] done j) = 3 := by simp [lvlN, maskB, n19, n20, n21, m18]
          rw [hl] at hJ
          have hK : ∀ (v : Value) (w' : World), ctJ wo base C acc.length cc (kChk.cells acc ds) (x.data.map bv) y (fun e => kChk.cell x e) 3 (fun j => if j = 19 then v else cv j) w' → ctJ wo base C acc.length cc (kChk.cells acc ds) (x.data.map bv) y (fun e => kChk.cell x e) (lvlN [21, 20, 19, 18, 17] (fun j => if j = 19 then true else maskB [false, false, false, false, false, false, false, false, false, false, false, false, false, false, false, false, false, true, true, true, true, true] done j)) (fun j => if j = 19 then v else cv j) w' := fun v w' h => by rw [hl2]; exact h
          obtain ⟨A5, c5, y1, hown, hbel⟩ := hJ
          rw [y1] at e48
          rw [HXE.out] at e48
          refine wp_sbc e48 ⟨_, rfl, hK _ _ ⟨A5, c5, wq, hown, hbel, by rw [HXE.out], by simp⟩⟩
        refine ⟨?_, ?_⟩
        · intro done cv a wq hn hw hcl h hJ
          have e30 := fr_new (i := 0) (t := 30) h (hw 0 (by decide)) rfl rfl rfl; have e49 := fr_cv (i := 19) (t := 49) h (hw 19 (by decide)) rfl rfl
          have n20 : done 20 = false := hn
          have n21 : done 21 = false := Bool.eq_false_iff.2 (fun e => by have := hcl 21 _ rfl e 20 (by decide); rw [n20] at this; cases this)
          have m19 : done 19 = true := hw 19 (by decide)
          have hl : lvlN [21, 20, 19, 18, 17] (maskB [false, false, false, false, false, false, false, false, false, false, false, false, false, false, false, false, false, true, true, true, true, true] done) = 3 := by simp [lvlN, maskB, n20, n21, m19]
          have hl2 : lvlN [21, 20, 19, 18, 17] (fun j => if j = 20 then true else maskB [false, false, false, false, false, false, false, false, false, false, false, false, false, false, false, false, false, true, true, true, true, true] done j) = 4 := by simp [lvlN, maskB, n20, n21, m19]
          rw [hl] at hJ
          have hK : ∀ (v : Value) (w' : World), ctJ wo base C acc.length cc (kChk.cells acc ds) (x.data.map bv) y (fun e => kChk.cell x e) 4 (fun j => if j = 20 then v else cv j) w' → ctJ wo base C acc.length cc (kChk.cells acc ds) (x.data.map bv) y (fun e => kChk.cell x e) (lvlN [21, 20, 19, 18, 17] (fun j => if j = 20 then true else maskB [false, false, false, false, false, false, false, false, false, false, false, false, false, false, false, false, false, true, true, true, true, true] done j)) (fun j => if j = 20 then v else cv j) w' := fun v w' h => by rw [hl2]; exact h
          obtain ⟨A5, c5, w1, hown, hbel, rfl, y1⟩ := hJ
          rw [y1] at e49
          refine wp_app _ (.tmp 30) (.tmp 49) 43 rfl elChunks base C acc.length cc (kChk.cells acc ds) (ch_ev e30) ((HR.out.row.below (B := 0) hbel).alloc _) (some ⟨w1.heap.size, 0, none⟩) 1 1 (kChk.cell x (A5, c5)) (ch_ev e49) (src_blk (blk_top rfl)) (by simp [kChk]) (kChk.one _ _) (by omega) (by have := hbel.size; simp; omega) ?_
          intro A' c' w' hown2 hgr hbel2 hor
          exact ⟨_, rfl, hK _ _ (ctJ_app hown hbel hown2 hgr hbel2 hor (Nat.le_trans hbo hbel.size))⟩
        refine ⟨?_, ?_⟩
        · intro done cv a wq hn hw hcl h hJ
          have e50 := fr_cv (i := 20) (t := 50) h (hw 20 (by decide)) rfl rfl
          have n21 : done 21 = false := hn
          have m20 : done 20 = true := hw 20 (by decide)
          have hl : lvlN [21, 20, 19, 18, 17] (maskB [false, false, false, false, false, false, false, false, false, false, false, false, false, false, false, false, false, true, true, true, true, true] done) = 4 := by simp [lvlN, maskB, n21, m20]
          have hl2 : lvlN [21, 20, 19, 18, 17] (fun j => if j = 21 then true else maskB [false, false, false, false, false, false, false, false, false, false, false, false, false, false, false, false, false, true, true, true, true, true] done j) = 5 := by simp [lvlN, maskB, n21, m20]
          rw [hl] at hJ
          have hK : ∀ (v : Value) (w' : World), ctJ wo base C acc.length cc (kChk.cells acc ds) (x.data.map bv) y (fun e => kChk.cell x e) 5 (fun j => if j = 21 then v else cv j) w' → ctJ wo base C acc.length cc (kChk.cells acc ds) (x.data.map bv) y (fun e => kChk.cell x e) (lvlN [21, 20, 19, 18, 17] (fun j => if j = 21 then true else maskB [false, false, false, false, false, false, false, false, false, false, false, false, false, false, false, false, false, true, true, true, true, true] done j)) (fun j => if j = 21 then v else cv j) w' := fun v w' h => by rw [hl2]; exact h
          obtain ⟨A5, c5, w1, A', c', hown, hbel, y1, r1, r2, r3, r4⟩ := hJ
          rw [y1] at e50
          exact wp_asg (ch_ev e50) ⟨_, rfl, hK _ _ ⟨A5, c5, w1, A', c', hown, hbel, by simp, r1, r2, r3, r4⟩⟩
        exact trivial
      · intro dn cv w3 hall hJ
        rw [show lvlN [21, 20, 19, 18, 17] dn = 5 by simp [lvlN, hall 21 rfl (by decide)]] at hJ
        obtain ⟨A5, c5, w1', A', c', hown, hbel, y1, r1, r2, r3, r4⟩ := hJ
        simp only [freeAll, putAll_some, putAll_none, putAll_nil, List.getD_cons_zero, List.getD_cons_succ, Bool.false_eq_true, if_true, if_false, reduceIte, Nat.zero_add, Nat.reduceAdd, List.setIfInBounds_toArray, List.set_cons_zero, List.set_cons_succ]
        rw [y1]
        have hr1 : GRow kChk w1' base acc ds C cc := HR.out.below hbel
        have hdb : x.data.length ≤ c5 := by rw [HY.out]; exact hown.le
        have hblk : ∀ q, A5.map (·.block) = some q → wo.heap.size ≤ q := fun q e => (hown.block q e).1
        have hr2 := hr1.push (o := x) (d := (A5, c5)) r1 r2 r3 r4 hown.src.bts hdb (fun _ q e e2 => by have h5 := hblk q e; have h6 := (HR.out.row.block q e2).2; omega)
        have HR3 := Lib.hid hr2
        have HE3 : Hid (Each kChk (acc ++ [x]) (ds ++ [(A5, c5)]) (fun q => base ≤ q)) := Lib.hid (HE.out.push HR.out.len (fun _ q e => by have h5 := hblk q e; omega))
        have HB3 : Hid (Below base w2 w3) := Lib.hid ((HB.out.trans (hbel.mono hbo)).trans r2)
        have hwk : IntKind.i64.wrap ((k : Int) + 1) = (k : Int) + 1 := HW2.out
        clear hown hbel y1 r1 r2 r3 r4 hr1 hdb hblk hr2
        go_wp2_with fail
        go_roundw
        case rel => exact ⟨k + 1, acc ++ [x], ds ++ [(A5, c5)], A', c', by omega, by go_num, by simp, by rw [List.length_append, HAL.out]; rfl, HNXT, HR3, HE3, HB3⟩
        case measure => simp [intOf]; omega
    · obtain rfl : k = m := by omega
      have dl : decide ((k : Int) < (k : Int)) = false := by simp
      have hz : acc = cs := by rw [HAC.out, List.take_of_length_le (by rw [HCL0.out]; exact Nat.le_refl _)]
      have HZ := Lib.hid hz
      clear hz hal
      go_wp2_with fail
      go_ret2
      rw [← HZ.out]
      exact ⟨C, cc, ds, rfl, HR.out.mono (by rw [HGE.out]; omega), HE.out.imp (fun q hq => by rw [HGE.out]; omega), by rw [HGE.out]; exact HB2.out.trans (HB.out.mono (by omega))⟩
theorem chkCut_calls (B : Option Addr) (d : Nat) (p : Pat) (w : World) (hp : PatIn w p B d) :
    Calls Try.prog 33 #[.agg (patA p.from_ p.to_ p.old p.new_ p.size B p.ops.length d)] w (ChkRet2 w (chkCut p).1 (chkCut p).2) := by
  unfold chkCut
  by_cases h : patCheck p = 0
  · obtain ⟨h1, h2⟩ := packed_patch_len h
    rw [if_neg (by simpa using h), if_neg (by omega)]
    exact chkCut_fine B d p w hp h
  · rw [if_pos h]
    exact chkCut_bad B d p w hp h
end Go.Proofs.Ytefkfglkpebbmac
