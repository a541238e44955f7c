/- Walks of functions, and plain words. No conditions. -/
import Derived.Test.YtefkfglkpebbmacGreatP18
import Derived.Test.YtefkfglkpebbmacGreatP19
import Derived.Lib.MakeNoZero
set_option linter.unusedVariables false
set_option linter.unusedSimpArgs false
set_option maxRecDepth 100000
set_option maxHeartbeats 40000000
namespace Go.Proofs.YtefkfglkpebbmacGreat
open Go.RowKit
variable {k : Nat} {R : List Value}
theorem x18 {p : Prop} (h : p := by
 go_quiet (fail)
 go_wp2_with fail
 go_meet
 case rel => exact ⟨by rw [hres], hD (below_drewN _ _)⟩) : p := h
theorem row_add {w2 w' : World} {base : Nat} {P : Nat -> Prop} {out : List Chk} {ds : List (Option Addr × Nat)} {C : Option Addr} {cc : Nat} {y : Chk} {D : Option Addr} {d : Nat} {C1 : Option Addr} {cc1 : Nat} {o : Obj} (h : GRow kChk w2 base out ds C cc) (hE : Each kChk out ds P) (hB0 : ∀ q, P q -> q < base) (hy : ChkIn w2 y D d) (hD : kChk.dat y ≠ [] -> ∀ q, D.map (·.block) = some q -> P q)
  (hown : Own w' base 39 5 C1 (out.length + 1) cc1 (kChk.cells out ds ++ kChk.cell y (D, d))) (hgr : (w2.alloc o).grownBy w' (C.map (·.block))) (hbel : Below base (w2.alloc o) w') (hor : C1.map (·.block) = C.map (·.block) ∨ C1.map (·.block) = some (w2.alloc o).heap.size) :
  GRow kChk w' base (out ++ [y]) (ds ++ [(D, d)]) C1 cc1 ∧ Each kChk (out ++ [y]) (ds ++ [(D, d)]) P := by
 have hb := (Below.refl w2.heap.size w2).alloc (Nat.le_refl _) o
 refine ⟨(h.below hb).push (o := y) (d := (D, d)) hown hbel (fun k hk hn => hgr.block k hk (fun e => hn e.symm)) ?_ (hy.data.stays hb) hy.cap (fun hx q e e2 => by have h1 := hB0 _ (hD hx q e); have h2 := (h.row.block q e2).1; omega), hE.push h.len hD⟩
 rcases hor with h | h
 ·exact .inl h
 exact .inr (fun k hk => by rw [h] at hk; injection hk with hk; omega)
theorem pick_succ (l : List Chk) (c : Chk) (k : Nat) : (List.range (k + 1)).flatMap (fun (j : Nat) => pickN l c (j : Int)) = (List.range k).flatMap (fun (j : Nat) => pickN l c (j : Int)) ++ pickN l c (k : Int) := by
 rw [List.range_succ, List.flatMap_append]; simp
theorem GRow.freshB {α : Type} {K : Kd α} {w v : World} {base : Nat} {P : Nat -> Prop} {l : List α} {ds : List (Option Addr × Nat)} {A : Option Addr} {c : Nat} (h : GRow K w base l ds A c) (hn : Each K l ds P) (hv : ∀ k, P k ∨ base <= k -> k < w.heap.size -> v.heap[k]? = w.heap[k]?) : GRow K v base l ds A c := by
 have hlt : ∀ k, P k ∨ base <= k -> k < w.heap.size -> k < v.heap.size := fun k h1 h2 => by
  exact x93
 refine ⟨h.len, own_fresh h.row (fun k h1 => hv k (.inr h1)), fun i o d h1 h2 => ⟨fun j hj => ?_, (h.data i o d h1 h2).2⟩, h.off⟩
 obtain ⟨b, o2, e1, hl2, hc⟩ := (h.data i o d h1 h2).1 j hj
 have hx : K.dat o ≠ [] := fun e => by rw [e] at hj; simp at hj
 have hbb := hn i o d h1 h2 hx b (by rw [e1]; rfl)
 exact ⟨b, o2, e1, hlt b (.inl hbb) hl2, (World.cell?_of_block (hv b (.inl hbb) hl2)).trans hc⟩
def AdRet (S : Nat -> Prop) (w : World) (l : List Chk) (n : Int) : Ending -> World -> Prop := fun en w' =>
 ∃ A c, en = .returned (.tuple #[.slice A l.length c, iv n]) ∧ l.length <= c ∧ Below w.heap.size w w' ∧ On (fun k => S k ∧ k < w.heap.size ∨ w.heap.size <= k) w' (fun v => Chs v A l)
def otherB (l : List Chk) (x : Chk) : Bool := match l with
 | [] => false
 | y :: _ => decide (¬ kin y x)
theorem otherB_at {l : List Chk} {x y : Chk} (h : l[0]? = some y) : otherB l x = decide (¬ kin y x) := by
 rcases l with _ | ⟨z, r⟩
 ·simp at h
 simp at h; subst h; rfl
theorem refAdded_calls (A B : Option Addr) (c d : Nat) (l : List Chk) (x : Chk) (S : Nat -> Prop) (w : World) (hl : l.length <= 1048576) (hs : On S w (fun v => Chs v A l)) (hx : On S w (fun v => ChkIn v x B d)) :
  Calls Tryz.prog 55 #[.slice A l.length c, .agg (chkA x.from_ x.to_ x.n x.of_ B x.data.length d)] w (AdRet S w (chkAdd l x).1 (chkAdd l x).2) := by
 have HS := hD hs
 have HX := hD hx
 have K1 := hD (fun w h => refChkList_calls A c l w hl h)
 have K2 := hD (fun w => refChkCheckX_calls B d x w ⟨hx.now.i2, hx.now.i3⟩)
 have hba := (Below.refl w.heap.size w).alloc (Nat.le_refl _) (.cells (chkA x.from_ x.to_ x.n x.of_ B x.data.length d) 39)
 have HBA := hD hba
 clear hs hx hba
 obtain ⟨r, hr⟩ : ∃ r, chkAdd l x = r := ⟨_, rfl⟩
 rw [hr]
 have HR := hD hr
 clear hr
 go_enter Tryz.func55, Tryz.ntmps55
 go_wp2_with fail
 refine (K1.out _ (HS.out.at_ HBA.out)).mono ?_
 rintro e w1 ⟨rfl, hb⟩
 obtain ⟨a0r, a0f, a0n, a0c, a0z, a0l⟩ := kp (w.heap.size) (chkA x.from_ x.to_ x.n x.of_ B x.data.length d) hb
 have HB1 := hD (HBA.out.trans (hb.mono (by simp)))
 clear hb
 by_cases he1 : chkList l ≠ 0
 ·have hz := HR.out.symm.trans (chkAdd_err1 (c := x) he1)
  have q : (chkList l != 0) = true := by simp [he1]
  generalize chkList l = e1 at *
  clear he1 HR
  go_wp2_with fail
  go_ret2
  rw [hz]
  exact ⟨none, 0, rfl, Nat.le_refl _, HB1.out, .const fun v => Chs.nil v _⟩
 have he1 := Decidable.not_not.1 he1
 rw [he1]
 go_wp2_with fail
 refine (K2.out _).mono ?_
 rintro e w2 ⟨rfl, hb⟩
 obtain ⟨a0r, a0f, a0n, a0c, a0z, a0l⟩ := kp (w.heap.size) (chkA x.from_ x.to_ x.n x.of_ B x.data.length d) hb
 have HB2 := bT HB1 hb
 clear hb HB1
 by_cases he2 : chkCheck x ≠ 0
 ·have hz := HR.out.symm.trans (chkAdd_err2 he1 he2)
  have q : (chkCheck x != 0) = true := by simp [he2]
  generalize chkCheck x = e2 at *
  clear he1 he2 HR
  go_wp2_with fail
  go_ret2
  rw [hz]
  exact ⟨none, 0, rfl, Nat.le_refl _, HB2.out, .const fun v => Chs.nil v _⟩
 have he2 := Decidable.not_not.1 he2
 rw [he2]
 have hr1 := refAdd_is he1 he2
 have hbd : ∀ y ∈ (chkAdd l x).1, ChkB y := by
  obtain ⟨k1, _, _⟩ := add_again he1 he2
  intro y hy
  obtain ⟨⟨h1, h2, h3, h4, h5, h6, h7, h8⟩, _, h9, _⟩ := chkCheck_ok.1 ((chkList_ok.1 k1).1 y hy)
  refine ⟨by omega, ⟨?_, ?_⟩, ⟨?_, ?_⟩, ⟨?_, ?_⟩, ⟨?_, ?_⟩⟩ <;> omega
 rw [← hr1] at hbd
 have hres : r = (refAdd l x, 0) := by rw [← HR.out]; exact Prod.ext hr1.symm (chkAdd_ok he1 he2).1
 have HRES := hD hres
 unfold refAdd at hbd HRES
 have HBD := hD hbd
 have hll := chkList_len he1
 have hxn : I64 x.n := HX.out.now.i2
 clear hbd hr1 he1 he2 hl HR K1 K2 hres
 have HRF := hD (And.intro a0r a0f)
 go_upto_region 7 with fail
 go_cut [50] (fun v wx => v = .bool (otherB l x) ∧ Hid (Below w2.heap.size w2 wx))
 case first =>
  rcases Nat.eq_zero_or_pos l.length with hl0 | hlp
  ·have hn := List.eq_nil_of_length_eq_zero hl0
   have hres : otherB l x = false := by rw [hn]; rfl
   subst hn
   exact x18
  obtain ⟨b, o, By, dy, rfl, hbl, hat, -⟩ := HS.out.now.chk hlp
  have h0 : l[0]? = some l[0] := List.getElem?_eq_getElem hlp
  have HO := hD (otherB_at (x := x) h0)
  obtain ⟨y, hy⟩ : ∃ y, l[0] = y := ⟨_, rfl⟩
  rw [hy] at hat HO
  rw [Nat.zero_mul, Nat.add_zero] at hat
  obtain ⟨y0, y1, y2, y3, y4⟩ := hat.stays hbl HB2.out
  have q0 : (0 : Int) < (l.length : Int) := by omega
  have q9 : ¬ (l.length : Int) <= 0 := by omega
  have nb0 : ¬ l.length = 0 := by omega
  have nb1 : ¬ l = [] := fun e => by rw [e] at hlp; simp at hlp
  clear hy h0 hat
  by_cases c1 : x.from_ = y.from_
  ·by_cases c2 : x.to_ = y.to_
   ·by_cases c3 : x.of_ = y.of_
    ·have hres : otherB l x = false := by rw [HO.out]; exact decide_eq_false (fun h => h ⟨c1.symm, c2.symm, c3.symm⟩)
     have q1 : (x.from_ != y.from_) = false := by simp [c1]
     have q2 : (x.to_ != y.to_) = false := by simp [c2]
     have q3 : (x.of_ != y.of_) = false := by simp [c3]
     clear c1 c2 c3
     exact x18
    ·have hres : otherB l x = true := by rw [HO.out]; exact decide_eq_true (fun h => c3 h.2.2.symm)
     have q1 : (x.from_ != y.from_) = false := by simp [c1]
     have q2 : (x.to_ != y.to_) = false := by simp [c2]
     have q3 : (x.of_ != y.of_) = true := by simp [c3]
     clear c1 c2 c3
     exact x18
   ·have hres : otherB l x = true := by rw [HO.out]; exact decide_eq_true (fun h => c2 h.2.1.symm)
    have q1 : (x.from_ != y.from_) = false := by simp [c1]
    have q2 : (x.to_ != y.to_) = true := by simp [c2]
    clear c1 c2
    exact x18
  have hres : otherB l x = true := by rw [HO.out]; exact decide_eq_true (fun h => c1 h.1.symm)
  have q1 : (x.from_ != y.from_) = true := by simp [c1]
  clear c1
  exact x18
 case rest =>
 obtain ⟨rfl, hb⟩ := hcut
 have HB3 := bT HB2 hb.out
 have HRF3 : Hid (rowOf wc w.heap.size = chkA x.from_ x.to_ x.n x.of_ B x.data.length d ∧ frOf wc w.heap.size = (0, 0)) := hD (by
  obtain ⟨q1, q2, _⟩ := keep1 (g := w.heap.size) (cs := chkA x.from_ x.to_ x.n x.of_ B x.data.length d) hb.out HRF.out.1 (by go_simp) HRF.out.2
  exact ⟨q1, q2⟩)
 clear hb HB2 HRF a0r a0f a0n a0c a0z a0l
 obtain ⟨w3, hw3⟩ : ∃ w3, wc = w3 := ⟨_, rfl⟩
 subst hw3
 obtain ⟨m, hm⟩ : ∃ m, ofKin l x = m := ⟨_, rfl⟩
 rw [hm] at HBD HRES
 have HMK := hD hm
 clear hm
 go_upto_if 50 with fail
 go_cut [0] (fun v wx => wc = wx ∧ ∃ A' c', v = .slice A' m.length c' ∧ m.length <= 1048576 ∧ Hid (On S w (fun v => Chs v A' m)))
 case first =>
  cases hob : otherB l x
  ·go_wp2_with fail
   go_meet
   case rel =>
    have hm : l = m := by
     rw [← HMK.out]
     rcases l with _ | ⟨y, t⟩
     ·rfl
     exact (if_pos (by simpa [otherB] using hob)).symm
    exact ⟨rfl, A, c, by rw [hm], by rw [← hm]; omega, by rw [← hm]; exact HS⟩
  go_wp2_with fail
  go_meet
  case rel =>
   have hm : m = [] := by
    rw [← HMK.out]
    rcases l with _ | ⟨y, t⟩
    ·rfl
    exact if_neg (by simpa [otherB] using hob)
   exact ⟨rfl, none, 0, by rw [hm]; rfl, by rw [hm]; simp, by rw [hm]; exact hD (On.const fun v => Chs.nil v _)⟩
 case rest =>
 obtain ⟨hwx, A', c', rfl, hml, HM⟩ := hcut
 subst hwx
 rename World => w3
 have hs3 := HB3.out.size
 have hsw : ∀ q, S q ∧ q < w.heap.size -> q < w3.heap.size := fun q h => Nat.lt_of_lt_of_le h.2 hs3
 clear HS HMK
 go_wp2_with fail
 go_loopw [51, 8] (fun i v wr => ∃ (k : Nat) (out : List Chk) (ds : List (Option Addr × Nat)) (C : Option Addr) (cc : Nat), k <= 52 ∧ i = .int .i64 k ∧ v = .slice C out.length cc ∧ Hid (out = (List.range k).flatMap (fun (j : Nat) => pickN m x (j : Int))) ∧ out.length <= k ∧ Hid (GRow kChk wr w3.heap.size out ds C cc) ∧ Hid (Each kChk out ds (fun q => S q ∧ q < w.heap.size)) ∧ Hid (Below w3.heap.size w3 wr)) (fun i _ _ => 52 - (intOf i).toNat)
 case atStart => exact ⟨0, [], [], none, 0, by omega, rfl, rfl, hD rfl, by simp, hD (GRow.nil _ _), hD Each.nil, hD (Below.refl _ _)⟩
 case round =>
  rename World => wr
  obtain ⟨k, out, ds, C, cc, hk, rfl, rfl, HO, hol, HR, HE, HB⟩ := hrel
  have hsr := HB.out.size
  have HBW := hD (HB3.out.trans (HB.out.mono hs3))
  obtain ⟨a0r, a0f, a0n, a0c, a0z, a0l⟩ := keep1 (g := w.heap.size) (cs := chkA x.from_ x.to_ x.n x.of_ B x.data.length d) HB.out HRF3.out.1 (by go_simp) HRF3.out.2
  by_cases hlt : k < 52
  ·have dl : decide ((k : Int) < 52) = true := decide_eq_true (by omega)
   have hwk : IntKind.i64.wrap ((k : Int) + 1) = (k : Int) + 1 := IntWalk.i64_in _ (by omega)
   have hbn := (Below.refl wr.heap.size wr).alloc (Nat.le_refl _) (.cells #[iv (k : Int)] 3)
   have HBN := hD (HB.out.trans (hbn.mono hsr))
   have K3 := hD (raN_idx A' c' wr.heap.size m (k : Int) (wr.alloc (.cells #[iv (k : Int)] 3)) hml (HM.out.at_ (HBW.out.trans (hbn.mono HBW.out.size))) (by simp) (by rw [cell_of_row _ _ _ _ _ _ (blk_top rfl)]; rfl))
   have HR0 := hD (HR.out.below hbn)
   have HPS := hD (pick_succ m x k)
   clear hbn
   rcases idxR_spec (fun z => isN z (k : Int)) m 0 with ⟨hf1, hf2⟩ | ⟨j, y, hj, hf2, hf1⟩
   ·rw [hf2] at K3
    have hpk : pickN m x (k : Int) = if (k : Int) = x.n then [x] else [] := by unfold pickN; rw [atN_isN, hf1]
    rw [hpk] at HPS
    clear hpk hf1 hf2
    go_wp2_with fail
    refine K3.out.mono ?_
    rintro e w4 ⟨rfl, hb4⟩
    obtain ⟨b0r, b0f, b0n, b0c, b0z, b0l⟩ := kp (w.heap.size) (chkA x.from_ x.to_ x.n x.of_ B x.data.length d) hb4
    obtain ⟨n0r, n0f, n0n, n0c, n0z, n0l⟩ := kp (wr.heap.size) (#[iv (k : Int)]) hb4
    have HB4 := bT HBN hb4
    have HR4 := hD (HR0.out.below hb4)
    have hs4 := HB4.out.size
    clear hb4 a0r a0f a0n a0c a0z a0l
    by_cases hkn : (k : Int) = x.n
    ·rw [if_pos hkn] at HPS
     have q9 : ((k : Int) == x.n) = true := by simp [hkn]
     clear hkn
     have hoa := HR4.out.row.alloc (.cells (chkA x.from_ x.to_ x.n x.of_ B x.data.length d) 39)
     have hsd : Src (w4.alloc (.cells (chkA x.from_ x.to_ x.n x.of_ B x.data.length d) 39)) (some ⟨w4.heap.size, 0, none⟩) (kChk.cell x (B, d)) := by
      have := src_blk (w := w4.alloc (.cells (chkA x.from_ x.to_ x.n x.of_ B x.data.length d) 39)) (g := w4.heap.size) (blk_top rfl)
      rwa [chkA_list] at this
     have hob : out.length + 1 <= 1073741824 := by omega
     have hle : w3.heap.size <= (w4.alloc (.cells (chkA x.from_ x.to_ x.n x.of_ B x.data.length d) 39)).heap.size := by simp; omega
     go_wp2_with (at_builtin; go_must (refine wpList_app (w4.alloc (.cells (chkA x.from_ x.to_ x.n x.of_ B x.data.length d) 39)) rfl _ _ 32 rfl elChunks w3.heap.size C out.length cc (kChk.cells out ds) rfl hoa (some ⟨w4.heap.size, 0, none⟩) 1 1 (kChk.cell x (B, d)) rfl hsd (by simp [kChk]) (kChk.one _ _) hob hle ?_; intro C1 cc1 w5 hown hgr hbel hor))
     have hra := row_add HR4.out HE.out hsw (HX.out.at_ (HB3.out.trans (HB4.out.mono hs3))) (fun h => (HX.out.imp fun _ h => h.data).bts_in h) hown hgr hbel hor
     have HR5 := hD hra.1
     have HE5 := hD hra.2
     have HB5 : Hid (Below w3.heap.size w3 w5) := hD ((HB4.out.alloc hs4 _).trans hbel)
     have HL : Hid (out.length + 1 = (out ++ [x]).length) := hD (by simp)
     clear hra hown hgr hbel hor hoa hsd hob hle
     go_roundw
     case rel => exact ⟨k + 1, out ++ [x], ds ++ [(B, d)], C1, cc1, by omega, by go_num, by rw [HL.out], hD (by rw [HPS.out, ← HO.out]), by simp; omega, HR5, HE5, HB5⟩
     case measure => simp [intOf]; omega
    rw [if_neg hkn, List.append_nil] at HPS
    have q9 : ((k : Int) == x.n) = false := by simp [hkn]
    clear hkn
    go_wp2_with fail
    go_roundw
    case rel => exact ⟨k + 1, out, ds, C, cc, by omega, by go_num, rfl, hD (by rw [HPS.out]; exact HO.out), by omega, HR4, HE, HB4⟩
    case measure => simp [intOf]; omega
   rw [hf2] at K3
   have hpk : pickN m x (k : Int) = [y] := by unfold pickN; rw [atN_isN, hf1]
   rw [hpk] at HPS
   clear hpk hf1 hf2
   have hjl : j < m.length := (List.getElem?_eq_some_iff.1 hj).1
   have hyj : m[j] = y := by rw [List.getElem?_eq_getElem hjl] at hj; injection hj
   obtain ⟨b, o, B1, d1, rfl, hbl, hat, hin⟩ := HM.out.now.chk hjl
   have hyd := fun h => HM.out.chk_in hjl rfl hat h hin
   rw [hyj] at hat hin hyd
   have HYD : Hid (kChk.dat y ≠ [] -> ∀ q, B1.map (·.block) = some q -> S q ∧ q < w.heap.size) := hD hyd
   have HYI := hD hin
   have HYA : Hid (∀ v, Below w.heap.size w v -> ChkAt v b (o + j * 5) y B1 d1) := hD (fun v hv => hat.stays hbl hv)
   have hj0 : (0 : Int) <= ((0 + j : Nat) : Int) := by omega
   rw [Nat.zero_add] at K3
   clear hj hyj hat hin hj0 hyd
   go_wp2_with fail
   refine K3.out.mono ?_
   rintro e w4 ⟨rfl, hb4⟩
   obtain ⟨b0r, b0f, b0n, b0c, b0z, b0l⟩ := kp (w.heap.size) (chkA x.from_ x.to_ x.n x.of_ B x.data.length d) hb4
   have HB4 := bT HBN hb4
   have HR4 := hD (HR0.out.below hb4)
   have hs4 := HB4.out.size
   obtain ⟨z0, z1, z2, z3, z4⟩ := HYA.out w4 (HB3.out.trans (HB4.out.mono hs3))
   clear hb4 a0r a0f a0n a0c a0z a0l
   have hoa := HR4.out.row.alloc (.cells (chkA y.from_ y.to_ y.n y.of_ B1 y.data.length d1) 39)
   have hsd : Src (w4.alloc (.cells (chkA y.from_ y.to_ y.n y.of_ B1 y.data.length d1) 39)) (some ⟨w4.heap.size, 0, none⟩) (kChk.cell y (B1, d1)) := by
    have := src_blk (w := w4.alloc (.cells (chkA y.from_ y.to_ y.n y.of_ B1 y.data.length d1) 39)) (g := w4.heap.size) (blk_top rfl)
    rwa [chkA_list] at this
   have hob : out.length + 1 <= 1073741824 := by omega
   have hle : w3.heap.size <= (w4.alloc (.cells (chkA y.from_ y.to_ y.n y.of_ B1 y.data.length d1) 39)).heap.size := by simp; omega
   go_wp2_with (at_builtin; go_must (refine wpList_app (w4.alloc (.cells (chkA y.from_ y.to_ y.n y.of_ B1 y.data.length d1) 39)) rfl _ _ 32 rfl elChunks w3.heap.size C out.length cc (kChk.cells out ds) rfl hoa (some ⟨w4.heap.size, 0, none⟩) 1 1 (kChk.cell y (B1, d1)) rfl hsd (by simp [kChk]) (kChk.one _ _) hob hle ?_; intro C1 cc1 w5 hown hgr hbel hor))
   have hra := row_add HR4.out HE.out hsw (HYI.out.stays (HB3.out.trans (HB4.out.mono hs3))) HYD.out hown hgr hbel hor
   have HR5 := hD hra.1
   have HE5 := hD hra.2
   have HB5 : Hid (Below w3.heap.size w3 w5) := hD ((HB4.out.alloc hs4 _).trans hbel)
   have HL : Hid (out.length + 1 = (out ++ [y]).length) := hD (by simp)
   clear hra hown hgr hbel hor hoa hsd hob hle
   go_roundw
   case rel => exact ⟨k + 1, out ++ [y], ds ++ [(B1, d1)], C1, cc1, by omega, by go_num, by rw [HL.out], hD (by rw [HPS.out, ← HO.out]), by simp; omega, HR5, HE5, HB5⟩
   case measure => simp [intOf]; omega
  obtain rfl : k = 52 := by omega
  have hfin := HO.out
  have hrs := HRES.out
  rw [← hfin] at hrs
  go_wp2_with fail
  go_ret2
  rw [hrs]
  exact ⟨C, cc, rfl, HR.out.row.le, HBW.out, fun v _ hv => (HR.out.freshB HE.out (fun k h1 h2 => hv k (h1.imp id (fun h => by omega)) h2)).src.chs (by rw [hfin]; exact HBD.out)⟩
theorem acts_hear (S : Nat -> Prop) (d : Dev) (L : DLoc) (n : Int) (x : Chk) (B : Option Addr) (bc : Nat) (w : World) (hok : DevOk d) (hu : d.up = true) (hd : On S w (fun v => DevIn v d L)) (hx : On S w (fun v => ChkIn v x B bc)) : Calls Tryz.prog 19 #[.agg (devA d L), .agg #[iv 2, iv n], .agg (chkA x.from_ x.to_ x.n x.of_ B x.data.length bc)] w (AcRet S w (devHear d x).1 (devHear d x).2) := by
 have hrec := rec_ok hok
 have hrd : devReady d = 0 := by unfold devReady; rw [if_neg (by simpa using devCheck_ok.2 hok), if_neg (by rw [hu]; decide)]
 have KN := hD (fun w => newest_calls d.c0 d.c1 w)
 rw [refNewest_ok hok.cops] at KN
 obtain ⟨rk, hrk⟩ : ∃ rk, (recRead d.c0 d.c1).2 = rk := ⟨_, rfl⟩
 have hre : (recRead d.c0 d.c1).1 = d.rec_ := rfl
 rw [hrk, hre] at KN
 clear hrk hre
 have hdef : devHear d x = if d.busy = true then (Dev.zero, 5) else if (chkAdd d.got x).2 ≠ 0 then (Dev.zero, (chkAdd d.got x).2) else ({ d with got := (chkAdd d.got x).1 }, 0) := by
  unfold devHear; rw [if_neg (by omega)]
 have HD := hD hdef
 have HI := hD hd
 have hd' : On (fun k => S k ∧ k < w.heap.size) w (fun v => DevIn v d L) := hd.sub (fun k h1 h2 => ⟨h2, h1⟩)
 have hx' : On (fun k => S k ∧ k < w.heap.size) w (fun v => ChkIn v x B bc) := hx.sub (fun k h1 h2 => ⟨h2, h1⟩)
 have K3 := hD (fun v (hb : Below w.heap.size w v) => refAdded_calls L.ag B L.cg bc d.got x (fun k => S k ∧ k < w.heap.size) v hd.now.lg ((hd'.below hb).imp fun _ h => h.got) (hx'.below hb))
 have hln : (chkAdd d.got x).2 = 0 -> (chkAdd d.got x).1.length <= 1048576 := fun e => by have := chkList_len (add_again (chkAdd_zero e).1 (chkAdd_zero e).2).1; omega
 have HLN := hD hln
 obtain ⟨⟨l', e3⟩, hl'⟩ : ∃ y, chkAdd d.got x = y := ⟨_, rfl⟩
 rw [hl'] at K3 HD HLN
 dsimp only at K3 HD HLN
 generalize devHear d x = res at *
 clear hrec hrd hok hdef hd hx hl' hd' hx' hln
 generalize d.rec_ = r at *
 go_enter Tryz.func19, Tryz.ntmps19
 go_wp2_with fail
 refine (KN.out _).mono ?_
 rintro e w1 ⟨rfl, hb⟩
 obtain ⟨a0r, a0f, a0n, a0c, a0z, a0l⟩ := kp (w.heap.size) (devA d L) hb
 obtain ⟨a1r, a1f, a1n, a1c, a1z, a1l⟩ := kp (w.heap.size + 1) (#[iv 2, iv n]) hb
 obtain ⟨a2r, a2f, a2n, a2c, a2z, a2l⟩ := kp (w.heap.size + 1 + 1) (chkA x.from_ x.to_ x.n x.of_ B x.data.length bc) hb
 obtain ⟨a3r, a3f, a3n, a3c, a3z, a3l⟩ := kp (w.heap.size + 1 + 1 + 1) (devA Dev.zero DLoc.zero) hb
 obtain ⟨a4r, a4f, a4n, a4c, a4z, a4l⟩ := kp (w.heap.size + 1 + 1 + 1 + 1) (#[.func (Fn.func 51) #[] #[]]) hb
 have HB1 : Hid (Below w.heap.size w w1) := hD (((((((Below.refl w.heap.size w).alloc (Nat.le_refl _) (.cells (devA d L) 37)).alloc (by simp) (.cells #[iv 2, iv n] 55)).alloc (by simp; omega) (.cells (chkA x.from_ x.to_ x.n x.of_ B x.data.length bc) 39)).alloc (by simp; omega) (.cells (devA Dev.zero DLoc.zero) 37)).alloc (by simp; omega) _).trans (hb.mono (by simp; omega)))
 clear hb
 cases c1 : d.busy
 case true =>
  have hz := HD.out.trans (if_pos c1)
  subst hz
  clear HD K3 KN
  go_wp2_with fail
  refine (actsBad_calls 5 _).mono ?_
  rintro e wz ⟨rfl, hb⟩
  obtain ⟨z3r, z3f, z3n, z3c, z3z, z3l⟩ := kp (w.heap.size + 1 + 1 + 1) (devA Dev.zero DLoc.zero) hb
  have HBZ : Hid (Below w.heap.size w wz) := hD (by
   refine Below.trans ?_ (hb.mono (by have := HB1.out.size; simp; omega))
   have hs := HB1.out.size
   exact x0)
  clear hb
  go_wp2_with fail
  refine bodyPost_ret (rC (devA Dev.zero DLoc.zero)) rfl ⟨DLoc.zero, rfl, .const fun v => DevIn.zero v, ?_⟩
  exact below_row HBZ.out (by omega) _
 case false =>
  have HD2 := hD (HD.out.trans (if_neg (by rw [c1]; decide)))
  clear HD KN
  go_wp2_with fail
  refine (K3.out _ (by have hs := HB1.out.size; repeat (first | exact HB1.out | refine bA ?_ _))).mono ?_
  rintro e w2 ⟨A3, c3, rfl, hc3, hb, ho3⟩
  obtain ⟨a0r, a0f, a0n, a0c, a0z, a0l⟩ := kp (w.heap.size) (devA d L) hb
  obtain ⟨a3r, a3f, a3n, a3c, a3z, a3l⟩ := kp (w.heap.size + 1 + 1 + 1) (devA Dev.zero DLoc.zero) hb
  obtain ⟨a4r, a4f, a4n, a4c, a4z, a4l⟩ := kp (w.heap.size + 1 + 1 + 1 + 1) (#[.func (Fn.func 51) #[] #[]]) hb
  have HB2 : Hid (Below w.heap.size w w2) := hD (by
   refine Below.trans ?_ (hb.mono (by have := HB1.out.size; simp; omega))
   have hs := HB1.out.size
   exact x0)
  have hsz : w.heap.size + 5 <= w1.heap.size := by omega
  have HO3 : Hid (On (fun k => S k ∧ k < w.heap.size ∨ w1.heap.size <= k) w2 (fun v => Chs v A3 l')) := hD (ho3.sub (fun k _ h => h.elim (fun h => .inl h.1) (fun h => .inr (by simp at h; omega))))
  clear hb K3 ho3
  by_cases c5 : e3 ≠ 0
  ·have hz := HD2.out.trans (if_pos c5)
   subst hz
   have KD := hD (fun gb gd w h1 h2 => actsDone_bad e3 gb gd w c5 h1 h2)
   clear c5 HD2
   go_wp2_with fail
   refine (KD.out _ _ _ (by go_simp) (by go_simp)).mono ?_
   rintro e w4 ⟨rfl, hb⟩
   obtain ⟨c3r, c3f, c3n, c3c, c3z, c3l⟩ := kp (w.heap.size + 1 + 1 + 1) (devA Dev.zero DLoc.zero) hb
   have HB4 : Hid (Below w.heap.size w w4) := hD (by
    refine Below.trans ?_ (hb.mono (by have := HB2.out.size; simp; omega))
    have hs := HB2.out.size
    exact x0)
   clear hb
   go_wp2_with fail
   refine bodyPost_ret (rC (devA Dev.zero DLoc.zero)) rfl ⟨DLoc.zero, rfl, .const fun v => DevIn.zero v, ?_⟩
   exact below_row HB4.out (by omega) _
  have c5 := Decidable.not_not.1 c5
  subst c5
  have hz := HD2.out.trans (if_neg (by decide))
  have hl3 := HLN.out rfl
  subst hz
  clear HD2
  go_wp2_with fail
  refine (actsDone_ok { d with got := l' } { L with ag := A3, cg := c3 } _ _ _ (by go_simp) (by go_simp)).mono ?_
  rintro e w4 ⟨rfl, hb⟩
  obtain ⟨c3r, c3f, c3n, c3c, c3z, c3l⟩ := kp (w.heap.size + 1 + 1 + 1) (devA Dev.zero DLoc.zero) hb
  have hn1 : ¬ (S w.heap.size ∧ w.heap.size < w.heap.size ∨ w1.heap.size <= w.heap.size) := by rintro (h | h) <;> omega
  have hn2 : ¬ (S (w.heap.size + 1 + 1 + 1) ∧ w.heap.size + 1 + 1 + 1 < w.heap.size ∨ w1.heap.size <= w.heap.size + 1 + 1 + 1) := by rintro (h | h) <;> omega
  have HB4 : Hid (Below w.heap.size w w4) := hD (by
   refine Below.trans ?_ (hb.mono (by have := HB2.out.size; simp; omega))
   have hs := HB2.out.size
   exact x0)
  have o2 : On (fun k => S k ∧ k < w.heap.size ∨ w1.heap.size <= k) w4 (fun v => Chs v A3 l') := (HO3.out.cell hn1 _).below hb
  have o3 : On (fun k => S k ∧ k < w.heap.size ∨ w1.heap.size <= k) w4 (fun v => DevIn v d L) := (HI.out.sub (fun k h1 h2 => .inl ⟨h2, h1⟩)).below HB4.out
  have HIN : Hid (On (fun k => S k ∧ k < w.heap.size ∨ w1.heap.size <= k) w4 (fun v => DevIn v { d with got := l' } { L with ag := A3, cg := c3 })) := hD ((o3.and o2).imp fun v ⟨h, g⟩ => ⟨h.k0, h.l0, h.b0, h.k1, h.l1, h.b1, hc3, hl3, g, h.job, h.ir, h.id⟩)
  clear hb o2 o3 hn1
  go_wp2_with fail
  refine bodyPost_ret (rC (devA { d with got := l' } { L with ag := A3, cg := c3 })) rfl ⟨_, rfl, ?_, below_row HB4.out (by omega) _⟩
  exact (HIN.out.row hn2 _).sub fun k _ h => h.elim .inl fun h => .inr (by omega)
theorem splice_tryIt (r : Rec) (x : Inf) {a a' : Nat} (ha : r.active = (a : Int)) (h : a + a' = 1) : splice (recA ⟨r.gen, (a : Int), true, 3, r.floor, r.a, r.b⟩) (5 + a' * 3) (infA x) = recA (r.tryIt x) := by
 unfold Rec.tryIt Rec.setOther
 rcases (show (a = 0 ∧ a' = 1) ∨ (a = 1 ∧ a' = 0) by omega) with ⟨rfl, rfl⟩ | ⟨rfl, rfl⟩
 ·rw [if_pos (by simp [ha])]; simp [splice, recA, infA, ha]
 rw [if_neg (by simp [ha])]; simp [splice, recA, infA, ha]
theorem acts_finish7 (d : Dev) (L : DLoc) (n f t m o : Int) (B : Option Addr) (bl bc : Nat) (w : World) (hok : DevOk d) (hu : d.up = true) : Calls Tryz.prog 19 #[.agg (devA d L), .agg #[iv 7, iv n], .agg (chkA f t m o B bl bc)] w (ActRet w d L (devFinish d false).1 (devFinish d false).2) := by
 have hrec := rec_ok hok
 have hrd : devReady d = 0 := by unfold devReady; rw [if_neg (by simpa using devCheck_ok.2 hok), if_neg (by rw [hu]; decide)]
 have KN := hD (fun w => newest_calls d.c0 d.c1 w)
 rw [refNewest_ok hok.cops] at KN
 obtain ⟨rk, hrk⟩ : ∃ rk, (recRead d.c0 d.c1).2 = rk := ⟨_, rfl⟩
 have hre : (recRead d.c0 d.c1).1 = d.rec_ := rfl
 rw [hrk, hre] at KN
 clear hrk hre
 have hact := rec_active hrec
 have hdef : devFinish d false = if d.busy = false ∨ d.done < d.job.size then (Dev.zero, 5) else if (recWrite d.c0 d.c1 (d.rec_.tryIt ⟨d.job.to_, d.job.size, d.job.new_⟩) false).2 ≠ 0 then (Dev.zero, (recWrite d.c0 d.c1 (d.rec_.tryIt ⟨d.job.to_, d.job.size, d.job.new_⟩) false).2) else ({ d.write (d.rec_.tryIt ⟨d.job.to_, d.job.size, d.job.new_⟩) false with busy := false, job := Pat.zero, done := 0 }, 0) := by
  unfold devFinish; rw [if_neg (by omega)]; rfl
 have HD := hD hdef
 have K4 := hD (fun gd w h1 h2 => actsWrite_calls d L (d.rec_.tryIt ⟨d.job.to_, d.job.size, d.job.new_⟩) false gd w hok.cops h1 h2)
 generalize devFinish d false = res at *
 clear hrec hrd hok hdef
 generalize d.rec_ = r at *
 go_enter Tryz.func19, Tryz.ntmps19
 go_wp2_with fail
 refine (KN.out _).mono ?_
 rintro e w1 ⟨rfl, hb⟩
 obtain ⟨a0r, a0f, a0n, a0c, a0z, a0l⟩ := kp (w.heap.size) (devA d L) hb
 obtain ⟨a1r, a1f, a1n, a1c, a1z, a1l⟩ := kp (w.heap.size + 1) (#[iv 7, iv n]) hb
 obtain ⟨a3r, a3f, a3n, a3c, a3z, a3l⟩ := kp (w.heap.size + 1 + 1 + 1) (devA Dev.zero DLoc.zero) hb
 obtain ⟨a4r, a4f, a4n, a4c, a4z, a4l⟩ := kp (w.heap.size + 1 + 1 + 1 + 1) (#[.func (Fn.func 51) #[] #[]]) hb
 have HB1 : Hid (Below w.heap.size w w1) := hD (((((((Below.refl w.heap.size w).alloc (Nat.le_refl _) (.cells (devA d L) 37)).alloc (by simp) (.cells #[iv 7, iv n] 55)).alloc (by simp; omega) (.cells (chkA f t m o B bl bc) 39)).alloc (by simp; omega) (.cells (devA Dev.zero DLoc.zero) 37)).alloc (by simp; omega) _).trans (hb.mono (by simp; omega)))
 clear hb
 by_cases c1 : d.busy = false ∨ d.done < d.job.size
 ·have hz := HD.out.trans (if_pos c1)
  subst hz
  clear HD K4 KN hact
  cases c2 : d.busy
  case false =>
   go_wp2_with fail
   refine (actsBad_calls 5 _).mono ?_
   rintro e wz ⟨rfl, hb⟩
   obtain ⟨z3r, z3f, z3n, z3c, z3z, z3l⟩ := kp (w.heap.size + 1 + 1 + 1) (devA Dev.zero DLoc.zero) hb
   have HBZ : Hid (Below w.heap.size w wz) := hD (by
    refine Below.trans ?_ (hb.mono (by have := HB1.out.size; simp; omega))
    have hs := HB1.out.size
    exact x0)
   clear hb
   go_wp2_with fail
   refine bodyPost_ret (rC (devA Dev.zero DLoc.zero)) rfl ⟨DLoc.zero, rfl, fun v _ => DevIn.zero v, ?_⟩
   have hs := HBZ.out.size
   exact x0
  case true =>
   have q : d.done < d.job.size := c1.resolve_left (by rw [c2]; decide)
   clear c1
   go_wp2_with fail
   refine (actsBad_calls 5 _).mono ?_
   rintro e wz ⟨rfl, hb⟩
   obtain ⟨z3r, z3f, z3n, z3c, z3z, z3l⟩ := kp (w.heap.size + 1 + 1 + 1) (devA Dev.zero DLoc.zero) hb
   have HBZ : Hid (Below w.heap.size w wz) := hD (by
    refine Below.trans ?_ (hb.mono (by have := HB1.out.size; simp; omega))
    have hs := HB1.out.size
    exact x0)
   clear hb
   go_wp2_with fail
   refine bodyPost_ret (rC (devA Dev.zero DLoc.zero)) rfl ⟨DLoc.zero, rfl, fun v _ => DevIn.zero v, ?_⟩
   have hs := HBZ.out.size
   exact x0
 have c2 : d.busy = true := by cases h : d.busy; exact absurd (.inl h) c1; rfl
 have q : ¬ d.done < d.job.size := fun h => c1 (.inr h)
 have HD2 := hD (HD.out.trans (if_neg c1))
 obtain ⟨a, ha⟩ : ∃ a : Nat, r.active = (a : Int) := ⟨r.active.toNat, by omega⟩
 obtain ⟨a', haa⟩ : ∃ a' : Nat, a + a' = 1 := ⟨1 - a, by omega⟩
 have hsp := splice_tryIt r ⟨d.job.to_, d.job.size, d.job.new_⟩ ha haa
 generalize r.tryIt ⟨d.job.to_, d.job.size, d.job.new_⟩ = r2 at *
 have hle : 5 + a' * 3 + 3 <= 11 := by omega
 have hw1 : IntKind.i64.wrap ((1 : Int) - (a : Int)) = (a' : Int) := by rw [IntWalk.i64_in _ (by omega)]; omega
 have i1 : (0 : Int) <= (a' : Int) := by omega
 have i2 : (a' : Int) < 2 := by omega
 have i3 : ¬ (2 : Int) <= (a' : Int) := by omega
 clear c1 HD KN hu hact
 go_upto_region 54 with fail
 obtain ⟨w2, hw2⟩ : ∃ w2, w1.alloc (.cells (recA r2) 28) = w2 := ⟨_, rfl⟩
 have hb : Below w1.heap.size w1 w2 := by rw [← hw2]; exact (Below.refl _ _).alloc (Nat.le_refl _) _
 have hrr : rowOf w2 w1.heap.size = recA r2 ∧ frOf w2 w1.heap.size = (0, 0) := by rw [← hw2]; exact ⟨by rw [rowOf_alloc, if_pos rfl], by rw [frOf_alloc, if_pos rfl]⟩
 obtain ⟨a0r, a0f, a0n, a0c, a0z, a0l⟩ := keep1 (g := w.heap.size) (cs := devA d L) hb a0r (by go_simp) a0f
 obtain ⟨a1r, a1f, a1n, a1c, a1z, a1l⟩ := keep1 (g := w.heap.size + 1) (cs := #[iv 7, iv n]) hb a1r (by go_simp) a1f
 obtain ⟨a3r, a3f, a3n, a3c, a3z, a3l⟩ := keep1 (g := w.heap.size + 1 + 1 + 1) (cs := devA Dev.zero DLoc.zero) hb a3r (by go_simp) a3f
 obtain ⟨a4r, a4f, a4n, a4c, a4z, a4l⟩ := keep1 (g := w.heap.size + 1 + 1 + 1 + 1) (cs := #[.func (Fn.func 51) #[] #[]]) hb a4r (by go_simp) a4f
 obtain ⟨r0r, r0f, r0n, r0c, r0z, r0l⟩ := keep1 (Below.refl w2.heap.size w2) hrr.1 (by simp [recA]) hrr.2
 have HB2 := bT HB1 hb
 rw [hw2]
 clear hw2 hb hrr hsp hle hw1 i1 i2 i3 ha haa HB1
 go_wp2_with fail
 refine (K4.out _ _ (by go_simp) (by go_simp)).mono ?_
 rintro e w3 ⟨wa, wb, rfl, hba, hwb, hbb⟩
 obtain ⟨a3r, a3f, a3n, a3c, a3z, a3l⟩ := kp (w.heap.size + 1 + 1 + 1) (devA Dev.zero DLoc.zero) hba
 obtain ⟨a4r, a4f, a4n, a4c, a4z, a4l⟩ := kp (w.heap.size + 1 + 1 + 1 + 1) (#[.func (Fn.func 51) #[] #[]]) hba
 obtain ⟨a0r, a0f, a0n, a0c, a0z, a0l⟩ := kp (w.heap.size) (devA d L) hba
 obtain ⟨a1r, a1f, a1n, a1c, a1z, a1l⟩ := kp (w.heap.size + 1) (#[iv 7, iv n]) hba
 have HBa : Hid (Below w.heap.size w wa) := hD (by
  refine Below.trans ?_ (hba.mono (by have := HB2.out.size; simp; omega))
  have hs := HB2.out.size
  exact x0)
 clear hba
 obtain ⟨e4, he4⟩ : ∃ e4, (recWrite d.c0 d.c1 r2 false).2 = e4 := ⟨_, rfl⟩
 rw [he4] at hwb HD2 ⊢
 clear he4 K4
 by_cases c5 : e4 ≠ 0
 ·rw [if_neg c5] at hwb
  subst hwb
  obtain ⟨b1r, b1f, b1n, b1c, b1z, b1l⟩ := kp (w.heap.size + 1) (#[iv 7, iv n]) hbb
  obtain ⟨b3r, b3f, b3n, b3c, b3z, b3l⟩ := kp (w.heap.size + 1 + 1 + 1) (devA Dev.zero DLoc.zero) hbb
  obtain ⟨b4r, b4f, b4n, b4c, b4z, b4l⟩ := kp (w.heap.size + 1 + 1 + 1 + 1) (#[.func (Fn.func 51) #[] #[]]) hbb
  obtain ⟨b0r, b0f, b0n, b0c, b0z, b0l⟩ := kp (w.heap.size) (devA d L) hbb
  have HB3 := bT HBa hbb
  have hz := HD2.out.trans (if_pos c5)
  subst hz
  have KD := hD (fun gb gd w h1 h2 => actsDone_bad e4 gb gd w c5 h1 h2)
  clear hbb c5
  go_wp2_with fail
  refine (KD.out _ _ _ (by go_simp) (by go_simp)).mono ?_
  rintro e w5 ⟨rfl, hb⟩
  obtain ⟨e3r, e3f, e3n, e3c, e3z, e3l⟩ := kp (w.heap.size + 1 + 1 + 1) (devA Dev.zero DLoc.zero) hb
  have HB5 : Hid (Below w.heap.size w w5) := hD (by
   refine Below.trans ?_ (hb.mono (by have := HB3.out.size; simp; omega))
   have hs := HB3.out.size
   exact x0)
  clear hb
  go_wp2_with fail
  refine bodyPost_ret (rC (devA Dev.zero DLoc.zero)) rfl ⟨DLoc.zero, rfl, fun v _ => DevIn.zero v, ?_⟩
  have hs := HB5.out.size
  exact x0
 have c5 := Decidable.not_not.1 c5
 subst c5
 rw [if_pos rfl] at hwb
 subst hwb
 have hz := HD2.out.trans (if_neg (by decide))
 subst hz
 have hin : ∀ v, DevIn v d L -> DevIn v { d.write r2 false with busy := false, job := Pat.zero, done := 0 } { L with aj := none, cj := 0 } := fun v h => ⟨h.k0, h.l0, h.b0, h.k1, h.l1, h.b1, h.kg, h.lg, h.got, pat_in_zero v, h.ir, i64_0⟩
 have HIN := hD hin
 clear hin HD2
 generalize d.write r2 false = d2 at *
 obtain ⟨b1r, b1f, b1n, b1c, b1z, b1l⟩ := kp (w.heap.size + 1) (#[iv 7, iv n]) hbb
 obtain ⟨b3r, b3f, b3n, b3c, b3z, b3l⟩ := kp (w.heap.size + 1 + 1 + 1) (devA Dev.zero DLoc.zero) hbb
 obtain ⟨b4r, b4f, b4n, b4c, b4z, b4l⟩ := kp (w.heap.size + 1 + 1 + 1 + 1) (#[.func (Fn.func 51) #[] #[]]) hbb
 obtain ⟨b0r, b0f, b0n, b0c, b0z, b0l⟩ := kp (w.heap.size) (devA d2 L) hbb
 have HB3 : Hid (Below w.heap.size w w3) := hD ((below_row HBa.out (by omega) _).trans (hbb.mono (by have := HBa.out.size; simp; omega)))
 clear hbb
 go_wp2_with fail
 refine (actsDone_ok { d2 with busy := false, job := Pat.zero, done := 0 } { L with aj := none, cj := 0 } _ _ _ (by first | (go_simp; done) | (go_simp; rfl)) (by go_simp)).mono ?_
 rintro e w5 ⟨rfl, hb⟩
 obtain ⟨e3r, e3f, e3n, e3c, e3z, e3l⟩ := kp (w.heap.size + 1 + 1 + 1) (devA Dev.zero DLoc.zero) hb
 have HB5 : Hid (Below w.heap.size w w5) := hD (by
  refine Below.trans ?_ (hb.mono (by have := HB3.out.size; simp; omega))
  have hs := HB3.out.size
  exact x0)
 clear hb
 go_wp2_with fail
 refine bodyPost_ret (rC (devA { d2 with busy := false, job := Pat.zero, done := 0 } { L with aj := none, cj := 0 })) rfl ⟨{ L with aj := none, cj := 0 }, rfl, HIN.out, ?_⟩
 have hs := HB5.out.size
 exact x0
theorem acts_finish12 (d : Dev) (L : DLoc) (n f t m o : Int) (B : Option Addr) (bl bc : Nat) (w : World) (hok : DevOk d) (hu : d.up = true) : Calls Tryz.prog 19 #[.agg (devA d L), .agg #[iv 12, iv n], .agg (chkA f t m o B bl bc)] w (ActRet w d L (devFinish d true).1 (devFinish d true).2) := by
 have hrec := rec_ok hok
 have hrd : devReady d = 0 := by unfold devReady; rw [if_neg (by simpa using devCheck_ok.2 hok), if_neg (by rw [hu]; decide)]
 have KN := hD (fun w => newest_calls d.c0 d.c1 w)
 rw [refNewest_ok hok.cops] at KN
 obtain ⟨rk, hrk⟩ : ∃ rk, (recRead d.c0 d.c1).2 = rk := ⟨_, rfl⟩
 have hre : (recRead d.c0 d.c1).1 = d.rec_ := rfl
 rw [hrk, hre] at KN
 clear hrk hre
 have hact := rec_active hrec
 have hdef : devFinish d true = if d.busy = false ∨ d.done < d.job.size then (Dev.zero, 5) else if (recWrite d.c0 d.c1 (d.rec_.tryIt ⟨d.job.to_, d.job.size, d.job.new_⟩) true).2 ≠ 0 then (Dev.zero, (recWrite d.c0 d.c1 (d.rec_.tryIt ⟨d.job.to_, d.job.size, d.job.new_⟩) true).2) else (Dev.down { d.write (d.rec_.tryIt ⟨d.job.to_, d.job.size, d.job.new_⟩) true with busy := false, job := Pat.zero, done := 0 }, 0) := by
  unfold devFinish; rw [if_neg (by omega)]; rfl
 have HD := hD hdef
 have K4 := hD (fun gd w h1 h2 => actsWrite_calls d L (d.rec_.tryIt ⟨d.job.to_, d.job.size, d.job.new_⟩) true gd w hok.cops h1 h2)
 generalize devFinish d true = res at *
 clear hrec hrd hok hdef
 generalize d.rec_ = r at *
 go_enter Tryz.func19, Tryz.ntmps19
 go_wp2_with fail
 refine (KN.out _).mono ?_
 rintro e w1 ⟨rfl, hb⟩
 obtain ⟨a0r, a0f, a0n, a0c, a0z, a0l⟩ := kp (w.heap.size) (devA d L) hb
 obtain ⟨a1r, a1f, a1n, a1c, a1z, a1l⟩ := kp (w.heap.size + 1) (#[iv 12, iv n]) hb
 obtain ⟨a3r, a3f, a3n, a3c, a3z, a3l⟩ := kp (w.heap.size + 1 + 1 + 1) (devA Dev.zero DLoc.zero) hb
 obtain ⟨a4r, a4f, a4n, a4c, a4z, a4l⟩ := kp (w.heap.size + 1 + 1 + 1 + 1) (#[.func (Fn.func 51) #[] #[]]) hb
 have HB1 : Hid (Below w.heap.size w w1) := hD (((((((Below.refl w.heap.size w).alloc (Nat.le_refl _) (.cells (devA d L) 37)).alloc (by simp) (.cells #[iv 12, iv n] 55)).alloc (by simp; omega) (.cells (chkA f t m o B bl bc) 39)).alloc (by simp; omega) (.cells (devA Dev.zero DLoc.zero) 37)).alloc (by simp; omega) _).trans (hb.mono (by simp; omega)))
 clear hb
 by_cases c1 : d.busy = false ∨ d.done < d.job.size
 ·have hz := HD.out.trans (if_pos c1)
  subst hz
  clear HD K4 KN hact
  cases c2 : d.busy
  case false =>
   go_wp2_with fail
   refine (actsBad_calls 5 _).mono ?_
   rintro e wz ⟨rfl, hb⟩
   obtain ⟨z3r, z3f, z3n, z3c, z3z, z3l⟩ := kp (w.heap.size + 1 + 1 + 1) (devA Dev.zero DLoc.zero) hb
   have HBZ : Hid (Below w.heap.size w wz) := hD (by
    refine Below.trans ?_ (hb.mono (by have := HB1.out.size; simp; omega))
    have hs := HB1.out.size
    exact x0)
   clear hb
   go_wp2_with fail
   refine bodyPost_ret (rC (devA Dev.zero DLoc.zero)) rfl ⟨DLoc.zero, rfl, fun v _ => DevIn.zero v, ?_⟩
   have hs := HBZ.out.size
   exact x0
  case true =>
   have q : d.done < d.job.size := c1.resolve_left (by rw [c2]; decide)
   clear c1
   go_wp2_with fail
   refine (actsBad_calls 5 _).mono ?_
   rintro e wz ⟨rfl, hb⟩
   obtain ⟨z3r, z3f, z3n, z3c, z3z, z3l⟩ := kp (w.heap.size + 1 + 1 + 1) (devA Dev.zero DLoc.zero) hb
   have HBZ : Hid (Below w.heap.size w wz) := hD (by
    refine Below.trans ?_ (hb.mono (by have := HB1.out.size; simp; omega))
    have hs := HB1.out.size
    exact x0)
   clear hb
   go_wp2_with fail
   refine bodyPost_ret (rC (devA Dev.zero DLoc.zero)) rfl ⟨DLoc.zero, rfl, fun v _ => DevIn.zero v, ?_⟩
   have hs := HBZ.out.size
   exact x0
 have c2 : d.busy = true := by cases h : d.busy; exact absurd (.inl h) c1; rfl
 have q : ¬ d.done < d.job.size := fun h => c1 (.inr h)
 have HD2 := hD (HD.out.trans (if_neg c1))
 obtain ⟨a, ha⟩ : ∃ a : Nat, r.active = (a : Int) := ⟨r.active.toNat, by omega⟩
 obtain ⟨a', haa⟩ : ∃ a' : Nat, a + a' = 1 := ⟨1 - a, by omega⟩
 have hsp := splice_tryIt r ⟨d.job.to_, d.job.size, d.job.new_⟩ ha haa
 generalize r.tryIt ⟨d.job.to_, d.job.size, d.job.new_⟩ = r2 at *
 have hle : 5 + a' * 3 + 3 <= 11 := by omega
 have hw1 : IntKind.i64.wrap ((1 : Int) - (a : Int)) = (a' : Int) := by rw [IntWalk.i64_in _ (by omega)]; omega
 have i1 : (0 : Int) <= (a' : Int) := by omega
 have i2 : (a' : Int) < 2 := by omega
 have i3 : ¬ (2 : Int) <= (a' : Int) := by omega
 clear c1 HD KN hu hact
 go_upto_region 54 with fail
 obtain ⟨w2, hw2⟩ : ∃ w2, w1.alloc (.cells (recA r2) 28) = w2 := ⟨_, rfl⟩
 have hb : Below w1.heap.size w1 w2 := by rw [← hw2]; exact (Below.refl _ _).alloc (Nat.le_refl _) _
 have hrr : rowOf w2 w1.heap.size = recA r2 ∧ frOf w2 w1.heap.size = (0, 0) := by rw [← hw2]; exact ⟨by rw [rowOf_alloc, if_pos rfl], by rw [frOf_alloc, if_pos rfl]⟩
 obtain ⟨a0r, a0f, a0n, a0c, a0z, a0l⟩ := keep1 (g := w.heap.size) (cs := devA d L) hb a0r (by go_simp) a0f
 obtain ⟨a1r, a1f, a1n, a1c, a1z, a1l⟩ := keep1 (g := w.heap.size + 1) (cs := #[iv 12, iv n]) hb a1r (by go_simp) a1f
 obtain ⟨a3r, a3f, a3n, a3c, a3z, a3l⟩ := keep1 (g := w.heap.size + 1 + 1 + 1) (cs := devA Dev.zero DLoc.zero) hb a3r (by go_simp) a3f
 obtain ⟨a4r, a4f, a4n, a4c, a4z, a4l⟩ := keep1 (g := w.heap.size + 1 + 1 + 1 + 1) (cs := #[.func (Fn.func 51) #[] #[]]) hb a4r (by go_simp) a4f
 obtain ⟨r0r, r0f, r0n, r0c, r0z, r0l⟩ := keep1 (Below.refl w2.heap.size w2) hrr.1 (by simp [recA]) hrr.2
 have HB2 := bT HB1 hb
 rw [hw2]
 clear hw2 hb hrr hsp hle hw1 i1 i2 i3 ha haa HB1
 go_wp2_with fail
 refine (K4.out _ _ (by go_simp) (by go_simp)).mono ?_
 rintro e w3 ⟨wa, wb, rfl, hba, hwb, hbb⟩
 obtain ⟨a3r, a3f, a3n, a3c, a3z, a3l⟩ := kp (w.heap.size + 1 + 1 + 1) (devA Dev.zero DLoc.zero) hba
 obtain ⟨a4r, a4f, a4n, a4c, a4z, a4l⟩ := kp (w.heap.size + 1 + 1 + 1 + 1) (#[.func (Fn.func 51) #[] #[]]) hba
 obtain ⟨a0r, a0f, a0n, a0c, a0z, a0l⟩ := kp (w.heap.size) (devA d L) hba
 obtain ⟨a1r, a1f, a1n, a1c, a1z, a1l⟩ := kp (w.heap.size + 1) (#[iv 12, iv n]) hba
 have HBa : Hid (Below w.heap.size w wa) := hD (by
  refine Below.trans ?_ (hba.mono (by have := HB2.out.size; simp; omega))
  have hs := HB2.out.size
  exact x0)
 clear hba
 obtain ⟨e4, he4⟩ : ∃ e4, (recWrite d.c0 d.c1 r2 true).2 = e4 := ⟨_, rfl⟩
 rw [he4] at hwb HD2 ⊢
 clear he4 K4
 by_cases c5 : e4 ≠ 0
 ·rw [if_neg c5] at hwb
  subst hwb
  obtain ⟨b1r, b1f, b1n, b1c, b1z, b1l⟩ := kp (w.heap.size + 1) (#[iv 12, iv n]) hbb
  obtain ⟨b3r, b3f, b3n, b3c, b3z, b3l⟩ := kp (w.heap.size + 1 + 1 + 1) (devA Dev.zero DLoc.zero) hbb
  obtain ⟨b4r, b4f, b4n, b4c, b4z, b4l⟩ := kp (w.heap.size + 1 + 1 + 1 + 1) (#[.func (Fn.func 51) #[] #[]]) hbb
  obtain ⟨b0r, b0f, b0n, b0c, b0z, b0l⟩ := kp (w.heap.size) (devA d L) hbb
  have HB3 := bT HBa hbb
  have hz := HD2.out.trans (if_pos c5)
  subst hz
  have KD := hD (fun gb gd w h1 h2 => actsDone_bad e4 gb gd w c5 h1 h2)
  clear hbb c5
  go_wp2_with fail
  refine (without_calls _ _ _).mono ?_
  rintro e w4 ⟨rfl, hb⟩
  obtain ⟨c0r, c0f, c0n, c0c, c0z, c0l⟩ := kp (w.heap.size) (devA { d with busy := false, done := 0 } L) hb
  obtain ⟨c3r, c3f, c3n, c3c, c3z, c3l⟩ := kp (w.heap.size + 1 + 1 + 1) (devA Dev.zero DLoc.zero) hb
  obtain ⟨c4r, c4f, c4n, c4c, c4z, c4l⟩ := kp (w.heap.size + 1 + 1 + 1 + 1) (#[.func (Fn.func 51) #[] #[]]) hb
  have HB3 : Hid (Below w.heap.size w w4) := hD (by
   refine Below.trans ?_ (hb.mono (by have := HB3.out.size; simp; omega))
   have hs := HB3.out.size
   exact x0)
  clear hb
  go_wp2_with fail
  refine (KD.out _ _ _ (by go_simp) (by go_simp)).mono ?_
  rintro e w5 ⟨rfl, hb⟩
  obtain ⟨e3r, e3f, e3n, e3c, e3z, e3l⟩ := kp (w.heap.size + 1 + 1 + 1) (devA Dev.zero DLoc.zero) hb
  have HB5 : Hid (Below w.heap.size w w5) := hD (by
   refine Below.trans ?_ (hb.mono (by have := HB3.out.size; simp; omega))
   have hs := HB3.out.size
   exact x0)
  clear hb
  go_wp2_with fail
  refine bodyPost_ret (rC (devA Dev.zero DLoc.zero)) rfl ⟨DLoc.zero, rfl, fun v _ => DevIn.zero v, ?_⟩
  have hs := HB5.out.size
  exact x0
 have c5 := Decidable.not_not.1 c5
 subst c5
 rw [if_pos rfl] at hwb
 subst hwb
 have hz := HD2.out.trans (if_neg (by decide))
 subst hz
 have hin : ∀ v, DevIn v d L -> DevIn v (Dev.down { d.write r2 true with busy := false, job := Pat.zero, done := 0 }) L.down := fun v h => (show DevIn v (Dev.down (d.write r2 true)) L.down from DevIn.down (d := d.write r2 true) ⟨h.k0, h.l0, h.b0, h.k1, h.l1, h.b1, h.kg, h.lg, h.got, h.job, h.ir, h.id⟩)
 have HIN := hD hin
 clear hin HD2
 generalize d.write r2 true = d2 at *
 obtain ⟨b1r, b1f, b1n, b1c, b1z, b1l⟩ := kp (w.heap.size + 1) (#[iv 12, iv n]) hbb
 obtain ⟨b3r, b3f, b3n, b3c, b3z, b3l⟩ := kp (w.heap.size + 1 + 1 + 1) (devA Dev.zero DLoc.zero) hbb
 obtain ⟨b4r, b4f, b4n, b4c, b4z, b4l⟩ := kp (w.heap.size + 1 + 1 + 1 + 1) (#[.func (Fn.func 51) #[] #[]]) hbb
 obtain ⟨b0r, b0f, b0n, b0c, b0z, b0l⟩ := kp (w.heap.size) (devA d2 L) hbb
 have HB3 : Hid (Below w.heap.size w w3) := hD ((below_row HBa.out (by omega) _).trans (hbb.mono (by have := HBa.out.size; simp; omega)))
 clear hbb
 go_wp2_with fail
 refine (without_calls _ _ _).mono ?_
 rintro e w4 ⟨rfl, hb⟩
 obtain ⟨c0r, c0f, c0n, c0c, c0z, c0l⟩ := kp (w.heap.size) (devA { d2 with busy := false, done := 0 } L) hb
 obtain ⟨c3r, c3f, c3n, c3c, c3z, c3l⟩ := kp (w.heap.size + 1 + 1 + 1) (devA Dev.zero DLoc.zero) hb
 obtain ⟨c4r, c4f, c4n, c4c, c4z, c4l⟩ := kp (w.heap.size + 1 + 1 + 1 + 1) (#[.func (Fn.func 51) #[] #[]]) hb
 have HB3 : Hid (Below w.heap.size w w4) := hD (by
  refine Below.trans ?_ (hb.mono (by have := HB3.out.size; simp; omega))
  have hs := HB3.out.size
  exact x0)
 clear hb
 go_wp2_with fail
 refine (actsDone_ok (Dev.down { d2 with busy := false, job := Pat.zero, done := 0 }) L.down _ _ _ (by first | (go_simp; done) | (go_simp; rfl)) (by go_simp)).mono ?_
 rintro e w5 ⟨rfl, hb⟩
 obtain ⟨e3r, e3f, e3n, e3c, e3z, e3l⟩ := kp (w.heap.size + 1 + 1 + 1) (devA Dev.zero DLoc.zero) hb
 have HB5 : Hid (Below w.heap.size w w5) := hD (by
  refine Below.trans ?_ (hb.mono (by have := HB3.out.size; simp; omega))
  have hs := HB3.out.size
  exact x0)
 clear hb
 go_wp2_with fail
 refine bodyPost_ret (rC (devA (Dev.down { d2 with busy := false, job := Pat.zero, done := 0 }) L.down)) rfl ⟨L.down, rfl, HIN.out, ?_⟩
 have hs := HB5.out.size
 exact x0
theorem x222 {p : Prop} (h : p := by
 have e9 := fO 9 (.slice (some ⟨g, 0, none⟩) n n) h
 exact mx_move (ch_ev e9)) : p := h
def filledR (x : UInt8) (k : Nat) (R : List Value) : List Value := List.replicate k (bv x) ++ R.drop k
theorem filledR_len (x : UInt8) (h : k <= R.length) : (filledR x k R).length = R.length := by unfold filledR; simp; omega
theorem filledR_zero (x : UInt8) (R : List Value) : filledR x 0 R = R := by simp [filledR]
theorem filledR_more (x : UInt8) {m : Nat} (h : k + m <= R.length) : Go.splice (filledR x k R) k (List.replicate m (bv x)) = filledR x (k + m) R := by
 unfold filledR Go.splice
 rw [List.take_append_of_le_length (by simp), List.length_replicate, List.drop_append, List.length_replicate, List.take_of_length_le (by simp), List.drop_eq_nil_of_le (by simp), List.nil_append, ← List.append_assoc, List.replicate_append_replicate, List.drop_drop]
 congr 2; omega
theorem filledR_at (x : UInt8) {j : Nat} (h : j < k) : (filledR x k R)[j]? = some (bv x) := by
 unfold filledR; rw [List.getElem?_append_left (by simpa using h), List.getElem?_replicate]; simp [h]
def rbJ (wo : World) (g : Nat) (x : UInt8) (k m : Nat) (R : List Value) (done : Nat -> Bool) (cv : Nat -> Value) (w : World) : Prop :=
 if done 7 = true then cv 7 = .int .i64 (m : Int) ∧ w.heap[g]? = some (.cells (filledR x (k + m) R).toArray 5 (0, 0)) ∧ Below g wo w else w = wo.drew
def BsRet (w : World) (l : List UInt8) : Ending -> World -> Prop := fun en w' => ∃ A c, en = .returned (.slice A l.length c) ∧ l.length <= c ∧ Bts w' A l ∧ Below w.heap.size w w'
theorem bts_filledR {w : World} {g n : Nat} {x : UInt8} (h : w.heap[g]? = some (.cells (filledR x n R).toArray 5 (0, 0))) : Bts w (some ⟨g, 0, none⟩) (List.replicate n x) := by
 intro i hi
 rw [List.length_replicate] at hi
 refine ⟨g, 0, rfl, blk_lt h, ?_⟩
 rw [Nat.zero_add, cell_of_row _ _ _ _ _ _ h, List.getElem?_toArray, filledR_at x hi, List.getElem_replicate]
theorem repeatB_calls (A : Option Addr) (c : Nat) (x : UInt8) (n : Nat) (w : World) (hn : 1 <= n) (hn2 : n <= 1000) (hA : Bts w A [x]) :
  Calls Tryz.prog 108 #[.slice A 1 c, iv n] w (BsRet w (List.replicate n x)) := by
 obtain ⟨a, o, rfl, hlt, hc⟩ := hA 0 (by simp)
 simp only [Nat.add_zero, List.getElem_cons_zero] at hc
 have HC := hD hc
 clear hA hc
 have d0 : ((n : Int) == 0) = false := by simp; omega
 have d1 : ¬ (n : Int) < 0 := by omega
 have u1 : IntKind.u64.wrap (n : Int) = (n : Int) := by rw [IntKind.wrap_u64]; omega
 have i1 : IntKind.i64.wrap (n : Int) = (n : Int) := IntWalk.i64_in _ (by omega)
 obtain ⟨cs, hrunM, hle, _⟩ := Lib.run_makeNoZero (P := Tryz.prog) w #[3] 22 5 Tryz.underlying22 n (by omega)
 have hcall : (callFunc 115 #[.int .i64 (n : Int)]).run Tryz.prog w = .ok (.value (.slice (some ⟨w.heap.size, 0, none⟩) n cs.size)) ((w.alloc (.cells cs 5)).drewN 2) := by
  rw [run_callFunc_extern Tryz.func115 (by kernel_rfl) (by kernel_rfl) (by kernel_rfl) (e := Extern.BytealgMakeNoZero.makeNoZero #[3] #[22]) (by kernel_rfl), hrunM]
  rfl
 clear hrunM
 have s1 : (n : Int) <= (cs.size : Int) := by omega
 have s0 : (0 : Int) <= (n : Int) := by omega
 have s2 : decide ((8192 : Int) < (n : Int)) = false := by simp; omega
 go_enter Tryz.func108, Tryz.ntmps108
 go_wp2_with fail
 refine (mul1_calls n w (by omega)).mono ?_
 rintro e w1 ⟨rfl, rfl⟩
 have d2 : decide ((9223372036854775807 : Int) < (n : Int)) = false := by simp; omega
 have hb0 : Below w.heap.size w ((w.alloc (.cells cs 5)).drewN 2) := Below.drewN' ((Below.refl _ _).alloc (Nat.le_refl _) _) 2
 have hg0 : ((w.alloc (.cells cs 5)).drewN 2).heap[w.heap.size]? = some (.cells cs 5 (0, 0)) := blk_top rfl
 have hca := (hb0.cell (p := ⟨a, o, none⟩) hlt).trans HC.out
 obtain ⟨R, hR⟩ : ∃ R, R = cs.toList := ⟨_, rfl⟩
 have hcs : cs = R.toArray := by rw [hR, Array.toArray_toList]
 have hRl : n <= R.length := by rw [hR]; simpa using hle
 have hcp : (Builtin.copy_ #[22, 22] 3 #[.slice (some ⟨w.heap.size, 0, none⟩) n n, .slice (some ⟨a, o, none⟩) 1 c]).run Tryz.prog ((w.alloc (.cells cs 5)).drewN 2) = .ok (.int .i64 1) (((w.alloc (.cells cs 5)).drewN 2).setRow w.heap.size (filledR x 1 R).toArray) := by
  have := run_copy_row (P := Tryz.prog) ((w.alloc (.cells cs 5)).drewN 2) 22 22 3 5 w.heap.size 0 n n ⟨a, o, none⟩ 1 c cs 5 [bv x] Tryz.underlying22 (by kernel_rfl) hg0 (by simp [Nat.min_def]; omega)
   (fun j v hv => by
     obtain ⟨hj, rfl⟩ := List.getElem?_eq_some_iff.1 hv
     have e0 : j = 0 := by simp at hj; omega
     subst e0
     simpa [Addr.add] using hca) (by simp; omega) (by simp [Value.oneCell'])
  rw [this]
  have e := filledR_more x (k := 0) (m := 1) (R := R) (by omega)
  unfold Go.splice at e
  rw [filledR_zero] at e
  simp only [Nat.zero_add] at e ⊢
  rw [show (List.replicate 1 (bv x)) = [bv x] from rfl] at e
  rw [← hR, List.append_assoc, e]
  rfl
 have hf2 : Hid ((((w.alloc (.cells cs 5)).drewN 2).setRow w.heap.size (filledR x 1 R).toArray).heap[w.heap.size]? = some (.cells (filledR x 1 R).toArray 5 (0, 0))) := hD (setRow_heap _ _ _ _ _ _ hg0)
 have HB2 : Hid (Below w.heap.size w (((w.alloc (.cells cs 5)).drewN 2).setRow w.heap.size (filledR x 1 R).toArray)) := hD (below_row hb0 (Nat.le_refl _) _)
 clear hg0 hb0 hca hR hcs
 go_wp2_with fail
 clear hcp hcall
 generalize ((w.alloc (.cells cs 5)).drewN 2).setRow w.heap.size (filledR x 1 R).toArray = w2 at *
 generalize hgg : w.heap.size = g at *
 go_loopw [10] (fun y wr => ∃ (k : Nat), y = .int .i64 (k : Int) ∧ 1 <= k ∧ k <= n ∧ Hid (wr.heap[g]? = some (.cells (filledR x k R).toArray 5 (0, 0))) ∧ Hid (Below g w wr)) (fun y _ => n - (intOf y).toNat)
 case atStart => exact ⟨1, rfl, by omega, hn, hf2, HB2⟩
 case round =>
  rename World => wo
  obtain ⟨k, rfl, hk1, hkn, HF, HB⟩ := hrel
  by_cases hlt : k < n
  ·obtain ⟨m, hm⟩ : ∃ m, m = Nat.min k (n - k) := ⟨_, rfl⟩
   have hm1 : 1 <= m ∧ k + m <= n := by rw [hm]; simp only [Nat.min_def]; split <;> omega
   have HM := hD hm
   have HMK : Hid ((k : Int) <= (n : Int)) := hD (by omega)
   have HMK2 : Hid (m <= k) := hD (by rw [hm]; exact Nat.min_le_left _ _)
   have HMN : Hid (k + m <= R.length) := hD (by omega)
   have HK : Hid (k <= R.length) := hD (by omega)
   have HNK : Hid (¬ n = k) := hD (by omega)
   have HKN : Hid ((k : Int) <= (n : Int)) := hD (by omega)
   have HI : Hid (IntKind.i64.wrap ((k : Int) + (m : Int)) = (k : Int) + (m : Int)) := hD (IntWalk.i64_in _ (by omega))
   have dk : decide ((k : Int) < (n : Int)) = true := by simp; omega
   have dm : min (k : Int) (n : Int) = (k : Int) := by omega
   clear hm hf2 HB2
   go_wp2_with fail
   refine wp_region_free (by kernel_rfl) (some 67 :: some 68 :: some 69 :: some 70 :: some 71 :: some 72 :: some 73 :: some 74 :: some 75 :: some 10 :: []) (false :: false :: false :: false :: false :: false :: false :: true :: false :: false :: []) (.int .i64 ((k : Nat) : Int) :: .slice (some ⟨g, 0, none⟩) n n :: .int .i64 ((k : Nat) : Int) :: .slice (some ⟨g, (k : Nat), none⟩) (n - k) (n - k) :: .slice (some ⟨g, 0, none⟩) n n :: .int .i64 ((k : Nat) : Int) :: .slice (some ⟨g, 0, none⟩) k n :: undef :: .int .i64 ((k + m : Nat) : Int) :: .int .i64 ((k + m : Nat) : Int) :: []) (rbJ wo g x k m R) 77 rfl rfl (by decide +kernel) (by decide +kernel) (by decide +kernel) rfl rfl (by rw [rbJ, if_neg (by simp)]) ?_ ?_
   ·refine ⟨?_, ?_, ?_, ?_, ?_, ?_, ?_, ?_, ?_, ?_, trivial⟩
    all_goals intro done cv a wq hn hw hcl h hJ
    ·have e10 := fr_un (t := 10) (i := 0) (i0 := 9) (v := .int .i64 ((k : Nat) : Int)) h hcl hn rfl (by decide) (by decide) rfl
     exact mx_move (ch_ev e10)
    ·exact x222
    ·have e10 := fr_un (t := 10) (i := 2) (i0 := 9) (v := .int .i64 ((k : Nat) : Int)) h hcl hn rfl (by decide) (by decide) rfl
     exact mx_move (ch_ev e10)
    ·have e68 := fN 1 68 h hw; have e69 := fN 2 69 h hw
     have hnk := HNK.out
     have hkn := HKN.out
     go_simp
    ·exact x222
    ·have e11 := fO 11 (.int .i64 ((k : Nat) : Int)) h
     exact mx_move (ch_ev e11)
    ·have e71 := fN 4 71 h hw; have e72 := fN 5 72 h hw
     exact x227
    ·have e70 := fN 3 70 h hw; have e73 := fN 6 73 h hw
     have hd : ¬ maskB [false, false, false, false, false, false, false, true, false, false] done 7 = true := by unfold maskB; rw [hn]; simp
     rw [rbJ, if_neg hd] at hJ
     obtain rfl : wq = wo.drew := hJ
     refine wp_copy rfl (.tmp 70) (.tmp 73) 22 22 rfl 5 Tryz.underlying22 (by kernel_rfl) _ _ _ _ _ _ (ch_ev e70) (ch_ev e73) g k (filledR x k R) 5 HF.out (List.replicate m (bv x)) (by rw [List.length_replicate]; exact HM.out) (fun _ => ⟨rfl, _, rfl, fun j v hv => ?_⟩) (by rw [filledR_len x HK.out, List.length_replicate]; exact HMN.out) (fun v hv => by rw [List.eq_of_mem_replicate hv]; rfl) g wo ((Below.refl _ _).drew) (Nat.le_refl _) ?_
     ·obtain ⟨hj, rfl⟩ := List.getElem?_eq_some_iff.1 hv
      rw [List.length_replicate] at hj
      have e1 := filledR_at x (R := R) (show j < k by have := HMK2.out; omega)
      exact x118
     intro w' hg' hb'
     rw [filledR_more x HMN.out] at hg'
     exact ⟨_, rfl, by rw [rbJ, if_pos (by simp)]; exact ⟨by simp [goInt], hg', hb'⟩⟩
    ·have e67 := fN 0 67 h hw; have e74 := fr_cv (i := 7) (t := 74) h (hw 7 (by decide)) rfl rfl
     have hd : maskB [false, false, false, false, false, false, false, true, false, false] done 7 = true := by unfold maskB; rw [hw 7 (by decide)]; rfl
     rw [rbJ, if_pos hd] at hJ
     rw [hJ.1] at e74
     have hi := HI.out
     go_simp
    ·have e75 := fN 8 75 h hw
     exact mx_assign (ch_ev e75)
   intro d cv w3 hall hJ
   rw [rbJ, if_pos (hall 7 rfl (by decide))] at hJ
   exact x54
  obtain rfl : k = n := by omega
  have dk : decide ((k : Int) < (k : Int)) = false := by simp
  go_wp2_with fail
  go_ret
  exact ⟨some ⟨g, 0, none⟩, k, by simp, by simp, bts_filledR HF.out, hgg ▸ HB.out⟩
end Go.Proofs.YtefkfglkpebbmacGreat
