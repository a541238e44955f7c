/- Walks of functions, and plain words. No conditions. -/
import Derived.Test.YtefkfglkpebbmacP1
set_option linter.unusedVariables false
set_option linter.unusedSimpArgs false
set_option maxRecDepth 100000
set_option maxHeartbeats 40000000
namespace Go.Proofs.Ytefkfglkpebbmac
open Go.RowKit
variable {w w' : World} {base n g j k : Nat} {A B : Option Addr} {a : Act} {K : Act → World → Prop} {Q : Exit → Act → World → Prop} {v : Value} {t : TypeId} {p : String} {af : Array Edge} {gd : Option (Nat × Bool)}
def ptJ (w0 : World) (base : Nat) (A : Option Addr) (n c : Nat) (xs ns ps : List Value) (i5 i6 i9 i10 : Nat) (done : Nat → Bool) (cv : Nat → Value) (w : World) : Prop :=
 if done i9 = true then (Below base w0 w ∧ ∀ k, k < w0.heap.size → A.map (·.block) ≠ some k → w.heap[k]? = w0.heap[k]?) ∧ ∃ A2 c2, cv i9 = .slice A2 (n + 2 + ps.length) c2 ∧ Own w base 5 1 A2 (n + 2 + ps.length) c2 (xs ++ ns ++ ps) ∧ (done i10 = true → cv i10 = .slice A2 (n + 2 + ps.length) c2)
 else if done i6 = true then (Below base w0 w ∧ ∀ k, k < w0.heap.size → A.map (·.block) ≠ some k → w.heap[k]? = w0.heap[k]?) ∧ ∃ A1 c1, cv i6 = .slice A1 (n + 2) c1 ∧ Own w base 5 1 A1 (n + 2) c1 (xs ++ ns) ∧ (A1.map (·.block) = A.map (·.block) ∨ ∀ k, A1.map (·.block) = some k → w0.heap.size ≤ k)
 else if done i5 = true then (Below base w0 w ∧ ∀ k, k < w0.heap.size → A.map (·.block) ≠ some k → w.heap[k]? = w0.heap[k]?) ∧ Own w base 5 1 A n c xs ∧ ∃ bb, cv i5 = .slice (some ⟨bb, 0, none⟩) 2 2 ∧ w.heap[bb]? = some (.cells ns.toArray 5 (0, 0)) ∧ w0.heap.size ≤ bb
 else w = w0.drew
theorem ptJ_frame {w0 : World} {c i5 i6 i9 i10 : Nat} {xs ns ps : List Value} {done : Nat → Bool} {cv : Nat → Value} (h : ptJ w0 base A n c xs ns ps i5 i6 i9 i10 done cv w) : Below base w0 w ∧ ∀ k, k < w0.heap.size → A.map (·.block) ≠ some k → w.heap[k]? = w0.heap[k]? := by
 unfold ptJ at h
 split at h
 ·exact h.1
 ·split at h
  ·exact h.1
  ·split at h
   ·exact h.1
   ·subst h; exact ⟨(Below.refl _ _).drew, fun _ _ _ => rfl⟩
theorem wp_asg {P : Program} {x : Operand} {d : Option Tmp} {g : Option (Nat × Bool)} (e : a.eval x = v) (h : K (a.put d v) w) : Oper.wp P ⟨d, .assign x, t, p, af, g⟩ a w K Q := by
 unfold Oper.wp
 rw [mx_assign e]
 exact h
theorem wp_sb2i {d r : Tmp} {m : Int} (hr : a.tmps[r]? = some (.int .u8 m))
  (h : K (a.put (some d) (.slice (some ⟨w.heap.size, 0, none⟩) 2 2)) (w.alloc (.cells #[.int .u8 255, .int .u8 m] 5))) :
  Oper.wp Try.prog ⟨some d, .buildSlice 22 2 #[(0, .const (.int .u8 255)), (1, .tmp r)], t, p, af, gd⟩ a w K Q := by
 have e1 : a.eval (.const (.int .u8 255)) = .int .u8 255 := rfl
 have e2 : a.eval (.tmp r) = .int .u8 m := by simp [Act.eval, hr]
 unfold Oper.wp execOp
 simp only [e1, e2, List.map_toArray, List.map_cons, List.map_nil]
 go_simp
 exact h
theorem bts_same {l : List UInt8} (h : Bts w A l) (hk : ∀ k, A.map (·.block) = some k → k < w.heap.size → w'.heap[k]? = w.heap[k]?) : Bts w' A l := by
 intro i hi
 obtain ⟨b, o, rfl, hlt, hc⟩ := h i hi
 have e := hk b rfl hlt
 refine ⟨b, o, rfl, ?_, (World.cell?_of_block e).trans hc⟩
 rcases Nat.lt_or_ge b w'.heap.size with h | h
 ·exact h
 ·rw [Array.getElem?_eq_none h, Array.getElem?_eq_getElem hlt] at e; cases e
theorem own_blk {e : Nat} {cs : List Value} (h : w.heap[g]? = some (.cells cs.toArray e (0, 0))) (hb : base ≤ g) (hl : cs.length = n) (hn : n ≤ 1048576) : Own w base e 1 (some ⟨g, 0, none⟩) n n cs :=
 ⟨by omega, Or.inr ⟨g, n, _, rfl, hb, h, Nat.le_refl _, by unfold maxLen; omega, by simp; omega, by simp [← hl]⟩⟩
theorem bv_by (n : Int) (h : 0 ≤ n ∧ n ≤ 255) : bv (by_ n) = .int .u8 n := by unfold bv; rw [by_small h]
theorem bv_by2 (n : Int) : bv (by_ n) = .int .u8 (n % 256) := by unfold bv; rw [by_toNat]
theorem patPut_bad (B : Option Addr) (d : Nat) (p : Pat) (w : World) (hp : PatIn w p B d) (h : patCheck p ≠ 0) :
  Calls Try.prog 97 #[.agg (patA p.from_ p.to_ p.old p.new_ p.size B p.ops.length d)] w (RetB w (.tuple #[.slice none 0 0, iv (patCheck p)])) := by
 obtain ⟨f, t, o, n, sz, l⟩ := p
 obtain ⟨hcap, hlen, hops, -, -, -, -, -⟩ := hp
 dsimp only at *
 have hba := (Below.refl w.heap.size w).alloc (Nat.le_refl _) (.cells (patA f t o n sz B l.length d) 35)
 have K1 := hD (patCheck_calls B d f t o n sz l _ hlen (hops.stays hba))
 generalize patCheck ⟨f, t, o, n, sz, l⟩ = ck at *
 have q : (ck != 0) = true := by simp [h]
 clear hops h
 go_enter Try.func97, Try.ntmps97
 go_wp2_with fail
 refine K1.out.mono ?_
 rintro e w1 ⟨rfl, hb1⟩
 go_wp2_with fail
 go_ret2
 exact ⟨rfl, hba.trans (hb1.mono (by simp))⟩
theorem patPut_ok (B : Option Addr) (d : Nat) (p : Pat) (w : World) (hp : PatIn w p B d) (h : patCheck p = 0) :
  Calls Try.prog 97 #[.agg (patA p.from_ p.to_ p.old p.new_ p.size B p.ops.length d)] w (UnRet w (patBytes p, 0)) := by
 have hl400 := patBytes_len h
 obtain ⟨hr, hd⟩ := patCheck_ok.1 h
 have HPB : Hid (patBytes p = patHead p ++ opsBytes p.ops) := hD rfl
 obtain ⟨f, t, o, n, sz, l⟩ := p
 obtain ⟨hcap, hlen, hops, -, -, -, -, -⟩ := hp
 unfold Pat.range at hr
 dsimp only at *
 obtain ⟨r1, r2, r3, r4, r5, r6, r7, r8⟩ := hr
 have r9 := hd.s0
 have r10 := hd.s1
 have r11 := hd.many
 have hba := (Below.refl w.heap.size w).alloc (Nat.le_refl _) (.cells (patA f t o n sz B l.length d) 35)
 have K1 := hD (patCheck_calls B d f t o n sz l _ hlen (hops.stays hba))
 rw [h] at K1
 have HD := hD hd
 have HS := hD hops
 have HBA := hD hba
 clear hops hd h hba
 go_enter Try.func97, Try.ntmps97
 go_wp2_with fail
 refine K1.out.mono ?_
 rintro e w1 ⟨rfl, hb1⟩
 obtain ⟨a0r, a0f, a0n, a0c, a0z, a0l⟩ := kp (w.heap.size) (patA f t o n sz B l.length d) hb1
 have HB1 := hD (HBA.out.trans (hb1.mono (by simp)))
 clear hb1 K1
 go_wp2_with fail
 generalize hbase : w.heap.size = base at *
 have HBE := hD hbase
 have hsw1 := HB1.out.size
 have hlw1 : base ≤ w1.heap.size := by omega
 have hhd : ((patHead ⟨f, t, o, n, sz, l⟩).map bv) = [.int .u8 f, .int .u8 t, .int .u8 (o / 256), .int .u8 (o % 256), .int .u8 (n / 256), .int .u8 (n % 256), .int .u8 sz, .int .u8 (l.length : Int)] := by
  unfold patHead
  simp only [List.map_cons, List.map_nil]
  rw [bv_by f (by omega), bv_by t (by omega), bv_by (o / 256) (by omega), bv_by2 o, bv_by (n / 256) (by omega), bv_by2 n, bv_by sz (by omega), bv_by (l.length : Int) (by omega)]
 have hot := own_blk (w := w1.alloc (.cells #[.int .u8 f, .int .u8 t, .int .u8 (o / 256), .int .u8 (o % 256), .int .u8 (n / 256), .int .u8 (n % 256), .int .u8 sz, .int .u8 (l.length : Int)] 5)) (base := base) (g := w1.heap.size) (n := 8) (cs := [.int .u8 f, .int .u8 t, .int .u8 (o / 256), .int .u8 (o % 256), .int .u8 (n / 256), .int .u8 (n % 256), .int .u8 sz, .int .u8 (l.length : Int)]) (blk_top rfl) hlw1 rfl (by decide)
 have hot2 := hot
 have HOT : Hid (Own (w1.alloc (.cells #[.int .u8 f, .int .u8 t, .int .u8 (o / 256), .int .u8 (o % 256), .int .u8 (n / 256), .int .u8 (n % 256), .int .u8 sz, .int .u8 (l.length : Int)] 5)) base 5 1 (some ⟨w1.heap.size, 0, none⟩) 8 8 ((patHead ⟨f, t, o, n, sz, l⟩).map bv)) := hD (by rw [hhd]; exact hot2)
 have HB2 : Hid (Below base w (w1.alloc (.cells #[.int .u8 f, .int .u8 t, .int .u8 (o / 256), .int .u8 (o % 256), .int .u8 (n / 256), .int .u8 (n % 256), .int .u8 sz, .int .u8 (l.length : Int)] 5))) := hD (HB1.out.alloc hlw1 _)
 clear hhd hot hot2 a0r a0f a0n a0c a0z a0l
 have hph8 : (patHead ⟨f, t, o, n, sz, l⟩).length = 8 := rfl
 have HP8 := hD hph8
 clear hph8
 generalize patHead ⟨f, t, o, n, sz, l⟩ = hd at *
 generalize patBytes ⟨f, t, o, n, sz, l⟩ = pb at *
 go_loopw [5, 44] (fun v i wr => ∃ (k : Nat) (C : Option Addr) (cc : Nat) (pre : List UInt8), k ≤ l.length ∧ i = .int .i64 k ∧ v = .slice C pre.length cc ∧ Hid (pre = hd ++ opsBytes (l.take k)) ∧ Hid (Own wr base 5 1 C pre.length cc (pre.map bv)) ∧ Hid (Below base w wr)) (fun _ i _ => l.length - (intOf i).toNat)
 case atStart => exact ⟨0, _, 8, hd, Nat.zero_le _, rfl, by rw [HP8.out], hD (by simp [opsBytes]), by rw [HP8.out]; exact HOT, HB2⟩
 case round =>
  clear HOT HB2 HB1 HBA
  rename World => wz
  obtain ⟨k, C, cc, pre, hk, rfl, rfl, HPRE, HO0, HB0⟩ := hrel
  have hbz : base ≤ wz.heap.size := Nat.le_trans (Nat.le_of_eq HBE.out.symm) HB0.out.size
  have hpl : pre.length + (opsBytes (l.drop k)).length = pb.length := by
   rw [HPB.out, HPRE.out, ← List.length_append, List.append_assoc, ← opsBytes_append, List.take_append_drop]
  by_cases hlt : k < l.length
  ·have hxo := HD.out.each l[k] (List.getElem_mem hlt)
   have hbw : Below w.heap.size w wz := HBE.out ▸ HB0.out
   obtain ⟨sb, so, D, dc, rfl, hsb, q0, q1, q2, p3, p4, p5, -, -⟩ := HS.out.at_ hlt
   have p0 := (hbw.cell (p := ⟨sb, so + k * 3, none⟩) hsb).trans q0
   have p1 := (hbw.cell (p := ⟨sb, so + k * 3 + 1, none⟩) hsb).trans q1
   have p2 := (hbw.cell (p := ⟨sb, so + k * 3 + 2, none⟩) hsb).trans q2
   clear q0 q1 q2
   have hpre2 : hd ++ opsBytes (l.take (k + 1)) = pre ++ stpBytes l[k] := by rw [List.take_succ_eq_append_getElem hlt, opsBytes_append, opsBytes_one, ← List.append_assoc, ← HPRE.out]
   have hdrop : l.drop k = l[k] :: l.drop (k + 1) := List.drop_eq_getElem_cons hlt
   rw [hdrop, opsBytes_cons, List.length_append] at hpl
   obtain ⟨x, hx⟩ : ∃ x, l[k] = x := ⟨_, rfl⟩
   rw [hx] at hxo hpre2 hpl p0 p1 p2 p3 p4 p5
   clear hx hdrop
   obtain ⟨at_, len, data⟩ := x
   obtain ⟨hform, hin⟩ := hxo
   unfold Stp.in_ at hin
   dsimp only at *
   obtain ⟨j1, j2, j3⟩ := hin
   have HDT0 := hD (p5.stays hbw)
   have HDW := hD p5
   clear hbw
   have HPRE2 := hD hpre2
   have dl : decide ((k : Int) < (l.length : Int)) = true := decide_eq_true (by omega)
   have hwk : IntKind.i64.wrap ((k : Int) + 1) = (k : Int) + 1 := IntWalk.i64_in _ (by omega)
   clear p5 hpre2
   by_cases hl0 : 0 < len
   ·have hst : stpBytes ⟨at_, len, data⟩ = [by_ at_, by_ len] := by unfold stpBytes; rw [if_pos hl0]
    rw [hst] at HPRE2 hpl
    have hj4 : at_ ≤ 64 := by omega
    have hj5 : len ≤ 64 := by omega
    have HBV : Hid (([by_ at_, by_ len] : List UInt8).map bv = [.int .u8 at_, .int .u8 len]) := hD (by simp only [List.map_cons, List.map_nil]; rw [bv_by at_ (by omega), bv_by len (by omega)])
    have hoa := (HO0.out.alloc (.cells #[iv at_, iv len, .slice D data.length dc] 117)).alloc (.cells #[.int .u8 at_, .int .u8 len] 5)
    have hs1 : Src ((wz.alloc (.cells #[iv at_, iv len, .slice D data.length dc] 117)).alloc (.cells #[.int .u8 at_, .int .u8 len] 5)) (some ⟨wz.heap.size + 1, 0, none⟩) [.int .u8 at_, .int .u8 len] := src_blk (blk_top (by simp))
    have hob : pre.length + 2 ≤ 1073741824 := by omega
    have hle : base ≤ ((wz.alloc (.cells #[iv at_, iv len, .slice D data.length dc] 117)).alloc (.cells #[.int .u8 at_, .int .u8 len] 5)).heap.size := by simp; omega
    clear hst hform hpl
    go_wp2_with (at_builtin; go_must (refine wpList_app ((wz.alloc (.cells #[iv at_, iv len, .slice D data.length dc] 117)).alloc (.cells #[.int .u8 at_, .int .u8 len] 5)) rfl _ _ 22 rfl elBytes base C pre.length cc (pre.map bv) rfl hoa (some ⟨wz.heap.size + 1, 0, none⟩) 2 2 [.int .u8 at_, .int .u8 len] rfl hs1 rfl (by simp [Value.oneCell']) hob hle ?_; intro C1 c1 w2 hown hgr hbel hor))
    have HB3 : Hid (Below base w w2) := hD (((HB0.out.alloc hbz _).alloc (by simp; omega) _).trans hbel)
    have HL : Hid (pre.length + 2 = (pre ++ [by_ at_, by_ len]).length) := hD (by simp)
    have HO3 : Hid (Own w2 base 5 1 C1 (pre ++ [by_ at_, by_ len]).length c1 ((pre ++ [by_ at_, by_ len]).map bv)) := hD (by rw [List.map_append, HBV.out, ← HL.out]; exact hown)
    clear hown hgr hbel hor hoa hs1 hob hle
    go_roundw
    case rel => exact ⟨k + 1, C1, c1, pre ++ [by_ at_, by_ len], by omega, by go_num, by rw [HL.out], hD HPRE2.out.symm, HO3, HB3⟩
    case measure => simp [intOf]; omega
   ·obtain rfl : len = 0 := by omega
    obtain ⟨rfl, hd1, hd2⟩ := hform.1 rfl
    have hst : stpBytes ⟨0, 0, data⟩ = 255 :: by_ data.length :: data := by unfold stpBytes; rw [if_neg (by simp)]
    rw [hst] at HPRE2 hpl
    simp only [List.length_cons] at hpl
    have hdl : data.length ≤ 64 := hd2
    have HU8 : Hid (IntKind.u8.wrap (data.length : Int) = (data.length : Int)) := hD (by unfold IntKind.wrap; simp [IntKind.signed, IntKind.bits]; omega)
    have HBV : Hid ((255 :: by_ data.length :: data : List UInt8).map bv = [.int .u8 255, .int .u8 (data.length : Int)] ++ data.map bv) := hD (by simp only [List.map_cons]; rw [bv_by (data.length : Int) (by omega)]; rfl)
    have HG : Hid ((wz.alloc (.cells #[iv 0, iv 0, .slice D data.length dc] 117)).heap[wz.heap.size]? = some (.cells #[iv 0, iv 0, .slice D data.length dc] 117 (0, 0))) := hD (blk_top rfl)
    have HO : Hid (Own (wz.alloc (.cells #[iv 0, iv 0, .slice D data.length dc] 117)) base 5 1 C pre.length cc (pre.map bv)) := hD (HO0.out.alloc _)
    have HBo : Hid (Below base w (wz.alloc (.cells #[iv 0, iv 0, .slice D data.length dc] 117))) := hD (HB0.out.alloc hbz _)
    have HDT : Hid (Bts (wz.alloc (.cells #[iv 0, iv 0, .slice D data.length dc] 117)) D data) := hD (HDT0.out.stays ((Below.refl _ _).alloc (Nat.le_refl _) _))
    have hgC : C.map (·.block) ≠ some wz.heap.size := fun e => by have := (HO0.out.block _ e).2; omega
    have hglt : wz.heap.size < (wz.alloc (.cells #[iv 0, iv 0, .slice D data.length dc] 117)).heap.size := by simp
    have hbo : base ≤ (wz.alloc (.cells #[iv 0, iv 0, .slice D data.length dc] 117)).heap.size := by simp; omega
    have HDC : Hid (∀ k, D.map (·.block) = some k → C.map (·.block) ≠ some k) := hD (by
     intro q hq e
     have h3 := (HO0.out.block q e).1
     obtain ⟨b', o', e4, h5, _⟩ := HDW.out 0 (List.length_pos_iff.2 hd1)
     rw [e4] at hq
     have hq : b' = q := by simpa using hq
     have := HBE.out
     omega)
    clear hst hform hd1
    go_wp2_with fail
    clear p0 p1 p2 dl
    generalize hwo : wz.alloc (.cells #[iv 0, iv 0, .slice D data.length dc] 117) = wo at *
    generalize wz.heap.size = g at *
    refine wp_region_free (by kernel_rfl) (some 60 :: some 61 :: some 62 :: some 63 :: some 64 :: some 65 :: some 66 :: some 67 :: some 68 :: some 69 :: some 5 :: []) (false :: false :: false :: false :: false :: true :: true :: false :: false :: true :: true :: []) (.slice C pre.length cc :: .pointer (some ⟨g, 2, none⟩) :: .slice D data.length dc :: .int .i64 (data.length : Int) :: .int .u8 (data.length : Int) :: undef :: undef :: .pointer (some ⟨g, 2, none⟩) :: .slice D data.length dc :: undef :: undef :: []) (ptJ wo base C pre.length cc (pre.map bv) [.int .u8 255, .int .u8 (data.length : Int)] (data.map bv) 5 6 9 10) 75 rfl rfl (by decide +kernel) (by decide +kernel) (by decide +kernel) rfl rfl (by rw [ptJ, if_neg (by simp), if_neg (by simp), if_neg (by simp)]) ?_ ?_
    ·refine ⟨?_, ?_⟩
     ·intro done cv a wq hn hw hcl h hJ
      have e5 := fr_un (t := 5) (i := 0) (i0 := 10) (v := .slice C pre.length cc) h hcl hn rfl (by decide) (by decide) rfl
      exact mx_move (ch_ev e5)
     refine ⟨?_, ?_⟩
     ·intro done cv a wq hn hw hcl h hJ
      have e7 := fO 7 (.pointer (some ⟨g, 0, none⟩)) h
      go_simp
     refine ⟨?_, ?_⟩
     ·intro done cv a wq hn hw hcl h hJ
      have e61 := fN 1 61 h hw
      have fr := ptJ_frame hJ
      have hg2 := (fr.2 g hglt hgC).trans HG.out
      have hc : wq.cell? ⟨g, 2, none⟩ = some (.slice D data.length dc) := by rw [cell_of_row _ _ _ _ _ _ hg2]; rfl
      go_simp
     refine ⟨?_, ?_⟩
     ·intro done cv a wq hn hw hcl h hJ
      have e62 := fN 2 62 h hw
      go_simp
     refine ⟨?_, ?_⟩
     ·intro done cv a wq hn hw hcl h hJ
      have e63 := fN 3 63 h hw
      have hu := HU8.out
      go_simp
     refine ⟨?_, ?_⟩
     ·intro done cv a wq hn hw hcl h hJ
      have e64 := fN 4 64 h hw
      have hd6 : ¬ maskB [false, false, false, false, false, true, true, false, false, true, true] done 6 = true := by unfold maskB; rw [show done 6 = false from Bool.eq_false_iff.2 (fun e => by have := hcl 6 _ rfl e 5 (by decide); rw [hn] at this; cases this)]; simp
      have hd9 : ¬ maskB [false, false, false, false, false, true, true, false, false, true, true] done 9 = true := by unfold maskB; rw [show done 9 = false from Bool.eq_false_iff.2 (fun e => hd6 (by unfold maskB; rw [hcl 9 _ rfl e 6 (by decide)]; rfl))]; simp
      have hd5 : ¬ maskB [false, false, false, false, false, true, true, false, false, true, true] done 5 = true := by unfold maskB; rw [hn]; simp
      rw [ptJ, if_neg hd9, if_neg hd6, if_neg hd5] at hJ
      obtain rfl : wq = wo.drew := hJ
      refine wp_sb2i e64 ⟨_, rfl, ?_⟩
      rw [ptJ, if_neg (by simp; simpa using hd9), if_neg (by simp; simpa using hd6), if_pos (by simp)]
      exact ⟨⟨(Below.refl _ _).drew.alloc (by simpa using hbo) _, fun k hk hne => Below.heap_alloc wo.drew _ k hk⟩, HO.out.drew.alloc _, wo.heap.size, by simp, blk_top (by simp), Nat.le_refl _⟩
     refine ⟨?_, ?_⟩
     ·intro done cv a wq hn hw hcl h hJ
      have e60 := fN 0 60 h hw; have e65 := fr_cv (i := 5) (t := 65) h (hw 5 (by decide)) rfl rfl
      have hd9 : ¬ maskB [false, false, false, false, false, true, true, false, false, true, true] done 9 = true := by unfold maskB; rw [show done 9 = false from Bool.eq_false_iff.2 (fun e => by have := hcl 9 _ rfl e 6 (by decide); rw [hn] at this; cases this)]; simp
      have hd6 : ¬ maskB [false, false, false, false, false, true, true, false, false, true, true] done 6 = true := by unfold maskB; rw [hn]; simp
      have hd5 : maskB [false, false, false, false, false, true, true, false, false, true, true] done 5 = true := by unfold maskB; rw [hw 5 (by decide)]; rfl
      rw [ptJ, if_neg hd9, if_neg hd6, if_pos hd5] at hJ
      obtain ⟨⟨f1, f2⟩, ho, bb, y1, y2, y3⟩ := hJ
      rw [y1] at e65
      refine wp_app wq (.tmp 60) (.tmp 65) 22 rfl elBytes base C pre.length cc (pre.map bv) (ch_ev e60) ho (some ⟨bb, 0, none⟩) 2 2 [.int .u8 255, .int .u8 (data.length : Int)] (ch_ev e65) (src_blk y2) rfl (by simp [Value.oneCell']) (by omega) (Nat.le_trans hbo f1.size) ?_
      intro A' c' w' hown hgr hbel hor
      refine ⟨_, rfl, ?_⟩
      rw [ptJ, if_neg (by simp; simpa using hd9), if_pos (by simp)]
      refine ⟨⟨f1.trans hbel, fun k hk hne => (hgr.block k (Nat.lt_of_lt_of_le hk f1.size) (fun e => hne e.symm)).trans (f2 k hk hne)⟩, A', c', by simp, hown, ?_⟩
      rcases hor with h | h
      ·exact .inl h
      ·exact .inr (fun k hk => by rw [h] at hk; injection hk with hk; have := f1.size; omega)
     refine ⟨?_, ?_⟩
     ·intro done cv a wq hn hw hcl h hJ
      have e7 := fO 7 (.pointer (some ⟨g, 0, none⟩)) h
      go_simp
     refine ⟨?_, ?_⟩
     ·intro done cv a wq hn hw hcl h hJ
      have e67 := fN 7 67 h hw
      have fr := ptJ_frame hJ
      have hg2 := (fr.2 g hglt hgC).trans HG.out
      have hc : wq.cell? ⟨g, 2, none⟩ = some (.slice D data.length dc) := by rw [cell_of_row _ _ _ _ _ _ hg2]; rfl
      go_simp
     refine ⟨?_, ?_⟩
     ·intro done cv a wq hn hw hcl h hJ
      have e66 := fr_cv (i := 6) (t := 66) h (hw 6 (by decide)) rfl rfl; have e68 := fN 8 68 h hw
      have hd6 : maskB [false, false, false, false, false, true, true, false, false, true, true] done 6 = true := by unfold maskB; rw [hw 6 (by decide)]; rfl
      have hd9 : ¬ maskB [false, false, false, false, false, true, true, false, false, true, true] done 9 = true := by unfold maskB; rw [hn]; simp
      rw [ptJ, if_neg hd9, if_pos hd6] at hJ
      obtain ⟨⟨f1, f2⟩, A1, c1, y1, ho, hor1⟩ := hJ
      rw [y1] at e66
      have hsrc : Src wq D (data.map bv) := (bts_same HDT.out (fun k hk hlt => f2 k hlt (fun e => HDC.out k hk e))).src
      refine wp_app wq (.tmp 66) (.tmp 68) 22 rfl elBytes base A1 (pre.length + 2) c1 (pre.map bv ++ [.int .u8 255, .int .u8 (data.length : Int)]) (ch_ev e66) ho D data.length dc (data.map bv) (ch_ev e68) hsrc (by simp) (bv_one _) (by omega) (Nat.le_trans hbo f1.size) ?_
      intro A' c' w' hown hgr hbel hor
      refine ⟨_, rfl, ?_⟩
      rw [ptJ, if_pos (by simp)]
      refine ⟨⟨f1.trans hbel, fun k hk hne => (hgr.block k (Nat.lt_of_lt_of_le hk f1.size) (fun e => ?_)).trans (f2 k hk hne)⟩, A', c', by simp, by rw [List.length_map]; exact hown, fun e => ?_⟩
      ·rcases hor1 with h | h
       ·exact hne (h.symm.trans e.symm)
       ·have := h k e.symm; omega
      ·exfalso
       have e10 : done 10 = true := by simpa [maskB] using e
       have := hcl 10 _ rfl e10 9 (by decide)
       rw [hn] at this; cases this
     refine ⟨?_, ?_⟩
     ·intro done cv a wq hn hw hcl h hJ
      have e69 := fr_cv (i := 9) (t := 69) h (hw 9 (by decide)) rfl rfl
      have hd9 : maskB [false, false, false, false, false, true, true, false, false, true, true] done 9 = true := by unfold maskB; rw [hw 9 (by decide)]; rfl
      rw [ptJ, if_pos hd9] at hJ
      obtain ⟨fr, A1, c1, y1, ho, _⟩ := hJ
      rw [y1] at e69
      refine wp_asg (ch_ev e69) ⟨_, rfl, ?_⟩
      rw [ptJ, if_pos (by simp; simpa using hd9)]
      exact ⟨fr, A1, c1, by simpa using y1, ho, fun _ => by simp⟩
     exact trivial
    ·intro d cv w3 hall hJ
     rw [ptJ, if_pos (hall 9 rfl (by decide))] at hJ
     obtain ⟨⟨f1, f2⟩, A2, c2, y1, ho, y2⟩ := hJ
     have y3 := y2 (hall 10 rfl (by decide))
     have HB3 : Hid (Below base w w3) := hD (HBo.out.trans f1)
     have HL : Hid (pre.length + 2 + (data.map bv).length = (pre ++ (255 :: by_ data.length :: data)).length) := hD (by simp; omega)
     have HO3 : Hid (Own w3 base 5 1 A2 (pre ++ (255 :: by_ data.length :: data)).length c2 ((pre ++ (255 :: by_ data.length :: data)).map bv)) := hD (by rw [List.map_append, HBV.out, ← HL.out, ← List.append_assoc]; exact ho)
     clear f1 f2 ho y2
     simp only [freeAll, putAll_some, putAll_none, putAll_nil, List.getD_cons_zero, List.getD_cons_succ, Bool.false_eq_true, if_true, if_false, reduceIte, Nat.zero_add, Nat.reduceAdd, List.setIfInBounds_toArray, List.set_cons_zero, List.set_cons_succ]
     rw [y3, HL.out]
     clear y1 y3
     go_wp2_with fail
     go_roundw
     case rel => exact ⟨k + 1, A2, c2, pre ++ (255 :: by_ data.length :: data), by omega, by go_num, rfl, hD HPRE2.out.symm, HO3, HB3⟩
     case measure => simp [intOf]; omega
  ·obtain rfl : k = l.length := by omega
   have dl : decide ((l.length : Int) < (l.length : Int)) = false := by simp
   have hpre : pre = pb := by rw [HPB.out, HPRE.out, List.take_length]
   subst hpre
   have d4 : decide ((400 : Int) < (pre.length : Int)) = false := decide_eq_false (by omega)
   clear hpl
   go_wp2_with fail
   go_ret2
   exact ⟨C, cc, rfl, HBE.out ▸ HO0.out, HBE.out ▸ HB0.out⟩
section
open Go.RowKit
end
structure Kd (α : Type) where
 ty : TypeId
 size : Nat
 slot : Nat
 cell : α → Option Addr × Nat → List Value
 dat : α → List UInt8
 len : ∀ x e, (cell x e).length = size
 lt : slot < size
 set : ∀ x e e', (cell x e).set slot (.slice e'.1 (dat x).length e'.2) = cell x e'
 get : ∀ x e, (cell x e)[slot]? = some (.slice e.1 (dat x).length e.2)
 one : ∀ x e, ∀ u ∈ cell x e, u.oneCell' = true
section
variable {α : Type} (K : Kd α)
def Kd.cells : List α → List (Option Addr × Nat) → List Value
 | o :: l, d :: ds => K.cell o d ++ Kd.cells l ds
 | _, _ => []
variable {K}
theorem cells_len : ∀ (l : List α) (ds : List (Option Addr × Nat)), ds.length = l.length → (K.cells l ds).length = l.length * K.size
 | [], [], _ => by simp [Kd.cells]
 | [], _ :: _, h => by simp at h
 | _ :: _, [], h => by simp at h
 | o :: l, d :: ds, h => by
  have := cells_len l ds (by simpa using h)
  rw [Kd.cells, List.length_append, K.len, this, List.length_cons, Nat.succ_mul]; omega
theorem cells_append : ∀ (l m : List α) (ds es : List (Option Addr × Nat)), ds.length = l.length → K.cells (l ++ m) (ds ++ es) = K.cells l ds ++ K.cells m es
 | [], m, [], es, _ => by simp [Kd.cells]
 | [], _, _ :: _, _, h => by simp at h
 | _ :: _, _, [], _, h => by simp at h
 | x :: l, m, y :: ds, es, h => by
  have := cells_append l m ds es (by simpa using h)
  simp [Kd.cells, this]
theorem cells_one (x : α) (e : Option Addr × Nat) : K.cells [x] [e] = K.cell x e := by simp [Kd.cells]
theorem cells_oneCell : ∀ (l : List α) (ds : List (Option Addr × Nat)), ∀ u ∈ K.cells l ds, u.oneCell' = true
 | [], _, u, h => by simp [Kd.cells] at h
 | _ :: _, [], u, h => by simp [Kd.cells] at h
 | o :: l, d :: ds, u, h => by
  rw [Kd.cells] at h
  rcases List.mem_append.1 h with h | h
  ·exact K.one o d u h
  ·exact cells_oneCell l ds u h
theorem cells_at : ∀ (l : List α) (ds : List (Option Addr × Nat)), ds.length = l.length → ∀ (i j : Nat) (o : α) (d : Option Addr × Nat), l[i]? = some o → ds[i]? = some d → j < K.size → (K.cells l ds)[i * K.size + j]? = (K.cell o d)[j]?
 | [], [], _, i, j, o, d, h, _, _ => by simp at h
 | [], _ :: _, h, _, _, _, _, _, _, _ => by simp at h
 | _ :: _, [], h, _, _, _, _, _, _, _ => by simp at h
 | x :: l, y :: ds, h, i, j, o, d, hi, hd, hj => by
  match i with
  | 0 =>
   have e1 : x = o := by simpa using hi
   have e2 : y = d := by simpa using hd
   subst e1 e2
   rw [Kd.cells, Nat.zero_mul, Nat.zero_add, List.getElem?_append_left (by rw [K.len]; exact hj)]
  | i + 1 =>
   have := cells_at l ds (by simpa using h) i j o d (by simpa using hi) (by simpa using hd) hj
   rw [Kd.cells, List.getElem?_append_right (by rw [K.len, Nat.succ_mul]; omega), ← this, K.len]
   congr 1
   rw [Nat.succ_mul]; omega
theorem cells_take (l : List α) (ds : List (Option Addr × Nat)) (h : ds.length = l.length) (i : Nat) (hi : i ≤ l.length) : K.cells (l.take i) (ds.take i) = (K.cells l ds).take (i * K.size) ∧ K.cells (l.drop i) (ds.drop i) = (K.cells l ds).drop (i * K.size) := by
 have e := cells_append (K := K) (l.take i) (l.drop i) (ds.take i) (ds.drop i) (by simp; omega)
 rw [List.take_append_drop, List.take_append_drop] at e
 have hl := cells_len (K := K) (l.take i) (ds.take i) (by simp; omega)
 rw [List.length_take, Nat.min_eq_left hi] at hl
 refine ⟨?_, ?_⟩
 ·rw [e, List.take_left' hl]
 ·rw [e, List.drop_left' hl]
theorem cells_set : ∀ (l : List α) (ds : List (Option Addr × Nat)), ds.length = l.length → ∀ (i : Nat) (o : α) (e : Option Addr × Nat), l[i]? = some o → (K.cells l ds).set (i * K.size + K.slot) (.slice e.1 (K.dat o).length e.2) = K.cells l (ds.set i e)
 | [], _, _, i, o, e, h => by simp at h
 | _ :: _, [], h, _, _, _, _ => by simp at h
 | x :: l, y :: ds, h, i, o, e, hi => by
  have hlt := K.lt
  match i with
  | 0 =>
   have e1 : x = o := by simpa using hi
   subst e1
   rw [Kd.cells, Nat.zero_mul, Nat.zero_add, List.set_append_left _ _ (by rw [K.len]; exact hlt), K.set, List.set_cons_zero, Kd.cells]
  | i + 1 =>
   have := cells_set l ds (by simpa using h) i o e (by simpa using hi)
   rw [Kd.cells, List.set_append_right _ _ (by rw [K.len, Nat.succ_mul]; omega), K.len, List.set_cons_succ, Kd.cells, ← this]
   congr 2
   rw [Nat.succ_mul]; omega
end
structure GSrc {α : Type} (K : Kd α) (w : World) (A : Option Addr) (l : List α) (ds : List (Option Addr × Nat)) : Prop where
 len : ds.length = l.length
 row : Src w A (K.cells l ds)
 data : ∀ (i : Nat) (o : α) (d : Option Addr × Nat), l[i]? = some o → ds[i]? = some d → Bts w d.1 (K.dat o) ∧ (K.dat o).length ≤ d.2
def Each {α : Type} (K : Kd α) (l : List α) (ds : List (Option Addr × Nat)) (P : Nat → Prop) : Prop :=
 ∀ (i : Nat) (o : α) (d : Option Addr × Nat), l[i]? = some o → ds[i]? = some d → K.dat o ≠ [] → ∀ k, d.1.map (·.block) = some k → P k
structure GRow {α : Type} (K : Kd α) (w : World) (base : Nat) (l : List α) (ds : List (Option Addr × Nat)) (A : Option Addr) (c : Nat) : Prop where
 len : ds.length = l.length
 row : Own w base K.ty K.size A l.length c (K.cells l ds)
 data : ∀ (i : Nat) (o : α) (d : Option Addr × Nat), l[i]? = some o → ds[i]? = some d → Bts w d.1 (K.dat o) ∧ (K.dat o).length ≤ d.2
 off : Each K l ds (fun k => A.map (·.block) ≠ some k)
theorem bts_keep {x : List UInt8} (h : Bts w B x) (hs : w.heap.size ≤ w'.heap.size) (hk : x ≠ [] → ∀ k, k < w.heap.size → B.map (·.block) = some k → w'.heap[k]? = w.heap[k]?) : Bts w' B x := by
 intro j hj
 obtain ⟨b, o2, e1, hlt, hc⟩ := h j hj
 have e := hk (fun e => by rw [e] at hj; simp at hj) b hlt (by rw [e1]; rfl)
 exact ⟨b, o2, e1, Nat.lt_of_lt_of_le hlt hs, (World.cell?_of_block e).trans hc⟩
theorem bts_block {x : List UInt8} (h : Bts w B x) (hx : x ≠ []) : ∀ k, B.map (·.block) = some k → k < w.heap.size := by
 obtain ⟨b, o2, e1, hlt, hc⟩ := h 0 (List.length_pos_iff.2 hx)
 intro k hk
 rw [e1] at hk
 have e : b = k := by simpa using hk
 omega
section
variable {α : Type} {K : Kd α} {w w' : World} {base : Nat} {l : List α} {ds : List (Option Addr × Nat)} {A : Option Addr} {c : Nat} {P Q : Nat → Prop}
theorem Each.imp (h : Each K l ds P) (hq : ∀ k, P k → Q k) : Each K l ds Q := fun i o d e1 e2 hx k hk => hq k (h i o d e1 e2 hx k hk)
theorem Each.nil : Each K ([] : List α) ds P := fun i o d h => by simp at h
theorem GSrc.each (h : GSrc K w A l ds) : Each K l ds (fun k => k < w.heap.size) := fun i o d e1 e2 hx => bts_block (h.data i o d e1 e2).1 hx
theorem GRow.src (h : GRow K w base l ds A c) : GSrc K w A l ds := ⟨h.len, h.row.src, h.data⟩
theorem GSrc.stays (h : GSrc K w A l ds) (hb : Below w.heap.size w w') : GSrc K w' A l ds :=
 ⟨h.len, h.row.stays hb, fun i o d h1 h2 => ⟨(h.data i o d h1 h2).1.stays hb, (h.data i o d h1 h2).2⟩⟩
theorem GRow.nil (w : World) (base : Nat) : GRow K w base ([] : List α) [] none 0 := ⟨rfl, by simpa [Kd.cells] using Own.nil_ _ _ _ _, fun i o d h => by simp at h, Each.nil⟩
theorem GRow.below (h : GRow K w base l ds A c) (hb : Below w.heap.size w w') : GRow K w' base l ds A c :=
 ⟨h.len, h.row.below (B := 0) hb, fun i o d h1 h2 => ⟨(h.data i o d h1 h2).1.stays hb, (h.data i o d h1 h2).2⟩, h.off⟩
theorem GRow.mono {base' : Nat} (h : GRow K w base l ds A c) (hb : base' ≤ base) : GRow K w base' l ds A c := ⟨h.len, h.row.mono hb, h.data, h.off⟩
theorem GRow.keep (h : GRow K w base l ds A c) (hs : w.heap.size ≤ w'.heap.size) (hA : ∀ k, k < w.heap.size → A.map (·.block) = some k → w'.heap[k]? = w.heap[k]?) (hd : Each K l ds (fun k => k < w.heap.size → w'.heap[k]? = w.heap[k]?)) : GRow K w' base l ds A c :=
 ⟨h.len, h.row.same (fun k e => hA k (h.row.block k e).2 e), fun i o d h1 h2 => ⟨bts_keep (h.data i o d h1 h2).1 hs fun hx k h3 e => hd i o d h1 h2 hx k e h3, (h.data i o d h1 h2).2⟩, h.off⟩
theorem GRow.setOther (h : GRow K w base l ds A c) (hA : A.map (·.block) ≠ some g) (hd : Each K l ds (fun k => k ≠ g)) (v : Value) : GRow K (w.setCell ⟨g, j, none⟩ v) base l ds A c :=
 h.keep (by simp) (fun k _ hk => Below.heap_setCell _ _ _ _ (fun e => hA (by rw [hk, show k = g from e]))) (hd.imp fun k hk _ => Below.heap_setCell _ _ _ _ hk)
theorem GRow.remake {B : Nat} {l' : List α} {ds' : List (Option Addr × Nat)} {A' : Option Addr} {c' : Nat} (h : GRow K w base l ds A c) (hl : ds'.length = l'.length) (h1 : Own w' base K.ty K.size A' l'.length c' (K.cells l' ds')) (hb : Below B w w')
  (hk : ∀ k, k < w.heap.size → A.map (·.block) ≠ some k → w'.heap[k]? = w.heap[k]?) (h3 : A'.map (·.block) = A.map (·.block) ∨ ∀ k, A'.map (·.block) = some k → w.heap.size ≤ k)
  (hd : ∀ (i : Nat) (o : α) (d : Option Addr × Nat), l'[i]? = some o → ds'[i]? = some d → (∃ j : Nat, l[j]? = some o ∧ ds[j]? = some d) ∨ (Bts w d.1 (K.dat o) ∧ (K.dat o).length ≤ d.2 ∧ (K.dat o ≠ [] → ∀ k, d.1.map (·.block) = some k → A.map (·.block) ≠ some k))) :
  GRow K w' base l' ds' A' c' := by
 have key : ∀ (i : Nat) (o : α) (d : Option Addr × Nat), l'[i]? = some o → ds'[i]? = some d → Bts w d.1 (K.dat o) ∧ (K.dat o).length ≤ d.2 ∧ (K.dat o ≠ [] → ∀ k, d.1.map (·.block) = some k → A.map (·.block) ≠ some k) := by
  intro i o d e1 e2
  rcases hd i o d e1 e2 with ⟨j, e3, e4⟩ | h
  ·exact ⟨(h.data j o d e3 e4).1, (h.data j o d e3 e4).2, h.off j o d e3 e4⟩
  ·exact h
 refine ⟨hl, h1, fun i o d e1 e2 => ?_, fun i o d e1 e2 hx k hk2 => ?_⟩
 ·obtain ⟨k1, k2, k3⟩ := key i o d e1 e2
  exact ⟨bts_keep k1 hb.size fun hx k h4 e => hk k h4 (k3 hx k e), k2⟩
 ·obtain ⟨k1, k2, k3⟩ := key i o d e1 e2
  have k4 := k3 hx k hk2
  have k5 := bts_block k1 hx k hk2
  rcases h3 with h3 | h3
  ·rw [h3]; exact k4
  ·intro e; have := h3 k e; omega
theorem GRow.push {B : Nat} {A' : Option Addr} {c' : Nat} {o : α} {d : Option Addr × Nat} (h : GRow K w base l ds A c)
  (h1 : Own w' base K.ty K.size A' (l.length + 1) c' (K.cells l ds ++ K.cell o d)) (hb : Below B w w') (hk : ∀ k, k < w.heap.size → A.map (·.block) ≠ some k → w'.heap[k]? = w.heap[k]?) (h3 : A'.map (·.block) = A.map (·.block) ∨ ∀ k, A'.map (·.block) = some k → w.heap.size ≤ k)
  (hd : Bts w d.1 (K.dat o)) (hd2 : (K.dat o).length ≤ d.2) (hd3 : K.dat o ≠ [] → ∀ k, d.1.map (·.block) = some k → A.map (·.block) ≠ some k) :
  GRow K w' base (l ++ [o]) (ds ++ [d]) A' c' := by
 have hlen := h.len
 refine h.remake (by simp [hlen]) ?_ hb hk h3 fun i o' d' hi hd' => ?_
 ·rw [cells_append _ _ _ _ hlen, cells_one, List.length_append]; exact h1
 ·rcases snoc_at hi with hi | ⟨rfl, rfl⟩
  ·have hil : i < l.length := (List.getElem?_eq_some_iff.1 hi).1
   rw [List.getElem?_append_left (by omega)] at hd'
   exact .inl ⟨i, hi, hd'⟩
  ·rw [← hlen] at hd'
   simp at hd'
   subst hd'
   exact .inr ⟨hd, hd2, hd3⟩
theorem Each.push {o : α} {d : Option Addr × Nat} (h : Each K l ds P) (hl : ds.length = l.length) (hd : K.dat o ≠ [] → ∀ k, d.1.map (·.block) = some k → P k) : Each K (l ++ [o]) (ds ++ [d]) P := by
 intro i o' d' hi hd' hx k hk
 rcases snoc_at hi with hi | ⟨rfl, rfl⟩
 ·have hil : i < l.length := (List.getElem?_eq_some_iff.1 hi).1
  rw [List.getElem?_append_left (by omega)] at hd'
  exact h i o' d' hi hd' hx k hk
 ·rw [← hl] at hd'
  simp at hd'
  subst hd'
  exact hd hx k hk
theorem GRow.setData {i : Nat} {o : α} {e : Option Addr × Nat} (h : GRow K w base l ds (some ⟨g, 0, none⟩) c) (hi : l[i]? = some o) (hd : Bts w e.1 (K.dat o)) (hd2 : (K.dat o).length ≤ e.2) (hd3 : K.dat o ≠ [] → ∀ k, e.1.map (·.block) = some k → g ≠ k) :
  GRow K (w.setCell ⟨g, i * K.size + K.slot, none⟩ (.slice e.1 (K.dat o).length e.2)) base l (ds.set i e) (some ⟨g, 0, none⟩) c := by
 have hr := h.row.stored (i * K.size + K.slot) (.slice e.1 (K.dat o).length e.2)
 rw [cells_set l ds h.len i o e hi] at hr
 refine ⟨by rw [List.length_set]; exact h.len, hr, fun j o' d' e1 e2 => ?_, fun j o' d' e1 e2 hx k hk => ?_⟩
 ·rw [List.getElem?_set] at e2
  by_cases hji : i = j
  ·subst hji
   rw [hi] at e1
   injection e1 with e1
   subst e1
   by_cases hl : i < ds.length
   ·rw [if_pos rfl, if_pos hl] at e2
    injection e2 with e2
    subst e2
    exact ⟨bts_keep hd (by simp) fun hx k _ hk => Below.heap_setCell _ _ _ _ (fun e3 => hd3 hx k hk e3.symm), hd2⟩
   ·rw [if_pos rfl, if_neg hl] at e2; cases e2
  ·rw [if_neg hji] at e2
   obtain ⟨k1, k2⟩ := h.data j o' d' e1 e2
   exact ⟨bts_keep k1 (by simp) fun hx k _ hk => Below.heap_setCell _ _ _ _ (fun e3 => h.off j o' d' e1 e2 hx k hk (by rw [show k = g from e3]; rfl)), k2⟩
 ·rw [List.getElem?_set] at e2
  by_cases hji : i = j
  ·by_cases hl : i < ds.length
   ·rw [if_pos hji, if_pos hl] at e2
    injection e2 with e2
    subst e2 hji
    rw [hi] at e1
    injection e1 with e1
    subst e1
    exact fun e3 => hd3 hx k hk (by injection e3)
   ·rw [if_pos hji, if_neg hl] at e2; cases e2
  ·rw [if_neg hji] at e2
   exact h.off j o' d' e1 e2 hx k hk
theorem GRow.fresh (h : GRow K w base l ds A c) (hn : Each K l ds (fun k => base ≤ k)) : Fresh base w (fun v => GRow K v base l ds A c) := by
 intro v hv
 have hlt : ∀ k, base ≤ k → k < w.heap.size → k < v.heap.size := fun k h1 h2 => by
  have e := hv k h1 h2
  rcases Nat.lt_or_ge k v.heap.size with h | h
  ·exact h
  ·rw [Array.getElem?_eq_none h, Array.getElem?_eq_getElem h2] at e; cases e
 refine ⟨h.len, own_fresh h.row hv, fun i o d h1 h2 => ⟨fun j hj => ?_, (h.data i o d h1 h2).2⟩, h.off⟩
 obtain ⟨b, o2, e1, hl2, hc⟩ := (h.data i o d h1 h2).1 j hj
 have hx : K.dat o ≠ [] := fun e => by rw [e] at hj; simp at hj
 have hbb := hn i o d h1 h2 hx b (by rw [e1]; rfl)
 exact ⟨b, o2, e1, hlt b hbb hl2, (World.cell?_of_block (hv b hbb hl2)).trans hc⟩
end
def kOp : Kd Stp where
 ty := 117
 size := 3
 slot := 2
 cell := fun o e => [iv o.at_, iv o.len, .slice e.1 o.data.length e.2]
 dat := Stp.data
 len := fun _ _ => rfl
 lt := by decide
 set := fun _ _ _ => rfl
 get := fun _ _ => rfl
 one := fun x e u hu => by simp at hu; rcases hu with rfl | rfl | rfl <;> rfl
def kChk : Kd Chk where
 ty := 49
 size := 5
 slot := 4
 cell := fun x e => chkC x e.1 e.2
 dat := Chk.data
 len := fun _ _ => rfl
 lt := by decide
 set := fun _ _ _ => rfl
 get := fun _ _ => rfl
 one := fun x e u hu => by simp at hu; rcases hu with rfl | rfl | rfl | rfl | rfl <;> rfl
def rImg : CR (List UInt8) := fun w cs x => ∃ B c, cs = [.slice B x.length c] ∧ x.length ≤ c ∧ x.length ≤ 1048576 ∧ Bts w B x
theorem stays_img : Stays rImg := by
 rintro w w' cs x ⟨B, c, rfl, h1, h2, h3⟩ hb
 exact ⟨B, c, rfl, h1, h2, h3.stays hb⟩
abbrev Ims (w : World) (A : Option Addr) (l : List (List UInt8)) : Prop := Elems 1 rImg w A l
theorem Ims.stays {l : List (List UInt8)} (h : Ims w A l) (hb : Below w.heap.size w w') : Ims w' A l := Elems.stays stays_img h hb
section
variable {α : Type} {K : Kd α} {w : World} {A : Option Addr} {l : List α} {ds : List (Option Addr × Nat)} {R : CR α}
theorem gsrc_of (hR : ∀ cs x, R w cs x → ∃ e : Option Addr × Nat, cs = K.cell x e ∧ Bts w e.1 (K.dat x) ∧ (K.dat x).length ≤ e.2) (h : Elems K.size R w A l) : ∃ ds, GSrc K w A l ds := by
 have each : ∀ i : Fin l.length, ∃ e : Option Addr × Nat, ∃ b o, A = some ⟨b, o, none⟩ ∧ b < w.heap.size ∧ (∀ j, (hj : j < (K.cell l[i.1] e).length) → w.cell? ⟨b, o + i.1 * K.size + j, none⟩ = some (K.cell l[i.1] e)[j]) ∧ Bts w e.1 (K.dat l[i.1]) ∧ (K.dat l[i.1]).length ≤ e.2 := by
  intro i
  obtain ⟨b, o, h1, h2, cs, h3, h4, h5⟩ := h i.1 i.2
  obtain ⟨e, rfl, h6, h7⟩ := hR _ _ h5
  exact ⟨e, b, o, h1, h2, h4, h6, h7⟩
 let f : Fin l.length → Option Addr × Nat := fun i => Classical.choose (each i)
 have hf : ∀ i : Fin l.length, ∃ b o, A = some ⟨b, o, none⟩ ∧ b < w.heap.size ∧ (∀ j, (hj : j < (K.cell l[i.1] (f i)).length) → w.cell? ⟨b, o + i.1 * K.size + j, none⟩ = some (K.cell l[i.1] (f i))[j]) ∧ Bts w (f i).1 (K.dat l[i.1]) ∧ (K.dat l[i.1]).length ≤ (f i).2 := fun i => Classical.choose_spec (each i)
 have hl : (List.ofFn f).length = l.length := by simp
 refine ⟨List.ofFn f, hl, fun p hp => ?_, fun i o d h1 h2 => ?_⟩
 ·rw [cells_len _ _ hl] at hp
  have hs : 0 < K.size := by have := K.lt; omega
  have hi : p / K.size < l.length := Nat.div_lt_of_lt_mul (by rw [Nat.mul_comm]; exact hp)
  have hj : p % K.size < K.size := Nat.mod_lt _ hs
  have hpe : p / K.size * K.size + p % K.size = p := by rw [Nat.mul_comm]; exact Nat.div_add_mod _ _
  obtain ⟨b, o, hA, hb, hc, _⟩ := hf ⟨p / K.size, hi⟩
  refine ⟨b, o, hA, hb, ?_⟩
  have e1 := cells_at (K := K) l (List.ofFn f) hl (p / K.size) (p % K.size) l[p / K.size] (f ⟨p / K.size, hi⟩) (List.getElem?_eq_getElem hi) (by simp [hi]) hj
  rw [hpe] at e1
  have e2 := hc (p % K.size) (by rw [K.len]; exact hj)
  dsimp only at e2
  rw [show o + p / K.size * K.size + p % K.size = o + p by omega] at e2
  rw [e2, ← List.getElem?_eq_getElem, ← e1, List.getElem?_eq_getElem (by rw [cells_len _ _ hl]; exact hp)]
 ·have hi := (List.getElem?_eq_some_iff.1 h1).1
  obtain ⟨_, _, _, _, _, h5, h6⟩ := hf ⟨i, hi⟩
  have e1 : l[i] = o := by rw [List.getElem?_eq_getElem hi] at h1; injection h1
  have e2 : f ⟨i, hi⟩ = d := by simpa [hi] using h2
  dsimp only at h5 h6
  rw [e1, e2] at h5 h6
  exact ⟨h5, h6⟩
theorem elems_of (h : GSrc K w A l ds) (hR : ∀ x ∈ l, ∀ e : Option Addr × Nat, Bts w e.1 (K.dat x) → (K.dat x).length ≤ e.2 → R w (K.cell x e) x) : Elems K.size R w A l := by
 intro i hi
 have hs : 0 < K.size := by have := K.lt; omega
 have hd : i < ds.length := by rw [h.len]; exact hi
 have hl : l[i]? = some l[i] := List.getElem?_eq_getElem hi
 have hds : ds[i]? = some ds[i] := List.getElem?_eq_getElem hd
 have hcl := cells_len (K := K) l ds h.len
 have hib : i * K.size + K.size ≤ l.length * K.size := by rw [← Nat.succ_mul]; exact Nat.mul_le_mul_right _ hi
 obtain ⟨b, o, hA, hlt, _⟩ := h.row (i * K.size) (by omega)
 obtain ⟨hd1, hd2⟩ := h.data i _ _ hl hds
 refine ⟨b, o, hA, hlt, K.cell l[i] ds[i], K.len _ _, fun j hj => ?_, hR _ (List.getElem_mem hi) _ hd1 hd2⟩
 rw [K.len] at hj
 obtain ⟨b', o', e, _, hc⟩ := h.row (i * K.size + j) (by omega)
 rw [hA] at e
 injection e with e
 injection e with e1 e2
 subst e1 e2
 have := cells_at (K := K) l ds h.len i j _ _ hl hds hj
 rw [List.getElem?_eq_getElem (by omega), List.getElem?_eq_getElem (by rw [K.len]; exact hj)] at this
 rw [show o + i * K.size + j = o + (i * K.size + j) by omega, hc]
 exact this
end
theorem Sps.gsrc {l : List Stp} (h : Sps w A l) : ∃ ds, GSrc kOp w A l ds :=
 gsrc_of (K := kOp) (R := rOp) (fun cs x ⟨B, c, h1, h2, _, h4, _⟩ => ⟨(B, c), h1, h4, h2⟩) h
theorem GSrc.sps {l : List Stp} {ds : List (Option Addr × Nat)} (h : GSrc kOp w A l ds) (hb : ∀ o ∈ l, I64 o.at_ ∧ I64 o.len ∧ o.data.length ≤ 1048576) : Sps w A l :=
 elems_of (K := kOp) (R := rOp) h fun x hx e h1 h2 => ⟨e.1, e.2, rfl, h2, (hb x hx).2.2, h1, (hb x hx).1, (hb x hx).2.1⟩
def ChkB (x : Chk) : Prop := x.data.length ≤ 1048576 ∧ I64 x.from_ ∧ I64 x.to_ ∧ I64 x.n ∧ I64 x.of_
theorem Chs.gsrc {l : List Chk} (h : Chs w A l) : ∃ ds, GSrc kChk w A l ds :=
 gsrc_of (K := kChk) (R := rChk) (fun cs x ⟨B, c, h1, h2⟩ => ⟨(B, c), h1, h2.data, h2.cap⟩) h
theorem GSrc.chs {l : List Chk} {ds : List (Option Addr × Nat)} (h : GSrc kChk w A l ds) (hb : ∀ x ∈ l, ChkB x) : Chs w A l :=
 elems_of (K := kChk) (R := rChk) h fun x hx e h1 h2 => ⟨e.1, e.2, rfl, h2, (hb x hx).1, h1, (hb x hx).2.1, (hb x hx).2.2.1, (hb x hx).2.2.2.1, (hb x hx).2.2.2.2⟩
theorem Chs.bound {l : List Chk} (h : Chs w A l) : ∀ x ∈ l, ChkB x := by
 intro x hx
 obtain ⟨i, hi, rfl⟩ := List.mem_iff_getElem.1 hx
 obtain ⟨b, o, _, _, cs, _, _, B, c, _, h1⟩ := h i hi
 exact ⟨h1.len, h1.i0, h1.i1, h1.i2, h1.i3⟩
theorem Sps.bound {l : List Stp} (h : Sps w A l) : ∀ o ∈ l, I64 o.at_ ∧ I64 o.len ∧ o.data.length ≤ 1048576 := by
 intro x hx
 obtain ⟨i, hi, rfl⟩ := List.mem_iff_getElem.1 hx
 obtain ⟨b, o, _, _, cs, _, _, B, c, _, h1, h2, h3, h4, h5⟩ := h i hi
 exact ⟨h4, h5, h2⟩
theorem fresh_lt {v : World} (hv : ∀ k, base ≤ k → k < w.heap.size → v.heap[k]? = w.heap[k]?) (h1 : base ≤ k) (h2 : k < w.heap.size) : k < v.heap.size := by
 have e := hv k h1 h2
 rcases Nat.lt_or_ge k v.heap.size with h | h
 ·exact h
 ·rw [Array.getElem?_eq_none h, Array.getElem?_eq_getElem h2] at e; cases e
theorem Fresh.fresh {v : World} {P : World → Prop} (h : Fresh base w P) (hv : ∀ k, base ≤ k → k < w.heap.size → v.heap[k]? = w.heap[k]?) : Fresh base v P :=
 fun u hu => h u fun k h1 h2 => (hu k h1 (fresh_lt hv h1 h2)).trans (hv k h1 h2)
structure DevOwn (w : World) (base m1 m2 : Nat) (d : Dev) (L : DLoc) : Prop where
 h1 : base ≤ m1
 h2 : m1 ≤ m2
 o0 : Own w base 5 1 L.a0 d.s0.length L.c0 (d.s0.map bv)
 b0 : ∀ k, L.a0.map (·.block) = some k → k < m1
 o1 : Own w m1 5 1 L.a1 d.s1.length L.c1 (d.s1.map bv)
 b1 : ∀ k, L.a1.map (·.block) = some k → k < m2
 got : Fresh m2 w (fun v => Chs v L.ag d.got)
 job : Fresh m2 w (fun v => PatIn v d.job L.aj L.cj)
 l0 : d.s0.length ≤ 1048576
 l1 : d.s1.length ≤ 1048576
 kg : d.got.length ≤ L.cg
 lg : d.got.length ≤ 1048576
 ir : I64 d.running
 id : I64 d.done
def DvOwn (w : World) (base : Nat) (d : Dev) (L : DLoc) : Prop := ∃ m1 m2, DevOwn w base m1 m2 d L
section
variable {w v : World} {base m1 m2 : Nat} {d : Dev} {L : DLoc}
theorem DevOwn.same (h : DevOwn w base m1 m2 d L) (hv : ∀ k, base ≤ k → k < w.heap.size → v.heap[k]? = w.heap[k]?) : DevOwn v base m1 m2 d L :=
 ⟨h.h1, h.h2, own_fresh h.o0 hv, h.b0, own_fresh h.o1 (fun k h1 => hv k (Nat.le_trans h.h1 h1)), h.b1,
   h.got.fresh (fun k h1 => hv k (by have := h.h1; have := h.h2; omega)), h.job.fresh (fun k h1 => hv k (by have := h.h1; have := h.h2; omega)), h.l0, h.l1, h.kg, h.lg, h.ir, h.id⟩
theorem DvOwn.fresh (h : DvOwn w base d L) : Fresh base w (fun v => DvOwn v base d L) := by
 obtain ⟨m1, m2, h⟩ := h
 exact fun v hv => ⟨m1, m2, h.same hv⟩
theorem DvOwn.mono {base' : Nat} (h : DvOwn w base d L) (hb : base' ≤ base) : DvOwn w base' d L := by
 obtain ⟨m1, m2, h⟩ := h
 exact ⟨m1, m2, Nat.le_trans hb h.h1, h.h2, h.o0.mono hb, h.b0, h.o1, h.b1, h.got, h.job, h.l0, h.l1, h.kg, h.lg, h.ir, h.id⟩
theorem DevOwn.devIn (h : DevOwn w base m1 m2 d L) : DevIn w d L :=
 ⟨h.o0.le, h.l0, h.o0.src.bts, h.o1.le, h.l1, h.o1.src.bts, h.kg, h.lg, h.got.now, h.job.now, h.ir, h.id⟩
theorem DvOwn.devIn (h : DvOwn w base d L) : DevIn w d L := by
 obtain ⟨m1, m2, h⟩ := h
 exact h.devIn
end
def DcRet (w : World) (d : Dev) : Ending → World → Prop := fun en w' =>
 ∃ L, en = .returned (.agg (devA d L)) ∧ Fresh w.heap.size w' (fun v => DvOwn v w.heap.size d L) ∧ Below w.heap.size w w'
def DvRet (w : World) (d : Dev) (n : Int) : Ending → World → Prop := fun en w' =>
 ∃ L, en = .returned (.tuple #[.agg (devA d L), iv n]) ∧ Fresh w.heap.size w' (fun v => DevIn v d L) ∧ Below w.heap.size w w'
theorem wp_srow {P : Program} {ty : TypeId} {x y : Tmp} {cs new : Array Value} (hx : a.tmps[x]? = some (.pointer (some ⟨g, j, none⟩))) (hy : a.tmps[y]? = some (.agg new))
  (h1 : aggSz P ty = new.size) (h0 : 0 < new.size) (hr : rowOf w g = cs) (h2 : j + new.size ≤ cs.size) (hf : frOf w g = (0, 0)) (hc : allOne new = true) (h : K a (w.setRow g (splice cs j new))) :
  Oper.wp P ⟨none, .store ty (.tmp x) (.tmp y), t, p, af, gd⟩ a w K Q := by
 have e1 : a.eval (.tmp x) = .pointer (some ⟨g, j, none⟩) := by simp [Act.eval, hx]
 have e2 : a.eval (.tmp y) = .agg new := by simp [Act.eval, hy]
 have e := exec_store_row (P := P) (w := w) (ev := a.eval) (d := none) (ty := ty) (t := t) (x := .tmp x) (y := .tmp y) (p := p) (e := af) (gd := gd) (by omega) (by rw [e1]; rfl) (by rw [e2]; rfl) (by rw [e2, h1]; rfl) (by rw [e1, e2]; show j + new.size ≤ (rowOf w g).size; rw [hr]; exact h2) (by rw [e1]; exact hf) (by rw [e2]; exact hc)
 unfold Oper.wp
 rw [e, e1, e2]
 show K a (w.setRow g (splice (rowOf w g) j new))
 rw [hr]
 exact h
theorem wp_ssc {x y : Tmp} {c : Nat} {cs : Array Value} (hx : a.tmps[x]? = some (.pointer (some ⟨g, j, none⟩))) (hy : a.tmps[y]? = some (.slice B n c))
  (hr : rowOf w g = cs) (hj : j < cs.size) (hf : frOf w g = (0, 0)) (h : K a (w.setRow g (cs.setIfInBounds j (.slice B n c)))) :
  Oper.wp Try.prog ⟨none, .store 43 (.tmp x) (.tmp y), t, p, af, gd⟩ a w K Q := by
 have e1 : a.eval (.tmp x) = .pointer (some ⟨g, j, none⟩) := by simp [Act.eval, hx]
 have e2 : a.eval (.tmp y) = .slice B n c := by simp [Act.eval, hy]
 obtain ⟨t0, hb⟩ := row_blk (w := w) (g := g) (by rw [hr]; omega)
 rw [hr, hf] at hb
 have hc : w.cell? ⟨g, j, none⟩ = some cs[j] := by rw [cell_of_row _ _ _ _ _ _ hb]; simp [hj]
 have hz : w.frozen? ⟨g, j, none⟩ = false := frozen_of_row _ _ _ _ _ hb
 have hs := setCell_eq_setRow w g j cs t0 (0, 0) (.slice B n c) hb
 unfold Oper.wp execOp
 simp only [e1, e2]
 go_simp
 first | exact h | (rw [hs]; exact h)
def Kp (base : Nat) (w1 w : World) : Prop := ∀ k, base ≤ k → k < w1.heap.size → w.heap[k]? = w1.heap[k]?
section
variable {base g : Nat} {w1 w w' : World}
theorem Kp.refl (base : Nat) (w1 : World) : Kp base w1 w1 := fun _ _ _ => rfl
theorem Kp.row (h : Kp base w1 w) (hg : g < base ∨ w1.heap.size ≤ g) (cs : Array Value) : Kp base w1 (w.setRow g cs) := fun k h1 h2 => (setRow_other w g k cs (by omega)).trans (h k h1 h2)
theorem Kp.cell (h : Kp base w1 w) {p : Addr} (hg : p.block < base ∨ w1.heap.size ≤ p.block) (u : Value) : Kp base w1 (w.setCell p u) := fun k h1 h2 => (Below.heap_setCell _ _ _ _ (by omega)).trans (h k h1 h2)
theorem Kp.below (h : Kp base w1 w) (hs : w1.heap.size ≤ w.heap.size) (hb : Below w.heap.size w w') : Kp base w1 w' := fun k h1 h2 => (hb.block k (by omega)).trans (h k h1 h2)
theorem Kp.alloc (h : Kp base w1 w) (hs : w1.heap.size ≤ w.heap.size) (o : Obj) : Kp base w1 (w.alloc o) := h.below hs ((Below.refl _ _).alloc (Nat.le_refl _) o)
theorem Fresh.kp {P : World → Prop} {B : Nat} (h : Fresh base w1 P) (hk : Kp base w1 w) (hB : B ≤ base) (hs : w1.heap.size ≤ w.heap.size) : Fresh B w P := fun v hv => h v fun k h1 h2 => (hv k (by omega) (by omega)).trans (hk k h1 h2)
end
@[go_sem] theorem setRow_setCell (w : World) (g j : Nat) (cs : Array Value) (v : Value) : (w.setRow g cs).setCell ⟨g, j, none⟩ v = w.setRow g (cs.setIfInBounds j v) := by
 unfold World.setRow World.setCell
 congr 1
 apply Array.ext_getElem?
 intro i
 simp only [Array.getElem?_modify]
 by_cases e : g = i
 ·subst e
  simp only [if_true]
  cases w.heap[g]? with
  | none => rfl
  | some o => cases o <;> rfl
 ·simp [e]
def DLoc.down (L : DLoc) : DLoc := ⟨L.a0, L.c0, L.a1, L.c1, none, 0, none, 0⟩
theorem big_dev' (n : Nat) (h : 0 < n) : bigBuild Try.prog 71 n := by
 obtain ⟨i, hi, _⟩ := info_parts (P := Try.prog) (e := 71) (z := .agg (devA Dev.zero DLoc.zero)) (size := 37) (bytes := 360) (by kernel_rfl)
 exact ⟨i, hi, h⟩
@[go_sem] theorem big_dev2 : bigBuild Try.prog 71 2 := big_dev' 2 (by decide)
@[go_sem] theorem build_dev2 (a b : Option Addr) (c e : Nat) (x y : List UInt8) (p q : Cop) (w : World) : runBuild Try.prog 71 #[(0, .agg (slotsA a x.length c b y.length e)), (1, .agg (copsA p q))] w = .ok (.agg (devA ⟨x, y, p, q, false, 0, [], false, Pat.zero, 0⟩ ⟨a, c, b, e, none, 0, none, 0⟩)) w := by kernel_rfl
theorem DevIn.down {d : Dev} {L : DLoc} (h : DevIn w d L) : DevIn w d.down L.down :=
 ⟨h.k0, h.l0, h.b0, h.k1, h.l1, h.b1, Nat.le_refl _, Nat.zero_le _, Chs.nil _ _, pat_in_zero w, ⟨by show -9223372036854775808 ≤ (0:Int); omega, by show (0:Int) ≤ 9223372036854775807; omega⟩, ⟨by show -9223372036854775808 ≤ (0:Int); omega, by show (0:Int) ≤ 9223372036854775807; omega⟩⟩
theorem down_calls (d : Dev) (L : DLoc) (w : World) : Calls Try.prog 123 #[.agg (devA d L)] w (RetB w (.agg (devA d.down L.down))) := by
 go_enter Try.func123, Try.ntmps123
 go_wp2_with fail
 refine bodyPost_ret (results_c rfl rfl (cs := devA d.down L.down) (by go_simp; first | rfl | done) (by go_simp) (by go_simp)) rfl ⟨rfl, ?_⟩
 repeat (first | exact Below.refl _ _ | refine bR ?_ _ | refine bA ?_ _)
structure CbJ {α : Type} (w0 : World) (ci cm e0 e1 al st a1 : Nat) (row : α → Array Value) (zr : Array Value) (n : Int) (R : α → World → Prop) (x : α) (b gb : Nat) (w2 : World) (dn : Nat → Bool) (cv : Nat → Value) (w : World) : Prop where
 bel : Below w0.heap.size w0 w
 call : dn ci = true → cv ci = .tuple #[.agg (row x), iv n] ∧ w0.heap.size ≤ b ∧ Fresh b w2 (R x) ∧ Kp b w2 w ∧ w2.heap.size ≤ w.heap.size
 v1 : dn cm = true → cv cm = .tuple #[.agg (row x), iv n]
 v2 : dn e0 = true → cv e0 = .agg (row x)
 v3 : dn e1 = true → cv e1 = iv n
 v4 : dn a1 = true → cv a1 = iv n
 box : dn al = true → cv al = .pointer (some ⟨gb, 0, none⟩) ∧ w0.heap.size ≤ gb ∧ gb < w.heap.size ∧ frOf w gb = (0, 0) ∧ (dn st = false → rowOf w gb = zr) ∧ (dn st = true → rowOf w gb = row x)
 apart : dn ci = true → dn al = true → gb < b ∨ w2.heap.size ≤ gb
section
variable {α : Type} {w0 w w' : World} {ci cm e0 e1 al st a1 : Nat} {row : α → Array Value} {zr : Array Value} {n : Int} {R : α → World → Prop} {dn : Nat → Bool} {cv : Nat → Value}
end
theorem wp_alloc {P : Program} {ty : TypeId} {d : Tmp} {zr : Array Value} (he : ∀ ev : Operand → Value, (execOp ev ⟨some d, .alloc ty, t, p, af, gd⟩).run P w = .ok (.value (.pointer (some ⟨w.heap.size, 0, none⟩))) (w.alloc (.cells zr ty)))
  (h : K (a.put (some d) (.pointer (some ⟨w.heap.size, 0, none⟩))) (w.alloc (.cells zr ty))) : Oper.wp P ⟨some d, .alloc ty, t, p, af, gd⟩ a w K Q := by
 unfold Oper.wp
 rw [he]
 exact h
def tlJ {X : Type} (kn : List (Nat × Value)) (ci st : Nat) (Pre : (Nat → Bool) → (Nat → Value) → World → Prop) (Post : X → World → Prop) (ix : List Nat) (val : X → Nat → Value) (sto : X → World → World) (dn : Nat → Bool) (cv : Nat → Value) (w : World) : Prop :=
 (∀ p ∈ kn, dn p.1 = true → cv p.1 = p.2) ∧
 ((dn ci = false ∧ Pre dn cv w) ∨ (dn ci = true ∧ ∃ x w2, Post x w2 ∧ (∀ j ∈ ix, dn j = true → cv j = val x j) ∧ w = if dn st = true then sto x w2 else w2))
section
variable {X : Type} {kn : List (Nat × Value)} {ci st : Nat} {Pre : (Nat → Bool) → (Nat → Value) → World → Prop} {Post : X → World → Prop} {ix : List Nat} {val : X → Nat → Value} {sto : X → World → World} {dn : Nat → Bool} {cv : Nat → Value} {w w' : World}
theorem tl_start (h : Pre (fun _ => false) (fun _ => undef) w) : tlJ kn ci st Pre Post ix val sto (fun _ => false) (fun _ => undef) w := ⟨by simp, .inl ⟨rfl, h⟩⟩
theorem tl_pre (h : tlJ kn ci st Pre Post ix val sto dn cv w) (hc : dn ci = false) : Pre dn cv w := by
 rcases h.2 with ⟨_, h⟩ | ⟨h, _⟩
 ·exact h
 ·rw [hc] at h; cases h
theorem tl_ci {x : X} (h : tlJ kn ci st Pre Post ix val sto dn cv w) (hk : ∀ p ∈ kn, p.1 ≠ ci) (hi : ∀ j ∈ ix, j ≠ ci → dn j = false) (hs : dn st = false) (hsc : st ≠ ci) (hv : v = val x ci) (hp : Post x w') :
  tlJ kn ci st Pre Post ix val sto (fun j => if j = ci then true else dn j) (fun j => if j = ci then v else cv j) w' := by
 refine ⟨fun p hp' hd => ?_, .inr ⟨by simp, x, w', hp, fun j hj hd => ?_, ?_⟩⟩
 ·dsimp only at hd ⊢
  rw [if_neg (hk p hp')] at hd ⊢; exact h.1 p hp' hd
 ·dsimp only at hd ⊢
  by_cases e : j = ci
  ·rw [if_pos e, e]; exact hv
  ·rw [if_neg e, hi j hj e] at hd; cases hd
 ·dsimp only
  simp [hsc, hs]
theorem tl_ix (h : tlJ kn ci st Pre Post ix val sto dn cv w) (hc : dn ci = true) (hk : k ≠ ci) (hs : k ≠ st) (hkn : ∀ p ∈ kn, p.1 ≠ k) :
  ∃ x, (∀ j ∈ ix, dn j = true → cv j = val x j) ∧ ∀ v, v = val x k → tlJ kn ci st Pre Post ix val sto (fun j => if j = k then true else dn j) (fun j => if j = k then v else cv j) w := by
 rcases h.2 with ⟨h2, _⟩ | ⟨_, x, w2, h1, h2, h3⟩
 ·rw [hc] at h2; cases h2
 refine ⟨x, h2, fun v hv => ⟨fun p hp' hd => ?_, .inr ⟨(if_neg (fun e => hk e.symm)).trans hc, x, w2, h1, fun j hj hd => ?_, ?_⟩⟩⟩
 ·dsimp only at hd ⊢
  rw [if_neg (hkn p hp')] at hd ⊢; exact h.1 p hp' hd
 ·dsimp only at hd ⊢
  by_cases e : j = k
  ·rw [if_pos e, e]; exact hv
  ·rw [if_neg e] at hd ⊢; exact h2 j hj hd
 ·dsimp only
  have e : (if st = k then true else dn st) = dn st := if_neg (fun e => hs e.symm)
  simp only [e]
  exact h3
theorem tl_st (h : tlJ kn ci st Pre Post ix val sto dn cv w) (hc : dn ci = true) (hs : dn st = false) (hsc : ci ≠ st) (hkn : ∀ p ∈ kn, p.1 ≠ st) (hix : ∀ j ∈ ix, j ≠ st) :
  ∃ x, Post x w ∧ (∀ j ∈ ix, dn j = true → cv j = val x j) ∧ ∀ v, tlJ kn ci st Pre Post ix val sto (fun j => if j = st then true else dn j) (fun j => if j = st then v else cv j) (sto x w) := by
 rcases h.2 with ⟨h2, _⟩ | ⟨_, x, w2, h1, h2, h3⟩
 ·rw [hc] at h2; cases h2
 rw [hs, if_neg (by simp)] at h3
 subst h3
 refine ⟨x, h1, h2, fun v => ⟨fun p hp' hd => ?_, .inr ⟨(if_neg hsc).trans hc, x, w, h1, fun j hj hd => ?_, ?_⟩⟩⟩
 ·dsimp only at hd ⊢
  rw [if_neg (hkn p hp')] at hd ⊢; exact h.1 p hp' hd
 ·dsimp only at hd ⊢
  rw [if_neg (hix j hj)] at hd ⊢; exact h2 j hj hd
 ·simp
theorem tl_end (h : tlJ kn ci st Pre Post ix val sto dn cv w) (hc : dn ci = true) (hs : dn st = true) : ∃ x w2, Post x w2 ∧ (∀ j ∈ ix, dn j = true → cv j = val x j) ∧ w = sto x w2 := by
 rcases h.2 with ⟨h2, _⟩ | ⟨_, x, w2, h1, h2, h3⟩
 ·rw [hc] at h2; cases h2
 rw [hs, if_pos rfl] at h3
 exact ⟨x, w2, h1, h2, h3⟩
end
structure TbJ {X : Type} (w0 : World) (ci al st : Nat) (ix : List Nat) (val : X → Nat → Value) (row : X → Array Value) (zr : Array Value) (R : X → World → Prop) (x : X) (b gb : Nat) (w2 : World) (dn : Nat → Bool) (cv : Nat → Value) (w : World) : Prop where
 bel : Below w0.heap.size w0 w
 call : dn ci = true → w0.heap.size ≤ b ∧ Fresh b w2 (R x) ∧ Kp b w2 w ∧ w2.heap.size ≤ w.heap.size
 vals : dn ci = true → ∀ j ∈ ix, dn j = true → cv j = val x j
 box : dn al = true → cv al = .pointer (some ⟨gb, 0, none⟩) ∧ w0.heap.size ≤ gb ∧ gb < w.heap.size ∧ frOf w gb = (0, 0) ∧ (dn st = false → rowOf w gb = zr) ∧ (dn st = true → rowOf w gb = row x)
 apart : dn ci = true → dn al = true → gb < b ∨ w2.heap.size ≤ gb
def tbJ {X : Type} (w0 : World) (ci al st : Nat) (ix : List Nat) (val : X → Nat → Value) (row : X → Array Value) (zr : Array Value) (R : X → World → Prop) (dn : Nat → Bool) (cv : Nat → Value) (w : World) : Prop :=
 ∃ (x : X) (b gb : Nat) (w2 : World), TbJ w0 ci al st ix val row zr R x b gb w2 dn cv w
section
variable {X : Type} {w0 w w' : World} {ci al st : Nat} {ix : List Nat} {val : X → Nat → Value} {row : X → Array Value} {zr : Array Value} {R : X → World → Prop} {dn : Nat → Bool} {cv : Nat → Value}
theorem tbJ_start (x : X) : tbJ w0 ci al st ix val row zr R (fun _ => false) (fun _ => undef) w0.drew :=
 ⟨x, 0, 0, w0, (Below.refl _ _).drew, by simp, by simp, by simp, by simp⟩
theorem tbJ_bel (h : tbJ w0 ci al st ix val row zr R dn cv w) : Below w0.heap.size w0 w := by
 obtain ⟨_, _, _, _, h⟩ := h
 exact h.bel
theorem tbJ_c (hi : ∀ j ∈ ix, j ≠ ci → dn j = false) (h7 : dn st = false) (n5 : al ≠ ci) (n6 : st ≠ ci) (h : tbJ w0 ci al st ix val row zr R dn cv w) {x : X} (hv : v = val x ci) (hp : Fresh w.heap.size w' (R x)) (hb : Below w.heap.size w w') :
  tbJ w0 ci al st ix val row zr R (fun j => if j = ci then true else dn j) (fun j => if j = ci then v else cv j) w' := by
 obtain ⟨x0, b0, gb, w20, h⟩ := h
 have hs := h.bel.size
 refine ⟨x, w.heap.size, gb, w', h.bel.trans (hb.mono hs), fun _ => ⟨hs, hp, Kp.refl _ _, Nat.le_refl _⟩, fun _ j hj hd => ?_, ?_, ?_⟩
 ·try dsimp only at hd ⊢
  by_cases e : j = ci
  ·rw [if_pos e, e]; exact hv
  ·rw [if_neg e, hi j hj e] at hd; cases hd
 ·simp only [n5, n6, if_false]
  intro ha
  obtain ⟨g1, g2, g3, g4, g5, g6⟩ := h.box ha
  exact ⟨g1, g2, Nat.lt_of_lt_of_le g3 hb.size, (frOf_below g3 hb).trans g4, fun e => (rowOf_below g3 hb).trans (g5 e), fun e => by rw [h7] at e; cases e⟩
 ·simp only [n5, if_false]
  exact fun _ ha => .inl (h.box ha).2.2.1
theorem tbJ_k (hc : dn ci = true) (hne : k ≠ ci) (hal : k ≠ al) (hst : k ≠ st) (h : tbJ w0 ci al st ix val row zr R dn cv w) :
  ∃ x, (∀ j ∈ ix, dn j = true → cv j = val x j) ∧ ∀ v, v = val x k → tbJ w0 ci al st ix val row zr R (fun j => if j = k then true else dn j) (fun j => if j = k then v else cv j) w := by
 obtain ⟨x, b, gb, w2, h⟩ := h
 refine ⟨x, h.vals hc, fun v hv => ⟨x, b, gb, w2, h.bel, ?_, fun _ j hj hd => ?_, ?_, ?_⟩⟩
 ·simp only [fun e : ci = k => hne e.symm, if_neg (fun e : ci = k => hne e.symm)]
  exact h.call
 ·try dsimp only at hd ⊢
  by_cases e : j = k
  ·rw [if_pos e, e]; exact hv
  ·rw [if_neg e] at hd ⊢; exact h.vals hc j hj hd
 ·simp only [if_neg (fun e : al = k => hal e.symm), if_neg (fun e : st = k => hst e.symm)]
  exact h.box
 ·simp only [if_neg (fun e : ci = k => hne e.symm), if_neg (fun e : al = k => hal e.symm)]
  exact h.apart
theorem tbJ_a {ty : TypeId} (hal : dn al = false) (hs : dn st = false) (hix : ∀ j ∈ ix, j ≠ al) (n5 : ci ≠ al) (n6 : st ≠ al) (h : tbJ w0 ci al st ix val row zr R dn cv w) :
  tbJ w0 ci al st ix val row zr R (fun j => if j = al then true else dn j) (fun j => if j = al then .pointer (some ⟨w.heap.size, 0, none⟩) else cv j) (w.alloc (.cells zr ty)) := by
 obtain ⟨x, b, gb, w2, h⟩ := h
 have hsz := h.bel.size
 refine ⟨x, b, w.heap.size, w2, h.bel.alloc hsz _, ?_, ?_, ?_, ?_⟩
 ·simp only [if_neg n5]
  intro e
  obtain ⟨g2, g3, g4, g5⟩ := h.call e
  exact ⟨g2, g3, g4.alloc g5 _, by simp; omega⟩
 ·simp only [if_neg n5]
  intro e j hj hd
  rw [if_neg (hix j hj)] at hd ⊢
  exact h.vals e j hj hd
 ·simp only [n6, if_false, if_true]
  refine fun _ => ⟨trivial, hsz, by simp, by rw [frOf_alloc, if_pos rfl], fun _ => by rw [rowOf_alloc, if_pos rfl], fun e => by rw [hs] at e; cases e⟩
 ·simp only [if_neg n5]
  intro e _
  exact .inr (h.call e).2.2.2
theorem tbJ_s (hz : 0 < zr.size) (hd : dn ci = true) (hs : dn st = false) (hal : dn al = true) (hix : ∀ j ∈ ix, j ≠ st) (n5 : ci ≠ st) (n6 : al ≠ st) (h : tbJ w0 ci al st ix val row zr R dn cv w) :
  ∃ (x : X) (gb : Nat), cv al = .pointer (some ⟨gb, 0, none⟩) ∧ (∀ j ∈ ix, dn j = true → cv j = val x j) ∧ rowOf w gb = zr ∧ frOf w gb = (0, 0) ∧ ∀ v, tbJ w0 ci al st ix val row zr R (fun j => if j = st then true else dn j) (fun j => if j = st then v else cv j) (w.setRow gb (row x)) := by
 obtain ⟨x, b, gb, w2, h⟩ := h
 obtain ⟨b1, b2, b3, b4, b5, b6⟩ := h.box hal
 have hr := b5 hs
 refine ⟨x, gb, b1, h.vals hd, hr, b4, fun v => ⟨x, b, gb, w2, below_row h.bel b2 _, ?_, ?_, ?_, ?_⟩⟩
 ·simp only [if_neg n5]
  intro e
  obtain ⟨g2, g3, g4, g5⟩ := h.call e
  exact ⟨g2, g3, g4.row (h.apart e hal) _, by simp [World.setRow]; exact g5⟩
 ·simp only [if_neg n5]
  intro e j hj hd'
  rw [if_neg (hix j hj)] at hd' ⊢
  exact h.vals e j hj hd'
 ·simp only [n6, if_false, if_true]
  refine fun _ => ⟨b1, b2, by simp [World.setRow]; exact b3, by rw [frOf_setRow]; exact b4, fun e => by simp at e, fun _ => by rw [rowOf_setRow _ _ _ _ (by rw [hr]; exact hz), if_pos rfl]⟩
 ·simp only [if_neg n5, if_neg n6]
  exact h.apart
theorem tbJ_end (h1 : dn ci = true) (h6 : dn al = true) (h7 : dn st = true) (h : tbJ w0 ci al st ix val row zr R dn cv w) :
  ∃ (x : X) (b gb : Nat) (w2 : World), (∀ j ∈ ix, dn j = true → cv j = val x j) ∧ cv al = .pointer (some ⟨gb, 0, none⟩) ∧
   rowOf w gb = row x ∧ frOf w gb = (0, 0) ∧ w0.heap.size ≤ gb ∧ gb < w.heap.size ∧ Below w0.heap.size w0 w ∧ w0.heap.size ≤ b ∧ Fresh b w2 (R x) ∧ Kp b w2 w ∧ w2.heap.size ≤ w.heap.size ∧ (gb < b ∨ w2.heap.size ≤ gb) := by
 obtain ⟨x, b, gb, w2, h⟩ := h
 obtain ⟨g2, g3, g4, g5⟩ := h.call h1
 obtain ⟨b1, b2, b3, b4, b5, b6⟩ := h.box h6
 exact ⟨x, b, gb, w2, h.vals h1, b1, b6 h7, b4, b2, b3, h.bel, g2, g3, g4, g5, h.apart h1 h6⟩
end
structure WLoc where
 ar : Option Addr
 cr : Nat
 l : DLoc
 an : Option Addr
 cn : Nat
def worA (x : Wor) (L : WLoc) : Array Value := #[.slice L.ar x.rel.length L.cr, .slice L.l.a0 x.d.s0.length L.l.c0, .slice L.l.a1 x.d.s1.length L.l.c1, .bool x.d.c0.ok, iv x.d.c0.r.gen, iv x.d.c0.r.active, .bool x.d.c0.r.trying, iv x.d.c0.r.tries, iv x.d.c0.r.floor, iv x.d.c0.r.a.ver, iv x.d.c0.r.a.size, iv x.d.c0.r.a.sum, iv x.d.c0.r.b.ver, iv x.d.c0.r.b.size, iv x.d.c0.r.b.sum, .bool x.d.c1.ok, iv x.d.c1.r.gen, iv x.d.c1.r.active, .bool x.d.c1.r.trying, iv x.d.c1.r.tries, iv x.d.c1.r.floor, iv x.d.c1.r.a.ver, iv x.d.c1.r.a.size, iv x.d.c1.r.a.sum, iv x.d.c1.r.b.ver, iv x.d.c1.r.b.size, iv x.d.c1.r.b.sum, .bool x.d.up, iv x.d.running, .slice L.l.ag x.d.got.length L.l.cg, .bool x.d.busy, iv x.d.job.from_, iv x.d.job.to_, iv x.d.job.old, iv x.d.job.new_, iv x.d.job.size, .slice L.l.aj x.d.job.ops.length L.l.cj, iv x.d.done, .slice L.an x.net.length L.cn]
@[go_sem] theorem aggSzWor : aggSz Try.prog 88 = 39 := by kernel_rfl
structure WorIn (w : World) (x : Wor) (L : WLoc) : Prop where
 kr : x.rel.length ≤ L.cr
 lr : x.rel.length ≤ 1048576
 rel : Ims w L.ar x.rel
 dev : DevIn w x.d L.l
 kn : x.net.length ≤ L.cn
 ln : x.net.length ≤ 1048576
 net : Chs w L.an x.net
def FrIn (base m : Nat) (w : World) (P : World → Prop) : Prop := ∀ v : World, (∀ k, base ≤ k → k < m → v.heap[k]? = w.heap[k]?) → P v
section
variable {base m : Nat} {w v : World} {P Q : World → Prop}
end
structure WorAt (w : World) (base m top : Nat) (ds : List (Option Addr × Nat)) (x : Wor) (L : WLoc) : Prop where
 h1 : base ≤ m
 h2 : m ≤ top
 h3 : top ≤ w.heap.size
 rel : FrIn base m w (fun v => Ims v L.ar x.rel)
 dev : FrIn base m w (fun v => DevIn v x.d L.l)
 net : GRow kChk w m x.net ds L.an L.cn
 each : Each kChk x.net ds (fun k => m ≤ k ∧ k < top)
 blk : ∀ k, L.an.map (·.block) = some k → k < top
 bd : ∀ y ∈ x.net, ChkB y
 kr : x.rel.length ≤ L.cr
 lr : x.rel.length ≤ 1048576
 ln : x.net.length ≤ 1048576
section
variable {w v : World} {base m top : Nat} {ds : List (Option Addr × Nat)} {x : Wor} {L : WLoc}
end
@[go_sem] theorem build_wor2 (a : Option Addr) (c : Nat) (l : List (List UInt8)) (d : Dev) (K : DLoc) (w : World) : runBuild Try.prog 88 #[(0, .slice a l.length c), (1, .agg (devA d K))] w = .ok (.agg (worA ⟨l, d, []⟩ ⟨a, c, K, none, 0⟩)) w := by kernel_rfl
@[go_sem] theorem build_wor3 (a : Option Addr) (c : Nat) (l : List (List UInt8)) (d : Dev) (K : DLoc) (b : Option Addr) (e : Nat) (t : List Chk) (w : World) : runBuild Try.prog 88 #[(0, .slice a l.length c), (1, .agg (devA d K)), (2, .slice b t.length e)] w = .ok (.agg (worA ⟨l, d, t⟩ ⟨a, c, K, b, e⟩)) w := by kernel_rfl
end Go.Proofs.Ytefkfglkpebbmac
