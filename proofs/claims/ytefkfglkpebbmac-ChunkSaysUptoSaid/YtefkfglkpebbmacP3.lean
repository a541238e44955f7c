/- Walks of functions, and plain words. No conditions. -/
import Derived.Test.YtefkfglkpebbmacPE2
import Derived.Test.YtefkfglkpebbmacP2
set_option linter.unusedVariables false
set_option linter.unusedSimpArgs false
set_option maxRecDepth 100000
set_option maxHeartbeats 40000000
namespace Go.Proofs.Ytefkfglkpebbmac
open Go.RowKit
variable {w w' : World} {base c : Nat} {A : Option Addr} {x : Chk} {l : List Chk}
def ptJ (w0 : World) (base : Nat) (A : Option Addr) (n c : Nat) (xs ns ps : List Value) (i5 i6 i9 i10 : Nat) (done : Nat → Bool) (cv : Nat → Value) (w : World) : Prop :=
 if done i9 = true then (Below base w0 w ∧ ∀ k, k < w0.heap.size → A.map (·.block) ≠ some k → w.heap[k]? = w0.heap[k]?) ∧ ∃ A2 c2, cv i9 = .slice A2 (n + 2 + ps.length) c2 ∧ Own w base 5 1 A2 (n + 2 + ps.length) c2 (xs ++ ns ++ ps) ∧ (done i10 = true → cv i10 = .slice A2 (n + 2 + ps.length) c2)
 else if done i6 = true then (Below base w0 w ∧ ∀ k, k < w0.heap.size → A.map (·.block) ≠ some k → w.heap[k]? = w0.heap[k]?) ∧ ∃ A1 c1, cv i6 = .slice A1 (n + 2) c1 ∧ Own w base 5 1 A1 (n + 2) c1 (xs ++ ns) ∧ (A1.map (·.block) = A.map (·.block) ∨ ∀ k, A1.map (·.block) = some k → w0.heap.size ≤ k)
 else if done i5 = true then (Below base w0 w ∧ ∀ k, k < w0.heap.size → A.map (·.block) ≠ some k → w.heap[k]? = w0.heap[k]?) ∧ Own w base 5 1 A n c xs ∧ ∃ bb, cv i5 = .slice (some ⟨bb, 0, none⟩) 2 2 ∧ w.heap[bb]? = some (.cells ns.toArray 5 (0, 0)) ∧ w0.heap.size ≤ bb
 else w = w0.drew
theorem ptJ_frame {w0 : World} {n i5 i6 i9 i10 : Nat} {xs ns ps : List Value} {done : Nat → Bool} {cv : Nat → Value} (h : ptJ w0 base A n c xs ns ps i5 i6 i9 i10 done cv w) : Below base w0 w ∧ ∀ k, k < w0.heap.size → A.map (·.block) ≠ some k → w.heap[k]? = w0.heap[k]? := by
 unfold ptJ at h
 split at h
 ·exact h.1
 ·split at h
  ·exact h.1
  ·split at h
   ·exact h.1
   ·subst h; exact ⟨(Below.refl _ _).drew, fun _ _ _ => rfl⟩
theorem wp_asg {P : Program} {a : Act} {K : Act → World → Prop} {Q : Exit → Act → World → Prop} {x : Operand} {v : Value} {d : Option Tmp} {t : TypeId} {p : String} {af : Array Edge} {g : Option (Nat × Bool)} (e : a.eval x = v) (h : K (a.put d v) w) : Oper.wp P ⟨d, .assign x, t, p, af, g⟩ a w K Q := by
 unfold Oper.wp
 rw [mx_assign e]
 exact h
theorem wp_sb2i {a : Act} {K : Act → World → Prop} {Q : Exit → Act → World → Prop} {t : TypeId} {p : String} {af : Array Edge} {gd : Option (Nat × Bool)} {d r : Tmp} {m : Int} (hr : a.tmps[r]? = some (.int .u8 m))
  (h : K (a.put (some d) (.slice (some ⟨w.heap.size, 0, none⟩) 2 2)) (w.alloc (.cells #[.int .u8 255, .int .u8 m] 5))) :
  Oper.wp Try.prog ⟨some d, .buildSlice 22 2 #[(0, .const (.int .u8 255)), (1, .tmp r)], t, p, af, gd⟩ a w K Q := by
 have e1 : a.eval (.const (.int .u8 255)) = .int .u8 255 := rfl
 have e2 : a.eval (.tmp r) = .int .u8 m := by simp [Act.eval, hr]
 unfold Oper.wp execOp
 simp only [e1, e2, List.map_toArray, List.map_cons, List.map_nil]
 go_simp
 exact h
theorem bts_same {l : List UInt8} (h : Bts w A l) (hk : ∀ k, A.map (·.block) = some k → k < w.heap.size → w'.heap[k]? = w.heap[k]?) : Bts w' A l := by
 intro i hi
 obtain ⟨b, o, rfl, hlt, hc⟩ := h i hi
 have e := hk b rfl hlt
 refine ⟨b, o, rfl, ?_, (World.cell?_of_block e).trans hc⟩
 rcases Nat.lt_or_ge b w'.heap.size with h | h
 ·exact h
 ·rw [Array.getElem?_eq_none h, Array.getElem?_eq_getElem hlt] at e; cases e
theorem own_blk {e g n : Nat} {cs : List Value} (h : w.heap[g]? = some (.cells cs.toArray e (0, 0))) (hb : base ≤ g) (hl : cs.length = n) (hn : n ≤ 1048576) : Own w base e 1 (some ⟨g, 0, none⟩) n n cs :=
 ⟨by omega, Or.inr ⟨g, n, _, rfl, hb, h, Nat.le_refl _, by unfold maxLen; omega, by simp; omega, by simp [← hl]⟩⟩
theorem bv_by (n : Int) (h : 0 ≤ n ∧ n ≤ 255) : bv (by_ n) = .int .u8 n := by unfold bv; rw [by_small h]
theorem bv_by2 (n : Int) : bv (by_ n) = .int .u8 (n % 256) := by unfold bv; rw [by_toNat]
theorem patPut_bad (B : Option Addr) (d : Nat) (p : Pat) (w : World) (hp : PatIn w p B d) (h : patCheck p ≠ 0) :
  Calls Try.prog 97 #[.agg (patA p.from_ p.to_ p.old p.new_ p.size B p.ops.length d)] w (RetB w (.tuple #[.slice none 0 0, iv (patCheck p)])) := by
 obtain ⟨f, t, o, n, sz, l⟩ := p
 obtain ⟨hcap, hlen, hops, -, -, -, -, -⟩ := hp
 dsimp only at *
 have hba := (Below.refl w.heap.size w).alloc (Nat.le_refl _) (.cells (patA f t o n sz B l.length d) 35)
 have K1 := hD (patCheck_calls B d f t o n sz l _ hlen (hops.stays hba))
 generalize patCheck ⟨f, t, o, n, sz, l⟩ = ck at *
 have q : (ck != 0) = true := by simp [h]
 clear hops h
 go_enter Try.func97, Try.ntmps97
 go_wp2_with fail
 refine K1.out.mono ?_
 rintro e w1 ⟨rfl, hb1⟩
 go_wp2_with fail
 go_ret2
 exact ⟨rfl, hba.trans (hb1.mono (by simp))⟩
theorem patPut_ok (B : Option Addr) (d : Nat) (p : Pat) (w : World) (hp : PatIn w p B d) (h : patCheck p = 0) :
  Calls Try.prog 97 #[.agg (patA p.from_ p.to_ p.old p.new_ p.size B p.ops.length d)] w (UnRet w (patBytes p, 0)) := by
 have hl400 := patBytes_len h
 obtain ⟨hr, hd⟩ := patCheck_ok.1 h
 have HPB : Hid (patBytes p = patHead p ++ opsBytes p.ops) := hD rfl
 obtain ⟨f, t, o, n, sz, l⟩ := p
 obtain ⟨hcap, hlen, hops, -, -, -, -, -⟩ := hp
 unfold Pat.range at hr
 dsimp only at *
 obtain ⟨r1, r2, r3, r4, r5, r6, r7, r8⟩ := hr
 have r9 := hd.s0
 have r10 := hd.s1
 have r11 := hd.many
 have hba := (Below.refl w.heap.size w).alloc (Nat.le_refl _) (.cells (patA f t o n sz B l.length d) 35)
 have K1 := hD (patCheck_calls B d f t o n sz l _ hlen (hops.stays hba))
 rw [h] at K1
 have HD := hD hd
 have HS := hD hops
 have HBA := hD hba
 clear hops hd h hba
 go_enter Try.func97, Try.ntmps97
 go_wp2_with fail
 refine K1.out.mono ?_
 rintro e w1 ⟨rfl, hb1⟩
 obtain ⟨a0r, a0f, a0n, a0c, a0z, a0l⟩ := kp (w.heap.size) (patA f t o n sz B l.length d) hb1
 have HB1 := hD (HBA.out.trans (hb1.mono (by simp)))
 clear hb1 K1
 go_wp2_with fail
 generalize hbase : w.heap.size = base at *
 have HBE := hD hbase
 have hsw1 := HB1.out.size
 have hlw1 : base ≤ w1.heap.size := by omega
 have hhd : ((patHead ⟨f, t, o, n, sz, l⟩).map bv) = [.int .u8 f, .int .u8 t, .int .u8 (o / 256), .int .u8 (o % 256), .int .u8 (n / 256), .int .u8 (n % 256), .int .u8 sz, .int .u8 (l.length : Int)] := by
  unfold patHead
  simp only [List.map_cons, List.map_nil]
  rw [bv_by f (by omega), bv_by t (by omega), bv_by (o / 256) (by omega), bv_by2 o, bv_by (n / 256) (by omega), bv_by2 n, bv_by sz (by omega), bv_by (l.length : Int) (by omega)]
 have hot := own_blk (w := w1.alloc (.cells #[.int .u8 f, .int .u8 t, .int .u8 (o / 256), .int .u8 (o % 256), .int .u8 (n / 256), .int .u8 (n % 256), .int .u8 sz, .int .u8 (l.length : Int)] 5)) (base := base) (g := w1.heap.size) (n := 8) (cs := [.int .u8 f, .int .u8 t, .int .u8 (o / 256), .int .u8 (o % 256), .int .u8 (n / 256), .int .u8 (n % 256), .int .u8 sz, .int .u8 (l.length : Int)]) (blk_top rfl) hlw1 rfl (by decide)
 have hot2 := hot
 have HOT : Hid (Own (w1.alloc (.cells #[.int .u8 f, .int .u8 t, .int .u8 (o / 256), .int .u8 (o % 256), .int .u8 (n / 256), .int .u8 (n % 256), .int .u8 sz, .int .u8 (l.length : Int)] 5)) base 5 1 (some ⟨w1.heap.size, 0, none⟩) 8 8 ((patHead ⟨f, t, o, n, sz, l⟩).map bv)) := hD (by rw [hhd]; exact hot2)
 have HB2 : Hid (Below base w (w1.alloc (.cells #[.int .u8 f, .int .u8 t, .int .u8 (o / 256), .int .u8 (o % 256), .int .u8 (n / 256), .int .u8 (n % 256), .int .u8 sz, .int .u8 (l.length : Int)] 5))) := hD (HB1.out.alloc hlw1 _)
 clear hhd hot hot2 a0r a0f a0n a0c a0z a0l
 have hph8 : (patHead ⟨f, t, o, n, sz, l⟩).length = 8 := rfl
 have HP8 := hD hph8
 clear hph8
 generalize patHead ⟨f, t, o, n, sz, l⟩ = hd at *
 generalize patBytes ⟨f, t, o, n, sz, l⟩ = pb at *
 go_loopw [5, 44] (fun v i wr => ∃ (k : Nat) (C : Option Addr) (cc : Nat) (pre : List UInt8), k ≤ l.length ∧ i = .int .i64 k ∧ v = .slice C pre.length cc ∧ Hid (pre = hd ++ opsBytes (l.take k)) ∧ Hid (Own wr base 5 1 C pre.length cc (pre.map bv)) ∧ Hid (Below base w wr)) (fun _ i _ => l.length - (intOf i).toNat)
 case atStart => exact ⟨0, _, 8, hd, Nat.zero_le _, rfl, by rw [HP8.out], hD (by simp [opsBytes]), by rw [HP8.out]; exact HOT, HB2⟩
 case round =>
  clear HOT HB2 HB1 HBA
  rename World => wz
  obtain ⟨k, C, cc, pre, hk, rfl, rfl, HPRE, HO0, HB0⟩ := hrel
  have hbz : base ≤ wz.heap.size := Nat.le_trans (Nat.le_of_eq HBE.out.symm) HB0.out.size
  have hpl : pre.length + (opsBytes (l.drop k)).length = pb.length := by
   rw [HPB.out, HPRE.out, ← List.length_append, List.append_assoc, ← opsBytes_append, List.take_append_drop]
  by_cases hlt : k < l.length
  ·have hxo := HD.out.each l[k] (List.getElem_mem hlt)
   have hbw : Below w.heap.size w wz := HBE.out ▸ HB0.out
   obtain ⟨sb, so, D, dc, rfl, hsb, q0, q1, q2, p3, p4, p5, -, -⟩ := HS.out.at_ hlt
   have p0 := (hbw.cell (p := ⟨sb, so + k * 3, none⟩) hsb).trans q0
   have p1 := (hbw.cell (p := ⟨sb, so + k * 3 + 1, none⟩) hsb).trans q1
   have p2 := (hbw.cell (p := ⟨sb, so + k * 3 + 2, none⟩) hsb).trans q2
   clear q0 q1 q2
   have hpre2 : hd ++ opsBytes (l.take (k + 1)) = pre ++ stpBytes l[k] := by rw [List.take_succ_eq_append_getElem hlt, opsBytes_append, opsBytes_one, ← List.append_assoc, ← HPRE.out]
   have hdrop : l.drop k = l[k] :: l.drop (k + 1) := List.drop_eq_getElem_cons hlt
   rw [hdrop, opsBytes_cons, List.length_append] at hpl
   obtain ⟨x, hx⟩ : ∃ x, l[k] = x := ⟨_, rfl⟩
   rw [hx] at hxo hpre2 hpl p0 p1 p2 p3 p4 p5
   clear hx hdrop
   obtain ⟨at_, len, data⟩ := x
   obtain ⟨hform, hin⟩ := hxo
   unfold Stp.in_ at hin
   dsimp only at *
   obtain ⟨j1, j2, j3⟩ := hin
   have HDT0 := hD (p5.stays hbw)
   have HDW := hD p5
   clear hbw
   have HPRE2 := hD hpre2
   have dl : decide ((k : Int) < (l.length : Int)) = true := decide_eq_true (by omega)
   have hwk : IntKind.i64.wrap ((k : Int) + 1) = (k : Int) + 1 := IntWalk.i64_in _ (by omega)
   clear p5 hpre2
   by_cases hl0 : 0 < len
   ·have hst : stpBytes ⟨at_, len, data⟩ = [by_ at_, by_ len] := by unfold stpBytes; rw [if_pos hl0]
    rw [hst] at HPRE2 hpl
    have hj4 : at_ ≤ 64 := by omega
    have hj5 : len ≤ 64 := by omega
    have HBV : Hid (([by_ at_, by_ len] : List UInt8).map bv = [.int .u8 at_, .int .u8 len]) := hD (by simp only [List.map_cons, List.map_nil]; rw [bv_by at_ (by omega), bv_by len (by omega)])
    have hoa := (HO0.out.alloc (.cells #[iv at_, iv len, .slice D data.length dc] 117)).alloc (.cells #[.int .u8 at_, .int .u8 len] 5)
    have hs1 : Src ((wz.alloc (.cells #[iv at_, iv len, .slice D data.length dc] 117)).alloc (.cells #[.int .u8 at_, .int .u8 len] 5)) (some ⟨wz.heap.size + 1, 0, none⟩) [.int .u8 at_, .int .u8 len] := src_blk (blk_top (by simp))
    have hob : pre.length + 2 ≤ 1073741824 := by omega
    have hle : base ≤ ((wz.alloc (.cells #[iv at_, iv len, .slice D data.length dc] 117)).alloc (.cells #[.int .u8 at_, .int .u8 len] 5)).heap.size := by simp; omega
    clear hst hform hpl
    go_wp2_with (at_builtin; go_must (refine wpList_app ((wz.alloc (.cells #[iv at_, iv len, .slice D data.length dc] 117)).alloc (.cells #[.int .u8 at_, .int .u8 len] 5)) rfl _ _ 22 rfl elBytes base C pre.length cc (pre.map bv) rfl hoa (some ⟨wz.heap.size + 1, 0, none⟩) 2 2 [.int .u8 at_, .int .u8 len] rfl hs1 rfl (by simp [Value.oneCell']) hob hle ?_; intro C1 c1 w2 hown hgr hbel hor))
    have HB3 : Hid (Below base w w2) := hD (((HB0.out.alloc hbz _).alloc (by simp; omega) _).trans hbel)
    have HL : Hid (pre.length + 2 = (pre ++ [by_ at_, by_ len]).length) := hD (by simp)
    have HO3 : Hid (Own w2 base 5 1 C1 (pre ++ [by_ at_, by_ len]).length c1 ((pre ++ [by_ at_, by_ len]).map bv)) := hD (by rw [List.map_append, HBV.out, ← HL.out]; exact hown)
    clear hown hgr hbel hor hoa hs1 hob hle
    go_roundw
    case rel => exact ⟨k + 1, C1, c1, pre ++ [by_ at_, by_ len], by omega, by go_num, by rw [HL.out], hD HPRE2.out.symm, HO3, HB3⟩
    case measure => simp [intOf]; omega
   ·obtain rfl : len = 0 := by omega
    obtain ⟨rfl, hd1, hd2⟩ := hform.1 rfl
    have hst : stpBytes ⟨0, 0, data⟩ = 255 :: by_ data.length :: data := by unfold stpBytes; rw [if_neg (by simp)]
    rw [hst] at HPRE2 hpl
    simp only [List.length_cons] at hpl
    have hdl : data.length ≤ 64 := hd2
    have HU8 : Hid (IntKind.u8.wrap (data.length : Int) = (data.length : Int)) := hD (by unfold IntKind.wrap; simp [IntKind.signed, IntKind.bits]; omega)
    have HBV : Hid ((255 :: by_ data.length :: data : List UInt8).map bv = [.int .u8 255, .int .u8 (data.length : Int)] ++ data.map bv) := hD (by simp only [List.map_cons]; rw [bv_by (data.length : Int) (by omega)]; rfl)
    have HG : Hid ((wz.alloc (.cells #[iv 0, iv 0, .slice D data.length dc] 117)).heap[wz.heap.size]? = some (.cells #[iv 0, iv 0, .slice D data.length dc] 117 (0, 0))) := hD (blk_top rfl)
    have HO : Hid (Own (wz.alloc (.cells #[iv 0, iv 0, .slice D data.length dc] 117)) base 5 1 C pre.length cc (pre.map bv)) := hD (HO0.out.alloc _)
    have HBo : Hid (Below base w (wz.alloc (.cells #[iv 0, iv 0, .slice D data.length dc] 117))) := hD (HB0.out.alloc hbz _)
    have HDT : Hid (Bts (wz.alloc (.cells #[iv 0, iv 0, .slice D data.length dc] 117)) D data) := hD (HDT0.out.stays ((Below.refl _ _).alloc (Nat.le_refl _) _))
    have hgC : C.map (·.block) ≠ some wz.heap.size := fun e => by have := (HO0.out.block _ e).2; omega
    have hglt : wz.heap.size < (wz.alloc (.cells #[iv 0, iv 0, .slice D data.length dc] 117)).heap.size := by simp
    have hbo : base ≤ (wz.alloc (.cells #[iv 0, iv 0, .slice D data.length dc] 117)).heap.size := by simp; omega
    have HDC : Hid (∀ k, D.map (·.block) = some k → C.map (·.block) ≠ some k) := hD (by
     intro q hq e
     have h3 := (HO0.out.block q e).1
     obtain ⟨b', o', e4, h5, _⟩ := HDW.out 0 (List.length_pos_iff.2 hd1)
     rw [e4] at hq
     have hq : b' = q := by simpa using hq
     have := HBE.out
     omega)
    clear hst hform hd1
    go_wp2_with fail
    clear p0 p1 p2 dl
    generalize hwo : wz.alloc (.cells #[iv 0, iv 0, .slice D data.length dc] 117) = wo at *
    generalize wz.heap.size = g at *
    refine wp_region_free (by kernel_rfl) (some 60 :: some 61 :: some 62 :: some 63 :: some 64 :: some 65 :: some 66 :: some 67 :: some 68 :: some 69 :: some 5 :: []) (false :: false :: false :: false :: false :: true :: true :: false :: false :: true :: true :: []) (.slice C pre.length cc :: .pointer (some ⟨g, 2, none⟩) :: .slice D data.length dc :: .int .i64 (data.length : Int) :: .int .u8 (data.length : Int) :: undef :: undef :: .pointer (some ⟨g, 2, none⟩) :: .slice D data.length dc :: undef :: undef :: []) (ptJ wo base C pre.length cc (pre.map bv) [.int .u8 255, .int .u8 (data.length : Int)] (data.map bv) 5 6 9 10) 75 rfl rfl (by decide +kernel) (by decide +kernel) (by decide +kernel) rfl rfl (by rw [ptJ, if_neg (by simp), if_neg (by simp), if_neg (by simp)]) ?_ ?_
    ·refine ⟨?_, ?_⟩
     ·intro done cv a wq hn hw hcl h hJ
      have e5 := fr_un (t := 5) (i := 0) (i0 := 10) (v := .slice C pre.length cc) h hcl hn rfl (by decide) (by decide) rfl
      exact mx_move (ch_ev e5)
     refine ⟨?_, ?_⟩
     ·intro done cv a wq hn hw hcl h hJ
      have e7 := fO 7 (.pointer (some ⟨g, 0, none⟩)) h
      go_simp
     refine ⟨?_, ?_⟩
     ·intro done cv a wq hn hw hcl h hJ
      have e61 := fN 1 61 h hw
      have fr := ptJ_frame hJ
      have hg2 := (fr.2 g hglt hgC).trans HG.out
      have hc : wq.cell? ⟨g, 2, none⟩ = some (.slice D data.length dc) := by rw [cell_of_row _ _ _ _ _ _ hg2]; rfl
      go_simp
     refine ⟨?_, ?_⟩
     ·intro done cv a wq hn hw hcl h hJ
      have e62 := fN 2 62 h hw
      go_simp
     refine ⟨?_, ?_⟩
     ·intro done cv a wq hn hw hcl h hJ
      have e63 := fN 3 63 h hw
      have hu := HU8.out
      go_simp
     refine ⟨?_, ?_⟩
     ·intro done cv a wq hn hw hcl h hJ
      have e64 := fN 4 64 h hw
      have hd6 : ¬ maskB [false, false, false, false, false, true, true, false, false, true, true] done 6 = true := by unfold maskB; rw [show done 6 = false from Bool.eq_false_iff.2 (fun e => by have := hcl 6 _ rfl e 5 (by decide); rw [hn] at this; cases this)]; simp
      have hd9 : ¬ maskB [false, false, false, false, false, true, true, false, false, true, true] done 9 = true := by unfold maskB; rw [show done 9 = false from Bool.eq_false_iff.2 (fun e => hd6 (by unfold maskB; rw [hcl 9 _ rfl e 6 (by decide)]; rfl))]; simp
      have hd5 : ¬ maskB [false, false, false, false, false, true, true, false, false, true, true] done 5 = true := by unfold maskB; rw [hn]; simp
      rw [ptJ, if_neg hd9, if_neg hd6, if_neg hd5] at hJ
      obtain rfl : wq = wo.drew := hJ
      refine wp_sb2i e64 ⟨_, rfl, ?_⟩
      rw [ptJ, if_neg (by simp; simpa using hd9), if_neg (by simp; simpa using hd6), if_pos (by simp)]
      exact ⟨⟨(Below.refl _ _).drew.alloc (by simpa using hbo) _, fun k hk hne => Below.heap_alloc wo.drew _ k hk⟩, HO.out.drew.alloc _, wo.heap.size, by simp, blk_top (by simp), Nat.le_refl _⟩
     refine ⟨?_, ?_⟩
     ·intro done cv a wq hn hw hcl h hJ
      have e60 := fN 0 60 h hw; have e65 := fr_cv (i := 5) (t := 65) h (hw 5 (by decide)) rfl rfl
      have hd9 : ¬ maskB [false, false, false, false, false, true, true, false, false, true, true] done 9 = true := by unfold maskB; rw [show done 9 = false from Bool.eq_false_iff.2 (fun e => by have := hcl 9 _ rfl e 6 (by decide); rw [hn] at this; cases this)]; simp
      have hd6 : ¬ maskB [false, false, false, false, false, true, true, false, false, true, true] done 6 = true := by unfold maskB; rw [hn]; simp
      have hd5 : maskB [false, false, false, false, false, true, true, false, false, true, true] done 5 = true := by unfold maskB; rw [hw 5 (by decide)]; rfl
      rw [ptJ, if_neg hd9, if_neg hd6, if_pos hd5] at hJ
      obtain ⟨⟨f1, f2⟩, ho, bb, y1, y2, y3⟩ := hJ
      rw [y1] at e65
      refine wp_app wq (.tmp 60) (.tmp 65) 22 rfl elBytes base C pre.length cc (pre.map bv) (ch_ev e60) ho (some ⟨bb, 0, none⟩) 2 2 [.int .u8 255, .int .u8 (data.length : Int)] (ch_ev e65) (src_blk y2) rfl (by simp [Value.oneCell']) (by omega) (Nat.le_trans hbo f1.size) ?_
      intro A' c' w' hown hgr hbel hor
      refine ⟨_, rfl, ?_⟩
      rw [ptJ, if_neg (by simp; simpa using hd9), if_pos (by simp)]
      refine ⟨⟨f1.trans hbel, fun k hk hne => (hgr.block k (Nat.lt_of_lt_of_le hk f1.size) (fun e => hne e.symm)).trans (f2 k hk hne)⟩, A', c', by simp, hown, ?_⟩
      rcases hor with h | h
      ·exact .inl h
      ·exact .inr (fun k hk => by rw [h] at hk; injection hk with hk; have := f1.size; omega)
     refine ⟨?_, ?_⟩
     ·intro done cv a wq hn hw hcl h hJ
      have e7 := fO 7 (.pointer (some ⟨g, 0, none⟩)) h
      go_simp
     refine ⟨?_, ?_⟩
     ·intro done cv a wq hn hw hcl h hJ
      have e67 := fN 7 67 h hw
      have fr := ptJ_frame hJ
      have hg2 := (fr.2 g hglt hgC).trans HG.out
      have hc : wq.cell? ⟨g, 2, none⟩ = some (.slice D data.length dc) := by rw [cell_of_row _ _ _ _ _ _ hg2]; rfl
      go_simp
     refine ⟨?_, ?_⟩
     ·intro done cv a wq hn hw hcl h hJ
      have e66 := fr_cv (i := 6) (t := 66) h (hw 6 (by decide)) rfl rfl; have e68 := fN 8 68 h hw
      have hd6 : maskB [false, false, false, false, false, true, true, false, false, true, true] done 6 = true := by unfold maskB; rw [hw 6 (by decide)]; rfl
      have hd9 : ¬ maskB [false, false, false, false, false, true, true, false, false, true, true] done 9 = true := by unfold maskB; rw [hn]; simp
      rw [ptJ, if_neg hd9, if_pos hd6] at hJ
      obtain ⟨⟨f1, f2⟩, A1, c1, y1, ho, hor1⟩ := hJ
      rw [y1] at e66
      have hsrc : Src wq D (data.map bv) := (bts_same HDT.out (fun k hk hlt => f2 k hlt (fun e => HDC.out k hk e))).src
      refine wp_app wq (.tmp 66) (.tmp 68) 22 rfl elBytes base A1 (pre.length + 2) c1 (pre.map bv ++ [.int .u8 255, .int .u8 (data.length : Int)]) (ch_ev e66) ho D data.length dc (data.map bv) (ch_ev e68) hsrc (by simp) (bv_one _) (by omega) (Nat.le_trans hbo f1.size) ?_
      intro A' c' w' hown hgr hbel hor
      refine ⟨_, rfl, ?_⟩
      rw [ptJ, if_pos (by simp)]
      refine ⟨⟨f1.trans hbel, fun k hk hne => (hgr.block k (Nat.lt_of_lt_of_le hk f1.size) (fun e => ?_)).trans (f2 k hk hne)⟩, A', c', by simp, by rw [List.length_map]; exact hown, fun e => ?_⟩
      ·rcases hor1 with h | h
       ·exact hne (h.symm.trans e.symm)
       ·have := h k e.symm; omega
      ·exfalso
       have e10 : done 10 = true := by simpa [maskB] using e
       have := hcl 10 _ rfl e10 9 (by decide)
       rw [hn] at this; cases this
     refine ⟨?_, ?_⟩
     ·intro done cv a wq hn hw hcl h hJ
      have e69 := fr_cv (i := 9) (t := 69) h (hw 9 (by decide)) rfl rfl
      have hd9 : maskB [false, false, false, false, false, true, true, false, false, true, true] done 9 = true := by unfold maskB; rw [hw 9 (by decide)]; rfl
      rw [ptJ, if_pos hd9] at hJ
      obtain ⟨fr, A1, c1, y1, ho, _⟩ := hJ
      rw [y1] at e69
      refine wp_asg (ch_ev e69) ⟨_, rfl, ?_⟩
      rw [ptJ, if_pos (by simp; simpa using hd9)]
      exact ⟨fr, A1, c1, by simpa using y1, ho, fun _ => by simp⟩
     exact trivial
    ·intro d cv w3 hall hJ
     rw [ptJ, if_pos (hall 9 rfl (by decide))] at hJ
     obtain ⟨⟨f1, f2⟩, A2, c2, y1, ho, y2⟩ := hJ
     have y3 := y2 (hall 10 rfl (by decide))
     have HB3 : Hid (Below base w w3) := hD (HBo.out.trans f1)
     have HL : Hid (pre.length + 2 + (data.map bv).length = (pre ++ (255 :: by_ data.length :: data)).length) := hD (by simp; omega)
     have HO3 : Hid (Own w3 base 5 1 A2 (pre ++ (255 :: by_ data.length :: data)).length c2 ((pre ++ (255 :: by_ data.length :: data)).map bv)) := hD (by rw [List.map_append, HBV.out, ← HL.out, ← List.append_assoc]; exact ho)
     clear f1 f2 ho y2
     simp only [freeAll, putAll_some, putAll_none, putAll_nil, List.getD_cons_zero, List.getD_cons_succ, Bool.false_eq_true, if_true, if_false, reduceIte, Nat.zero_add, Nat.reduceAdd, List.setIfInBounds_toArray, List.set_cons_zero, List.set_cons_succ]
     rw [y3, HL.out]
     clear y1 y3
     go_wp2_with fail
     go_roundw
     case rel => exact ⟨k + 1, A2, c2, pre ++ (255 :: by_ data.length :: data), by omega, by go_num, rfl, hD HPRE2.out.symm, HO3, HB3⟩
     case measure => simp [intOf]; omega
  ·obtain rfl : k = l.length := by omega
   have dl : decide ((l.length : Int) < (l.length : Int)) = false := by simp
   have hpre : pre = pb := by rw [HPB.out, HPRE.out, List.take_length]
   subst hpre
   have d4 : decide ((400 : Int) < (pre.length : Int)) = false := decide_eq_false (by omega)
   clear hpl
   go_wp2_with fail
   go_ret2
   exact ⟨C, cc, rfl, HBE.out ▸ HO0.out, HBE.out ▸ HB0.out⟩
section
open Go.RowKit
end
def ptOld : List UInt8 := [97, 98, 99, 100, 101, 102, 103, 104]
def ptNew : List UInt8 := [120, 101, 102, 103, 104, 97, 98, 99, 100]
def ptP : Pat := ⟨1, 2, sumOn 1 ptOld, sumOn 1 ptNew, 9, diffed ptOld ptNew⟩
theorem sum_in (l : List UInt8) : 0 ≤ sumOn 1 l ∧ sumOn 1 l ≤ 65535 := by have := sumOn_bd 1 l (by omega); omega
theorem pt_make : patMake (sumOn 1) 1 2 ptOld ptNew = (ptP, 0) ∧ patCheck ptP = 0 ∧ patDo (sumOn 1) ptP ptOld = (ptNew, 0) := patMake_ok sum_in (by omega) (by omega) (by decide) (by decide)
theorem patSame_calls (A B : Option Addr) (c d : Nat) (p q : Pat) (w : World) (hp : PatIn w p A c) (hq : PatIn w q B d) :
  Calls Try.prog 31 #[.agg (patA p.from_ p.to_ p.old p.new_ p.size A p.ops.length c), .agg (patA q.from_ q.to_ q.old q.new_ q.size B q.ops.length d)] w (RetB w (.bool (decide (p = q)))) :=
 patSameA_calls A B c d p.from_ p.to_ p.old p.new_ p.size q.from_ q.to_ q.old q.new_ q.size p.ops q.ops w hp.len hq.len hp.ops hq.ops
theorem refPatCheck_calls (A : Option Addr) (c : Nat) (f t o n sz : Int) (l : List Stp) (w : World) (hl : l.length ≤ 1048576) (hs : Sps w A l) :
  Calls Try.prog 30 #[.agg (patA f t o n sz A l.length c)] w (RetB w (iv (patCheck ⟨f, t, o, n, sz, l⟩))) := refPatCheckA_calls A c f t o n sz l w hl hs
theorem refMade_many (A B : Option Addr) (c d : Nat) (fr to_ : Int) (old b : List UInt8) (w : World) (h : 64 < old.length ∨ 64 < b.length) (ho : old.length ≤ 1048576) (hl : b.length ≤ 1048576) :
  Calls Try.prog 26 #[iv fr, iv to_, .slice A old.length c, .slice B b.length d] w (PaRet w Pat.zero 1) := by
 have K := hD (fun w => refDiffed_many A B c d old b w h ho hl)
 clear h
 go_enter Try.func26, Try.ntmps26
 go_wp2_with fail
 refine (K.out _).mono ?_
 rintro e w1 ⟨rfl, hb1⟩
 obtain ⟨a0r, a0f, a0n, a0c, a0z, a0l⟩ := kp (w.heap.size) (patA 0 0 0 0 0 none 0 0) hb1
 have HB := hD (((Below.refl _ _).alloc (Nat.le_refl w.heap.size) _).trans (hb1.mono (by simp)))
 clear hb1
 go_wp2_with fail
 refine bodyPost_ret (results_ct rfl rfl (cs := patA 0 0 0 0 0 none 0 0) (by go_simp) (by go_simp) (by go_simp)) rfl ⟨none, 0, rfl, .const fun v => patIn_zero v, below_row HB.out (by omega) _⟩
theorem refMade_fit (A B : Option Addr) (c d : Nat) (fr to_ : Int) (old b : List UInt8) (w : World) (hml : ML w) (hc : old.length ≤ c) (hd : b.length ≤ d) (hf : I64 fr) (ht : I64 to_) (ho : old.length ≤ 64) (hl : b.length ≤ 64) (hA : Bts w A old) (hB : Bts w B b) :
  Calls Try.prog 26 #[iv fr, iv to_, .slice A old.length c, .slice B b.length d] w (PaRet w (patMake (sumOn 1) fr to_ old b).1 (patMake (sumOn 1) fr to_ old b).2) := by
 have K1 := hD (fun w hm h1 h2 => refDiffed3_calls A B c d old b w hm hc hd ho hl h1 h2)
 have K2 := hD (fun w h => refSumOf_calls A c old w (by omega) h)
 have K3 := hD (fun w h => refSumOf_calls B d b w (by omega) h)
 have hs1 := sumOn_bd 1 old (by omega)
 have hs2 := sumOn_bd 1 b (by omega)
 have hdl : (diffed old b).length ≤ 40 := (diffed_ok old b ho hl).many
 have HM : Hid ((patMake (sumOn 1) fr to_ old b) = if patCheck ⟨fr, to_, sumOn 1 old, sumOn 1 b, b.length, diffed old b⟩ ≠ 0 then (Pat.zero, patCheck ⟨fr, to_, sumOn 1 old, sumOn 1 b, b.length, diffed old b⟩) else (⟨fr, to_, sumOn 1 old, sumOn 1 b, b.length, diffed old b⟩, 0)) := hD (by
  unfold patMake; rw [if_neg (by omega)])
 generalize sumOn 1 old = s1 at *
 generalize sumOn 1 b = s2 at *
 generalize diffed old b = l at *
 have HA := hD hA
 have HB := hD hB
 have HML := hD hml
 have HI : Hid (I64 fr ∧ I64 to_) := hD ⟨hf, ht⟩
 clear hA hB hf ht hml
 generalize patMake (sumOn 1) fr to_ old b = r at *
 go_enter Try.func26, Try.ntmps26
 go_wp2_with fail
 have hba := (Below.refl w.heap.size w).alloc (Nat.le_refl _) (.cells (patA 0 0 0 0 0 none 0 0) 35)
 refine (K1.out _ (HML.out.stays hba) (HA.out.stays hba) (HB.out.stays hba)).mono ?_
 rintro e w1 ⟨A1, c1, rfl, hsp, hc1, hb1⟩
 obtain ⟨a0r, a0f, a0n, a0c, a0z, a0l⟩ := kp (w.heap.size) (patA 0 0 0 0 0 none 0 0) hb1
 have HB1 := hD (hba.trans (hb1.mono (by simp)))
 have HSP := hD hsp
 clear hb1 hba hsp
 go_wp2_with fail
 refine (K2.out _ (HA.out.stays HB1.out)).mono ?_
 rintro e w2 ⟨rfl, rfl⟩
 go_wp2_with fail
 refine (K3.out _ (HB.out.stays HB1.out)).mono ?_
 rintro e w3 ⟨rfl, rfl⟩
 go_wp2_with fail
 have hba := (Below.refl w1.heap.size w1).alloc (Nat.le_refl _) (.cells (patA fr to_ s1 s2 b.length A1 l.length c1) 35)
 have HS2 := hD (HSP.out.below hba (Nat.le_refl _))
 refine (refPatCheck_calls A1 c1 fr to_ s1 s2 b.length l _ (by omega) HS2.out.now).mono ?_
 rintro e w4 ⟨rfl, hb4⟩
 obtain ⟨b0r, b0f, b0n, b0c, b0z, b0l⟩ := kp (w.heap.size) (patA 0 0 0 0 0 none 0 0) hb4
 obtain ⟨b1r, b1f, b1n, b1c, b1z, b1l⟩ := kp (w1.heap.size) (patA fr to_ s1 s2 b.length A1 l.length c1) hb4
 have HB4 : Hid (Below w.heap.size w w4) := hD ((HB1.out.alloc HB1.out.size _).trans (hb4.mono (by have := HB1.out.size; simp; omega)))
 have HS4 := hD (HS2.out.below hb4 (Nat.le_refl _))
 have HPI : Hid (Fresh (w.heap.size + 1) w4 (fun v => PatIn v ⟨fr, to_, s1, s2, b.length, l⟩ A1 c1)) := hD (Fresh.imp (by simpa using HS4.out) fun v hv => ⟨hc1, by dsimp only; omega, hv, HI.out.1, HI.out.2, ⟨by dsimp only; omega, by dsimp only; omega⟩, ⟨by dsimp only; omega, by dsimp only; omega⟩, ⟨by dsimp only; omega, by dsimp only; omega⟩⟩)
 clear hb4 hba
 by_cases hz : patCheck ⟨fr, to_, s1, s2, b.length, l⟩ = 0
 ·have hr : r = (⟨fr, to_, s1, s2, b.length, l⟩, 0) := by rw [HM.out, if_neg (by simpa using hz)]
  have HR := hD hr
  clear hr
  go_wp2_with fail
  refine bodyPost_ret (results_ct rfl rfl (cs := patA fr to_ s1 s2 b.length A1 l.length c1) (by go_simp) (by go_simp) (by go_simp)) rfl ?_
  rw [HR.out]
  exact ⟨A1, c1, rfl, (HPI.out.row (by omega) _).mono (by omega), below_row HB4.out (by omega) _⟩
 ·have hr : r = (Pat.zero, patCheck ⟨fr, to_, s1, s2, b.length, l⟩) := by rw [HM.out, if_pos hz]
  have hq : (patCheck ⟨fr, to_, s1, s2, b.length, l⟩ != 0) = true := by simp [hz]
  have HR := hD hr
  clear hr hz
  generalize patCheck ⟨fr, to_, s1, s2, b.length, l⟩ = e1 at *
  go_wp2_with fail
  refine bodyPost_ret (results_ct rfl rfl (cs := patA 0 0 0 0 0 none 0 0) (by go_simp) (by go_simp) (by go_simp)) rfl ?_
  rw [HR.out]
  exact ⟨none, 0, rfl, .const fun v => patIn_zero v, below_row HB4.out (by omega) _⟩
theorem refMade_calls (A B : Option Addr) (c d : Nat) (fr to_ : Int) (old b : List UInt8) (w : World) (hml : ML w) (hc : old.length ≤ c) (hd : b.length ≤ d) (hf : I64 fr) (ht : I64 to_) (ho : old.length ≤ 1048576) (hl : b.length ≤ 1048576) (hA : Bts w A old) (hB : Bts w B b) :
  Calls Try.prog 26 #[iv fr, iv to_, .slice A old.length c, .slice B b.length d] w (PaRet w (patMake (sumOn 1) fr to_ old b).1 (patMake (sumOn 1) fr to_ old b).2) := by
 by_cases h : 64 < old.length ∨ 64 < b.length
 ·have e : patMake (sumOn 1) fr to_ old b = (Pat.zero, 1) := by unfold patMake; rw [if_pos h]
  rw [e]; exact refMade_many A B c d fr to_ old b w h ho hl
 ·exact refMade_fit A B c d fr to_ old b w hml hc hd hf ht (by omega) (by omega) hA hB
def chkA (f t n o : Int) (A : Option Addr) (k c : Nat) : Array Value := #[iv f, iv t, iv n, iv o, .slice A k c]
@[go_sem] theorem chkA_size (f t n o : Int) (A : Option Addr) (k c : Nat) : (chkA f t n o A k c).size = 5 := by simp [chkA]
@[go_sem] theorem chkA_one (f t n o : Int) (A : Option Addr) (k c : Nat) : allOne (chkA f t n o A k c) = true := by simp [chkA, allOne, Value.oneCell']
@[go_sem] theorem chkA_at0 (f t n o : Int) (A : Option Addr) (k c : Nat) (h : 0 < (chkA f t n o A k c).size) : (chkA f t n o A k c)[0]'h = iv f := by simp [chkA]
@[go_sem] theorem chkA_at1 (f t n o : Int) (A : Option Addr) (k c : Nat) (h : 1 < (chkA f t n o A k c).size) : (chkA f t n o A k c)[1]'h = iv t := by simp [chkA]
@[go_sem] theorem chkA_at2 (f t n o : Int) (A : Option Addr) (k c : Nat) (h : 2 < (chkA f t n o A k c).size) : (chkA f t n o A k c)[2]'h = iv n := by simp [chkA]
@[go_sem] theorem chkA_at3 (f t n o : Int) (A : Option Addr) (k c : Nat) (h : 3 < (chkA f t n o A k c).size) : (chkA f t n o A k c)[3]'h = iv o := by simp [chkA]
@[go_sem] theorem chkA_at4 (f t n o : Int) (A : Option Addr) (k c : Nat) (h : 4 < (chkA f t n o A k c).size) : (chkA f t n o A k c)[4]'h = .slice A k c := by simp [chkA]
@[go_sem] theorem chkA_all (f t n o : Int) (A : Option Addr) (k c : Nat) : (chkA f t n o A k c).extract 0 5 = chkA f t n o A k c := by simp [chkA]
@[go_sem] theorem chk_lit (f t n o : Int) (A : Option Addr) (k c : Nat) : Value.agg #[.int .i64 f, .int .i64 t, .int .i64 n, .int .i64 o, .slice A k c] = Value.agg (chkA f t n o A k c) := by simp [chkA]
@[go_sem] theorem chkA_set4 (f t n o : Int) (A : Option Addr) (k c : Nat) (B : Option Addr) (m d : Nat) : (chkA f t n o A k c).setIfInBounds 4 (.slice B m d) = chkA f t n o B m d := by simp [chkA]
@[go_sem] theorem aggSzChk : aggSz Try.prog 49 = 5 := by kernel_rfl
@[go_sem] theorem chkA_set0 (f t n o : Int) (A : Option Addr) (k c : Nat) (x : Int) : (chkA f t n o A k c).setIfInBounds 0 (.int .i64 x) = chkA x t n o A k c := by simp [chkA]
@[go_sem] theorem chkA_set1 (f t n o : Int) (A : Option Addr) (k c : Nat) (x : Int) : (chkA f t n o A k c).setIfInBounds 1 (.int .i64 x) = chkA f x n o A k c := by simp [chkA]
@[go_sem] theorem chkA_set2 (f t n o : Int) (A : Option Addr) (k c : Nat) (x : Int) : (chkA f t n o A k c).setIfInBounds 2 (.int .i64 x) = chkA f t x o A k c := by simp [chkA]
@[go_sem] theorem chkA_set3 (f t n o : Int) (A : Option Addr) (k c : Nat) (x : Int) : (chkA f t n o A k c).setIfInBounds 3 (.int .i64 x) = chkA f t n x A k c := by simp [chkA]
@[go_sem] theorem chkA_ne (f t n o : Int) (A : Option Addr) (k c : Nat) : (chkA f t n o A k c = #[]) = False := by simp [chkA]
theorem chkA_list (x : Chk) (A : Option Addr) (c : Nat) : (chkA x.from_ x.to_ x.n x.of_ A x.data.length c).toList = chkC x A c := by simp [chkA]
theorem chkCheck_bad (h : ¬ x.range) : chkCheck x = 2 := by unfold chkCheck; rw [if_pos h]
theorem chkCheck_form (h : x.range) (g : ¬ x.full) : chkCheck x = 3 := by unfold chkCheck; rw [if_neg (by simpa using h), if_pos g]
theorem chkCheck_fine (h : x.range) (g : x.full) : chkCheck x = 0 := chkCheck_ok.2 ⟨h, g⟩
theorem full_len {f t n o : Int} {l : List UInt8} : Chk.full ⟨f, t, n, o, l⟩ ↔ l.length ≠ 0 ∧ l.length ≤ 16 ∧ (n < o - 1 → l.length = 16) := by
 unfold Chk.full
 dsimp only
 rw [← List.length_pos_iff]
 constructor <;> (intro h; refine ⟨by omega, h.2.1, h.2.2⟩)
theorem chkCheck_calls (A : Option Addr) (c : Nat) (f t n o : Int) (l : List UInt8) (w : World) (hn : I64 n) (ho : I64 o) :
  Calls Try.prog 47 #[.agg (chkA f t n o A l.length c)] w (RetB w (iv (chkCheck ⟨f, t, n, o, l⟩))) := by
 obtain ⟨hn1, hn2⟩ := hn
 obtain ⟨ho1, ho2⟩ := ho
 have hb : Below w.heap.size w (w.alloc (.cells (chkA f t n o A l.length c) 49)) := (Below.refl _ _).alloc (Nat.le_refl _) _
 have HB := Lib.hid hb
 clear hb
 by_cases h0 : f < (1 : Int)
 ·have hz := Lib.hid (chkCheck_bad (x := ⟨f, t, n, o, l⟩) (by unfold Chk.range; dsimp only; omega))
  go_enter Try.func47, Try.ntmps47
  go_wp2_with fail
  go_ret
  exact ⟨ret_int hz.out.symm, HB.out⟩
 by_cases h1 : (30 : Int) < f
 ·have hz := Lib.hid (chkCheck_bad (x := ⟨f, t, n, o, l⟩) (by unfold Chk.range; dsimp only; omega))
  go_enter Try.func47, Try.ntmps47
  go_wp2_with fail
  go_ret
  exact ⟨ret_int hz.out.symm, HB.out⟩
 by_cases h2 : t < (1 : Int)
 ·have hz := Lib.hid (chkCheck_bad (x := ⟨f, t, n, o, l⟩) (by unfold Chk.range; dsimp only; omega))
  go_enter Try.func47, Try.ntmps47
  go_wp2_with fail
  go_ret
  exact ⟨ret_int hz.out.symm, HB.out⟩
 by_cases h3 : (30 : Int) < t
 ·have hz := Lib.hid (chkCheck_bad (x := ⟨f, t, n, o, l⟩) (by unfold Chk.range; dsimp only; omega))
  go_enter Try.func47, Try.ntmps47
  go_wp2_with fail
  go_ret
  exact ⟨ret_int hz.out.symm, HB.out⟩
 by_cases h4 : o < (1 : Int)
 ·have hz := Lib.hid (chkCheck_bad (x := ⟨f, t, n, o, l⟩) (by unfold Chk.range; dsimp only; omega))
  go_enter Try.func47, Try.ntmps47
  go_wp2_with fail
  go_ret
  exact ⟨ret_int hz.out.symm, HB.out⟩
 by_cases h5 : (52 : Int) < o
 ·have hz := Lib.hid (chkCheck_bad (x := ⟨f, t, n, o, l⟩) (by unfold Chk.range; dsimp only; omega))
  go_enter Try.func47, Try.ntmps47
  go_wp2_with fail
  go_ret
  exact ⟨ret_int hz.out.symm, HB.out⟩
 by_cases h6 : n < (0 : Int)
 ·have hz := Lib.hid (chkCheck_bad (x := ⟨f, t, n, o, l⟩) (by unfold Chk.range; dsimp only; omega))
  go_enter Try.func47, Try.ntmps47
  go_wp2_with fail
  go_ret
  exact ⟨ret_int hz.out.symm, HB.out⟩
 by_cases h7 : o ≤ n
 ·have hz := Lib.hid (chkCheck_bad (x := ⟨f, t, n, o, l⟩) (by unfold Chk.range; dsimp only; omega))
  go_enter Try.func47, Try.ntmps47
  go_wp2_with fail
  go_ret
  exact ⟨ret_int hz.out.symm, HB.out⟩
 have hr : Chk.range ⟨f, t, n, o, l⟩ := by unfold Chk.range; dsimp only; omega
 have HR := Lib.hid hr
 clear hr
 have hw : IntKind.i64.wrap (o - 1) = o - 1 := IntWalk.i64_in _ (by omega)
 by_cases g0 : l.length = 0
 ·have hz := Lib.hid (chkCheck_form HR.out (fun e => (full_len.1 e).1 g0))
  have q : ((l.length : Int) == 0) = true := by simp [g0]
  clear g0
  go_enter Try.func47, Try.ntmps47
  go_wp2_with fail
  go_ret
  exact ⟨ret_int hz.out.symm, HB.out⟩
 have q0 : ((l.length : Int) == 0) = false := beq_eq_false_iff_ne.2 (by omega)
 by_cases g1 : (16 : Int) < (l.length : Int)
 ·have hz := Lib.hid (chkCheck_form HR.out (fun e => by have := (full_len.1 e).2.1; omega))
  clear g0
  go_enter Try.func47, Try.ntmps47
  go_wp2_with fail
  go_ret
  exact ⟨ret_int hz.out.symm, HB.out⟩
 by_cases g2 : n < o - 1
 ·by_cases g3 : l.length = 16
  ·have q1 : ((l.length : Int) != 16) = false := by simp [g3]
   have hz := Lib.hid (chkCheck_fine HR.out (full_len.2 ⟨by omega, by omega, fun _ => g3⟩))
   clear g0 g3
   go_enter Try.func47, Try.ntmps47
   go_wp2_with fail
   go_ret
   exact ⟨ret_int hz.out.symm, HB.out⟩
  ·have q1 : ((l.length : Int) != 16) = true := bne_iff_ne.2 (by omega)
   have hz := Lib.hid (chkCheck_form HR.out (fun e => g3 ((full_len.1 e).2.2 g2)))
   clear g0 g3
   go_enter Try.func47, Try.ntmps47
   go_wp2_with fail
   go_ret
   exact ⟨ret_int hz.out.symm, HB.out⟩
 ·have hz := Lib.hid (chkCheck_fine HR.out (full_len.2 ⟨by omega, by omega, fun h => absurd h g2⟩))
  clear g0
  go_enter Try.func47, Try.ntmps47
  go_wp2_with fail
  go_ret
  exact ⟨ret_int hz.out.symm, HB.out⟩
theorem kin_calls (A B : Option Addr) (c d k m : Nat) (f t n o f2 t2 n2 o2 : Int) (l r : List UInt8) (w : World) :
  Calls Try.prog 102 #[.agg (chkA f t n o A k c), .agg (chkA f2 t2 n2 o2 B m d)] w (RetB w (.bool (decide (kin ⟨f, t, n, o, l⟩ ⟨f2, t2, n2, o2, r⟩)))) := by
 have hb : Below w.heap.size w ((w.alloc (.cells (chkA f t n o A k c) 49)).alloc (.cells (chkA f2 t2 n2 o2 B m d) 49)) := ((Below.refl _ _).alloc (Nat.le_refl _) _).alloc (by simp) _
 have HB := Lib.hid hb
 clear hb
 by_cases h0 : ¬ f = f2
 ·have hz : decide (kin ⟨f, t, n, o, l⟩ ⟨f2, t2, n2, o2, r⟩) = false := decide_eq_false (by unfold kin; dsimp only; omega)
  have HZ := Lib.hid hz
  have q : (f == f2) = false := by simp [h0]
  clear hz h0
  go_enter Try.func102, Try.ntmps102
  go_wp2_with fail
  go_ret
  exact ⟨ret_bool HZ.out.symm, HB.out⟩
 have h0 := Decidable.not_not.1 h0
 subst h0
 have q0 : (f == f) = true := by simp
 by_cases h1 : ¬ t = t2
 ·have hz : decide (kin ⟨f, t, n, o, l⟩ ⟨f, t2, n2, o2, r⟩) = false := decide_eq_false (by unfold kin; dsimp only; omega)
  have HZ := Lib.hid hz
  have q : (t == t2) = false := by simp [h1]
  clear hz h1
  go_enter Try.func102, Try.ntmps102
  go_wp2_with fail
  go_ret
  exact ⟨ret_bool HZ.out.symm, HB.out⟩
 have h1 := Decidable.not_not.1 h1
 subst h1
 have q1 : (t == t) = true := by simp
 by_cases h2 : ¬ o = o2
 ·have hz : decide (kin ⟨f, t, n, o, l⟩ ⟨f, t, n2, o2, r⟩) = false := decide_eq_false (by unfold kin; dsimp only; omega)
  have HZ := Lib.hid hz
  have q : (o == o2) = false := by simp [h2]
  clear hz h2
  go_enter Try.func102, Try.ntmps102
  go_wp2_with fail
  go_ret
  exact ⟨ret_bool HZ.out.symm, HB.out⟩
 have h2 := Decidable.not_not.1 h2
 subst h2
 have q2 : (o == o) = true := by simp
 have hz : decide (kin ⟨f, t, n, o, l⟩ ⟨f, t, n2, o, r⟩) = true := decide_eq_true ⟨rfl, rfl, rfl⟩
 have HZ := Lib.hid hz
 clear hz
 go_enter Try.func102, Try.ntmps102
 go_wp2_with fail
 go_ret
 exact ⟨ret_bool HZ.out.symm, HB.out⟩
theorem listGo_bad {p : Option Chk} (h : chkCheck x ≠ 0) : listGo p (x :: l) = chkCheck x := by unfold listGo; rw [if_pos h]
theorem listGo_form {p : Option Chk} (h : chkCheck x = 0) (g : ¬ follows p x) : listGo p (x :: l) = 3 := by unfold listGo; rw [if_neg (by simpa using h), if_pos g]
theorem listGo_next {p : Option Chk} (h : chkCheck x = 0) (g : follows p x) : listGo p (x :: l) = listGo (some x) l := by
 conv => lhs; unfold listGo
 rw [if_neg (by simpa using h), if_neg (by simpa using g)]
theorem chkCheckX_calls (A : Option Addr) (c : Nat) (x : Chk) (w : World) (h : I64 x.n ∧ I64 x.of_) :
  Calls Try.prog 47 #[.agg (chkA x.from_ x.to_ x.n x.of_ A x.data.length c)] w (RetB w (iv (chkCheck x))) := chkCheck_calls A c x.from_ x.to_ x.n x.of_ x.data w h.1 h.2
theorem kinY_calls (A B : Option Addr) (c d : Nat) (x y : Chk) (w : World) :
  Calls Try.prog 102 #[.agg (chkA x.from_ x.to_ x.n x.of_ A x.data.length c), .agg (chkA y.from_ y.to_ y.n y.of_ B y.data.length d)] w (RetB w (.bool (decide (kin x y)))) :=
 kin_calls A B c d x.data.length y.data.length x.from_ x.to_ x.n x.of_ y.from_ y.to_ y.n y.of_ x.data y.data w
def ChkAt (w : World) (b o : Nat) (x : Chk) (B : Option Addr) (c : Nat) : Prop :=
 w.cell? ⟨b, o, none⟩ = some (iv x.from_) ∧ w.cell? ⟨b, o + 1, none⟩ = some (iv x.to_) ∧ w.cell? ⟨b, o + 2, none⟩ = some (iv x.n) ∧ w.cell? ⟨b, o + 3, none⟩ = some (iv x.of_) ∧ w.cell? ⟨b, o + 4, none⟩ = some (.slice B x.data.length c)
theorem ChkAt.stays {b o : Nat} {B : Option Addr} (h : ChkAt w b o x B c) (hlt : b < w.heap.size) (hb : Below w.heap.size w w') : ChkAt w' b o x B c :=
 ⟨(hb.cell (p := ⟨b, o, none⟩) hlt).trans h.1, (hb.cell (p := ⟨b, o + 1, none⟩) hlt).trans h.2.1, (hb.cell (p := ⟨b, o + 2, none⟩) hlt).trans h.2.2.1, (hb.cell (p := ⟨b, o + 3, none⟩) hlt).trans h.2.2.2.1, (hb.cell (p := ⟨b, o + 4, none⟩) hlt).trans h.2.2.2.2⟩
theorem Chs.chk (h : Chs w A l) {i : Nat} (hi : i < l.length) : ∃ b o B c, A = some ⟨b, o, none⟩ ∧ b < w.heap.size ∧ ChkAt w b (o + i * 5) l[i] B c ∧ ChkIn w l[i] B c := by
 obtain ⟨b, o, B, c, h1, h2, h3, h4, h5, h6, h7, h8⟩ := h.at_ hi
 exact ⟨b, o, B, c, h1, h2, ⟨h3, h4, h5, h6, h7⟩, h8⟩
theorem chkList_calls (A : Option Addr) (c : Nat) (l : List Chk) (w : World) (hl : l.length ≤ 1048576) (hs : Chs w A l) :
  Calls Try.prog 40 #[.slice A l.length c] w (RetB w (iv (chkList l))) := by
 have HS := Lib.hid hs
 clear hs
 obtain ⟨r, hr⟩ : ∃ r, chkList l = r := ⟨_, rfl⟩
 rw [hr]
 have HR : Hid (listGo none l = r) := Lib.hid hr
 clear hr
 go_enter Try.func40, Try.ntmps40
 go_wp2_with fail
 go_loopw [8] (fun i wr => ∃ k : Nat, k ≤ l.length ∧ i = .int .i64 k ∧ Hid (listGo ((l.take k).getLast?) (l.drop k) = r) ∧ Hid (Below w.heap.size w wr)) (fun i _ => l.length - (intOf i).toNat)
 case atStart => exact ⟨0, Nat.zero_le _, rfl, Lib.hid HR.out, Lib.hid (Below.refl _ _)⟩
 case round =>
  rename World => wr
  obtain ⟨k, hk, rfl, HE, HB⟩ := hrel
  have hsz := HB.out.size
  by_cases hlt : k < l.length
  ·obtain ⟨b, o, B, cx, rfl, hb, hat, hin⟩ := HS.out.chk hlt
   have hdr : l.drop k = l[k] :: l.drop (k + 1) := List.drop_eq_getElem_cons hlt
   have hlast : (l.take (k + 1)).getLast? = some l[k] := by rw [List.take_succ_eq_append_getElem hlt, List.getLast?_concat]
   have hpre : ∀ (h0 : 0 < k), ∃ q D d, (l.take k).getLast? = some q ∧ ChkAt w b (o + (k - 1) * 5) q D d := fun h0 => by
    obtain ⟨b', o', D, d, e, _, h1, _⟩ := HS.out.chk (i := k - 1) (by omega)
    injection e with e
    injection e with e1 e2
    subst e1 e2
    refine ⟨l[k - 1], D, d, ?_, h1⟩
    rw [List.getLast?_take, if_neg (by omega), List.getElem?_eq_getElem (by omega)]
    rfl
   obtain ⟨x, hx⟩ : ∃ x, l[k] = x := ⟨_, rfl⟩
   rw [hx] at hdr hlast hat hin
   rw [hdr] at HE
   obtain ⟨p, hp⟩ : ∃ p, (l.take k).getLast? = p := ⟨_, rfl⟩
   rw [hp] at HE hpre
   have HLAST := Lib.hid hlast
   have hat2 := hat.stays hb HB.out
   obtain ⟨c0, c1, c2, c3, c4⟩ := hat2
   have HAT := Lib.hid hat
   have HP0 : Hid (k = 0 → p = none) := Lib.hid (fun e => by rw [← hp, e]; simp)
   have HPR := Lib.hid hpre
   have HK := Lib.hid (fun w => chkCheckX_calls B cx x w ⟨hin.i2, hin.i3⟩)
   have hblt : b < wr.heap.size := by omega
   have dl : decide ((k : Int) < (l.length : Int)) = true := decide_eq_true (by omega)
   have hwk : IntKind.i64.wrap ((k : Int) + 1) = (k : Int) + 1 := IntWalk.i64_in _ (by omega)
   clear hdr hlast hx hp hpre hat hin
   by_cases hck : chkCheck x ≠ 0
   ·have hz : r = chkCheck x := by rw [← HE.out, listGo_bad hck]
    have q : (chkCheck x != 0) = true := by simp [hck]
    have HZ := Lib.hid hz
    clear hck hz
    go_wp2_with fail
    refine (HK.out _).mono ?_
    rintro e w1 ⟨rfl, hb1⟩
    have HB1 : Hid (Below w.heap.size w w1) := by
     refine Lib.hid (HB.out.trans (Below.trans ?_ (hb1.mono (by first | omega | (simp <;> omega)))))
     repeat (first | exact Below.refl _ _ | refine Below.alloc ?_ (by first | omega | (simp <;> omega)) _)
    clear hb1
    go_wp2_with fail
    go_ret
    exact ⟨ret_int HZ.out.symm, HB1.out⟩
   have hck := Decidable.not_not.1 hck
   have HCK := Lib.hid hck
   rw [hck] at HK
   clear hck
   go_wp2_with fail
   refine (HK.out _).mono ?_
   rintro e w1 ⟨rfl, hb1⟩
   obtain ⟨a0r, a0f, a0n, a0c, a0z, a0l⟩ := keep1 (g := wr.heap.size) (cs := chkA x.from_ x.to_ x.n x.of_ B x.data.length cx) hb1 (by first | (go_simp; done) | (go_simp; rfl)) (by go_simp) (by go_simp)
   have HB1 : Hid (Below w.heap.size w w1) := by
    refine Lib.hid (HB.out.trans (Below.trans ?_ (hb1.mono (by first | omega | (simp <;> omega)))))
    repeat (first | exact Below.refl _ _ | refine Below.alloc ?_ (by first | omega | (simp <;> omega)) _)
   have hs1 := HB1.out.size
   clear hb1 c0 c1 c2 c3 c4
   have HD : Hid (∀ wq, Below w1.drew.heap.size w1.drew wq → Below w1.heap.size w1 wq) := Lib.hid (fun wq h => (Below.refl w1.heap.size w1).drew.trans h)
   have R4 : rowOf w1.drew wr.heap.size = chkA x.from_ x.to_ x.n x.of_ B x.data.length cx := by go_simp
   have F4 : frOf w1.drew wr.heap.size = (0, 0) := by go_simp
   go_wp2_with fail
   by_cases hk0 : k = 0
   ·have hz : listGo (some x) (l.drop (k + 1)) = r := by rw [← HE.out, listGo_next HCK.out (by rw [HP0.out hk0]; intro q e; cases e)]
    have HZ := Lib.hid hz
    have HKP := Lib.hid hk0
    clear hz hk0
    refine wp_region_chain (by kernel_rfl) (some 18 :: some 19 :: some 20 :: some 21 :: some 22 :: some 23 :: some 24 :: some 25 :: some 26 :: some 27 :: some 28 :: some 29 :: some 30 :: some 31 :: some 32 :: some 33 :: some 34 :: some 35 :: some 36 :: some 37 :: some 38 :: some 39 :: some 40 :: []) (.int .i64 (k : Int) :: .bool false :: .bool false :: undef :: undef :: undef :: undef :: undef :: undef :: undef :: undef :: undef :: undef :: undef :: undef :: undef :: undef :: undef :: undef :: undef :: undef :: undef :: .bool false :: []) 42 rfl rfl (by decide +kernel) (by decide +kernel) (by decide +kernel) rfl ?_ ?_
    ·refine ⟨.inl ⟨rfl, fun done a wq hw h => ?_⟩, ?_⟩
     ·have e3 := ch_old (t := 3) (v := .int .i64 (k : Int)) h rfl rfl; exact ch_move (ch_ev e3)
     refine ⟨.inl ⟨rfl, fun done a wq hw h => ?_⟩, ?_⟩
     ·have e18 := ch_new (i := 0) (t := 18) h (hw 0 (by decide)) rfl rfl; have hp := HKP.out; refine ch_pure ?_; go_simp
     refine ⟨.inl ⟨rfl, fun done a wq hw h => ?_⟩, ?_⟩
     ·have e19 := ch_new (i := 1) (t := 19) h (hw 1 (by decide)) rfl rfl; exact ch_move (ch_ev e19)
     iterate 19 refine ⟨.inr ⟨rfl, rfl⟩, ?_⟩
     refine ⟨.inl ⟨rfl, fun done a wq hw h => ?_⟩, ?_⟩
     ·have e20 := ch_new (i := 2) (t := 20) h (hw 2 (by decide)) rfl rfl; exact ch_pick_f e20 rfl
     exact trivial
    ·intro w2 hb2
     simp only [putAll_some, putAll_none, putAll_nil, List.setIfInBounds_toArray, List.set_cons_zero, List.set_cons_succ]
     have HB2 : Hid (Below w.heap.size w w2) := Lib.hid (HB1.out.trans (hb2.mono HB1.out.size))
     clear hb2 R4 F4 a0r a0f a0n a0c a0z a0l
     go_wp2_with fail
     go_roundw
     case rel => exact ⟨k + 1, by omega, by go_num, Lib.hid (by rw [HLAST.out]; exact HZ.out), HB2⟩
     case measure => simp [intOf]; omega
   ·obtain ⟨q, D, dq, hpq, hq⟩ := HPR.out (by omega)
    have HQ : Hid (∀ wq, Below w1.heap.size w1 wq → ChkAt wq b (o + (k - 1) * 5) q D dq) := Lib.hid (fun wq h => hq.stays hb (HB1.out.trans (h.mono hs1)))
    have HKP : Hid (0 < k) := Lib.hid (by omega)
    have HI4 : Hid (¬ (k : Int) < 1) := Lib.hid (by omega)
    have hkp : 0 < k := by omega
    clear hk0
    have HW : Hid (IntKind.i64.wrap ((k : Int) - 1) = (k : Int) - 1) := Lib.hid (IntWalk.i64_in _ (by omega))
    have HI1 : Hid (((k : Int) - 1).toNat = k - 1) := Lib.hid (by omega)
    have HI2 : Hid (¬ (k : Int) - 1 < 0) := Lib.hid (by omega)
    have HI3 : Hid (¬ (l.length : Int) ≤ (k : Int) - 1) := Lib.hid (by omega)
    have HF : Hid (follows p x ↔ kin q x ∧ q.n < x.n) := Lib.hid (by rw [hpq]; exact ⟨fun h => h q rfl, fun h z e => by injection e with e; subst e; exact h⟩)
    clear hpq hq
    by_cases hkn : kin q x
    ·have HKN : Hid (decide (kin q x) = true) := Lib.hid (decide_eq_true hkn)
     by_cases hge : x.n ≤ q.n
     first | case' inl => have T10 : Hid True := Lib.hid trivial | case' pos => have T10 : Hid True := Lib.hid trivial | case' refine_1 => have T10 : Hid True := Lib.hid trivial
     iterate 2
      ·first
        |
         revert T10; intro T10
         have hz : r = 3 := by rw [← HE.out, listGo_form HCK.out (by rw [HF.out]; omega)]
        | have hz : listGo (some x) (l.drop (k + 1)) = r := by rw [← HE.out, listGo_next HCK.out (by rw [HF.out]; exact ⟨hkn, by omega⟩)]
       have HZ := Lib.hid hz
       first
        |
         revert T10; intro T10
         have HGE : Hid (decide (x.n ≤ q.n) = true) := Lib.hid (decide_eq_true hge)
        | have HGE : Hid (decide (x.n ≤ q.n) = false) := Lib.hid (decide_eq_false hge)
       clear hz hkn hge
       first
        |
         revert T10; intro T10
         refine wp_region_chain (by kernel_rfl) (some 18 :: some 19 :: some 20 :: some 21 :: some 22 :: some 23 :: some 24 :: some 25 :: some 26 :: some 27 :: some 28 :: some 29 :: some 30 :: some 31 :: some 32 :: some 33 :: some 34 :: some 35 :: some 36 :: some 37 :: some 38 :: some 39 :: some 40 :: []) (.int .i64 (k : Int) :: .bool true :: .bool true :: .slice (some ⟨b, o, none⟩) l.length c :: .int .i64 (k : Int) :: .int .i64 ((k : Int) - 1) :: .pointer (some ⟨b, o + (k - 1) * 5, none⟩) :: .agg (chkA q.from_ q.to_ q.n q.of_ D q.data.length dq) :: .agg (chkA x.from_ x.to_ x.n x.of_ B x.data.length cx) :: .bool true :: .bool false :: .bool false :: .slice (some ⟨b, o, none⟩) l.length c :: .int .i64 (k : Int) :: .int .i64 ((k : Int) - 1) :: .pointer (some ⟨b, o + (k - 1) * 5, none⟩) :: .pointer (some ⟨b, o + (k - 1) * 5 + 2, none⟩) :: iv q.n :: .pointer (some ⟨wr.heap.size, 2, none⟩) :: iv x.n :: .bool true :: .bool true :: .bool true :: []) 42 rfl rfl (by decide +kernel) (by decide +kernel) (by decide +kernel) rfl ?_ ?_
        | refine wp_region_chain (by kernel_rfl) (some 18 :: some 19 :: some 20 :: some 21 :: some 22 :: some 23 :: some 24 :: some 25 :: some 26 :: some 27 :: some 28 :: some 29 :: some 30 :: some 31 :: some 32 :: some 33 :: some 34 :: some 35 :: some 36 :: some 37 :: some 38 :: some 39 :: some 40 :: []) (.int .i64 (k : Int) :: .bool true :: .bool true :: .slice (some ⟨b, o, none⟩) l.length c :: .int .i64 (k : Int) :: .int .i64 ((k : Int) - 1) :: .pointer (some ⟨b, o + (k - 1) * 5, none⟩) :: .agg (chkA q.from_ q.to_ q.n q.of_ D q.data.length dq) :: .agg (chkA x.from_ x.to_ x.n x.of_ B x.data.length cx) :: .bool true :: .bool false :: .bool false :: .slice (some ⟨b, o, none⟩) l.length c :: .int .i64 (k : Int) :: .int .i64 ((k : Int) - 1) :: .pointer (some ⟨b, o + (k - 1) * 5, none⟩) :: .pointer (some ⟨b, o + (k - 1) * 5 + 2, none⟩) :: iv q.n :: .pointer (some ⟨wr.heap.size, 2, none⟩) :: iv x.n :: .bool false :: .bool false :: .bool false :: []) 42 rfl rfl (by decide +kernel) (by decide +kernel) (by decide +kernel) rfl ?_ ?_
       ·refine ⟨.inl ⟨rfl, fun done a wq hw h => ?_⟩, ?_⟩
        ·have e3 := ch_old (t := 3) (v := .int .i64 (k : Int)) h rfl rfl; exact ch_move (ch_ev e3)
        refine ⟨.inl ⟨rfl, fun done a wq hw h => ?_⟩, ?_⟩
        ·have e18 := ch_new (i := 0) (t := 18) h (hw 0 (by decide)) rfl rfl; have hp := HKP.out; refine ch_pure ?_; go_simp
        refine ⟨.inl ⟨rfl, fun done a wq hw h => ?_⟩, ?_⟩
        ·have e19 := ch_new (i := 1) (t := 19) h (hw 1 (by decide)) rfl rfl; exact ch_move (ch_ev e19)
        refine ⟨.inl ⟨rfl, fun done a wq hw h => ?_⟩, ?_⟩
        ·have e0 := ch_old (t := 0) (v := .slice (some ⟨b, o, none⟩) l.length c) h rfl rfl; exact ch_move (ch_ev e0)
        refine ⟨.inl ⟨rfl, fun done a wq hw h => ?_⟩, ?_⟩
        ·have e3 := ch_old (t := 3) (v := .int .i64 (k : Int)) h rfl rfl; exact ch_move (ch_ev e3)
        refine ⟨.inl ⟨rfl, fun done a wq hw h => ?_⟩, ?_⟩
        ·have e22 := ch_new (i := 4) (t := 22) h (hw 4 (by decide)) rfl rfl; have hw := HW.out; refine ch_pure ?_; go_simp
        refine ⟨.inl ⟨rfl, fun done a wq hw h => ?_⟩, ?_⟩
        ·have e21 := ch_new (i := 3) (t := 21) h (hw 3 (by decide)) rfl rfl; have e23 := ch_new (i := 5) (t := 23) h (hw 5 (by decide)) rfl rfl; have h1 := HI1.out; have h2 := HI2.out; have h3 := HI3.out; have h4 := HI4.out; refine ch_pure ?_; go_simp
        refine ⟨.inl ⟨rfl, fun done a wq hw h => ?_⟩, ?_⟩
        ·have e24 := ch_new (i := 6) (t := 24) h (hw 6 (by decide)) rfl rfl; obtain ⟨c0, c1, c2, c3, c4⟩ := HQ.out wq (HD.out wq h.bel); refine ch_pure ?_; go_simp
        refine ⟨.inl ⟨rfl, fun done a wq hw h => ?_⟩, ?_⟩
        ·have e4 := ch_old (t := 4) (v := .pointer (some ⟨wr.heap.size, 0, none⟩)) h rfl rfl; obtain ⟨r_, f_, n_, c_, z_, l_⟩ := keep1 h.bel R4 (by go_simp) F4; refine ch_pure ?_; go_simp
        refine ⟨.inl ⟨rfl, fun done a wq hw h => ?_⟩, ?_⟩
        ·have e25 := ch_new (i := 7) (t := 25) h (hw 7 (by decide)) rfl rfl; have e26 := ch_new (i := 8) (t := 26) h (hw 8 (by decide)) rfl rfl; exact ch_call (vals := #[.agg (chkA q.from_ q.to_ q.n q.of_ D q.data.length dq), .agg (chkA x.from_ x.to_ x.n x.of_ B x.data.length cx)]) (by go_simp) (by go_simp) (by have := kinY_calls D B dq cx q x wq; rwa [HKN.out] at this)
        refine ⟨.inl ⟨rfl, fun done a wq hw h => ?_⟩, ?_⟩
        ·have e27 := ch_new (i := 9) (t := 27) h (hw 9 (by decide)) rfl rfl; refine ch_pure ?_; go_simp
        refine ⟨.inl ⟨rfl, fun done a wq hw h => ?_⟩, ?_⟩
        ·have e28 := ch_new (i := 10) (t := 28) h (hw 10 (by decide)) rfl rfl; exact ch_move (ch_ev e28)
        refine ⟨.inl ⟨rfl, fun done a wq hw h => ?_⟩, ?_⟩
        ·have e0 := ch_old (t := 0) (v := .slice (some ⟨b, o, none⟩) l.length c) h rfl rfl; exact ch_move (ch_ev e0)
        refine ⟨.inl ⟨rfl, fun done a wq hw h => ?_⟩, ?_⟩
        ·have e3 := ch_old (t := 3) (v := .int .i64 (k : Int)) h rfl rfl; exact ch_move (ch_ev e3)
        refine ⟨.inl ⟨rfl, fun done a wq hw h => ?_⟩, ?_⟩
        ·have e31 := ch_new (i := 13) (t := 31) h (hw 13 (by decide)) rfl rfl; have hw := HW.out; refine ch_pure ?_; go_simp
        refine ⟨.inl ⟨rfl, fun done a wq hw h => ?_⟩, ?_⟩
        ·have e30 := ch_new (i := 12) (t := 30) h (hw 12 (by decide)) rfl rfl; have e32 := ch_new (i := 14) (t := 32) h (hw 14 (by decide)) rfl rfl; have h1 := HI1.out; have h2 := HI2.out; have h3 := HI3.out; have h4 := HI4.out; refine ch_pure ?_; go_simp
        refine ⟨.inl ⟨rfl, fun done a wq hw h => ?_⟩, ?_⟩
        ·have e33 := ch_new (i := 15) (t := 33) h (hw 15 (by decide)) rfl rfl; refine ch_pure ?_; go_simp
        refine ⟨.inl ⟨rfl, fun done a wq hw h => ?_⟩, ?_⟩
        ·have e34 := ch_new (i := 16) (t := 34) h (hw 16 (by decide)) rfl rfl; obtain ⟨c0, c1, c2, c3, c4⟩ := HQ.out wq (HD.out wq h.bel); refine ch_pure ?_; go_simp
        refine ⟨.inl ⟨rfl, fun done a wq hw h => ?_⟩, ?_⟩
        ·have e4 := ch_old (t := 4) (v := .pointer (some ⟨wr.heap.size, 0, none⟩)) h rfl rfl; refine ch_pure ?_; go_simp
        refine ⟨.inl ⟨rfl, fun done a wq hw h => ?_⟩, ?_⟩
        ·have e36 := ch_new (i := 18) (t := 36) h (hw 18 (by decide)) rfl rfl; obtain ⟨r_, f_, n_, c_, z_, l_⟩ := keep1 h.bel R4 (by go_simp) F4; refine ch_pure ?_; go_simp
        refine ⟨.inl ⟨rfl, fun done a wq hw h => ?_⟩, ?_⟩
        ·have e35 := ch_new (i := 17) (t := 35) h (hw 17 (by decide)) rfl rfl; have e37 := ch_new (i := 19) (t := 37) h (hw 19 (by decide)) rfl rfl; have hg := HGE.out; refine ch_pure ?_; go_simp
        refine ⟨.inl ⟨rfl, fun done a wq hw h => ?_⟩, ?_⟩
        ·have e29 := ch_new (i := 11) (t := 29) h (hw 11 (by decide)) rfl rfl; have e38 := ch_new (i := 20) (t := 38) h (hw 20 (by decide)) rfl rfl; exact ch_pick_f e29 (ch_ev e38)
        refine ⟨.inl ⟨rfl, fun done a wq hw h => ?_⟩, ?_⟩
        ·have e20 := ch_new (i := 2) (t := 20) h (hw 2 (by decide)) rfl rfl; have e39 := ch_new (i := 21) (t := 39) h (hw 21 (by decide)) rfl rfl; exact ch_pick_t e20 (ch_ev e39)
        exact trivial
       ·intro w2 hb2
        simp only [putAll_some, putAll_none, putAll_nil, List.setIfInBounds_toArray, List.set_cons_zero, List.set_cons_succ]
        have HB2 : Hid (Below w.heap.size w w2) := Lib.hid (HB1.out.trans (hb2.mono HB1.out.size))
        clear hb2 R4 F4 a0r a0f a0n a0c a0z a0l
        go_wp2_with fail
        first
         |
          revert T10; intro T10
          go_ret
          exact ⟨ret_int HZ.out.symm, HB2.out⟩
         |
          go_roundw
          case rel => exact ⟨k + 1, by omega, by go_num, Lib.hid (by rw [HLAST.out]; exact HZ.out), HB2⟩
          case measure => simp [intOf]; omega
    ·have HKN : Hid (decide (kin q x) = false) := Lib.hid (decide_eq_false hkn)
     have hz : r = 3 := by rw [← HE.out, listGo_form HCK.out (by rw [HF.out]; exact fun h => hkn h.1)]
     have HZ := Lib.hid hz
     clear hz hkn
     refine wp_region_chain (by kernel_rfl) (some 18 :: some 19 :: some 20 :: some 21 :: some 22 :: some 23 :: some 24 :: some 25 :: some 26 :: some 27 :: some 28 :: some 29 :: some 30 :: some 31 :: some 32 :: some 33 :: some 34 :: some 35 :: some 36 :: some 37 :: some 38 :: some 39 :: some 40 :: []) (.int .i64 (k : Int) :: .bool true :: .bool true :: .slice (some ⟨b, o, none⟩) l.length c :: .int .i64 (k : Int) :: .int .i64 ((k : Int) - 1) :: .pointer (some ⟨b, o + (k - 1) * 5, none⟩) :: .agg (chkA q.from_ q.to_ q.n q.of_ D q.data.length dq) :: .agg (chkA x.from_ x.to_ x.n x.of_ B x.data.length cx) :: .bool false :: .bool true :: .bool true :: undef :: undef :: undef :: undef :: undef :: undef :: undef :: undef :: undef :: .bool true :: .bool true :: []) 42 rfl rfl (by decide +kernel) (by decide +kernel) (by decide +kernel) rfl ?_ ?_
     ·refine ⟨.inl ⟨rfl, fun done a wq hw h => ?_⟩, ?_⟩
      ·have e3 := ch_old (t := 3) (v := .int .i64 (k : Int)) h rfl rfl; exact ch_move (ch_ev e3)
      refine ⟨.inl ⟨rfl, fun done a wq hw h => ?_⟩, ?_⟩
      ·have e18 := ch_new (i := 0) (t := 18) h (hw 0 (by decide)) rfl rfl; have hp := HKP.out; refine ch_pure ?_; go_simp
      refine ⟨.inl ⟨rfl, fun done a wq hw h => ?_⟩, ?_⟩
      ·have e19 := ch_new (i := 1) (t := 19) h (hw 1 (by decide)) rfl rfl; exact ch_move (ch_ev e19)
      refine ⟨.inl ⟨rfl, fun done a wq hw h => ?_⟩, ?_⟩
      ·have e0 := ch_old (t := 0) (v := .slice (some ⟨b, o, none⟩) l.length c) h rfl rfl; exact ch_move (ch_ev e0)
      refine ⟨.inl ⟨rfl, fun done a wq hw h => ?_⟩, ?_⟩
      ·have e3 := ch_old (t := 3) (v := .int .i64 (k : Int)) h rfl rfl; exact ch_move (ch_ev e3)
      refine ⟨.inl ⟨rfl, fun done a wq hw h => ?_⟩, ?_⟩
      ·have e22 := ch_new (i := 4) (t := 22) h (hw 4 (by decide)) rfl rfl; have hw := HW.out; refine ch_pure ?_; go_simp
      refine ⟨.inl ⟨rfl, fun done a wq hw h => ?_⟩, ?_⟩
      ·have e21 := ch_new (i := 3) (t := 21) h (hw 3 (by decide)) rfl rfl; have e23 := ch_new (i := 5) (t := 23) h (hw 5 (by decide)) rfl rfl; have h1 := HI1.out; have h2 := HI2.out; have h3 := HI3.out; have h4 := HI4.out; refine ch_pure ?_; go_simp
      refine ⟨.inl ⟨rfl, fun done a wq hw h => ?_⟩, ?_⟩
      ·have e24 := ch_new (i := 6) (t := 24) h (hw 6 (by decide)) rfl rfl; obtain ⟨c0, c1, c2, c3, c4⟩ := HQ.out wq (HD.out wq h.bel); refine ch_pure ?_; go_simp
      refine ⟨.inl ⟨rfl, fun done a wq hw h => ?_⟩, ?_⟩
      ·have e4 := ch_old (t := 4) (v := .pointer (some ⟨wr.heap.size, 0, none⟩)) h rfl rfl; obtain ⟨r_, f_, n_, c_, z_, l_⟩ := keep1 h.bel R4 (by go_simp) F4; refine ch_pure ?_; go_simp
      refine ⟨.inl ⟨rfl, fun done a wq hw h => ?_⟩, ?_⟩
      ·have e25 := ch_new (i := 7) (t := 25) h (hw 7 (by decide)) rfl rfl; have e26 := ch_new (i := 8) (t := 26) h (hw 8 (by decide)) rfl rfl; exact ch_call (vals := #[.agg (chkA q.from_ q.to_ q.n q.of_ D q.data.length dq), .agg (chkA x.from_ x.to_ x.n x.of_ B x.data.length cx)]) (by go_simp) (by go_simp) (by have := kinY_calls D B dq cx q x wq; rwa [HKN.out] at this)
      refine ⟨.inl ⟨rfl, fun done a wq hw h => ?_⟩, ?_⟩
      ·have e27 := ch_new (i := 9) (t := 27) h (hw 9 (by decide)) rfl rfl; refine ch_pure ?_; go_simp
      refine ⟨.inl ⟨rfl, fun done a wq hw h => ?_⟩, ?_⟩
      ·have e28 := ch_new (i := 10) (t := 28) h (hw 10 (by decide)) rfl rfl; exact ch_move (ch_ev e28)
      iterate 9 refine ⟨.inr ⟨rfl, rfl⟩, ?_⟩
      refine ⟨.inl ⟨rfl, fun done a wq hw h => ?_⟩, ?_⟩
      ·have e29 := ch_new (i := 11) (t := 29) h (hw 11 (by decide)) rfl rfl; exact ch_pick_t e29 rfl
      refine ⟨.inl ⟨rfl, fun done a wq hw h => ?_⟩, ?_⟩
      ·have e20 := ch_new (i := 2) (t := 20) h (hw 2 (by decide)) rfl rfl; have e39 := ch_new (i := 21) (t := 39) h (hw 21 (by decide)) rfl rfl; exact ch_pick_t e20 (ch_ev e39)
      exact trivial
     ·intro w2 hb2
      simp only [putAll_some, putAll_none, putAll_nil, List.setIfInBounds_toArray, List.set_cons_zero, List.set_cons_succ]
      have HB2 : Hid (Below w.heap.size w w2) := Lib.hid (HB1.out.trans (hb2.mono HB1.out.size))
      clear hb2 R4 F4 a0r a0f a0n a0c a0z a0l
      go_wp2_with fail
      go_ret
      exact ⟨ret_int HZ.out.symm, HB2.out⟩
  ·obtain rfl : k = l.length := by omega
   have dl : decide ((l.length : Int) < (l.length : Int)) = false := by simp
   have hz : r = 0 := by rw [← HE.out, List.drop_length]; unfold listGo; rfl
   have HZ := Lib.hid hz
   clear hz
   go_wp2_with fail
   go_ret
   exact ⟨ret_int HZ.out.symm, HB.out⟩
theorem grown_of (hb : Below base w w') (hk : ∀ k, k < w.heap.size → A.map (·.block) ≠ some k → w'.heap[k]? = w.heap[k]?) : w.grownBy w' (A.map (·.block)) :=
 ⟨hb.os, hb.tape, hb.output, hb.size, fun k h1 h2 => hk k h1 (fun e => h2 e.symm)⟩
theorem CRow.push2 {B : Nat} {l : List Stp} {ds : List (Option Addr × Nat)} {A' : Option Addr} {c' : Nat} {o : Stp} {d : Option Addr × Nat} (h : CRow w base l ds A c)
  (h1 : Own w' base 117 3 A' (l.length + 1) c' (opCells l ds ++ opCell o d)) (hb : Below B w w') (hk : ∀ k, k < w.heap.size → A.map (·.block) ≠ some k → w'.heap[k]? = w.heap[k]?) (h3 : A'.map (·.block) = A.map (·.block) ∨ ∀ k, A'.map (·.block) = some k → w.heap.size ≤ k)
  (hd : Bts w d.1 o.data) (hd2 : o.data.length ≤ d.2) (hd3 : ∀ k, d.1.map (·.block) = some k → A.map (·.block) ≠ some k ∧ k < w.heap.size) :
  CRow w' base (l ++ [o]) (ds ++ [d]) A' c' := by
 have h2 := grown_of hb hk
 have hlen := h.len
 refine ⟨by simp [hlen], ?_, ?_, ?_⟩
 ·rw [opCells_snoc _ _ _ _ hlen, List.length_append]; exact h1
 ·intro i o' d' hi hd'
  rcases snoc_at hi with hi | ⟨rfl, rfl⟩
  ·have hil : i < l.length := (List.getElem?_eq_some_iff.1 hi).1
   rw [List.getElem?_append_left (by omega)] at hd'
   obtain ⟨e1, e2⟩ := h.data i o' d' hi hd'
   exact ⟨bts_grown e1 h2 (fun k hk => (h.off i d' hd' k hk).1), e2⟩
  ·rw [← hlen] at hd'
   simp at hd'
   subst hd'
   exact ⟨bts_grown hd h2 (fun k hk => (hd3 k hk).1), hd2⟩
 ·intro i d' hd' k hk
  have key : A.map (·.block) ≠ some k ∧ k < w.heap.size := by
   rcases snoc_at hd' with hd' | ⟨rfl, rfl⟩
   ·exact h.off i d' hd' k hk
   ·exact hd3 k hk
  refine ⟨?_, Nat.lt_of_lt_of_le key.2 h2.size⟩
  rcases h3 with h3 | h3
  ·rw [h3]; exact key.1
  ·intro e; have := h3 k e; omega
end Go.Proofs.Ytefkfglkpebbmac
