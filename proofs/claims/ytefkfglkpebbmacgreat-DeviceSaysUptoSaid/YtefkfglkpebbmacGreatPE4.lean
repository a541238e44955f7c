/- Walks of functions, and plain words. No conditions. -/
import Derived.Test.YtefkfglkpebbmacGreatPE3
import Derived.Laws.StructEq
import Derived.Deep.LoopGhost
import Derived.Laws.CopyRow
import Derived.Lib.Overlaps
set_option linter.unusedVariables false
set_option linter.unusedSimpArgs false
set_option maxRecDepth 100000
set_option maxHeartbeats 40000000
namespace Go.Proofs.YtefkfglkpebbmacGreat
open Go.RowKit
theorem patSameA_calls (A B : Option Addr) (c d : Nat) (f t o n sz f2 t2 o2 n2 sz2 : Int) (l m : List Stp) (w : World) (hl : l.length <= 1048576) (hm : m.length <= 1048576) (hs : Sps w A l) (hr : Sps w B m) :
  Calls Tryz.prog 35 #[.agg #[iv f, iv t, iv o, iv n, iv sz, .slice A l.length c], .agg #[iv f2, iv t2, iv o2, iv n2, iv sz2, .slice B m.length d]] w (RetB w (.bool (decide ((⟨f, t, o, n, sz, l⟩ : Pat) = ⟨f2, t2, o2, n2, sz2, m⟩)))) := by
 have hb : Below w.heap.size w ((w.alloc (.cells #[iv f, iv t, iv o, iv n, iv sz, .slice A l.length c] 35)).alloc (.cells #[iv f2, iv t2, iv o2, iv n2, iv sz2, .slice B m.length d] 35)) := ((Below.refl _ _).alloc (Nat.le_refl _) _).alloc (by simp) _
 obtain ⟨r, hR⟩ : ∃ r, decide ((⟨f, t, o, n, sz, l⟩ : Pat) = ⟨f2, t2, o2, n2, sz2, m⟩) = r := ⟨_, rfl⟩
 rw [hR]
 have HR := Lib.hid hR
 clear hR
 have HB := Lib.hid hb
 have HC := Lib.hid (equalOps_calls A B c d l m _ hl hm (hs.stays hb) (hr.stays hb))
 clear hb hs hr
 by_cases h0 : ¬ f = f2
 ·have hz : false = r := (decide_eq_false (fun e => by injection e; contradiction)).symm.trans HR.out
  have HZ := Lib.hid hz
  have q : (f == f2) = false := by simp [h0]
  clear HC hz h0
  go_enter Tryz.func35, Tryz.ntmps35
  exact x50
 have h0 := Decidable.not_not.1 h0
 subst h0
 have q0 : (f == f) = true := by simp
 by_cases h1 : ¬ t = t2
 ·have hz : false = r := (decide_eq_false (fun e => by injection e; contradiction)).symm.trans HR.out
  have HZ := Lib.hid hz
  have q : (t == t2) = false := by simp [h1]
  clear HC hz h1
  go_enter Tryz.func35, Tryz.ntmps35
  exact x50
 have h1 := Decidable.not_not.1 h1
 subst h1
 have q1 : (t == t) = true := by simp
 by_cases h2 : ¬ o = o2
 ·have hz : false = r := (decide_eq_false (fun e => by injection e; contradiction)).symm.trans HR.out
  have HZ := Lib.hid hz
  have q : (o == o2) = false := by simp [h2]
  clear HC hz h2
  go_enter Tryz.func35, Tryz.ntmps35
  exact x50
 have h2 := Decidable.not_not.1 h2
 subst h2
 have q2 : (o == o) = true := by simp
 by_cases h3 : ¬ n = n2
 ·have hz : false = r := (decide_eq_false (fun e => by injection e; contradiction)).symm.trans HR.out
  have HZ := Lib.hid hz
  have q : (n == n2) = false := by simp [h3]
  clear HC hz h3
  go_enter Tryz.func35, Tryz.ntmps35
  exact x50
 have h3 := Decidable.not_not.1 h3
 subst h3
 have q3 : (n == n) = true := by simp
 by_cases h4 : ¬ sz = sz2
 ·have hz : false = r := (decide_eq_false (fun e => by injection e; contradiction)).symm.trans HR.out
  have HZ := Lib.hid hz
  have q : (sz == sz2) = false := by simp [h4]
  clear HC hz h4
  go_enter Tryz.func35, Tryz.ntmps35
  exact x50
 have h4 := Decidable.not_not.1 h4
 subst h4
 have q4 : (sz == sz) = true := by simp
 have hz : decide (l = m) = r := by
  exact x173
 have HZ := Lib.hid hz
 clear hz
 go_enter Tryz.func35, Tryz.ntmps35
 exact x124
theorem x10 {p : Prop} (h : p := by
 go_wp2_with fail
 go_quiet (fail)
 go_wp2_with fail
 go_ret
 exact ⟨ret_int HF.out.symm, Below.drewN' hB _⟩) : p := h
theorem x122 {p : Prop} (h : p := by
 have HI := Lib.hid hI
 clear hI
 go_wp2_with fail
 all_goals first | (go_ret; exact ⟨ret_int HF.out.symm, hB.alloc hB.size _⟩) | (exfalso; have h := HI.out; unfold InfRange at h; simp only at h; omega)) : p := h
theorem x130 {p : Prop} (h : p := by
 go_wp2_with fail
 go_roundw
 case rel => exact ⟨2, by omega, rfl, hB.alloc hB.size _, blk_old HK.out, fun _ => HA.out, fun _ => HI.out⟩
 case measure => simp [intOf] <;> omega) : p := h
theorem x139 {p : Prop} (h : p := by
 go_wp2_with fail
 go_roundw
 case rel => exact ⟨1, by omega, rfl, hB.alloc hB.size _, blk_old HK.out, fun _ => HI.out, by omega⟩
 case measure => simp [intOf] <;> omega) : p := h
theorem x142 {p : Prop} (h : p := by
 have HZ := Lib.hid hz
 clear hz
 go_wp2_with fail
 all_goals first | (go_ret; exact ⟨ret_int HF.out.symm, hB.alloc hB.size _⟩) | (exfalso; have h := HZ.out; omega)) : p := h
theorem x145 {p : Prop} (h : p := by
 exact absurd ⟨by simpa [Rec.at_] using n1, fun _ => ⟨by simpa [Rec.at_] using n2, by simpa [Rec.at_] using e3⟩, by simp, by simpa [Rec.at_] using h⟩ hn) : p := h
theorem x194 {p : Prop} (h : p := by
 exact absurd ⟨by simpa [Rec.at_] using n1, by simp, fun _ => n2, by simpa [Rec.at_] using h⟩ hn) : p := h
theorem recCheck_range (g ac : Int) (tr : Bool) (ts fl va sa ca vb sb cb : Int) (w : World) (h : ¬ (1 <= g ∧ g <= 1000000 ∧ 0 <= ac ∧ ac <= 1 ∧ 0 <= ts ∧ ts <= 3 ∧ 1 <= fl ∧ fl <= 30)) :
  Calls Tryz.prog 87 #[.agg #[iv g, iv ac, .bool tr, iv ts, iv fl, iv va, iv sa, iv ca, iv vb, iv sb, iv cb]] w (RetB w (iv 2)) := by
 have H := Lib.hid h
 clear h
 go_enter Tryz.func87, Tryz.ntmps87
 go_wp2_with fail
 all_goals first | (go_ret; exact ⟨rfl, (Below.refl _ _).alloc (Nat.le_refl _) _⟩) | (exfalso; have h := H.out; omega)
theorem recCheck_rest (g ac : Int) (tr : Bool) (ts fl va sa ca vb sb cb : Int) (w : World) (h1 : 1 <= g) (h2 : g <= 1000000) (h3 : 0 <= ac) (h4 : ac <= 1) (h5 : 0 <= ts) (h6 : ts <= 3) (h7 : 1 <= fl) (h8 : fl <= 30) :
  Calls Tryz.prog 87 #[.agg #[iv g, iv ac, .bool tr, iv ts, iv fl, iv va, iv sa, iv ca, iv vb, iv sb, iv cb]] w (RetB w (iv (recCheck ⟨g, ac, tr, ts, fl, ⟨va, sa, ca⟩, ⟨vb, sb, cb⟩⟩))) := by
 have i0 : ∀ w, (Instr.index 26 (.agg #[iv va, iv sa, iv ca, iv vb, iv sb, iv cb]) (.int .i64 0)).run Tryz.prog w = .ok (.agg #[iv va, iv sa, iv ca]) w := fun _ => by kernel_rfl
 have i1 : ∀ w, (Instr.index 26 (.agg #[iv va, iv sa, iv ca, iv vb, iv sb, iv cb]) (.int .i64 1)).run Tryz.prog w = .ok (.agg #[iv vb, iv sb, iv cb]) w := fun _ => by kernel_rfl
 go_enter Tryz.func87, Tryz.ntmps87
 go_wp2_with fail
 go_loopw [45] (fun i wr => ∃ k : Nat, k <= 2 ∧ i = .int .i64 k ∧ Below w.heap.size w wr ∧ (wr.heap[w.heap.size]? = some (.cells #[iv g, iv ac, .bool tr, iv ts, iv fl, iv va, iv sa, iv ca, iv vb, iv sb, iv cb] 28)) ∧ (0 < k -> infCheck ⟨va, sa, ca⟩ = 0) ∧ (1 < k -> infCheck ⟨vb, sb, cb⟩ = 0)) (fun i _ => (2 - intOf i).toNat)
 case atStart => exact ⟨0, by omega, rfl, (Below.refl _ _).alloc (Nat.le_refl _) _, blk_top rfl, by omega, by omega⟩
 case round =>
  obtain ⟨k, hk, rfl, hB, hblk, ha, hb⟩ := hrel
  have hrg : RangeOk ⟨g, ac, tr, ts, fl, ⟨va, sa, ca⟩, ⟨vb, sb, cb⟩⟩ := ⟨h1, h2, h3, h4, h5, h6, h7, h8⟩
  have HR := Lib.hid hrg
  clear hrg
  by_cases hlt : k < 2
  ·rcases (show k = 0 ∨ k = 1 by omega) with rfl | rfl
   ·have HK := Lib.hid hblk
    clear hblk ha hb
    by_cases hI : InfRange ⟨va, sa, ca⟩
    ·obtain ⟨j1, j2, j3, j4, j5, j6⟩ := hI
     simp only at j1 j2 j3 j4 j5 j6
     by_cases hv : va = 0
     ·subst hv
      by_cases hz : sa = 0 ∧ ca = 0
      ·obtain ⟨rfl, rfl⟩ := hz
       have HI : Hid (infCheck ⟨0, 0, 0⟩ = 0) := infCheck_ok ⟨j1, j2, j3, j4, j5, j6⟩ (fun _ => ⟨rfl, rfl⟩)
       clear j1 j2 j3 j4 j5 j6
       exact x139
      have HF := Lib.hid (recCheck_a HR.out (infCheck_form ⟨j1, j2, j3, j4, j5, j6⟩ rfl hz) (by omega))
      exact x142
     have HI : Hid (infCheck ⟨va, sa, ca⟩ = 0) := infCheck_ok ⟨j1, j2, j3, j4, j5, j6⟩ (fun h => absurd h hv)
     have hv0 : (va == 0) = false := by rw [beq_eq_false_iff_ne]; exact hv
     clear hv
     exact x139
    have HF := Lib.hid (recCheck_a HR.out (infCheck_bad hI) (by omega))
    exact x122
   ·have HK := Lib.hid hblk
    have HA := Lib.hid (ha (by omega))
    clear hblk ha hb
    by_cases hI : InfRange ⟨vb, sb, cb⟩
    ·obtain ⟨j1, j2, j3, j4, j5, j6⟩ := hI
     simp only at j1 j2 j3 j4 j5 j6
     by_cases hv : vb = 0
     ·subst hv
      by_cases hz : sb = 0 ∧ cb = 0
      ·obtain ⟨rfl, rfl⟩ := hz
       have HI : Hid (infCheck ⟨0, 0, 0⟩ = 0) := infCheck_ok ⟨j1, j2, j3, j4, j5, j6⟩ (fun _ => ⟨rfl, rfl⟩)
       clear j1 j2 j3 j4 j5 j6
       exact x130
      have HF := Lib.hid (recCheck_b HR.out HA.out (infCheck_form ⟨j1, j2, j3, j4, j5, j6⟩ rfl hz) (by omega))
      exact x142
     have HI : Hid (infCheck ⟨vb, sb, cb⟩ = 0) := infCheck_ok ⟨j1, j2, j3, j4, j5, j6⟩ (fun h => absurd h hv)
     have hv0 : (vb == 0) = false := by rw [beq_eq_false_iff_ne]; exact hv
     clear hv
     exact x130
    have HF := Lib.hid (recCheck_b HR.out HA.out (infCheck_bad hI) (by omega))
    exact x122
  obtain rfl : k = 2 := by omega
  have HA := Lib.hid (ha (by omega))
  have HB2 := Lib.hid (hb (by omega))
  clear ha hb
  have c0 : ∀ j, wr.cell? ⟨w.heap.size, j, none⟩ = (#[iv g, iv ac, .bool tr, iv ts, iv fl, iv va, iv sa, iv ca, iv vb, iv sb, iv cb] : Array Value)[j]? := fun j => cell_of_row _ _ _ _ _ _ hblk
  have k1 := c0 1
  have k2 := c0 2
  have k3 := c0 3
  have k4 := c0 4
  have k5 := c0 5
  have k8 := c0 8
  simp at k1 k2 k3 k4 k5 k8
  clear c0 hblk
  by_cases hF : FormOk ⟨g, ac, tr, ts, fl, ⟨va, sa, ca⟩, ⟨vb, sb, cb⟩⟩
  ·have HF := Lib.hid (recCheck_ok HR.out HA.out HB2.out hF)
   obtain ⟨f1, f2, f3, f4⟩ := hF
   rcases (show ac = 0 ∨ ac = 1 by omega) with rfl | rfl
   ·simp [Rec.at_] at f1 f2 f3 f4
    cases tr
    ·have e1 : (va == 0) = false := by rw [beq_eq_false_iff_ne]; simpa using f1
     have e2 : (ts != 0) = false := by have := f3 rfl; simp [this]
     have e4 : fl <= va := by simpa using f4
     clear f1 f2 f3 f4
     exact x10
    have e1 : (va == 0) = false := by rw [beq_eq_false_iff_ne]; simpa using f1
    have e2 : (vb == 0) = false := by rw [beq_eq_false_iff_ne]; simpa using (f2 rfl).1
    have e3 : fl <= vb := by simpa using (f2 rfl).2
    have d3 : decide (vb < fl) = false := by simpa using e3
    have e4 : fl <= va := by simpa using f4
    clear f1 f2 f3 f4
    exact x10
   simp [Rec.at_] at f1 f2 f3 f4
   cases tr
   ·have e1 : (vb == 0) = false := by rw [beq_eq_false_iff_ne]; simpa using f1
    have e2 : (ts != 0) = false := by have := f3 rfl; simp [this]
    have e4 : fl <= vb := by simpa using f4
    clear f1 f2 f3 f4
    exact x10
   have e1 : (vb == 0) = false := by rw [beq_eq_false_iff_ne]; simpa using f1
   have e2 : (va == 0) = false := by rw [beq_eq_false_iff_ne]; simpa using (f2 rfl).1
   have e3 : fl <= va := by simpa using (f2 rfl).2
   have d3 : decide (va < fl) = false := by simpa using e3
   have e4 : fl <= vb := by simpa using f4
   clear f1 f2 f3 f4
   exact x10
  have HF := Lib.hid (recCheck_form HR.out HA.out HB2.out hF)
  rcases (show ac = 0 ∨ ac = 1 by omega) with rfl | rfl
  ·cases tr
   ·have hn := hF
    clear hF
    by_cases n1 : va = 0
    ·have e1 : (va == 0) = true := by rw [beq_iff_eq]; exact n1
     clear n1
     clear hn
     exact x10
    have e1 : (va == 0) = false := by rw [beq_eq_false_iff_ne]; exact n1
    by_cases n2 : ts = 0
    ·have e2 : (ts != 0) = false := by simp [n2]
     have e4 : va < fl := by
      rcases Int.lt_or_le va fl with h | h
      ·exact h
      exact x194
     clear n1 n2
     clear hn
     exact x10
    have e2 : (ts != 0) = true := by simp [n2]
    clear n1 n2
    clear hn
    exact x10
   ·have hn := hF
    clear hF
    by_cases n1 : va = 0
    ·have e1 : (va == 0) = true := by rw [beq_iff_eq]; exact n1
     clear n1
     clear hn
     exact x10
    have e1 : (va == 0) = false := by rw [beq_eq_false_iff_ne]; exact n1
    by_cases n2 : vb = 0
    ·have e2 : (vb == 0) = true := by rw [beq_iff_eq]; exact n2
     clear n1 n2
     clear hn
     exact x10
    have e2 : (vb == 0) = false := by rw [beq_eq_false_iff_ne]; exact n2
    by_cases n3 : vb < fl
    ·clear n1 n2
     clear hn
     exact x10
    have e3 : fl <= vb := by omega
    have d3 : decide (vb < fl) = false := by simpa using e3
    have e4 : va < fl := by
     rcases Int.lt_or_le va fl with h | h
     ·exact h
     exact x145
    clear n1 n2 n3
    clear hn
    exact x10
  cases tr
  ·have hn := hF
   clear hF
   by_cases n1 : vb = 0
   ·have e1 : (vb == 0) = true := by rw [beq_iff_eq]; exact n1
    clear n1
    clear hn
    exact x10
   have e1 : (vb == 0) = false := by rw [beq_eq_false_iff_ne]; exact n1
   by_cases n2 : ts = 0
   ·have e2 : (ts != 0) = false := by simp [n2]
    have e4 : vb < fl := by
     rcases Int.lt_or_le vb fl with h | h
     ·exact h
     exact x194
    clear n1 n2
    clear hn
    exact x10
   have e2 : (ts != 0) = true := by simp [n2]
   clear n1 n2
   clear hn
   exact x10
  have hn := hF
  clear hF
  by_cases n1 : vb = 0
  ·have e1 : (vb == 0) = true := by rw [beq_iff_eq]; exact n1
   clear n1
   clear hn
   exact x10
  have e1 : (vb == 0) = false := by rw [beq_eq_false_iff_ne]; exact n1
  by_cases n2 : va = 0
  ·have e2 : (va == 0) = true := by rw [beq_iff_eq]; exact n2
   clear n1 n2
   clear hn
   exact x10
  have e2 : (va == 0) = false := by rw [beq_eq_false_iff_ne]; exact n2
  by_cases n3 : va < fl
  ·clear n1 n2
   clear hn
   exact x10
  have e3 : fl <= va := by omega
  have d3 : decide (va < fl) = false := by simpa using e3
  have e4 : vb < fl := by
   rcases Int.lt_or_le vb fl with h | h
   ·exact h
   exact x145
  clear n1 n2 n3
  clear hn
  exact x10
theorem recCheck_calls (g ac : Int) (tr : Bool) (ts fl va sa ca vb sb cb : Int) (w : World) :
  Calls Tryz.prog 87 #[.agg #[iv g, iv ac, .bool tr, iv ts, iv fl, iv va, iv sa, iv ca, iv vb, iv sb, iv cb]] w (RetB w (iv (recCheck ⟨g, ac, tr, ts, fl, ⟨va, sa, ca⟩, ⟨vb, sb, cb⟩⟩))) := by
 by_cases h : RangeOk ⟨g, ac, tr, ts, fl, ⟨va, sa, ca⟩, ⟨vb, sb, cb⟩⟩
 ·obtain ⟨h1, h2, h3, h4, h5, h6, h7, h8⟩ := h
  exact recCheck_rest g ac tr ts fl va sa ca vb sb cb w h1 h2 h3 h4 h5 h6 h7 h8
 rw [recCheck_bad h]
 exact recCheck_range g ac tr ts fl va sa ca vb sb cb w h
theorem cloneOps_calls (A : Option Addr) (n c : Nat) (cs : List Value) (w : World) (hl : cs.length = n * 3) (hn0 : n <= 16777216) (hr : Src w A cs) (h1 : ∀ u ∈ cs, u.oneCell' = true) :
  Calls Tryz.prog 114 #[.slice A n c] w (SlRet w 121 3 n cs) := by
 rcases A with _ | ad
 ·have h0 : cs.length = 0 := by
   exact x134
  obtain rfl : n = 0 := by omega
  obtain rfl : cs = [] := List.eq_nil_of_length_eq_zero h0
  have hn := fun (wx : World) (a : Option Addr) (n c n' c' : Nat) => Lib.run_eql_slice_nil (P := Tryz.prog) wx 33 121 a n c n' c' Tryz.underlying33
  clear h0 hl
  go_enter Tryz.func114, Tryz.ntmps114
  exact x136
 have hn := fun (wx : World) (a : Option Addr) (n c n' c' : Nat) => Lib.run_eql_slice_nil (P := Tryz.prog) wx 33 121 a n c n' c' Tryz.underlying33
 have ho : Own (w.alloc (.cells #[] 121)) w.heap.size 121 3 (some ⟨w.heap.size, 0, none⟩) 0 0 [] := own_zero w _ _
 have hs := hr.stays ((Below.refl w.heap.size w).alloc (Nat.le_refl _) (.cells #[] 121))
 have hb1 : 0 + n <= 1073741824 := by omega
 have hb2 : w.heap.size <= (w.alloc (.cells #[] 121)).heap.size := by simp
 have HL := Lib.hid hl
 clear hl
 go_enter Tryz.func114, Tryz.ntmps114
 go_wp2_with (at_builtin; refine wpList_app _ rfl _ _ 33 rfl elOps w.heap.size (some ⟨w.heap.size, 0, none⟩) 0 0 [] rfl ho (some ad) n c cs rfl hs HL.out h1 hb1 hb2 ?_; intro A' c' w1 hown hg hb hx)
 exact x102
theorem cloneChunks_calls (A : Option Addr) (n c : Nat) (cs : List Value) (w : World) (hl : cs.length = n * 5) (hn0 : n <= 16777216) (hr : Src w A cs) (h1 : ∀ u ∈ cs, u.oneCell' = true) :
  Calls Tryz.prog 103 #[.slice A n c] w (SlRet w 39 5 n cs) := by
 rcases A with _ | ad
 ·have h0 : cs.length = 0 := by
   exact x134
  obtain rfl : n = 0 := by omega
  obtain rfl : cs = [] := List.eq_nil_of_length_eq_zero h0
  have hn := fun (wx : World) (a : Option Addr) (n c n' c' : Nat) => Lib.run_eql_slice_nil (P := Tryz.prog) wx 32 39 a n c n' c' Tryz.underlying32
  clear h0 hl
  go_enter Tryz.func103, Tryz.ntmps103
  exact x136
 have hn := fun (wx : World) (a : Option Addr) (n c n' c' : Nat) => Lib.run_eql_slice_nil (P := Tryz.prog) wx 32 39 a n c n' c' Tryz.underlying32
 have ho : Own (w.alloc (.cells #[] 39)) w.heap.size 39 5 (some ⟨w.heap.size, 0, none⟩) 0 0 [] := own_zero w _ _
 have hs := hr.stays ((Below.refl w.heap.size w).alloc (Nat.le_refl _) (.cells #[] 39))
 have hb1 : 0 + n <= 1073741824 := by omega
 have hb2 : w.heap.size <= (w.alloc (.cells #[] 39)).heap.size := by simp
 have HL := Lib.hid hl
 clear hl
 go_enter Tryz.func103, Tryz.ntmps103
 go_wp2_with (at_builtin; refine wpList_app _ rfl _ _ 32 rfl elChunks w.heap.size (some ⟨w.heap.size, 0, none⟩) 0 0 [] rfl ho (some ad) n c cs rfl hs HL.out h1 hb1 hb2 ?_; intro A' c' w1 hown hg hb hx)
 exact x102
def over (L : List Value) (o : Nat) (cs : List Value) : List Value := L.take o ++ cs ++ L.drop (o + cs.length)
theorem over_len (L : List Value) (o : Nat) (cs : List Value) (h : o + cs.length <= L.length) : (over L o cs).length = L.length := by simp [over]; omega
theorem over_at (L : List Value) (o : Nat) (cs : List Value) (h : o + cs.length <= L.length) (j : Nat) : (over L o cs)[j]? = if o <= j ∧ j < o + cs.length then cs[j - o]? else L[j]? := by
 have hl : (L.take o).length = o := by simp; omega
 unfold over
 by_cases h1 : j < o
 ·rw [List.append_assoc, List.getElem?_append_left (by omega), List.getElem?_take, if_pos h1, if_neg (by omega)]
 by_cases h2 : j < o + cs.length
 ·rw [List.append_assoc, List.getElem?_append_right (by omega), List.getElem?_append_left (by omega), hl, if_pos ⟨by omega, h2⟩]
 rw [List.getElem?_append_right (by simp; omega), List.getElem?_drop, if_neg (by omega)]
 congr 1
 simp; omega
theorem run_copy_rowN {P : Program} (w : World) (dT sT ty elem : TypeId) (g o dLen dCap : Nat) (a : Addr) (sLen sCap : Nat) (cur : List Value) (t : TypeId) (cs : List Value) (size : Nat)
  (hu : P.underlying dT = some (.slice elem)) (hs : (P.info? elem).map (·.size) = some size)
  (hg : w.heap[g]? = some (.cells cur.toArray t (0, 0))) (hn : cs.length = Nat.min sLen dLen * size)
  (hsrc : ∀ j v, cs[j]? = some v -> w.cell? (a.add j) = some v) (hfit : o + cs.length <= cur.length) (h1 : ∀ v ∈ cs, v.oneCell' = true) :
  (Builtin.copy_ #[dT, sT] ty #[.slice (some ⟨g, o, none⟩) dLen dCap, .slice (some a) sLen sCap]).run P w =
   .ok (goInt (Nat.min sLen dLen)) (w.setRow g (over cur o cs).toArray) := by
 have hl := run_loadCells_list (P := P) w a cs hsrc
 have hst := run_storeCells_at P g o t cs 0 cur.toArray w hg (by simpa using hfit) h1
 cases hq : P.info? elem with
 | none => simp [hq] at hs
 | some i =>
  have hi : i.size = size := by simpa [hq] using hs
  rw [hn] at hl
  simp [Builtin.copy_, run_underlying hu, Builtin.lenOf, Builtin.firstCells, sizeOf, typeInfo, hq, hi, hl, hst, over]
theorem wp_copyN {P : Program} {w : World} {o : Oper} {a : Act} {K : Act -> World -> Prop} {Q : Exit -> Act -> World -> Prop} (d s : Operand) (t t' : TypeId)
  (ho : o.op = .call { callee := .builtin .copy, args := #[d, s], argTypes := #[t, t'] }) (v u : Value) (hd : a.eval d = v) (hs : a.eval s = u) {v' : Value} {w' : World}
  (hr : (Builtin.copy_ #[t, t'] o.type #[v, u]).run P w = .ok v' w') (h : K (a.put o.dst v') w') : o.wp P a w K Q := by
 unfold Oper.wp execOp
 simp only [ho, resolve, invoke, builtin, Sem.run_bind, Sem.run_pure, Result.andThen_ok, List.map_toArray, List.map_cons, List.map_nil, hd, hs, hr]
 exact h
theorem ins_room (L ns : List Value) (k N : Nat) (hk : k <= N) (hL : N + ns.length <= L.length) :
  (over (over L (k + ns.length) ((L.take N).drop k)) k ns).take (N + ns.length) = (L.take N).take k ++ ns ++ (L.take N).drop k := by
 have h1 : ((L.take N).drop k).length = N - k := by simp; omega
 have h2 := over_len L (k + ns.length) ((L.take N).drop k) (by omega)
 apply List.ext_getElem?
 intro j
 rw [List.getElem?_take]
 by_cases hj : j < N + ns.length
 ·rw [if_pos hj, over_at _ _ _ (by omega)]
  by_cases a1 : j < k
  ·rw [if_neg (by omega), over_at _ _ _ (by omega), if_neg (by omega), List.append_assoc, List.getElem?_append_left (by simp; omega), List.getElem?_take, if_pos a1, List.getElem?_take, if_pos (by omega)]
  by_cases a2 : j < k + ns.length
  ·rw [if_pos ⟨by omega, a2⟩, List.append_assoc, List.getElem?_append_right (by simp; omega), List.getElem?_append_left (by simp; omega)]
   congr 1
   simp; omega
  rw [if_neg (by omega), over_at _ _ _ (by omega), if_pos ⟨by omega, by omega⟩, List.getElem?_append_right (by simp; omega)]
  congr 1
  simp; omega
 rw [if_neg hj]
 symm
 apply List.getElem?_eq_none
 simp; omega
theorem ins_grown (X Z ns : List Value) (k N m : Nat) (hk : k <= N) (hX : X.length = N) (hm : ns.length = m) (hZ : N + m <= k + Z.length) :
  (over (over (X.take k ++ Z) k ns) (k + m) (X.drop k)).take (N + m) = X.take k ++ ns ++ X.drop k := by
 have h0 : (X.take k ++ Z).length = k + Z.length := by simp; omega
 have h1 : (X.drop k).length = N - k := by simp; omega
 have h2 := over_len (X.take k ++ Z) k ns (by omega)
 apply List.ext_getElem?
 intro j
 rw [List.getElem?_take]
 by_cases hj : j < N + m
 ·rw [if_pos hj, over_at _ _ _ (by omega)]
  by_cases a1 : j < k
  ·rw [if_neg (by omega), over_at _ _ _ (by omega), if_neg (by omega), List.getElem?_append_left (by simp; omega), List.append_assoc, List.getElem?_append_left (by simp; omega)]
  by_cases a2 : j < k + m
  ·rw [if_neg (by omega), over_at _ _ _ (by omega), if_pos ⟨by omega, by omega⟩, List.append_assoc, List.getElem?_append_right (by simp; omega), List.getElem?_append_left (by simp; omega)]
   congr 1
   simp; omega
  rw [if_pos ⟨by omega, by omega⟩, List.getElem?_append_right (by simp; omega)]
  congr 1
  simp; omega
 rw [if_neg hj]
 symm
 apply List.getElem?_eq_none
 simp; omega
theorem x26 {p : Prop} (h : p := by
 have e19 := ch_new (i := 0) (t := 19) h (hw 0 (by decide)) rfl rfl; have hc := (h.bel.cell (p := ⟨wr.heap.size, 0, none⟩) (by simp)).trans (show (wr.alloc (.cells #[iv xa, iv xl, .slice B1 xd.length c1] 121)).cell? ⟨wr.heap.size, 0, none⟩ = some (iv xa) by go_simp); refine ch_pure ?_; go_simp) : p := h
theorem x34 {p : Prop} (h : p := by
 have e6 := ch_old (t := 6) (v := .pointer (some ⟨wr.heap.size, 0, none⟩)) h rfl rfl; refine ch_pure ?_; go_simp) : p := h
theorem x36 {p : Prop} (h : p := by
 have e1 := ch_old (t := 1) (v := .slice (some ⟨b2, o2, none⟩) m.length d) h rfl rfl; exact ch_move (ch_ev e1)) : p := h
theorem x38 {p : Prop} (h : p := by
 intro w1 hb
 have HB1 := Lib.hid (HBX.out.trans (hb.mono (by simp; omega)))
 clear hb r0 r1 r2
 simp only [putAll_some, putAll_none, putAll_nil, List.getElem?_cons_zero, List.getElem?_cons_succ, List.setIfInBounds_toArray, List.set_cons_zero, List.set_cons_succ]
 go_wp2_with fail
 go_ret
 exact ⟨ret_bool (decide_eq_false (HN.out HNE.out)).symm, HB1.out⟩) : p := h
theorem x43 {p : Prop} (h : p := by
 have e28 := ch_new (i := 9) (t := 28) h (hw 9 (by decide)) rfl rfl; have hc := (h.bel.cell (p := ⟨wr.heap.size, 1, none⟩) (by simp)).trans (show (wr.alloc (.cells #[iv xa, iv xl, .slice B1 xd.length c1] 121)).cell? ⟨wr.heap.size, 1, none⟩ = some (iv xl) by go_simp); refine ch_pure ?_; go_simp) : p := h
theorem x48 {p : Prop} (h : p := by
 have e5 := ch_old (t := 5) (v := .int .i64 (k : Int)) h rfl rfl; exact ch_move (ch_ev e5)) : p := h
theorem x51 {p : Prop} (h : p := by
 have e24 := ch_new (i := 5) (t := 24) h (hw 5 (by decide)) rfl rfl; have hc := (h.bel.cell (p := ⟨b2, o2 + k * 3, none⟩) (by simp; omega)).trans (show (wr.alloc (.cells #[iv xa, iv xl, .slice B1 xd.length c1] 121)).cell? _ = some (iv xa) from r0); refine ch_pure ?_; go_simp) : p := h
theorem x60 {p : Prop} (h : p := by
 have e21 := ch_new (i := 2) (t := 21) h (hw 2 (by decide)) rfl rfl; have e22 := ch_new (i := 3) (t := 22) h (hw 3 (by decide)) rfl rfl; refine ch_pure ?_; go_simp) : p := h
theorem x70 {p : Prop} (h : p := by
 have e20 := ch_new (i := 1) (t := 20) h (hw 1 (by decide)) rfl rfl; have e25 := ch_new (i := 6) (t := 25) h (hw 6 (by decide)) rfl rfl; exact ch_neq_int (by kernel_rfl) (ch_ev e20) (ch_ev e25) (by simp)) : p := h
theorem x82 {p : Prop} (h : p := by
 have e38 := ch_new (i := 19) (t := 38) h (hw 19 (by decide)) rfl rfl; have hc := (h.bel.cell (p := ⟨wr.heap.size, 2, none⟩) (by simp)).trans (show (wr.alloc (.cells #[iv xa, iv xl, .slice B1 xd.length c1] 121)).cell? ⟨wr.heap.size, 2, none⟩ = some (.slice B1 xd.length c1) by go_simp); refine ch_pure ?_; go_simp) : p := h
theorem x84 {p : Prop} (h : p := by
 have e27 := ch_new (i := 8) (t := 27) h (hw 8 (by decide)) rfl rfl; have e35 := ch_new (i := 16) (t := 35) h (hw 16 (by decide)) rfl rfl; exact ch_pick_f e27 (ch_ev e35)) : p := h
theorem x86 {p : Prop} (h : p := by
 have e30 := ch_new (i := 11) (t := 30) h (hw 11 (by decide)) rfl rfl; have e31 := ch_new (i := 12) (t := 31) h (hw 12 (by decide)) rfl rfl; refine ch_pure ?_; go_simp) : p := h
theorem x90 {p : Prop} (h : p := by
 have e33 := ch_new (i := 14) (t := 33) h (hw 14 (by decide)) rfl rfl; have hc := (h.bel.cell (p := ⟨b2, o2 + k * 3 + 1, none⟩) (by simp; omega)).trans (show (wr.alloc (.cells #[iv xa, iv xl, .slice B1 xd.length c1] 121)).cell? _ = some (iv xl) from r1); refine ch_pure ?_; go_simp) : p := h
theorem x106 {p : Prop} (h : p := by
 have e36 := ch_new (i := 17) (t := 36) h (hw 17 (by decide)) rfl rfl; exact ch_move (ch_ev e36)) : p := h
theorem x108 {p : Prop} (h : p := by
 have e23 := ch_new (i := 4) (t := 23) h (hw 4 (by decide)) rfl rfl; refine ch_pure ?_; go_simp) : p := h
theorem x109 {p : Prop} (h : p := by
 have e26 := ch_new (i := 7) (t := 26) h (hw 7 (by decide)) rfl rfl; exact ch_move (ch_ev e26)) : p := h
theorem x113 {p : Prop} (h : p := by
 have e39 := ch_new (i := 20) (t := 39) h (hw 20 (by decide)) rfl rfl; have e44 := ch_new (i := 25) (t := 44) h (hw 25 (by decide)) rfl rfl; exact ch_call (by go_simp) (by go_simp) (HC.out _ ((Below.refl _ _).drew.trans h.bel))) : p := h
theorem x121 {p : Prop} (h : p := by
 have e29 := ch_new (i := 10) (t := 29) h (hw 10 (by decide)) rfl rfl; have e34 := ch_new (i := 15) (t := 34) h (hw 15 (by decide)) rfl rfl; exact ch_neq_int (by kernel_rfl) (ch_ev e29) (ch_ev e34) (by simp)) : p := h
theorem x137 {p : Prop} (h : p := by
 have e37 := ch_new (i := 18) (t := 37) h (hw 18 (by decide)) rfl rfl; have e46 := ch_new (i := 27) (t := 46) h (hw 27 (by decide)) rfl rfl; exact ch_pick_f e37 (ch_ev e46)) : p := h
theorem x138 {p : Prop} (h : p := by
 have e32 := ch_new (i := 13) (t := 32) h (hw 13 (by decide)) rfl rfl; refine ch_pure ?_; go_simp) : p := h
theorem x141 {p : Prop} (h : p := by
 have e40 := ch_new (i := 21) (t := 40) h (hw 21 (by decide)) rfl rfl; have e41 := ch_new (i := 22) (t := 41) h (hw 22 (by decide)) rfl rfl; refine ch_pure ?_; go_simp) : p := h
theorem x201 {p : Prop} (h : p := by
 have e42 := ch_new (i := 23) (t := 42) h (hw 23 (by decide)) rfl rfl; refine ch_pure ?_; go_simp) : p := h
theorem x202 {p : Prop} (h : p := by
 have e45 := ch_new (i := 26) (t := 45) h (hw 26 (by decide)) rfl rfl; refine ch_pure ?_; go_simp) : p := h
theorem x205 {p : Prop} (h : p := by
 have e37 := ch_new (i := 18) (t := 37) h (hw 18 (by decide)) rfl rfl; exact ch_pick_t e37 rfl) : p := h
theorem refSame_calls (A B : Option Addr) (c d : Nat) (l m : List Stp) (w : World) (hl : l.length <= 1048576) (hm : m.length <= 1048576) (ha : Sps w A l) (hb : Sps w B m) :
  Calls Tryz.prog 62 #[.slice A l.length c, .slice B m.length d] w (RetB w (.bool (decide (l = m)))) := by
 by_cases hne : l.length = m.length
 ·have hdl : ((l.length : Int) != (m.length : Int)) = false := by simp [hne]
  have HE := Lib.hid hne
  have hm1 : l.length <= m.length := by omega
  have hm2 : m.length <= l.length := by omega
  clear hne
  have HA := Lib.hid ha
  have HB0 := Lib.hid hb
  clear ha hb
  go_enter Tryz.func62, Tryz.ntmps62
  go_wp2_with fail
  go_loopw [14] (fun i wr => ∃ k : Nat, k <= l.length ∧ i = .int .i64 k ∧ Hid (l.take k = m.take k) ∧ Hid (Below w.heap.size w wr)) (fun i _ => l.length - (intOf i).toNat)
  case atStart => exact ⟨0, Nat.zero_le _, rfl, Lib.hid rfl, Lib.hid (Below.refl _ _)⟩
  case round =>
   obtain ⟨k, hk, rfl, HT, HB⟩ := hrel
   by_cases hlt : k < l.length
   ·obtain ⟨b1, o1, B1, c1, rfl, hs1, p0, p1, p2, p3, p4, p5, -, -⟩ := (HA.out.stays HB.out).at_ hlt
    have hsz := HB.out.size
    have hbx : Below wr.heap.size wr (wr.alloc (.cells #[iv l[k].at_, iv l[k].len, .slice B1 l[k].data.length c1] 121)) := (Below.refl _ _).alloc (Nat.le_refl _) _
    obtain ⟨b2, o2, B2, c2, rfl, hs2, r0, r1, r2, r3, r4, r5, -, -⟩ := ((HB0.out.stays HB.out).stays hbx).at_ (i := k) (by omega)
    obtain ⟨b3, o3, B3, c3, e3, hs3, -⟩ := (HB0.out.stays HB.out).at_ (i := k) (by omega)
    injection e3 with e3
    injection e3 with e4 e5
    subst e4 e5
    have HBX := Lib.hid (HB.out.trans (hbx.mono hsz))
    have HX : Hid (l[k] = m[k]'(by omega) -> l.take (k + 1) = m.take (k + 1)) := Lib.hid fun e => take_eq_succ HT.out hlt (by omega) e
    have HN : Hid (l[k] ≠ m[k]'(by omega) -> l ≠ m) := Lib.hid fun e => ne_of_at hlt (by omega) e
    have p5x := p5.stays hbx
    generalize l[k] = x at *
    generalize m[k]'(by omega) = y at *
    obtain ⟨xa, xl, xd⟩ := x
    obtain ⟨ya, yl, yd⟩ := y
    dsimp only at *
    have HK : Hid (∀ w', Below (wr.alloc (.cells #[iv xa, iv xl, .slice B1 xd.length c1] 121)).heap.size (wr.alloc (.cells #[iv xa, iv xl, .slice B1 xd.length c1] 121)) w' -> Calls Tryz.prog 29 #[.slice B1 xd.length c1, .slice B2 yd.length c2] w' (RetB w' (.bool (decide (xd = yd))))) :=
     Lib.hid fun w' hb => (bytesEqual_calls B1 B2 c1 c2 xd yd w' p3 r3 (p5x.stays hb) (r5.stays hb)).mono fun e w'' h => h.to
    clear p5 p5x r5 hbx HA HB0
    have hkm : k < m.length := by omega
    have hsx : wr.heap.size <= (wr.alloc (.cells #[iv xa, iv xl, .slice B1 xd.length c1] 121)).heap.size := by simp
    by_cases h1 : xa = ya
    ·subst h1
     by_cases h2 : xl = yl
     ·subst h2
      by_cases h3 : xd = yd
      ·subst h3
       have HC : Hid (∀ w', Below (wr.alloc (.cells #[iv xa, iv xl, .slice B1 xd.length c1] 121)).heap.size (wr.alloc (.cells #[iv xa, iv xl, .slice B1 xd.length c1] 121)) w' -> Calls Tryz.prog 29 #[.slice B1 xd.length c1, .slice B2 xd.length c2] w' (RetB w' (.bool true))) := Lib.hid fun w' hb => by
        have := HK.out w' hb
        rwa [show decide (xd = xd) = true by simp] at this
       clear HK HN
       go_wp2_with fail
       refine wp_region_chain (by kernel_rfl) (some 19 :: some 20 :: some 21 :: some 22 :: some 23 :: some 24 :: some 25 :: some 26 :: some 27 :: some 28 :: some 29 :: some 30 :: some 31 :: some 32 :: some 33 :: some 34 :: some 35 :: some 36 :: some 37 :: some 38 :: some 39 :: some 40 :: some 41 :: some 42 :: some 43 :: some 44 :: some 45 :: some 46 :: some 47 :: []) (.pointer (some ⟨wr.heap.size, 0, none⟩) :: iv xa :: .slice (some ⟨b2, o2, none⟩) m.length d :: .int .i64 (k : Int) :: .pointer (some ⟨b2, o2 + k * 3, none⟩) :: .pointer (some ⟨b2, o2 + k * 3, none⟩) :: iv xa :: .bool false :: .bool false :: .pointer (some ⟨wr.heap.size, 1, none⟩) :: iv xl :: .slice (some ⟨b2, o2, none⟩) m.length d :: .int .i64 (k : Int) :: .pointer (some ⟨b2, o2 + k * 3, none⟩) :: .pointer (some ⟨b2, o2 + k * 3 + 1, none⟩) :: iv xl :: .bool false :: .bool false :: .bool false :: .pointer (some ⟨wr.heap.size, 2, none⟩) :: .slice B1 xd.length c1 :: .slice (some ⟨b2, o2, none⟩) m.length d :: .int .i64 (k : Int) :: .pointer (some ⟨b2, o2 + k * 3, none⟩) :: .pointer (some ⟨b2, o2 + k * 3 + 2, none⟩) :: .slice B2 xd.length c2 :: .bool true :: .bool false :: .bool false :: []) 49 rfl rfl (by decide +kernel) (by decide +kernel) (by decide +kernel) rfl ?_ ?_
       ·refine ⟨.inl ⟨rfl, ?_⟩, .inl ⟨rfl, ?_⟩, .inl ⟨rfl, ?_⟩, .inl ⟨rfl, ?_⟩, .inl ⟨rfl, ?_⟩, .inl ⟨rfl, ?_⟩, .inl ⟨rfl, ?_⟩, .inl ⟨rfl, ?_⟩, .inl ⟨rfl, ?_⟩, .inl ⟨rfl, ?_⟩, .inl ⟨rfl, ?_⟩, .inl ⟨rfl, ?_⟩, .inl ⟨rfl, ?_⟩, .inl ⟨rfl, ?_⟩, .inl ⟨rfl, ?_⟩, .inl ⟨rfl, ?_⟩, .inl ⟨rfl, ?_⟩, .inl ⟨rfl, ?_⟩, .inl ⟨rfl, ?_⟩, .inl ⟨rfl, ?_⟩, .inl ⟨rfl, ?_⟩, .inl ⟨rfl, ?_⟩, .inl ⟨rfl, ?_⟩, .inl ⟨rfl, ?_⟩, .inl ⟨rfl, ?_⟩, .inl ⟨rfl, ?_⟩, .inl ⟨rfl, ?_⟩, .inl ⟨rfl, ?_⟩, .inl ⟨rfl, ?_⟩, trivial⟩
        all_goals intro done a wq hw h
        ·exact x34
        ·exact x26
        ·exact x36
        ·exact x48
        ·exact x60
        ·exact x108
        ·exact x51
        ·exact x70
        ·exact x109
        ·exact x34
        ·exact x43
        ·exact x36
        ·exact x48
        ·exact x86
        ·exact x138
        ·exact x90
        ·exact x121
        ·exact x84
        ·exact x106
        ·exact x34
        ·exact x82
        ·exact x36
        ·exact x48
        ·exact x141
        ·exact x201
        ·have e43 := ch_new (i := 24) (t := 43) h (hw 24 (by decide)) rfl rfl; have hc := (h.bel.cell (p := ⟨b2, o2 + k * 3 + 2, none⟩) (by simp; omega)).trans (show (wr.alloc (.cells #[iv xa, iv xl, .slice B1 xd.length c1] 121)).cell? _ = some (.slice B2 xd.length c2) from r2); refine ch_pure ?_; go_simp
        ·exact x113
        ·exact x202
        ·exact x137
       intro w1 hb
       have HB1 := Lib.hid (HBX.out.trans (hb.mono (by simp; omega)))
       clear hb r0 r1 r2
       simp only [putAll_some, putAll_none, putAll_nil, List.getElem?_cons_zero, List.getElem?_cons_succ, List.setIfInBounds_toArray, List.set_cons_zero, List.set_cons_succ]
       go_wp2_with fail
       go_roundw
       case rel => exact ⟨k + 1, by omega, by go_num, Lib.hid (by first | exact HX.out trivial | exact HX.out rfl), HB1⟩
       case measure => simp [intOf]; omega
      have HC : Hid (∀ w', Below (wr.alloc (.cells #[iv xa, iv xl, .slice B1 xd.length c1] 121)).heap.size (wr.alloc (.cells #[iv xa, iv xl, .slice B1 xd.length c1] 121)) w' -> Calls Tryz.prog 29 #[.slice B1 xd.length c1, .slice B2 yd.length c2] w' (RetB w' (.bool false))) := Lib.hid fun w' hb => by
       have := HK.out w' hb
       rwa [show decide (xd = yd) = false by simp [h3]] at this
      have HNE : Hid ((⟨xa, xl, xd⟩ : Stp) ≠ ⟨xa, xl, yd⟩) := Lib.hid fun e => by injection e; contradiction
      clear HK HX h3
      go_wp2_with fail
      refine wp_region_chain (by kernel_rfl) (some 19 :: some 20 :: some 21 :: some 22 :: some 23 :: some 24 :: some 25 :: some 26 :: some 27 :: some 28 :: some 29 :: some 30 :: some 31 :: some 32 :: some 33 :: some 34 :: some 35 :: some 36 :: some 37 :: some 38 :: some 39 :: some 40 :: some 41 :: some 42 :: some 43 :: some 44 :: some 45 :: some 46 :: some 47 :: []) (.pointer (some ⟨wr.heap.size, 0, none⟩) :: iv xa :: .slice (some ⟨b2, o2, none⟩) m.length d :: .int .i64 (k : Int) :: .pointer (some ⟨b2, o2 + k * 3, none⟩) :: .pointer (some ⟨b2, o2 + k * 3, none⟩) :: iv xa :: .bool false :: .bool false :: .pointer (some ⟨wr.heap.size, 1, none⟩) :: iv xl :: .slice (some ⟨b2, o2, none⟩) m.length d :: .int .i64 (k : Int) :: .pointer (some ⟨b2, o2 + k * 3, none⟩) :: .pointer (some ⟨b2, o2 + k * 3 + 1, none⟩) :: iv xl :: .bool false :: .bool false :: .bool false :: .pointer (some ⟨wr.heap.size, 2, none⟩) :: .slice B1 xd.length c1 :: .slice (some ⟨b2, o2, none⟩) m.length d :: .int .i64 (k : Int) :: .pointer (some ⟨b2, o2 + k * 3, none⟩) :: .pointer (some ⟨b2, o2 + k * 3 + 2, none⟩) :: .slice B2 yd.length c2 :: .bool false :: .bool true :: .bool true :: []) 49 rfl rfl (by decide +kernel) (by decide +kernel) (by decide +kernel) rfl ?_ ?_
      ·refine ⟨.inl ⟨rfl, ?_⟩, .inl ⟨rfl, ?_⟩, .inl ⟨rfl, ?_⟩, .inl ⟨rfl, ?_⟩, .inl ⟨rfl, ?_⟩, .inl ⟨rfl, ?_⟩, .inl ⟨rfl, ?_⟩, .inl ⟨rfl, ?_⟩, .inl ⟨rfl, ?_⟩, .inl ⟨rfl, ?_⟩, .inl ⟨rfl, ?_⟩, .inl ⟨rfl, ?_⟩, .inl ⟨rfl, ?_⟩, .inl ⟨rfl, ?_⟩, .inl ⟨rfl, ?_⟩, .inl ⟨rfl, ?_⟩, .inl ⟨rfl, ?_⟩, .inl ⟨rfl, ?_⟩, .inl ⟨rfl, ?_⟩, .inl ⟨rfl, ?_⟩, .inl ⟨rfl, ?_⟩, .inl ⟨rfl, ?_⟩, .inl ⟨rfl, ?_⟩, .inl ⟨rfl, ?_⟩, .inl ⟨rfl, ?_⟩, .inl ⟨rfl, ?_⟩, .inl ⟨rfl, ?_⟩, .inl ⟨rfl, ?_⟩, .inl ⟨rfl, ?_⟩, trivial⟩
       all_goals intro done a wq hw h
       ·exact x34
       ·exact x26
       ·exact x36
       ·exact x48
       ·exact x60
       ·exact x108
       ·exact x51
       ·exact x70
       ·exact x109
       ·exact x34
       ·exact x43
       ·exact x36
       ·exact x48
       ·exact x86
       ·exact x138
       ·exact x90
       ·exact x121
       ·exact x84
       ·exact x106
       ·exact x34
       ·exact x82
       ·exact x36
       ·exact x48
       ·exact x141
       ·exact x201
       ·have e43 := ch_new (i := 24) (t := 43) h (hw 24 (by decide)) rfl rfl; have hc := (h.bel.cell (p := ⟨b2, o2 + k * 3 + 2, none⟩) (by simp; omega)).trans (show (wr.alloc (.cells #[iv xa, iv xl, .slice B1 xd.length c1] 121)).cell? _ = some (.slice B2 yd.length c2) from r2); refine ch_pure ?_; go_simp
       ·exact x113
       ·exact x202
       ·exact x137
      exact x38
     have HNE : Hid ((⟨xa, xl, xd⟩ : Stp) ≠ ⟨xa, yl, yd⟩) := Lib.hid fun e => by injection e; contradiction
     clear HK HX
     go_wp2_with fail
     refine wp_region_chain (by kernel_rfl) (some 19 :: some 20 :: some 21 :: some 22 :: some 23 :: some 24 :: some 25 :: some 26 :: some 27 :: some 28 :: some 29 :: some 30 :: some 31 :: some 32 :: some 33 :: some 34 :: some 35 :: some 36 :: some 37 :: some 38 :: some 39 :: some 40 :: some 41 :: some 42 :: some 43 :: some 44 :: some 45 :: some 46 :: some 47 :: []) (.pointer (some ⟨wr.heap.size, 0, none⟩) :: iv xa :: .slice (some ⟨b2, o2, none⟩) m.length d :: .int .i64 (k : Int) :: .pointer (some ⟨b2, o2 + k * 3, none⟩) :: .pointer (some ⟨b2, o2 + k * 3, none⟩) :: iv xa :: .bool false :: .bool false :: .pointer (some ⟨wr.heap.size, 1, none⟩) :: iv xl :: .slice (some ⟨b2, o2, none⟩) m.length d :: .int .i64 (k : Int) :: .pointer (some ⟨b2, o2 + k * 3, none⟩) :: .pointer (some ⟨b2, o2 + k * 3 + 1, none⟩) :: iv yl :: .bool true :: .bool true :: .bool true :: undef :: undef :: undef :: undef :: undef :: undef :: undef :: undef :: undef :: .bool true :: []) 49 rfl rfl (by decide +kernel) (by decide +kernel) (by decide +kernel) rfl ?_ ?_
     ·refine ⟨.inl ⟨rfl, ?_⟩, .inl ⟨rfl, ?_⟩, .inl ⟨rfl, ?_⟩, .inl ⟨rfl, ?_⟩, .inl ⟨rfl, ?_⟩, .inl ⟨rfl, ?_⟩, .inl ⟨rfl, ?_⟩, .inl ⟨rfl, ?_⟩, .inl ⟨rfl, ?_⟩, .inl ⟨rfl, ?_⟩, .inl ⟨rfl, ?_⟩, .inl ⟨rfl, ?_⟩, .inl ⟨rfl, ?_⟩, .inl ⟨rfl, ?_⟩, .inl ⟨rfl, ?_⟩, .inl ⟨rfl, ?_⟩, .inl ⟨rfl, ?_⟩, .inl ⟨rfl, ?_⟩, .inl ⟨rfl, ?_⟩, .inr ⟨rfl, rfl⟩, .inr ⟨rfl, rfl⟩, .inr ⟨rfl, rfl⟩, .inr ⟨rfl, rfl⟩, .inr ⟨rfl, rfl⟩, .inr ⟨rfl, rfl⟩, .inr ⟨rfl, rfl⟩, .inr ⟨rfl, rfl⟩, .inr ⟨rfl, rfl⟩, .inl ⟨rfl, ?_⟩, trivial⟩
      all_goals intro done a wq hw h
      ·exact x34
      ·exact x26
      ·exact x36
      ·exact x48
      ·exact x60
      ·exact x108
      ·exact x51
      ·exact x70
      ·exact x109
      ·exact x34
      ·exact x43
      ·exact x36
      ·exact x48
      ·exact x86
      ·exact x138
      ·have e33 := ch_new (i := 14) (t := 33) h (hw 14 (by decide)) rfl rfl; have hc := (h.bel.cell (p := ⟨b2, o2 + k * 3 + 1, none⟩) (by simp; omega)).trans (show (wr.alloc (.cells #[iv xa, iv xl, .slice B1 xd.length c1] 121)).cell? _ = some (iv yl) from r1); refine ch_pure ?_; go_simp
      ·have e29 := ch_new (i := 10) (t := 29) h (hw 10 (by decide)) rfl rfl; have e34 := ch_new (i := 15) (t := 34) h (hw 15 (by decide)) rfl rfl; exact ch_neq_int (by kernel_rfl) (ch_ev e29) (ch_ev e34) (by simp [h2])
      ·exact x84
      ·exact x106
      ·exact x205
     exact x38
    have HNE : Hid ((⟨xa, xl, xd⟩ : Stp) ≠ ⟨ya, yl, yd⟩) := Lib.hid fun e => by injection e; contradiction
    clear HK HX
    go_wp2_with fail
    refine wp_region_chain (by kernel_rfl) (some 19 :: some 20 :: some 21 :: some 22 :: some 23 :: some 24 :: some 25 :: some 26 :: some 27 :: some 28 :: some 29 :: some 30 :: some 31 :: some 32 :: some 33 :: some 34 :: some 35 :: some 36 :: some 37 :: some 38 :: some 39 :: some 40 :: some 41 :: some 42 :: some 43 :: some 44 :: some 45 :: some 46 :: some 47 :: []) (.pointer (some ⟨wr.heap.size, 0, none⟩) :: iv xa :: .slice (some ⟨b2, o2, none⟩) m.length d :: .int .i64 (k : Int) :: .pointer (some ⟨b2, o2 + k * 3, none⟩) :: .pointer (some ⟨b2, o2 + k * 3, none⟩) :: iv ya :: .bool true :: .bool true :: undef :: undef :: undef :: undef :: undef :: undef :: undef :: undef :: .bool true :: .bool true :: undef :: undef :: undef :: undef :: undef :: undef :: undef :: undef :: undef :: .bool true :: []) 49 rfl rfl (by decide +kernel) (by decide +kernel) (by decide +kernel) rfl ?_ ?_
    ·refine ⟨.inl ⟨rfl, ?_⟩, .inl ⟨rfl, ?_⟩, .inl ⟨rfl, ?_⟩, .inl ⟨rfl, ?_⟩, .inl ⟨rfl, ?_⟩, .inl ⟨rfl, ?_⟩, .inl ⟨rfl, ?_⟩, .inl ⟨rfl, ?_⟩, .inl ⟨rfl, ?_⟩, .inr ⟨rfl, rfl⟩, .inr ⟨rfl, rfl⟩, .inr ⟨rfl, rfl⟩, .inr ⟨rfl, rfl⟩, .inr ⟨rfl, rfl⟩, .inr ⟨rfl, rfl⟩, .inr ⟨rfl, rfl⟩, .inr ⟨rfl, rfl⟩, .inl ⟨rfl, ?_⟩, .inl ⟨rfl, ?_⟩, .inr ⟨rfl, rfl⟩, .inr ⟨rfl, rfl⟩, .inr ⟨rfl, rfl⟩, .inr ⟨rfl, rfl⟩, .inr ⟨rfl, rfl⟩, .inr ⟨rfl, rfl⟩, .inr ⟨rfl, rfl⟩, .inr ⟨rfl, rfl⟩, .inr ⟨rfl, rfl⟩, .inl ⟨rfl, ?_⟩, trivial⟩
     all_goals intro done a wq hw h
     ·exact x34
     ·exact x26
     ·exact x36
     ·exact x48
     ·exact x60
     ·exact x108
     ·have e24 := ch_new (i := 5) (t := 24) h (hw 5 (by decide)) rfl rfl; have hc := (h.bel.cell (p := ⟨b2, o2 + k * 3, none⟩) (by simp; omega)).trans (show (wr.alloc (.cells #[iv xa, iv xl, .slice B1 xd.length c1] 121)).cell? _ = some (iv ya) from r0); refine ch_pure ?_; go_simp
     ·have e20 := ch_new (i := 1) (t := 20) h (hw 1 (by decide)) rfl rfl; have e25 := ch_new (i := 6) (t := 25) h (hw 6 (by decide)) rfl rfl; exact ch_neq_int (by kernel_rfl) (ch_ev e20) (ch_ev e25) (by simp [h1])
     ·exact x109
     ·have e27 := ch_new (i := 8) (t := 27) h (hw 8 (by decide)) rfl rfl; exact ch_pick_t e27 rfl
     ·exact x106
     ·exact x205
    exact x38
   obtain rfl : k = l.length := by omega
   have HL : Hid (l = m) := Lib.hid (by
    have := HT.out
    rwa [List.take_length, HE.out, List.take_length] at this)
   go_wp2_with fail
   go_ret
   exact ⟨ret_bool (decide_eq_true HL.out).symm, HB.out⟩
 have hdl : ((l.length : Int) != (m.length : Int)) = true := by simp; omega
 have HE : Hid (l ≠ m) := Lib.hid fun e => hne (by rw [e])
 clear hne ha hb
 go_enter Tryz.func62, Tryz.ntmps62
 go_wp2_with fail
 go_ret
 exact ⟨ret_bool (decide_eq_false HE.out).symm, Below.refl _ _⟩
theorem refPatSameA_calls (A B : Option Addr) (c d : Nat) (f t o n sz f2 t2 o2 n2 sz2 : Int) (l m : List Stp) (w : World) (hl : l.length <= 1048576) (hm : m.length <= 1048576) (hs : Sps w A l) (hr : Sps w B m) :
  Calls Tryz.prog 23 #[.agg #[iv f, iv t, iv o, iv n, iv sz, .slice A l.length c], .agg #[iv f2, iv t2, iv o2, iv n2, iv sz2, .slice B m.length d]] w (RetB w (.bool (decide ((⟨f, t, o, n, sz, l⟩ : Pat) = ⟨f2, t2, o2, n2, sz2, m⟩)))) := by
 have hb : Below w.heap.size w ((w.alloc (.cells #[iv f, iv t, iv o, iv n, iv sz, .slice A l.length c] 35)).alloc (.cells #[iv f2, iv t2, iv o2, iv n2, iv sz2, .slice B m.length d] 35)) := ((Below.refl _ _).alloc (Nat.le_refl _) _).alloc (by simp) _
 obtain ⟨r, hR⟩ : ∃ r, decide ((⟨f, t, o, n, sz, l⟩ : Pat) = ⟨f2, t2, o2, n2, sz2, m⟩) = r := ⟨_, rfl⟩
 rw [hR]
 have HR := Lib.hid hR
 clear hR
 have HB := Lib.hid hb
 have HC := Lib.hid (refSame_calls A B c d l m _ hl hm (hs.stays hb) (hr.stays hb))
 clear hb hs hr
 by_cases h0 : ¬ f = f2
 ·have hz : false = r := (decide_eq_false (fun e => by injection e; contradiction)).symm.trans HR.out
  have HZ := Lib.hid hz
  have q : (f == f2) = false := by simp [h0]
  clear HC hz h0
  go_enter Tryz.func23, Tryz.ntmps23
  exact x50
 have h0 := Decidable.not_not.1 h0
 subst h0
 have q0 : (f == f) = true := by simp
 by_cases h1 : ¬ t = t2
 ·have hz : false = r := (decide_eq_false (fun e => by injection e; contradiction)).symm.trans HR.out
  have HZ := Lib.hid hz
  have q : (t == t2) = false := by simp [h1]
  clear HC hz h1
  go_enter Tryz.func23, Tryz.ntmps23
  exact x50
 have h1 := Decidable.not_not.1 h1
 subst h1
 have q1 : (t == t) = true := by simp
 by_cases h2 : ¬ o = o2
 ·have hz : false = r := (decide_eq_false (fun e => by injection e; contradiction)).symm.trans HR.out
  have HZ := Lib.hid hz
  have q : (o == o2) = false := by simp [h2]
  clear HC hz h2
  go_enter Tryz.func23, Tryz.ntmps23
  exact x50
 have h2 := Decidable.not_not.1 h2
 subst h2
 have q2 : (o == o) = true := by simp
 by_cases h3 : ¬ n = n2
 ·have hz : false = r := (decide_eq_false (fun e => by injection e; contradiction)).symm.trans HR.out
  have HZ := Lib.hid hz
  have q : (n == n2) = false := by simp [h3]
  clear HC hz h3
  go_enter Tryz.func23, Tryz.ntmps23
  exact x50
 have h3 := Decidable.not_not.1 h3
 subst h3
 have q3 : (n == n) = true := by simp
 by_cases h4 : ¬ sz = sz2
 ·have hz : false = r := (decide_eq_false (fun e => by injection e; contradiction)).symm.trans HR.out
  have HZ := Lib.hid hz
  have q : (sz == sz2) = false := by simp [h4]
  clear HC hz h4
  go_enter Tryz.func23, Tryz.ntmps23
  exact x50
 have h4 := Decidable.not_not.1 h4
 subst h4
 have q4 : (sz == sz) = true := by simp
 have hz : decide (l = m) = r := by
  exact x173
 have HZ := Lib.hid hz
 clear hz
 go_enter Tryz.func23, Tryz.ntmps23
 exact x124
end Go.Proofs.YtefkfglkpebbmacGreat
