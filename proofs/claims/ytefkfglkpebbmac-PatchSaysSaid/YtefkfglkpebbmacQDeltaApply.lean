/- The walk of delta.Apply. No conditions. -/
import Derived.Test.YtefkfglkpebbmacQDeltaCheck
import Derived.Test.YtefkfglkpebbmacQConcat23
import Derived.StillTailTactics
import Derived.IntWalk
namespace Go.Proofs.Ytefkfglkpebbmac
open Go.RowKit
set_option linter.unusedVariables false
set_option linter.unusedSimpArgs false

/-- It returns bytes and an error. -/
def ByRet2 (w : World) (l : List UInt8) (n : Int) : Ending → World → Prop := fun en w' =>
  ∃ A c, en = .returned (.tuple #[.slice A l.length c, iv n]) ∧ Bts w' A l ∧ l.length ≤ c ∧ Below w.heap.size w w'
theorem Bts.drop {w : World} {b o : Nat} {l : List UInt8} (h : Bts w (some ⟨b, o, none⟩) l) (k : Nat) : Bts w (some ⟨b, o + k, none⟩) (l.drop k) := by
  intro i hi
  simp only [List.length_drop] at hi
  obtain ⟨b', o', hA, hlt, hc⟩ := h (k + i) (by omega)
  injection hA with hA
  injection hA with e1 e2
  subst e1 e2
  refine ⟨b, o + k, rfl, hlt, ?_⟩
  rw [Nat.add_assoc, hc]; simp
theorem Bts.take {w : World} {A : Option Addr} {l : List UInt8} (h : Bts w A l) (k : Nat) : Bts w A (l.take k) := by
  intro i hi
  simp only [List.length_take] at hi
  obtain ⟨b, o, hA, hlt, hc⟩ := h i (by omega)
  exact ⟨b, o, hA, hlt, by rw [hc]; simp⟩

theorem mid_bts {w : World} {A : Option Addr} (c : Nat) {old : List UInt8} {a n : Nat} (h : Bts w A old) (hc : old.length ≤ c) (hn : a + n ≤ old.length) : Bts w (if c = a then A else Option.map (fun x => x.add a) A) ((old.drop a).take n) := by
  by_cases e : n = 0
  · subst e; rw [List.take_zero]; exact Bts.nil _ _
  · obtain ⟨b, o, rfl, hlt, _⟩ := h 0 (by omega)
    rw [if_neg (by omega)]
    have e2 : Option.map (fun x : Addr => x.add a) (some ⟨b, o, none⟩) = some ⟨b, o + a, none⟩ := by simp [Addr.add]
    rw [e2]
    exact (h.drop a).take n
set_option maxRecDepth 100000 in
set_option maxHeartbeats 4000000 in
theorem deltaApply_bad (A : Option Addr) (c : Nat) (old : List UInt8) (B : Option Addr) (d : Nat) (l : List Stp) (size : Int) (w : World) (ho : old.length ≤ 140737488351232) (hl : l.length ≤ 3518437208780) (hr : Sps w B l) (h : deltaCheck l old.length size ≠ 0) :
    Calls Try.prog 15 #[.slice A old.length c, .slice B l.length d, iv size] w (RetB w (.tuple #[.slice none 0 0, iv (deltaCheck l old.length size)])) := by
  have hb : (deltaCheck l old.length size != 0) = true := by simp [h]
  clear h
  go_enter Try.func15, Try.ntmps15
  go_wp2_with fail
  refine (deltaCheck_calls B d l old.length size w hl hr).mono ?_
  rintro e w1 ⟨rfl, hb1⟩
  go_wp2_with fail
  go_ret2
  exact ⟨rfl, hb1⟩

set_option maxRecDepth 100000 in
set_option maxHeartbeats 4000000 in
theorem deltaApply_ok (A : Option Addr) (c : Nat) (old : List UInt8) (B : Option Addr) (d : Nat) (l : List Stp) (size : Int) (w : World) (hc : old.length ≤ c) (hA : Bts w A old) (hl : l.length ≤ 3518437208780) (hr : Sps w B l) (h : deltaCheck l old.length size = 0) :
    Calls Try.prog 15 #[.slice A old.length c, .slice B l.length d, iv size] w (ByRet2 w (applied old l) 0) := by
  have hd := deltaCheck_ok.1 h
  have hc0 : ∀ w, Calls Try.prog 19 #[.slice B l.length d, iv (old.length : Int), iv size] w (RetB w (iv (deltaCheck l old.length size))) → Calls Try.prog 19 #[.slice B l.length d, iv (old.length : Int), iv size] w (RetB w (iv 0)) := by
    intro w hw; rw [h] at hw; exact hw
  have hcc := hc0 w (deltaCheck_calls B d l old.length size w hl hr)
  have HC := Lib.hid hcc
  have HD := Lib.hid hd
  have ho1 := hd.o1
  have hm := hd.many
  clear hc0 hcc h hd
  go_enter Try.func15, Try.ntmps15
  go_wp2_with fail
  refine HC.out.mono ?_
  rintro e w1 ⟨rfl, hb1⟩
  have HB1 := Lib.hid hb1
  clear hb1
  go_wp2_with fail
  go_loopw [9, 22] (fun v i wr => ∃ (k : Nat) (C : Option Addr) (cc : Nat), k ≤ l.length ∧ i = .int .i64 k ∧ v = .slice C (applied old (l.take k)).length cc ∧ (applied old (l.take k)).length ≤ cc ∧ Bts wr C (applied old (l.take k)) ∧ Hid (Below w.heap.size w wr)) (fun _ i _ => l.length - (intOf i).toNat)
  case atStart => exact ⟨0, none, 0, Nat.zero_le _, rfl, rfl, Nat.le_refl _, Bts.nil _ _, HB1⟩
  case round =>
    obtain ⟨k, C, cc, hk, rfl, rfl, hcl, hC, HB⟩ := hrel
    by_cases hlt : k < l.length
    · obtain ⟨b, o, D, dd, rfl, hs, hc0, hc1, hc2, hd1, hd2, hD, hi0, hi1⟩ := (hr.stays HB.out).at_ hlt
      have hsz := HB.out.size
      have hx : l.take (k + 1) = l.take k ++ [l[k]] := List.take_succ_eq_append_getElem hlt
      obtain ⟨hform, hin⟩ := HD.out.each _ (List.getElem_mem hlt)
      have hlen : (applied old (l.take (k + 1))).length ≤ 64 := by
        have h1 := applied_len (old := old) (l := l.take (k + 1)) (fun o ho => (HD.out.each o (List.mem_of_mem_take ho)).2)
        have h2 := HD.out.take (k + 1)
        have := h2.2.2.2
        have := HD.out.s1
        omega
      have happ : applied old (l.take (k + 1)) = applied old (l.take k) ++ l[k].piece old := by rw [hx, applied_append, applied_one]
      have HX := Lib.hid happ
      rw [happ] at hlen
      clear happ hx hform
      generalize hx : l[k] = x at *
      clear hx
      obtain ⟨at_, len, data⟩ := x
      unfold Stp.in_ at hin
      dsimp only at *
      obtain ⟨j1, j2, j3⟩ := hin
      obtain ⟨n, rfl⟩ := Int.eq_ofNat_of_zero_le j1
      obtain ⟨a, rfl⟩ := Int.eq_ofNat_of_zero_le j2
      have j4 : a + n ≤ old.length := by omega
      clear j1 j2 hi0 hi1
      generalize hp : applied old (l.take k) = pre at *
      clear hp
      have hpl : pre.length ≤ 64 := by rw [List.length_append] at hlen; omega
      have hdl : data.length ≤ 64 := by rw [List.length_append] at hlen; simp only [Stp.piece, List.length_append] at hlen; omega
      clear hlen
      have w1' : IntKind.i64.wrap ((a : Int) + (n : Int)) = (a : Int) + (n : Int) := IntWalk.i64_in _ (by omega)
      have w2 : ((a : Int) + (n : Int)).toNat = a + n := by omega
      have w3 : (0 : Int) ≤ (a : Int) := by omega
      have w4 : (a : Int) ≤ (a : Int) + (n : Int) := by omega
      have w5 : (a : Int) + (n : Int) ≤ (c : Int) := by omega
      have w6 : a + n - a = n := by omega
      have hMM : ∀ w', Below wr.heap.size wr w' → Bts w' (if c = a then A else Option.map (fun x => x.add a) A) ((old.drop a).take n) := fun w' hb => (mid_bts c (hA.stays HB.out) hc j4).stays hb
      have hml : ((old.drop a).take n).length = n := by simp; omega
      have HM := Lib.hid hMM
      have HML := Lib.hid hml
      have hDs : ∀ w', Below wr.heap.size wr w' → Bts w' D data := fun w' hb => hD.stays hb
      have hCs : ∀ w', Below wr.heap.size wr w' → Bts w' C pre := fun w' hb => hC.stays hb
      have HDs := Lib.hid hDs
      have HCs := Lib.hid hCs
      clear hMM hml hDs hCs hD hC
      go_wp2_with fail
      refine wp_region_still_tail 12 (by kernel_rfl) (by kernel_rfl) ?_
      change wpStill _ _ ((wr.alloc _).drew) _ _ _
      simp only [List.take_succ_cons, List.take_zero, List.drop_succ_cons, List.drop_zero]
      repeat still_step
      refine wpStill_nil ?_
      generalize (if c = a then A else Option.map (fun x => x.add a) A) = M at *
      have hb0 : Below wr.heap.size wr ((wr.alloc (.cells #[.int .i64 a, .int .i64 n, .slice D data.length dd] 117)).drew) := ((Below.refl _ _).alloc (Nat.le_refl _) _).drew
      change wpList _ _ _ _ _ ((wr.alloc (.cells #[.int .i64 a, .int .i64 n, .slice D data.length dd] 117)).drew)
      have HB0 := Lib.hid hb0
      have hs0 : wr.heap.size < ((wr.alloc (.cells #[.int .i64 a, .int .i64 n, .slice D data.length dd] 117)).drew).heap.size := by simp
      clear hb0
      generalize (wr.alloc (.cells #[.int .i64 a, .int .i64 n, .slice D data.length dd] 117)).drew = w2 at *
      have HT : Hid (applied old (l.take (k + 1)) = pre ++ (old.drop a).take n ++ data) := by
        refine Lib.hid ?_
        rw [HX.out]
        simp [Stp.piece]
      clear HX
      go_wp2_with fail
      have hcat := concat3_calls (w := w2.alloc (.cells #[.slice C pre.length cc, .slice M n (c - a), .slice D data.length dd] 22)) (g := w2.heap.size) (A := C) (B := M) (C := D) (a := pre) (b := (old.drop a).take n) (l := data) (c := cc) (d := c - a) (k := dd) (t := 22) (fr := (0, 0))
        (by rw [HML.out]; exact blk_top rfl) (by rw [HML.out]; omega) (HCs.out _ (HB0.out.alloc HB0.out.size _)) (HM.out _ (HB0.out.alloc HB0.out.size _)) (HDs.out _ (HB0.out.alloc HB0.out.size _))
      refine hcat.mono ?_
      rintro e w3 ⟨C', c', rfl, hown, hb3⟩
      have HO := Lib.hid hown
      have HB3 : Hid (Below w.heap.size w w3) := Lib.hid ((HB.out.trans (HB0.out.mono hsz)).trans ((((Below.refl _ _).alloc (Nat.le_refl _) _).mono (by omega)).trans (hb3.mono (by simp; omega))))
      clear hcat hown hb3
      go_wp2_with fail
      go_roundw
      case rel =>
        refine ⟨k + 1, C', c', by omega, by go_num, by rw [HT.out]; simp, ?_, ?_, HB3⟩
        · rw [HT.out]; exact HO.out.le
        · rw [HT.out]; exact HO.out.src.bts
      case measure => simp [intOf]; omega
    · obtain rfl : k = l.length := by omega
      rw [List.take_length] at hcl hC
      go_wp2_with fail
      exact bodyPost_ret (results_tmp2 rfl _ _ _) rfl ⟨C, cc, by simp, hC, hcl, HB.out⟩
end Go.Proofs.Ytefkfglkpebbmac
