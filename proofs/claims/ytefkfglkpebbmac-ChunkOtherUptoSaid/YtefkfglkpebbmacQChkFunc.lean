/- slices.IndexFunc and slices.ContainsFunc over chunks with a closure that holds one block. Printed by gen_chkfunc.py. No conditions. -/
import Derived.Test.YtefkfglkpebbmacQChkList
namespace Go.Proofs.Ytefkfglkpebbmac
open Go.RowKit
set_option linter.unusedVariables false
set_option linter.unusedSimpArgs false

def idxF (p : Chk → Bool) : List Chk → Nat → Int
  | [], _ => -1
  | x :: r, k => if p x = true then (k : Int) else idxF p r (k + 1)
theorem idxF_f {p : Chk → Bool} {x : Chk} {r : List Chk} {k : Nat} (h : p x = false) : idxF p (x :: r) k = idxF p r (k + 1) := if_neg (by simp [h])
theorem idxF_t {p : Chk → Bool} {x : Chk} {r : List Chk} {k : Nat} (h : p x = true) : idxF p (x :: r) k = (k : Int) := if_pos h
theorem idxF_ge (p : Chk → Bool) : ∀ (l : List Chk) (k : Nat), decide ((0 : Int) ≤ idxF p l k) = l.any p
  | [], k => by simp [idxF]
  | x :: r, k => by
    unfold idxF
    by_cases h : p x = true
    · rw [if_pos h]; simp [h]
    · rw [if_neg h, idxF_ge p r]; simp [h]
def same4 (x c : Chk) : Bool := x.n == c.n && x.from_ == c.from_ && x.to_ == c.to_ && x.of_ == c.of_
def sameN (x c : Chk) : Bool := x.n == c.n
set_option maxRecDepth 100000 in
set_option maxHeartbeats 8000000 in
theorem coA_go (x c : Chk) (B D : Option Addr) (k d g : Nat) (w : World) (hlt : g < w.heap.size) (hc : ChkAt w g 0 c D d) (b0 b1 b2 b3 : Bool) (hb0 : (x.n == c.n) = b0) (hb1 : (x.from_ == c.from_) = b1) (hb2 : (x.to_ == c.to_) = b2) (hb3 : (x.of_ == c.of_) = b3) :
    Calls Try.prog 42 #[.agg (chkA x.from_ x.to_ x.n x.of_ B x.data.length k), .pointer (some ⟨g, 0, none⟩)] w (RetB w (.bool (b0 && b1 && b2 && b3))) := by
  obtain ⟨e0, e1, e2, e3, e4⟩ := hc
  simp only [Nat.zero_add] at e0 e1 e2 e3 e4
  cases b0 <;> cases b1 <;> cases b2 <;> cases b3 <;> (
    go_enter Try.func42, Try.ntmps42
    go_wp2_with fail
    go_ret
    exact ⟨rfl, (Below.refl _ _).alloc (Nat.le_refl _) _⟩)
theorem coA_calls (x c : Chk) (B D : Option Addr) (k d g : Nat) (w : World) (hlt : g < w.heap.size) (hc : ChkAt w g 0 c D d) :
    Calls Try.prog 42 #[.agg (chkA x.from_ x.to_ x.n x.of_ B x.data.length k), .pointer (some ⟨g, 0, none⟩)] w (RetB w (.bool (same4 x c))) := by
  refine (coA_go x c B D k d g w hlt hc _ _ _ _ rfl rfl rfl rfl).mono fun _ _ h => ?_
  exact h
set_option maxRecDepth 100000 in
set_option maxHeartbeats 8000000 in
theorem coB_go (x c : Chk) (B D : Option Addr) (k d g : Nat) (w : World) (hlt : g < w.heap.size) (hc : ChkAt w g 0 c D d) (b0 : Bool) (hb0 : (x.n == c.n) = b0) :
    Calls Try.prog 43 #[.agg (chkA x.from_ x.to_ x.n x.of_ B x.data.length k), .pointer (some ⟨g, 0, none⟩)] w (RetB w (.bool (b0))) := by
  obtain ⟨e0, e1, e2, e3, e4⟩ := hc
  simp only [Nat.zero_add] at e0 e1 e2 e3 e4
  cases b0 <;> (
    go_enter Try.func43, Try.ntmps43
    go_wp2_with fail
    go_ret
    exact ⟨rfl, (Below.refl _ _).alloc (Nat.le_refl _) _⟩)
theorem coB_calls (x c : Chk) (B D : Option Addr) (k d g : Nat) (w : World) (hlt : g < w.heap.size) (hc : ChkAt w g 0 c D d) :
    Calls Try.prog 43 #[.agg (chkA x.from_ x.to_ x.n x.of_ B x.data.length k), .pointer (some ⟨g, 0, none⟩)] w (RetB w (.bool (sameN x c))) := by
  refine (coB_go x c B D k d g w hlt hc _ rfl).mono fun _ _ h => ?_
  exact h
set_option maxRecDepth 100000 in
set_option maxHeartbeats 8000000 in
theorem coA_idx (A D : Option Addr) (cc d g : Nat) (l : List Chk) (c : Chk) (w : World) (hl : l.length ≤ 1048576) (hs : Chs w A l) (hlt : g < w.heap.size) (hc : ChkAt w g 0 c D d) :
    Calls Try.prog 107 #[.slice A l.length cc, .func (Fn.func 42) #[] #[.pointer (some ⟨g, 0, none⟩)]] w (RetB w (iv (idxF (fun x => same4 x c) l 0))) := by
  have HS := Lib.hid hs
  have HCC : Hid (∀ (x : Chk) (B : Option Addr) (k : Nat) w', Below w.heap.size w w' → Calls Try.prog 42 #[.agg (chkA x.from_ x.to_ x.n x.of_ B x.data.length k), .pointer (some ⟨g, 0, none⟩)] w' (RetB w' (.bool ((fun x => same4 x c) x)))) := Lib.hid fun x B k w' hb => coA_calls x c B D k d g w' (by have := hb.size; omega) (hc.stays hlt hb)
  clear hs hc
  generalize (fun x => same4 x c) = p at *
  obtain ⟨r, hr⟩ : ∃ r, idxF p l 0 = r := ⟨_, rfl⟩
  rw [hr]
  have HR : Hid (idxF p l 0 = r) := Lib.hid hr
  clear hr
  go_enter Try.func107, Try.ntmps107
  go_wp2_with fail
  go_loopw [8] (fun i wr => ∃ k : Nat, k ≤ l.length ∧ i = .int .i64 k ∧ Hid (idxF p (l.drop k) k = r) ∧ Hid (Below w.heap.size w wr)) (fun i _ => l.length - (intOf i).toNat)
  case atStart => exact ⟨0, Nat.zero_le _, rfl, Lib.hid HR.out, Lib.hid (Below.refl _ _)⟩
  case round =>
    rename World => wr
    obtain ⟨k, hk, rfl, HE, HB⟩ := hrel
    have hsz := HB.out.size
    by_cases hlk : k < l.length
    · obtain ⟨b, o, B, cx, rfl, hs1, p0, p1, p2, p3, p4, p5⟩ := (HS.out.stays HB.out).at_ hlk
      have hdr : l.drop k = l[k] :: l.drop (k + 1) := List.drop_eq_getElem_cons hlk
      rw [hdr] at HE
      clear p5 hdr
      generalize l[k] = x at *
      obtain ⟨q, hq⟩ : ∃ q, p x = q := ⟨_, rfl⟩
      have HX : Hid (p x = q) := Lib.hid hq
      have HC2 : Hid (∀ w', Below wr.heap.size wr w' → Calls Try.prog 42 #[.agg (chkA x.from_ x.to_ x.n x.of_ B x.data.length cx), .pointer (some ⟨g, 0, none⟩)] w' (RetB w' (.bool q))) := Lib.hid fun w' hb => by
        have := HCC.out x B cx w' (HB.out.trans (hb.mono HB.out.size))
        rwa [hq] at this
      clear hq
      go_wp2_with fail
      refine (HC2.out _ ?_).mono ?_
      · repeat (first | exact Below.refl _ _ | refine Below.alloc ?_ (by first | omega | (simp <;> omega)) _)
      rintro e w2 ⟨rfl, hb2⟩
      have HB2 : Hid (Below w.heap.size w w2) := by
        refine Lib.hid (HB.out.trans (Below.trans ?_ (hb2.mono (by first | omega | (simp <;> omega)))))
        repeat (first | exact Below.refl _ _ | refine Below.alloc ?_ (by first | omega | (simp <;> omega)) _)
      clear hb2
      cases q
      · have HE2 : Hid (idxF p (l.drop (k + 1)) (k + 1) = r) := Lib.hid ((idxF_f HX.out).symm.trans HE.out)
        clear HE HX
        go_wp2_with fail
        go_roundw
        case rel => exact ⟨k + 1, by omega, by go_num, HE2, HB2⟩
        case measure => simp [intOf] <;> omega
      · have HE2 : Hid ((k : Int) = r) := Lib.hid ((idxF_t HX.out).symm.trans HE.out)
        clear HE HX
        go_wp2_with fail
        go_ret
        exact ⟨by rw [← HE2.out]; rfl, HB2.out⟩
    · have HE2 : Hid ((-1 : Int) = r) := Lib.hid (by
        rw [← HE.out, List.drop_of_length_le (by omega)]; rfl)
      clear HE
      go_wp2_with fail
      go_ret
      exact ⟨by rw [← HE2.out]; rfl, HB.out⟩
set_option maxRecDepth 100000 in
set_option maxHeartbeats 4000000 in
theorem coA_has (A D : Option Addr) (cc d g : Nat) (l : List Chk) (c : Chk) (w : World) (hl : l.length ≤ 1048576) (hs : Chs w A l) (hlt : g < w.heap.size) (hc : ChkAt w g 0 c D d) :
    Calls Try.prog 41 #[.slice A l.length cc, .func (Fn.func 42) #[] #[.pointer (some ⟨g, 0, none⟩)]] w (RetB w (.bool (l.any (fun x => same4 x c)))) := by
  have HK := Lib.hid (coA_idx A D cc d g l c w hl hs hlt hc)
  rw [← idxF_ge (fun x => same4 x c) l 0]
  clear hs hc
  generalize idxF (fun x => same4 x c) l 0 = r at *
  go_enter Try.func41, Try.ntmps41
  go_wp2_with fail
  refine HK.out.mono ?_
  rintro e w1 ⟨rfl, hb⟩
  have HB := Lib.hid hb
  clear hb
  go_wp2_with fail
  go_ret
  exact ⟨rfl, HB.out⟩
set_option maxRecDepth 100000 in
set_option maxHeartbeats 8000000 in
theorem coB_idx (A D : Option Addr) (cc d g : Nat) (l : List Chk) (c : Chk) (w : World) (hl : l.length ≤ 1048576) (hs : Chs w A l) (hlt : g < w.heap.size) (hc : ChkAt w g 0 c D d) :
    Calls Try.prog 107 #[.slice A l.length cc, .func (Fn.func 43) #[] #[.pointer (some ⟨g, 0, none⟩)]] w (RetB w (iv (idxF (fun x => sameN x c) l 0))) := by
  have HS := Lib.hid hs
  have HCC : Hid (∀ (x : Chk) (B : Option Addr) (k : Nat) w', Below w.heap.size w w' → Calls Try.prog 43 #[.agg (chkA x.from_ x.to_ x.n x.of_ B x.data.length k), .pointer (some ⟨g, 0, none⟩)] w' (RetB w' (.bool ((fun x => sameN x c) x)))) := Lib.hid fun x B k w' hb => coB_calls x c B D k d g w' (by have := hb.size; omega) (hc.stays hlt hb)
  clear hs hc
  generalize (fun x => sameN x c) = p at *
  obtain ⟨r, hr⟩ : ∃ r, idxF p l 0 = r := ⟨_, rfl⟩
  rw [hr]
  have HR : Hid (idxF p l 0 = r) := Lib.hid hr
  clear hr
  go_enter Try.func107, Try.ntmps107
  go_wp2_with fail
  go_loopw [8] (fun i wr => ∃ k : Nat, k ≤ l.length ∧ i = .int .i64 k ∧ Hid (idxF p (l.drop k) k = r) ∧ Hid (Below w.heap.size w wr)) (fun i _ => l.length - (intOf i).toNat)
  case atStart => exact ⟨0, Nat.zero_le _, rfl, Lib.hid HR.out, Lib.hid (Below.refl _ _)⟩
  case round =>
    rename World => wr
    obtain ⟨k, hk, rfl, HE, HB⟩ := hrel
    have hsz := HB.out.size
    by_cases hlk : k < l.length
    · obtain ⟨b, o, B, cx, rfl, hs1, p0, p1, p2, p3, p4, p5⟩ := (HS.out.stays HB.out).at_ hlk
      have hdr : l.drop k = l[k] :: l.drop (k + 1) := List.drop_eq_getElem_cons hlk
      rw [hdr] at HE
      clear p5 hdr
      generalize l[k] = x at *
      obtain ⟨q, hq⟩ : ∃ q, p x = q := ⟨_, rfl⟩
      have HX : Hid (p x = q) := Lib.hid hq
      have HC2 : Hid (∀ w', Below wr.heap.size wr w' → Calls Try.prog 43 #[.agg (chkA x.from_ x.to_ x.n x.of_ B x.data.length cx), .pointer (some ⟨g, 0, none⟩)] w' (RetB w' (.bool q))) := Lib.hid fun w' hb => by
        have := HCC.out x B cx w' (HB.out.trans (hb.mono HB.out.size))
        rwa [hq] at this
      clear hq
      go_wp2_with fail
      refine (HC2.out _ ?_).mono ?_
      · repeat (first | exact Below.refl _ _ | refine Below.alloc ?_ (by first | omega | (simp <;> omega)) _)
      rintro e w2 ⟨rfl, hb2⟩
      have HB2 : Hid (Below w.heap.size w w2) := by
        refine Lib.hid (HB.out.trans (Below.trans ?_ (hb2.mono (by first | omega | (simp <;> omega)))))
        repeat (first | exact Below.refl _ _ | refine Below.alloc ?_ (by first | omega | (simp <;> omega)) _)
      clear hb2
      cases q
      · have HE2 : Hid (idxF p (l.drop (k + 1)) (k + 1) = r) := Lib.hid ((idxF_f HX.out).symm.trans HE.out)
        clear HE HX
        go_wp2_with fail
        go_roundw
        case rel => exact ⟨k + 1, by omega, by go_num, HE2, HB2⟩
        case measure => simp [intOf] <;> omega
      · have HE2 : Hid ((k : Int) = r) := Lib.hid ((idxF_t HX.out).symm.trans HE.out)
        clear HE HX
        go_wp2_with fail
        go_ret
        exact ⟨by rw [← HE2.out]; rfl, HB2.out⟩
    · have HE2 : Hid ((-1 : Int) = r) := Lib.hid (by
        rw [← HE.out, List.drop_of_length_le (by omega)]; rfl)
      clear HE
      go_wp2_with fail
      go_ret
      exact ⟨by rw [← HE2.out]; rfl, HB.out⟩
set_option maxRecDepth 100000 in
set_option maxHeartbeats 4000000 in
theorem coB_has (A D : Option Addr) (cc d g : Nat) (l : List Chk) (c : Chk) (w : World) (hl : l.length ≤ 1048576) (hs : Chs w A l) (hlt : g < w.heap.size) (hc : ChkAt w g 0 c D d) :
    Calls Try.prog 41 #[.slice A l.length cc, .func (Fn.func 43) #[] #[.pointer (some ⟨g, 0, none⟩)]] w (RetB w (.bool (l.any (fun x => sameN x c)))) := by
  have HK := Lib.hid (coB_idx A D cc d g l c w hl hs hlt hc)
  rw [← idxF_ge (fun x => sameN x c) l 0]
  clear hs hc
  generalize idxF (fun x => sameN x c) l 0 = r at *
  go_enter Try.func41, Try.ntmps41
  go_wp2_with fail
  refine HK.out.mono ?_
  rintro e w1 ⟨rfl, hb⟩
  have HB := Lib.hid hb
  clear hb
  go_wp2_with fail
  go_ret
  exact ⟨rfl, HB.out⟩
end Go.Proofs.Ytefkfglkpebbmac
