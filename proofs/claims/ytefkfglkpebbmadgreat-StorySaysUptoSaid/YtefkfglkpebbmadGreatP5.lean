/- Walks of functions, and plain words. No conditions. -/
import Derived.Test.YtefkfglkpebbmadGreatPE2
import Derived.Test.YtefkfglkpebbmadGreatP4
set_option linter.unusedVariables false
set_option linter.unusedSimpArgs false
set_option maxRecDepth 100000
set_option maxHeartbeats 40000000
namespace Go.Proofs.YtefkfglkpebbmadGreat
open Go.RowKit
variable {x : Wor} {a k : Nat} {w : World}
theorem devCheck_calls (d : Dev) (L : DLoc) (w : World) (h : DevIn w d L) : Calls Tryz.prog 36 #[.agg (devA d L)] w (RetB w (iv (devCheck d))) := by
 by_cases hl : d.s0.length ≠ 64 ∨ d.s1.length ≠ 64
 ·rw [devCheck_is_len hl]; exact devCheck_len d L w hl
 have h0 : d.s0.length = 64 := by omega
 have h1 : d.s1.length = 64 := by omega
 by_cases hc : copCheck d.c0 d.c1 = 0
 case neg => rw [devCheck_is_cop h0 h1 hc]; exact devCheck_cop d L w h0 h1 hc
 cases hu : d.up
 ·exact devCheck_off d L w h h0 h1 hc hu
 by_cases hr : d.running < 0 ∨ 1 < d.running ∨ (d.running ≠ (recRead d.c0 d.c1).1.active ∧ (recRead d.c0 d.c1).1.trying = false)
 ·exact devCheck_range d L w h h0 h1 hc hu hr
 have hrec := recRead_ok hc
 have hact := rec_active hrec
 by_cases hx : d.running = (recRead d.c0 d.c1).1.active
 ·by_cases hg : chkList d.got = 0
  case neg => exact devCheck_idleEq_.2.2.1 d L w h h0 h1 hc hu hx hg
  cases hb : d.busy
  ·exact devCheck_idleEq_.1 d L w h h0 h1 hc hu hx hg hb
  cases ht : (recRead d.c0 d.c1).1.trying
  case true => exact devCheck_busyOther0_.2.2.2.2.2.2.1 d L w h h0 h1 hc hu hx hg hb ht
  by_cases ha : d.job.to_ < (recRead d.c0 d.c1).1.floor
  ·rcases hact with hk | hk
   ·exact devCheck_busyOther0_.2.2.2.2.1 d L w h h0 h1 hc hu hx hg hb hk ht ha
   ·exact devCheck_busyOther0_.2.2.2.2.2.1 d L w h h0 h1 hc hu hx hg hb hk ht ha
  rcases hact with hk | hk
  ·by_cases hf : d.job.from_ = (recRead d.c0 d.c1).1.a.ver
   ·by_cases ho : (recRead d.c0 d.c1).1.b.ver = 0
    ·exact devCheck_busyDo0_.1 d L w h h0 h1 hc hu hx hg hb hk ht ⟨ha, hf, ho⟩
    ·exact devCheck_busyOther0_.1 d L w h h0 h1 hc hu hx hg hb hk ht ⟨ha, hf, ho⟩
   ·exact devCheck_busyOther0_.2.2.1 d L w h h0 h1 hc hu hx hg hb hk ht ⟨ha, hf⟩
  ·by_cases hf : d.job.from_ = (recRead d.c0 d.c1).1.b.ver
   ·by_cases ho : (recRead d.c0 d.c1).1.a.ver = 0
    ·exact devCheck_busyDo0_.2 d L w h h0 h1 hc hu hx hg hb hk ht ⟨ha, hf, ho⟩
    ·exact devCheck_busyOther0_.2.1 d L w h h0 h1 hc hu hx hg hb hk ht ⟨ha, hf, ho⟩
   ·exact devCheck_busyOther0_.2.2.2.1 d L w h h0 h1 hc hu hx hg hb hk ht ⟨ha, hf⟩
 ·have ht : (recRead d.c0 d.c1).1.trying = true := by
   cases ht : (recRead d.c0 d.c1).1.trying
   ·exact absurd (.inr (.inr ⟨hx, ht⟩)) hr
   ·rfl
  have hv : d.running = 0 ∨ d.running = 1 := by
   have a1 : ¬ d.running < 0 := fun a => hr (.inl a)
   have a2 : ¬ 1 < d.running := fun a => hr (.inr (.inl a))
   omega
  by_cases hg : chkList d.got = 0
  case neg => exact devCheck_idleEq_.2.2.2 d L w h h0 h1 hc hu hx ht hv hg
  cases hb : d.busy
  ·exact devCheck_idleEq_.2.1 d L w h h0 h1 hc hu hx ht hv hg hb
  ·exact devCheck_busyOther0_.2.2.2.2.2.2.2 d L w h h0 h1 hc hu hx ht hv hg hb
theorem worCheck_rel (h : relCheck x.rel ≠ 0) : worCheck x = relCheck x.rel := by unfold worCheck; rw [if_pos h]
theorem worCheck_dev (h : relCheck x.rel = 0) (g : devCheck x.d ≠ 0) : worCheck x = devCheck x.d := by unfold worCheck; rw [if_neg (by omega), if_pos g]
theorem worCheck_many (h : relCheck x.rel = 0) (g : devCheck x.d = 0) (i : 120 < x.net.length) : worCheck x = 1 := by unfold worCheck; rw [if_neg (by omega), if_neg (by omega), if_pos i]
theorem worCheck_net (h : relCheck x.rel = 0) (g : devCheck x.d = 0) (i : ¬ 120 < x.net.length) : worCheck x = netCheck x.net := by unfold worCheck; rw [if_neg (by omega), if_neg (by omega), if_neg i]
theorem netCheck_cons (y : Chk) (l : List Chk) : netCheck (y :: l) = if chkCheck y ≠ 0 then chkCheck y else netCheck l := rfl
theorem worCheck_calls (x : Wor) (L : WLoc) (w : World) (h : WorIn w x L) : Calls Tryz.prog 11 #[.agg (worA x L)] w (RetB w (iv (worCheck x))) := by
 have HBA := hD ((Below.refl w.heap.size w).alloc (Nat.le_refl _) (.cells (worA x L) 40))
 have HIN := hD h
 have K1 := hD (fun w h => releases_calls L.ar L.cr x.rel w HIN.out.kr HIN.out.lr h)
 have K2 := hD (fun w h => devCheck_calls x.d L.l w h)
 obtain ⟨n, hn⟩ : ∃ n, worCheck x = n := ⟨_, rfl⟩
 rw [hn]
 have HN := hD hn
 obtain ⟨e1, he1⟩ : ∃ e, relCheck x.rel = e := ⟨_, rfl⟩
 obtain ⟨e2, he2⟩ : ∃ e, devCheck x.d = e := ⟨_, rfl⟩
 rw [he1] at K1
 rw [he2] at K2
 have HE1 := hD he1
 have HE2 := hD he2
 clear h hn he1 he2
 go_enter Tryz.func11, Tryz.ntmps11
 go_wp2_with fail
 refine (K1.out _ (HIN.out.rel.stays HBA.out)).mono ?_
 rintro e w0 ⟨rfl, rfl⟩
 by_cases c1 : e1 ≠ 0
 ·have hz : Hid (n = e1) := hD (by rw [← HN.out, worCheck_rel (by rw [HE1.out]; exact c1), HE1.out])
  have q : (e1 != 0) = true := by simp [c1]
  clear c1
  go_wp2_with fail
  go_ret
  have hs := HBA.out.size
  refine ⟨ret_int hz.out.symm, ?_⟩
  repeat (first | exact HBA.out | refine bR ?_ _ | refine bC ?_ _ | refine bA ?_ _)
 have c1 := Decidable.not_not.1 c1
 subst c1
 go_wp2_with fail
 refine (K2.out _ (HIN.out.dev.stays HBA.out)).mono ?_
 rintro e w1 ⟨rfl, hb⟩
 obtain ⟨a0r, a0f, a0n, a0c, a0z, a0l⟩ := kp (w.heap.size) (worA x L) hb
 have HB1 := hD (HBA.out.trans (hb.mono (by simp)))
 clear hb
 by_cases c2 : e2 ≠ 0
 ·have hz : Hid (n = e2) := hD (by rw [← HN.out, worCheck_dev HE1.out (by rw [HE2.out]; exact c2), HE2.out])
  have q : (e2 != 0) = true := by simp [c2]
  clear c2
  go_wp2_with fail
  go_ret
  have hs := HB1.out.size
  refine ⟨ret_int hz.out.symm, ?_⟩
  repeat (first | exact HB1.out | refine bR ?_ _ | refine bC ?_ _ | refine bA ?_ _)
 have c2 := Decidable.not_not.1 c2
 subst c2
 by_cases c3 : 120 < x.net.length
 ·have hz : Hid (n = 1) := hD (by rw [← HN.out, worCheck_many HE1.out HE2.out c3])
  have q : (120 : Int) < (x.net.length : Int) := by omega
  go_wp2_with fail
  go_ret
  have hs := HB1.out.size
  refine ⟨ret_int hz.out.symm, ?_⟩
  repeat (first | exact HB1.out | refine bR ?_ _ | refine bC ?_ _ | refine bA ?_ _)
 have q3 : ¬ (120 : Int) < (x.net.length : Int) := by omega
 have HN2 : Hid (netCheck x.net = n) := hD (by rw [← HN.out, worCheck_net HE1.out HE2.out c3])
 have hcap : (x.net.length : Int) ≤ (L.cn : Int) := by have := HIN.out.kn; omega
 have HNT := hD HIN.out.net
 go_wp2_with fail
 generalize L.an = an at *
 go_loopw [27] (fun i wr => ∃ k : Nat, k ≤ x.net.length ∧ i = .int .i64 k ∧ Hid (netCheck (x.net.drop k) = n) ∧ Hid (Below w.heap.size w wr)) (fun i _ => x.net.length - (intOf i).toNat)
 case atStart => exact ⟨0, Nat.zero_le _, rfl, hD (by rw [List.drop_zero]; exact HN2.out), HB1⟩
 case round =>
  clear HB1 HN2 a0r a0f a0n a0c a0z a0l
  rename World => wr
  obtain ⟨k, hk, rfl, HE, HB⟩ := hrel
  have hsz := HB.out.size
  by_cases hlt : k < x.net.length
  ·obtain ⟨b, o, B, c, rfl, hb, hck, hin⟩ := (HNT.out.stays HB.out).chk hlt
   obtain ⟨y, hy⟩ : ∃ y, x.net[k] = y := ⟨_, rfl⟩
   rw [hy] at hck hin
   obtain ⟨q0, q1, q2, q4, q5⟩ := hck
   have hdr : x.net.drop k = y :: x.net.drop (k + 1) := by rw [List.drop_eq_getElem_cons hlt, hy]
   have hne := HE.out
   rw [hdr, netCheck_cons] at hne
   have HNE := hD hne
   have KC := hD (fun w => chkCheckX_calls B c y w ⟨hin.i2, hin.i3⟩)
   have hwk : IntKind.i64.wrap ((k : Int) + 1) = (k : Int) + 1 := IntWalk.i64_in _ (by omega)
   have dl : decide ((k : Int) < (x.net.length : Int)) = true := decide_eq_true (by omega)
   obtain ⟨e3, he3⟩ : ∃ e, chkCheck y = e := ⟨_, rfl⟩
   rw [he3] at KC HNE
   clear hy hin hdr hne he3
   go_wp2_with fail
   refine (KC.out _).mono ?_
   rintro e w2 ⟨rfl, hb2⟩
   have HB2 : Hid (Below w.heap.size w w2) := hD (by
    refine Below.trans ?_ (hb2.mono (by first | omega | (simp <;> omega)))
    repeat (first | exact HB.out | refine bA ?_ _))
   clear hb2
   by_cases c5 : e3 ≠ 0
   ·have hz : Hid (n = e3) := hD (by have := HNE.out; rw [if_pos c5] at this; exact this.symm)
    have q : (e3 != 0) = true := by simp [c5]
    clear c5
    go_wp2_with fail
    go_ret
    have hs := HB2.out.size
    refine ⟨ret_int hz.out.symm, ?_⟩
    repeat (first | exact HB2.out | refine bR ?_ _ | refine bC ?_ _ | refine bA ?_ _)
   ·have c5 := Decidable.not_not.1 c5
    subst c5
    have HE2' : Hid (netCheck (x.net.drop (k + 1)) = n) := hD (by have := HNE.out; rw [if_neg (by decide)] at this; exact this)
    go_wp2_with fail
    go_roundw
    case rel => exact ⟨k + 1, by omega, by go_num, HE2', HB2⟩
    case measure => simp [intOf]; omega
  ·obtain rfl : k = x.net.length := by omega
   have dl : decide ((x.net.length : Int) < (x.net.length : Int)) = false := by simp
   have hz : Hid (n = 0) := hD (by have := HE.out; rw [List.drop_length] at this; exact this.symm)
   go_wp2_with fail
   go_ret
   have hs := HB.out.size
   refine ⟨ret_int hz.out.symm, ?_⟩
   repeat (first | exact HB.out | refine bR ?_ _ | refine bC ?_ _ | refine bA ?_ _)
def idxI (p : List UInt8 → Bool) : List (List UInt8) → Nat → Int
 | [], _ => -1
 | x :: r, k => if p x = true then (k : Int) else idxI p r (k + 1)
theorem idxI_ge (p : List UInt8 → Bool) : ∀ (l : List (List UInt8)) (k : Nat), decide ((0 : Int) ≤ idxI p l k) = l.any p
 | [], k => by simp [idxI]
 | x :: r, k => by
  unfold idxI
  by_cases h : p x = true
  ·rw [if_pos h]; simp [h]
  ·rw [if_neg h, idxI_ge p r]; simp [h]
def longB (b : List UInt8) : Bool := decide ((64 : Int) < (b.length : Int))
theorem rel1_calls (B : Option Addr) (n d : Nat) (w : World) : Calls Tryz.prog 46 #[.slice B n d] w (RetB w (.bool (decide ((64 : Int) < (n : Int))))) := by
 go_enter Tryz.func46, Tryz.ntmps46
 go_wp2_with fail
 go_ret
 exact ⟨rfl, Below.refl _ _⟩
theorem idxImgs_calls (A : Option Addr) (c : Nat) (l : List (List UInt8)) (w : World) (hl : l.length ≤ 1048576) (hs : Ims w A l) :
  Calls Tryz.prog 71 #[.slice A l.length c, .func (Fn.func 46) #[] #[]] w (RetB w (iv (idxI longB l 0))) := by
 have HS := hD hs
 obtain ⟨r, hr⟩ : ∃ r, idxI longB l 0 = r := ⟨_, rfl⟩
 rw [hr]
 have HR : Hid (idxI longB l 0 = r) := hD hr
 clear hr hs
 go_enter Tryz.func71, Tryz.ntmps71
 go_wp2_with fail
 go_loopw [8] (fun i wr => ∃ k : Nat, k ≤ l.length ∧ i = .int .i64 k ∧ Hid (idxI longB (l.drop k) k = r) ∧ Hid (Below w.heap.size w wr)) (fun i _ => l.length - (intOf i).toNat)
 case atStart => exact ⟨0, Nat.zero_le _, rfl, hD HR.out, hD (Below.refl _ _)⟩
 case round =>
  rename World => wr
  obtain ⟨k, hk, rfl, HE, HB⟩ := hrel
  have hsz := HB.out.size
  by_cases hlk : k < l.length
  ·obtain ⟨b, o, rfl, hb, cs, hcl, hcc, B, d, rfl, hd1, hd2, hd3⟩ := (HS.out.stays HB.out) k hlk
   obtain ⟨x, hx⟩ : ∃ x, l[k] = x := ⟨_, rfl⟩
   have q0 : wr.cell? ⟨b, o + k, none⟩ = some (.slice B x.length d) := by have := hcc 0 (by simp); rw [hx] at this; simpa using this
   have hdr : l.drop k = x :: l.drop (k + 1) := by rw [List.drop_eq_getElem_cons hlk, hx]
   rw [hdr] at HE
   have hn := HE.out
   unfold idxI at hn
   have HN := hD hn
   clear hdr HE hn hcc hcl hd1 hd2 hd3 hx
   obtain ⟨q, hq⟩ : ∃ q, longB x = q := ⟨_, rfl⟩
   rw [hq] at HN
   have HC : Hid (∀ w', Calls Tryz.prog 46 #[.slice B x.length d] w' (RetB w' (.bool q))) := hD fun w' => hq ▸ rel1_calls B x.length d w'
   clear hq
   go_wp2_with fail
   refine (HC.out _).mono ?_
   rintro e w2 ⟨rfl, hb2⟩
   have HB2 : Hid (Below w.heap.size w w2) := hD (HB.out.trans (hb2.mono hsz))
   clear hb2
   cases q
   ·have HE2 : Hid (idxI longB (l.drop (k + 1)) (k + 1) = r) := hD (by simpa using HN.out)
    clear HN
    go_wp2_with fail
    go_roundw
    case rel => exact ⟨k + 1, by omega, by go_num, HE2, HB2⟩
    case measure => simp [intOf] <;> omega
   ·have HE2 : Hid ((k : Int) = r) := hD (by simpa using HN.out)
    clear HN
    go_wp2_with fail
    go_ret
    exact ⟨by rw [← HE2.out]; rfl, HB2.out⟩
  ·have HE2 : Hid ((-1 : Int) = r) := hD (by
    rw [← HE.out, List.drop_of_length_le (by omega)]; rfl)
   clear HE
   go_wp2_with fail
   go_ret
   exact ⟨by rw [← HE2.out]; rfl, HB.out⟩
theorem anyImgs_calls (A : Option Addr) (c : Nat) (l : List (List UInt8)) (w : World) (hl : l.length ≤ 1048576) (hs : Ims w A l) :
  Calls Tryz.prog 45 #[.slice A l.length c, .func (Fn.func 46) #[] #[]] w (RetB w (.bool (l.any longB))) := by
 have K := hD (idxImgs_calls A c l w hl hs)
 have HI : Hid (decide ((0 : Int) ≤ idxI longB l 0) = l.any longB) := hD (idxI_ge longB l 0)
 generalize idxI longB l 0 = r at *
 generalize l.any longB = q at *
 clear hs
 go_enter Tryz.func45, Tryz.ntmps45
 go_wp2_with fail
 refine K.out.mono ?_
 rintro e w2 ⟨rfl, hb⟩
 have HB := hD hb
 clear hb
 go_wp2_with fail
 go_ret
 exact ⟨by rw [← HI.out]; rfl, HB.out⟩
theorem relCheck_eq (l : List (List UInt8)) : relCheck l = if within l.length 1 30 = true ∧ l.any longB = false then 0 else 1 := by
 unfold relCheck within
 have h1 : (decide ((1 : Int) ≤ (l.length : Int)) && decide ((l.length : Int) ≤ 30)) = true ↔ ¬ l = [] ∧ ¬ 30 < l.length := by
  rw [Bool.and_eq_true, decide_eq_true_eq, decide_eq_true_eq]
  cases l <;> simp <;> omega
 have h2 : l.any longB = false ↔ ¬ ∃ b ∈ l, 64 < b.length := by
  unfold longB
  rw [List.any_eq_false]
  simp
  exact ⟨fun h x hx => by have := h x hx; omega, fun h x hx => by have := h x hx; omega⟩
 by_cases h : l = [] ∨ 30 < l.length ∨ ∃ b ∈ l, 64 < b.length
 ·rw [if_pos h, if_neg]
  rintro ⟨a, b⟩
  obtain ⟨a1, a2⟩ := h1.1 a
  have b1 := h2.1 b
  exact h.elim a1 fun h => h.elim a2 b1
 ·rw [if_neg h, if_pos]
  exact ⟨h1.2 ⟨fun e => h (.inl e), fun e => h (.inr (.inl e))⟩, h2.2 fun e => h (.inr (.inr e))⟩
theorem refReleases_calls (A : Option Addr) (c : Nat) (l : List (List UInt8)) (w : World) (hl : l.length ≤ 1048576) (hs : Ims w A l) :
  Calls Tryz.prog 16 #[.slice A l.length c] w (RetB w (iv (relCheck l))) := by
 rw [relCheck_eq]
 have K := hD (anyImgs_calls A c l w hl hs)
 have K0 : Hid (∀ w, Calls Tryz.prog 44 #[iv l.length, iv 1, iv 30] w (Ret w (.bool (within l.length 1 30)))) := hD (fun w => in_calls l.length 1 30 w)
 generalize l.any longB = q at *
 generalize within l.length 1 30 = p at *
 clear hs
 cases p
 ·rw [if_neg (by simp)]
  go_enter Tryz.func16, Tryz.ntmps16
  go_wp2_with fail
  refine (K0.out _).mono ?_
  rintro e w0 ⟨rfl, rfl⟩
  go_wp2_with fail
  go_ret
  exact ⟨rfl, Below.refl _ _⟩
 ·cases q
  ·rw [if_pos (by simp)]
   go_enter Tryz.func16, Tryz.ntmps16
   go_wp2_with fail
   refine (K0.out _).mono ?_
   rintro e w0 ⟨rfl, rfl⟩
   go_wp2_with fail
   refine K.out.mono ?_
   rintro e w1 ⟨rfl, hb⟩
   have HB := hD hb
   clear hb
   go_wp2_with fail
   go_ret
   exact ⟨rfl, HB.out⟩
  ·rw [if_neg (by simp)]
   go_enter Tryz.func16, Tryz.ntmps16
   go_wp2_with fail
   refine (K0.out _).mono ?_
   rintro e w0 ⟨rfl, rfl⟩
   go_wp2_with fail
   refine K.out.mono ?_
   rintro e w1 ⟨rfl, hb⟩
   have HB := hD hb
   clear hb
   go_wp2_with fail
   go_ret
   exact ⟨rfl, HB.out⟩
theorem recA_ver (r : Rec) (ha : a ≤ 1) : (recA r)[5 + a * 3]? = some (iv (r.at_ (a : Int)).ver) := by
 match a, ha with
 | 0, _ => simp [recA, Rec.at_]
 | 1, _ => simp [recA, Rec.at_]
theorem recA_size_ (r : Rec) (ha : a ≤ 1) : (recA r)[5 + a * 3 + 1]? = some (iv (r.at_ (a : Int)).size) := by
 match a, ha with
 | 0, _ => simp [recA, Rec.at_]
 | 1, _ => simp [recA, Rec.at_]
theorem devSlotA {d : Dev} {L : DLoc} (h : DevIn w d L) (ha : a ≤ 1) : ∃ A c, (devA d L)[a]? = some (.slice A (d.slot (a : Int)).length c) ∧ (d.slot (a : Int)).length ≤ c ∧ Bts w A (d.slot (a : Int)) := by
 match a, ha with
 | 0, _ => exact ⟨L.a0, L.c0, rfl, h.k0, h.b0⟩
 | 1, _ => exact ⟨L.a1, L.c1, rfl, h.k1, h.b1⟩
theorem slot_len {d : Dev} (h0 : d.s0.length = 64) (h1 : d.s1.length = 64) (k : Int) : (d.slot k).length = 64 := by unfold Dev.slot; split <;> assumption
theorem at_sizes {r : Rec} (h : recCheck r = 0) (k : Int) : 0 ≤ (r.at_ k).size ∧ (r.at_ k).size ≤ 64 ∧ 0 ≤ (r.at_ k).ver := by
 obtain ⟨_, h2, h3, _⟩ := recCheck_parts h
 have key : ∀ x : Inf, infCheck x = 0 → 0 ≤ x.size ∧ x.size ≤ 64 ∧ 0 ≤ x.ver := fun x hx => by
  unfold infCheck at hx
  by_cases hh : InfRange x
  ·unfold InfRange at hh; omega
  ·rw [if_neg hh] at hx; exact absurd hx (by decide)
 unfold Rec.at_
 split
 ·exact key _ h2
 ·exact key _ h3
theorem imageOf_calls (d : Dev) (L : DLoc) (w : World) (h : DevIn w d L) (h0 : d.s0.length = 64) (h1 : d.s1.length = 64) (hc : copCheck d.c0 d.c1 = 0) :
  Calls Tryz.prog 30 #[.agg (devA d L)] w (ImRet w (d.image d.rec_.active d.rec_)) := by
 have hok := recRead_ok hc
 have hn := refNewest_ok hc
 have hact := rec_active hok
 have KN := hD (fun w => newest_calls d.c0 d.c1 w)
 rw [hn] at KN
 have hrec : (recRead d.c0 d.c1).1 = d.rec_ := rfl
 rw [hrec] at KN hok hact
 obtain ⟨rk, hrk⟩ : ∃ rk, (recRead d.c0 d.c1).2 = rk := ⟨_, rfl⟩
 rw [hrk] at KN
 generalize d.rec_ = r at *
 obtain ⟨a, ha, ha1⟩ : ∃ a : Nat, r.active = (a : Int) ∧ a ≤ 1 := ⟨r.active.toNat, by omega, by omega⟩
 obtain ⟨z1, z2, _⟩ := at_sizes hok r.active
 rw [ha] at z1 z2 ⊢
 obtain ⟨y, hy⟩ : ∃ y : Nat, (r.at_ (a : Int)).size = (y : Int) := ⟨(r.at_ (a : Int)).size.toNat, by omega⟩
 have hsl := slot_len h0 h1 (a : Int)
 have himg : d.image (a : Int) r = (d.slot (a : Int)).take y := by unfold Dev.image; rw [hy]; rfl
 have hlen : ((d.slot (a : Int)).take y).length = y := by rw [List.length_take]; omega
 rw [himg]
 obtain ⟨A, c, p1, p2, p3⟩ := devSlotA h ha1
 rw [hsl] at p1 p2
 obtain ⟨b, o, hA, -⟩ := p3 0 (by omega)
 have HSL := hD (pre_slice (A := A) (n := 64) (c := c) y rfl p2 (by omega) (by decide) ⟨b, o, hA⟩)
 have HB := hD (mid_take p3 y)
 have HLEN := hD hlen
 have hyc : y ≤ c := by omega
 have pv := recA_size_ r ha1
 rw [hy] at pv
 have hba : Below w.heap.size w (w.alloc (.cells (devA d L) 38)) := (Below.refl _ _).alloc (Nat.le_refl _) _
 have HBA := hD hba
 have HP1 := hD p1
 have HPV := hD pv
 have HA := hD ha
 clear h hok hn hact hrec hrk z1 z2 hy hsl himg hlen p1 p3 hA pv hba ha h0 h1 hc
 go_enter Tryz.func30, Tryz.ntmps30
 go_wp2_with fail
 refine (KN.out _).mono ?_
 rintro e w1 ⟨rfl, hb1⟩
 obtain ⟨a0r, a0f, a0n, a0c, a0z, a0l⟩ := kp (w.heap.size) (devA d L) hb1
 have HB1 : Hid (Below w.heap.size w w1) := hD (HBA.out.trans (hb1.mono (by simp)))
 clear hb1
 go_wp2_with fail
 obtain ⟨w2, hw2⟩ : ∃ w2, w1.alloc (.cells (recA r) 29) = w2 := ⟨_, rfl⟩
 have hb2 : Below w1.heap.size w1 w2 := by rw [← hw2]; exact (Below.refl _ _).alloc (Nat.le_refl _) _
 have hrr : rowOf w2 w1.heap.size = recA r ∧ frOf w2 w1.heap.size = (0, 0) := by rw [← hw2]; exact ⟨by rw [rowOf_alloc, if_pos rfl], by rw [frOf_alloc, if_pos rfl]⟩
 obtain ⟨a0r, a0f, a0n, a0c, a0z, a0l⟩ := keep1 (g := w.heap.size) (cs := devA d L) hb2 a0r (by go_simp) a0f
 obtain ⟨r0r, r0f, r0n, r0c, r0z, r0l⟩ := keep1 (Below.refl w2.heap.size w2) hrr.1 (by simp [recA]) hrr.2
 have HB2 : Hid (Below w.heap.size w w2) := hD (HB1.out.trans (hb2.mono HB1.out.size))
 rw [hw2]
 clear hw2 hb2 hrr
 have ha := HA.out
 have p1 := HP1.out
 have pv := HPV.out
 have k1 : (0 : Int) ≤ (a : Int) := by omega
 have k2 : (a : Int) < 2 := by omega
 have k3 : ¬ (2 : Int) ≤ (a : Int) := by omega
 have hsl := HSL.out
 go_quiet (fail)
 go_wp2_with fail
 go_ret
 have HBE : Hid (Below w.heap.size w (w2.drewN nq)) := hD (Below.drewN' HB2.out nq)
 exact ⟨A, c, by rw [HLEN.out]; rfl, by rw [HLEN.out]; exact hyc, HB.out.stays HBE.out, HBE.out⟩
theorem blkFacts {g : Nat} {cs : Array Value} {T : TypeId} (h : w.heap[g]? = some (.cells cs T (0, 0))) (h0 : 0 < cs.size) : rowOf w g = cs ∧ frOf w g = (0, 0) ∧ (∀ j, w.cell? ⟨g, j, none⟩ = cs[j]?) ∧ (∀ j, w.frozen? ⟨g, j, none⟩ = false) ∧ g < w.heap.size :=
 ⟨row_of_blk h, fr_of_blk h, fun j => cell_of_row w g j _ T _ h, fun j => frozen_of_row w g j _ T h, blk_lt h⟩
theorem set_blk {g j : Nat} {cs : Array Value} {T : TypeId} {v : Value} (h : w.heap[g]? = some (.cells cs T (0, 0))) : (w.setCell ⟨g, j, none⟩ v).heap[g]? = some (.cells (cs.setIfInBounds j v) T (0, 0)) := by
 rw [setCell_eq_setRow w g j cs T (0, 0) v h]
 exact setRow_heap w g cs _ T (0, 0) h
structure RdAt (wr : World) (g0 : Nat) (f t o n s : Int) (acc : List Stp) (ds : List (Option Addr × Nat)) (A : Option Addr) (c : Nat) : Prop where
 z : wr.heap[g0]? = some (.cells (patA 0 0 0 0 0 none 0 0) 36 (0, 0))
 p : wr.heap[g0 + 1]? = some (.cells (patA f t o n s A acc.length c) 36 (0, 0))
 row : CRow wr (g0 + 2) acc ds A c
 nd : ∀ (i : Nat) (e : Option Addr × Nat), ds[i]? = some e → ∀ k, e.1.map (·.block) = some k → g0 + 2 ≤ k
 le : g0 + 2 ≤ wr.heap.size
 bd : ∀ q ∈ acc, I64 q.at_ ∧ I64 q.len ∧ q.data.length ≤ 1048576
def filB (b : List UInt8) (k : Nat) : List Value := (b.take k).map bv ++ List.replicate (64 - k) (.int .u8 0)
theorem filB_len (b : List UInt8) (h : k ≤ b.length) (hb : b.length ≤ 64) : (filB b k).length = 64 := by unfold filB; simp; omega
theorem filB_zero (b : List UInt8) : filB b 0 = List.replicate 64 (.int .u8 0) := by unfold filB; simp
theorem filB_set (b : List UInt8) (h : k < b.length) (hb : b.length ≤ 64) : (filB b k).set k (bv b[k]) = filB b (k + 1) := by
 unfold filB
 obtain ⟨m, hm⟩ : ∃ m, 64 - k = m + 1 := ⟨63 - k, by omega⟩
 have hl : ((b.take k).map bv).length = k := by simp; omega
 rw [List.set_append_right _ _ (by omega), hl, Nat.sub_self, hm, List.replicate_succ, List.set_cons_zero, List.take_succ_eq_append_getElem h, List.map_append, List.append_assoc, show 64 - (k + 1) = m by omega]
 rfl
theorem filB_at (b : List UInt8) (h : k ≤ b.length) (hk : k < 64) : (filB b k)[k]? = some (.int .u8 0) := by
 unfold filB
 have hl : ((b.take k).map bv).length = k := by simp; omega
 rw [List.getElem?_append_right (by omega), hl, Nat.sub_self, List.getElem?_replicate, if_pos (by omega)]
theorem filB_all (b : List UInt8) (hb : b.length ≤ 64) : filB b b.length = (room b).map bv := by
 unfold filB room
 rw [List.take_length, List.map_append, List.map_replicate]
 rfl
theorem filled_calls (A : Option Addr) (c : Nat) (b : List UInt8) (w : World) (hb : b.length ≤ 64) (hB : Bts w A b) :
  Calls Tryz.prog 31 #[.slice A b.length c] w (BtRet w (room b)) := by
 have HB0 := hD hB
 have hmk : ∀ w : World, (Instr.makeSlice 23 (.int .i64 64) (.int .i64 64)).run Tryz.prog w = .ok (.slice (some ⟨w.heap.size, 0, none⟩) 64 64) (w.alloc (.cells (filB b 0).toArray 5)) := fun w => by
  have := run_make_row' (P := Tryz.prog) 23 5 (.int .u8 0) 1 Tryz.underlying23 (by kernel_rfl) rfl .i64 .i64 64 (by omega) (by omega) w
  rw [made_zeros] at this
  rw [filB_zero, List.toArray_replicate]
  exact this
 clear hB
 go_enter Tryz.func31, Tryz.ntmps31
 go_wp2_with fail
 have HF0 : Hid ((w.alloc (.cells (filB b 0).toArray 5)).heap[w.heap.size]? = some (.cells (filB b 0).toArray 5 (0, 0))) := hD (blk_top rfl)
 have HBA : Hid (Below w.heap.size w (w.alloc (.cells (filB b 0).toArray 5))) := hD ((Below.refl _ _).alloc (Nat.le_refl _) _)
 clear hmk
 generalize w.alloc (.cells (filB b 0).toArray 5) = w1 at *
 obtain ⟨g, hg⟩ : ∃ g, w.heap.size = g := ⟨_, rfl⟩
 have HG := hD hg
 rw [hg] at HF0 HBA ⊢
 clear hg
 go_loopw [9] (fun i wr => ∃ k : Nat, k ≤ b.length ∧ i = .int .i64 k ∧ Hid (wr.heap[g]? = some (.cells (filB b k).toArray 5 (0, 0))) ∧ Hid (Below g w wr)) (fun i _ => b.length - (intOf i).toNat)
 case atStart => exact ⟨0, Nat.zero_le _, rfl, HF0, HBA⟩
 case round =>
  clear HF0 HBA
  rename World => wr
  obtain ⟨k, hk, rfl, HF, HB⟩ := hrel
  by_cases hlt : k < b.length
  ·obtain ⟨b', o', rfl, hlt', hcc⟩ := (HB0.out.stays (HG.out.symm ▸ HB.out)) k hlt
   obtain ⟨q1, q2, q3, q4, q5⟩ := blkFacts HF.out (by rw [List.size_toArray, filB_len b hk hb]; decide)
   have dl : decide ((k : Int) < (b.length : Int)) = true := decide_eq_true (by omega)
   have nb : ¬ (64 : Int) ≤ (k : Int) := by omega
   have hck := filB_at b hk (by omega)
   have nb2 : ¬ (b.length : Int) ≤ (k : Int) := by omega
   have HS : Hid (filB b (k + 1) = (filB b k).set k (bv b[k])) := hD (filB_set b hlt hb).symm
   generalize b[k] = x at *
   have hw1 : IntKind.i64.wrap ((k : Int) + 1) = (k : Int) + 1 := IntWalk.i64_in _ (by omega)
   go_wp2_with fail
   go_roundw
   case rel => exact ⟨k + 1, by omega, by go_num, hD (by rw [HS.out]; have := set_blk (j := k) (v := bv x) HF.out; simpa using this), hD (HB.out.setCell (p := ⟨g, k, none⟩) (Nat.le_refl _) _)⟩
   case measure => simp [intOf]; omega
  ·obtain rfl : k = b.length := by omega
   have dl : decide ((b.length : Int) < (b.length : Int)) = false := by simp
   go_wp2_with fail
   go_ret
   have hf := HF.out
   rw [filB_all b hb] at hf
   have hl := room_len hb
   have hgo := HG.out
   refine ⟨some ⟨g, 0, none⟩, 64, by rw [hl]; rfl, ?_, hgo.symm ▸ HB.out⟩
   rw [hl, hgo]
   exact ⟨by simp [hl], Or.inr ⟨g, 64, _, rfl, Nat.le_refl _, hf, Nat.le_refl _, by unfold maxLen; omega, by simp [hl], by simp [List.take_of_length_le, hl]⟩⟩
theorem refPatCheck_calls (A : Option Addr) (c : Nat) (f t o n sz : Int) (l : List Stp) (w : World) (hl : l.length ≤ 1048576) (hs : Sps w A l) :
  Calls Tryz.prog 59 #[.agg (patA f t o n sz A l.length c)] w (RetB w (iv (patCheck ⟨f, t, o, n, sz, l⟩))) := refPatCheckA_calls A c f t o n sz l w hl hs
theorem refDone_calls (B A : Option Addr) (d c : Nat) (p : Pat) (old : List UInt8) (w : World) (hc : old.length ≤ c) (ho : old.length ≤ 1048576) (hA : Bts w A old) (hp : PatIn w p B d) :
  Calls Tryz.prog 29 #[.agg (patA p.from_ p.to_ p.old p.new_ p.size B p.ops.length d), .slice A old.length c] w (ByRet2 w (patDo (sumOn 1) p old).1 (patDo (sumOn 1) p old).2) := by
 obtain ⟨f, t, o, n, sz, l⟩ := p
 obtain ⟨hcap, hlen, hops, -, -, -, -, -⟩ := hp
 dsimp only at *
 have hba := (Below.refl w.heap.size w).alloc (Nat.le_refl _) (.cells (patA f t o n sz B l.length d) 36)
 have K1 := hD (fun w h => refPatCheck_calls B d f t o n sz l w hlen h)
 have K2 := hD (fun w h => refSumOf_calls A c old w (by omega) h)
 have HA := hD hA
 have HO := hD hops
 have HBA := hD hba
 clear hA hops hba
 obtain ⟨r, hr⟩ : ∃ r, patDo (sumOn 1) ⟨f, t, o, n, sz, l⟩ old = r := ⟨_, rfl⟩
 rw [hr]
 have HR := hD hr
 clear hr
 obtain ⟨ck, hck⟩ : ∃ ck, patCheck ⟨f, t, o, n, sz, l⟩ = ck := ⟨_, rfl⟩
 rw [hck] at K1
 have HCK := hD hck
 clear hck
 go_enter Tryz.func29, Tryz.ntmps29
 go_wp2_with fail
 refine (K1.out _ (HO.out.stays HBA.out)).mono ?_
 rintro e w1 ⟨rfl, hb1⟩
 obtain ⟨a0r, a0f, a0n, a0c, a0z, a0l⟩ := kp (w.heap.size) (patA f t o n sz B l.length d) hb1
 have HB1 := hD (HBA.out.trans (hb1.mono (by simp)))
 clear hb1
 by_cases h0 : ck ≠ 0
 ·have hz : r = ([], ck) := by rw [← HR.out]; unfold patDo; rw [HCK.out, if_pos h0]
  subst hz
  have q : (ck != 0) = true := by simp [h0]
  clear h0
  go_wp2_with fail
  go_ret2
  exact ⟨none, 0, rfl, Bts.nil _ _, Nat.le_refl _, HB1.out⟩
 have h0 := Decidable.not_not.1 h0
 subst h0
 by_cases h1 : 64 < old.length
 ·have hz : r = ([], 1) := by rw [← HR.out]; unfold patDo; rw [HCK.out, if_neg (by simp), if_pos h1]
  subst hz
  have q : (64 : Int) < (old.length : Int) := by omega
  go_wp2_with fail
  go_ret2
  exact ⟨none, 0, rfl, Bts.nil _ _, Nat.le_refl _, HB1.out⟩
 have q1 : ¬ (64 : Int) < (old.length : Int) := by omega
 obtain ⟨s, hs⟩ : ∃ s, sumOn 1 old = s := ⟨_, rfl⟩
 rw [hs] at K2
 have HS := hD hs
 clear hs
 have HK1 := hD (fun n => K2.out (w1.drewN n) ((HA.out.stays HB1.out).drewN n))
 by_cases h2 : s ≠ o
 ·have hz : r = ([], 6) := by rw [← HR.out]; unfold patDo; rw [HCK.out, if_neg (by simp), if_neg h1, HS.out, if_pos h2]
  subst hz
  have q : (s != o) = true := by simp [h2]
  clear h2
  go_wp2_with fail
  go_quiet ((go_at_call 60; with_reducible exact quietRet (HK1.out _)))
  go_wp2_with fail
  go_ret2
  exact ⟨none, 0, rfl, Bts.nil _ _, Nat.le_refl _, Below.drewN' HB1.out _⟩
 have h2 := Decidable.not_not.1 h2
 subst h2
 have q2 : (s != s) = false := by simp
 obtain ⟨y, e0, hy⟩ : ∃ y e0, axOf old l sz = (y, e0) := ⟨_, _, rfl⟩
 have K3 := hD (fun w h1 h2 => refApplyAny_calls A c old B d l sz w hc ho h1 hlen h2)
 rw [hy] at K3
 dsimp only at K3
 have HY := hD hy
 clear hy
 have HK3 := hD (fun n => K3.out (w1.drewN n) ((HA.out.stays HB1.out).drewN n) ((HO.out.stays HB1.out).stays (below_drewN _ _)))
 have hyl : y.length ≤ 1048576 := by
  have := HY.out
  unfold axOf at this
  by_cases h9 : deltaCheck l old.length sz ≠ 0
  ·rw [if_pos h9] at this; injection this with h; rw [← h]; simp
  ·rw [if_neg h9] at this
   injection this with h
   have hd := deltaCheck_ok.1 (Decidable.not_not.1 h9)
   have := applied_len (old := old) (l := l) (fun o ho => (hd.each o ho).2)
   have h7 := hd.sum; have h8 := hd.s1
   rw [← h]; omega
 go_wp2_with fail
 go_quiet ((go_at_call 60; with_reducible exact quietRet (HK1.out _)))
 go_wp2_with fail
 refine (HK3.out nq).mono ?_
 rintro e w2 ⟨A2, c2, rfl, hy2, hc2, hb2⟩
 obtain ⟨b0r, b0f, b0n, b0c, b0z, b0l⟩ := kp (w.heap.size) (patA f t s n sz B l.length d) hb2
 have HB2 : Hid (Below w.heap.size w w2) := hD ((Below.drewN' HB1.out nq).trans (hb2.mono (by have := HB1.out.size; simp; omega)))
 have HY2 := hD hy2
 clear hb2 hy2
 by_cases h3 : e0 ≠ 0
 ·have hz : r = ([], e0) := by
   rw [← HR.out]; unfold patDo
   have := HY.out
   unfold axOf at this
   rw [HCK.out, if_neg (by simp), if_neg h1, HS.out, if_neg (by simp)]
   by_cases h9 : deltaCheck l old.length sz ≠ 0
   ·rw [if_pos h9] at this ⊢; injection this with _ h; rw [h]
   ·rw [if_neg h9] at this; injection this with _ h; exact absurd h.symm h3
  subst hz
  have q : (e0 != 0) = true := by simp [h3]
  have q9 : (e0 == 0) = false := by simp [h3]
  clear h3 HY
  go_wp2_with fail
  go_quiet (fail)
  go_wp2_with fail
  go_ret2
  exact ⟨none, 0, rfl, Bts.nil _ _, Nat.le_refl _, Below.drewN' HB2.out _⟩
 have h3 := Decidable.not_not.1 h3
 subst h3
 have hyy : deltaCheck l old.length sz = 0 ∧ y = applied old l := by
  have := HY.out
  unfold axOf at this
  by_cases h9 : deltaCheck l old.length sz ≠ 0
  ·rw [if_pos h9] at this; injection this with _ h; exact absurd h h9
  ·rw [if_neg h9] at this; injection this with h _; exact ⟨Decidable.not_not.1 h9, h.symm⟩
 have K4 := hD (fun m => refSumOf_calls A2 c2 y (w2.drewN m) (by omega) (HY2.out.drewN m))
 have hrr : r = if sumOn 1 y ≠ n then ([], 6) else (y, 0) := by
  rw [← HR.out]; unfold patDo
  rw [HCK.out, if_neg (by simp), if_neg h1, HS.out, if_neg (by simp), hyy.1, if_neg (by simp), ← hyy.2]
 obtain ⟨s2, hs2⟩ : ∃ s2, sumOn 1 y = s2 := ⟨_, rfl⟩
 rw [hs2] at K4 hrr
 have HRR := hD hrr
 clear hrr hs2 hyy HY
 by_cases h4 : s2 ≠ n
 ·have hz : r = ([], 6) := by rw [HRR.out, if_pos h4]
  subst hz
  have q : (s2 != n) = true := by simp [h4]
  clear h4
  go_wp2_with fail
  go_quiet ((go_at_call 60; with_reducible exact quietRet (K4.out _)))
  go_wp2_with fail
  go_ret2
  exact ⟨none, 0, rfl, Bts.nil _ _, Nat.le_refl _, Below.drewN' HB2.out _⟩
 ·have h4 := Decidable.not_not.1 h4
  subst h4
  have hz : r = (y, 0) := by rw [HRR.out, if_neg (by simp)]
  subst hz
  have q : (s2 != s2) = false := by simp
  go_wp2_with fail
  go_quiet ((go_at_call 60; with_reducible exact quietRet (K4.out _)))
  go_wp2_with fail
  go_ret2
  exact ⟨A2, c2, rfl, HY2.out.drewN _, hc2, Below.drewN' HB2.out _⟩
theorem refChkCheck_calls (A : Option Addr) (c : Nat) (f t n o : Int) (l : List UInt8) (w : World) (hn : I64 n) (ho : I64 o) :
  Calls Tryz.prog 18 #[.agg (chkA f t n o A l.length c)] w (RetB w (iv (chkCheck ⟨f, t, n, o, l⟩))) := by
 obtain ⟨hn1, hn2⟩ := hn
 obtain ⟨ho1, ho2⟩ := ho
 have hb : Below w.heap.size w (w.alloc (.cells (chkA f t n o A l.length c) 56)) := (Below.refl _ _).alloc (Nat.le_refl _) _
 have HB := Lib.hid hb
 clear hb
 by_cases h0 : f < (1 : Int) ∨ (30 : Int) < f
 ·have hz := Lib.hid (chkCheck_bad (x := ⟨f, t, n, o, l⟩) (by unfold Chk.range; dsimp only; omega))
  go_enter Tryz.func18, Tryz.ntmps18
  go_wp2_with fail
  refine (refIn_f (n := f) (a := 1) (b := 30) (by omega) _).mono ?_
  rintro e u ⟨rfl, rfl⟩
  go_wp2_with fail
  go_ret
  exact ⟨ret_int hz.out.symm, HB.out⟩
 by_cases h1 : t < (1 : Int) ∨ (30 : Int) < t
 ·have hz := Lib.hid (chkCheck_bad (x := ⟨f, t, n, o, l⟩) (by unfold Chk.range; dsimp only; omega))
  go_enter Tryz.func18, Tryz.ntmps18
  go_wp2_with fail
  refine (refIn_t (n := f) (a := 1) (b := 30) (by omega) _).mono ?_
  rintro e u ⟨rfl, rfl⟩
  go_wp2_with fail
  refine (refIn_f (n := t) (a := 1) (b := 30) (by omega) _).mono ?_
  rintro e u ⟨rfl, rfl⟩
  go_wp2_with fail
  go_ret
  exact ⟨ret_int hz.out.symm, HB.out⟩
 by_cases h2 : o < (1 : Int) ∨ (52 : Int) < o
 ·have hz := Lib.hid (chkCheck_bad (x := ⟨f, t, n, o, l⟩) (by unfold Chk.range; dsimp only; omega))
  go_enter Tryz.func18, Tryz.ntmps18
  go_wp2_with fail
  refine (refIn_t (n := f) (a := 1) (b := 30) (by omega) _).mono ?_
  rintro e u ⟨rfl, rfl⟩
  go_wp2_with fail
  refine (refIn_t (n := t) (a := 1) (b := 30) (by omega) _).mono ?_
  rintro e u ⟨rfl, rfl⟩
  go_wp2_with fail
  refine (refIn_f (n := o) (a := 1) (b := 52) (by omega) _).mono ?_
  rintro e u ⟨rfl, rfl⟩
  go_wp2_with fail
  go_ret
  exact ⟨ret_int hz.out.symm, HB.out⟩
 by_cases h3 : n < (0 : Int)
 ·have hz := Lib.hid (chkCheck_bad (x := ⟨f, t, n, o, l⟩) (by unfold Chk.range; dsimp only; omega))
  go_enter Tryz.func18, Tryz.ntmps18
  go_wp2_with fail
  refine (refIn_t (n := f) (a := 1) (b := 30) (by omega) _).mono ?_
  rintro e u ⟨rfl, rfl⟩
  go_wp2_with fail
  refine (refIn_t (n := t) (a := 1) (b := 30) (by omega) _).mono ?_
  rintro e u ⟨rfl, rfl⟩
  go_wp2_with fail
  refine (refIn_t (n := o) (a := 1) (b := 52) (by omega) _).mono ?_
  rintro e u ⟨rfl, rfl⟩
  go_wp2_with fail
  go_ret
  exact ⟨ret_int hz.out.symm, HB.out⟩
 by_cases h4 : o ≤ n
 ·have hz := Lib.hid (chkCheck_bad (x := ⟨f, t, n, o, l⟩) (by unfold Chk.range; dsimp only; omega))
  go_enter Tryz.func18, Tryz.ntmps18
  go_wp2_with fail
  refine (refIn_t (n := f) (a := 1) (b := 30) (by omega) _).mono ?_
  rintro e u ⟨rfl, rfl⟩
  go_wp2_with fail
  refine (refIn_t (n := t) (a := 1) (b := 30) (by omega) _).mono ?_
  rintro e u ⟨rfl, rfl⟩
  go_wp2_with fail
  refine (refIn_t (n := o) (a := 1) (b := 52) (by omega) _).mono ?_
  rintro e u ⟨rfl, rfl⟩
  go_wp2_with fail
  go_ret
  exact ⟨ret_int hz.out.symm, HB.out⟩
 have hr : Chk.range ⟨f, t, n, o, l⟩ := by unfold Chk.range; dsimp only; omega
 have HR := Lib.hid hr
 clear hr
 have hw : IntKind.i64.wrap (o - 1) = o - 1 := IntWalk.i64_in _ (by omega)
 by_cases g2 : n = o - 1
 ·have q1 : (n == o - 1) = true := by simp [g2]
  by_cases g0 : l.length = 0 ∨ 16 < l.length
  ·have hz := Lib.hid (chkCheck_form HR.out (fun e => by have := full_len.1 e; omega))
   have I := Lib.hid (fun w => refIn_f (n := (l.length : Int)) (a := 1) (b := 16) (by omega) w)
   clear g2 g0
   go_enter Tryz.func18, Tryz.ntmps18
   go_wp2_with fail
   refine (refIn_t (n := f) (a := 1) (b := 30) (by omega) _).mono ?_
   rintro e u ⟨rfl, rfl⟩
   go_wp2_with fail
   refine (refIn_t (n := t) (a := 1) (b := 30) (by omega) _).mono ?_
   rintro e u ⟨rfl, rfl⟩
   go_wp2_with fail
   refine (refIn_t (n := o) (a := 1) (b := 52) (by omega) _).mono ?_
   rintro e u ⟨rfl, rfl⟩
   go_wp2_with fail
   refine (I.out _).mono ?_
   rintro e u ⟨rfl, rfl⟩
   go_wp2_with fail
   go_ret
   exact ⟨ret_int hz.out.symm, HB.out⟩
  ·have hz := Lib.hid (chkCheck_fine HR.out (full_len.2 ⟨by omega, by omega, fun h => by omega⟩))
   have I := Lib.hid (fun w => refIn_t (n := (l.length : Int)) (a := 1) (b := 16) (by omega) w)
   clear g2 g0
   go_enter Tryz.func18, Tryz.ntmps18
   go_wp2_with fail
   refine (refIn_t (n := f) (a := 1) (b := 30) (by omega) _).mono ?_
   rintro e u ⟨rfl, rfl⟩
   go_wp2_with fail
   refine (refIn_t (n := t) (a := 1) (b := 30) (by omega) _).mono ?_
   rintro e u ⟨rfl, rfl⟩
   go_wp2_with fail
   refine (refIn_t (n := o) (a := 1) (b := 52) (by omega) _).mono ?_
   rintro e u ⟨rfl, rfl⟩
   go_wp2_with fail
   refine (I.out _).mono ?_
   rintro e u ⟨rfl, rfl⟩
   go_wp2_with fail
   go_ret
   exact ⟨ret_int hz.out.symm, HB.out⟩
 ·have q1 : (n == o - 1) = false := beq_eq_false_iff_ne.2 g2
  by_cases g0 : l.length = 16
  ·have hz := Lib.hid (chkCheck_fine HR.out (full_len.2 ⟨by omega, by omega, fun h => g0⟩))
   have I := Lib.hid (fun w => refIn_t (n := (l.length : Int)) (a := 16) (b := 16) (by omega) w)
   clear g2 g0
   go_enter Tryz.func18, Tryz.ntmps18
   go_wp2_with fail
   refine (refIn_t (n := f) (a := 1) (b := 30) (by omega) _).mono ?_
   rintro e u ⟨rfl, rfl⟩
   go_wp2_with fail
   refine (refIn_t (n := t) (a := 1) (b := 30) (by omega) _).mono ?_
   rintro e u ⟨rfl, rfl⟩
   go_wp2_with fail
   refine (refIn_t (n := o) (a := 1) (b := 52) (by omega) _).mono ?_
   rintro e u ⟨rfl, rfl⟩
   go_wp2_with fail
   refine (I.out _).mono ?_
   rintro e u ⟨rfl, rfl⟩
   go_wp2_with fail
   go_ret
   exact ⟨ret_int hz.out.symm, HB.out⟩
  ·have hz := Lib.hid (chkCheck_form HR.out (fun e => by have := (full_len.1 e).2.2 (by omega); omega))
   have I := Lib.hid (fun w => refIn_f (n := (l.length : Int)) (a := 16) (b := 16) (by omega) w)
   clear g2 g0
   go_enter Tryz.func18, Tryz.ntmps18
   go_wp2_with fail
   refine (refIn_t (n := f) (a := 1) (b := 30) (by omega) _).mono ?_
   rintro e u ⟨rfl, rfl⟩
   go_wp2_with fail
   refine (refIn_t (n := t) (a := 1) (b := 30) (by omega) _).mono ?_
   rintro e u ⟨rfl, rfl⟩
   go_wp2_with fail
   refine (refIn_t (n := o) (a := 1) (b := 52) (by omega) _).mono ?_
   rintro e u ⟨rfl, rfl⟩
   go_wp2_with fail
   refine (I.out _).mono ?_
   rintro e u ⟨rfl, rfl⟩
   go_wp2_with fail
   go_ret
   exact ⟨ret_int hz.out.symm, HB.out⟩
end Go.Proofs.YtefkfglkpebbmadGreat
