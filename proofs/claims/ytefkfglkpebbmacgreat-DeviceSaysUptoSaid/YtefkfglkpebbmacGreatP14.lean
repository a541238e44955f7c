/- Walks of functions, and plain words. No conditions. -/
import Derived.Test.YtefkfglkpebbmacGreatP11
set_option linter.unusedVariables false
set_option linter.unusedSimpArgs false
set_option maxRecDepth 100000
set_option maxHeartbeats 40000000
namespace Go.Proofs.YtefkfglkpebbmacGreat
open Go.RowKit
variable {g n c : Nat} {d : Dev} {w : World}
theorem sl_mid {z1 z2 : Int} (i m : Nat) (h1 : z1 = (i : Int)) (h2 : z2 = (i : Int) + (m : Int)) (hn : n <= c) (hm : i + m <= n) (hi : i < c) (W : World) :
  (Instr.slice 22 (.slice (some ⟨g, 0, none⟩) n c) (some (.int .i64 z1)) (some (.int .i64 z2)) none).run Tryz.prog W = .ok (.slice (some ⟨g, i, none⟩) m (c - i)) W := by
 subst h1 h2
 have q1 : (i : Int) + (m : Int) <= (c : Int) := by omega
 have q2 : (i : Int) <= (i : Int) + (m : Int) := by omega
 have q3 : i + m - i = m := by omega
 have q4 : ¬ c = i := by omega
 go_simp
 try omega
theorem sl_from {z1 : Int} (i : Nat) (h1 : z1 = (i : Int)) (hn : n <= c) (hi : i <= n) (hc : i < c) (W : World) :
  (Instr.slice 22 (.slice (some ⟨g, 0, none⟩) n c) (some (.int .i64 z1)) none none).run Tryz.prog W = .ok (.slice (some ⟨g, i, none⟩) (n - i) (c - i)) W := by
 subst h1
 have q1 : (i : Int) <= (n : Int) := by omega
 have q2 : (n : Int) <= (c : Int) := by omega
 have q4 : ¬ c = i := by omega
 go_simp
 try omega
theorem devA_len0 {L : DLoc} {nb : List UInt8} (h : nb.length = d.s0.length) : devA { d with s0 := nb } L = devA d L := by simp [devA, h]
theorem devA_len1 {L : DLoc} {nb : List UInt8} (h : nb.length = d.s1.length) : devA { d with s1 := nb } L = devA d L := by simp [devA, h]
theorem put_takeN {α : Type} (L cs : List α) (dn m n : Nat) (hc : cs.length = m) (h : dn + m <= n) (hL : n <= L.length) : (L.take dn ++ cs ++ L.drop (dn + m)).take n = (L.take n).take dn ++ cs ++ (L.take n).drop (dn + m) := by
 have e1 : (L.take n).take dn = L.take dn := by rw [List.take_take]; congr 1; omega
 have e2 : (L.take n).drop (dn + m) = (L.drop (dn + m)).take (n - (dn + m)) := by rw [List.drop_take]
 have hl : (L.take dn ++ cs).length = dn + m := by simp; omega
 rw [e1, e2, List.take_append, hl, List.take_of_length_le (by omega)]
section
variable {w w5 : World} {base m1 m2 gs : Nat} {d : Dev} {L : DLoc} {cur new : Array Value} {nb : List UInt8} {dd : Int}
theorem own_new {base : Nat} {A : Option Addr} {xs ys : List Value} {cur new : Array Value} (h : Own w base 5 1 A n c xs) (hA : A = some ⟨g, 0, none⟩) (hcur : w.heap[g]? = some (.cells cur 5 (0, 0))) (hn : new.size = cur.size) (ht : new.toList.take n = ys) (hl : ys.length = n) {w' : World}
  (hw : w'.heap[g]? = some (.cells new 5 (0, 0))) : Own w' base 5 1 A n c ys := by
 subst hA
 obtain ⟨h1, h2⟩ := h
 rcases h2 with ⟨h2, _⟩ | ⟨g', cap, cur', e, h3, h4, h5, h6, h7, h8⟩
 ·cases h2
 injection e with e1 e2 e3
 injection e1 with e1
 injection e1 with e1
 subst e1 e3
 have e4 : cur = cur' := by rw [hcur] at h4; injection h4 with h4; injection h4
 subst e4
 exact ⟨by omega, Or.inr ⟨g, c, new, rfl, h3, hw, h5, h6, by omega, by rw [Nat.mul_one]; exact ht⟩⟩
theorem DevOwn.put1 (h : DevOwn w base m1 m2 d L) (hb : Below w.heap.size w w5) (hA : L.a1 = some ⟨gs, 0, none⟩) (hcur : w.heap[gs]? = some (.cells cur 5 (0, 0))) (hl : nb.length = d.s1.length) (hn : new.size = cur.size) (ht : new.toList.take d.s1.length = nb.map bv) (hi : I64 dd) :
  DevOwn (w5.setRow gs new) base m1 m2 { d with s1 := nb, done := dd } L := by
 have hgb := h.o1.block gs (by rw [hA]; rfl)
 have hg2 := h.b1 gs (by rw [hA]; rfl)
 have h5 : w5.heap[gs]? = some (.cells cur 5 (0, 0)) := (hb.block gs hgb.2).trans hcur
 refine ⟨h.h1, h.h2, ?_, h.b0, ?_, h.b1, ?_, ?_, h.l0, by show nb.length <= _; rw [hl]; exact h.l1, h.kg, h.lg, h.ir, hi⟩
 ·refine h.o0.same (fun k e => (setRow_other _ _ _ _ ?_).trans (hb.block k (h.o0.block k e).2))
  have := h.b0 k e; omega
 ·show Own _ m1 _ 1 L.a1 nb.length L.c1 (nb.map bv)
  rw [hl]
  exact own_new h.o1 hA hcur hn ht (by simp [hl]) (setRow_heap w5 gs _ new _ _ h5)
 ·exact (h.got.below hb (Nat.le_refl _)).row hg2 new
 exact (h.job.below hb (Nat.le_refl _)).row hg2 new
theorem DevOwn.put0 (h : DevOwn w base m1 m2 d L) (hb : Below w.heap.size w w5) (hA : L.a0 = some ⟨gs, 0, none⟩) (hcur : w.heap[gs]? = some (.cells cur 5 (0, 0))) (hl : nb.length = d.s0.length) (hn : new.size = cur.size) (ht : new.toList.take d.s0.length = nb.map bv) (hi : I64 dd) :
  DevOwn (w5.setRow gs new) base m1 m2 { d with s0 := nb, done := dd } L := by
 have hgb := h.o0.block gs (by rw [hA]; rfl)
 have hg2 := h.b0 gs (by rw [hA]; rfl)
 have hm := h.h2
 have h5 : w5.heap[gs]? = some (.cells cur 5 (0, 0)) := (hb.block gs hgb.2).trans hcur
 refine ⟨h.h1, h.h2, ?_, h.b0, ?_, h.b1, ?_, ?_, by show nb.length <= _; rw [hl]; exact h.l0, h.l1, h.kg, h.lg, h.ir, hi⟩
 ·show Own _ base _ 1 L.a0 nb.length L.c0 (nb.map bv)
  rw [hl]
  exact own_new h.o0 hA hcur hn ht (by simp [hl]) (setRow_heap w5 gs _ new _ _ h5)
 ·refine h.o1.same (fun k e => (setRow_other _ _ _ _ ?_).trans (hb.block k (h.o1.block k e).2))
  have := (h.o1.block k e).1; omega
 ·exact (h.got.below hb (Nat.le_refl _)).row (by omega) new
 exact (h.job.below hb (Nat.le_refl _)).row (by omega) new
end
theorem own_cells0 {base e : Nat} {A : Option Addr} {xs : List Value} (h : Own w base e 1 A n c xs) (hn : 0 < n) : ∃ g cur, A = some ⟨g, 0, none⟩ ∧ base <= g ∧ w.heap[g]? = some (.cells cur e (0, 0)) ∧ n <= c ∧ cur.size = c ∧ cur.toList.take n = xs := by
 obtain ⟨h1, ⟨_, h2⟩ | ⟨g, cap, cur, e1, h3, h4, h5, h6, h7, h8⟩⟩ := h
 ·omega
 injection e1 with e1 e2 e3
 subst e1 e3
 exact ⟨g, cur, rfl, h3, h4, h5, by omega, by rw [Nat.mul_one] at h8; exact h8⟩
def wrJ (w0 : World) (rb : List UInt8) (dn gs : Nat) (new : Array Value) : Nat -> (Nat -> Value) -> World -> Prop
 | 0, _, w => w = w0.drew
 | 1, cv, w => ∃ A c, cv 14 = .slice A rb.length c ∧ Own w w0.heap.size 5 1 A rb.length c (rb.map bv) ∧ Below w0.heap.size w0 w
 | 2, cv, w => ∃ g3 c3, cv 17 = .slice (some ⟨g3, dn, none⟩) (rb.length - dn) c3 ∧ Bts w (some ⟨g3, 0, none⟩) rb ∧ w0.heap.size <= g3 ∧ Below w0.heap.size w0 w
 | _, _, w => ∃ w5, Below w0.heap.size w0 w5 ∧ w = w5.setRow gs new
theorem wrJ_row {w0 : World} {rb : List UInt8} {dn gs k q : Nat} {new cs curs : Array Value} {cv : Nat -> Value} (hJ : wrJ w0 rb dn gs new k cv w) (hq : q ≠ gs) (hr : rowOf w0 q = cs) (hf : frOf w0 q = (0, 0)) (h0 : 0 < cs.size) (hgs : 0 < (rowOf w0 gs).size) : rowOf w q = cs ∧ frOf w q = (0, 0) := by
 have hlt := row_lt (w := w0) (g := q) (by rw [hr]; exact h0)
 have hls := row_lt hgs
 have key : Below w0.heap.size w0 w -> rowOf w q = cs ∧ frOf w q = (0, 0) := fun hb => ⟨(rowOf_below hlt hb).trans hr, (frOf_below hlt hb).trans hf⟩
 match k, hJ with
 | 0, hJ => obtain rfl : w = w0.drew := hJ; exact key (Below.refl _ _).drew
 | 1, ⟨_, _, _, _, h⟩ => exact key h
 | 2, ⟨_, _, _, _, _, h⟩ => exact key h
 | n + 3, ⟨w5, h, e⟩ =>
  subst e
  rw [rowOf_setRow _ _ _ _ (by rw [rowOf_below hls h]; exact hgs), if_neg hq, frOf_setRow]
  exact ⟨(rowOf_below hlt h).trans hr, (frOf_below hlt h).trans hf⟩
theorem wrote0 (h : d.rec_.active = 0) (torn : Bool) (keep : Int) : d.wrote torn keep = { d with s1 := d.put d.next (keepN torn keep).toNat, done := d.done + keepN torn keep } := by
 unfold Dev.wrote Dev.setSlot
 rw [h, if_neg (by omega)]
theorem wrote1 (h : d.rec_.active = 1) (torn : Bool) (keep : Int) : d.wrote torn keep = { d with s0 := d.put d.next (keepN torn keep).toNat, done := d.done + keepN torn keep } := by
 unfold Dev.wrote Dev.setSlot
 rw [h, if_pos (by omega)]
theorem devWrite_bad (d : Dev) (L : DLoc) (torn : Bool) (keep : Int) (w : World) (h : DevIn w d L)  (hne : devReady d ≠ 0) : Calls Tryz.prog 14 #[.agg (devA d L), .bool torn, iv keep] w (DvRet w Dev.zero (devReady d)) := by
 have hba : Below w.heap.size w ((w.alloc (.cells (devA d L) 37)).alloc (.cells (devA Dev.zero DLoc.zero) 37)) := bA (bA (Below.refl _ _) _) _
 have HBA := hD hba
 have HIN := hD h
 have KB := hD (fun w h => ready_bad d L w h hne)
 have q : (devReady d != 0) = true := by simp [hne]
 generalize devReady d = n at *
 clear hne h hba
 go_enter Tryz.func14, Tryz.ntmps14
 go_wp2_with fail
 refine (KB.out _ (HIN.out.stays HBA.out)).mono ?_
 rintro e w1 ⟨rfl, hb1⟩
 obtain ⟨a0r, a0f, a0n, a0c, a0z, a0l⟩ := kp (w.heap.size) (devA d L) hb1
 obtain ⟨a1r, a1f, a1n, a1c, a1z, a1l⟩ := kp (w.heap.size + 1) (devA Dev.zero DLoc.zero) hb1
 have HB1 := hD (HBA.out.trans (hb1.mono (by simp <;> omega)))
 clear hb1
 go_wp2_with fail
 refine bodyPost_ret (rC (devA Dev.zero DLoc.zero)) rfl ⟨DLoc.zero, rfl, .const fun v => DevIn.zero v, ?_⟩
 have hs := HB1.out.size
 exact x0
theorem devWrite_ok (d : Dev) (L : DLoc) (torn : Bool) (keep : Int) (w : World) (h : DevIn w d L)  (hz : devReady d = 0) : Calls Tryz.prog 14 #[.agg (devA d L), .bool torn, iv keep] w (DvRet w (devWrite d torn keep).1 (devWrite d torn keep).2) := by
 have hba : Below w.heap.size w ((w.alloc (.cells (devA d L) 37)).alloc (.cells (devA Dev.zero DLoc.zero) 37)) := bA (bA (Below.refl _ _) _) _
 have HBA := hD hba
 have HIN := hD h
 have KR := hD (fun w h => ready_ok d L w h hz)
 have hdef : devWrite d torn keep = if d.busy = false ∨ d.job.size <= d.done then (Dev.zero, 5)
   else if (patDo (sumOn 1) d.job (d.image d.rec_.active d.rec_)).2 ≠ 0 then (Dev.zero, (patDo (sumOn 1) d.job (d.image d.rec_.active d.rec_)).2)
   else (if torn = true then (d.wrote torn keep).down else d.wrote torn keep, 0) := by unfold devWrite; rw [if_neg (by omega)]; rfl
 obtain ⟨hok, hup⟩ := devReady_ok.1 hz
 have hrec := rec_ok hok
 have hact := rec_active hrec
 have HOK := hD hok
 have HREC := hD hrec
 have HUP := hD hup
 have HD := hD hdef
 generalize devWrite d torn keep = res at *
 clear hz h hba hdef hok hrec hup
 go_enter Tryz.func14, Tryz.ntmps14
 go_wp2_with fail
 refine (KR.out _ (HIN.out.stays HBA.out)).mono ?_
 rintro e w1 ⟨L1, rfl, hfr, hb1⟩
 obtain ⟨a0r, a0f, a0n, a0c, a0z, a0l⟩ := kp (w.heap.size) (devA d L) hb1
 obtain ⟨a1r, a1f, a1n, a1c, a1z, a1l⟩ := kp (w.heap.size + 1) (devA Dev.zero DLoc.zero) hb1
 have HFR : Hid (Fresh (w.heap.size + 2) w1 (fun v => DvOwn v (w.heap.size + 2) d L1)) := hD (by simpa [Nat.add_assoc] using hfr)
 have HB1 := hD (HBA.out.trans (hb1.mono (by simp <;> omega)))
 have hsz1 : w.heap.size + 2 <= w1.heap.size := by have := hb1.size; simp at this; omega
 have HK1 : Hid (Kp (w.heap.size + 2) w1 w1) := hD (Kp.refl _ _)
 clear hb1 hfr
 cases hbz : d.busy
 ·have hz : res = (Dev.zero, 5) := HD.out.trans (if_pos (.inl hbz))
  subst hz
  go_wp2_with fail
  refine bodyPost_ret (rC (devA Dev.zero DLoc.zero)) rfl ⟨DLoc.zero, rfl, .const fun v => DevIn.zero v, ?_⟩
  have hs := HB1.out.size
  exact x0
 by_cases c1 : d.job.size <= d.done
 ·have hz : res = (Dev.zero, 5) := HD.out.trans (if_pos (.inr c1))
  subst hz
  go_wp2_with fail
  refine bodyPost_ret (rC (devA Dev.zero DLoc.zero)) rfl ⟨DLoc.zero, rfl, .const fun v => DevIn.zero v, ?_⟩
  have hs := HB1.out.size
  exact x0
 have HBK : Hid (BusyOk d d.rec_) := hD (HOK.out.work HUP.out hbz)
 have HD2 : Hid (res = (if torn = true then (d.wrote torn keep).down else d.wrote torn keep, 0)) := hD (HD.out.trans (by rw [if_neg (by rw [hbz]; simpa using c1), if_neg (by rw [HBK.out.does]; decide)]))
 clear HD
 rcases hact with hk | hk
 first | case' inl => have T2 : Hid True := hD trivial | case' pos => have T2 : Hid True := hD trivial | case' refine_1 => have T2 : Hid True := hD trivial
 iterate 2
  ·first
    |
     revert T2; intro T2
     obtain ⟨img, himg⟩ : ∃ img, d.image 0 d.rec_ = img := ⟨_, rfl⟩
    | obtain ⟨img, himg⟩ : ∃ img, d.image 1 d.rec_ = img := ⟨_, rfl⟩
   obtain ⟨b, hb⟩ : ∃ b, d.next = b := ⟨_, rfl⟩
   have hpd : patDo (sumOn 1) d.job img = (b, 0) := by
    rw [← himg, ← hb]
    have h1 := HBK.out.does
    unfold Dev.next
    rw [hk] at h1 ⊢
    exact Prod.ext rfl h1
   have hbl := busy_len HBK.out
   have hbe : (patDo (sumOn 1) d.job (d.image d.rec_.active d.rec_)).1 = b := hb
   rw [hbe] at hbl
   have HBL : Hid ((b.length : Int) = d.job.size ∧ d.job.size <= 64) := hD hbl
   first
    |
     revert T2; intro T2
     have hsz := (recCheck_parts HREC.out).2.1
    | have hsz := (recCheck_parts HREC.out).2.2.1
   first
    |
     revert T2; intro T2
     have HSZ : Hid (0 <= d.rec_.a.size ∧ d.rec_.a.size <= 64) := hD (by
      unfold infCheck at hsz
      by_cases hh : InfRange d.rec_.a
      ·unfold InfRange at hh; omega
      rw [if_neg hh] at hsz; exact absurd hsz (by decide))
    |
     have HSZ : Hid (0 <= d.rec_.b.size ∧ d.rec_.b.size <= 64) := hD (by
      unfold infCheck at hsz
      by_cases hh : InfRange d.rec_.b
      ·unfold InfRange at hh; omega
      rw [if_neg hh] at hsz; exact absurd hsz (by decide))
   first
    |
     revert T2; intro T2
     have KI0 : Hid (∀ wq, DevIn wq d L1 -> Calls Tryz.prog 38 #[.agg (devA d L1), iv 0, .agg (recA d.rec_)] wq (ImRet wq img)) := hD (fun wq h => by
      rw [← himg]
      exact image_calls d L1 0 d.rec_ wq (.inl rfl) h (slot_len HOK.out.l0 HOK.out.l1 _) HSZ.out.1 HSZ.out.2)
    |
     have KI0 : Hid (∀ wq, DevIn wq d L1 -> Calls Tryz.prog 38 #[.agg (devA d L1), iv 1, .agg (recA d.rec_)] wq (ImRet wq img)) := hD (fun wq h => by
      rw [← himg]
      exact image_calls d L1 1 d.rec_ wq (.inr rfl) h (slot_len HOK.out.l0 HOK.out.l1 _) HSZ.out.1 HSZ.out.2)
   have HPD := hD hpd
   first
    |
     revert T2; intro T2
     have HIL : Hid (img.length <= 64) := hD (by
      rw [← himg]; unfold Dev.image; rw [List.length_take]
      have h9 : (d.rec_.at_ 0).size.toNat <= 64 := by rw [at_0]; have := HSZ.out; omega
      omega)
    |
     have HIL : Hid (img.length <= 64) := hD (by
      rw [← himg]; unfold Dev.image; rw [List.length_take]
      have h9 : (d.rec_.at_ 1).size.toNat <= 64 := by rw [at_1]; have := HSZ.out; omega
      omega)
   have HNX := hD hb
   have HKK := hD hk
   clear himg hb hpd hbl hbe hsz
   go_wp2_with fail
   obtain ⟨w3, hw3⟩ : ∃ w3, (w1.setRow w.heap.size (devA d L1)).alloc (.cells (recA d.rec_) 28) = w3 := ⟨_, rfl⟩
   have hp0 : 0 < (rowOf w1 w.heap.size).size := by rw [a0r]; simp [devA]
   have q1 : rowOf w3 w.heap.size = devA d L1 := by rw [← hw3, rowOf_alloc, if_neg (by simp [World.setRow]; omega), rowOf_setRow _ _ _ _ hp0, if_pos rfl]
   have q2 : frOf w3 w.heap.size = (0, 0) := by rw [← hw3, frOf_alloc, if_neg (by simp [World.setRow]; omega), frOf_setRow]; exact a0f
   have q3 : rowOf w3 (w.heap.size + 1) = devA Dev.zero DLoc.zero := by rw [← hw3, rowOf_alloc, if_neg (by simp [World.setRow]; omega), rowOf_setRow _ _ _ _ hp0, if_neg (by omega)]; exact a1r
   have q4 : frOf w3 (w.heap.size + 1) = (0, 0) := by rw [← hw3, frOf_alloc, if_neg (by simp [World.setRow]; omega), frOf_setRow]; exact a1f
   have q5 : rowOf w3 w1.heap.size = recA d.rec_ := by rw [← hw3, rowOf_alloc, if_pos (by simp [World.setRow])]
   have q6 : frOf w3 w1.heap.size = (0, 0) := by rw [← hw3, frOf_alloc, if_pos (by simp [World.setRow])]
   have hsz3 : w3.heap.size = w1.heap.size + 1 := by rw [← hw3]; simp [World.setRow]
   have HB3 : Hid (Below w.heap.size w w3) := hD (by rw [← hw3]; exact (below_row HB1.out (Nat.le_refl _) _).alloc (by simp [World.setRow]; omega) _)
   have HK3 : Hid (Kp (w.heap.size + 2) w1 w3) := hD (by rw [← hw3]; exact (HK1.out.row (.inl (by omega)) _).alloc (by simp [World.setRow]) _)
   rw [hw3]
   have RD := hD q1
   have FD := hD q2
   have RZ := hD q3
   have FZ := hD q4
   have RR := hD q5
   have FR := hD q6
   have HI3 : Hid (DevIn w3 d L1) := hD (Fresh.kp HFR.out HK3.out (Nat.le_refl _) (by omega)).now.devIn
   first
    |
     revert T2; intro T2
     have KI : Hid (∀ wq, Below w3.heap.size w3 wq -> Calls Tryz.prog 38 #[.agg (devA d L1), iv 0, .agg (recA d.rec_)] wq (ImRet wq img)) := hD (fun wq h => KI0.out wq (HI3.out.stays h))
    | have KI : Hid (∀ wq, Below w3.heap.size w3 wq -> Calls Tryz.prog 38 #[.agg (devA d L1), iv 1, .agg (recA d.rec_)] wq (ImRet wq img)) := hD (fun wq h => KI0.out wq (HI3.out.stays h))
   have KD : Hid (∀ wq A c, Below w3.heap.size w3 wq -> img.length <= c -> Bts wq A img -> Calls Tryz.prog 37 #[.agg (patA d.job.from_ d.job.to_ d.job.old d.job.new_ d.job.size L1.aj d.job.ops.length L1.cj), .slice A img.length c] wq (ByRet2 wq b 0)) := hD (fun wq A c h hc hb => by
    have hq := patDo_calls L1.aj A L1.cj c d.job img wq hc (by have := HIL.out; omega) hb (HI3.out.job.stays h)
    rw [HPD.out] at hq
    exact hq)
   clear hw3 hp0 q1 q2 q3 q4 q5 q6 a0r a0f a0n a0c a0z a0l a1r a1f a1n a1c a1z a1l
   first
    |
     revert T2; intro T2
     refine wp_region_free (by kernel_rfl) (some 35 :: some 36 :: some 37 :: some 38 :: some 39 :: some 40 :: some 41 :: some 42 :: some 34 :: some 43 :: some 44 :: some 10 :: some 9 :: []) (false :: false :: false :: false :: false :: false :: true :: true :: true :: true :: true :: true :: true :: []) (.pointer (some ⟨w.heap.size, 30, none⟩) :: .agg (patA d.job.from_ d.job.to_ d.job.old d.job.new_ d.job.size L1.aj d.job.ops.length L1.cj) :: .agg (devA d L1) :: .pointer (some ⟨w1.heap.size, 1, none⟩) :: iv 0 :: .agg (recA d.rec_) :: undef :: undef :: undef :: undef :: undef :: undef :: undef :: []) (imJ w3 6 7 8 9 10 11 12 img b 0) 82 rfl rfl (by decide +kernel) (by decide +kernel) (by decide +kernel) rfl rfl (rfl) ?_ ?_
    | refine wp_region_free (by kernel_rfl) (some 35 :: some 36 :: some 37 :: some 38 :: some 39 :: some 40 :: some 41 :: some 42 :: some 34 :: some 43 :: some 44 :: some 10 :: some 9 :: []) (false :: false :: false :: false :: false :: false :: true :: true :: true :: true :: true :: true :: true :: []) (.pointer (some ⟨w.heap.size, 30, none⟩) :: .agg (patA d.job.from_ d.job.to_ d.job.old d.job.new_ d.job.size L1.aj d.job.ops.length L1.cj) :: .agg (devA d L1) :: .pointer (some ⟨w1.heap.size, 1, none⟩) :: iv 1 :: .agg (recA d.rec_) :: undef :: undef :: undef :: undef :: undef :: undef :: undef :: []) (imJ w3 6 7 8 9 10 11 12 img b 0) 82 rfl rfl (by decide +kernel) (by decide +kernel) (by decide +kernel) rfl rfl (rfl) ?_ ?_
   ·refine ⟨?_, ?_, ?_, ?_, ?_, ?_, ?_, ?_, ?_, ?_, ?_, ?_, ?_, trivial⟩
    all_goals intro done cv a wq hn hw hcl h hJ
    ·have e3 := fO 3 (.pointer (some ⟨w.heap.size, 0, none⟩)) h
     go_simp
    ·have e35 := fN 0 35 h hw
     obtain ⟨r_, f_, n_, c_, z_, l_⟩ := kq (imJ_bel hJ) RD FD
     go_simp
    ·have e3 := fO 3 (.pointer (some ⟨w.heap.size, 0, none⟩)) h
     obtain ⟨r_, f_, n_, c_, z_, l_⟩ := kq (imJ_bel hJ) RD FD
     go_simp
    ·have e8 := fO 8 (.pointer (some ⟨w1.heap.size, 0, none⟩)) h
     go_simp
    ·have e38 := fN 3 38 h hw
     obtain ⟨r_, f_, n_, c_, z_, l_⟩ := kq (imJ_bel hJ) RR FR
     have hk_ := HKK.out
     go_simp
    ·have e8 := fO 8 (.pointer (some ⟨w1.heap.size, 0, none⟩)) h
     obtain ⟨r_, f_, n_, c_, z_, l_⟩ := kq (imJ_bel hJ) RR FR
     go_simp
    ·have e37 := fN 2 37 h hw; have e39 := fN 4 39 h hw; have e40 := fN 5 40 h hw
     have n6 := hn
     have n7 := nW 7 6 hcl n6
     obtain rfl : wq = w3.drew := imJ_0 (by simp [maskB, n6]) (by simp [maskB, n7]) hJ
     first
      |
       revert T2; intro T2
       refine wp_call (vals := #[.agg (devA d L1), iv 0, .agg (recA d.rec_)]) (by rw [List.map_toArray, List.map_cons, List.map_cons, List.map_cons, List.map_nil, ch_ev e37, ch_ev e39, ch_ev e40]) (enters_of Tryz.func38 (by kernel_rfl) rfl _ _) (KI.out _ ((Below.refl _ _).drew)) ?_
      | refine wp_call (vals := #[.agg (devA d L1), iv 1, .agg (recA d.rec_)]) (by rw [List.map_toArray, List.map_cons, List.map_cons, List.map_cons, List.map_nil, ch_ev e37, ch_ev e39, ch_ev e40]) (enters_of Tryz.func38 (by kernel_rfl) rfl _ _) (KI.out _ ((Below.refl _ _).drew)) ?_
     rintro e w' ⟨A1, c1, rfl, h3, h4, h5⟩
     exact ⟨_, rfl, _, rfl, imJ_i (by decide) (by simp [maskB, n7]) h3 h4 ((Below.refl _ _).drew.trans h5)⟩
    ·have e36 := fN 1 36 h hw; have e41 := fr_cv (i := 6) (t := 41) h (hw 6 (by decide)) rfl rfl
     have n7 := hn
     have m6 := hw 6 (by decide)
     have n8 := nW 8 7 hcl n7
     have n9 := nW 9 8 hcl n8
     have n10 := nW 10 8 hcl n8
     have n11 := nW 11 7 hcl n7
     have n12 := nW 12 7 hcl n7
     obtain ⟨A1, c1, y1, h3, h4, h5⟩ := imJ_1 (by simp [maskB, m6]) (by simp [maskB, n7]) hJ
     rw [y1] at e41
     refine wp_call (vals := #[.agg (patA d.job.from_ d.job.to_ d.job.old d.job.new_ d.job.size L1.aj d.job.ops.length L1.cj), .slice A1 (img).length c1]) (by rw [List.map_toArray, List.map_cons, List.map_cons, List.map_nil, ch_ev e36, ch_ev e41]) (enters_of Tryz.func37 (by kernel_rfl) rfl _ _) (KD.out _ _ _ h5 h3 h4) ?_
     rintro e w' ⟨A2, c2, rfl, g1, g2, g3⟩
     exact ⟨_, rfl, _, rfl, imJ_d (by simp [maskB, n8]) (by simp [maskB, n9]) (by simp [maskB, n10]) (by simp [maskB, n11]) (by simp [maskB, n12]) (by decide) (by decide) (by decide) (by decide) (by decide) g1 g2 (h5.trans (g3.mono h5.size))⟩
    ·have e42 := fr_cv (i := 7) (t := 42) h (hw 7 (by decide)) rfl rfl
     have m7 := hw 7 (by decide)
     refine wp_val (v := cv 7) (mx_move (ch_ev e42)) ⟨_, rfl, imJ_k (by simp [maskB, m7]) (by decide) hJ (fun A2 c2 _ _ _ q => ⟨fun _ => q, fun h => absurd h (by decide), fun h => absurd h (by decide), fun h => absurd h (by decide), fun h => absurd h (by decide)⟩)⟩
    ·have e34 := fr_cv (i := 8) (t := 34) h (hw 8 (by decide)) rfl rfl
     have m8 := hw 8 (by decide)
     have m7 := hcl 8 _ rfl m8 7 (by decide)
     obtain ⟨A2, c2, y1, _, _, _, g5, _⟩ := imJ_2 (by simp [maskB, m7]) hJ
     have y := g5 (by simp [maskB, m8])
     rw [y] at e34
     refine wp_val (v := .slice A2 (b).length c2) (by go_simp) ⟨_, rfl, imJ_k (by simp [maskB, m7]) (by decide) hJ (fun A3 c3 h8 _ _ _ => ⟨fun h => absurd h (by decide), fun _ => by have q := h8 (by simp [maskB, m8]); rw [y] at q; simp at q ⊢; exact q, fun h => absurd h (by decide), fun h => absurd h (by decide), fun h => absurd h (by decide)⟩)⟩
    ·have e34 := fr_cv (i := 8) (t := 34) h (hw 8 (by decide)) rfl rfl
     have m8 := hw 8 (by decide)
     have m7 := hcl 8 _ rfl m8 7 (by decide)
     obtain ⟨A2, c2, y1, _, _, _, g5, _⟩ := imJ_2 (by simp [maskB, m7]) hJ
     have y := g5 (by simp [maskB, m8])
     rw [y] at e34
     refine wp_val (v := iv 0) (by go_simp) ⟨_, rfl, imJ_k (by simp [maskB, m7]) (by decide) hJ (fun A3 c3 h8 _ _ _ => ⟨fun h => absurd h (by decide), fun h => absurd h (by decide), fun _ => rfl, fun h => absurd h (by decide), fun h => absurd h (by decide)⟩)⟩
    ·have e43 := fr_cv (i := 9) (t := 43) h (hw 9 (by decide)) rfl rfl
     have m7 := hw 7 (by decide)
     have m9 := hw 9 (by decide)
     obtain ⟨A2, c2, y1, _, _, _, _, g6, _⟩ := imJ_2 (by simp [maskB, m7]) hJ
     have y := g6 (by simp [maskB, m9])
     rw [y] at e43
     refine wp_asg (v := .slice A2 (b).length c2) (ch_ev e43) ⟨_, rfl, imJ_k (by simp [maskB, m7]) (by decide) hJ (fun A3 c3 _ h9 _ _ => ⟨fun h => absurd h (by decide), fun h => absurd h (by decide), fun h => absurd h (by decide), fun _ => by have q := h9 (by simp [maskB, m9]); rw [y] at q; exact q, fun h => absurd h (by decide)⟩)⟩
    ·have e44 := fr_cv (i := 10) (t := 44) h (hw 10 (by decide)) rfl rfl
     have m7 := hw 7 (by decide)
     have m10 := hw 10 (by decide)
     obtain ⟨A2, c2, y1, _, _, _, _, _, g7, _⟩ := imJ_2 (by simp [maskB, m7]) hJ
     have y := g7 (by simp [maskB, m10])
     rw [y] at e44
     refine wp_asg (v := iv 0) (ch_ev e44) ⟨_, rfl, imJ_k (by simp [maskB, m7]) (by decide) hJ (fun A3 c3 _ _ _ _ => ⟨fun h => absurd h (by decide), fun h => absurd h (by decide), fun h => absurd h (by decide), fun h => absurd h (by decide), fun _ => rfl⟩)⟩
   intro dnn cv w4 hall hJ
   obtain ⟨A2, c2, y7, g1, g2, g3, g5, g6, g7, g8, g9⟩ := imJ_2 (hall 7 rfl (by decide)) hJ
   replace g5 := g5 (hall 8 rfl (by decide))
   replace g6 := g6 (hall 9 rfl (by decide))
   replace g7 := g7 (hall 10 rfl (by decide))
   replace g8 := g8 (hall 11 rfl (by decide))
   replace g9 := g9 (hall 12 rfl (by decide))
   simp only [freeAll, putAll_some, putAll_none, putAll_nil, List.getD_cons_zero, List.getD_cons_succ, Bool.false_eq_true, if_true, if_false, reduceIte, Nat.zero_add, Nat.reduceAdd, List.setIfInBounds_toArray, List.set_cons_zero, List.set_cons_succ]
   rw [y7, g5, g6, g7, g8, g9]
   obtain ⟨b0r, b0f, b0n, b0c, b0z, b0l⟩ := keep1 g3 RD.out (by go_simp) FD.out
   obtain ⟨b1r, b1f, b1n, b1c, b1z, b1l⟩ := keep1 g3 RZ.out (by go_simp) FZ.out
   obtain ⟨b2r, b2f, b2n, b2c, b2z, b2l⟩ := keep1 g3 RR.out (by go_simp) FR.out
   have hs4 := g3.size
   have HB4 : Hid (Below w.heap.size w w4) := hD (HB3.out.trans (g3.mono HB3.out.size))
   have HK4 : Hid (Kp (w.heap.size + 2) w1 w4) := hD (HK3.out.below (by omega) g3)
   have HBB := hD g1
   have HC2 := hD g2
   clear hJ hall y7 g5 g6 g7 g8 g9 g1 g2 g3 KI KD RD FD RZ FZ RR FR KI0 HI3
   have hdj := HBK.out
   have hd0 := hdj.d0
   have hd1 := hdj.d1
   have hd8 := hdj.d8
   have hbl := HBL.out
   obtain ⟨dn, hdn⟩ : ∃ dn : Nat, d.done = (dn : Int) := ⟨d.done.toNat, by omega⟩
   have hdn56 : dn <= 56 := by omega
   have HDN := hD hdn
   obtain ⟨rb, hrb⟩ : ∃ rb, room b = rb := ⟨_, rfl⟩
   have hb64 : b.length <= 64 := by omega
   have HRL : Hid (rb.length = 64) := hD (by rw [← hrb]; exact room_len hb64)
   have HB64 := hD hb64
   have HRB := hD hrb
   have hown4 := (Fresh.kp HFR.out HK4.out (Nat.le_refl _) (by omega)).now
   obtain ⟨m1, m2, hdo⟩ := hown4
   first
    |
     revert T2; intro T2
     obtain ⟨gs, cur, hA, hgs, hcur, hcc, hcsz, hct⟩ := own_cells0 hdo.o1 (by rw [HOK.out.l1]; decide)
    | obtain ⟨gs, cur, hA, hgs, hcur, hcc, hcsz, hct⟩ := own_cells0 hdo.o0 (by rw [HOK.out.l0]; decide)
   have hm1 := hdo.h1
   first
    |
     revert T2; intro T2
     have hgs2 := (hdo.o1.block gs (by rw [hA]; rfl)).2
    | have hgs2 := (hdo.o0.block gs (by rw [hA]; rfl)).2
   first
    |
     revert T2; intro T2
     rw [HOK.out.l1] at hcc hct
    | rw [HOK.out.l0] at hcc hct
   have hbase : w.heap.size + 2 <= gs := by omega
   have hgsw : gs < w1.heap.size := by
    have hdw := HFR.out.now
    obtain ⟨m1', m2', hdo'⟩ := hdw
    first
     |
      revert T2; intro T2
      exact (hdo'.o1.block gs (by rw [hA]; rfl)).2
     | exact (hdo'.o0.block gs (by rw [hA]; rfl)).2
   have HDO := hD hdo
   have HA := hD hA
   have HCUR := hD hcur
   have HCT := hD hct
   have HCSZ := hD hcsz
   clear hdj hdn hrb hb64 hbl hd0 hd1 hd8 hdo hA hcur hct hcsz hm1 hs4 hbz
   cases torn
   case false =>
    obtain ⟨m, hm⟩ : ∃ m : Nat, keepN false keep = (m : Int) := ⟨(keepN false keep).toNat, by have := keepN_bd false keep; omega⟩
    have hm8 : m <= 8 := by have := keepN_bd false keep; omega
    have HM := hD hm
    have hmm : (8 : Int) = (m : Int) := by rw [← hm]; simp [keepN]
    have h1x := trivial
    have h2x := trivial
    have HM8 := hD hmm
    skip
    clear hm hmm
    go_wp2_with fail
    rw [show Value.int .i64 8 = iv (m : Int) from congrArg _ HM8.out]
    clear h1x h2x
    have RD := hD b0r
    have FD := hD b0f
    have RR := hD b2r
    have FR := hD b2f
    have HN1 : Hid (w.heap.size ≠ gs) := hD (by omega)
    have HN2 : Hid (w1.heap.size ≠ gs) := hD (by omega)
    have HG1 : Hid (gs < w4.heap.size) := hD hgs2
    have HG0 : Hid (0 < (rowOf w4 gs).size) := hD (by rw [row_of_blk HCUR.out, HCSZ.out]; omega)
    have HWR : Hid (IntKind.i64.wrap (d.done + (m : Int)) = d.done + (m : Int)) := hD (IntWalk.i64_in _ (by have := HDN.out; omega))
    first
     |
      revert T2; intro T2
      have HSL : Hid (∀ W, (Instr.slice 22 (.slice L1.a1 d.s1.length L1.c1) (some (iv d.done)) (some (.int .i64 (d.done + (m : Int)))) none).run Tryz.prog W = .ok (.slice (some ⟨gs, dn, none⟩) m (L1.c1 - dn)) W) := hD (by rw [HA.out, HOK.out.l1]; exact sl_mid dn m HDN.out (by rw [HDN.out]) hcc (by omega) (by omega))
     | have HSL : Hid (∀ W, (Instr.slice 22 (.slice L1.a0 d.s0.length L1.c0) (some (iv d.done)) (some (.int .i64 (d.done + (m : Int)))) none).run Tryz.prog W = .ok (.slice (some ⟨gs, dn, none⟩) m (L1.c0 - dn)) W) := hD (by rw [HA.out, HOK.out.l0]; exact sl_mid dn m HDN.out (by rw [HDN.out]) hcc (by omega) (by omega))
    obtain ⟨new, hnew⟩ : ∃ new, (cur.toList.take dn ++ ((rb.drop dn).take m).map bv ++ cur.toList.drop (dn + m)).toArray = new := ⟨_, rfl⟩
    have HNEW := hD hnew
    clear hnew
    first
     |
      revert T2; intro T2
      refine wp_region_mix (by kernel_rfl) (some 54 :: some 55 :: some 56 :: some 57 :: some 58 :: some 59 :: some 60 :: some 61 :: some 62 :: some 63 :: some 64 :: some 65 :: some 66 :: some 67 :: some 68 :: some 69 :: some 70 :: some 71 :: some 72 :: []) (none :: none :: none :: none :: none :: none :: none :: none :: none :: none :: none :: none :: none :: none :: some 0 :: none :: none :: some 1 :: some 2 :: []) (.pointer (some ⟨w1.heap.size, 1, none⟩) :: iv 0 :: iv 1 :: .pointer (some ⟨w.heap.size, 0, none⟩) :: .pointer (some ⟨w.heap.size, 1, none⟩) :: .slice L1.a1 d.s1.length L1.c1 :: .pointer (some ⟨w.heap.size, 36, none⟩) :: iv d.done :: .pointer (some ⟨w.heap.size, 36, none⟩) :: iv d.done :: iv (m : Int) :: .int .i64 (d.done + (m : Int)) :: .slice (some ⟨gs, dn, none⟩) m (L1.c1 - dn) :: .slice A2 b.length c2 :: undef :: .pointer (some ⟨w.heap.size, 36, none⟩) :: iv d.done :: undef :: undef :: []) 3 (wrJ w4 rb dn gs new) 82 rfl rfl (by decide +kernel) (by decide +kernel) (by decide +kernel) (by decide +kernel) rfl rfl (by decide +kernel) (by decide +kernel) (rfl) ?_ ?_
     | refine wp_region_mix (by kernel_rfl) (some 54 :: some 55 :: some 56 :: some 57 :: some 58 :: some 59 :: some 60 :: some 61 :: some 62 :: some 63 :: some 64 :: some 65 :: some 66 :: some 67 :: some 68 :: some 69 :: some 70 :: some 71 :: some 72 :: []) (none :: none :: none :: none :: none :: none :: none :: none :: none :: none :: none :: none :: none :: none :: some 0 :: none :: none :: some 1 :: some 2 :: []) (.pointer (some ⟨w1.heap.size, 1, none⟩) :: iv 1 :: iv 0 :: .pointer (some ⟨w.heap.size, 0, none⟩) :: .pointer (some ⟨w.heap.size, 0, none⟩) :: .slice L1.a0 d.s0.length L1.c0 :: .pointer (some ⟨w.heap.size, 36, none⟩) :: iv d.done :: .pointer (some ⟨w.heap.size, 36, none⟩) :: iv d.done :: iv (m : Int) :: .int .i64 (d.done + (m : Int)) :: .slice (some ⟨gs, dn, none⟩) m (L1.c0 - dn) :: .slice A2 b.length c2 :: undef :: .pointer (some ⟨w.heap.size, 36, none⟩) :: iv d.done :: undef :: undef :: []) 3 (wrJ w4 rb dn gs new) 82 rfl rfl (by decide +kernel) (by decide +kernel) (by decide +kernel) (by decide +kernel) rfl rfl (by decide +kernel) (by decide +kernel) (rfl) ?_ ?_
    ·refine ⟨?_, ?_, ?_, ?_, ?_, ?_, ?_, ?_, ?_, ?_, ?_, ?_, ?_, ?_, ?_, ?_, ?_, ?_, ?_, trivial⟩
     ·intro done cv k0 a wq hw h hJ hn
      have e8 := mO 8 (.pointer (some ⟨w1.heap.size, 0, none⟩)) h
      go_simp
     ·intro done cv k0 a wq hw h hJ hn
      have e54 := mN 0 54 h hw
      obtain ⟨r_, f_⟩ := wrJ_row (curs := #[]) hJ HN2.out RR.out FR.out (by simp [recA]) HG0.out
      have c_ := cell_row (w := wq) (g := w1.heap.size) (by rw [r_]; simp [recA])
      have hk_ := HKK.out
      go_simp
     ·intro done cv k0 a wq hw h hJ hn
      have e55 := mN 1 55 h hw
      first | (go_simp; done) | (go_simp; rfl) | (go_simp; decide)
     ·intro done cv k0 a wq hw h hJ hn
      have e3 := mO 3 (.pointer (some ⟨w.heap.size, 0, none⟩)) h
      go_simp
     ·intro done cv k0 a wq hw h hJ hn
      have e57 := mN 3 57 h hw; have e56 := mN 2 56 h hw
      go_simp
     ·intro done cv k0 a wq hw h hJ hn
      have e58 := mN 4 58 h hw
      obtain ⟨r_, f_⟩ := wrJ_row (curs := #[]) hJ HN1.out RD.out FD.out (by simp [devA]) HG0.out
      have c_ := cell_row (w := wq) (g := w.heap.size) (by rw [r_]; simp [devA])
      go_simp
     ·intro done cv k0 a wq hw h hJ hn
      have e3 := mO 3 (.pointer (some ⟨w.heap.size, 0, none⟩)) h
      go_simp
     ·intro done cv k0 a wq hw h hJ hn
      have e60 := mN 6 60 h hw
      obtain ⟨r_, f_⟩ := wrJ_row (curs := #[]) hJ HN1.out RD.out FD.out (by simp [devA]) HG0.out
      have c_ := cell_row (w := wq) (g := w.heap.size) (by rw [r_]; simp [devA])
      go_simp
     ·intro done cv k0 a wq hw h hJ hn
      have e3 := mO 3 (.pointer (some ⟨w.heap.size, 0, none⟩)) h
      go_simp
     ·intro done cv k0 a wq hw h hJ hn
      have e62 := mN 8 62 h hw
      obtain ⟨r_, f_⟩ := wrJ_row (curs := #[]) hJ HN1.out RD.out FD.out (by simp [devA]) HG0.out
      have c_ := cell_row (w := wq) (g := w.heap.size) (by rw [r_]; simp [devA])
      go_simp
     ·intro done cv k0 a wq hw h hJ hn
      have e11 := mO 11 (iv (m : Int)) h
      exact mx_move (ch_ev e11)
     ·intro done cv k0 a wq hw h hJ hn
      have e63 := mN 9 63 h hw; have e64 := mN 10 64 h hw
      have hw_ := HWR.out
      go_simp
     ·intro done cv k0 a wq hw h hJ hn
      have e59 := mN 5 59 h hw; have e61 := mN 7 61 h hw; have e65 := mN 11 65 h hw
      have hs_ := HSL.out
      go_simp
     ·intro done cv k0 a wq hw h hJ hn
      have e10 := mO 10 (.slice A2 b.length c2) h
      exact mx_move (ch_ev e10)
     ·intro done cv a wq hw h hJ
      have e67 := mN 13 67 h hw
      obtain rfl : wq = w4.drew := hJ
      refine wp_call (vals := #[.slice A2 b.length c2]) (by rw [List.map_toArray, List.map_cons, List.map_nil, ch_ev e67]) (enters_of Tryz.func21 (by kernel_rfl) rfl _ _) (room_calls A2 c2 b _ HB64.out (HBB.out.stays (Below.refl _ _).drew)) ?_
      rintro e w' ⟨A5, c5, rfl, hown, hbel⟩
      rw [HRB.out] at hown ⊢
      exact ⟨_, rfl, _, rfl, A5, c5, by simp, hown, (Below.refl _ _).drew.trans hbel⟩
     ·intro done cv k0 a wq hw h hJ hn
      have e3 := mO 3 (.pointer (some ⟨w.heap.size, 0, none⟩)) h
      go_simp
     ·intro done cv k0 a wq hw h hJ hn
      have e69 := mN 15 69 h hw
      obtain ⟨r_, f_⟩ := wrJ_row (curs := #[]) hJ HN1.out RD.out FD.out (by simp [devA]) HG0.out
      have c_ := cell_row (w := wq) (g := w.heap.size) (by rw [r_]; simp [devA])
      go_simp
     ·intro done cv a wq hw h hJ
      have e68 := mx_cv (i := 14) (t := 68) h (hw 14 (by decide)) rfl rfl; have e70 := mN 16 70 h hw
      obtain ⟨A5, c5, y1, hown, hbel⟩ := hJ
      rw [y1] at e68
      obtain ⟨g3, hA3, hg3, _⟩ := hown.form (by rw [HRL.out]; decide)
      subst hA3
      have hs_ := sl_from (g := g3) (n := rb.length) (c := c5) dn HDN.out hown.le (by rw [HRL.out]; omega) (by have h9 := hown.le; rw [HRL.out] at h9; omega)
      refine wp_val (v := .slice (some ⟨g3, dn, none⟩) (rb.length - dn) (c5 - dn)) (by go_simp) ⟨_, rfl, g3, c5 - dn, by simp, hown.src.bts, hg3, hbel⟩
     ·intro done cv a wq hw h hJ
      have e66 := mN 12 66 h hw; have e71 := mx_cv (i := 17) (t := 71) h (hw 17 (by decide)) rfl rfl
      obtain ⟨g3, c3, y1, hbt, hg3, hbel⟩ := hJ
      rw [y1] at e71
      have hcb := (hbel.block gs HG1.out).trans HCUR.out
      have hcl : (((rb.drop dn).take m).map bv).length = m := by rw [List.length_map, List.length_take, List.length_drop, HRL.out]; omega
      first
       |
        revert T2; intro T2
        refine wp_copyN (.tmp 66) (.tmp 71) 22 22 rfl _ _ (ch_ev e66) (ch_ev e71) (run_copy_row Tryz.prog wq 22 22 _ 5 gs dn m (L1.c1 - dn) ⟨g3, dn, none⟩ (rb.length - dn) c3 cur 5 (((rb.drop dn).take m).map bv) Tryz.underlying22 (by kernel_rfl) hcb (by rw [hcl, HRL.out]; show m = min (64 - dn) m; omega) ?_ (by rw [hcl, HCSZ.out]; omega) (bv_one _)) ⟨_, rfl, wq, hbel, ?_⟩
       | refine wp_copyN (.tmp 66) (.tmp 71) 22 22 rfl _ _ (ch_ev e66) (ch_ev e71) (run_copy_row Tryz.prog wq 22 22 _ 5 gs dn m (L1.c0 - dn) ⟨g3, dn, none⟩ (rb.length - dn) c3 cur 5 (((rb.drop dn).take m).map bv) Tryz.underlying22 (by kernel_rfl) hcb (by rw [hcl, HRL.out]; show m = min (64 - dn) m; omega) ?_ (by rw [hcl, HCSZ.out]; omega) (bv_one _)) ⟨_, rfl, wq, hbel, ?_⟩
      ·intro j v hv
       obtain ⟨hj, rfl⟩ := List.getElem?_eq_some_iff.1 hv
       have hjm : j < m := by rw [hcl] at hj; exact hj
       obtain ⟨bb, oo, e1, _, hc⟩ := hbt (dn + j) (by rw [HRL.out]; omega)
       injection e1 with e1
       injection e1 with e1 e2
       subst e1 e2
       have hx : w4.heap.size <= g3 := hg3
       rw [show (⟨g3, dn, none⟩ : Addr).add j = ⟨g3, 0 + (dn + j), none⟩ by simp [Addr.add]]
       rw [hc]
       simp
      rw [hcl, HNEW.out]
    intro cv6 w6 hJ
    obtain ⟨w5, hb5, rfl⟩ := hJ
    simp only [mixAll, putAll_some, putAll_none, putAll_nil, List.getElem?_cons_zero, List.getElem?_cons_succ, Nat.zero_add, Nat.reduceAdd, List.setIfInBounds_toArray, List.set_cons_zero, List.set_cons_succ]
    obtain ⟨nb, hnb⟩ : ∃ nb, d.put d.next m = nb := ⟨_, rfl⟩
    first
     |
      revert T2; intro T2
      have hsl : d.slot (1 - d.rec_.active) = d.s1 := by rw [HKK.out]; simp [Dev.slot]
     | have hsl : d.slot (1 - d.rec_.active) = d.s0 := by rw [HKK.out]; simp [Dev.slot]
    first
     |
      revert T2; intro T2
      have hnb2 : nb = d.s1.take dn ++ (rb.drop dn).take m ++ d.s1.drop (dn + m) := by
       rw [← hnb]; unfold Dev.put; rw [hsl, HNX.out, HRB.out, show d.done.toNat = dn by rw [HDN.out]; rfl]
     |
      have hnb2 : nb = d.s0.take dn ++ (rb.drop dn).take m ++ d.s0.drop (dn + m) := by
       rw [← hnb]; unfold Dev.put; rw [hsl, HNX.out, HRB.out, show d.done.toNat = dn by rw [HDN.out]; rfl]
    first
     |
      revert T2; intro T2
      have hnbl : nb.length = d.s1.length := by
       rw [hnb2]; simp only [List.length_append, List.length_take, List.length_drop, HRL.out, HOK.out.l1]; omega
     |
      have hnbl : nb.length = d.s0.length := by
       rw [hnb2]; simp only [List.length_append, List.length_take, List.length_drop, HRL.out, HOK.out.l0]; omega
    first
     |
      revert T2; intro T2
      have hcul : cur.toList.length = L1.c1 := by rw [Array.length_toList, HCSZ.out]
     | have hcul : cur.toList.length = L1.c0 := by rw [Array.length_toList, HCSZ.out]
    have hcl : (((rb.drop dn).take m).map bv).length = m := by rw [List.length_map, List.length_take, List.length_drop, HRL.out]; omega
    have hnsz : new.size = cur.size := by
     rw [← HNEW.out, HCSZ.out]; simp only [List.size_toArray, List.length_append, List.length_take, List.length_drop, hcl, hcul]; omega
    first
     |
      revert T2; intro T2
      have hnt : new.toList.take d.s1.length = nb.map bv := by
       rw [← HNEW.out, HOK.out.l1, put_takeN _ _ dn m 64 hcl (by omega) (by omega), HCT.out, hnb2]
       simp [List.map_take, List.map_drop]
     |
      have hnt : new.toList.take d.s0.length = nb.map bv := by
       rw [← HNEW.out, HOK.out.l0, put_takeN _ _ dn m 64 hcl (by omega) (by omega), HCT.out, hnb2]
       simp [List.map_take, List.map_drop]
    first
     |
      revert T2; intro T2
      have hown6 : DvOwn (w5.setRow gs new) (w.heap.size + 2) { d with s1 := nb, done := d.done + (m : Int) } L1 := ⟨m1, m2, HDO.out.put1 hb5 HA.out HCUR.out hnbl hnsz hnt ⟨by have := HDN.out; omega, by have := HDN.out; omega⟩⟩
     | have hown6 : DvOwn (w5.setRow gs new) (w.heap.size + 2) { d with s0 := nb, done := d.done + (m : Int) } L1 := ⟨m1, m2, HDO.out.put0 hb5 HA.out HCUR.out hnbl hnsz hnt ⟨by have := HDN.out; omega, by have := HDN.out; omega⟩⟩
    have HO6 := hD hown6.fresh
    first
     |
      revert T2; intro T2
      have hz : res = ({ d with s1 := nb, done := d.done + (m : Int) }, 0) := by
       rw [HD2.out, if_neg (by decide), wrote0 HKK.out, HM.out, show ((m : Int)).toNat = m from rfl, hnb]
     |
      have hz : res = ({ d with s0 := nb, done := d.done + (m : Int) }, 0) := by
       rw [HD2.out, if_neg (by decide), wrote1 HKK.out, HM.out, show ((m : Int)).toNat = m from rfl, hnb]
    subst hz
    have HB5 := bT HB4 hb5
    obtain ⟨d0r, d0f, d0n, d0c, d0z, d0l⟩ := keep1 hb5 RD.out (by go_simp) FD.out
    obtain ⟨d1r, d1f, d1n, d1c, d1z, d1l⟩ := keep1 hb5 b1r (by go_simp) b1f
    have hsr : 0 < (rowOf w5 gs).size := by rw [rowOf_below hgs2 hb5]; exact HG0.out
    have hs5 := hb5.size
    obtain ⟨w6, hw6⟩ : ∃ w6, w5.setRow gs new = w6 := ⟨_, rfl⟩
    first
     |
      revert T2; intro T2
      have e0r : rowOf w6 w.heap.size = devA { d with s1 := nb } L1 := by rw [← hw6, rowOf_setRow _ _ _ _ hsr, if_neg (by omega), d0r, devA_len1 hnbl]
     | have e0r : rowOf w6 w.heap.size = devA { d with s0 := nb } L1 := by rw [← hw6, rowOf_setRow _ _ _ _ hsr, if_neg (by omega), d0r, devA_len0 hnbl]
    have e0f : frOf w6 w.heap.size = (0, 0) := by rw [← hw6, frOf_setRow]; exact d0f
    have e1r : rowOf w6 (w.heap.size + 1) = devA Dev.zero DLoc.zero := by rw [← hw6, rowOf_setRow _ _ _ _ hsr, if_neg (by omega)]; exact d1r
    have e1f : frOf w6 (w.heap.size + 1) = (0, 0) := by rw [← hw6, frOf_setRow]; exact d1f
    have hs6 : w6.heap.size = w5.heap.size := by rw [← hw6]; simp [World.setRow]
    have HB6 : Hid (Below w.heap.size w w6) := hD (by rw [← hw6]; exact below_row HB5.out (by omega) _)
    have e0n : ¬ w.heap.size = w6.heap.size := by omega
    have e1n : ¬ w.heap.size + 1 = w6.heap.size := by omega
    first
     |
      revert T2; intro T2
      have e0c : ∀ j, w6.cell? ⟨w.heap.size, j, none⟩ = (devA { d with s1 := nb } L1)[j]? := fun j => by rw [cell_row (by rw [e0r]; simp [devA]), e0r]
     | have e0c : ∀ j, w6.cell? ⟨w.heap.size, j, none⟩ = (devA { d with s0 := nb } L1)[j]? := fun j => by rw [cell_row (by rw [e0r]; simp [devA]), e0r]
    have e0z : ∀ j, w6.frozen? ⟨w.heap.size, j, none⟩ = false := fun j => frozen_row (by rw [e0r]; simp [devA]) e0f j
    rw [hw6] at HO6 ⊢
    have HFR6 := HO6
    clear hw6 hown6 hnt hnsz hcl hcul hnbl hnb2 hsl hnb d0r d0f d0n d0c d0z d0l d1r d1f d1n d1c d1z d1l b0r b0f b0n b0c b0z b0l b1r b1f b1n b1c b1z b1l b2r b2f b2n b2c b2z b2l hb5 hsr RD FD RR FR HG0 HFR
    have hwr6 := HWR.out
    have HFR := HFR6
    have HK6 : Hid (Kp (w.heap.size + 2) w6 w6) := hD (Kp.refl _ _)
    go_wp2_with fail
    first
     |
      revert T2; intro T2
      refine bodyPost_ret (rC (devA { d with s1 := nb, done := d.done + (m : Int) } L1)) rfl ⟨L1, rfl, ?_, ?_⟩
     | refine bodyPost_ret (rC (devA { d with s0 := nb, done := d.done + (m : Int) } L1)) rfl ⟨L1, rfl, ?_, ?_⟩
    ·first
      |
       revert T2; intro T2
       refine Fresh.imp (P := fun v => DvOwn v (w.heap.size + 2) { d with s1 := nb, done := d.done + (m : Int) } L1) (Fresh.kp HFR.out ?_ (by omega) (by first | omega | (simp <;> omega))) (fun v hv => hv.devIn)
      | refine Fresh.imp (P := fun v => DvOwn v (w.heap.size + 2) { d with s0 := nb, done := d.done + (m : Int) } L1) (Fresh.kp HFR.out ?_ (by omega) (by first | omega | (simp <;> omega))) (fun v hv => hv.devIn)
     repeat (first | exact HK6.out | exact Kp.refl _ _ | refine Kp.row ?_ (by omega) _ | refine Kp.cell ?_ (by first | (show _ < _ ∨ _ <= _; omega) | (simp <;> omega)) _ | refine Kp.alloc ?_ (by first | omega | (simp <;> omega)) _)
    have hs := HB6.out.size
    repeat (first | exact hA | refine bR ?_ _ | refine bC ?_ _ | refine bA ?_ _)
   case true =>
    obtain ⟨m, hm⟩ : ∃ m : Nat, keepN true keep = (m : Int) := ⟨(keepN true keep).toNat, by have := keepN_bd true keep; omega⟩
    have hm8 : m <= 8 := by have := keepN_bd true keep; omega
    have HM := hD hm
    have hmm : max 0 (min 8 keep) = (m : Int) := by rw [← hm]; simp [keepN]
    have h1x := run_min8 keep
    have h2x := run_max0 (min 8 keep)
    rw [hmm] at h2x
    generalize min 8 keep = mn at h1x h2x
    clear hm hmm
    go_wp2_with fail
    skip
    clear h1x h2x
    have RD := hD b0r
    have FD := hD b0f
    have RR := hD b2r
    have FR := hD b2f
    have HN1 : Hid (w.heap.size ≠ gs) := hD (by omega)
    have HN2 : Hid (w1.heap.size ≠ gs) := hD (by omega)
    have HG1 : Hid (gs < w4.heap.size) := hD hgs2
    have HG0 : Hid (0 < (rowOf w4 gs).size) := hD (by rw [row_of_blk HCUR.out, HCSZ.out]; omega)
    have HWR : Hid (IntKind.i64.wrap (d.done + (m : Int)) = d.done + (m : Int)) := hD (IntWalk.i64_in _ (by have := HDN.out; omega))
    first
     |
      revert T2; intro T2
      have HSL : Hid (∀ W, (Instr.slice 22 (.slice L1.a1 d.s1.length L1.c1) (some (iv d.done)) (some (.int .i64 (d.done + (m : Int)))) none).run Tryz.prog W = .ok (.slice (some ⟨gs, dn, none⟩) m (L1.c1 - dn)) W) := hD (by rw [HA.out, HOK.out.l1]; exact sl_mid dn m HDN.out (by rw [HDN.out]) hcc (by omega) (by omega))
     | have HSL : Hid (∀ W, (Instr.slice 22 (.slice L1.a0 d.s0.length L1.c0) (some (iv d.done)) (some (.int .i64 (d.done + (m : Int)))) none).run Tryz.prog W = .ok (.slice (some ⟨gs, dn, none⟩) m (L1.c0 - dn)) W) := hD (by rw [HA.out, HOK.out.l0]; exact sl_mid dn m HDN.out (by rw [HDN.out]) hcc (by omega) (by omega))
    obtain ⟨new, hnew⟩ : ∃ new, (cur.toList.take dn ++ ((rb.drop dn).take m).map bv ++ cur.toList.drop (dn + m)).toArray = new := ⟨_, rfl⟩
    have HNEW := hD hnew
    clear hnew
    first
     |
      revert T2; intro T2
      refine wp_region_mix (by kernel_rfl) (some 54 :: some 55 :: some 56 :: some 57 :: some 58 :: some 59 :: some 60 :: some 61 :: some 62 :: some 63 :: some 64 :: some 65 :: some 66 :: some 67 :: some 68 :: some 69 :: some 70 :: some 71 :: some 72 :: []) (none :: none :: none :: none :: none :: none :: none :: none :: none :: none :: none :: none :: none :: none :: some 0 :: none :: none :: some 1 :: some 2 :: []) (.pointer (some ⟨w1.heap.size, 1, none⟩) :: iv 0 :: iv 1 :: .pointer (some ⟨w.heap.size, 0, none⟩) :: .pointer (some ⟨w.heap.size, 1, none⟩) :: .slice L1.a1 d.s1.length L1.c1 :: .pointer (some ⟨w.heap.size, 36, none⟩) :: iv d.done :: .pointer (some ⟨w.heap.size, 36, none⟩) :: iv d.done :: iv (m : Int) :: .int .i64 (d.done + (m : Int)) :: .slice (some ⟨gs, dn, none⟩) m (L1.c1 - dn) :: .slice A2 b.length c2 :: undef :: .pointer (some ⟨w.heap.size, 36, none⟩) :: iv d.done :: undef :: undef :: []) 3 (wrJ w4 rb dn gs new) 82 rfl rfl (by decide +kernel) (by decide +kernel) (by decide +kernel) (by decide +kernel) rfl rfl (by decide +kernel) (by decide +kernel) (rfl) ?_ ?_
     | refine wp_region_mix (by kernel_rfl) (some 54 :: some 55 :: some 56 :: some 57 :: some 58 :: some 59 :: some 60 :: some 61 :: some 62 :: some 63 :: some 64 :: some 65 :: some 66 :: some 67 :: some 68 :: some 69 :: some 70 :: some 71 :: some 72 :: []) (none :: none :: none :: none :: none :: none :: none :: none :: none :: none :: none :: none :: none :: none :: some 0 :: none :: none :: some 1 :: some 2 :: []) (.pointer (some ⟨w1.heap.size, 1, none⟩) :: iv 1 :: iv 0 :: .pointer (some ⟨w.heap.size, 0, none⟩) :: .pointer (some ⟨w.heap.size, 0, none⟩) :: .slice L1.a0 d.s0.length L1.c0 :: .pointer (some ⟨w.heap.size, 36, none⟩) :: iv d.done :: .pointer (some ⟨w.heap.size, 36, none⟩) :: iv d.done :: iv (m : Int) :: .int .i64 (d.done + (m : Int)) :: .slice (some ⟨gs, dn, none⟩) m (L1.c0 - dn) :: .slice A2 b.length c2 :: undef :: .pointer (some ⟨w.heap.size, 36, none⟩) :: iv d.done :: undef :: undef :: []) 3 (wrJ w4 rb dn gs new) 82 rfl rfl (by decide +kernel) (by decide +kernel) (by decide +kernel) (by decide +kernel) rfl rfl (by decide +kernel) (by decide +kernel) (rfl) ?_ ?_
    ·refine ⟨?_, ?_, ?_, ?_, ?_, ?_, ?_, ?_, ?_, ?_, ?_, ?_, ?_, ?_, ?_, ?_, ?_, ?_, ?_, trivial⟩
     ·intro done cv k0 a wq hw h hJ hn
      have e8 := mO 8 (.pointer (some ⟨w1.heap.size, 0, none⟩)) h
      go_simp
     ·intro done cv k0 a wq hw h hJ hn
      have e54 := mN 0 54 h hw
      obtain ⟨r_, f_⟩ := wrJ_row (curs := #[]) hJ HN2.out RR.out FR.out (by simp [recA]) HG0.out
      have c_ := cell_row (w := wq) (g := w1.heap.size) (by rw [r_]; simp [recA])
      have hk_ := HKK.out
      go_simp
     ·intro done cv k0 a wq hw h hJ hn
      have e55 := mN 1 55 h hw
      first | (go_simp; done) | (go_simp; rfl) | (go_simp; decide)
     ·intro done cv k0 a wq hw h hJ hn
      have e3 := mO 3 (.pointer (some ⟨w.heap.size, 0, none⟩)) h
      go_simp
     ·intro done cv k0 a wq hw h hJ hn
      have e57 := mN 3 57 h hw; have e56 := mN 2 56 h hw
      go_simp
     ·intro done cv k0 a wq hw h hJ hn
      have e58 := mN 4 58 h hw
      obtain ⟨r_, f_⟩ := wrJ_row (curs := #[]) hJ HN1.out RD.out FD.out (by simp [devA]) HG0.out
      have c_ := cell_row (w := wq) (g := w.heap.size) (by rw [r_]; simp [devA])
      go_simp
     ·intro done cv k0 a wq hw h hJ hn
      have e3 := mO 3 (.pointer (some ⟨w.heap.size, 0, none⟩)) h
      go_simp
     ·intro done cv k0 a wq hw h hJ hn
      have e60 := mN 6 60 h hw
      obtain ⟨r_, f_⟩ := wrJ_row (curs := #[]) hJ HN1.out RD.out FD.out (by simp [devA]) HG0.out
      have c_ := cell_row (w := wq) (g := w.heap.size) (by rw [r_]; simp [devA])
      go_simp
     ·intro done cv k0 a wq hw h hJ hn
      have e3 := mO 3 (.pointer (some ⟨w.heap.size, 0, none⟩)) h
      go_simp
     ·intro done cv k0 a wq hw h hJ hn
      have e62 := mN 8 62 h hw
      obtain ⟨r_, f_⟩ := wrJ_row (curs := #[]) hJ HN1.out RD.out FD.out (by simp [devA]) HG0.out
      have c_ := cell_row (w := wq) (g := w.heap.size) (by rw [r_]; simp [devA])
      go_simp
     ·intro done cv k0 a wq hw h hJ hn
      have e11 := mO 11 (iv (m : Int)) h
      exact mx_move (ch_ev e11)
     ·intro done cv k0 a wq hw h hJ hn
      have e63 := mN 9 63 h hw; have e64 := mN 10 64 h hw
      have hw_ := HWR.out
      go_simp
     ·intro done cv k0 a wq hw h hJ hn
      have e59 := mN 5 59 h hw; have e61 := mN 7 61 h hw; have e65 := mN 11 65 h hw
      have hs_ := HSL.out
      go_simp
     ·intro done cv k0 a wq hw h hJ hn
      have e10 := mO 10 (.slice A2 b.length c2) h
      exact mx_move (ch_ev e10)
     ·intro done cv a wq hw h hJ
      have e67 := mN 13 67 h hw
      obtain rfl : wq = w4.drew := hJ
      refine wp_call (vals := #[.slice A2 b.length c2]) (by rw [List.map_toArray, List.map_cons, List.map_nil, ch_ev e67]) (enters_of Tryz.func21 (by kernel_rfl) rfl _ _) (room_calls A2 c2 b _ HB64.out (HBB.out.stays (Below.refl _ _).drew)) ?_
      rintro e w' ⟨A5, c5, rfl, hown, hbel⟩
      rw [HRB.out] at hown ⊢
      exact ⟨_, rfl, _, rfl, A5, c5, by simp, hown, (Below.refl _ _).drew.trans hbel⟩
     ·intro done cv k0 a wq hw h hJ hn
      have e3 := mO 3 (.pointer (some ⟨w.heap.size, 0, none⟩)) h
      go_simp
     ·intro done cv k0 a wq hw h hJ hn
      have e69 := mN 15 69 h hw
      obtain ⟨r_, f_⟩ := wrJ_row (curs := #[]) hJ HN1.out RD.out FD.out (by simp [devA]) HG0.out
      have c_ := cell_row (w := wq) (g := w.heap.size) (by rw [r_]; simp [devA])
      go_simp
     ·intro done cv a wq hw h hJ
      have e68 := mx_cv (i := 14) (t := 68) h (hw 14 (by decide)) rfl rfl; have e70 := mN 16 70 h hw
      obtain ⟨A5, c5, y1, hown, hbel⟩ := hJ
      rw [y1] at e68
      obtain ⟨g3, hA3, hg3, _⟩ := hown.form (by rw [HRL.out]; decide)
      subst hA3
      have hs_ := sl_from (g := g3) (n := rb.length) (c := c5) dn HDN.out hown.le (by rw [HRL.out]; omega) (by have h9 := hown.le; rw [HRL.out] at h9; omega)
      refine wp_val (v := .slice (some ⟨g3, dn, none⟩) (rb.length - dn) (c5 - dn)) (by go_simp) ⟨_, rfl, g3, c5 - dn, by simp, hown.src.bts, hg3, hbel⟩
     ·intro done cv a wq hw h hJ
      have e66 := mN 12 66 h hw; have e71 := mx_cv (i := 17) (t := 71) h (hw 17 (by decide)) rfl rfl
      obtain ⟨g3, c3, y1, hbt, hg3, hbel⟩ := hJ
      rw [y1] at e71
      have hcb := (hbel.block gs HG1.out).trans HCUR.out
      have hcl : (((rb.drop dn).take m).map bv).length = m := by rw [List.length_map, List.length_take, List.length_drop, HRL.out]; omega
      first
       |
        revert T2; intro T2
        refine wp_copyN (.tmp 66) (.tmp 71) 22 22 rfl _ _ (ch_ev e66) (ch_ev e71) (run_copy_row Tryz.prog wq 22 22 _ 5 gs dn m (L1.c1 - dn) ⟨g3, dn, none⟩ (rb.length - dn) c3 cur 5 (((rb.drop dn).take m).map bv) Tryz.underlying22 (by kernel_rfl) hcb (by rw [hcl, HRL.out]; show m = min (64 - dn) m; omega) ?_ (by rw [hcl, HCSZ.out]; omega) (bv_one _)) ⟨_, rfl, wq, hbel, ?_⟩
       | refine wp_copyN (.tmp 66) (.tmp 71) 22 22 rfl _ _ (ch_ev e66) (ch_ev e71) (run_copy_row Tryz.prog wq 22 22 _ 5 gs dn m (L1.c0 - dn) ⟨g3, dn, none⟩ (rb.length - dn) c3 cur 5 (((rb.drop dn).take m).map bv) Tryz.underlying22 (by kernel_rfl) hcb (by rw [hcl, HRL.out]; show m = min (64 - dn) m; omega) ?_ (by rw [hcl, HCSZ.out]; omega) (bv_one _)) ⟨_, rfl, wq, hbel, ?_⟩
      ·intro j v hv
       obtain ⟨hj, rfl⟩ := List.getElem?_eq_some_iff.1 hv
       have hjm : j < m := by rw [hcl] at hj; exact hj
       obtain ⟨bb, oo, e1, _, hc⟩ := hbt (dn + j) (by rw [HRL.out]; omega)
       injection e1 with e1
       injection e1 with e1 e2
       subst e1 e2
       have hx : w4.heap.size <= g3 := hg3
       rw [show (⟨g3, dn, none⟩ : Addr).add j = ⟨g3, 0 + (dn + j), none⟩ by simp [Addr.add]]
       rw [hc]
       simp
      rw [hcl, HNEW.out]
    intro cv6 w6 hJ
    obtain ⟨w5, hb5, rfl⟩ := hJ
    simp only [mixAll, putAll_some, putAll_none, putAll_nil, List.getElem?_cons_zero, List.getElem?_cons_succ, Nat.zero_add, Nat.reduceAdd, List.setIfInBounds_toArray, List.set_cons_zero, List.set_cons_succ]
    obtain ⟨nb, hnb⟩ : ∃ nb, d.put d.next m = nb := ⟨_, rfl⟩
    first
     |
      revert T2; intro T2
      have hsl : d.slot (1 - d.rec_.active) = d.s1 := by rw [HKK.out]; simp [Dev.slot]
     | have hsl : d.slot (1 - d.rec_.active) = d.s0 := by rw [HKK.out]; simp [Dev.slot]
    first
     |
      revert T2; intro T2
      have hnb2 : nb = d.s1.take dn ++ (rb.drop dn).take m ++ d.s1.drop (dn + m) := by
       rw [← hnb]; unfold Dev.put; rw [hsl, HNX.out, HRB.out, show d.done.toNat = dn by rw [HDN.out]; rfl]
     |
      have hnb2 : nb = d.s0.take dn ++ (rb.drop dn).take m ++ d.s0.drop (dn + m) := by
       rw [← hnb]; unfold Dev.put; rw [hsl, HNX.out, HRB.out, show d.done.toNat = dn by rw [HDN.out]; rfl]
    first
     |
      revert T2; intro T2
      have hnbl : nb.length = d.s1.length := by
       rw [hnb2]; simp only [List.length_append, List.length_take, List.length_drop, HRL.out, HOK.out.l1]; omega
     |
      have hnbl : nb.length = d.s0.length := by
       rw [hnb2]; simp only [List.length_append, List.length_take, List.length_drop, HRL.out, HOK.out.l0]; omega
    first
     |
      revert T2; intro T2
      have hcul : cur.toList.length = L1.c1 := by rw [Array.length_toList, HCSZ.out]
     | have hcul : cur.toList.length = L1.c0 := by rw [Array.length_toList, HCSZ.out]
    have hcl : (((rb.drop dn).take m).map bv).length = m := by rw [List.length_map, List.length_take, List.length_drop, HRL.out]; omega
    have hnsz : new.size = cur.size := by
     rw [← HNEW.out, HCSZ.out]; simp only [List.size_toArray, List.length_append, List.length_take, List.length_drop, hcl, hcul]; omega
    first
     |
      revert T2; intro T2
      have hnt : new.toList.take d.s1.length = nb.map bv := by
       rw [← HNEW.out, HOK.out.l1, put_takeN _ _ dn m 64 hcl (by omega) (by omega), HCT.out, hnb2]
       simp [List.map_take, List.map_drop]
     |
      have hnt : new.toList.take d.s0.length = nb.map bv := by
       rw [← HNEW.out, HOK.out.l0, put_takeN _ _ dn m 64 hcl (by omega) (by omega), HCT.out, hnb2]
       simp [List.map_take, List.map_drop]
    first
     |
      revert T2; intro T2
      have hown6 : DvOwn (w5.setRow gs new) (w.heap.size + 2) { d with s1 := nb, done := d.done + (m : Int) } L1 := ⟨m1, m2, HDO.out.put1 hb5 HA.out HCUR.out hnbl hnsz hnt ⟨by have := HDN.out; omega, by have := HDN.out; omega⟩⟩
     | have hown6 : DvOwn (w5.setRow gs new) (w.heap.size + 2) { d with s0 := nb, done := d.done + (m : Int) } L1 := ⟨m1, m2, HDO.out.put0 hb5 HA.out HCUR.out hnbl hnsz hnt ⟨by have := HDN.out; omega, by have := HDN.out; omega⟩⟩
    have HO6 := hD hown6.fresh
    first
     |
      revert T2; intro T2
      have hz : res = (({ d with s1 := nb, done := d.done + (m : Int) } : Dev).down, 0) := by
       rw [HD2.out, if_pos (by first | rfl | trivial), wrote0 HKK.out, HM.out, show ((m : Int)).toNat = m from rfl, hnb]
     |
      have hz : res = (({ d with s0 := nb, done := d.done + (m : Int) } : Dev).down, 0) := by
       rw [HD2.out, if_pos (by first | rfl | trivial), wrote1 HKK.out, HM.out, show ((m : Int)).toNat = m from rfl, hnb]
    subst hz
    have HB5 := bT HB4 hb5
    obtain ⟨d0r, d0f, d0n, d0c, d0z, d0l⟩ := keep1 hb5 RD.out (by go_simp) FD.out
    obtain ⟨d1r, d1f, d1n, d1c, d1z, d1l⟩ := keep1 hb5 b1r (by go_simp) b1f
    have hsr : 0 < (rowOf w5 gs).size := by rw [rowOf_below hgs2 hb5]; exact HG0.out
    have hs5 := hb5.size
    obtain ⟨w6, hw6⟩ : ∃ w6, w5.setRow gs new = w6 := ⟨_, rfl⟩
    first
     |
      revert T2; intro T2
      have e0r : rowOf w6 w.heap.size = devA { d with s1 := nb } L1 := by rw [← hw6, rowOf_setRow _ _ _ _ hsr, if_neg (by omega), d0r, devA_len1 hnbl]
     | have e0r : rowOf w6 w.heap.size = devA { d with s0 := nb } L1 := by rw [← hw6, rowOf_setRow _ _ _ _ hsr, if_neg (by omega), d0r, devA_len0 hnbl]
    have e0f : frOf w6 w.heap.size = (0, 0) := by rw [← hw6, frOf_setRow]; exact d0f
    have e1r : rowOf w6 (w.heap.size + 1) = devA Dev.zero DLoc.zero := by rw [← hw6, rowOf_setRow _ _ _ _ hsr, if_neg (by omega)]; exact d1r
    have e1f : frOf w6 (w.heap.size + 1) = (0, 0) := by rw [← hw6, frOf_setRow]; exact d1f
    have hs6 : w6.heap.size = w5.heap.size := by rw [← hw6]; simp [World.setRow]
    have HB6 : Hid (Below w.heap.size w w6) := hD (by rw [← hw6]; exact below_row HB5.out (by omega) _)
    have e0n : ¬ w.heap.size = w6.heap.size := by omega
    have e1n : ¬ w.heap.size + 1 = w6.heap.size := by omega
    first
     |
      revert T2; intro T2
      have e0c : ∀ j, w6.cell? ⟨w.heap.size, j, none⟩ = (devA { d with s1 := nb } L1)[j]? := fun j => by rw [cell_row (by rw [e0r]; simp [devA]), e0r]
     | have e0c : ∀ j, w6.cell? ⟨w.heap.size, j, none⟩ = (devA { d with s0 := nb } L1)[j]? := fun j => by rw [cell_row (by rw [e0r]; simp [devA]), e0r]
    have e0z : ∀ j, w6.frozen? ⟨w.heap.size, j, none⟩ = false := fun j => frozen_row (by rw [e0r]; simp [devA]) e0f j
    rw [hw6] at HO6 ⊢
    have HFR6 := HO6
    clear hw6 hown6 hnt hnsz hcl hcul hnbl hnb2 hsl hnb d0r d0f d0n d0c d0z d0l d1r d1f d1n d1c d1z d1l b0r b0f b0n b0c b0z b0l b1r b1f b1n b1c b1z b1l b2r b2f b2n b2c b2z b2l hb5 hsr RD FD RR FR HG0 HFR
    have hwr6 := HWR.out
    have HFR := HFR6
    have HK6 : Hid (Kp (w.heap.size + 2) w6 w6) := hD (Kp.refl _ _)
    go_wp2_with fail
    first
     |
      revert T2; intro T2
      refine (down_calls { d with s1 := nb, done := d.done + (m : Int) } L1 _).mono ?_
     | refine (down_calls { d with s0 := nb, done := d.done + (m : Int) } L1 _).mono ?_
    rintro e w7 ⟨rfl, hb⟩
    obtain ⟨a0r, a0f, a0n, a0c, a0z, a0l⟩ := kp (w.heap.size + 1) (devA Dev.zero DLoc.zero) hb
    first
     |
      revert T2; intro T2
      obtain ⟨a1r, a1f, a1n, a1c, a1z, a1l⟩ := kp (w.heap.size) (devA { d with s1 := nb, done := d.done + (m : Int) } L1) hb
     | obtain ⟨a1r, a1f, a1n, a1c, a1z, a1l⟩ := kp (w.heap.size) (devA { d with s0 := nb, done := d.done + (m : Int) } L1) hb
    have hbs7 := hb.size
    have hsz7 : w6.heap.size <= w7.heap.size := by first | omega | (simp at hbs7; omega)
    have HK7 : Hid (Kp (w.heap.size + 2) w6 w7) := hD (by
     refine Kp.below ?_ (by first | omega | (simp <;> omega)) hb
     repeat (first | exact HK6.out | exact Kp.refl _ _ | refine Kp.row ?_ (by omega) _ | refine Kp.cell ?_ (by first | (show _ < _ ∨ _ <= _; omega) | (simp <;> omega)) _ | refine Kp.alloc ?_ (by first | omega | (simp <;> omega)) _))
    have HB7 : Hid (Below w.heap.size w w7) := hD (by
     refine Below.trans ?_ (hb.mono (by first | omega | (simp <;> omega)))
     have hs := HB6.out.size
     repeat (first | exact hA | refine bR ?_ _ | refine bC ?_ _ | refine bA ?_ _))
    clear hb hbs7
    go_wp2_with fail
    first
     |
      revert T2; intro T2
      refine bodyPost_ret (rC (devA ({ d with s1 := nb, done := d.done + (m : Int) } : Dev).down L1.down)) rfl ⟨L1.down, rfl, ?_, ?_⟩
     | refine bodyPost_ret (rC (devA ({ d with s0 := nb, done := d.done + (m : Int) } : Dev).down L1.down)) rfl ⟨L1.down, rfl, ?_, ?_⟩
    ·first
      |
       revert T2; intro T2
       refine Fresh.imp (P := fun v => DvOwn v (w.heap.size + 2) { d with s1 := nb, done := d.done + (m : Int) } L1) (Fresh.kp HFR.out ?_ (by omega) (by first | omega | (simp <;> omega))) (fun v hv => hv.devIn.down)
      | refine Fresh.imp (P := fun v => DvOwn v (w.heap.size + 2) { d with s0 := nb, done := d.done + (m : Int) } L1) (Fresh.kp HFR.out ?_ (by omega) (by first | omega | (simp <;> omega))) (fun v hv => hv.devIn.down)
     repeat (first | exact HK7.out | exact Kp.refl _ _ | refine Kp.row ?_ (by omega) _ | refine Kp.cell ?_ (by first | (show _ < _ ∨ _ <= _; omega) | (simp <;> omega)) _ | refine Kp.alloc ?_ (by first | omega | (simp <;> omega)) _)
    have hs := HB7.out.size
    repeat (first | exact hA | refine bR ?_ _ | refine bC ?_ _ | refine bA ?_ _)
theorem devWrite_calls (d : Dev) (L : DLoc) (torn : Bool) (keep : Int) (w : World) (h : DevIn w d L) : Calls Tryz.prog 14 #[.agg (devA d L), .bool torn, iv keep] w (DvRet w (devWrite d torn keep).1 (devWrite d torn keep).2) := by
 by_cases hz : devReady d = 0
 ·exact devWrite_ok d L torn keep w h hz
 have e : devWrite d torn keep = (Dev.zero, devReady d) := by unfold devWrite; rw [if_pos hz]
 rw [e]; exact devWrite_bad d L torn keep w h hz
end Go.Proofs.YtefkfglkpebbmacGreat
