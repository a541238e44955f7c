/- Walks of functions, and plain words. No conditions. -/
import Derived.Test.YtefkfglkpebbmacP5
set_option linter.unusedVariables false
set_option linter.unusedSimpArgs false
set_option maxRecDepth 100000
set_option maxHeartbeats 40000000
namespace Go.Proofs.Ytefkfglkpebbmac
open Go.RowKit
variable {w0 w : World} {g k : Nat} {d : Dev} {cv : Nat → Value}
theorem devCheck_calls (d : Dev) (L : DLoc) (w : World) (h : DevIn w d L) : Calls Try.prog 52 #[.agg (devA d L)] w (RetB w (iv (devCheck d))) := by
 by_cases hl : d.s0.length ≠ 64 ∨ d.s1.length ≠ 64
 ·rw [devCheck_is_len hl]; exact devCheck_len d L w hl
 have h0 : d.s0.length = 64 := by omega
 have h1 : d.s1.length = 64 := by omega
 by_cases hc : copCheck d.c0 d.c1 = 0
 case neg => rw [devCheck_is_cop h0 h1 hc]; exact devCheck_cop d L w h0 h1 hc
 cases hu : d.up
 ·exact devCheck_off d L w h h0 h1 hc hu
 by_cases hr : d.running < 0 ∨ 1 < d.running ∨ (d.running ≠ (recRead d.c0 d.c1).1.active ∧ (recRead d.c0 d.c1).1.trying = false)
 ·exact devCheck_range d L w h h0 h1 hc hu hr
 have hrec := recRead_ok hc
 have hact := rec_active hrec
 by_cases hx : d.running = (recRead d.c0 d.c1).1.active
 ·by_cases hg : chkList d.got = 0
  case neg => exact devCheck_idleEq_.2.2.1 d L w h h0 h1 hc hu hx hg
  cases hb : d.busy
  ·exact devCheck_idleEq_.1 d L w h h0 h1 hc hu hx hg hb
  cases ht : (recRead d.c0 d.c1).1.trying
  case true => exact devCheck_busyOther0_.2.2.2.2.2.2.1 d L w h h0 h1 hc hu hx hg hb ht
  by_cases ha : d.job.to_ < (recRead d.c0 d.c1).1.floor
  ·rcases hact with hk | hk
   ·exact devCheck_busyOther0_.2.2.2.2.1 d L w h h0 h1 hc hu hx hg hb hk ht ha
   ·exact devCheck_busyOther0_.2.2.2.2.2.1 d L w h h0 h1 hc hu hx hg hb hk ht ha
  rcases hact with hk | hk
  ·by_cases hf : d.job.from_ = (recRead d.c0 d.c1).1.a.ver
   ·by_cases ho : (recRead d.c0 d.c1).1.b.ver = 0
    ·exact devCheck_busyDo0_.1 d L w h h0 h1 hc hu hx hg hb hk ht ⟨ha, hf, ho⟩
    ·exact devCheck_busyOther0_.1 d L w h h0 h1 hc hu hx hg hb hk ht ⟨ha, hf, ho⟩
   ·exact devCheck_busyOther0_.2.2.1 d L w h h0 h1 hc hu hx hg hb hk ht ⟨ha, hf⟩
  ·by_cases hf : d.job.from_ = (recRead d.c0 d.c1).1.b.ver
   ·by_cases ho : (recRead d.c0 d.c1).1.a.ver = 0
    ·exact devCheck_busyDo0_.2 d L w h h0 h1 hc hu hx hg hb hk ht ⟨ha, hf, ho⟩
    ·exact devCheck_busyOther0_.2.1 d L w h h0 h1 hc hu hx hg hb hk ht ⟨ha, hf, ho⟩
   ·exact devCheck_busyOther0_.2.2.2.1 d L w h h0 h1 hc hu hx hg hb hk ht ⟨ha, hf⟩
 ·have ht : (recRead d.c0 d.c1).1.trying = true := by
   cases ht : (recRead d.c0 d.c1).1.trying
   ·exact absurd (.inr (.inr ⟨hx, ht⟩)) hr
   ·rfl
  have hv : d.running = 0 ∨ d.running = 1 := by
   have a1 : ¬ d.running < 0 := fun a => hr (.inl a)
   have a2 : ¬ 1 < d.running := fun a => hr (.inr (.inl a))
   omega
  by_cases hg : chkList d.got = 0
  case neg => exact devCheck_idleEq_.2.2.2 d L w h h0 h1 hc hu hx ht hv hg
  cases hb : d.busy
  ·exact devCheck_idleEq_.2.1 d L w h h0 h1 hc hu hx ht hv hg hb
  ·exact devCheck_busyOther0_.2.2.2.2.2.2.2 d L w h h0 h1 hc hu hx ht hv hg hb
def KrRet {α : Type} (K : Kd α) (w : World) (l : List α) : Ending → World → Prop := fun en w' =>
 ∃ A c ds, en = .returned (.slice A l.length c) ∧ GRow K w' w.heap.size l ds A c ∧ Each K l ds (fun k => w.heap.size ≤ k) ∧ Below w.heap.size w w'
theorem opsCopy_calls (A : Option Addr) (c : Nat) (l : List Stp) (w : World) (hl : l.length ≤ 1048576) (hs : Sps w A l) :
  Calls Try.prog 164 #[.slice A l.length c] w (KrRet kOp w l) := by
 obtain ⟨ds0, hg⟩ := hs.gsrc
 have hbd := hs.bound
 have HBD := hD hbd
 have HG := hD hg
 have K1 := hD (cloneOps_calls A l.length c (kOp.cells l ds0) w (cells_len _ _ hg.len) (by omega) hg.row (cells_oneCell _ _))
 clear hs hg hbd
 go_enter Try.func164, Try.ntmps164
 go_wp2_with fail
 refine K1.out.mono ?_
 rintro e w1 ⟨A1, c1, rfl, hown, hb1⟩
 have hrow : GRow kOp w1 w.heap.size l ds0 A1 c1 := ⟨HG.out.len, hown, (HG.out.stays hb1).data, fun i o d h1 h2 hx k hk e => by
  have := HG.out.each i o d h1 h2 hx k hk
  have := (hown.block k e).1
  omega⟩
 have HR0 := hD hrow
 have HB0 : Hid (Below w.heap.size w w1) := hD hb1
 clear hown hb1 hrow K1
 go_wp2_with fail
 go_loopw [9] (fun i wr => ∃ (k : Nat) (ds : List (Option Addr × Nat)), k ≤ l.length ∧ i = .int .i64 k ∧ Hid (GRow kOp wr w.heap.size l ds A1 c1) ∧ Hid (∀ (j : Nat) (o : Stp) (d : Option Addr × Nat), j < k → l[j]? = some o → ds[j]? = some d → kOp.dat o ≠ [] → ∀ q, d.1.map (·.block) = some q → w.heap.size ≤ q) ∧ Hid (Below w.heap.size w wr)) (fun i _ => l.length - (intOf i).toNat)
 case atStart => exact ⟨0, ds0, Nat.zero_le _, rfl, HR0, hD (fun j o d h => by omega), HB0⟩
 case round =>
  clear HR0 HB0
  rename World => wr
  obtain ⟨k, ds, hk, rfl, HR, HN, HB⟩ := hrel
  have hsz := HB.out.size
  by_cases hlt : k < l.length
  ·obtain ⟨g, rfl, hg1, hg2⟩ := HR.out.row.form (by omega)
   have hlk : l[k]? = some l[k] := List.getElem?_eq_getElem hlt
   have hdk : ds[k]? = some (ds[k]'(by have := HR.out.len; omega)) := List.getElem?_eq_getElem _
   obtain ⟨x, hx⟩ : ∃ x, l[k] = x := ⟨_, rfl⟩
   obtain ⟨e, he⟩ : ∃ e, ds[k]'(by have := HR.out.len; omega) = e := ⟨_, rfl⟩
   rw [hx] at hlk
   rw [he] at hdk
   have hcell : ∀ j, j < 3 → wr.cell? ⟨g, k * 3 + j, none⟩ = (kOp.cell x e)[j]? := fun j hj => by
    rw [HR.out.row.cellAt _ (show k * 3 + j < l.length * 3 by omega)]
    exact cells_at (K := kOp) l ds HR.out.len k j x e hlk hdk hj
   have q0 : wr.cell? ⟨g, k * 3, none⟩ = some (iv x.at_) := hcell 0 (by decide)
   have q1 : wr.cell? ⟨g, k * 3 + 1, none⟩ = some (iv x.len) := hcell 1 (by decide)
   have q2 : wr.cell? ⟨g, k * 3 + 2, none⟩ = some (.slice e.1 x.data.length e.2) := hcell 2 (by decide)
   obtain ⟨hd1, hd2⟩ := HR.out.data k x e hlk hdk
   have hxl : x.data.length ≤ 1048576 := (HBD.out x (List.mem_of_getElem? hlk)).2.2
   have HD1 : Hid (Bts wr e.1 x.data) := hD hd1
   have HLK := hD hlk
   have HDK := hD hdk
   have K2 := hD (fun w h => cloneBytes_calls e.1 x.data.length e.2 (x.data.map bv) w (by simp) (by omega) h (bv_one _))
   have hfr : wr.frozen? ⟨g, k * 3 + 2, none⟩ = false := HR.out.row.frozenAt _
   have dl : decide ((k : Int) < (l.length : Int)) = true := decide_eq_true (by omega)
   have hwk : IntKind.i64.wrap ((k : Int) + 1) = (k : Int) + 1 := IntWalk.i64_in _ (by omega)
   have hcap : (l.length : Int) ≤ (c1 : Int) := by have := HR.out.row.le; omega
   clear hcell hx he hlk hdk hd1 hd2
   go_wp2_with fail
   have hba := (Below.refl wr.heap.size wr).alloc (Nat.le_refl _) (.cells (#[iv x.at_, iv x.len, .slice e.1 x.data.length e.2]) 117)
   refine (K2.out _ (HD1.out.stays hba).src).mono ?_
   rintro en w2 ⟨B, d, rfl, hob, hb2⟩
   have hb3 := hba.trans (hb2.mono (by simp))
   have HR2 := hD (HR.out.below hb3)
   have hq2 : w2.cell? ⟨g, k * 3 + 2, none⟩ = some (.slice e.1 x.data.length e.2) := (hb3.cell (p := ⟨g, k * 3 + 2, none⟩) hg2).trans q2
   have hf2 : w2.frozen? ⟨g, k * 3 + 2, none⟩ = false := (hb3.frozen (p := ⟨g, k * 3 + 2, none⟩) hg2).trans hfr
   have HBB : Hid (Below w.heap.size w (w2.setCell ⟨g, k * 3 + 2, none⟩ (.slice B x.data.length d))) := hD ((HB.out.trans (hb3.mono hsz)).setCell (p := ⟨g, k * 3 + 2, none⟩) hg1 _)
   have hgw : ∀ q, B.map (·.block) = some q → wr.heap.size + 1 ≤ q := fun q h => by have := (hob.block q h).1; simpa using this
   have HR3 : Hid (GRow kOp (w2.setCell ⟨g, k * 3 + 2, none⟩ (.slice B x.data.length d)) w.heap.size l (ds.set k (B, d)) (some ⟨g, 0, none⟩) c1) := hD (HR2.out.setData (e := (B, d)) HLK.out hob.src.bts (by show x.data.length ≤ d; simpa using hob.le) (fun _ q h e2 => by have := hgw q h; omega))
   have HN3 : Hid (∀ (j : Nat) (o : Stp) (d' : Option Addr × Nat), j < k + 1 → l[j]? = some o → (ds.set k (B, d))[j]? = some d' → kOp.dat o ≠ [] → ∀ q, d'.1.map (·.block) = some q → w.heap.size ≤ q) := hD (fun j o d' hj h1 h2 hx q hq => by
    rw [List.getElem?_set] at h2
    by_cases hjk : k = j
    ·by_cases hdl : k < ds.length
     ·rw [if_pos hjk, if_pos hdl] at h2
      injection h2 with h2
      subst h2
      have := hgw q hq
      omega
     ·rw [if_pos hjk, if_neg hdl] at h2; cases h2
    ·rw [if_neg hjk] at h2
     exact HN.out j o d' (by omega) h1 h2 hx q hq)
   obtain ⟨a0r, a0f, a0n, a0c, a0z, a0l⟩ := kp (wr.heap.size) (#[iv x.at_, iv x.len, .slice e.1 x.data.length e.2]) hb2
   clear hob hb2 hb3 hba q0 q1 q2 hfr hgw a0r a0f a0n a0c a0z a0l
   go_wp2_with fail
   go_roundw
   case rel => exact ⟨k + 1, ds.set k (B, d), by omega, by go_num, HR3, HN3, HBB⟩
   case measure => simp [intOf]; omega
  ·obtain rfl : k = l.length := by omega
   have dl : decide ((l.length : Int) < (l.length : Int)) = false := by simp
   go_wp2_with fail
   go_ret
   exact ⟨A1, c1, ds, rfl, HR.out, fun i o d h1 h2 hx q hq => HN.out i o d (List.getElem?_eq_some_iff.1 h1).1 h1 h2 hx q hq, HB.out⟩
def PcRet (w : World) (p : Pat) : Ending → World → Prop := fun en w' =>
 ∃ A c, en = .returned (.agg (patA p.from_ p.to_ p.old p.new_ p.size A p.ops.length c)) ∧ Fresh w.heap.size w' (fun v => PatIn v p A c) ∧ Below w.heap.size w w'
theorem patCopy_calls (B : Option Addr) (d : Nat) (p : Pat) (w : World) (hp : PatIn w p B d) :
  Calls Try.prog 152 #[.agg (patA p.from_ p.to_ p.old p.new_ p.size B p.ops.length d)] w (PcRet w p) := by
 obtain ⟨f, t, o, n, sz, l⟩ := p
 obtain ⟨hcap, hlen, hops, j0, j1, j2, j3, j4⟩ := hp
 dsimp only at *
 have hba := ((Below.refl w.heap.size w).alloc (Nat.le_refl _) (.cells (patA f t o n sz B l.length d) 35)).alloc (by simp) (.cells (patA 0 0 0 0 0 none 0 0) 35)
 have HBD := hD hops.bound
 have HS := hD hops
 have HI : Hid (I64 f ∧ I64 t ∧ I64 o ∧ I64 n ∧ I64 sz) := hD ⟨j0, j1, j2, j3, j4⟩
 have HBA := hD hba
 clear hops hba j0 j1 j2 j3 j4
 go_enter Try.func152, Try.ntmps152
 go_wp2_with fail
 refine (opsCopy_calls B d l _ hlen (HS.out.stays HBA.out)).mono ?_
 rintro e w1 ⟨A1, c1, ds, rfl, hg, he, hb1⟩
 obtain ⟨a0r, a0f, a0n, a0c, a0z, a0l⟩ := kp (w.heap.size) (patA f t o n sz B l.length d) hb1
 obtain ⟨a1r, a1f, a1n, a1c, a1z, a1l⟩ := kp (w.heap.size + 1) (patA 0 0 0 0 0 none 0 0) hb1
 have HB1 := hD (HBA.out.trans (hb1.mono (by simp; omega)))
 have hfr := hg.fresh he
 have HF : Hid (Fresh (w.heap.size + 2) w1 (fun v => GRow kOp v (w.heap.size + 2) l ds A1 c1)) := hD (by simpa using hfr)
 have HC := hD hg.row.le
 clear hb1 hg he hfr
 go_wp2_with fail
 refine bodyPost_ret (results_c rfl rfl (cs := patA f t o n sz A1 l.length c1) (by go_simp) (by go_simp) (by go_simp)) rfl ?_
 refine ⟨A1, c1, rfl, ?_, ?_⟩
 ·refine Fresh.imp (P := fun v => GRow kOp v (w.heap.size + 2) l ds A1 c1) (Fresh.mono (base := w.heap.size + 2) ?_ (by omega)) (fun v hv => ⟨HC.out, hlen, hv.src.sps HBD.out, HI.out.1, HI.out.2.1, HI.out.2.2.1, HI.out.2.2.2.1, HI.out.2.2.2.2⟩)
  repeat (first | exact HF.out | refine Fresh.row ?_ (by omega) _ | refine Fresh.cell ?_ (by simp) _)
 ·have hs := HB1.out.size
  repeat (first | exact HB1.out | refine bR ?_ _ | refine bC ?_ _ | refine bA ?_ _)
theorem chkCopy_calls (A : Option Addr) (c : Nat) (l : List Chk) (w : World) (hl : l.length ≤ 1048576) (hs : Chs w A l) :
  Calls Try.prog 101 #[.slice A l.length c] w (KrRet kChk w l) := by
 obtain ⟨ds0, hg⟩ := hs.gsrc
 have hbd := hs.bound
 have HBD := hD hbd
 have HG := hD hg
 have K1 := hD (cloneChunks_calls A l.length c (kChk.cells l ds0) w (cells_len _ _ hg.len) (by omega) hg.row (cells_oneCell _ _))
 clear hs hg hbd
 go_enter Try.func101, Try.ntmps101
 go_wp2_with fail
 refine K1.out.mono ?_
 rintro e w1 ⟨A1, c1, rfl, hown, hb1⟩
 have hrow : GRow kChk w1 w.heap.size l ds0 A1 c1 := ⟨HG.out.len, hown, (HG.out.stays hb1).data, fun i o d h1 h2 hx k hk e => by
  have := HG.out.each i o d h1 h2 hx k hk
  have := (hown.block k e).1
  omega⟩
 have HR0 := hD hrow
 have HB0 : Hid (Below w.heap.size w w1) := hD hb1
 clear hown hb1 hrow K1
 go_wp2_with fail
 go_loopw [9] (fun i wr => ∃ (k : Nat) (ds : List (Option Addr × Nat)), k ≤ l.length ∧ i = .int .i64 k ∧ Hid (GRow kChk wr w.heap.size l ds A1 c1) ∧ Hid (∀ (j : Nat) (o : Chk) (d : Option Addr × Nat), j < k → l[j]? = some o → ds[j]? = some d → kChk.dat o ≠ [] → ∀ q, d.1.map (·.block) = some q → w.heap.size ≤ q) ∧ Hid (Below w.heap.size w wr)) (fun i _ => l.length - (intOf i).toNat)
 case atStart => exact ⟨0, ds0, Nat.zero_le _, rfl, HR0, hD (fun j o d h => by omega), HB0⟩
 case round =>
  clear HR0 HB0
  rename World => wr
  obtain ⟨k, ds, hk, rfl, HR, HN, HB⟩ := hrel
  have hsz := HB.out.size
  by_cases hlt : k < l.length
  ·obtain ⟨g, rfl, hg1, hg2⟩ := HR.out.row.form (by omega)
   have hlk : l[k]? = some l[k] := List.getElem?_eq_getElem hlt
   have hdk : ds[k]? = some (ds[k]'(by have := HR.out.len; omega)) := List.getElem?_eq_getElem _
   obtain ⟨x, hx⟩ : ∃ x, l[k] = x := ⟨_, rfl⟩
   obtain ⟨e, he⟩ : ∃ e, ds[k]'(by have := HR.out.len; omega) = e := ⟨_, rfl⟩
   rw [hx] at hlk
   rw [he] at hdk
   have hcell : ∀ j, j < 5 → wr.cell? ⟨g, k * 5 + j, none⟩ = (kChk.cell x e)[j]? := fun j hj => by
    rw [HR.out.row.cellAt _ (show k * 5 + j < l.length * 5 by omega)]
    exact cells_at (K := kChk) l ds HR.out.len k j x e hlk hdk hj
   have q0 : wr.cell? ⟨g, k * 5, none⟩ = some (iv x.from_) := hcell 0 (by decide)
   have q1 : wr.cell? ⟨g, k * 5 + 1, none⟩ = some (iv x.to_) := hcell 1 (by decide)
   have q2 : wr.cell? ⟨g, k * 5 + 2, none⟩ = some (iv x.n) := hcell 2 (by decide)
   have q3 : wr.cell? ⟨g, k * 5 + 3, none⟩ = some (iv x.of_) := hcell 3 (by decide)
   have q4 : wr.cell? ⟨g, k * 5 + 4, none⟩ = some (.slice e.1 x.data.length e.2) := hcell 4 (by decide)
   obtain ⟨hd1, hd2⟩ := HR.out.data k x e hlk hdk
   have hxl : x.data.length ≤ 1048576 := (HBD.out x (List.mem_of_getElem? hlk)).1
   have HD1 : Hid (Bts wr e.1 x.data) := hD hd1
   have HLK := hD hlk
   have HDK := hD hdk
   have K2 := hD (fun w h => cloneBytes_calls e.1 x.data.length e.2 (x.data.map bv) w (by simp) (by omega) h (bv_one _))
   have hfr : wr.frozen? ⟨g, k * 5 + 4, none⟩ = false := HR.out.row.frozenAt _
   have dl : decide ((k : Int) < (l.length : Int)) = true := decide_eq_true (by omega)
   have hwk : IntKind.i64.wrap ((k : Int) + 1) = (k : Int) + 1 := IntWalk.i64_in _ (by omega)
   have hcap : (l.length : Int) ≤ (c1 : Int) := by have := HR.out.row.le; omega
   clear hcell hx he hlk hdk hd1 hd2
   go_wp2_with fail
   have hba := (Below.refl wr.heap.size wr).alloc (Nat.le_refl _) (.cells (chkA x.from_ x.to_ x.n x.of_ e.1 x.data.length e.2) 49)
   refine (K2.out _ (HD1.out.stays hba).src).mono ?_
   rintro en w2 ⟨B, d, rfl, hob, hb2⟩
   have hb3 := hba.trans (hb2.mono (by simp))
   have HR2 := hD (HR.out.below hb3)
   have hq2 : w2.cell? ⟨g, k * 5 + 4, none⟩ = some (.slice e.1 x.data.length e.2) := (hb3.cell (p := ⟨g, k * 5 + 4, none⟩) hg2).trans q4
   have hf2 : w2.frozen? ⟨g, k * 5 + 4, none⟩ = false := (hb3.frozen (p := ⟨g, k * 5 + 4, none⟩) hg2).trans hfr
   have HBB : Hid (Below w.heap.size w (w2.setCell ⟨g, k * 5 + 4, none⟩ (.slice B x.data.length d))) := hD ((HB.out.trans (hb3.mono hsz)).setCell (p := ⟨g, k * 5 + 4, none⟩) hg1 _)
   have hgw : ∀ q, B.map (·.block) = some q → wr.heap.size + 1 ≤ q := fun q h => by have := (hob.block q h).1; simpa using this
   have HR3 : Hid (GRow kChk (w2.setCell ⟨g, k * 5 + 4, none⟩ (.slice B x.data.length d)) w.heap.size l (ds.set k (B, d)) (some ⟨g, 0, none⟩) c1) := hD (HR2.out.setData (e := (B, d)) HLK.out hob.src.bts (by show x.data.length ≤ d; simpa using hob.le) (fun _ q h e2 => by have := hgw q h; omega))
   have HN3 : Hid (∀ (j : Nat) (o : Chk) (d' : Option Addr × Nat), j < k + 1 → l[j]? = some o → (ds.set k (B, d))[j]? = some d' → kChk.dat o ≠ [] → ∀ q, d'.1.map (·.block) = some q → w.heap.size ≤ q) := hD (fun j o d' hj h1 h2 hx q hq => by
    rw [List.getElem?_set] at h2
    by_cases hjk : k = j
    ·by_cases hdl : k < ds.length
     ·rw [if_pos hjk, if_pos hdl] at h2
      injection h2 with h2
      subst h2
      have := hgw q hq
      omega
     ·rw [if_pos hjk, if_neg hdl] at h2; cases h2
    ·rw [if_neg hjk] at h2
     exact HN.out j o d' (by omega) h1 h2 hx q hq)
   obtain ⟨a0r, a0f, a0n, a0c, a0z, a0l⟩ := kp (wr.heap.size) (chkA x.from_ x.to_ x.n x.of_ e.1 x.data.length e.2) hb2
   clear hob hb2 hb3 hba q0 q1 q2 q3 q4 hfr hgw a0r a0f a0n a0c a0z a0l
   go_wp2_with fail
   go_roundw
   case rel => exact ⟨k + 1, ds.set k (B, d), by omega, by go_num, HR3, HN3, HBB⟩
   case measure => simp [intOf]; omega
  ·obtain rfl : k = l.length := by omega
   have dl : decide ((l.length : Int) < (l.length : Int)) = false := by simp
   go_wp2_with fail
   go_ret
   exact ⟨A1, c1, ds, rfl, HR.out, fun i o d h1 h2 hx q hq => HN.out i o d (List.getElem?_eq_some_iff.1 h1).1 h1 h2 hx q hq, HB.out⟩
def dcJ (w0 : World) (g : Nat) (d : Dev) (L : DLoc) : Nat → (Nat → Value) → World → Prop
 | 0, _, w => w = w0.drew
 | 1, cv, w => ∃ A5 c5, cv 3 = .slice A5 d.s0.length c5 ∧ Own w w0.heap.size 5 1 A5 d.s0.length c5 (d.s0.map bv) ∧ Below w0.heap.size w0 w
 | 2, cv, w => ∃ A5 c5 w1 A6 c6, cv 3 = .slice A5 d.s0.length c5 ∧ Own w1 w0.heap.size 5 1 A5 d.s0.length c5 (d.s0.map bv) ∧ Below w0.heap.size w0 w1 ∧ cv 7 = .slice A6 d.s1.length c6 ∧ Own w w1.heap.size 5 1 A6 d.s1.length c6 (d.s1.map bv) ∧ Below w1.heap.size w1 w
 | 3, cv, w => ∃ A5 c5 w1 A6 c6, cv 8 = .agg (slotsA A5 d.s0.length c5 A6 d.s1.length c6) ∧ Own w1 w0.heap.size 5 1 A5 d.s0.length c5 (d.s0.map bv) ∧ Below w0.heap.size w0 w1 ∧ Own w w1.heap.size 5 1 A6 d.s1.length c6 (d.s1.map bv) ∧ Below w1.heap.size w1 w
 | _, _, w => ∃ A5 c5 w1 A6 c6 w2, Own w1 w0.heap.size 5 1 A5 d.s0.length c5 (d.s0.map bv) ∧ Below w0.heap.size w0 w1 ∧ Own w2 w1.heap.size 5 1 A6 d.s1.length c6 (d.s1.map bv) ∧ Below w1.heap.size w1 w2 ∧ w = w2.setRow g (devA d { L with a0 := A5, c0 := c5, a1 := A6, c1 := c6 })
theorem dcJ_row {L : DLoc} (hk : k ≤ 3) (hr : rowOf w0 g = devA d L) (hf : frOf w0 g = (0, 0)) (hJ : dcJ w0 g d L k cv w) : rowOf w g = devA d L ∧ frOf w g = (0, 0) := by
 have hg : g < w0.heap.size := row_lt (w := w0) (by rw [hr]; simp [devA])
 have key : Below w0.heap.size w0 w → rowOf w g = devA d L ∧ frOf w g = (0, 0) := fun hb => ⟨(rowOf_below hg hb).trans hr, (frOf_below hg hb).trans hf⟩
 match k, hk, hJ with
 | 0, _, hJ => obtain rfl : w = w0.drew := hJ; exact key (Below.refl _ _).drew
 | 1, _, ⟨_, _, _, _, h⟩ => exact key h
 | 2, _, ⟨_, _, w1, _, _, _, _, h, _, _, h2⟩ => exact key (h.trans (h2.mono h.size))
 | 3, _, ⟨_, _, w1, _, _, _, _, h, _, h2⟩ => exact key (h.trans (h2.mono h.size))
def dcK (w0 : World) (g : Nat) (d : Dev) (L : DLoc) : Nat → (Nat → Value) → World → Prop
 | 0, _, w => w = w0.drew
 | 1, cv, w => ∃ A5 c5 ds, cv 2 = .slice A5 d.got.length c5 ∧ GRow kChk w w0.heap.size d.got ds A5 c5 ∧ Each kChk d.got ds (fun k => w0.heap.size ≤ k) ∧ Below w0.heap.size w0 w
 | 2, cv, w => ∃ A5 c5 ds w4 A6 c6, cv 2 = .slice A5 d.got.length c5 ∧ cv 5 = .agg (patA d.job.from_ d.job.to_ d.job.old d.job.new_ d.job.size A6 d.job.ops.length c6) ∧ GRow kChk w4 w0.heap.size d.got ds A5 c5 ∧ Each kChk d.got ds (fun k => w0.heap.size ≤ k) ∧ Below w0.heap.size w0 w4 ∧
   Fresh w4.heap.size w (fun v => PatIn v d.job A6 c6) ∧ Below w4.heap.size w4 w
 | 3, cv, w => ∃ A5 c5 ds w4 A6 c6 w5, cv 5 = .agg (patA d.job.from_ d.job.to_ d.job.old d.job.new_ d.job.size A6 d.job.ops.length c6) ∧ GRow kChk w4 w0.heap.size d.got ds A5 c5 ∧ Each kChk d.got ds (fun k => w0.heap.size ≤ k) ∧ Below w0.heap.size w0 w4 ∧
   Fresh w4.heap.size w5 (fun v => PatIn v d.job A6 c6) ∧ Below w4.heap.size w4 w5 ∧ w = w5.setRow g (devA d { L with ag := A5, cg := c5 })
 | _, _, w => ∃ A5 c5 ds w4 A6 c6 w5, GRow kChk w4 w0.heap.size d.got ds A5 c5 ∧ Each kChk d.got ds (fun k => w0.heap.size ≤ k) ∧ Below w0.heap.size w0 w4 ∧
   Fresh w4.heap.size w5 (fun v => PatIn v d.job A6 c6) ∧ Below w4.heap.size w4 w5 ∧ w = w5.setRow g (devA d { L with ag := A5, cg := c5, aj := A6, cj := c6 })
theorem dcK_row {L : DLoc} (hk : k ≤ 2) (hr : rowOf w0 g = devA d L) (hf : frOf w0 g = (0, 0)) (hg : g < w0.heap.size) (hJ : dcK w0 g d L k cv w) : rowOf w g = devA d L ∧ frOf w g = (0, 0) := by
 have key : Below w0.heap.size w0 w → rowOf w g = devA d L ∧ frOf w g = (0, 0) := fun hb => ⟨(rowOf_below hg hb).trans hr, (frOf_below hg hb).trans hf⟩
 match k, hk, hJ with
 | 0, _, hJ => obtain rfl : w = w0.drew := hJ; exact key (Below.refl _ _).drew
 | 1, _, ⟨_, _, _, _, _, _, h⟩ => exact key h
 | 2, _, ⟨_, _, _, w1, _, _, _, _, _, _, h, _, h2⟩ => exact key (h.trans (h2.mono h.size))
theorem dcEnd {w1 w3 w4 w5 w' : World} {L2 : DLoc} {A5 A6 A7 A8 : Option Addr} {c5 c6 c7 c8 : Nat} {ds : List (Option Addr × Nat)} (HIN : DevIn w0 d L2 ∨ True)
  (hl : d.s0.length ≤ 1048576 ∧ d.s1.length ≤ 1048576 ∧ d.got.length ≤ 1048576) (hi : I64 d.running ∧ I64 d.done) (hbd : ∀ x ∈ d.got, ChkB x)
  (h0 : Own w3 w0.heap.size 5 1 A5 d.s0.length c5 (d.s0.map bv)) (h1 : Own w3 w1.heap.size 5 1 A6 d.s1.length c6 (d.s1.map bv))
  (hbk : (∀ k, A5.map (·.block) = some k → k < w1.heap.size) ∧ (∀ k, A6.map (·.block) = some k → k < w3.heap.size) ∧ w0.heap.size ≤ w1.heap.size ∧ w1.heap.size ≤ w3.heap.size)
  (hg : Fresh w3.heap.size w4 (fun v => GRow kChk v w3.heap.size d.got ds A7 c7)) (hf : Fresh w4.heap.size w5 (fun v => PatIn v d.job A8 c8)) (b4 : Below w3.heap.size w3 w4) (b5 : Below w4.heap.size w4 w5) (hc : d.got.length ≤ c7)
  (he : L2.a0 = A5 ∧ L2.c0 = c5 ∧ L2.a1 = A6 ∧ L2.c1 = c6) (hw : ∀ k, w0.heap.size ≤ k → w'.heap[k]? = w5.heap[k]?) : DvOwn w' w0.heap.size d { L2 with ag := A7, cg := c7, aj := A8, cj := c8 } := by
 obtain ⟨e1, e2, e3, e4⟩ := he
 have s4 := b4.size
 have hk : ∀ k, w0.heap.size ≤ k → k < w3.heap.size → w'.heap[k]? = w3.heap[k]? := fun k h1 h2 => (hw k h1).trans (((b5.block k (by omega))).trans (b4.block k h2))
 refine ⟨w1.heap.size, w3.heap.size, hbk.2.2.1, hbk.2.2.2, ?_, ?_, ?_, ?_, ?_, ?_, hl.1, hl.2.1, hc, hl.2.2, hi.1, hi.2⟩
 ·show Own w' _ _ _ L2.a0 _ L2.c0 _
  rw [e1, e2]; exact own_fresh h0 hk
 ·show ∀ k, L2.a0.map (·.block) = some k → _
  rw [e1]; exact hbk.1
 ·show Own w' _ _ _ L2.a1 _ L2.c1 _
  rw [e3, e4]; exact own_fresh h1 (fun k h => hk k (by have := hbk.2.2.1; omega))
 ·show ∀ k, L2.a1.map (·.block) = some k → _
  rw [e3]; exact hbk.2.1
 ·have g5 : Fresh w3.heap.size w5 (fun v => GRow kChk v w3.heap.size d.got ds A7 c7) := hg.below b5 (Nat.le_refl _)
  exact (g5.fresh (fun k h1 h2 => hw k (by have := hbk.2.2; omega))).imp fun v hv => hv.src.chs hbd
 ·exact (hf.mono s4).fresh (fun k h1 h2 => hw k (by have := hbk.2.2; omega))
@[go_sem] theorem build_slots (a : Option Addr) (k c : Nat) (b : Option Addr) (m e : Nat) (w : World) : runBuild Try.prog 61 #[(0, .slice a k c), (1, .slice b m e)] w = .ok (.agg (slotsA a k c b m e)) w := by kernel_rfl
theorem devCopy_calls (d : Dev) (L : DLoc) (w : World) (h : DevIn w d L) : Calls Try.prog 124 #[.agg (devA d L)] w (DcRet w d) := by
 have HI := hD h
 have HL : Hid (d.s0.length ≤ 1048576 ∧ d.s1.length ≤ 1048576 ∧ d.got.length ≤ 1048576) := hD ⟨h.l0, h.l1, h.lg⟩
 have HI2 : Hid (I64 d.running ∧ I64 d.done) := hD ⟨h.ir, h.id⟩
 have HBD : Hid (∀ x ∈ d.got, ChkB x) := hD h.got.bound
 clear h
 go_enter Try.func124, Try.ntmps124
 go_wp2_with fail
 have q1 : rowOf ((w.alloc (.cells (devA d L) 71)).alloc (.cells (devA Dev.zero DLoc.zero) 71)) w.heap.size = devA d L := by go_simp
 have q2 : frOf ((w.alloc (.cells (devA d L) 71)).alloc (.cells (devA Dev.zero DLoc.zero) 71)) w.heap.size = (0, 0) := by go_simp
 have q3 : rowOf ((w.alloc (.cells (devA d L) 71)).alloc (.cells (devA Dev.zero DLoc.zero) 71)) (w.heap.size + 1) = devA Dev.zero DLoc.zero := by go_simp
 have q4 : frOf ((w.alloc (.cells (devA d L) 71)).alloc (.cells (devA Dev.zero DLoc.zero) 71)) (w.heap.size + 1) = (0, 0) := by go_simp
 obtain ⟨w0, hw0⟩ : ∃ w0, (w.alloc (.cells (devA d L) 71)).alloc (.cells (devA Dev.zero DLoc.zero) 71) = w0 := ⟨_, rfl⟩
 have HB0 : Hid (Below w.heap.size w w0) := hD (by rw [← hw0]; exact ((Below.refl _ _).alloc (Nat.le_refl _) _).alloc (by simp) _)
 obtain ⟨g, hg⟩ : ∃ g, w.heap.size = g := ⟨_, rfl⟩
 rw [hw0, hg] at q1 q2 q3 q4
 have HR := hD q1
 have HF := hD q2
 have HRz := hD q3
 have HFz := hD q4
 have HSZ : Hid (w0.heap.size = g + 2) := hD (by rw [← hw0, ← hg]; simp)
 have HG : Hid (g < w0.heap.size) := hD (by rw [HSZ.out]; omega)
 rw [hw0]
 rw [hg] at HB0 ⊢
 have HGE := hD hg
 clear hw0 hg q1 q2 q3 q4
 have HIN : Hid (DevIn w0 d L) := hD (HI.out.stays (HGE.out ▸ HB0.out))
 have K0 : Hid (∀ wq, Below w0.heap.size w0 wq → Calls Try.prog 100 #[.slice L.a0 d.s0.length L.c0] wq (SlRet wq 5 1 d.s0.length (d.s0.map bv))) := hD (fun wq h => cloneBytes_calls _ _ _ _ wq (by simp) (by have := HL.out.1; omega) (HIN.out.b0.stays h).src (bv_one _))
 have K1 : Hid (∀ wq, Below w0.heap.size w0 wq → Calls Try.prog 100 #[.slice L.a1 d.s1.length L.c1] wq (SlRet wq 5 1 d.s1.length (d.s1.map bv))) := hD (fun wq h => cloneBytes_calls _ _ _ _ wq (by simp) (by have := HL.out.2.1; omega) (HIN.out.b1.stays h).src (bv_one _))
 refine wp_region_mix (by kernel_rfl) (some 3 :: some 4 :: some 5 :: some 6 :: some 7 :: some 8 :: some 9 :: some 10 :: some 11 :: some 12 :: none :: []) (none :: none :: none :: some 0 :: none :: none :: none :: some 1 :: some 2 :: none :: some 3 :: []) (.pointer (some ⟨g, 0, none⟩) :: .pointer (some ⟨g, 0, none⟩) :: .slice L.a0 d.s0.length L.c0 :: undef :: .pointer (some ⟨g, 0, none⟩) :: .pointer (some ⟨g, 1, none⟩) :: .slice L.a1 d.s1.length L.c1 :: undef :: undef :: .pointer (some ⟨g, 0, none⟩) :: undef :: []) 4 (dcJ w0 g d L) 22 rfl rfl (by decide +kernel) (by decide +kernel) (by decide +kernel) (by decide +kernel) rfl rfl (by decide +kernel) (by decide +kernel) (rfl) ?_ ?_
 ·refine ⟨?_, ?_⟩
  ·intro done cv k0 a wq hw h hJ hn
   have e1 := mO 1 (.pointer (some ⟨g, 0, none⟩)) h
   go_simp
  refine ⟨?_, ?_⟩
  ·intro done cv k0 a wq hw h hJ hn
   have e3 := mN 0 3 h hw
   go_simp
  refine ⟨?_, ?_⟩
  ·intro done cv k0 a wq hw h hJ hn
   have e4 := mN 1 4 h hw
   have hk := hn 10 _ 3 rfl rfl (by decide)
   obtain ⟨hr, hf⟩ := dcJ_row hk HR.out HF.out hJ
   have hc := cell_row (w := wq) (g := g) (by rw [hr]; simp [devA])
   go_simp
  refine ⟨?_, ?_⟩
  ·intro done cv a wq hw h hJ
   have e5 := mN 2 5 h hw
   obtain rfl : wq = w0.drew := hJ
   refine wp_call (vals := #[.slice L.a0 d.s0.length L.c0]) (by rw [List.map_toArray, List.map_cons, List.map_nil, ch_ev e5]) (enters_of Try.func100 (by kernel_rfl) rfl _ _) (K0.out _ ((Below.refl _ _).drew)) ?_
   rintro e w' ⟨A5, c5, rfl, hown, hbel⟩
   exact ⟨_, rfl, _, rfl, A5, c5, by simp, hown, (Below.refl _ _).drew.trans hbel⟩
  refine ⟨?_, ?_⟩
  ·intro done cv k0 a wq hw h hJ hn
   have e1 := mO 1 (.pointer (some ⟨g, 0, none⟩)) h
   go_simp
  refine ⟨?_, ?_⟩
  ·intro done cv k0 a wq hw h hJ hn
   have e7 := mN 4 7 h hw
   go_simp
  refine ⟨?_, ?_⟩
  ·intro done cv k0 a wq hw h hJ hn
   have e8 := mN 5 8 h hw
   have hk := hn 10 _ 3 rfl rfl (by decide)
   obtain ⟨hr, hf⟩ := dcJ_row hk HR.out HF.out hJ
   have hc := cell_row (w := wq) (g := g) (by rw [hr]; simp [devA])
   go_simp
  refine ⟨?_, ?_⟩
  ·intro done cv a wq hw h hJ
   have e9 := mN 6 9 h hw
   obtain ⟨A5, c5, y1, hown, hbel⟩ := hJ
   refine wp_call (vals := #[.slice L.a1 d.s1.length L.c1]) (by rw [List.map_toArray, List.map_cons, List.map_nil, ch_ev e9]) (enters_of Try.func100 (by kernel_rfl) rfl _ _) (K1.out _ hbel) ?_
   rintro e w' ⟨A6, c6, rfl, hown2, hbel2⟩
   exact ⟨_, rfl, _, rfl, A5, c5, wq, A6, c6, by simpa using y1, hown, hbel, by simp, hown2, hbel2⟩
  refine ⟨?_, ?_⟩
  ·intro done cv a wq hw h hJ
   have e6 := mx_cv (i := 3) (t := 6) h (hw 3 (by decide)) rfl rfl; have e10 := mx_cv (i := 7) (t := 10) h (hw 7 (by decide)) rfl rfl
   obtain ⟨A5, c5, w1, A6, c6, y1, hown, hbel, y2, hown2, hbel2⟩ := hJ
   rw [y1] at e6
   rw [y2] at e10
   refine wp_val (v := .agg (slotsA A5 d.s0.length c5 A6 d.s1.length c6)) (by go_simp) ⟨_, rfl, A5, c5, w1, A6, c6, by simp, hown, hbel, hown2, hbel2⟩
  refine ⟨?_, ?_⟩
  ·intro done cv k0 a wq hw h hJ hn
   have e1 := mO 1 (.pointer (some ⟨g, 0, none⟩)) h
   go_simp
  refine ⟨?_, ?_⟩
  ·intro done cv a wq hw h hJ
   have e12 := mN 9 12 h hw; have e11 := mx_cv (i := 8) (t := 11) h (hw 8 (by decide)) rfl rfl
   obtain ⟨A5, c5, w1, A6, c6, y3, hown, hbel, hown2, hbel2⟩ := hJ
   rw [y3] at e11
   have hbl := hbel.trans (hbel2.mono hbel.size)
   refine wp_srow e12 e11 (by go_simp) (by go_simp) (cs := devA d L) ((rowOf_below HG.out hbl).trans HR.out) (by go_simp) ((frOf_below HG.out hbl).trans HF.out) (by go_simp) ⟨undef, rfl, A5, c5, w1, A6, c6, wq, hown, hbel, hown2, hbel2, ?_⟩
   rw [devA_splice_slots]
  exact trivial
 intro cv w3' hJ
 obtain ⟨A5, c5, w1, A6, c6, w2, hown, hbel, hown2, hbel2, rfl⟩ := hJ
 simp only [mixAll, putAll_some, putAll_none, putAll_nil, List.getElem?_cons_zero, List.getElem?_cons_succ, Nat.zero_add, Nat.reduceAdd, List.setIfInBounds_toArray, List.set_cons_zero, List.set_cons_succ]
 obtain ⟨L2, hL2⟩ : ∃ L2 : DLoc, { L with a0 := A5, c0 := c5, a1 := A6, c1 := c6 } = L2 := ⟨_, rfl⟩
 have hbl := hbel.trans (hbel2.mono hbel.size)
 have hr2 : rowOf w2 g = devA d L := (rowOf_below HG.out hbl).trans HR.out
 obtain ⟨w3, hw3⟩ : ∃ w3, w2.setRow g (devA d { L with a0 := A5, c0 := c5, a1 := A6, c1 := c6 }) = w3 := ⟨_, rfl⟩
 rw [hw3]
 rw [hL2] at hw3
 have HR2 : Hid (rowOf w3 g = devA d L2) := hD (by rw [← hw3, rowOf_setRow _ _ _ _ (by rw [hr2]; simp [devA]), if_pos rfl])
 have HF2 : Hid (frOf w3 g = (0, 0)) := hD (by rw [← hw3, frOf_setRow]; exact (frOf_below HG.out hbl).trans HF.out)
 have HRz2 : Hid (rowOf w3 (g + 1) = devA Dev.zero DLoc.zero) := hD (by rw [← hw3, rowOf_setRow _ _ _ _ (by rw [hr2]; simp [devA]), if_neg (by omega)]; exact (rowOf_below (by rw [HSZ.out]; omega) hbl).trans HRz.out)
 have HFz2 : Hid (frOf w3 (g + 1) = (0, 0)) := hD (by rw [← hw3, frOf_setRow]; exact (frOf_below (by rw [HSZ.out]; omega) hbl).trans HFz.out)
 have hs3 : w3.heap.size = w2.heap.size := by rw [← hw3]; simp [World.setRow]
 have hs1 := hbel.size
 have hs2 := hbel2.size
 have hsz := HSZ.out
 have HG2 : Hid (g < w3.heap.size) := hD (by omega)
 have HGz : Hid (g + 1 < w3.heap.size) := hD (by omega)
 have HB3 : Hid (Below g w w3) := hD (by rw [← hw3]; exact below_row (HB0.out.trans (hbl.mono (by omega))) (Nat.le_refl _) _)
 have HIN2 : Hid (Chs w3 L.ag d.got ∧ PatIn w3 d.job L.aj L.cj) := hD (by have hi := HI.out.stays (HGE.out ▸ HB3.out); exact ⟨hi.got, hi.job⟩)
 have HO0 : Hid (Own w3 w0.heap.size 5 1 A5 d.s0.length c5 (d.s0.map bv)) := hD (by rw [← hw3]; exact own_fresh (hown.below (B := 0) hbel2) fun k h1 h2 => setRow_other _ _ _ _ (by omega))
 have HO1 : Hid (Own w3 w1.heap.size 5 1 A6 d.s1.length c6 (d.s1.map bv)) := hD (by rw [← hw3]; exact own_fresh hown2 fun k h1 h2 => setRow_other _ _ _ _ (by omega))
 have HBK : Hid ((∀ k, A5.map (·.block) = some k → k < w1.heap.size) ∧ (∀ k, A6.map (·.block) = some k → k < w3.heap.size) ∧ w0.heap.size ≤ w1.heap.size ∧ w1.heap.size ≤ w3.heap.size) := hD ⟨fun k hk => (hown.block k hk).2, fun k hk => by have := (hown2.block k hk).2; omega, hs1, by omega⟩
 have HE : Hid (L2.ag = L.ag ∧ L2.cg = L.cg ∧ L2.aj = L.aj ∧ L2.cj = L.cj ∧ L2.a0 = A5 ∧ L2.c0 = c5 ∧ L2.a1 = A6 ∧ L2.c1 = c6) := hD (by rw [← hL2]; exact ⟨rfl, rfl, rfl, rfl, rfl, rfl, rfl, rfl⟩)
 have K2 : Hid (∀ wq, Below w3.heap.size w3 wq → Calls Try.prog 101 #[.slice L2.ag d.got.length L2.cg] wq (KrRet kChk wq d.got)) := hD (fun wq h => chkCopy_calls _ _ _ wq HL.out.2.2 (by rw [HE.out.1]; exact HIN2.out.1.stays h))
 have K3 : Hid (∀ wq, Below w3.heap.size w3 wq → Calls Try.prog 152 #[.agg (patA d.job.from_ d.job.to_ d.job.old d.job.new_ d.job.size L2.aj d.job.ops.length L2.cj)] wq (PcRet wq d.job)) := hD (fun wq h => patCopy_calls _ _ _ wq (by rw [HE.out.2.2.1, HE.out.2.2.2.1]; exact HIN2.out.2.stays h))
 clear hown hown2 hbel hbel2 hbl hr2 hw3 hL2 hs3 hs1 hs2 hsz K0 K1 HB0 HR HF HRz HFz
 go_wp2_with fail
 refine wp_region_mix (by kernel_rfl) (some 13 :: some 14 :: some 15 :: some 16 :: some 17 :: some 18 :: some 19 :: none :: some 20 :: none :: []) (none :: none :: some 0 :: none :: none :: some 1 :: none :: some 2 :: none :: some 3 :: []) (.pointer (some ⟨g, 28, none⟩) :: .slice L2.ag d.got.length L2.cg :: undef :: .pointer (some ⟨g, 30, none⟩) :: .agg (patA d.job.from_ d.job.to_ d.job.old d.job.new_ d.job.size L2.aj d.job.ops.length L2.cj) :: undef :: .pointer (some ⟨g, 28, none⟩) :: undef :: .pointer (some ⟨g, 30, none⟩) :: undef :: []) 4 (dcK w3 g d L2) 22 rfl rfl (by decide +kernel) (by decide +kernel) (by decide +kernel) (by decide +kernel) rfl rfl (by decide +kernel) (by decide +kernel) (rfl) ?_ ?_
 ·refine ⟨?_, ?_⟩
  ·intro done cv k0 a wq hw h hJ hn
   have e1 := mO 1 (.pointer (some ⟨g, 0, none⟩)) h
   go_simp
  refine ⟨?_, ?_⟩
  ·intro done cv k0 a wq hw h hJ hn
   have e13 := mN 0 13 h hw
   have hk := hn 7 _ 2 rfl rfl (by decide)
   obtain ⟨hr, hf⟩ := dcK_row hk HR2.out HF2.out HG2.out hJ
   have hc := cell_row (w := wq) (g := g) (by rw [hr]; simp [devA])
   go_simp
  refine ⟨?_, ?_⟩
  ·intro done cv a wq hw h hJ
   have e14 := mN 1 14 h hw
   obtain rfl : wq = w3.drew := hJ
   refine wp_call (vals := #[.slice L2.ag d.got.length L2.cg]) (by rw [List.map_toArray, List.map_cons, List.map_nil, ch_ev e14]) (enters_of Try.func101 (by kernel_rfl) rfl _ _) (K2.out _ ((Below.refl _ _).drew)) ?_
   rintro e w' ⟨A5, c5, ds, rfl, hrow, heach, hbel⟩
   exact ⟨_, rfl, _, rfl, A5, c5, ds, by simp, hrow, heach, (Below.refl _ _).drew.trans hbel⟩
  refine ⟨?_, ?_⟩
  ·intro done cv k0 a wq hw h hJ hn
   have e1 := mO 1 (.pointer (some ⟨g, 0, none⟩)) h
   go_simp
  refine ⟨?_, ?_⟩
  ·intro done cv k0 a wq hw h hJ hn
   have e16 := mN 3 16 h hw
   have hk := hn 7 _ 2 rfl rfl (by decide)
   obtain ⟨hr, hf⟩ := dcK_row hk HR2.out HF2.out HG2.out hJ
   have hc := cell_row (w := wq) (g := g) (by rw [hr]; simp [devA])
   go_simp
  refine ⟨?_, ?_⟩
  ·intro done cv a wq hw h hJ
   have e17 := mN 4 17 h hw
   obtain ⟨A5, c5, ds, y1, hrow, heach, hbel⟩ := hJ
   refine wp_call (vals := #[.agg (patA d.job.from_ d.job.to_ d.job.old d.job.new_ d.job.size L2.aj d.job.ops.length L2.cj)]) (by rw [List.map_toArray, List.map_cons, List.map_nil, ch_ev e17]) (enters_of Try.func152 (by kernel_rfl) rfl _ _) (K3.out _ hbel) ?_
   rintro e w' ⟨A6, c6, rfl, hfr, hbel2⟩
   exact ⟨_, rfl, _, rfl, A5, c5, ds, wq, A6, c6, by simpa using y1, by simp, hrow, heach, hbel, hfr, hbel2⟩
  refine ⟨?_, ?_⟩
  ·intro done cv k0 a wq hw h hJ hn
   have e1 := mO 1 (.pointer (some ⟨g, 0, none⟩)) h
   go_simp
  refine ⟨?_, ?_⟩
  ·intro done cv a wq hw h hJ
   have e19 := mN 6 19 h hw; have e15 := mx_cv (i := 2) (t := 15) h (hw 2 (by decide)) rfl rfl
   obtain ⟨A5, c5, ds, w4, A6, c6, y1, y2, hrow, heach, hbel, hfr, hbel2⟩ := hJ
   rw [y1] at e15
   have hbl := hbel.trans (hbel2.mono hbel.size)
   refine wp_ssc e19 e15 (cs := devA d L2) ((rowOf_below HG2.out hbl).trans HR2.out) (by go_simp) ((frOf_below HG2.out hbl).trans HF2.out) ⟨undef, rfl, A5, c5, ds, w4, A6, c6, wq, by simpa using y2, hrow, heach, hbel, hfr, hbel2, ?_⟩
   rw [devA_set_got]
  refine ⟨?_, ?_⟩
  ·intro done cv k0 a wq hw h hJ hn
   have e1 := mO 1 (.pointer (some ⟨g, 0, none⟩)) h
   go_simp
  refine ⟨?_, ?_⟩
  ·intro done cv a wq hw h hJ
   have e20 := mN 8 20 h hw; have e18 := mx_cv (i := 5) (t := 18) h (hw 5 (by decide)) rfl rfl
   obtain ⟨A5, c5, ds, w4, A6, c6, w5, y2, hrow, heach, hbel, hfr, hbel2, rfl⟩ := hJ
   rw [y2] at e18
   have hbl := hbel.trans (hbel2.mono hbel.size)
   have hr5 : rowOf w5 g = devA d L2 := (rowOf_below HG2.out hbl).trans HR2.out
   have hf5 : frOf w5 g = (0, 0) := (frOf_below HG2.out hbl).trans HF2.out
   refine wp_srow e20 e18 (by go_simp) (by go_simp) (cs := devA d { L2 with ag := A5, cg := c5 }) (by rw [rowOf_setRow _ _ _ _ (by rw [hr5]; simp [devA]), if_pos rfl]) (by go_simp) (by rw [frOf_setRow]; exact hf5) (by go_simp) ⟨undef, rfl, A5, c5, ds, w4, A6, c6, w5, hrow, heach, hbel, hfr, hbel2, ?_⟩
   rw [devA_splice_job, setRow_setRow]
  exact trivial
 intro cv w6 hJ
 obtain ⟨A7, c7, ds, w4, A8, c8, w5, hrow, heach, hbel, hfr, hbel2, rfl⟩ := hJ
 simp only [mixAll, putAll_some, putAll_none, putAll_nil, List.getElem?_cons_zero, List.getElem?_cons_succ, Nat.zero_add, Nat.reduceAdd, List.setIfInBounds_toArray, List.set_cons_zero, List.set_cons_succ]
 have hbl := hbel.trans (hbel2.mono hbel.size)
 have hr5 : rowOf w5 g = devA d L2 := (rowOf_below HG2.out hbl).trans HR2.out
 have hf5 : frOf w5 g = (0, 0) := (frOf_below HG2.out hbl).trans HF2.out
 have hrz5 : rowOf w5 (g + 1) = devA Dev.zero DLoc.zero := (rowOf_below HGz.out hbl).trans HRz2.out
 have hfz5 : frOf w5 (g + 1) = (0, 0) := (frOf_below HGz.out hbl).trans HFz2.out
 have HGR := hD (hrow.fresh heach)
 have HFR := hD hfr
 have HB4 := hD hbel
 have HB5 := hD hbel2
 have HC7 := hD hrow.row.le
 clear hrow heach hfr hbel hbel2 hbl
 go_wp2_with fail
 refine bodyPost_ret (results_c rfl rfl (cs := devA d { L2 with ag := A7, cg := c7, aj := A8, cj := c8 }) (by go_simp) (by go_simp) (by go_simp)) rfl ?_
 have hsz := HSZ.out
 have hge := HGE.out
 have s4 := HB4.out.size
 have s5 := HB5.out.size
 have hbk := HBK.out.2.2
 refine ⟨_, rfl, DvOwn.fresh (DvOwn.mono (base := w0.heap.size) (dcEnd (.inr trivial) HL.out HI2.out HBD.out HO0.out HO1.out HBK.out HGR.out HFR.out HB4.out HB5.out HC7.out HE.out.2.2.2.2 ?_) (by omega)), ?_⟩
 ·intro k hk
  repeat (first | rfl | refine (setRow_other _ _ _ _ (by omega)).trans ?_)
 ·rw [hge]
  repeat (first | exact HB3.out.trans ((HB4.out.trans (HB5.out.mono s4)).mono (by omega)) | refine bR ?_ _)
def RdRet (w : World) (d : Dev) : Ending → World → Prop := fun en w' =>
 ∃ L, en = .returned (.tuple #[.agg (devA d L), .agg (recA d.rec_), iv 0]) ∧ Fresh w.heap.size w' (fun v => DvOwn v w.heap.size d L) ∧ Below w.heap.size w w'
theorem devReady_check (h : devCheck d ≠ 0) : devReady d = devCheck d := by unfold devReady; rw [if_pos h]
theorem devReady_off (h : devCheck d = 0) (hu : d.up = false) : devReady d = 5 := by unfold devReady; rw [if_neg (by omega), if_pos hu]
theorem devReady_up (h : devReady d = 0) : devCheck d = 0 ∧ d.up = true := by
 have := devReady_ok.1 h
 exact ⟨devCheck_ok.2 this.1, this.2⟩
theorem ready_bad (d : Dev) (L : DLoc) (w : World) (h : DevIn w d L) (hne : devReady d ≠ 0) : Calls Try.prog 121 #[.agg (devA d L)] w (RetB w (.tuple #[.agg (devA Dev.zero DLoc.zero), .agg (recA Rec.zero), iv (devReady d)])) := by
 have hba := (((Below.refl w.heap.size w).alloc (Nat.le_refl _) (.cells (devA d L) 71)).alloc (by simp) (.cells (devA Dev.zero DLoc.zero) 71)).alloc (by simp; omega) (.cells (recA Rec.zero) 66)
 have HBA := hD hba
 have HIN := hD h
 have K1 := hD (fun w h => devCheck_calls d L w h)
 by_cases hc : devCheck d ≠ 0
 first | case' inl => have T2 : Hid True := hD trivial | case' pos => have T2 : Hid True := hD trivial | case' refine_1 => have T2 : Hid True := hD trivial
 iterate 2
  ·first
    |
     revert T2; intro T2
     rw [devReady_check hc]
     have q : (devCheck d != 0) = true := by simp [hc]
     generalize devCheck d = n at *
    |
     have hc := Decidable.not_not.1 hc
     have hu : d.up = false := by
      cases hu : d.up
      ·rfl
      ·exact absurd (devReady_ok.2 ⟨devCheck_ok.1 hc, hu⟩) hne
     rw [devReady_off hc hu]
     rw [hc] at K1
   clear hne hc h hba
   go_enter Try.func121, Try.ntmps121
   go_wp2_with fail
   refine (K1.out _ (HIN.out.stays HBA.out)).mono ?_
   rintro e w1 ⟨rfl, hb1⟩
   obtain ⟨a0r, a0f, a0n, a0c, a0z, a0l⟩ := kp (w.heap.size) (devA d L) hb1
   obtain ⟨a1r, a1f, a1n, a1c, a1z, a1l⟩ := kp (w.heap.size + 1) (devA Dev.zero DLoc.zero) hb1
   obtain ⟨a2r, a2f, a2n, a2c, a2z, a2l⟩ := kp (w.heap.size + 1 + 1) (recA Rec.zero) hb1
   have HB1 := hD (HBA.out.trans (hb1.mono (by simp; omega)))
   clear hb1
   go_wp2_with fail
   refine bodyPost_ret (results_cct rfl rfl (cs := devA Dev.zero DLoc.zero) (ds := recA Rec.zero) (by go_simp) (by go_simp) (by go_simp) rfl (by go_simp) (by go_simp) (by go_simp)) rfl ⟨rfl, ?_⟩
   have hs := HB1.out.size
   repeat (first | exact HB1.out | refine bR ?_ _ | refine bC ?_ _ | refine bA ?_ _)
def rdJ (w0 : World) (g : Nat) (d : Dev) : Nat → (Nat → Value) → World → Prop
 | 0, _, w => w = w0.drew
 | 1, cv, w => ∃ L2, cv 1 = .agg (devA d L2) ∧ Fresh w0.heap.size w (fun v => DvOwn v w0.heap.size d L2) ∧ Below w0.heap.size w0 w
 | 2, _, w => ∃ L2 w2, Fresh w0.heap.size w2 (fun v => DvOwn v w0.heap.size d L2) ∧ Below w0.heap.size w0 w2 ∧ w = w2.setRow (g + 1) (devA d L2)
 | _, _, w => ∃ L2 w2, Fresh w0.heap.size w2 (fun v => DvOwn v w0.heap.size d L2) ∧ Below w0.heap.size w0 w2 ∧ w = (w2.setRow (g + 1) (devA d L2)).setRow (g + 1 + 1) (recA d.rec_)
theorem rdJ_bel (hk : k ≤ 1) (hJ : rdJ w0 g d k cv w) : Below w0.heap.size w0 w := by
 match k, hk, hJ with
 | 0, _, hJ => obtain rfl : w = w0.drew := hJ; exact (Below.refl _ _).drew
 | 1, _, ⟨_, _, _, h⟩ => exact h
theorem rdJ_any {g6 : Nat} (hk : k ≤ 2) (hg : g6 ≠ g + 1) (hr : rowOf w0 g6 = recA d.rec_) (hf : frOf w0 g6 = (0, 0)) (hz : rowOf w0 (g + 1) = devA Dev.zero DLoc.zero) (hJ : rdJ w0 g d k cv w) : rowOf w g6 = recA d.rec_ ∧ frOf w g6 = (0, 0) := by
 have hlt := row_lt (w := w0) (g := g6) (by rw [hr]; simp [recA])
 have hlt1 := row_lt (w := w0) (g := g + 1) (by rw [hz]; simp [devA])
 match k, hk, hJ with
 | 0, _, hJ => have hb := rdJ_bel (k := 0) (by omega) hJ; exact ⟨(rowOf_below hlt hb).trans hr, (frOf_below hlt hb).trans hf⟩
 | 1, _, hJ => have hb := rdJ_bel (k := 1) (by omega) hJ; exact ⟨(rowOf_below hlt hb).trans hr, (frOf_below hlt hb).trans hf⟩
 | 2, _, ⟨L2, w2, _, hb, e⟩ =>
  subst e
  rw [rowOf_setRow _ _ _ _ (by rw [rowOf_below hlt1 hb, hz]; simp [devA]), if_neg hg, frOf_setRow]
  exact ⟨(rowOf_below hlt hb).trans hr, (frOf_below hlt hb).trans hf⟩
theorem ready_ok (d : Dev) (L : DLoc) (w : World) (h : DevIn w d L) (hz : devReady d = 0) : Calls Try.prog 121 #[.agg (devA d L)] w (RdRet w d) := by
 have hba := (((Below.refl w.heap.size w).alloc (Nat.le_refl _) (.cells (devA d L) 71)).alloc (by simp) (.cells (devA Dev.zero DLoc.zero) 71)).alloc (by simp; omega) (.cells (recA Rec.zero) 66)
 have HBA := hD hba
 have HIN := hD h
 have K1 := hD (fun w h => devCheck_calls d L w h)
 obtain ⟨hc, hu⟩ := devReady_up hz
 have K2 := hD (fun w => read_ok d.c0 d.c1 w (devCheck_ok.1 hc).cops)
 obtain ⟨rk, hrk⟩ : ∃ rk, (recRead d.c0 d.c1).2 = rk := ⟨_, rfl⟩
 have hrec : (recRead d.c0 d.c1).1 = d.rec_ := rfl
 rw [hrk, hrec] at K2
 rw [hc] at K1
 clear hz hc h hba hrk hrec
 go_enter Try.func121, Try.ntmps121
 go_wp2_with fail
 refine (K1.out _ (HIN.out.stays HBA.out)).mono ?_
 rintro e w1 ⟨rfl, hb1⟩
 obtain ⟨a0r, a0f, a0n, a0c, a0z, a0l⟩ := kp (w.heap.size) (devA d L) hb1
 obtain ⟨a1r, a1f, a1n, a1c, a1z, a1l⟩ := kp (w.heap.size + 1) (devA Dev.zero DLoc.zero) hb1
 obtain ⟨a2r, a2f, a2n, a2c, a2z, a2l⟩ := kp (w.heap.size + 1 + 1) (recA Rec.zero) hb1
 have HB1 := hD (HBA.out.trans (hb1.mono (by simp; omega)))
 clear hb1
 go_wp2_with fail
 refine (K2.out _).mono ?_
 rintro e w2 ⟨rfl, hb2⟩
 obtain ⟨a0r, a0f, a0n, a0c, a0z, a0l⟩ := kp (w.heap.size) (devA d L) hb2
 obtain ⟨a1r, a1f, a1n, a1c, a1z, a1l⟩ := kp (w.heap.size + 1) (devA Dev.zero DLoc.zero) hb2
 obtain ⟨a2r, a2f, a2n, a2c, a2z, a2l⟩ := kp (w.heap.size + 1 + 1) (recA Rec.zero) hb2
 have HB2 := hD (HB1.out.trans (hb2.mono HB1.out.size))
 clear hb2
 go_wp2_with fail
 have q1 : rowOf (w2.alloc (.cells (recA d.rec_) 66)) w.heap.size = devA d L := by rw [rowOf_alloc, if_neg a0n]; exact a0r
 have q2 : frOf (w2.alloc (.cells (recA d.rec_) 66)) w.heap.size = (0, 0) := by rw [frOf_alloc, if_neg a0n]; exact a0f
 have q3 : rowOf (w2.alloc (.cells (recA d.rec_) 66)) (w.heap.size + 1) = devA Dev.zero DLoc.zero := by rw [rowOf_alloc, if_neg a1n]; exact a1r
 have q4 : frOf (w2.alloc (.cells (recA d.rec_) 66)) (w.heap.size + 1) = (0, 0) := by rw [frOf_alloc, if_neg a1n]; exact a1f
 have q5 : rowOf (w2.alloc (.cells (recA d.rec_) 66)) (w.heap.size + 1 + 1) = recA Rec.zero := by rw [rowOf_alloc, if_neg a2n]; exact a2r
 have q6 : frOf (w2.alloc (.cells (recA d.rec_) 66)) (w.heap.size + 1 + 1) = (0, 0) := by rw [frOf_alloc, if_neg a2n]; exact a2f
 have q7 : rowOf (w2.alloc (.cells (recA d.rec_) 66)) w2.heap.size = recA d.rec_ := by rw [rowOf_alloc, if_pos rfl]
 have q8 : frOf (w2.alloc (.cells (recA d.rec_) 66)) w2.heap.size = (0, 0) := by rw [frOf_alloc, if_pos rfl]
 have HB3 : Hid (Below w.heap.size w (w2.alloc (.cells (recA d.rec_) 66))) := hD (HB2.out.alloc HB2.out.size _)
 have HSZ : Hid (w.heap.size + 1 + 1 < (w2.alloc (.cells (recA d.rec_) 66)).heap.size) := hD (by simp; omega)
 have HG6 : Hid (w2.heap.size ≠ w.heap.size + 1) := hD (by omega)
 obtain ⟨g6, hg6⟩ : ∃ g6, w2.heap.size = g6 := ⟨_, rfl⟩
 obtain ⟨w3, hw3⟩ : ∃ w3, w2.alloc (.cells (recA d.rec_) 66) = w3 := ⟨_, rfl⟩
 obtain ⟨g, hg⟩ : ∃ g, w.heap.size = g := ⟨_, rfl⟩
 rw [hw3, hg] at q1 q2 q3 q4 q5 q6 HB3 HSZ
 rw [hw3, hg6] at q7 q8
 rw [hg6, hg] at HG6
 rw [hw3, hg6, hg]
 have RD := hD q1
 have FD := hD q2
 have RZ := hD q3
 have FZ := hD q4
 have RY := hD q5
 have FY := hD q6
 have RR := hD q7
 have FR := hD q8
 have HG := hD hg
 have KC : Hid (∀ wq, Below w3.heap.size w3 wq → Calls Try.prog 124 #[.agg (devA d L)] wq (DcRet wq d)) := hD (fun wq h => devCopy_calls d L wq ((HIN.out.stays (HG.out ▸ HB3.out)).stays h))
 clear q1 q2 q3 q4 q5 q6 q7 q8 hw3 hg6 hg a0r a0f a0n a0c a0z a0l a1r a1f a1n a1c a1z a1l a2r a2f a2n a2c a2z a2l
 refine wp_region_mix (by kernel_rfl) (some 28 :: some 29 :: some 30 :: some 31 :: none :: none :: some 4 :: []) (none :: some 0 :: none :: none :: some 1 :: some 2 :: none :: []) (.agg (devA d L) :: undef :: .agg (recA d.rec_) :: iv 0 :: undef :: undef :: iv 0 :: []) 3 (rdJ w3 g d) 32 rfl rfl (by decide +kernel) (by decide +kernel) (by decide +kernel) (by decide +kernel) rfl rfl (by decide +kernel) (by decide +kernel) (rfl) ?_ ?_
 ·refine ⟨?_, ?_⟩
  ·intro done cv k0 a wq hw h hJ hn
   have e1 := mO 1 (.pointer (some ⟨g, 0, none⟩)) h
   have hk := hn 4 _ 1 rfl rfl (by decide)
   have hb := rdJ_bel hk hJ
   obtain ⟨r_, f_, n_, c_, z_, l_⟩ := keep1 hb RD.out (by go_simp) FD.out
   go_simp
  refine ⟨?_, ?_⟩
  ·intro done cv a wq hw h hJ
   have e28 := mN 0 28 h hw
   obtain rfl : wq = w3.drew := hJ
   refine wp_call (vals := #[.agg (devA d L)]) (by rw [List.map_toArray, List.map_cons, List.map_nil, ch_ev e28]) (enters_of Try.func124 (by kernel_rfl) rfl _ _) (KC.out _ ((Below.refl _ _).drew)) ?_
   rintro e w' ⟨L2, rfl, hfr, hbel⟩
   exact ⟨_, rfl, _, rfl, L2, by simp, hfr, (Below.refl _ _).drew.trans hbel⟩
  refine ⟨?_, ?_⟩
  ·intro done cv k0 a wq hw h hJ hn
   have e6 := mO 6 (.pointer (some ⟨g6, 0, none⟩)) h
   have hk := hn 5 _ 2 rfl rfl (by decide)
   obtain ⟨r_, f_⟩ := rdJ_any hk HG6.out RR.out FR.out RZ.out hJ
   go_simp
  refine ⟨?_, ?_⟩
  ·intro done cv k0 a wq hw h hJ hn
   have e8 := mO 8 (iv 0) h
   exact mx_move (ch_ev e8)
  refine ⟨?_, ?_⟩
  ·intro done cv a wq hw h hJ
   have e2 := mO 2 (.pointer (some ⟨g + 1, 0, none⟩)) h; have e29 := mx_cv (i := 1) (t := 29) h (hw 1 (by decide)) rfl rfl
   obtain ⟨L2, y1, hfr, hbel⟩ := hJ
   rw [y1] at e29
   obtain ⟨r_, f_, n_, c_, z_, l_⟩ := keep1 hbel RZ.out (by go_simp) FZ.out
   refine wp_srow e2 e29 (by go_simp) (by go_simp) r_ (by go_simp) f_ (by go_simp) ⟨undef, rfl, L2, wq, hfr, hbel, ?_⟩
   rw [splice_all _ _ (by simp [devA])]
  refine ⟨?_, ?_⟩
  ·intro done cv a wq hw h hJ
   have e3 := mO 3 (.pointer (some ⟨g + 1 + 1, 0, none⟩)) h; have e30 := mN 2 30 h hw
   obtain ⟨L2, w2, hfr, hbel, rfl⟩ := hJ
   obtain ⟨r_, f_, n_, c_, z_, l_⟩ := keep1 hbel RY.out (by go_simp) FY.out
   obtain ⟨r2_, f2_, n2_, c2_, z2_, l2_⟩ := keep1 hbel RZ.out (by go_simp) FZ.out
   refine wp_srow e3 e30 (by go_simp) (by go_simp) (cs := recA Rec.zero) (by rw [rowOf_setRow _ _ _ _ (by rw [r2_]; simp [devA]), if_neg (by omega)]; exact r_) (by go_simp) (by rw [frOf_setRow]; exact f_) (by go_simp) ⟨undef, rfl, L2, w2, hfr, hbel, ?_⟩
   rw [splice_all _ _ (by simp [recA])]
  refine ⟨?_, ?_⟩
  ·intro done cv k0 a wq hw h hJ hn
   have e31 := mN 3 31 h hw
   exact mx_assign (ch_ev e31)
  exact trivial
 intro cv w4 hJ
 obtain ⟨L2, w5, hfr, hbel, rfl⟩ := hJ
 simp only [mixAll, putAll_some, putAll_none, putAll_nil, List.getElem?_cons_zero, List.getElem?_cons_succ, Nat.zero_add, Nat.reduceAdd, List.setIfInBounds_toArray, List.set_cons_zero, List.set_cons_succ]
 have hsz := HSZ.out
 have hge := HG.out
 obtain ⟨r_, f_, n_, c_, z_, l_⟩ := keep1 hbel RY.out (by go_simp) FY.out
 obtain ⟨r2_, f2_, n2_, c2_, z2_, l2_⟩ := keep1 hbel RZ.out (by go_simp) FZ.out
 have HFR := hD hfr
 have HB5 := hD hbel
 clear hfr hbel
 go_wp2_with fail
 refine bodyPost_ret (results_cct rfl rfl (cs := devA d L2) (ds := recA d.rec_) (by go_simp) (by go_simp) (by go_simp) rfl (by go_simp) (by go_simp) (by go_simp)) rfl ⟨L2, rfl, ?_, ?_⟩
 ·refine Fresh.imp (P := fun v => DvOwn v w3.heap.size d L2) (Fresh.mono (base := w3.heap.size) ?_ (by omega)) (fun v hv => hv.mono (by omega))
  repeat (first | exact HFR.out | refine Fresh.row ?_ (by omega) _)
 ·rw [hge]
  have hb3 := HB3.out.size
  have hb := HB3.out.trans (HB5.out.mono (by omega))
  repeat (first | exact hb | refine bR ?_ _)
end Go.Proofs.Ytefkfglkpebbmac
