/- The walk of chunk.Copy. Printed by gen_rowcopy.py. No conditions. -/
import Derived.Test.YtefkfglkpebbmacQGKinds
import Derived.Test.YtefkfglkpebbmacQCloneBytes
import Derived.Test.YtefkfglkpebbmacQCloneChunks
import Derived.Test.YtefkfglkpebbmacQChkRows
import Derived.Test.YtefkfglkpebbmacQKrRet
namespace Go.Proofs.Ytefkfglkpebbmac
open Go.RowKit
set_option linter.unusedVariables false
set_option linter.unusedSimpArgs false

set_option maxRecDepth 100000 in
set_option maxHeartbeats 8000000 in
theorem chkCopy_calls (A : Option Addr) (c : Nat) (l : List Chk) (w : World) (hl : l.length ≤ 1048576) (hs : Chs w A l) :
    Calls Try.prog 101 #[.slice A l.length c] w (KrRet kChk w l) := by
  obtain ⟨ds0, hg⟩ := hs.gsrc
  have hbd := hs.bound
  have HBD := Lib.hid hbd
  have HG := Lib.hid hg
  have K1 := Lib.hid (cloneChunks_calls A l.length c (kChk.cells l ds0) w (cells_len _ _ hg.len) (by omega) hg.row (cells_oneCell _ _))
  clear hs hg hbd
  go_enter Try.func101, Try.ntmps101
  go_wp2_with fail
  refine K1.out.mono ?_
  rintro e w1 ⟨A1, c1, rfl, hown, hb1⟩
  have hrow : GRow kChk w1 w.heap.size l ds0 A1 c1 := ⟨HG.out.len, hown, (HG.out.stays hb1).data, fun i o d h1 h2 hx k hk e => by
    have := HG.out.each i o d h1 h2 hx k hk
    have := (hown.block k e).1
    omega⟩
  have HR0 := Lib.hid hrow
  have HB0 : Hid (Below w.heap.size w w1) := Lib.hid hb1
  clear hown hb1 hrow K1
  go_wp2_with fail
  go_loopw [9] (fun i wr => ∃ (k : Nat) (ds : List (Option Addr × Nat)), k ≤ l.length ∧ i = .int .i64 k ∧ Hid (GRow kChk wr w.heap.size l ds A1 c1) ∧ Hid (∀ (j : Nat) (o : Chk) (d : Option Addr × Nat), j < k → l[j]? = some o → ds[j]? = some d → kChk.dat o ≠ [] → ∀ q, d.1.map (·.block) = some q → w.heap.size ≤ q) ∧ Hid (Below w.heap.size w wr)) (fun i _ => l.length - (intOf i).toNat)
  case atStart => exact ⟨0, ds0, Nat.zero_le _, rfl, HR0, Lib.hid (fun j o d h => by omega), HB0⟩
  case round =>
    clear HR0 HB0
    rename World => wr
    obtain ⟨k, ds, hk, rfl, HR, HN, HB⟩ := hrel
    have hsz := HB.out.size
    by_cases hlt : k < l.length
    · obtain ⟨g, rfl, hg1, hg2⟩ := HR.out.row.form (by omega)
      have hlk : l[k]? = some l[k] := List.getElem?_eq_getElem hlt
      have hdk : ds[k]? = some (ds[k]'(by have := HR.out.len; omega)) := List.getElem?_eq_getElem _
      obtain ⟨x, hx⟩ : ∃ x, l[k] = x := ⟨_, rfl⟩
      obtain ⟨e, he⟩ : ∃ e, ds[k]'(by have := HR.out.len; omega) = e := ⟨_, rfl⟩
      rw [hx] at hlk
      rw [he] at hdk
      have hcell : ∀ j, j < 5 → wr.cell? ⟨g, k * 5 + j, none⟩ = (kChk.cell x e)[j]? := fun j hj => by
        rw [HR.out.row.cellAt _ (show k * 5 + j < l.length * 5 by omega)]
        exact cells_at (K := kChk) l ds HR.out.len k j x e hlk hdk hj
      have q0 : wr.cell? ⟨g, k * 5, none⟩ = some (iv x.from_) := hcell 0 (by decide)
      have q1 : wr.cell? ⟨g, k * 5 + 1, none⟩ = some (iv x.to_) := hcell 1 (by decide)
      have q2 : wr.cell? ⟨g, k * 5 + 2, none⟩ = some (iv x.n) := hcell 2 (by decide)
      have q3 : wr.cell? ⟨g, k * 5 + 3, none⟩ = some (iv x.of_) := hcell 3 (by decide)
      have q4 : wr.cell? ⟨g, k * 5 + 4, none⟩ = some (.slice e.1 x.data.length e.2) := hcell 4 (by decide)
      obtain ⟨hd1, hd2⟩ := HR.out.data k x e hlk hdk
      have hxl : x.data.length ≤ 1048576 := (HBD.out x (List.mem_of_getElem? hlk)).1
      have HD1 : Hid (Bts wr e.1 x.data) := Lib.hid hd1
      have HLK := Lib.hid hlk
      have HDK := Lib.hid hdk
      have K2 := Lib.hid (fun w h => cloneBytes_calls e.1 x.data.length e.2 (x.data.map bv) w (by simp) (by omega) h (bv_one _))
      have hfr : wr.frozen? ⟨g, k * 5 + 4, none⟩ = false := HR.out.row.frozenAt _
      have dl : decide ((k : Int) < (l.length : Int)) = true := decide_eq_true (by omega)
      have hwk : IntKind.i64.wrap ((k : Int) + 1) = (k : Int) + 1 := IntWalk.i64_in _ (by omega)
      have hcap : (l.length : Int) ≤ (c1 : Int) := by have := HR.out.row.le; omega
      clear hcell hx he hlk hdk hd1 hd2
      go_wp2_with fail
      have hba := (Below.refl wr.heap.size wr).alloc (Nat.le_refl _) (.cells (chkA x.from_ x.to_ x.n x.of_ e.1 x.data.length e.2) 49)
      refine (K2.out _ (HD1.out.stays hba).src).mono ?_
      rintro en w2 ⟨B, d, rfl, hob, hb2⟩
      have hb3 := hba.trans (hb2.mono (by simp))
      have HR2 := Lib.hid (HR.out.below hb3)
      have hq2 : w2.cell? ⟨g, k * 5 + 4, none⟩ = some (.slice e.1 x.data.length e.2) := (hb3.cell (p := ⟨g, k * 5 + 4, none⟩) hg2).trans q4
      have hf2 : w2.frozen? ⟨g, k * 5 + 4, none⟩ = false := (hb3.frozen (p := ⟨g, k * 5 + 4, none⟩) hg2).trans hfr
      have HBB : Hid (Below w.heap.size w (w2.setCell ⟨g, k * 5 + 4, none⟩ (.slice B x.data.length d))) := Lib.hid ((HB.out.trans (hb3.mono hsz)).setCell (p := ⟨g, k * 5 + 4, none⟩) hg1 _)
      have hgw : ∀ q, B.map (·.block) = some q → wr.heap.size + 1 ≤ q := fun q h => by have := (hob.block q h).1; simpa using this
      have HR3 : Hid (GRow kChk (w2.setCell ⟨g, k * 5 + 4, none⟩ (.slice B x.data.length d)) w.heap.size l (ds.set k (B, d)) (some ⟨g, 0, none⟩) c1) := Lib.hid (HR2.out.setData (e := (B, d)) HLK.out hob.src.bts (by show x.data.length ≤ d; simpa using hob.le) (fun _ q h e2 => by have := hgw q h; omega))
      have HN3 : Hid (∀ (j : Nat) (o : Chk) (d' : Option Addr × Nat), j < k + 1 → l[j]? = some o → (ds.set k (B, d))[j]? = some d' → kChk.dat o ≠ [] → ∀ q, d'.1.map (·.block) = some q → w.heap.size ≤ q) := Lib.hid (fun j o d' hj h1 h2 hx q hq => by
        rw [List.getElem?_set] at h2
        by_cases hjk : k = j
        · by_cases hdl : k < ds.length
          · rw [if_pos hjk, if_pos hdl] at h2
            injection h2 with h2
            subst h2
            have := hgw q hq
            omega
          · rw [if_pos hjk, if_neg hdl] at h2; cases h2
        · rw [if_neg hjk] at h2
          exact HN.out j o d' (by omega) h1 h2 hx q hq)
      obtain ⟨a0r, a0f, a0n, a0c, a0z, a0l⟩ := keep1 (g := wr.heap.size) (cs := chkA x.from_ x.to_ x.n x.of_ e.1 x.data.length e.2) hb2 (by first | (go_simp; done) | (go_simp; rfl)) (by go_simp) (by go_simp)
      clear hob hb2 hb3 hba q0 q1 q2 q3 q4 hfr hgw a0r a0f a0n a0c a0z a0l
      go_wp2_with fail
      go_roundw
      case rel => exact ⟨k + 1, ds.set k (B, d), by omega, by go_num, HR3, HN3, HBB⟩
      case measure => simp [intOf]; omega
    · obtain rfl : k = l.length := by omega
      have dl : decide ((l.length : Int) < (l.length : Int)) = false := by simp
      go_wp2_with fail
      go_ret
      exact ⟨A1, c1, ds, rfl, HR.out, fun i o d h1 h2 hx q hq => HN.out i o d (List.getElem?_eq_some_iff.1 h1).1 h1 h2 hx q hq, HB.out⟩
end Go.Proofs.Ytefkfglkpebbmac
