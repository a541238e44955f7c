/- The walk of the document's Composed. No conditions. -/
import Derived.Test.YtefkfglkpebbmabRefTwo
import Derived.Test.YtefkfglkpebbmabRefCheck
import Derived.Test.YtefkfglkpebbmabComposeOf
import Derived.Test.YtefkfglkpebbmabComposeUnits
import Derived.StillTailTactics
namespace Go.Proofs.Ytefkfglkpebbmab
open Go.RowKit
set_option linter.unusedVariables false
set_option linter.unusedSimpArgs false

theorem OutAt.offTop {w : World} {go : Nat} {l : List Stp} {ds : List (Option Addr × Nat)} {A : Option Addr} {c : Nat} (h : OutAt w go l ds A c) : Off w.heap.size go A ds :=
  ⟨fun e => by have := h.lt; omega, fun e => by have := (h.row.row.block _ e).2; omega, fun d hd e => by
    obtain ⟨i, hi, rfl⟩ := List.getElem_of_mem hd
    have hil : i < l.length := by rw [← h.row.len]; exact hi
    have := ((h.row.data i _ ds[i] (List.getElem?_eq_getElem hil) (List.getElem?_eq_getElem hi)).block _ e).2
    omega⟩
set_option maxRecDepth 100000 in
set_option maxHeartbeats 4000000 in
theorem refComposed_bad1 {w : World} {B E : Option Addr} {d f : Nat} {first second : List Stp} {old mid size : Int} (h1 : first.length ≤ 140737488351232) (r1 : Sps w B first) (hb : deltaCheck first old mid ≠ 0) :
    Calls Try.prog 24 #[.slice B first.length d, .slice E second.length f, iv old, iv mid, iv size] w (OpRet2 w [] (deltaCheck first old mid)) := by
  have h : (deltaCheck first old mid != 0) = true := by simp [hb]
  clear hb
  go_enter Try.func24, Try.ntmps24
  go_wp2_with fail
  refine (refCheck_calls B d first old mid w h1 r1).mono ?_
  rintro e w1 ⟨rfl, hb1⟩
  go_wp2_with fail
  go_ret2
  exact ⟨none, 0, rfl, Sps.nil _ _, Nat.le_refl _, hb1⟩
set_option maxRecDepth 100000 in
set_option maxHeartbeats 4000000 in
theorem refComposed_bad2 {w : World} {B E : Option Addr} {d f : Nat} {first second : List Stp} {old mid size : Int} (h1 : first.length ≤ 140737488351232) (r1 : Sps w B first) (h2 : second.length ≤ 140737488351232) (r2 : Sps w E second) (hb : deltaCheck first old mid = 0) (hb2 : deltaCheck second mid size ≠ 0) :
    Calls Try.prog 24 #[.slice B first.length d, .slice E second.length f, iv old, iv mid, iv size] w (OpRet2 w [] (deltaCheck second mid size)) := by
  have h : (deltaCheck second mid size != 0) = true := by simp [hb2]
  have hd : ∀ w, Sps w B first → Calls Try.prog 54 #[.slice B first.length d, iv old, iv mid] w (RetB w (iv 0)) := fun w hs => by
    have := refCheck_calls B d first old mid w h1 hs
    rwa [hb] at this
  have HD := Lib.hid hd
  clear hb hb2 hd
  go_enter Try.func24, Try.ntmps24
  go_wp2_with fail
  refine (HD.out w r1).mono ?_
  rintro e w1 ⟨rfl, hb1⟩
  go_wp2_with fail
  refine (refCheck_calls E f second mid size w1 h2 (r2.stays hb1)).mono ?_
  rintro e w2 ⟨rfl, hb2⟩
  go_wp2_with fail
  go_ret2
  exact ⟨none, 0, rfl, Sps.nil _ _, Nat.le_refl _, hb1.trans (hb2.mono hb1.size)⟩
set_option maxRecDepth 100000 in
set_option maxHeartbeats 8000000 in
theorem refComposed_ok {w : World} {B E : Option Addr} {d f : Nat} {first second : List Stp} {old mid size : Int} (r1 : Sps w B first) (r2 : Sps w E second) (d1 : DOk first old mid) (d2 : DOk second mid size) :
    Calls Try.prog 24 #[.slice B first.length d, .slice E second.length f, iv old, iv mid, iv size] w (OpRet2 w (if deltaCheck (composeGo first second []) old size ≠ 0 then [] else composeGo first second []) (deltaCheck (composeGo first second []) old size)) := by
  have hd1 : ∀ w, Sps w B first → Calls Try.prog 54 #[.slice B first.length d, iv old, iv mid] w (RetB w (iv 0)) := fun w hs => by
    have := refCheck_calls B d first old mid w (by have := d1.many; omega) hs
    rwa [deltaCheck_ok.2 d1] at this
  have hd2 : ∀ w, Sps w E second → Calls Try.prog 54 #[.slice E second.length f, iv mid, iv size] w (RetB w (iv 0)) := fun w hs => by
    have := refCheck_calls E f second mid size w (by have := d2.many; omega) hs
    rwa [deltaCheck_ok.2 d2] at this
  have hr1 : ∀ w', Below w.heap.size w w' → Sps w' B first := fun w' hb => r1.stays hb
  have hr2 : ∀ w', Below w.heap.size w w' → Sps w' E second := fun w' hb => r2.stays hb
  have m1 := d1.many
  have m2 := d2.many
  have hc1 : ∀ o ∈ first, o.cuts := fun o ho => cuts_of (d1.each o ho) d1.o1
  have hc2 : ∀ o ∈ second, o.cuts := fun o ho => cuts_of (d2.each o ho) d2.o1
  have HGO := Lib.hid (composeGo_ref (form_sound d1.each) second [] (fun o ho => by rw [d1.sum]; exact d2.each o ho))
  have HSM := Lib.hid (units_made first (form_sound d1.each))
  rw [d1.sum] at HSM
  have HI2 := Lib.hid (fun (o : Stp) (ho : o ∈ second) => (d2.each o ho).2)
  have HD1 := Lib.hid hd1
  have HD2 := Lib.hid hd2
  have HR1 := Lib.hid hr1
  have HR2 := Lib.hid hr2
  have HC1 := Lib.hid hc1
  have HC2 := Lib.hid hc2
  clear hd1 hd2 hr1 hr2 r1 r2 d1 d2 hc1 hc2
  generalize hres : (if deltaCheck (composeGo first second []) old size ≠ 0 then [] else composeGo first second []) = res
  generalize hrz : deltaCheck (composeGo first second []) old size = rz
  have HRES := Lib.hid hres
  have HRZ := Lib.hid hrz
  clear hres hrz
  go_enter Try.func24, Try.ntmps24
  go_wp2_with fail
  refine (HD1.out w (HR1.out _ (Below.refl _ _))).mono ?_
  rintro e w1 ⟨rfl, hb1⟩
  have HB1 := Lib.hid hb1
  clear hb1
  go_wp2_with fail
  refine (HD2.out w1 (HR2.out _ HB1.out)).mono ?_
  rintro e w2 ⟨rfl, hb2⟩
  have HB2 : Hid (Below w.heap.size w w2) := Lib.hid (HB1.out.trans (hb2.mono HB1.out.size))
  clear hb2
  go_wp2_with fail
  go_loopw [14, 15, 45] (fun f dd i wr => ∃ (k : Nat) (F D : Option Addr) (cf cd : Nat), k ≤ first.length ∧ i = .int .i64 k ∧ f = .slice F (unitsAll (first.take k)).length cf ∧ dd = .slice D (unitsAll (first.take k)).length cd ∧ Hid (Two wr w.heap.size (unitsAll (first.take k)) F cf D cd) ∧ Hid (Below w.heap.size w wr)) (fun _ _ i _ => first.length - (intOf i).toNat)
  case atStart => exact ⟨0, none, none, 0, 0, Nat.zero_le _, rfl, rfl, rfl, Lib.hid (Two.nil _ _), HB2⟩
  case round =>
    rename World => wo
    obtain ⟨k, F, D, cf, cd, hk, rfl, rfl, rfl, HT, HB⟩ := hrel
    have hsz := HB.out.size
    by_cases hlt : k < first.length
    · obtain ⟨b, o, Dx, dx, rfl, hs0, kc0, kc1, kc2, hd1, hd2, hD, hi0, hi1⟩ := (HR1.out _ (Below.refl _ _)).at_ hlt
      have hc0 := (HB.out.cell (p := ⟨b, o + k * 3, none⟩) hs0).trans kc0
      have hc1 := (HB.out.cell (p := ⟨b, o + k * 3 + 1, none⟩) hs0).trans kc1
      have hc2 := (HB.out.cell (p := ⟨b, o + k * 3 + 2, none⟩) hs0).trans kc2
      have hs := Nat.lt_of_lt_of_le hs0 hsz
      have hub := units_bd (first.take k) (fun x hx => HC1.out x (List.mem_of_mem_take hx))
      rw [List.length_take] at hub
      have hub2 : (unitsAll (first.take k)).length ≤ 5120 := by omega
      have HUB := Lib.hid hub2
      clear kc0 kc1 kc2 hub hub2
      have hxc := HC1.out _ (List.getElem_mem hlt)
      have htake : unitsAll (first.take (k + 1)) = unitsAll (first.take k) ++ unitsOf first[k] := by
        rw [List.take_succ_eq_append_getElem hlt]
        show List.flatMap unitsOf (_ ++ [_]) = _
        rw [List.flatMap_append]
        simp only [List.flatMap_cons, List.flatMap_nil, List.append_nil]
        rfl
      have HX := Lib.hid htake
      generalize hx : first[k] = x at *
      clear hx htake
      obtain ⟨oa, ol, od⟩ := x
      obtain ⟨⟨x1, x2, x3, x4⟩, x5⟩ := hxc
      dsimp only at *
      have HD := Lib.hid hD
      clear hD
      generalize unitsAll (first.take k) = us at *
      have hn : (0 : Int) ≤ ol := x2
      go_wp2_with fail
      go_loopw [14, 15, 51] (fun f dd i wq => ∃ (j : Nat) (F D : Option Addr) (cf cd : Nat), (j : Int) ≤ ol ∧ i = .int .i64 j ∧ f = .slice F (us ++ lenU oa j).length cf ∧ dd = .slice D (us ++ lenU oa j).length cd ∧ Hid (Two wq w.heap.size (us ++ lenU oa j) F cf D cd) ∧ Hid (Below w.heap.size w wq) ∧ Hid (wq.heap[wo.heap.size]? = some (.cells #[iv oa, iv ol, .slice Dx od.length dx] 31)) ∧ Hid (F.map (·.block) ≠ some wo.heap.size ∧ D.map (·.block) ≠ some wo.heap.size) ∧ wo.heap.size < wq.heap.size) (fun _ _ i _ => ol.toNat - (intOf i).toNat)
      case atStart =>
        have e0 : us ++ lenU oa 0 = us := by simp [lenU]
        exact ⟨0, F, D, cf, cd, by omega, rfl, by rw [e0], by rw [e0], by rw [e0]; exact Lib.hid (HT.out.below ((Below.refl wo.heap.size wo).alloc (Nat.le_refl _) _)), Lib.hid (HB.out.alloc hsz _), Lib.hid (blk_top rfl), Lib.hid ⟨fun e => absurd (HT.out.f.block _ e).2 (Nat.lt_irrefl _), fun e => absurd (HT.out.d.block _ e).2 (Nat.lt_irrefl _)⟩, by simp⟩
      case round =>
        obtain ⟨j, F, D, cf, cd, hj, rfl, rfl, rfl, HT, HBq, HBb, HNE, hlo⟩ := hrel
        by_cases hlj : (j : Int) < ol
        · have hcc : wr.cell? ⟨wo.heap.size, 0, none⟩ = some (iv oa) := by rw [cell_of_row _ _ _ _ _ _ HBb.out]; rfl
          have hsu := lenU_succ oa j
          have HS := Lib.hid hsu
          have w1' : IntKind.i64.wrap (oa + (j : Int)) = oa + (j : Int) := IntWalk.i64_in _ (by omega)
          have hgen : ∀ vs, us ++ lenU oa j = vs → us ++ lenU oa (j + 1) = vs ++ [(oa + (j : Int), 0)] := fun vs e => by rw [hsu, ← e, List.append_assoc]
          have hbd : (us ++ lenU oa j).length ≤ 1048576 := by have := HUB.out; rw [List.length_append, lenU_len]; omega
          have HG := Lib.hid (hgen _ rfl)
          clear hgen hsu HS
          have HOW : Hid (Own (wr.alloc (.cells #[iv (oa + j)] 3)) w.heap.size 3 1 F (us ++ lenU oa j).length cf ((us ++ lenU oa j).map fun u => iv u.1)) := Lib.hid (HT.out.f.alloc _)
          generalize us ++ lenU oa j = vs at *
          have hqs := HBq.out.size
          go_wp2_with (at_builtin; go_must (refine wpList_app _ rfl (.tmp 54) (.tmp 59) 68 rfl elInts w.heap.size F vs.length cf (vs.map fun u => iv u.1) rfl HOW.out (some ⟨wr.heap.size, 0, none⟩) 1 1 [iv (oa + j)] rfl (src_blk (blk_top (by simp))) rfl (by simp [Value.oneCell']) (by omega) (by simp; omega) ?_))
          intro F' cf' wb hown1 hgr1 hbel1 hor1
          have HO1 := Lib.hid hown1
          have HG1 := Lib.hid hgr1
          have HL1 := Lib.hid hbel1
          have HR1' : Hid (F'.map (·.block) = F.map (·.block) ∨ F'.map (·.block) = some (wr.alloc (.cells #[iv (oa + j)] 3)).heap.size) := Lib.hid (by simpa using hor1)
          have HM := Lib.hid (HT.out.mid (o2 := .cells #[.int .u8 0] 5) hgr1)
          have hs1 : w.heap.size ≤ wb.heap.size := by have := hgr1.size; simp at this; omega
          clear hown1 hgr1 hbel1 hor1
          go_wp2_with (at_builtin; go_must (refine wpList_app _ rfl (.tmp 61) (.tmp 62) 22 rfl elBytes w.heap.size D vs.length cd (vs.map fun u => bv u.2) rfl HM.out (some ⟨wb.heap.size, 0, none⟩) 1 1 [.int .u8 0] rfl (src_blk (blk_top (by simp))) rfl (by simp [Value.oneCell']) (by omega) (by simp; omega) ?_))
          intro D' cd' wd hown2 hgr2 hbel2 hor2
          have HT2 := Lib.hid (HT.out.push (a := oa + j) (x := 0) HO1.out HG1.out HR1'.out (show Own _ _ _ _ _ _ _ (_ ++ [bv 0]) from hown2) hgr2 (by simpa using hor2))
          have hb3 : wb.heap[wo.heap.size]? = wr.heap[wo.heap.size]? := (HG1.out.block wo.heap.size (by simp; omega) (fun e => HNE.out.1 e.symm)).trans (Below.heap_alloc wr _ _ hlo)
          have hlb : wo.heap.size < wb.heap.size := by have := HG1.out.size; simp at this; omega
          have hb4 : wd.heap[wo.heap.size]? = wr.heap[wo.heap.size]? := ((hgr2.block wo.heap.size (by simp; omega) (fun e => HNE.out.2 e.symm)).trans (Below.heap_alloc wb _ _ hlb)).trans hb3
          have HB4 := Lib.hid (hb4.trans HBb.out)
          have HN4 : Hid (F'.map (·.block) ≠ some wo.heap.size ∧ D'.map (·.block) ≠ some wo.heap.size) := Lib.hid ⟨fun e => by
            rcases HR1'.out with e1 | e1
            · exact HNE.out.1 (e1.symm.trans e)
            · rw [e1] at e
              injection e with e
              simp at e
              omega, fun e => by
            rcases hor2 with e1 | ⟨ad, e1, e2⟩
            · exact HNE.out.2 (e1.symm.trans e)
            · rw [e1] at e
              simp at e
              omega⟩
          have hlo4 : wo.heap.size < wd.heap.size := by have := hgr2.size; simp at this; omega
          have HBW : Hid (Below w.heap.size w wd) := Lib.hid (((HBq.out.alloc hqs _).trans HL1.out).trans ((((Below.refl w.heap.size wb).alloc hs1 _)).trans hbel2))
          clear hown2 hgr2 hbel2 hor2 hb3 hb4 HBb HNE HO1 HG1 HL1 HM
          go_wp2_with fail
          go_roundw
          case rel => exact ⟨j + 1, F', D', cf', cd', by omega, by go_num, by rw [HG.out]; simp, by rw [HG.out]; simp, by rw [HG.out]; exact HT2, HBW, HB4, HN4, hlo4⟩
          case measure => simp [intOf]; omega
        · have hol : (j : Int) = ol := by omega
          have hjl : ol.toNat = j := by omega
          have hol64 : j ≤ 64 := by omega
          rw [show unitsOf (⟨oa, ol, od⟩ : Stp) = lenU oa j ++ dataU od by unfold unitsOf; rw [hjl]] at HX
          have hu2 : (us ++ lenU oa j).length ≤ 5184 := by have := HUB.out; rw [List.length_append, lenU_len]; omega
          have HX2 : Hid (unitsAll (first.take (k + 1)) = (us ++ lenU oa j) ++ dataU od) := Lib.hid (by rw [HX.out, List.append_assoc])
          clear HX hjl hol
          generalize us ++ lenU oa j = us2 at *
          have HU2 := Lib.hid hu2
          have hcc : wr.cell? ⟨wo.heap.size, 2, none⟩ = some (.slice Dx od.length dx) := by rw [cell_of_row _ _ _ _ _ _ HBb.out]; rfl
          clear hu2 HBb HNE
          have HT0 := HT
          have HBq0 := HBq
          go_wp2_with fail
          go_loopw [14, 15, 68] (fun f dd i wq => ∃ (j : Nat) (F D : Option Addr) (cf cd : Nat), j ≤ od.length ∧ i = .int .i64 j ∧ f = .slice F (us2 ++ dataU (od.take j)).length cf ∧ dd = .slice D (us2 ++ dataU (od.take j)).length cd ∧ Hid (Two wq w.heap.size (us2 ++ dataU (od.take j)) F cf D cd) ∧ Hid (Below w.heap.size w wq)) (fun _ _ i _ => od.length - (intOf i).toNat)
          case atStart =>
            have e0 : us2 ++ dataU (od.take 0) = us2 := by simp [dataU]
            exact ⟨0, F, D, cf, cd, by omega, rfl, by rw [e0], by rw [e0], by rw [e0]; exact HT0, HBq0⟩
          case round =>
            clear HT0 HBq0 HT HBq
            rename World => wr
            obtain ⟨j, F, D, cf, cd, hj, rfl, rfl, rfl, HT, HBq⟩ := hrel
            by_cases hlj : j < od.length
            · obtain ⟨b', o', rfl, hl', kb⟩ := (HD.out.stays HBq.out) j hlj
              have hsu := dataU_succ hlj
              have hgen : us2 ++ dataU (od.take (j + 1)) = (us2 ++ dataU (od.take j)) ++ [((-1 : Int), od[j])] := by rw [hsu, List.append_assoc]
              have hbd : (us2 ++ dataU (od.take j)).length ≤ 1048576 := by have := HU2.out; rw [List.length_append, dataU_len, List.length_take]; omega
              have HG := Lib.hid hgen
              clear hgen hsu
              generalize od[j] = y at *
              have HOW : Hid (Own (wr.alloc (.cells #[iv (-1)] 3)) w.heap.size 3 1 F (us2 ++ dataU (od.take j)).length cf ((us2 ++ dataU (od.take j)).map fun u => iv u.1)) := Lib.hid (HT.out.f.alloc _)
              generalize us2 ++ dataU (od.take j) = vs at *
              have hqs := HBq.out.size
              go_wp2_with (at_builtin; go_must (refine wpList_app _ rfl (.tmp 72) (.tmp 73) 68 rfl elInts w.heap.size F vs.length cf (vs.map fun u => iv u.1) rfl HOW.out (some ⟨wr.heap.size, 0, none⟩) 1 1 [iv (-1)] rfl (src_blk (blk_top (by simp))) rfl (by simp [Value.oneCell']) (by omega) (by simp; omega) ?_))
              intro F' cf' wb hown1 hgr1 hbel1 hor1
              have HO1 := Lib.hid hown1
              have HG1 := Lib.hid hgr1
              have HL1 := Lib.hid hbel1
              have HR1' : Hid (F'.map (·.block) = F.map (·.block) ∨ F'.map (·.block) = some (wr.alloc (.cells #[iv (-1)] 3)).heap.size) := Lib.hid (by simpa using hor1)
              have HM := Lib.hid (HT.out.mid (o2 := .cells #[bv y] 5) hgr1)
              have hs1 : w.heap.size ≤ wb.heap.size := by have := hgr1.size; simp at this; omega
              clear hown1 hgr1 hbel1 hor1
              go_wp2_with (at_builtin; go_must (refine wpList_app _ rfl (.tmp 75) (.tmp 77) 22 rfl elBytes w.heap.size D vs.length cd (vs.map fun u => bv u.2) rfl HM.out (some ⟨wb.heap.size, 0, none⟩) 1 1 [bv y] rfl (src_blk (blk_top (by simp))) rfl (by simp [Value.oneCell']) (by omega) (by simp; omega) ?_))
              intro D' cd' wd hown2 hgr2 hbel2 hor2
              have HT2 := Lib.hid (HT.out.push (a := -1) (x := y) HO1.out HG1.out HR1'.out hown2 hgr2 (by simpa using hor2))
              have HBW : Hid (Below w.heap.size w wd) := Lib.hid (((HBq.out.alloc hqs _).trans HL1.out).trans ((((Below.refl w.heap.size wb).alloc hs1 _)).trans hbel2))
              clear hown2 hgr2 hbel2 hor2 HO1 HG1 HL1 HM
              go_wp2_with fail
              go_roundw
              case rel => exact ⟨j + 1, F', D', cf', cd', by omega, by go_num, by rw [HG.out]; simp, by rw [HG.out]; simp, by rw [HG.out]; exact HT2, HBW⟩
              case measure => simp [intOf]; omega
            · obtain rfl : j = od.length := by omega
              rw [List.take_length] at HT
              rw [List.take_length]
              rw [← HX2.out] at HT ⊢
              go_wp2_with fail
              go_roundw
              case rel => exact ⟨k + 1, F, D, cf, cd, by omega, by go_num, rfl, rfl, HT, HBq⟩
              case measure => simp [intOf]; omega
    · obtain rfl : k = first.length := by omega
      rw [List.take_length] at HT
      rw [List.take_length]
      have hul := units_lt first HC1.out
      generalize unitsAll first = us at *
      rename World => w5
      go_wp2_with fail
      go_loopw [84] (fun i wq => ∃ (k : Nat) (A : Option Addr) (c : Nat) (ds : List (Option Addr × Nat)), k ≤ second.length ∧ i = .int .i64 k ∧ Hid (OutAt wq w5.heap.size (accU us second k) ds A c) ∧ Hid (Below w5.heap.size w5 wq)) (fun i _ => second.length - (intOf i).toNat)
      case atStart =>
        refine ⟨0, none, 0, [], Nat.zero_le _, rfl, Lib.hid ⟨?_, ?_, by simp, DRow.nil _ _⟩, Lib.hid ((Below.refl _ _).alloc (Nat.le_refl _) _)⟩
        · rw [cell_of_row _ _ _ _ _ _ (blk_top rfl)]; rfl
        · unfold World.frozen?; rw [blk_top rfl]; rfl
      case round =>
        rename World => wo
        obtain ⟨k, A, c, ds, hk, rfl, HO, HBo⟩ := hrel
        by_cases hlt : k < second.length
        · obtain ⟨b, o, Dx, dx, rfl, hs0, kc0, kc1, kc2, hd1, hd2, hD, hi0, hi1⟩ := (HR2.out _ (Below.refl _ _)).at_ hlt
          have hbo : Below w.heap.size w wo := HB.out.trans (HBo.out.mono HB.out.size)
          have hc0 := (hbo.cell (p := ⟨b, o + k * 3, none⟩) hs0).trans kc0
          have hc1 := (hbo.cell (p := ⟨b, o + k * 3 + 1, none⟩) hs0).trans kc1
          have hc2 := (hbo.cell (p := ⟨b, o + k * 3 + 2, none⟩) hs0).trans kc2
          have hs := Nat.lt_of_lt_of_le hs0 hbo.size
          have hsucc := accU_succ (us := us) hlt
          have hlim := accU_lim hul HC2.out k hk
          have hxc := HC2.out _ (List.getElem_mem hlt)
          have hin := HI2.out _ (List.getElem_mem hlt)
          generalize hx : second[k] = x at *
          clear hx kc0 kc1 kc2
          obtain ⟨oa, ol, od⟩ := x
          obtain ⟨⟨x1, x2, x3, x4⟩, x5⟩ := hxc
          obtain ⟨y1, y2, y3⟩ := hin
          unfold refStep at hsucc
          dsimp only at *
          have HD := Lib.hid hD
          have HSU := Lib.hid hsucc
          have HLM := Lib.hid hlim
          have HBW := Lib.hid hbo
          clear hD hsucc hlim hbo
          generalize accU us second k = acc at *
          have hso := HO.out.lt
          have HO0 : Hid (OutAt (wo.alloc (.cells #[iv oa, iv ol, .slice Dx od.length dx] 31)) w5.heap.size acc ds A c) := Lib.hid (HO.out.below ((Below.refl _ _).alloc (Nat.le_refl _) _))
          have HF0 := Lib.hid HO.out.offTop
          have HB0 : Hid (Below w5.heap.size w5 (wo.alloc (.cells #[iv oa, iv ol, .slice Dx od.length dx] 31))) := Lib.hid (HBo.out.alloc HBo.out.size _)
          clear HO HBo
          go_wp2_with fail
          go_loopw [91] (fun i wz => ∃ (j : Nat) (A : Option Addr) (c : Nat) (ds : List (Option Addr × Nat)), j ≤ od.length ∧ i = .int .i64 j ∧ Hid (OutAt wz w5.heap.size (addU acc (dataU (od.take j))) ds A c) ∧ Hid (Below w5.heap.size w5 wz) ∧ Hid (wz.heap[wo.heap.size]? = some (.cells #[iv oa, iv ol, .slice Dx od.length dx] 31) ∧ Off wo.heap.size w5.heap.size A ds)) (fun i _ => od.length - (intOf i).toNat)
          case atStart => exact ⟨0, A, c, ds, Nat.zero_le _, rfl, HO0, HB0, Lib.hid ⟨blk_top rfl, HF0.out⟩⟩
          case round =>
            clear HO0 HF0 HB0
            rename World => wz
            obtain ⟨j, A, c, ds, hj, rfl, HO, HBz, HBX⟩ := hrel
            have hbs := blk_lt HBX.out.1
            by_cases hlj : j < od.length
            · obtain ⟨b', o', rfl, hl', kb⟩ := (HD.out.stays (HB.out.trans (HBz.out.mono HB.out.size))) j hlj
              have hl1 := addU_lim (dataU (od.take j)) HLM.out dataU_lt
              rw [dataU_len, List.length_take] at hl1
              obtain ⟨hl2, hl3⟩ := lim_small hl1 (by omega)
              have hsu := dataU_succ hlj
              have hgen : addU acc (dataU (od.take (j + 1))) = addStp (addU acc (dataU (od.take j))) (unitStp ((-1 : Int), od[j])) := by rw [hsu, addU_snoc]
              have HG := Lib.hid hgen
              have KO := Lib.hid (refOne_calls (z := -1) (x := od[j]) HO.out hl2 hl3)
              generalize od[j] = y at *
              have HO9 := Lib.hid HO.out.lt
              clear hgen hsu hl1 hl2 hl3
              go_wp2_with fail
              refine KO.out.mono ?_
              rintro e wn ⟨A', c', ds', rfl, ho, hb, hkp⟩
              obtain ⟨kk1, kk2⟩ := hkp wo.heap.size hbs HBX.out.2
              have HO2 := Lib.hid ho
              have HB2' : Hid (Below w5.heap.size w5 wn) := Lib.hid (HBz.out.trans hb)
              have HX2 := Lib.hid (And.intro (kk1.trans HBX.out.1) kk2)
              clear ho hb hkp kk1 kk2 KO
              go_wp2_with fail
              go_roundw
              case rel => exact ⟨j + 1, A', c', ds', by omega, by go_num, by rw [HG.out]; exact HO2, HB2', HX2⟩
              case measure => simp [intOf]; omega
            · obtain rfl : j = od.length := by omega
              rw [List.take_length] at HO
              obtain ⟨an, rfl⟩ : ∃ an : Nat, oa = (an : Int) := ⟨oa.toNat, by omega⟩
              obtain ⟨ln, rfl⟩ : ∃ ln : Nat, ol = (ln : Int) := ⟨ol.toNat, by omega⟩
              rw [show ((an : Int)).toNat = an from rfl, show ((ln : Int)).toNat = ln from rfl] at HSU
              have hl1 := addU_lim (dataU od) HLM.out dataU_lt
              rw [dataU_len] at hl1
              have HL1 := Lib.hid hl1
              generalize addU acc (dataU od) = acc2 at *
              have hq0 : wz.cell? ⟨wo.heap.size, 0, none⟩ = some (iv an) := by rw [cell_of_row _ _ _ _ _ _ HBX.out.1]; rfl
              have hq1 : wz.cell? ⟨wo.heap.size, 1, none⟩ = some (iv ln) := by rw [cell_of_row _ _ _ _ _ _ HBX.out.1]; rfl
              have HO0 := HO
              have HB0 := HBz
              have HX0 := HBX
              clear hl1 HO HBz HBX
              go_wp2_with fail
              go_loopw [101] (fun i wy => ∃ (j : Nat) (A : Option Addr) (c : Nat) (ds : List (Option Addr × Nat)), j ≤ ln ∧ i = .int .i64 j ∧ Hid (OutAt wy w5.heap.size (addU acc2 ((us.drop an).take j)) ds A c) ∧ Hid (Below w5.heap.size w5 wy) ∧ Hid (wy.heap[wo.heap.size]? = some (.cells #[iv an, iv ln, .slice Dx od.length dx] 31) ∧ Off wo.heap.size w5.heap.size A ds)) (fun i _ => ln - (intOf i).toNat)
              case atStart => exact ⟨0, A, c, ds, Nat.zero_le _, rfl, HO0, HB0, HX0⟩
              case round =>
                clear HO0 HB0 HX0 hq0 hq1 hbs
                rename World => wy
                obtain ⟨j, A, c, ds, hj, rfl, HO, HBy, HBX⟩ := hrel
                have hbs := blk_lt HBX.out.1
                by_cases hlj : j < ln
                · have hlu : an + j < us.length := by have := HSM.out; omega
                  obtain ⟨gF, rfl, -, hF⟩ := HT.out.f.form (by omega)
                  obtain ⟨gD, rfl, -, hD'⟩ := HT.out.d.form (by omega)
                  have kF : wy.cell? ⟨gF, an + j, none⟩ = some (iv us[an + j].1) := (HBy.out.cell (p := ⟨gF, an + j, none⟩) hF).trans ((HT.out.f.cellAt (an + j) (by omega)).trans (by simp [hlu]))
                  have kD : wy.cell? ⟨gD, an + j, none⟩ = some (bv us[an + j].2) := (HBy.out.cell (p := ⟨gD, an + j, none⟩) hD').trans ((HT.out.d.cellAt (an + j) (by omega)).trans (by simp [hlu]))
                  have hl1 := addU_lim ((us.drop an).take j) HL1.out (fun u hu => hul u (List.mem_of_mem_drop (List.mem_of_mem_take hu)))
                  rw [List.length_take] at hl1
                  obtain ⟨hl2, hl3⟩ := lim_small hl1 (by omega)
                  have hgen : addU acc2 ((us.drop an).take (j + 1)) = addStp (addU acc2 ((us.drop an).take j)) (unitStp us[an + j]) := by
                    rw [List.take_succ_eq_append_getElem (by simp; omega), addU_snoc, List.getElem_drop]
                  have HG := Lib.hid hgen
                  have KO := Lib.hid (refOne_calls (z := us[an + j].1) (x := us[an + j].2) (HO.out.below ((Below.refl _ _).drew)) hl2 hl3)
                  have hq0 : wy.cell? ⟨wo.heap.size, 0, none⟩ = some (iv an) := by rw [cell_of_row _ _ _ _ _ _ HBX.out.1]; rfl
                  have hwr : IntKind.i64.wrap ((an : Int) + (j : Int)) = (an : Int) + (j : Int) := IntWalk.i64_in _ (by omega)
                  have hlu2 : (an : Int) + (j : Int) < (us.length : Int) := by omega
                  have hlu3 : (0 : Int) ≤ (an : Int) + (j : Int) := by omega
                  have hlu4 : ((an : Int) + (j : Int)).toNat = an + j := by omega
                  have hlu5 : ¬ (us.length : Int) ≤ (an : Int) + (j : Int) := by omega
                  generalize us[an + j] = u at *
                  obtain ⟨u1, u2⟩ := u
                  clear hgen hl1 hl2 hl3 hul
                  go_wp2_with fail
                  refine wp_region_still_tail 15 (by kernel_rfl) (by kernel_rfl) ?_
                  simp only [List.take_succ_cons, List.take_zero, List.drop_succ_cons, List.drop_zero]
                  repeat still_step
                  refine wpStill_nil ?_
                  change wpList _ _ _ _ _ wy.drew
                  have HBd : Hid (Below w5.heap.size w5 wy.drew) := Lib.hid HBy.out.drew
                  have HXd : Hid (wy.drew.heap[wo.heap.size]? = some (.cells #[iv an, iv ln, .slice Dx od.length dx] 31) ∧ Off wo.heap.size w5.heap.size A ds ∧ wo.heap.size < wy.drew.heap.size) := Lib.hid ⟨HBX.out.1, HBX.out.2, hbs⟩
                  generalize wy.drew = wd at *
                  clear kF kD hq0 hwr hlu2 hlu3 hlu4 hlu5 HO HBX HBy
                  go_wp2_with fail
                  refine KO.out.mono ?_
                  rintro e wn ⟨A', c', ds', rfl, ho, hb, hkp⟩
                  obtain ⟨kk1, kk2⟩ := hkp wo.heap.size HXd.out.2.2 HXd.out.2.1
                  have HO2 := Lib.hid ho
                  have HB2' : Hid (Below w5.heap.size w5 wn) := Lib.hid (HBd.out.trans hb)
                  have HX2 := Lib.hid (And.intro (kk1.trans HXd.out.1) kk2)
                  clear ho hb hkp kk1 kk2 KO HBd HXd
                  go_wp2_with fail
                  go_roundw
                  case rel => exact ⟨j + 1, A', c', ds', by omega, by go_num, by rw [HG.out]; exact HO2, HB2', HX2⟩
                  case measure => simp [intOf]; omega
                · obtain rfl : j = ln := by omega
                  rw [← HSU.out] at HO
                  go_wp2_with fail
                  go_roundw
                  case rel => exact ⟨k + 1, A, c, ds, by omega, by go_num, HO, HBy⟩
                  case measure => simp [intOf]; omega
        · obtain rfl : k = second.length := by omega
          have hlim := accU_lim hul HC2.out second.length (Nat.le_refl _)
          have hac : accU us second second.length = composeGo first second [] := by
            unfold accU; rw [List.take_length]; exact HGO.out.symm
          rw [hac] at HO hlim
          obtain ⟨hl2, hl3⟩ := lim_small hlim (by omega)
          clear hlim hac HGO
          generalize composeGo first second [] = L at *
          have hsp : ∀ w' v, OutAt w' w5.heap.size L ds A c → Below w'.heap.size w' v → Sps v A L := fun w' v h hb => (h.row.sps (fun q hq => by
            obtain ⟨a1, a2, a3, a4⟩ := hl3 q hq
            exact ⟨⟨by omega, by omega⟩, ⟨by omega, by omega⟩, by omega⟩)).stays hb
          have HSP := Lib.hid hsp
          have hle := HO.out.row.row.le
          have hgl := HO.out.lt
          have hgc := HO.out.cell
          have HBW : Hid (Below w.heap.size w wo) := Lib.hid (HB.out.trans (HBo.out.mono HB.out.size))
          clear hsp hl3
          go_wp2_with fail
          refine (refCheck_calls A c L old size wo (by omega) (HSP.out _ _ HO.out (Below.refl _ _))).mono ?_
          rintro e wn ⟨rfl, hb⟩
          have hgn : wn.cell? ⟨w5.heap.size, 0, none⟩ = some (.slice A L.length c) := (hb.cell (p := ⟨w5.heap.size, 0, none⟩) hgl).trans hgc
          have HBN : Hid (Below w.heap.size w wn) := Lib.hid (HBW.out.trans (hb.mono HBW.out.size))
          have HSN := Lib.hid (HSP.out _ _ HO.out hb)
          clear hb hgc
          have hrz := HRZ.out
          rw [hrz]
          have hres := HRES.out
          rw [hrz] at hres
          by_cases hz : rz = 0
          · rw [if_neg (by simp [hz])] at hres
            subst hz hres
            go_wp2_with fail
            go_ret2
            exact ⟨A, c, rfl, HSN.out, hle, HBN.out⟩
          · rw [if_pos hz] at hres
            subst hres
            have q : (rz != 0) = true := by simp [hz]
            clear hz hrz
            go_wp2_with fail
            go_ret2
            exact ⟨none, 0, rfl, Sps.nil _ _, Nat.le_refl _, HBN.out⟩
end Go.Proofs.Ytefkfglkpebbmab
