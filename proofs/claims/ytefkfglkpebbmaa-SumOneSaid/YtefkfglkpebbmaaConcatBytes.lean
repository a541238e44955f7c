/- The walks of the library's slices.Grow (of nil) and slices.Concat over Bytes. -/
import Derived.Test.YtefkfglkpebbmaaConcatWords
import Derived.Test.YtefkfglkpebbmaaElBytes
namespace Go.Proofs.Ytefkfglkpebbmaa
open Go.RowKit
set_option linter.unusedVariables false

section
variable {P : Program} (w : World)
theorem run_app_room {t ty e : TypeId} {size L : Nat} (E : El P t e size L) {base : Nat} {A : Option Addr} {n c : Nat} {xs : List Value} (hown : Own w base e size A n c xs) (hc0 : 0 < c)
    {B : Option Addr} {m d : Nat} {news : List Value} (hs : Src w B news) (hl : news.length = m * size) (h1 : ∀ u ∈ news, u.oneCell' = true) (hroom : n + m ≤ c) :
    ∃ A' w', (Builtin.append_ #[t, t] ty #[.slice A n c, .slice B m d]).run P w = .ok (.slice A' (n + m) c) w' ∧ Own w' base e size A' (n + m) c (xs ++ news) ∧ Below base w w' := by
  obtain ⟨ht, ⟨i, z, hi, hz, hsize, hby, hzs⟩, hsz⟩ := E
  have hle := hown.le
  have hlx := hown.1
  rcases hown.2 with ⟨hv, h0⟩ | ⟨g, cap, cur, hv, hbg, hg, hnc, hcm, hcs, htake⟩
  · injection hv with _ _ h2; omega
  injection hv with hA _ hcc
  subst hA hcc
  by_cases hm : m = 0
  · subst hm
    obtain rfl : news = [] := List.eq_nil_of_length_eq_zero (by simpa using hl)
    refine ⟨some ⟨g, 0, none⟩, w, ?_, by simpa using hown, Below.refl _ _⟩
    rcases B with _ | ad <;> simp [Builtin.append_, run_underlying ht, sizeOf, typeInfo, hi, Builtin.lenOf, Builtin.firstCells, hle, storeCells, loadCells, loadCellsFrom]
  have hp : 0 < news.length := by rw [hl]; exact Nat.mul_pos (by omega) hsz
  obtain ⟨b, o, rfl, _, _⟩ := hs 0 hp
  have hc : ∀ j u, news[j]? = some u → w.cell? ((⟨b, o, none⟩ : Addr).add j) = some u := by
    intro j u hu
    obtain ⟨hj, rfl⟩ := List.getElem?_eq_some_iff.1 hu
    obtain ⟨b', o', he, _, hc⟩ := hs j hj
    injection he with he
    injection he with h1 h2
    subst h1 h2
    have : (⟨b, o, none⟩ : Addr).add j = ⟨b, o + j, none⟩ := by unfold Addr.add; split <;> simp_all
    rw [this]; exact hc
  subst hsize
  have hfit : n * i.size + news.length ≤ cur.size := by rw [hl, hcs, ← Nat.add_mul]; exact Nat.mul_le_mul_right _ hroom
  have hr := run_append_room (P := P) w t ty e i ht hi g n c cur hg ⟨b, o, none⟩ m d news hl hc h1 hroom hfit
  have hlen : (xs ++ news).length = (n + m) * i.size := by rw [List.length_append, hlx, hl, Nat.add_mul]
  refine ⟨_, _, hr, ⟨hlen, .inr ⟨g, c, _, rfl, hbg, setRow_heap w g cur _ e _ hg, hroom, hcm, ?_, ?_⟩⟩, (Below.refl base w).grown (row := some g) ⟨rfl, rfl, rfl, by simp [World.setRow], fun k _ hk => setRow_other w g k _ (fun e => hk (by rw [e]))⟩ (by have := blk_lt hg; omega) (fun k hk => by injection hk with h; omega)⟩
  · simp only [List.size_toArray, List.length_append, List.length_take, List.length_drop, Array.length_toList]
    omega
  · rw [htake, ← hlen]
    exact List.take_left
theorem wpList_app2 {ops : Array Oper} {rest : List Oper} {o : Oper} {a : Act} {Q : Exit → Act → World → Prop} (hgd : o.guard = none) (s x : Operand) (t : TypeId)
    (ho : o.op = .call { callee := .builtin .append, args := #[s, x], argTypes := #[t, t] }) {e : TypeId} {size L : Nat} (E : El P t e size L) (base : Nat) (A : Option Addr) (n c : Nat) (xs : List Value) (hs : a.eval s = .slice A n c) (hown : Own w base e size A n c xs)
    (B : Option Addr) (m d : Nat) (news : List Value) (hx : a.eval x = .slice B m d) (hsrc : Src w B news) (hl : news.length = m * size) (h1 : ∀ u ∈ news, u.oneCell' = true) (T : Nat) (hT : n + m ≤ T) (hb : T ≤ L ∨ (T ≤ c ∧ 0 < c)) (hbase : base ≤ w.heap.size)
    (h : ∀ A' c' w', Own w' base e size A' (n + m) c' (xs ++ news) → Below base w w' → Hid (T ≤ L ∨ (T ≤ c' ∧ 0 < c')) → wpList P ops Q rest (a.put o.dst (.slice A' (n + m) c')) w') :
    wpList P ops Q (o :: rest) a w := by
  rcases hb with hb | ⟨hb, h0⟩
  · exact wpList_app w hgd s x t ho E base A n c xs hs hown B m d news hx hsrc hl h1 (Nat.le_trans hT hb) hbase (fun A' c' w' h2 _ h4 _ => h A' c' w' h2 h4 (Lib.hid (.inl hb)))
  refine wpList_plain hgd fun K hK => ?_
  obtain ⟨A', w', hrun, h2, h4⟩ := run_app_room (ty := o.type) w E hown h0 (B := B) (d := d) hsrc hl h1 (Nat.le_trans hT hb)
  unfold Oper.wp execOp
  simp only [ho, resolve, invoke, builtin, Sem.run_bind, Sem.run_pure, Result.andThen_ok, List.map_toArray, List.map_cons, List.map_nil, hs, hx, hrun]
  exact hK _ _ (h A' c w' h2 h4 (Lib.hid (.inr ⟨hb, h0⟩)))
end
/-- It returns an empty slice of the call's own with room for n. -/
def GrRet (w : World) (e n : Nat) : Ending → World → Prop := fun en w' => ∃ A c, en = .returned (.slice A 0 c) ∧ n ≤ c ∧ Own w' w.heap.size e 1 A 0 c [] ∧ Below w.heap.size w w'
theorem growBytes_calls (n : Nat) (w : World) (hn : n ≤ 281474976702464) :
    Calls Try.prog 51 #[.slice none 0 0, iv n] w (GrRet w 5 n) := by
  rcases Nat.eq_zero_or_pos n with rfl | hp
  · go_enter Try.func51, Try.ntmps51
    go_wp2
    go_ret
    exact ⟨none, 0, rfl, Nat.le_refl _, Own.nil_ _ _ _ _, Below.refl _ _⟩
  · obtain ⟨i, hi, hz, hs, hb⟩ := info_parts (P := Try.prog) (e := 5) (z := .int .u8 0) (size := 1) (bytes := 1) (by kernel_rfl)
    have hr := fun ty => Lib.run_append_grow_zeros (P := Try.prog) w 27 3 ty 5 i (.int .u8 0) .i64 .i64 Try.underlying27 Try.underlying3 hi hz none 0 0 [] (run_firstCells_none _ _ _ _ _) n hp (by omega) (by omega) (by omega) (by rw [hb]; omega)
      (by rw [nextslicecap_zero (by omega), hb]; omega)
    have hG := grownCap_ge w (0 + n) 0 5
    have hG2 := grownCap_le_maxLen w (0 + n) 0 5 (by unfold maxLen; omega)
    have h1 : (0 : Int) < (n : Int) := by omega
    obtain ⟨cap, hcd⟩ : ∃ cap, cap = grownCap w (0 + n) 0 5 := ⟨_, rfl⟩
    rw [← hcd] at hr hG hG2
    clear hcd
    have hO : Own (w.drew.alloc (.cells (([] : List Value).toArray ++ Builtin.zeroCells (Value.cells (.int .u8 0)) n ++ Builtin.zeroCells (Value.cells (.int .u8 0)) (cap - (0 + n))) 5)) w.heap.size 5 1 (some ⟨w.heap.size, 0, none⟩) 0 cap [] :=
      ⟨by simp, Or.inr ⟨_, _, _, rfl, Nat.le_refl _, blk_top rfl, by omega, hG2, by simp [Builtin.zeroCells, Value.cells]; omega, by simp⟩⟩
    have hB := ((Below.refl w.heap.size w).drew).alloc (Nat.le_refl _) (.cells (([] : List Value).toArray ++ Builtin.zeroCells (Value.cells (.int .u8 0)) n ++ Builtin.zeroCells (Value.cells (.int .u8 0)) (cap - (0 + n))) 5)
    generalize (Obj.cells (([] : List Value).toArray ++ Builtin.zeroCells (Value.cells (.int .u8 0)) n ++ Builtin.zeroCells (Value.cells (.int .u8 0)) (cap - (0 + n))) 5) = ob at *
    have hcap : cap ≤ 9223372036854775807 := by simp only [maxLen] at hG2; omega
    clear hi hz hs hb hG2
    go_enter Try.func51, Try.ntmps51
    go_wp2_with (at_builtin; refine Lib.wpList_append_run _ rfl _ _ _ _ rfl _ _ rfl rfl _ _ (hr _) ?_)
    go_ret
    exact ⟨_, _, rfl, by simpa using hG, hO, hB⟩

theorem concatBytes_calls (ss : List SrcOf) (ad : Option Addr) (c : Nat) (w : World) (hk : ss.length ≤ 16) (hn : sumN ss ≤ 281474976702464) (hr : Src w ad (ss.map SrcOf.val)) (hs : ∀ s ∈ ss, s.ok w 1) :
    Calls Try.prog 24 #[.slice ad ss.length c] w (SlRet w 5 1 (sumN ss) (ss.flatMap SrcOf.cells)) := by
  go_enter Try.func24, Try.ntmps24
  go_wp2_with fail
  go_loop [3, 5, 11] (fun z s i => ∃ k : Nat, k ≤ ss.length ∧ i = .int .i64 k ∧ z = .int .i64 (sumN (ss.take k))) (fun _ _ i => ss.length - (intOf i).toNat)
  case atStart => exact ⟨0, Nat.zero_le _, rfl, rfl⟩
  case round =>
    obtain ⟨k, hkl, rfl, rfl⟩ := hrel
    by_cases hlt : k < ss.length
    · obtain ⟨b, o, rfl, hbs, hc⟩ := hr k (by simpa using hlt)
      have hsn := sumN_take ss k hlt
      have hle := sumN_le ss (k + 1)
      have HS := Lib.hid hsn
      have hb1 : (sumN (ss.take k) : Int) + (ss[k].n : Int) ≤ 281474976702464 := by omega
      have hc' : w.cell? ⟨b, o + k, none⟩ = some (.slice ss[k].A ss[k].n ss[k].c) := by simpa [SrcOf.val] using hc
      clear hsn hle hc
      go_wp2_with fail
      go_round
      case rel => exact ⟨k + 1, by omega, by go_num, by rw [HS.out]; go_num⟩
      case measure => simp [intOf] <;> omega
    · obtain rfl : k = ss.length := by omega
      rw [List.take_length]
      go_wp2_with fail
      refine (growBytes_calls (sumN ss) w (by omega)).mono ?_
      rintro e w1 ⟨A0, c0, rfl, hcp, hO, hB⟩
      have HCP : Hid (sumN ss ≤ 140737488355328 ∨ (sumN ss ≤ c0 ∧ 0 < c0)) := Lib.hid (by omega)
      clear hcp
      have HR := Lib.hid hr
      have HQ := Lib.hid hs
      clear hr hs
      go_wp2_with fail
      go_loopw [6, 8, 27] (fun z s i wr => ∃ (k : Nat) (A1 : Option Addr) (c1 : Nat), k ≤ ss.length ∧ i = .int .i64 k ∧ z = .slice A1 (sumN (ss.take k)) c1 ∧ Own wr w.heap.size 5 1 A1 (sumN (ss.take k)) c1 ((ss.take k).flatMap SrcOf.cells) ∧ Below w.heap.size w wr ∧ Hid (sumN ss ≤ 140737488355328 ∨ (sumN ss ≤ c1 ∧ 0 < c1))) (fun _ _ i _ => ss.length - (intOf i).toNat)
      case atStart => exact ⟨0, A0, c0, Nat.zero_le _, rfl, rfl, hO, hB, HCP⟩
      case round =>
        obtain ⟨k, A1, c1, hkl, rfl, rfl, hO1, hB1, HCP1⟩ := hrel
        have hr2 := HR.out.stays hB1
        have hs2 : ∀ s ∈ ss, s.ok wr 1 := fun s h => (HQ.out s h).stays hB1
        by_cases hlt : k < ss.length
        · obtain ⟨b, o, rfl, hbs, hc⟩ := hr2 k (by simpa using hlt)
          have hsn := sumN_take ss k hlt
          have hle := sumN_le ss (k + 1)
          have hfl : (ss.take (k + 1)).flatMap SrcOf.cells = (ss.take k).flatMap SrcOf.cells ++ ss[k].cells := by
            rw [List.take_succ_eq_append_getElem hlt, List.flatMap_append]; simp
          have HS := Lib.hid hsn
          have HF := Lib.hid hfl
          obtain ⟨q1, q2, q3⟩ := hs2 ss[k] (List.getElem_mem hlt)
          have Q1 := Lib.hid q1
          have hb1 : sumN (ss.take k) + ss[k].n ≤ sumN ss := by omega
          have hb2 : w.heap.size ≤ wr.heap.size := hB1.size
          have hc' : wr.cell? ⟨b, o + k, none⟩ = some (.slice ss[k].A ss[k].n ss[k].c) := by simpa [SrcOf.val] using hc
          clear hsn hle hc hfl q1 hr2 hs2
          go_wp2_with (at_builtin; refine wpList_app2 _ rfl _ _ 27 rfl elBytesB w.heap.size A1 (sumN (ss.take k)) c1 _ rfl hO1 ss[k].A ss[k].n ss[k].c ss[k].cells rfl q2 Q1.out q3 (sumN ss) hb1 HCP1.out hb2 ?_; intro A' c' w2 hown hb HCP2)
          have hfin : Own w2 w.heap.size 5 1 A' (sumN (ss.take (k + 1))) c' ((ss.take (k + 1)).flatMap SrcOf.cells) := by rw [HS.out, HF.out]; exact hown
          have hB2 := hB1.trans hb
          clear hown hb q2 q3 hc' hbs
          go_roundw
          case rel => exact ⟨k + 1, A', c', by omega, by go_num, by rw [HS.out], hfin, hB2, HCP2⟩
          case measure => simp [intOf] <;> omega
        · obtain rfl : k = ss.length := by omega
          rw [List.take_length] at hO1
          clear hr2 hs2
          go_wp2_with fail
          go_ret
          exact ⟨_, _, by rw [List.take_length]; rfl, hO1, hB1⟩
end Go.Proofs.Ytefkfglkpebbmaa
