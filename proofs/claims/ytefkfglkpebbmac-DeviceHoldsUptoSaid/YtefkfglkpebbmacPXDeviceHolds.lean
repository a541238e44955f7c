/- The walk of the law DeviceHolds. Printed by gen_dholds.py. Condition: the library's variable holds some number. -/
import Derived.Test.YtefkfglkpebbmacP14
import Derived.Test.YtefkfglkpebbmacPXHoldActs
import Derived.Test.YtefkfglkpebbmacPXWorArgs
import Derived.Test.YtefkfglkpebbmacPXAtFn
set_option linter.unusedVariables false
set_option linter.unusedSimpArgs false
set_option maxRecDepth 100000
set_option maxHeartbeats 40000000
namespace Go.Proofs.Ytefkfglkpebbmac
open Go.RowKit
def holdF (gd gc gn : Nat) : Nat → Value
 | 0 => .func (Fn.func 54) #[] #[.pointer (some ⟨gd, 0, none⟩), .pointer (some ⟨gc, 0, none⟩)]
 | 1 => .func (Fn.func 56) #[] #[.pointer (some ⟨gd, 0, none⟩)]
 | 2 => .func (Fn.func 58) #[] #[.pointer (some ⟨gd, 0, none⟩), .pointer (some ⟨gn, 0, none⟩)]
 | 3 => .func (Fn.func 60) #[] #[.pointer (some ⟨gd, 0, none⟩), .pointer (some ⟨gn, 0, none⟩)]
 | 4 => .func (Fn.func 62) #[] #[.pointer (some ⟨gd, 0, none⟩)]
 | 5 => .func (Fn.func 64) #[] #[.pointer (some ⟨gd, 0, none⟩)]
 | _ => .func (Fn.func 66) #[] #[.pointer (some ⟨gd, 0, none⟩)]
theorem dev_slot {w : World} {d : Dev} {L : DLoc} (h : DevIn w d L) {a : Nat} (ha : a ≤ 1) : ∃ A c, (devA d L)[a]? = some (.slice A (d.slot (a : Int)).length c) ∧ (d.slot (a : Int)).length ≤ c ∧ (d.slot (a : Int)).length ≤ 1048576 ∧ Bts w A (d.slot (a : Int)) := by
 match a, ha with
 | 0, _ => exact ⟨L.a0, L.c0, rfl, h.k0, h.l0, h.b0⟩
 | 1, _ => exact ⟨L.a1, L.c1, rfl, h.k1, h.l1, h.b1⟩
theorem hold_wpl {ops : Array Oper} {rest : List Oper} {dst : Option Tmp} {t : TypeId} {p : String} {af : Array Edge} {a : Act} {w : World} {Q : Exit → Act → World → Prop} {x : Tmp} {k gd gc gn : Nat} {d : Dev} {L : DLoc} {c : Chk} {B : Option Addr} {e : Nat} {n : Int} (hk : k < 7)
  (hx : a.tmps[x]? = some (holdF gd gc gn k)) (hin : DevIn w d L) (hr : rowOf w gd = devA d L) (hf : frOf w gd = (0, 0)) (hc : ChkIn w c B e) (hr2 : rowOf w gc = chkA c.from_ c.to_ c.n c.of_ B c.data.length e) (hf2 : frOf w gc = (0, 0)) (hr3 : rowOf w gn = #[iv n]) (hf3 : frOf w gn = (0, 0)) (hn : I64 n)
  (h : ∀ L' w', Fresh w.heap.size w' (fun v => DevIn v (holdAct k d c n).1 L') → Below w.heap.size w w' → wpList Try.prog ops Q rest (a.put dst (.tuple #[.agg (devA (holdAct k d c n).1 L'), iv (holdAct k d c n).2])) w') :
  wpList Try.prog ops Q (⟨dst, .call { callee := .value (.tmp x), args := #[], argTypes := #[] }, t, p, af, none⟩ :: rest) a w := by
 refine wpList_plain rfl fun K hK => ?_
 have hk' : ∀ en w', DvRet w (holdAct k d c n).1 (holdAct k d c n).2 en w' → ∃ v, en = .returned v ∧ K (a.put dst v) w' := by
  rintro en w' ⟨L', rfl, h1, h2⟩
  exact ⟨_, rfl, hK _ _ (h L' w' h1 h2)⟩
 match k, hk, hx, hk' with
 | 0, _, hx, hk' => exact wp_callv hx (by simp) (enters_of Try.func54 (by kernel_rfl) rfl _ _) (hold0_calls d L c B e gd gc w hin hr hf hc hr2 hf2) hk'
 | 1, _, hx, hk' => exact wp_callv hx (by simp) (enters_of Try.func56 (by kernel_rfl) rfl _ _) (hold1_calls d L gd w hin hr hf) hk'
 | 2, _, hx, hk' => exact wp_callv hx (by simp) (enters_of Try.func58 (by kernel_rfl) rfl _ _) (hold2_calls d L n gd gn w hin hr hf hr3 hf3 hn) hk'
 | 3, _, hx, hk' => exact wp_callv hx (by simp) (enters_of Try.func60 (by kernel_rfl) rfl _ _) (hold3_calls d L n gd gn w hin hr hf hr3 hf3 hn) hk'
 | 4, _, hx, hk' => exact wp_callv hx (by simp) (enters_of Try.func62 (by kernel_rfl) rfl _ _) (hold4_calls d L gd w hin hr hf) hk'
 | 5, _, hx, hk' => exact wp_callv hx (by simp) (enters_of Try.func64 (by kernel_rfl) rfl _ _) (hold5_calls d L gd w hin hr hf) hk'
 | 6, _, hx, hk' => exact wp_callv hx (by simp) (enters_of Try.func66 (by kernel_rfl) rfl _ _) (hold6_calls d L gd w hin hr hf) hk'
theorem DeviceHolds_walk (W : World) (v0 v1 v2 v3 : Value) (d : Dev) (c : Chk) (kz n : Int) (g0 : ArgDev W v0 d) (g1 : ArgChk W v1 c) (g2 : v2 = iv kz ∧ I64 kz) (g3 : v3 = iv n ∧ I64 n) (hml : ML W) : Calls Try.prog 8 #[v0, v1, v2, v3] W (RetB W (.bool true)) := by
 obtain ⟨L, rfl, hin⟩ := g0
 obtain ⟨B, e, rfl, hck⟩ := g1
 obtain ⟨rfl, hz1, hz2⟩ := g2
 obtain ⟨rfl, hn⟩ := g3
 have HML := hD hml
 have KI := hD (fun w h => installed_calls w h)
 have KC := hD (fun w h => devCheck_calls d L w h)
 have HIN := hD hin
 have HCK := hD hck
 have HN := hD hn
 clear hin hck hn hml
 obtain ⟨w0, hw0⟩ : ∃ w0, ((W.alloc (.cells (devA d L) 71)).alloc (.cells (chkA c.from_ c.to_ c.n c.of_ B c.data.length e) 49)).alloc (.cells #[iv n] 3) = w0 := ⟨_, rfl⟩
 have HBA : Hid (Below W.heap.size W w0) := hD (by
  rw [← hw0]
  exact (((Below.refl _ _).alloc (Nat.le_refl _) _).alloc (by simp) _).alloc (by simp; omega) _)
 have HW0 := hD hw0
 clear hw0
 change Calls Try.prog 8 #[.agg (devA d L), .agg (chkA c.from_ c.to_ c.n c.of_ B c.data.length e), iv kz, iv n] W _
 go_enter Try.func8, Try.ntmps8
 go_wp2_with fail
 have HR0 : Hid ((rowOf w0 W.heap.size = devA d L ∧ frOf w0 W.heap.size = (0, 0)) ∧ (rowOf w0 (W.heap.size + 1) = chkA c.from_ c.to_ c.n c.of_ B c.data.length e ∧ frOf w0 (W.heap.size + 1) = (0, 0)) ∧ (rowOf w0 (W.heap.size + 2) = #[iv n] ∧ frOf w0 (W.heap.size + 2) = (0, 0))) := hD (by
  rw [← HW0.out]
  refine ⟨⟨?_, ?_⟩, ⟨?_, ?_⟩, ⟨?_, ?_⟩⟩ <;> go_simp)
 rw [HW0.out]
 clear HW0
 refine (KI.out _ (HML.out.stays HBA.out)).mono ?_
 rintro en w1 ⟨rfl, hb⟩
 obtain ⟨a0r, a0f, a0n, a0c, a0z, a0l⟩ := keep1 (g := W.heap.size) (cs := devA d L) hb HR0.out.1.1 (by first | (go_simp; done) | simp [chkA]) HR0.out.1.2
 obtain ⟨b0r, b0f, b0n, b0c, b0z, b0l⟩ := keep1 (g := (W.heap.size + 1)) (cs := chkA c.from_ c.to_ c.n c.of_ B c.data.length e) hb HR0.out.2.1.1 (by first | (go_simp; done) | simp [chkA]) HR0.out.2.1.2
 obtain ⟨c0r, c0f, c0n, c0c, c0z, c0l⟩ := keep1 (g := (W.heap.size + 2)) (cs := #[iv n]) hb HR0.out.2.2.1 (by first | (go_simp; done) | simp [chkA]) HR0.out.2.2.2
 have HB1 : Hid (Below W.heap.size W w1) := hD (HBA.out.trans (hb.mono HBA.out.size))
 clear hb HR0 HBA
 go_wp2_with fail
 refine (KC.out _ (HIN.out.stays HB1.out)).mono ?_
 rintro en w2 ⟨rfl, hb⟩
 obtain ⟨a0r, a0f, a0n, a0c, a0z, a0l⟩ := keep1 (g := W.heap.size) (cs := devA d L) hb a0r (by first | (go_simp; done) | simp [chkA]) a0f
 obtain ⟨b0r, b0f, b0n, b0c, b0z, b0l⟩ := keep1 (g := (W.heap.size + 1)) (cs := chkA c.from_ c.to_ c.n c.of_ B c.data.length e) hb b0r (by first | (go_simp; done) | simp [chkA]) b0f
 obtain ⟨c0r, c0f, c0n, c0c, c0z, c0l⟩ := keep1 (g := (W.heap.size + 2)) (cs := #[iv n]) hb c0r (by first | (go_simp; done) | simp [chkA]) c0f
 have HB2 : Hid (Below W.heap.size W w2) := hD (HB1.out.trans (hb.mono HB1.out.size))
 clear hb HB1 KC
 by_cases hz : devCheck d = 0
 case neg =>
  have q : (devCheck d != 0) = true := by simp [hz]
  generalize devCheck d = nn at *
  clear hz
  go_wp2_with fail
  refine (KI.out _ (HML.out.stays HB2.out)).mono ?_
  rintro en w3 ⟨rfl, hb⟩
  have HB3 : Hid (Below W.heap.size W w3) := hD (HB2.out.trans (hb.mono HB2.out.size))
  clear hb
  go_wp2_with fail
  go_ret
  refine ⟨rfl, ?_⟩
  first | exact HB3.out | (repeat (first | exact HB3.out | refine below_drewN ?_ _ | refine Below.drew ?_ | refine bA ?_ _))
 have hok := devCheck_ok.1 hz
 rw [hz]
 have HOK := hD hok
 have KR := hD (fun w => read_ok d.c0 d.c1 w hok.cops)
 obtain ⟨was, hwas⟩ : ∃ r, (recRead d.c0 d.c1).1 = r := ⟨_, rfl⟩
 obtain ⟨at_, hat_⟩ : ∃ r, (recRead d.c0 d.c1).2 = r := ⟨_, rfl⟩
 rw [hwas, hat_] at KR
 have HWAS : Hid (d.rec_ = was) := hD hwas
 clear hz hok hwas hat_
 go_wp2_with fail
 refine (KR.out _).mono ?_
 rintro en w3 ⟨rfl, hb⟩
 obtain ⟨a0r, a0f, a0n, a0c, a0z, a0l⟩ := keep1 (g := W.heap.size) (cs := devA d L) hb a0r (by first | (go_simp; done) | simp [chkA]) a0f
 obtain ⟨b0r, b0f, b0n, b0c, b0z, b0l⟩ := keep1 (g := (W.heap.size + 1)) (cs := chkA c.from_ c.to_ c.n c.of_ B c.data.length e) hb b0r (by first | (go_simp; done) | simp [chkA]) b0f
 obtain ⟨c0r, c0f, c0n, c0c, c0z, c0l⟩ := keep1 (g := (W.heap.size + 2)) (cs := #[iv n]) hb c0r (by first | (go_simp; done) | simp [chkA]) c0f
 have HB3 : Hid (Below W.heap.size W w3) := hD (HB2.out.trans (hb.mono HB2.out.size))
 clear hb HB2 KR
 go_wp2_with fail
 obtain ⟨FS, hFS⟩ : ∃ FS : Array Value, #[holdF W.heap.size (W.heap.size + 1) (W.heap.size + 2) 0, holdF W.heap.size (W.heap.size + 1) (W.heap.size + 2) 1, holdF W.heap.size (W.heap.size + 1) (W.heap.size + 2) 2, holdF W.heap.size (W.heap.size + 1) (W.heap.size + 2) 3, holdF W.heap.size (W.heap.size + 1) (W.heap.size + 2) 4, holdF W.heap.size (W.heap.size + 1) (W.heap.size + 2) 5, holdF W.heap.size (W.heap.size + 1) (W.heap.size + 2) 6] = FS := ⟨_, rfl⟩
 have HFS : Hid (∀ k, k < 7 → FS[k]? = some (holdF W.heap.size (W.heap.size + 1) (W.heap.size + 2) k)) := hD (fun k hk => by
  rw [← hFS]
  match k, hk with
  | 0, _ => rfl
  | 1, _ => rfl
  | 2, _ => rfl
  | 3, _ => rfl
  | 4, _ => rfl
  | 5, _ => rfl
  | 6, _ => rfl
  )
 have hsz : FS.size = 7 := by rw [← hFS]; rfl
 obtain ⟨w4, hw4⟩ : ∃ w4, (w3.alloc (.cells (recA was) 66)).alloc (.cells FS 77) = w4 := ⟨_, rfl⟩
 have hw4b := hw4
 rw [← hFS] at hw4b
 simp only [holdF] at hw4b
 have HFZ := hD hsz
 have hba : Below w3.heap.size w3 w4 := by rw [← hw4]; exact (((Below.refl _ _).alloc (Nat.le_refl _) _).alloc (by simp) _)
 have hs3 : W.heap.size + 3 ≤ w3.heap.size := by omega
 have hb := hba
 obtain ⟨a0r, a0f, a0n, a0c, a0z, a0l⟩ := keep1 (g := W.heap.size) (cs := devA d L) hb a0r (by first | (go_simp; done) | simp [chkA]) a0f
 obtain ⟨b0r, b0f, b0n, b0c, b0z, b0l⟩ := keep1 (g := (W.heap.size + 1)) (cs := chkA c.from_ c.to_ c.n c.of_ B c.data.length e) hb b0r (by first | (go_simp; done) | simp [chkA]) b0f
 obtain ⟨c0r, c0f, c0n, c0c, c0z, c0l⟩ := keep1 (g := (W.heap.size + 2)) (cs := #[iv n]) hb c0r (by first | (go_simp; done) | simp [chkA]) c0f
 have HB4 : Hid (Below W.heap.size W w4) := hD (HB3.out.trans (hba.mono HB3.out.size))
 have HRW : Hid ((rowOf w4 w3.heap.size = recA was ∧ frOf w4 w3.heap.size = (0, 0)) ∧ (rowOf w4 (w3.heap.size + 1) = FS ∧ frOf w4 (w3.heap.size + 1) = (0, 0))) := hD (by
  rw [← hw4]
  clear hw4 hw4b hb hba a0r a0f b0r b0f c0r c0f
  refine ⟨⟨?_, ?_⟩, ⟨?_, ?_⟩⟩ <;> go_simp)
 have hs34 : w4.heap.size = w3.heap.size + 2 := by rw [← hw4]; simp
 obtain ⟨r0r, r0f, r0n, r0c, r0z, r0l⟩ := keep1 (g := w3.heap.size) (cs := recA was) (Below.refl w4.heap.size w4) HRW.out.1.1 (by go_simp) HRW.out.1.2
 obtain ⟨s0r, s0f, s0n, s0c, s0z, s0l⟩ := keep1 (g := w3.heap.size + 1) (cs := FS) (Below.refl w4.heap.size w4) HRW.out.2.1 (by rw [hsz]; decide) HRW.out.2.2
 simp only [hw4b]
 clear hw4 hw4b hFS hba hb HB3 HRW hsz
 refine (at2_calls kz 7 _ hz1 hz2 (by omega) (by omega)).mono ?_
 rintro en w4_ ⟨rfl, rfl⟩
 obtain ⟨k, hk, hk7⟩ : ∃ k : Nat, kz % 7 = (k : Int) ∧ k < 7 := ⟨(kz % 7).toNat, by omega, by omega⟩
 rw [hk]
 have hp := s0c k
 rw [HFS.out k hk7] at hp
 have k1 : (0 : Int) ≤ (k : Int) := by omega
 have k2 : (k : Int) < 7 := by omega
 clear hk s0r s0c
 obtain ⟨er, her⟩ : ∃ er, (holdAct k d c n).2 = er := ⟨_, rfl⟩
 obtain ⟨y, hy⟩ : ∃ y, (holdAct k d c n).1 = y := ⟨_, rfl⟩
 have HER := hD her
 have HY := hD hy
 clear her hy
 have HRS : Hid ((rowOf w4 W.heap.size = devA d L ∧ frOf w4 W.heap.size = (0, 0)) ∧ (rowOf w4 (W.heap.size + 1) = chkA c.from_ c.to_ c.n c.of_ B c.data.length e ∧ frOf w4 (W.heap.size + 1) = (0, 0)) ∧ (rowOf w4 (W.heap.size + 2) = #[iv n] ∧ frOf w4 (W.heap.size + 2) = (0, 0))) := hD ⟨⟨a0r, a0f⟩, ⟨b0r, b0f⟩, ⟨c0r, c0f⟩⟩
 go_wp2_with (refine hold_wpl (x := 49) (gd := W.heap.size) (gc := W.heap.size + 1) (gn := W.heap.size + 2) (d := d) (c := c) (n := n) (L := L) (B := B) (e := e) hk7 rfl (HIN.out.stays HB4.out) HRS.out.1.1 HRS.out.1.2 (HCK.out.stays HB4.out) HRS.out.2.1.1 HRS.out.2.1.2 HRS.out.2.2.1 HRS.out.2.2.2 HN.out ?hcall)
 case hcall =>
  intro L5 w6 hf6 hb
  rw [HY.out] at hf6
  rw [HY.out, HER.out]
  obtain ⟨a0r, a0f, a0n, a0c, a0z, a0l⟩ := keep1 (g := W.heap.size) (cs := devA d L) hb a0r (by first | (go_simp; done) | simp [chkA] | simp [recA]) a0f
  obtain ⟨b0r, b0f, b0n, b0c, b0z, b0l⟩ := keep1 (g := (W.heap.size + 1)) (cs := chkA c.from_ c.to_ c.n c.of_ B c.data.length e) hb b0r (by first | (go_simp; done) | simp [chkA] | simp [recA]) b0f
  obtain ⟨c0r, c0f, c0n, c0c, c0z, c0l⟩ := keep1 (g := (W.heap.size + 2)) (cs := #[iv n]) hb c0r (by first | (go_simp; done) | simp [chkA] | simp [recA]) c0f
  obtain ⟨r0r, r0f, r0n, r0c, r0z, r0l⟩ := keep1 (g := w3.heap.size) (cs := recA was) hb r0r (by first | (go_simp; done) | simp [chkA] | simp [recA]) r0f
  have HB6 : Hid (Below W.heap.size W w6) := hD (HB4.out.trans (hb.mono HB4.out.size))
  have hs36 : w3.heap.size + 2 ≤ w6.heap.size := by have := hb.size; omega
  have HIN6 := hD (HIN.out.stays HB6.out)
  have HD6 : Hid (DevIn (w6.alloc (.cells (devA y L5) 71)) y L5) := hD (hf6.now.stays ((Below.refl _ _).alloc (Nat.le_refl _) _))
  clear hb hf6 HRS HCK HIN HB4 hp s0n s0f s0z s0l HFS HFZ
  by_cases he0 : er = 0
  case neg =>
   have q : (er != 0) = true := by simp [he0]
   clear he0
   go_wp2_with fail
   go_ret
   refine ⟨rfl, ?_⟩
   have hs6 := HB6.out.size
   (repeat (first | exact HB6.out | refine below_drewN ?_ _ | refine Below.drew ?_ | refine bA ?_ _))
  have hl := holds_law (c := c) (n := n) hk7 HOK.out (by rw [HER.out]; exact he0)
  rw [HY.out, HWAS.out] at hl
  obtain ⟨hyo, hysl, hyfl, hyac⟩ := hl
  subst he0
  have KR := hD (fun w => read_ok y.c0 y.c1 w hyo.cops)
  obtain ⟨rn, hrn⟩ : ∃ r, (recRead y.c0 y.c1).1 = r := ⟨_, rfl⟩
  obtain ⟨at2_, hat2_⟩ : ∃ r, (recRead y.c0 y.c1).2 = r := ⟨_, rfl⟩
  rw [hrn, hat2_] at KR
  have hyr : y.rec_ = rn := hrn
  rw [hyr] at hyfl hyac
  have HYO := hD hyo
  have HSL := hD hysl
  have HFL := hD hyfl
  have HAC := hD hyac
  clear hyo hysl hyfl hyac hrn hat2_ hyr HY HER
  go_wp2_with fail
  refine (KR.out _).mono ?_
  rintro en w7 ⟨rfl, hb⟩
  obtain ⟨a0r, a0f, a0n, a0c, a0z, a0l⟩ := keep1 (g := W.heap.size) (cs := devA d L) hb (by first | (go_simp; done) | (go_simp; rfl)) (by first | (go_simp; done) | simp [chkA] | simp [recA]) (by go_simp)
  obtain ⟨b0r, b0f, b0n, b0c, b0z, b0l⟩ := keep1 (g := (W.heap.size + 1)) (cs := chkA c.from_ c.to_ c.n c.of_ B c.data.length e) hb (by first | (go_simp; done) | (go_simp; rfl)) (by first | (go_simp; done) | simp [chkA] | simp [recA]) (by go_simp)
  obtain ⟨c0r, c0f, c0n, c0c, c0z, c0l⟩ := keep1 (g := (W.heap.size + 2)) (cs := #[iv n]) hb (by first | (go_simp; done) | (go_simp; rfl)) (by first | (go_simp; done) | simp [chkA] | simp [recA]) (by go_simp)
  obtain ⟨r0r, r0f, r0n, r0c, r0z, r0l⟩ := keep1 (g := w3.heap.size) (cs := recA was) hb (by first | (go_simp; done) | (go_simp; rfl)) (by first | (go_simp; done) | simp [chkA] | simp [recA]) (by go_simp)
  obtain ⟨y0r, y0f, y0n, y0c, y0z, y0l⟩ := keep1 (g := w6.heap.size) (cs := devA y L5) hb (by first | (go_simp; done) | (go_simp; rfl)) (by first | (go_simp; done) | simp [chkA] | simp [recA]) (by go_simp)
  have hba : Below w6.heap.size w6 w7 := ((Below.refl _ _).alloc (Nat.le_refl _) _).trans (hb.mono (by simp))
  have HB7 : Hid (Below W.heap.size W w7) := hD (HB6.out.trans (hba.mono HB6.out.size))
  have HIN7 := hD (HIN6.out.stays hba)
  have HD7 := hD (HD6.out.stays hb)
  have hs67 : w6.heap.size + 1 ≤ w7.heap.size := by have := hb.size; simpa using this
  clear hb hba HIN6 HD6 HB6 KR
  go_wp2_with fail
  obtain ⟨w8, hw8⟩ : ∃ w8, w7.alloc (.cells (recA rn) 66) = w8 := ⟨_, rfl⟩
  have hb : Below w7.heap.size w7 w8 := by rw [← hw8]; exact (Below.refl _ _).alloc (Nat.le_refl _) _
  obtain ⟨a0r, a0f, a0n, a0c, a0z, a0l⟩ := keep1 (g := W.heap.size) (cs := devA d L) hb a0r (by first | (go_simp; done) | simp [chkA] | simp [recA]) a0f
  obtain ⟨b0r, b0f, b0n, b0c, b0z, b0l⟩ := keep1 (g := (W.heap.size + 1)) (cs := chkA c.from_ c.to_ c.n c.of_ B c.data.length e) hb b0r (by first | (go_simp; done) | simp [chkA] | simp [recA]) b0f
  obtain ⟨c0r, c0f, c0n, c0c, c0z, c0l⟩ := keep1 (g := (W.heap.size + 2)) (cs := #[iv n]) hb c0r (by first | (go_simp; done) | simp [chkA] | simp [recA]) c0f
  obtain ⟨r0r, r0f, r0n, r0c, r0z, r0l⟩ := keep1 (g := w3.heap.size) (cs := recA was) hb r0r (by first | (go_simp; done) | simp [chkA] | simp [recA]) r0f
  obtain ⟨y0r, y0f, y0n, y0c, y0z, y0l⟩ := keep1 (g := w6.heap.size) (cs := devA y L5) hb y0r (by first | (go_simp; done) | simp [chkA] | simp [recA]) y0f
  have q0r : rowOf w8 w7.heap.size = recA rn := by rw [← hw8, rowOf_alloc, if_pos rfl]
  have q0f : frOf w8 w7.heap.size = (0, 0) := by rw [← hw8, frOf_alloc, if_pos rfl]
  have HB8 : Hid (Below W.heap.size W w8) := hD (HB7.out.trans (hb.mono HB7.out.size))
  have HIN8 := hD (HIN7.out.stays hb)
  have HD8 := hD (HD7.out.stays hb)
  rw [hw8]
  clear hw8 hb
  obtain ⟨sa, ha, ha1⟩ : ∃ a : Nat, was.active = (a : Int) ∧ a ≤ 1 := by
   have := rec_active (rec_ok HOK.out)
   rw [HWAS.out] at this
   exact ⟨was.active.toNat, by omega, by omega⟩
  obtain ⟨A1, c1, py, yc, yl, yb⟩ := dev_slot HD8.out ha1
  obtain ⟨A2, c2, pd, dc, dl, db⟩ := dev_slot HIN8.out ha1
  have hsl := HSL.out
  rw [ha] at hsl
  rw [hsl] at py yc yl yb
  have KE : Hid (∀ w, Below w8.drew.heap.size w8.drew w → Calls Try.prog 23 #[.slice A1 (d.slot (sa : Int)).length c1, .slice A2 (d.slot (sa : Int)).length c2] w (RetB w (.bool true))) := hD (fun w hw => by
   have := (bytesEqual_calls A1 A2 c1 c2 _ _ w yc dc (yb.stays ((Below.refl _ _).drew.trans hw)) (db.stays ((Below.refl _ _).drew.trans hw))).mono (fun _ _ h => h.to)
   simpa using this)
  have KK : Hid (∀ w, Below w8.drew.heap.size w8.drew w → Calls Try.prog 52 #[.agg (devA y L5)] w (RetB w (iv 0))) := hD (fun w hw => by
   have := devCheck_calls y L5 w (HD8.out.stays ((Below.refl _ _).drew.trans hw))
   rwa [devCheck_ok.2 HYO.out] at this)
  have hcf : decide (rn.floor < was.floor) = false := decide_eq_false (by have := HFL.out; omega)
  have hnl : ((d.slot (sa : Int)).length : Int) = (d.slot (sa : Int)).length := rfl
  clear hsl yl yb dl db hnl
  refine wp_region_chain (by kernel_rfl) (some 62 :: some 63 :: some 64 :: some 65 :: some 66 :: some 67 :: some 68 :: some 69 :: some 70 :: some 71 :: some 72 :: some 73 :: some 74 :: some 75 :: some 76 :: some 77 :: some 78 :: some 79 :: some 80 :: some 81 :: some 82 :: some 83 :: some 84 :: some 85 :: some 86 :: some 87 :: some 88 :: some 89 :: []) (iv 0 :: .bool false :: .bool false :: .agg (devA y L5) :: iv 0 :: .bool false :: .bool false :: .bool false :: .pointer (some ⟨w3.heap.size, 1, none⟩) :: iv (sa : Int) :: .pointer (some ⟨w6.heap.size, 0, none⟩) :: .pointer (some ⟨w6.heap.size, sa, none⟩) :: .slice A1 (d.slot (sa : Int)).length c1 :: .pointer (some ⟨w3.heap.size, 1, none⟩) :: iv (sa : Int) :: .pointer (some ⟨W.heap.size, 0, none⟩) :: .pointer (some ⟨W.heap.size, sa, none⟩) :: .slice A2 (d.slot (sa : Int)).length c2 :: .bool true :: .bool false :: .bool false :: .bool false :: .pointer (some ⟨w7.heap.size, 4, none⟩) :: iv rn.floor :: .pointer (some ⟨w3.heap.size, 4, none⟩) :: iv was.floor :: .bool false :: .bool false :: []) 103 rfl rfl (by decide +kernel) (by decide +kernel) (by decide +kernel) rfl ?_ ?_
  ·refine ⟨.inl ⟨rfl, fun done a wq hw h => ?_⟩, ?_⟩
   ·have e15 := cO 15 (iv 0) h; exact ch_move (ch_ev e15)
   refine ⟨.inl ⟨rfl, fun done a wq hw h => ?_⟩, ?_⟩
   ·have e62 := cN 0 62 h hw; exact ch_neq_int (by kernel_rfl) (ch_ev e62) rfl (by simp)
   refine ⟨.inl ⟨rfl, fun done a wq hw h => ?_⟩, ?_⟩
   ·have e63 := cN 1 63 h hw; exact ch_move (ch_ev e63)
   refine ⟨.inl ⟨rfl, fun done a wq hw h => ?_⟩, ?_⟩
   ·have e14 := cO 14 (.pointer (some ⟨w6.heap.size, 0, none⟩)) h; obtain ⟨r_, f_, n_, c_, z_, l_⟩ := keep1 (g := w6.heap.size) (cs := devA y L5) h.bel y0r (by first | (go_simp; done) | simp [recA]) y0f; refine ch_pure ?_; go_simp
   refine ⟨.inl ⟨rfl, fun done a wq hw h => ?_⟩, ?_⟩
   ·have e65 := cN 3 65 h hw; exact ch_call (by go_simp) (by go_simp) (KK.out _ h.bel)
   refine ⟨.inl ⟨rfl, fun done a wq hw h => ?_⟩, ?_⟩
   ·have e66 := cN 4 66 h hw; exact ch_neq_int (by kernel_rfl) (ch_ev e66) rfl (by simp)
   refine ⟨.inl ⟨rfl, fun done a wq hw h => ?_⟩, ?_⟩
   ·have e64 := cN 2 64 h hw; have e67 := cN 5 67 h hw; exact ch_pick_f e64 (ch_ev e67)
   refine ⟨.inl ⟨rfl, fun done a wq hw h => ?_⟩, ?_⟩
   ·have e68 := cN 6 68 h hw; exact ch_move (ch_ev e68)
   refine ⟨.inl ⟨rfl, fun done a wq hw h => ?_⟩, ?_⟩
   ·have e9 := cO 9 (.pointer (some ⟨w3.heap.size, 0, none⟩)) h; refine ch_pure ?_; go_simp
   refine ⟨.inl ⟨rfl, fun done a wq hw h => ?_⟩, ?_⟩
   ·have e70 := cN 8 70 h hw; obtain ⟨r_, f_, n_, c_, z_, l_⟩ := keep1 (g := w3.heap.size) (cs := recA was) h.bel r0r (by first | (go_simp; done) | simp [recA]) r0f; refine ch_pure ?_; go_simp
   refine ⟨.inl ⟨rfl, fun done a wq hw h => ?_⟩, ?_⟩
   ·have e14 := cO 14 (.pointer (some ⟨w6.heap.size, 0, none⟩)) h; refine ch_pure ?_; go_simp
   refine ⟨.inl ⟨rfl, fun done a wq hw h => ?_⟩, ?_⟩
   ·have e72 := cN 10 72 h hw; have e71 := cN 9 71 h hw; have k1 : (0 : Int) ≤ (sa : Int) := (by omega); have k2 : (sa : Int) < 2 := (by omega); refine ch_pure ?_; go_simp
   refine ⟨.inl ⟨rfl, fun done a wq hw h => ?_⟩, ?_⟩
   ·have e73 := cN 11 73 h hw; obtain ⟨r_, f_, n_, c_, z_, l_⟩ := keep1 (g := w6.heap.size) (cs := devA y L5) h.bel y0r (by first | (go_simp; done) | simp [recA]) y0f; have e_ := c_ sa; rw [py] at e_; refine ch_pure ?_; go_simp
   refine ⟨.inl ⟨rfl, fun done a wq hw h => ?_⟩, ?_⟩
   ·have e9 := cO 9 (.pointer (some ⟨w3.heap.size, 0, none⟩)) h; refine ch_pure ?_; go_simp
   refine ⟨.inl ⟨rfl, fun done a wq hw h => ?_⟩, ?_⟩
   ·have e75 := cN 13 75 h hw; obtain ⟨r_, f_, n_, c_, z_, l_⟩ := keep1 (g := w3.heap.size) (cs := recA was) h.bel r0r (by first | (go_simp; done) | simp [recA]) r0f; refine ch_pure ?_; go_simp
   refine ⟨.inl ⟨rfl, fun done a wq hw h => ?_⟩, ?_⟩
   ·have e4 := cO 4 (.pointer (some ⟨W.heap.size, 0, none⟩)) h; refine ch_pure ?_; go_simp
   refine ⟨.inl ⟨rfl, fun done a wq hw h => ?_⟩, ?_⟩
   ·have e77 := cN 15 77 h hw; have e76 := cN 14 76 h hw; have k1 : (0 : Int) ≤ (sa : Int) := (by omega); have k2 : (sa : Int) < 2 := (by omega); refine ch_pure ?_; go_simp
   refine ⟨.inl ⟨rfl, fun done a wq hw h => ?_⟩, ?_⟩
   ·have e78 := cN 16 78 h hw; obtain ⟨r_, f_, n_, c_, z_, l_⟩ := keep1 (g := W.heap.size) (cs := devA d L) h.bel a0r (by first | (go_simp; done) | simp [recA]) a0f; have e_ := c_ sa; rw [pd] at e_; refine ch_pure ?_; go_simp
   refine ⟨.inl ⟨rfl, fun done a wq hw h => ?_⟩, ?_⟩
   ·have e74 := cN 12 74 h hw; have e79 := cN 17 79 h hw; exact ch_call (by go_simp) (by go_simp) (KE.out _ h.bel)
   refine ⟨.inl ⟨rfl, fun done a wq hw h => ?_⟩, ?_⟩
   ·have e80 := cN 18 80 h hw; refine ch_pure ?_; go_simp
   refine ⟨.inl ⟨rfl, fun done a wq hw h => ?_⟩, ?_⟩
   ·have e69 := cN 7 69 h hw; have e81 := cN 19 81 h hw; exact ch_pick_f e69 (ch_ev e81)
   refine ⟨.inl ⟨rfl, fun done a wq hw h => ?_⟩, ?_⟩
   ·have e82 := cN 20 82 h hw; exact ch_move (ch_ev e82)
   refine ⟨.inl ⟨rfl, fun done a wq hw h => ?_⟩, ?_⟩
   ·have e16 := cO 16 (.pointer (some ⟨w7.heap.size, 0, none⟩)) h; refine ch_pure ?_; go_simp
   refine ⟨.inl ⟨rfl, fun done a wq hw h => ?_⟩, ?_⟩
   ·have e84 := cN 22 84 h hw; obtain ⟨r_, f_, n_, c_, z_, l_⟩ := keep1 (g := w7.heap.size) (cs := recA rn) h.bel q0r (by first | (go_simp; done) | simp [recA]) q0f; refine ch_pure ?_; go_simp
   refine ⟨.inl ⟨rfl, fun done a wq hw h => ?_⟩, ?_⟩
   ·have e9 := cO 9 (.pointer (some ⟨w3.heap.size, 0, none⟩)) h; refine ch_pure ?_; go_simp
   refine ⟨.inl ⟨rfl, fun done a wq hw h => ?_⟩, ?_⟩
   ·have e86 := cN 24 86 h hw; obtain ⟨r_, f_, n_, c_, z_, l_⟩ := keep1 (g := w3.heap.size) (cs := recA was) h.bel r0r (by first | (go_simp; done) | simp [recA]) r0f; refine ch_pure ?_; go_simp
   refine ⟨.inl ⟨rfl, fun done a wq hw h => ?_⟩, ?_⟩
   ·have e85 := cN 23 85 h hw; have e87 := cN 25 87 h hw; exact ch_lss_int (by kernel_rfl) (ch_ev e85) (ch_ev e87) (by rw [hcf])
   refine ⟨.inl ⟨rfl, fun done a wq hw h => ?_⟩, ?_⟩
   ·have e83 := cN 21 83 h hw; have e88 := cN 26 88 h hw; exact ch_pick_f e83 (ch_ev e88)
   exact trivial
  intro w9 hb
  simp only [putAll_some, putAll_none, putAll_nil, List.setIfInBounds_toArray, List.set_cons_zero, List.set_cons_succ]
  obtain ⟨r0r, r0f, r0n, r0c, r0z, r0l⟩ := keep1 (g := w3.heap.size) (cs := recA was) hb r0r (by first | (go_simp; done) | simp [chkA] | simp [recA]) r0f
  obtain ⟨q0r, q0f, q0n, q0c, q0z, q0l⟩ := keep1 (g := w7.heap.size) (cs := recA rn) hb q0r (by go_simp) q0f
  have HB9 : Hid (Below W.heap.size W w9) := hD (HB8.out.trans (hb.mono HB8.out.size))
  have hac := HAC.out
  clear hb HB8 HB7 HD8 HD7 HIN8 HIN7 KK KE py pd hcf HSL HFL ha
  rcases hac with h1 | ⟨h1, h2⟩
  ·have k3 : decide (rn.active = was.active) = true := decide_eq_true h1
   have k4 : (rn.active == was.active) = true := by simp [h1]
   go_wp2_with fail
   go_ret
   refine ⟨rfl, ?_⟩
   first | exact HB9.out | (repeat (first | exact HB9.out | refine below_drewN ?_ _ | refine Below.drew ?_))
  ·subst h1
   by_cases h1 : rn.active = was.active
   ·have k3 : decide (rn.active = was.active) = true := decide_eq_true h1
    have k4 : (rn.active == was.active) = true := by simp [h1]
    go_wp2_with fail
    go_ret
    refine ⟨rfl, ?_⟩
    first | exact HB9.out | (repeat (first | exact HB9.out | refine below_drewN ?_ _ | refine Below.drew ?_))
   ·have k3 : decide (rn.active = was.active) = false := decide_eq_false h1
    have k4 : (rn.active == was.active) = false := by simp [h1]
    go_wp2_with fail
    go_ret
    refine ⟨rfl, ?_⟩
    first | exact HB9.out | (repeat (first | exact HB9.out | refine below_drewN ?_ _ | refine Below.drew ?_))
end Go.Proofs.Ytefkfglkpebbmac
