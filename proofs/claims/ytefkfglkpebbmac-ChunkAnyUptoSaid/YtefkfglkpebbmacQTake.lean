/- The walk of the law ChunkAny's closure. Printed by gen_take.py. No conditions. -/
import Derived.Test.YtefkfglkpebbmacQMid
import Derived.Test.YtefkfglkpebbmacQPatched
import Derived.Test.YtefkfglkpebbmacQChkAdd
import Derived.Test.YtefkfglkpebbmacQChkJoin
import Derived.Test.YtefkfglkpebbmacQGKinds
namespace Go.Proofs.Ytefkfglkpebbmac
open Go.RowKit
set_option linter.unusedVariables false
set_option linter.unusedSimpArgs false

theorem chkB_in {x : Chk} (h : chkCheck x = 0) : ChkB x := by
  obtain ⟨⟨h1, h2, h3, h4, h5, h6, h7, h8⟩, _, h9, _⟩ := chkCheck_ok.1 h
  refine ⟨by omega, ⟨?_, ?_⟩, ⟨?_, ?_⟩, ⟨?_, ?_⟩, ⟨?_, ?_⟩⟩ <;> omega
theorem chkBs_in {l : List Chk} (h : chkList l = 0) : ∀ x ∈ l, ChkB x := fun x hx => chkB_in ((chkList_ok.1 h).1 x hx)
structure TkW (w0 : World) (g gW gP : Nat) (p : Pat) (b : List UInt8) (Wa : Option Addr) (Wc : Nat) (PA : Option Addr) (PC : Nat) : Prop where
  sz : w0.heap.size = g
  lw : gW < g
  cw : w0.cell? ⟨gW, 0, none⟩ = some (.slice Wa (chunksOf p b).length Wc)
  chs : Chs w0 Wa (chunksOf p b)
  rp : rowOf w0 gP = patA p.from_ p.to_ p.old p.new_ p.size PA p.ops.length PC
  fp : frOf w0 gP = (0, 0)
  pin : PatIn w0 p PA PC
structure TkAt (w0 w : World) (g : Nat) (p : Pat) (b : List UInt8) (S : Nat → Bool) : Prop where
  bel : Below g w0 w
  got : ∃ A c ds, Box w g 43 (.slice A (gotS p b S).length c) ∧ GRow kChk w (g + 3) (gotS p b S) ds A c ∧ Each kChk (gotS p b S) ds (fun k => g + 3 ≤ k)
  seen : SeenAt w (g + 1) (nOf b) S
  mp : Box w (g + 2) 46 (.map (some (g + 1)))
  lt : g + 3 ≤ w.heap.size
/-! ### The first region -/
def tkJ (wo : World) (R : Option Addr → Nat → List (Option Addr × Nat) → World → Prop) (n : Nat) (done : Nat → Bool) (cv : Nat → Value) (w : World) : Prop :=
  (done 5 = false ∧ w = wo.drew) ∨ (done 5 = true ∧ ∃ A c ds, R A c ds w ∧ cv 5 = .tuple #[.slice A n c, iv 0] ∧ (done 6 = true → cv 6 = .tuple #[.slice A n c, iv 0]) ∧ (done 7 = true → cv 7 = .slice A n c) ∧ (done 8 = true → cv 8 = iv 0) ∧ (done 9 = true → cv 9 = .slice A n c) ∧ (done 10 = true → cv 10 = iv 0))
theorem tkJ_bel {wo w : World} {R : Option Addr → Nat → List (Option Addr × Nat) → World → Prop} {n : Nat} {done : Nat → Bool} {cv : Nat → Value} (h : tkJ wo R n done cv w) (hR : ∀ A c ds w, R A c ds w → Below wo.heap.size wo w) : Below wo.heap.size wo w := by
  rcases h with ⟨_, rfl⟩ | ⟨_, A, c, ds, h, _⟩
  · exact (Below.refl _ _).drew
  · exact hR _ _ _ _ h
theorem tkJ_step {wo w : World} {R : Option Addr → Nat → List (Option Addr × Nat) → World → Prop} {n : Nat} {done : Nat → Bool} {cv : Nat → Value} (h : tkJ wo R n done cv w) (h5 : done 5 = true) (i : Nat) (hi : i ≠ 5) :
    ∃ A c, cv 5 = .tuple #[.slice A n c, iv 0] ∧ (done 6 = true → cv 6 = .tuple #[.slice A n c, iv 0]) ∧ (done 7 = true → cv 7 = .slice A n c) ∧ (done 8 = true → cv 8 = iv 0) ∧
      ∀ v, (i = 6 → v = .tuple #[.slice A n c, iv 0]) → (i = 7 → v = .slice A n c) → (i = 8 → v = iv 0) → (i = 9 → v = .slice A n c) → (i = 10 → v = iv 0) → tkJ wo R n (fun j => if j = i then true else done j) (fun j => if j = i then v else cv j) w := by
  rcases h with ⟨h, _⟩ | ⟨_, A, c, ds, hR, a5, a6, a7, a8, a9, a10⟩
  · rw [h5] at h; cases h
  refine ⟨A, c, a5, a6, a7, a8, fun v g6 g7 g8 g9 g10 => .inr ⟨by simp [h5], A, c, ds, hR, by simpa [Ne.symm hi] using a5, ?_, ?_, ?_, ?_, ?_⟩⟩
  · intro hd; by_cases e : 6 = i
    · simpa [e] using g6 e.symm
    · simp [e] at hd ⊢; exact a6 hd
  · intro hd; by_cases e : 7 = i
    · simpa [e] using g7 e.symm
    · simp [e] at hd ⊢; exact a7 hd
  · intro hd; by_cases e : 8 = i
    · simpa [e] using g8 e.symm
    · simp [e] at hd ⊢; exact a8 hd
  · intro hd; by_cases e : 9 = i
    · simpa [e] using g9 e.symm
    · simp [e] at hd ⊢; exact a9 hd
  · intro hd; by_cases e : 10 = i
    · simpa [e] using g10 e.symm
    · simp [e] at hd ⊢; exact a10 hd
/-! ### The second region -/
structure TkM (w0 : World) (g N : Nat) (S S' : Nat → Bool) (old new : Value) (l : List Chk) (ds : List (Option Addr × Nat)) (A : Option Addr) (c : Nat) (d3 d4 : Bool) (w : World) : Prop where
  got : Box w g 43 (if d3 = true then new else old)
  seen : SeenAt w (g + 1) N (if d4 = true then S' else S)
  mp : Box w (g + 2) 46 (.map (some (g + 1)))
  row : GRow kChk w (g + 3) l ds A c
  each : Each kChk l ds (fun k => g + 3 ≤ k)
  bel : Below g w0 w
  lt : g + 3 ≤ w.heap.size
theorem TkM.below {w0 w w' : World} {g N : Nat} {S S' : Nat → Bool} {old new : Value} {l : List Chk} {ds : List (Option Addr × Nat)} {A : Option Addr} {c : Nat} {d3 d4 : Bool} (h : TkM w0 g N S S' old new l ds A c d3 d4 w) (hb : Below w.heap.size w w') : TkM w0 g N S S' old new l ds A c d3 d4 w' :=
  ⟨h.got.below hb, h.seen.below hb h.seen.lt, h.mp.below hb, h.row.below hb, h.each, h.bel.trans (hb.mono (by have := h.lt; omega)), Nat.le_trans h.lt hb.size⟩
theorem TkM.done {w0 w : World} {g : Nat} {p : Pat} {b : List UInt8} {S S' : Nat → Bool} {old : Value} {ds : List (Option Addr × Nat)} {A : Option Addr} {c : Nat} (h : TkM w0 g (nOf b) S S' old (.slice A (gotS p b S').length c) (gotS p b S') ds A c true true w) : TkAt w0 w g p b S' :=
  ⟨h.bel, ⟨A, c, ds, by simpa using h.got, h.row, h.each⟩, by simpa using h.seen, h.mp, h.lt⟩
theorem rowOf_below0 {w w' : World} {g B : Nat} (h : g < B) (hb : Below B w w') : rowOf w' g = rowOf w g := by
  unfold rowOf; rw [hb.block g h]
theorem frOf_below0 {w w' : World} {g B : Nat} (h : g < B) (hb : Below B w w') : frOf w' g = frOf w g := by
  unfold frOf; rw [hb.block g h]
theorem wp_sslc {a : Act} {w : World} {K : Act → World → Prop} {Q : Exit → Act → World → Prop} {t : TypeId} {p : String} {af : Array Edge} {gd : Option (Nat × Bool)} {x y : Tmp} {g j : Nat} {B : Option Addr} {n c : Nat} {u : Value} (hx : a.tmps[x]? = some (.pointer (some ⟨g, j, none⟩))) (hy : a.tmps[y]? = some (.slice B n c))
    (hc : w.cell? ⟨g, j, none⟩ = some u) (hf : w.frozen? ⟨g, j, none⟩ = false) (h : K a (w.setCell ⟨g, j, none⟩ (.slice B n c))) :
    Oper.wp Try.prog ⟨none, .store 43 (.tmp x) (.tmp y), t, p, af, gd⟩ a w K Q := by
  have e1 : a.eval (.tmp x) = .pointer (some ⟨g, j, none⟩) := by simp [Act.eval, hx]
  have e2 : a.eval (.tmp y) = .slice B n c := by simp [Act.eval, hy]
  unfold Oper.wp execOp
  simp only [e1, e2]
  go_simp
  exact h
theorem wp_mapup {a : Act} {w w' : World} {K : Act → World → Prop} {Q : Exit → Act → World → Prop} {t : TypeId} {p : String} {af : Array Edge} {gd : Option (Nat × Bool)} {x y : Tmp} {m k v : Value} (hx : a.tmps[x]? = some m) (hy : a.tmps[y]? = some k)
    (hrun : (Instr.mapUpdate 46 m k v).run Try.prog w = .ok () w') (h : K a w') :
    Oper.wp Try.prog ⟨none, .mapUpdate 46 (.tmp x) (.tmp y) (.const v), t, p, af, gd⟩ a w K Q := by
  have e1 : a.eval (.tmp x) = m := by simp [Act.eval, hx]
  have e2 : a.eval (.tmp y) = k := by simp [Act.eval, hy]
  have e3 : a.eval (.const v) = v := rfl
  unfold Oper.wp
  simp [execOp, e1, e2, e3, hrun, Result.andThen]
  exact h
def TkRet (w0 : World) (g : Nat) (p : Pat) (b : List UInt8) (S : Nat → Bool) : Ending → World → Prop := fun e w' => e = .returned (.bool true) ∧ TkAt w0 w' g p b S
set_option maxRecDepth 100000 in
set_option maxHeartbeats 8000000 in
theorem take_calls {w0 w : World} {g gW gP : Nat} {p : Pat} {b : List UInt8} {Wa : Option Addr} {Wc : Nat} {PA : Option Addr} {PC : Nat} {S : Nat → Bool} (hw : TkW w0 g gW gP p b Wa Wc PA PC) (hcut : (chkCut p).2 = 0) (hbe : b = packed (patBytes p)) (h : TkAt w0 w g p b S) {k : Nat} (hk : k < nOf b) :
    Calls Try.prog 35 #[.int .i64 (k : Int), .pointer (some ⟨g, 0, none⟩), .pointer (some ⟨gW, 0, none⟩), .pointer (some ⟨g + 2, 0, none⟩), .pointer (some ⟨gP, 0, none⟩)] w (TkRet w0 g p b (fun j => S j || j == k)) := by
  subst hbe
  obtain ⟨h1, h2, h3, h4⟩ := chkCut_ok hcut
  have hp := (patCheck_ok.1 h1).1
  have hjn := gotS_join hcut (fun j => S j || j == k)
  have hadd := gotS_add hp h2 S hk
  have hok := gotS_ok hp h2 S
  have hok2 := gotS_ok hp h2 (fun j => S j || j == k)
  have hln2 := gotS_len p (packed (patBytes p)) (fun j => S j || j == k)
  have hcl : (chunksOf p (packed (patBytes p))).length = nOf (packed (patBytes p)) := by simp [chunksOf, nOf]
  have hck : (chunksOf p (packed (patBytes p)))[k]? = some (chunkAt p (packed (patBytes p)) (nOf (packed (patBytes p))) k) := by
    rw [List.getElem?_eq_getElem (by omega)]; simp [chunksOf, nOf]
  obtain ⟨A, c, ds, hbx, hrow, heach⟩ := h.got
  have hgl := chkList_len hok
  have hgl2 := chkList_len hok2
  have HBm := Lib.hid (chkBs_in hok)
  have HBm2 := Lib.hid (chkBs_in hok2)
  have hseen := h.seen
  have hmp := h.mp
  have hlt := h.lt
  have hbel := h.bel
  have hsz := hw.sz
  have hlw := hw.lw
  clear h h3 h4 hok hok2 hcut h1 hp
  have hsts : Below w0.heap.size w0 w := by rw [hsz]; exact hbel
  have HPI := Lib.hid hw.pin
  have HSZ := Lib.hid hsz
  have HR0 := Lib.hid hw.rp
  have HF0 := Lib.hid hw.fp
  have HW0 : Hid (w0.cell? ⟨gW, 0, none⟩ = some (.slice Wa (nOf (packed (patBytes p))) Wc)) := Lib.hid (by rw [← hcl]; exact hw.cw)
  have hcw : w.cell? ⟨gW, 0, none⟩ = some (.slice Wa (nOf (packed (patBytes p))) Wc) := by
    rw [← hcl]; exact (hbel.cell (p := ⟨gW, 0, none⟩) hlw).trans hw.cw
  obtain ⟨hgp, hgpr, hgpf⟩ : gP < g ∧ rowOf w gP = patA p.from_ p.to_ p.old p.new_ p.size PA p.ops.length PC ∧ frOf w gP = (0, 0) := by
    have h0 : gP < w0.heap.size := row_lt (w := w0) (by rw [hw.rp]; simp [patA])
    exact ⟨by omega, (rowOf_below h0 hsts).trans hw.rp, (frOf_below h0 hsts).trans hw.fp⟩
  obtain ⟨bw, ow, B, cx, hWa, hbwl, hat, hin⟩ := (hw.chs.stays hsts).chk (i := k) (by omega)
  have hx : (chunksOf p (packed (patBytes p)))[k]'(by omega) = chunkAt p (packed (patBytes p)) (nOf (packed (patBytes p))) k := by
    rw [List.getElem?_eq_getElem (by omega)] at hck; injection hck
  rw [hx] at hat hin
  subst hWa
  clear hx hck hw hsts hcl
  have HP2 : PatIn w0 p PA PC := HPI.out
  obtain ⟨jr, hjr⟩ : ∃ jr, chkJoin (gotS p (packed (patBytes p)) (fun j => S j || j == k)) = jr := ⟨_, rfl⟩
  have hjoin : ∀ A c w', Chs w' A (gotS p (packed (patBytes p)) (fun j => S j || j == k)) → Calls Try.prog 37 #[.slice A (gotS p (packed (patBytes p)) (fun j => S j || j == k)).length c] w' (PaRet w' jr.1 jr.2) := fun A c w' hs => by
    have := chkJoin_calls A c _ w' (by omega) hs
    rwa [hjr] at this
  have HJ := Lib.hid hjoin
  have hfull : (gotS p (packed (patBytes p)) (fun j => S j || j == k)).length = nOf (packed (patBytes p)) → jr = (p, 0) := fun e => by rw [← hjr, hjn, if_pos e]
  have hpart : (gotS p (packed (patBytes p)) (fun j => S j || j == k)).length ≠ nOf (packed (patBytes p)) → jr = (Pat.zero, 5) := fun e => by rw [← hjr, hjn, if_neg e]
  have HF := Lib.hid hfull
  have HPT := Lib.hid hpart
  have hcnt : cntS (nOf (packed (patBytes p))) (fun j => S j || j == k) = (gotS p (packed (patBytes p)) (fun j => S j || j == k)).length := hln2.symm
  have hle : cntS (nOf (packed (patBytes p))) (fun j => S j || j == k) ≤ nOf (packed (patBytes p)) := cnt_le _ _
  clear hjoin hjn hln2 HPI hjr hfull hpart
  generalize hS2 : (fun j => S j || j == k) = S2 at *
  have hmst : ∀ (w : World), SeenAt w (g + 1) (nOf (packed (patBytes p))) S → ∃ w', (Instr.mapUpdate 46 (.map (some (g + 1))) (iv (k : Int)) (.bool true)).run Try.prog w = .ok () w' ∧ SeenAt w' (g + 1) (nOf (packed (patBytes p))) S2 ∧ w.mapTurned w' (g + 1) := fun w h => by
    have := h.store (by omega) hk
    rwa [hS2] at this
  clear hS2
  have hadc : ∀ w', Chs w' A (gotS p (packed (patBytes p)) S) → ChkIn w' (chunkAt p (packed (patBytes p)) (nOf (packed (patBytes p))) k) B cx → Calls Try.prog 36 #[.slice A (gotS p (packed (patBytes p)) S).length c, .agg (chkA (chunkAt p (packed (patBytes p)) (nOf (packed (patBytes p))) k).from_ (chunkAt p (packed (patBytes p)) (nOf (packed (patBytes p))) k).to_ (chunkAt p (packed (patBytes p)) (nOf (packed (patBytes p))) k).n (chunkAt p (packed (patBytes p)) (nOf (packed (patBytes p))) k).of_ B (chunkAt p (packed (patBytes p)) (nOf (packed (patBytes p))) k).data.length cx)] w' (ChkRet2 w' (gotS p (packed (patBytes p)) S2) 0) := fun w' h1 h2 => by
    have := chkAdd_calls A B c cx _ _ w' (by omega) h1 h2
    rwa [hadd] at this
  have HAD := Lib.hid hadc
  have HM := Lib.hid hmst
  have HSE := Lib.hid hseen
  have HMP := Lib.hid hmp
  have HBX := Lib.hid hbx
  have HBEL := Lib.hid hbel
  have HCHS := Lib.hid (hrow.src.chs HBm.out)
  have HIN := Lib.hid hin
  have HPA := Lib.hid HP2
  have c1 := hbx.cell
  have c2 := hmp.cell
  obtain ⟨x0, x1, x2, x3, x4⟩ := hat
  have HLE := Lib.hid hle
  clear hle
  clear hadd hadc hmst hseen hmp hbx hbel hrow heach hin HP2 HBm
  generalize gotS p (packed (patBytes p)) S = l at *
  generalize hG2 : gotS p (packed (patBytes p)) S2 = l2 at *
  generalize chunkAt p (packed (patBytes p)) (nOf (packed (patBytes p))) k = x at *
  generalize hGN : nOf (packed (patBytes p)) = N at *
  have HG2 := Lib.hid hG2
  have HGN := Lib.hid hGN
  clear hG2 hGN
  have hgw : g < w.heap.size := by omega
  have hgWw : gW < w.heap.size := by omega
  have hN : (k : Int) < (N : Int) := by omega
  go_enter Try.func35, Try.ntmps35
  go_wp2_with fail
  refine wp_region_free (by kernel_rfl) (some 11 :: some 12 :: some 13 :: some 14 :: some 15 :: some 16 :: some 10 :: some 17 :: some 18 :: some 7 :: some 8 :: []) (false :: false :: false :: false :: false :: true :: true :: true :: true :: true :: true :: []) (.slice A l.length c :: .slice (some ⟨bw, ow, none⟩) N Wc :: .int .i64 (k : Int) :: .pointer (some ⟨bw, ow + k * 5, none⟩) :: .agg (chkA x.from_ x.to_ x.n x.of_ B x.data.length cx) :: undef :: undef :: undef :: undef :: undef :: undef :: []) (tkJ w (fun A c ds w1 => GRow kChk w1 w.heap.size l2 ds A c ∧ Each kChk l2 ds (fun k => w.heap.size ≤ k) ∧ Below w.heap.size w w1) l2.length) 54 rfl rfl (by decide +kernel) (by decide +kernel) (by decide +kernel) rfl rfl (.inl ⟨rfl, rfl⟩) ?_ ?_
  · refine ⟨?_, ?_⟩
    · intro done cv a wq hn hw hcl h hJ
      have e1 := fr_old (t := 1) (v := .pointer (some ⟨g, 0, none⟩)) h rfl rfl
      have hb := tkJ_bel hJ (fun _ _ _ _ h => h.2.2)
      have hc := (hb.cell (p := ⟨g, 0, none⟩) hgw).trans c1
      go_simp
    refine ⟨?_, ?_⟩
    · intro done cv a wq hn hw hcl h hJ
      have e2 := fr_old (t := 2) (v := .pointer (some ⟨gW, 0, none⟩)) h rfl rfl
      have hb := tkJ_bel hJ (fun _ _ _ _ h => h.2.2)
      have hc := (hb.cell (p := ⟨gW, 0, none⟩) hgWw).trans hcw
      go_simp
    refine ⟨?_, ?_⟩
    · intro done cv a wq hn hw hcl h hJ
      have e0 := fr_old (t := 0) (v := .int .i64 (k : Int)) h rfl rfl
      exact mx_move (ch_ev e0)
    refine ⟨?_, ?_⟩
    · intro done cv a wq hn hw hcl h hJ
      have e12 := fr_new (i := 1) (t := 12) h (hw 1 (by decide)) rfl rfl rfl; have e13 := fr_new (i := 2) (t := 13) h (hw 2 (by decide)) rfl rfl rfl
      go_simp
    refine ⟨?_, ?_⟩
    · intro done cv a wq hn hw hcl h hJ
      have e14 := fr_new (i := 3) (t := 14) h (hw 3 (by decide)) rfl rfl rfl
      have hb := tkJ_bel hJ (fun _ _ _ _ h => h.2.2)
      have y0 := (hb.cell (p := ⟨bw, ow + k * 5, none⟩) hbwl).trans x0
      have y1 := (hb.cell (p := ⟨bw, ow + k * 5 + 1, none⟩) hbwl).trans x1
      have y2 := (hb.cell (p := ⟨bw, ow + k * 5 + 2, none⟩) hbwl).trans x2
      have y3 := (hb.cell (p := ⟨bw, ow + k * 5 + 3, none⟩) hbwl).trans x3
      have y4 := (hb.cell (p := ⟨bw, ow + k * 5 + 4, none⟩) hbwl).trans x4
      go_simp
    refine ⟨?_, ?_⟩
    · intro done cv a wq hn hw hcl h hJ
      have e11 := fr_new (i := 0) (t := 11) h (hw 0 (by decide)) rfl rfl rfl; have e15 := fr_new (i := 4) (t := 15) h (hw 4 (by decide)) rfl rfl rfl
      have hb0 : Below w.heap.size w wq := tkJ_bel hJ (fun _ _ _ _ h => h.2.2)
      refine wp_call (vals := #[.slice A l.length c, .agg (chkA x.from_ x.to_ x.n x.of_ B x.data.length cx)]) (by simp [Act.eval, e11, e15]) (enters_of Try.func36 (by kernel_rfl) rfl _ _) (HAD.out _ (HCHS.out.stays hb0) (HIN.out.stays hb0)) ?_
      rintro e w' ⟨A5, c5, ds5, rfl, hg, hn5, hb5⟩
      refine ⟨_, rfl, _, rfl, .inr ⟨by simp, A5, c5, ds5, ⟨hg.mono hb0.size, hn5.imp fun _ hk => Nat.le_trans hb0.size hk, hb0.trans (hb5.mono hb0.size)⟩, by simp, ?_, ?_, ?_, ?_, ?_⟩⟩
      · intro hd; simp [maskB] at hd; have := hcl 6 _ rfl hd 5 (by decide); rw [hn] at this; cases this
      · intro hd; simp [maskB] at hd; have := hcl 6 _ rfl (hcl 7 _ rfl hd 6 (by decide)) 5 (by decide); rw [hn] at this; cases this
      · intro hd; simp [maskB] at hd; have := hcl 6 _ rfl (hcl 8 _ rfl hd 6 (by decide)) 5 (by decide); rw [hn] at this; cases this
      · intro hd; simp [maskB] at hd; have := hcl 6 _ rfl (hcl 7 _ rfl (hcl 9 _ rfl hd 7 (by decide)) 6 (by decide)) 5 (by decide); rw [hn] at this; cases this
      · intro hd; simp [maskB] at hd; have := hcl 6 _ rfl (hcl 8 _ rfl (hcl 10 _ rfl hd 8 (by decide)) 6 (by decide)) 5 (by decide); rw [hn] at this; cases this
    refine ⟨?_, ?_⟩
    · intro done cv a wq hn hw hcl h hJ
      have e16 := fr_cv (i := 5) (t := 16) h (hw 5 (by decide)) rfl rfl
      have h5 : maskB [false, false, false, false, false, true, true, true, true, true, true] done 5 = true := by
        have : done 5 = true := hw 5 (by decide)
        simp [maskB, this]
      obtain ⟨A1, c1_, a5, a6, a7, a8, hK⟩ := tkJ_step hJ h5 6 (by decide)
      rw [a5] at e16
      refine wp_val (v := .tuple #[.slice A1 l2.length c1_, iv 0]) (by go_simp) ⟨_, rfl, hK _ (fun _ => rfl) (fun e => absurd e (by decide)) (fun e => absurd e (by decide)) (fun e => absurd e (by decide)) (fun e => absurd e (by decide))⟩
    refine ⟨?_, ?_⟩
    · intro done cv a wq hn hw hcl h hJ
      have e10 := fr_cv (i := 6) (t := 10) h (hw 6 (by decide)) rfl rfl
      have h5 : maskB [false, false, false, false, false, true, true, true, true, true, true] done 5 = true := by
        have : done 5 = true := hcl 6 _ rfl (hw 6 (by decide)) 5 (by decide)
        simp [maskB, this]
      obtain ⟨A1, c1_, a5, a6, a7, a8, hK⟩ := tkJ_step hJ h5 7 (by decide)
      rw [a6 (by simp [maskB, hw 6 (by decide)])] at e10
      refine wp_val (v := .slice A1 l2.length c1_) (by go_simp) ⟨_, rfl, hK _ (fun e => absurd e (by decide)) (fun _ => rfl) (fun e => absurd e (by decide)) (fun e => absurd e (by decide)) (fun e => absurd e (by decide))⟩
    refine ⟨?_, ?_⟩
    · intro done cv a wq hn hw hcl h hJ
      have e10 := fr_cv (i := 6) (t := 10) h (hw 6 (by decide)) rfl rfl
      have h5 : maskB [false, false, false, false, false, true, true, true, true, true, true] done 5 = true := by
        have : done 5 = true := hcl 6 _ rfl (hw 6 (by decide)) 5 (by decide)
        simp [maskB, this]
      obtain ⟨A1, c1_, a5, a6, a7, a8, hK⟩ := tkJ_step hJ h5 8 (by decide)
      rw [a6 (by simp [maskB, hw 6 (by decide)])] at e10
      refine wp_val (v := iv 0) (by go_simp) ⟨_, rfl, hK _ (fun e => absurd e (by decide)) (fun e => absurd e (by decide)) (fun _ => rfl) (fun e => absurd e (by decide)) (fun e => absurd e (by decide))⟩
    refine ⟨?_, ?_⟩
    · intro done cv a wq hn hw hcl h hJ
      have e17 := fr_cv (i := 7) (t := 17) h (hw 7 (by decide)) rfl rfl
      have h5 : maskB [false, false, false, false, false, true, true, true, true, true, true] done 5 = true := by
        have : done 5 = true := hcl 6 _ rfl (hcl 7 _ rfl (hw 7 (by decide)) 6 (by decide)) 5 (by decide)
        simp [maskB, this]
      obtain ⟨A1, c1_, a5, a6, a7, a8, hK⟩ := tkJ_step hJ h5 9 (by decide)
      rw [a7 (by simp [maskB, hw 7 (by decide)])] at e17
      refine wp_val (v := .slice A1 l2.length c1_) (by go_simp) ⟨_, rfl, hK _ (fun e => absurd e (by decide)) (fun e => absurd e (by decide)) (fun e => absurd e (by decide)) (fun _ => rfl) (fun e => absurd e (by decide))⟩
    refine ⟨?_, ?_⟩
    · intro done cv a wq hn hw hcl h hJ
      have e18 := fr_cv (i := 8) (t := 18) h (hw 8 (by decide)) rfl rfl
      have h5 : maskB [false, false, false, false, false, true, true, true, true, true, true] done 5 = true := by
        have : done 5 = true := hcl 6 _ rfl (hcl 8 _ rfl (hw 8 (by decide)) 6 (by decide)) 5 (by decide)
        simp [maskB, this]
      obtain ⟨A1, c1_, a5, a6, a7, a8, hK⟩ := tkJ_step hJ h5 10 (by decide)
      rw [a8 (by simp [maskB, hw 8 (by decide)])] at e18
      refine wp_val (v := iv 0) (by go_simp) ⟨_, rfl, hK _ (fun e => absurd e (by decide)) (fun e => absurd e (by decide)) (fun e => absurd e (by decide)) (fun e => absurd e (by decide)) (fun _ => rfl)⟩
    exact trivial
  · intro dn cv w1 hall hJ
    have h5 := hall 5 rfl (by decide)
    have h6 := hall 6 rfl (by decide)
    have h7 := hall 7 rfl (by decide)
    have h8 := hall 8 rfl (by decide)
    have h9 := hall 9 rfl (by decide)
    have h10 := hall 10 rfl (by decide)
    rcases hJ with ⟨h, _⟩ | ⟨_, A1, c1', ds1, ⟨hg, hn1, hb1⟩, a5, a6, a7, a8, a9, a10⟩
    · exact absurd (h5.symm.trans h) (by decide)
    have a6 := a6 h6; have a7 := a7 h7; have a8 := a8 h8; have a9 := a9 h9; have a10 := a10 h10
    simp only [freeAll, putAll_some, putAll_none, putAll_nil, List.getD_cons_zero, List.getD_cons_succ, List.getD_nil, Nat.zero_add, Nat.reduceAdd, List.setIfInBounds_toArray, List.set_cons_zero, List.set_cons_succ, if_true, if_false, Bool.false_eq_true, reduceIte, a5, a6, a7, a8, a9, a10]
    clear hall h5 h6 h7 h8 h9 h10 a5 a6 a7 a8 a9 a10
    have HG := Lib.hid hg
    have HN1 := Lib.hid hn1
    have HBX1 := Lib.hid (HBX.out.below hb1)
    have HMP1 := Lib.hid (HMP.out.below hb1)
    have HSE1 := Lib.hid (HSE.out.below hb1 HSE.out.lt)
    have HB01 := Lib.hid (HBEL.out.trans (hb1.mono (by omega)))
    have hsz1 := hb1.size
    clear hb1 hg hn1 x0 x1 x2 x3 x4 hcw c1 c2 HAD HCHS HIN HBX HMP HSE HBEL
    go_wp2_with fail
    refine wp_region_free (by kernel_rfl) (some 21 :: some 22 :: some 23 :: none :: none :: []) (false :: false :: false :: true :: true :: []) (.map (some (g + 1)) :: .int .i64 (k : Int) :: .slice A1 l2.length c1' :: undef :: undef :: []) (fun done _ w => TkM w0 g N S S2 (.slice A l.length c) (.slice A1 l2.length c1') l2 ds1 A1 c1' (done 3) (done 4) w) 54 rfl rfl (by decide +kernel) (by decide +kernel) (by decide +kernel) rfl rfl (⟨by simpa using HBX1.out.drew, by have := HSE1.out.keep (w' := w1.drew) rfl; simpa using this, HMP1.out.drew, (HG.out.mono (by omega)).below (Below.refl _ _).drew, HN1.out.imp (fun q hq => by omega), HB01.out.drew, by simp; omega⟩) ?_ ?_
    · refine ⟨?_, ?_⟩
      · intro done cv a wq hn hw hcl h hJ
        have e3 := fr_old (t := 3) (v := .pointer (some ⟨g + 2, 0, none⟩)) h rfl rfl
        have hc := hJ.mp.cell
        go_simp
      refine ⟨?_, ?_⟩
      · intro done cv a wq hn hw hcl h hJ
        have e0 := fr_old (t := 0) (v := .int .i64 (k : Int)) h rfl rfl
        exact mx_move (ch_ev e0)
      refine ⟨?_, ?_⟩
      · intro done cv a wq hn hw hcl h hJ
        have e7 := fr_old (t := 7) (v := .slice A1 l2.length c1') h rfl rfl
        exact mx_move (ch_ev e7)
      refine ⟨?_, ?_⟩
      · intro done cv a wq hn hw hcl h hJ
        have e1 := fr_old (t := 1) (v := .pointer (some ⟨g, 0, none⟩)) h rfl rfl; have e23 := fr_new (i := 2) (t := 23) h (hw 2 (by decide)) rfl rfl rfl
        have hd : maskB [false, false, false, true, true] done 3 = false := by simp [maskB, hn]
        have hc := hJ.got.cell
        have hf := hJ.got.free
        refine wp_sslc e1 e23 hc hf ⟨undef, rfl, ?_⟩
        have hg2 := hJ.got.set (.slice A1 l2.length c1')
        refine ⟨by simpa using hg2, ?_, hJ.mp.other (by show g ≠ g + 2; omega) _, hJ.row.setOther (fun e => by have := (hJ.row.row.block g e).1; omega) (hJ.each.imp fun q hq => by omega) _, hJ.each, hJ.bel.setCell (p := ⟨g, 0, none⟩) (Nat.le_refl _) _, by simpa using hJ.lt⟩
        have := hJ.seen.setCell (a := ⟨g, 0, none⟩) (by show g + 1 ≠ g; omega) (.slice A1 l2.length c1')
        simpa using this
      refine ⟨?_, ?_⟩
      · intro done cv a wq hn hw hcl h hJ
        have e21 := fr_new (i := 0) (t := 21) h (hw 0 (by decide)) rfl rfl rfl; have e22 := fr_new (i := 1) (t := 22) h (hw 1 (by decide)) rfl rfl rfl
        have hd : maskB [false, false, false, true, true] done 4 = false := by simp [maskB, hn]
        have hs := hJ.seen
        rw [hd] at hs
        obtain ⟨w', hrun, hs2, htn⟩ := HM.out wq hs
        refine wp_mapup e21 e22 hrun ⟨undef, rfl, ?_⟩
        have hsz4 := turned_size htn
        have hbk := fun i hi => turned_block htn (i := i) hi
        refine ⟨?_, by simpa using hs2, (hbk (g + 2) (by omega)).trans hJ.mp, hJ.row.keep (by omega) (fun q _ e => hbk q (by have := (hJ.row.row.block q e).1; omega)) (hJ.each.imp fun q hq _ => hbk q (by omega)), hJ.each, hJ.bel.trans (turned_below htn (by omega)), by have := hJ.lt; omega⟩
        have := (hbk g (by omega)).trans hJ.got
        first | exact this | simpa [maskB] using this
      exact trivial
    · intro dn cv w2 hall hJ
      have h3 := hall 3 rfl (by decide)
      have h4 := hall 4 rfl (by decide)
      rw [h3, h4] at hJ
      simp only [freeAll, putAll_some, putAll_none, putAll_nil, List.getD_cons_zero, List.getD_cons_succ, List.getD_nil, Nat.zero_add, Nat.reduceAdd, List.setIfInBounds_toArray, List.set_cons_zero, List.set_cons_succ, if_true, if_false, Bool.false_eq_true, reduceIte]
      clear hall h3 h4
      have c2g := hJ.got.cell
      have c2m := hJ.mp.cell
      simp only [if_true, reduceIte] at c2g
      have hB2 : Below g w0 w2 := hJ.bel
      have c2w : w2.cell? ⟨gW, 0, none⟩ = some (.slice (some ⟨bw, ow, none⟩) N Wc) := (hB2.cell (p := ⟨gW, 0, none⟩) hlw).trans HW0.out
      have r2 := (rowOf_below0 hgp hB2).trans HR0.out
      have f2 := (frOf_below0 hgp hB2).trans HF0.out
      have HPA2 := Lib.hid (HPA.out.stays (by rw [HSZ.out]; exact hB2))
      have HJ2 := Lib.hid hJ
      have HCH2 := Lib.hid (hJ.row.src.chs HBm2.out)
      have hl2 := hJ.lt
      clear hJ hB2
      by_cases hfull : l2.length = N
      · obtain rfl : jr = (p, 0) := HF.out hfull
        have hcn : cntS N S2 = N := by rw [hcnt, hfull]
        have HFU := Lib.hid hfull
        have HCN := Lib.hid hcn
        clear HF HPT hfull hcnt hcn
        go_wp2_with fail
        refine (HJ.out _ _ _ HCH2.out).mono ?_
        rintro e w3 ⟨A6, c6, rfl, hx6, hb3⟩
        have HX6 := Lib.hid hx6.now
        have hsz3 := hb3.size
        have r3 := (rowOf_below (by omega : gP < w2.heap.size) hb3).trans r2
        have f3 := (frOf_below (by omega : gP < w2.heap.size) hb3).trans f2
        have c4 := (hb3.cell (p := ⟨g + 2, 0, none⟩) (by simp; omega)).trans c2m
        have c5 := (hb3.cell (p := ⟨gW, 0, none⟩) (by simp; omega)).trans c2w
        have HJ3 := Lib.hid (HJ2.out.below hb3)
        have hlen := fun ty => ((HJ3.out.seen).keep (w' := w3.alloc (.cells (patA p.from_ p.to_ p.old p.new_ p.size A6 p.ops.length c6) 35)) (Below.heap_alloc w3 _ (g + 1) (by have := HJ3.out.lt; omega))).len ty
        simp only [if_true, reduceIte] at hlen
        rw [HCN.out] at hlen
        have HJ4 := Lib.hid (HJ3.out.below ((Below.refl w3.heap.size w3).alloc (Nat.le_refl _) (.cells (patA p.from_ p.to_ p.old p.new_ p.size A6 p.ops.length c6) 35)))
        have HPA3 := Lib.hid (HPA2.out.stays hb3)
        have n1 : ¬ g + 2 = w3.heap.size := by omega
        have n2 : ¬ gW = w3.heap.size := by omega
        have n3 : ¬ gP = w3.heap.size := by omega
        have hba := (Below.refl w3.heap.size w3).alloc (Nat.le_refl _) (.cells (patA p.from_ p.to_ p.old p.new_ p.size A6 p.ops.length c6) 35)
        have c4 := (hba.cell (p := ⟨g + 2, 0, none⟩) (by simp; omega)).trans c4
        have c5 := (hba.cell (p := ⟨gW, 0, none⟩) (by simp; omega)).trans c5
        have r3 := (rowOf_below0 (by omega : gP < w3.heap.size) hba).trans r3
        have f3 := (frOf_below0 (by omega : gP < w3.heap.size) hba).trans f3
        clear hba
        clear hb3 hx6 c2m c2w r2 f2
        go_wp2_with fail
        have hps := patSame_calls PA A6 PC c6 p p (w3.alloc (.cells (patA p.from_ p.to_ p.old p.new_ p.size A6 p.ops.length c6) 35)) (HPA3.out.stays ((Below.refl w3.heap.size w3).alloc (Nat.le_refl _) _)) (HX6.out.stays ((Below.refl w3.heap.size w3).alloc (Nat.le_refl _) _))
        rw [show decide (p = p) = true by simp] at hps
        refine hps.mono ?_
        rintro e w7 ⟨rfl, hb7⟩
        have HJ7 := Lib.hid (HJ4.out.below hb7)
        clear hb7 hps hlen
        go_wp2_with fail
        go_ret
        have e1 := HG2.out
        have e2 := HGN.out
        subst e1 e2
        exact ⟨rfl, HJ7.out.done⟩
      · obtain rfl : jr = (Pat.zero, 5) := HPT.out hfull
        have hcn : cntS N S2 = l2.length := hcnt
        have HFU := Lib.hid hfull
        have HCN := Lib.hid hcn
        clear HF HPT hfull hcnt hcn
        go_wp2_with fail
        refine (HJ.out _ _ _ HCH2.out).mono ?_
        rintro e w3 ⟨A6, c6, rfl, hx6, hb3⟩
        have HX6 := Lib.hid hx6.now
        have hsz3 := hb3.size
        have r3 := (rowOf_below (by omega : gP < w2.heap.size) hb3).trans r2
        have f3 := (frOf_below (by omega : gP < w2.heap.size) hb3).trans f2
        have c4 := (hb3.cell (p := ⟨g + 2, 0, none⟩) (by simp; omega)).trans c2m
        have c5 := (hb3.cell (p := ⟨gW, 0, none⟩) (by simp; omega)).trans c2w
        have HJ3 := Lib.hid (HJ2.out.below hb3)
        have hlen := fun ty => ((HJ3.out.seen).keep (w' := w3.alloc (.cells (patA Pat.zero.from_ Pat.zero.to_ Pat.zero.old Pat.zero.new_ Pat.zero.size A6 Pat.zero.ops.length c6) 35)) (Below.heap_alloc w3 _ (g + 1) (by have := HJ3.out.lt; omega))).len ty
        simp only [if_true, reduceIte] at hlen
        rw [HCN.out] at hlen
        have HJ4 := Lib.hid (HJ3.out.below ((Below.refl w3.heap.size w3).alloc (Nat.le_refl _) (.cells (patA Pat.zero.from_ Pat.zero.to_ Pat.zero.old Pat.zero.new_ Pat.zero.size A6 Pat.zero.ops.length c6) 35)))
        have HPA3 := Lib.hid (HPA2.out.stays hb3)
        have n1 : ¬ g + 2 = w3.heap.size := by omega
        have n2 : ¬ gW = w3.heap.size := by omega
        have n3 : ¬ gP = w3.heap.size := by omega
        have hba := (Below.refl w3.heap.size w3).alloc (Nat.le_refl _) (.cells (patA Pat.zero.from_ Pat.zero.to_ Pat.zero.old Pat.zero.new_ Pat.zero.size A6 Pat.zero.ops.length c6) 35)
        have c4 := (hba.cell (p := ⟨g + 2, 0, none⟩) (by simp; omega)).trans c4
        have c5 := (hba.cell (p := ⟨gW, 0, none⟩) (by simp; omega)).trans c5
        have r3 := (rowOf_below0 (by omega : gP < w3.heap.size) hba).trans r3
        have f3 := (frOf_below0 (by omega : gP < w3.heap.size) hba).trans f3
        clear hba
        clear hb3 hx6 c2m c2w r2 f2
        have hlt2 : l2.length < N := by have := HFU.out; have := HLE.out; rw [HCN.out] at this; omega
        have hlt3 : (l2.length : Int) < (N : Int) := by omega
        go_wp2_with fail
        go_ret
        have e1 := HG2.out
        have e2 := HGN.out
        subst e1 e2
        exact ⟨rfl, HJ4.out.done⟩
end Go.Proofs.Ytefkfglkpebbmac
