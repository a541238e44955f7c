/- Plain words on patches and their bytes. No program here. -/
import Derived.Test.YtefkfglkpebbmabDeltaMath
namespace Go.Proofs.Ytefkfglkpebbmab
set_option linter.unusedVariables false

structure Pat where
  from_ : Int
  to_ : Int
  old : Int
  new_ : Int
  size : Int
  ops : List Stp
deriving DecidableEq
def Pat.zero : Pat := ⟨0, 0, 0, 0, 0, []⟩
def Pat.range (p : Pat) : Prop := 1 ≤ p.from_ ∧ p.from_ ≤ 30 ∧ 1 ≤ p.to_ ∧ p.to_ ≤ 30 ∧ 0 ≤ p.old ∧ p.old ≤ 65535 ∧ 0 ≤ p.new_ ∧ p.new_ ≤ 65535
instance (p : Pat) : Decidable p.range := by unfold Pat.range; infer_instance
def patCheck (p : Pat) : Int := if ¬ p.range then 2 else deltaCheck p.ops 64 p.size
theorem patCheck_ok {p : Pat} : patCheck p = 0 ↔ p.range ∧ DOk p.ops 64 p.size := by
  unfold patCheck
  by_cases h : p.range
  · rw [if_neg (by simpa using h), deltaCheck_ok]; exact ⟨fun g => ⟨h, g⟩, fun g => g.2⟩
  · rw [if_pos h]; exact ⟨fun e => by omega, fun g => absurd g.1 h⟩
/-- A patch of two images; s: the sum. -/
def patMake (s : List UInt8 → Int) (from_ to_ : Int) (old b : List UInt8) : Pat × Int :=
  if 64 < old.length ∨ 64 < b.length then (Pat.zero, 1)
  else if patCheck ⟨from_, to_, s old, s b, b.length, diffed old b⟩ ≠ 0 then (Pat.zero, patCheck ⟨from_, to_, s old, s b, b.length, diffed old b⟩)
  else (⟨from_, to_, s old, s b, b.length, diffed old b⟩, 0)
def patDo (s : List UInt8 → Int) (p : Pat) (old : List UInt8) : List UInt8 × Int :=
  if patCheck p ≠ 0 then ([], patCheck p)
  else if 64 < old.length then ([], 1)
  else if s old ≠ p.old then ([], 6)
  else if deltaCheck p.ops old.length p.size ≠ 0 then ([], deltaCheck p.ops old.length p.size)
  else if s (applied old p.ops) ≠ p.new_ then ([], 6)
  else (applied old p.ops, 0)
theorem DOk.wider {l : List Stp} {old size : Int} (h : DOk l old size) {m : Int} (h1 : old ≤ m) (h2 : m ≤ 64) : DOk l m size := by
  have h0 := h.o0
  exact ⟨h.many, by omega, h2, h.s0, h.s1, fun o ho => ⟨(h.each o ho).1, by have := (h.each o ho).2; unfold Stp.in_ at *; omega⟩, h.sum⟩
theorem patMake_ok {s : List UInt8 → Int} (hs : ∀ l, 0 ≤ s l ∧ s l ≤ 65535) {from_ to_ : Int} (hf : 1 ≤ from_ ∧ from_ ≤ 30) (ht : 1 ≤ to_ ∧ to_ ≤ 30) {old b : List UInt8} (ho : old.length ≤ 64) (hb : b.length ≤ 64) :
    patMake s from_ to_ old b = (⟨from_, to_, s old, s b, b.length, diffed old b⟩, 0) ∧ patCheck ⟨from_, to_, s old, s b, b.length, diffed old b⟩ = 0 ∧
      patDo s ⟨from_, to_, s old, s b, b.length, diffed old b⟩ old = (b, 0) := by
  have h1 := diffed_ok old b ho hb
  have hc : patCheck ⟨from_, to_, s old, s b, b.length, diffed old b⟩ = 0 := by
    rw [patCheck_ok]
    refine ⟨?_, h1.wider (by omega) (by omega)⟩
    have g1 := hs old; have g2 := hs b
    unfold Pat.range; simp only; omega
  refine ⟨?_, hc, ?_⟩
  · unfold patMake
    rw [if_neg (by omega), if_neg (by rw [hc]; simp)]
  · unfold patDo
    rw [if_neg (by rw [hc]; simp), if_neg (by omega)]
    simp only [ne_eq, not_true_eq_false, if_false]
    rw [if_neg (by rw [deltaCheck_ok.2 h1]; simp)]
    rw [diffed_makes]
    simp

/-! ### As bytes -/
def by_ (n : Int) : UInt8 := UInt8.ofNat (n % 256).toNat
theorem by_toNat (n : Int) : ((by_ n).toNat : Int) = n % 256 := by unfold by_; rw [UInt8.toNat_ofNat']; omega
theorem by_of (x : UInt8) : by_ (x.toNat : Int) = x := by
  apply UInt8.toNat_inj.1
  have := by_toNat (x.toNat : Int)
  have := x.toNat_lt
  omega
theorem by_small {n : Int} (h : 0 ≤ n ∧ n ≤ 255) : ((by_ n).toNat : Int) = n := by rw [by_toNat]; omega
def stpBytes (o : Stp) : List UInt8 := if 0 < o.len then [by_ o.at_, by_ o.len] else 255 :: by_ o.data.length :: o.data
def opsBytes (l : List Stp) : List UInt8 := (l.map stpBytes).flatten
def patHead (p : Pat) : List UInt8 := [by_ p.from_, by_ p.to_, by_ (p.old / 256), by_ p.old, by_ (p.new_ / 256), by_ p.new_, by_ p.size, by_ p.ops.length]
def patBytes (p : Pat) : List UInt8 := patHead p ++ opsBytes p.ops
theorem opsBytes_cons (o : Stp) (l : List Stp) : opsBytes (o :: l) = stpBytes o ++ opsBytes l := by simp [opsBytes]
theorem opsBytes_append (l m : List Stp) : opsBytes (l ++ m) = opsBytes l ++ opsBytes m := by simp [opsBytes]
theorem opsBytes_one (o : Stp) : opsBytes [o] = stpBytes o := by simp [opsBytes]
theorem opsBytes_len {old : Int} : ∀ {l : List Stp}, (∀ o ∈ l, o.form ∧ o.in_ old) → ((opsBytes l).length : Int) ≤ 2 * l.length + made l
  | [], _ => by simp [opsBytes, made_nil]
  | o :: l, h => by
    have ih := opsBytes_len (l := l) (fun x hx => h x (by simp [hx]))
    have ho := (h o (by simp)).2
    unfold Stp.in_ at ho
    rw [opsBytes_cons, made_cons, List.length_append, List.length_cons]
    unfold Stp.n
    have : ((stpBytes o).length : Int) ≤ 2 + o.len + o.data.length := by
      unfold stpBytes
      split <;> simp <;> omega
    omega
def patPut (p : Pat) : List UInt8 × Int := if patCheck p ≠ 0 then ([], patCheck p) else (patBytes p, 0)
theorem patBytes_len {p : Pat} (h : patCheck p = 0) : (patBytes p).length ≤ 152 := by
  have h1 := (patCheck_ok.1 h).2
  have h2 := opsBytes_len h1.each
  have h3 := h1.many
  have h4 := h1.s1
  rw [h1.sum] at h2
  unfold patBytes patHead
  simp only [List.length_append, List.length_cons, List.length_nil]
  omega
/-- What is read of n steps: an error; or the steps and what is left. -/
def readOps : Nat → List UInt8 → List Stp → Int × List Stp × List UInt8
  | 0, b, acc => (0, acc, b)
  | n + 1, x :: y :: r, acc =>
    if x = 255 then (if r.length < y.toNat then (7, [], []) else readOps n (r.drop y.toNat) (acc ++ [⟨0, 0, r.take y.toNat⟩]))
    else if y = 0 then (3, [], []) else readOps n r (acc ++ [⟨x.toNat, y.toNat, []⟩])
  | _ + 1, _, _ => (7, [], [])
def headPat (b : List UInt8) (ops : List Stp) : Pat :=
  ⟨(b.getD 0 0).toNat, (b.getD 1 0).toNat, (b.getD 2 0).toNat * 256 + (b.getD 3 0).toNat, (b.getD 4 0).toNat * 256 + (b.getD 5 0).toNat, (b.getD 6 0).toNat, ops⟩
def readDone (b : List UInt8) (q : Int × List Stp × List UInt8) : Pat × Int :=
  if q.1 ≠ 0 then (Pat.zero, q.1)
  else if q.2.2 ≠ [] then (Pat.zero, 7)
  else if patCheck (headPat b q.2.1) ≠ 0 then (Pat.zero, patCheck (headPat b q.2.1))
  else (headPat b q.2.1, 0)
def patRead (b : List UInt8) : Pat × Int :=
  if 400 < b.length then (Pat.zero, 1)
  else if b.length < 8 then (Pat.zero, 7)
  else readDone b (readOps (b.getD 7 0).toNat (b.drop 8) [])
theorem readOps_nil (b : List UInt8) (acc : List Stp) : readOps 0 b acc = (0, acc, b) := by unfold readOps; rfl
theorem readOps_short {n : Nat} {b : List UInt8} {acc : List Stp} (h : b.length < 2) : readOps (n + 1) b acc = (7, [], []) := by
  rcases b with _ | ⟨x, _ | ⟨y, r⟩⟩
  · unfold readOps; rfl
  · unfold readOps; rfl
  · simp only [List.length_cons] at h; omega
theorem readOps_data {n : Nat} {y : UInt8} {r : List UInt8} {acc : List Stp} : readOps (n + 1) (255 :: y :: r) acc = if r.length < y.toNat then (7, [], []) else readOps n (r.drop y.toNat) (acc ++ [⟨0, 0, r.take y.toNat⟩]) := by
  show (if (255 : UInt8) = 255 then _ else _) = _
  rw [if_pos rfl]
theorem readOps_zero {n : Nat} {x : UInt8} {r : List UInt8} {acc : List Stp} (h : x ≠ 255) : readOps (n + 1) (x :: 0 :: r) acc = (3, [], []) := by
  show (if x = 255 then _ else if (0 : UInt8) = 0 then _ else _) = _
  rw [if_neg h, if_pos rfl]
theorem readOps_copy {n : Nat} {x y : UInt8} {r : List UInt8} {acc : List Stp} (h : x ≠ 255) (hy : y ≠ 0) : readOps (n + 1) (x :: y :: r) acc = readOps n r (acc ++ [⟨x.toNat, y.toNat, []⟩]) := by
  show (if x = 255 then _ else if y = 0 then _ else _) = _
  rw [if_neg h, if_neg hy]
/-- Read of put is the patch. -/
theorem readOps_bytes : ∀ (l acc : List Stp) (rest : List UInt8), (∀ o ∈ l, o.form ∧ o.in_ 64) → readOps l.length (opsBytes l ++ rest) acc = (0, acc ++ l, rest)
  | [], acc, rest, _ => by simp [readOps_nil, opsBytes]
  | o :: l, acc, rest, h => by
    have ho := h o (by simp)
    have hin := ho.2
    unfold Stp.in_ at hin
    have ih := fun acc => readOps_bytes l acc rest (fun x hx => h x (by simp [hx]))
    rw [opsBytes_cons, List.append_assoc, List.length_cons]
    by_cases hl : 0 < o.len
    · have e : stpBytes o = [by_ o.at_, by_ o.len] := by unfold stpBytes; rw [if_pos hl]
      have e1 := by_small (n := o.at_) (by omega)
      have e2 := by_small (n := o.len) (by omega)
      rw [e]
      simp only [List.cons_append, List.nil_append]
      rw [readOps_copy (by intro e3; rw [e3] at e1; simp at e1; omega) (by intro e3; rw [e3] at e2; simp at e2; omega), ih, e1, e2]
      have : (⟨o.at_, o.len, []⟩ : Stp) = o := by
        have hd := ho.1.2 (by omega)
        cases o; simp only at hd; subst hd; rfl
      rw [this]; simp
    · have hz : o.len = 0 := by omega
      have hf := ho.1.1 hz
      have e : stpBytes o = 255 :: by_ o.data.length :: o.data := by unfold stpBytes; rw [if_neg hl]
      have e1 := by_small (n := (o.data.length : Int)) (by omega)
      have e2 : (by_ (o.data.length : Int)).toNat = o.data.length := by omega
      rw [e]
      simp only [List.cons_append]
      rw [readOps_data, e2, if_neg (by simp), List.drop_left, List.take_left, ih]
      have : (⟨0, 0, o.data⟩ : Stp) = o := by
        have h1 := hf.1
        cases o; simp only at *; subst h1 hz; rfl
      rw [this]; simp
theorem read_put {p : Pat} (h : patCheck p = 0) : patRead (patBytes p) = (p, 0) := by
  have hlen := patBytes_len h
  obtain ⟨hr, hd⟩ := patCheck_ok.1 h
  have hm := hd.many
  have hs0 := hd.s0
  have hs1 := hd.s1
  have e7 : ((by_ (p.ops.length : Int)).toNat : Int) = p.ops.length := by_small (by omega)
  have e7' : (by_ (p.ops.length : Int)).toNat = p.ops.length := by omega
  have hops := readOps_bytes p.ops [] [] hd.each
  rw [List.append_nil, List.nil_append] at hops
  unfold Pat.range at hr
  have hd8 : (patBytes p).drop 8 = opsBytes p.ops := by simp [patBytes, patHead]
  have hhead : headPat (patBytes p) p.ops = p := by
    have f1 := by_small (n := p.from_) (by omega)
    have f2 := by_small (n := p.to_) (by omega)
    have f3 := by_small (n := p.old / 256) (by omega)
    have f4 := by_toNat p.old
    have f5 := by_small (n := p.new_ / 256) (by omega)
    have f6 := by_toNat p.new_
    have f7 := by_small (n := p.size) (by omega)
    unfold headPat patBytes patHead
    simp only [List.cons_append, List.getD_cons_zero, List.getD_cons_succ]
    rw [f1, f2, f3, f4, f5, f6, f7]
    have g1 : p.old / 256 * 256 + p.old % 256 = p.old := by omega
    have g2 : p.new_ / 256 * 256 + p.new_ % 256 = p.new_ := by omega
    rw [g1, g2]
  have hb7 : (patBytes p).getD 7 0 = by_ (p.ops.length : Int) := by simp [patBytes, patHead]
  unfold patRead
  rw [if_neg (by omega), if_neg (by simp [patBytes, patHead]), hb7, e7', hd8, hops]
  unfold readDone
  simp only [ne_eq, not_true_eq_false, if_false, hhead]
  rw [if_neg (by rw [h]; simp)]
/-- What is read is put as it was. -/
theorem readOps_back : ∀ (n : Nat) (b : List UInt8) (acc l : List Stp) (rest : List UInt8), readOps n b acc = (0, l, rest) → ∃ m, l = acc ++ m ∧ m.length = n ∧ ((∀ o ∈ m, o.form) → b = opsBytes m ++ rest)
  | 0, b, acc, l, rest, h => by
    rw [readOps_nil] at h
    simp only [Prod.mk.injEq, true_and] at h
    obtain ⟨rfl, rfl⟩ := h
    exact ⟨[], by simp, rfl, fun _ => by simp [opsBytes]⟩
  | n + 1, b, acc, l, rest, h => by
    by_cases hs : b.length < 2
    · rw [readOps_short hs] at h
      simp at h
    rcases b with _ | ⟨x, _ | ⟨y, r⟩⟩
    · simp at hs
    · simp at hs
    by_cases hx : x = 255
    · subst hx
      rw [readOps_data] at h
      by_cases hlt : r.length < y.toNat
      · rw [if_pos hlt] at h; simp at h
      · rw [if_neg hlt] at h
        obtain ⟨m, h1, h2, h3⟩ := readOps_back n _ _ _ _ h
        refine ⟨⟨0, 0, r.take y.toNat⟩ :: m, by rw [h1]; simp, by simp [h2], fun hf => ?_⟩
        have h4 := h3 (fun o ho => hf o (by simp [ho]))
        rw [opsBytes_cons]
        have e : stpBytes ⟨0, 0, r.take y.toNat⟩ = 255 :: y :: r.take y.toNat := by
          unfold stpBytes
          rw [if_neg (by simp)]
          simp only [List.length_take]
          rw [Nat.min_eq_left (by omega), by_of]
        rw [e]
        simp only [List.cons_append]
        rw [List.append_assoc, ← h4, List.take_append_drop]
    · by_cases hy : y = 0
      · subst hy
        rw [readOps_zero hx] at h
        simp at h
      · rw [readOps_copy hx hy] at h
        obtain ⟨m, h1, h2, h3⟩ := readOps_back n _ _ _ _ h
        refine ⟨⟨x.toNat, y.toNat, []⟩ :: m, by rw [h1]; simp, by simp [h2], fun hf => ?_⟩
        have h4 := h3 (fun o ho => hf o (by simp [ho]))
        rw [opsBytes_cons]
        have hy0 : 0 < y.toNat := by
          rcases Nat.eq_zero_or_pos y.toNat with e | e
          · exact absurd (UInt8.toNat_inj.1 (by rw [e]; rfl)) hy
          · exact e
        have e : stpBytes ⟨x.toNat, y.toNat, []⟩ = [x, y] := by
          unfold stpBytes
          rw [if_pos (by simp only; omega), by_of, by_of]
        rw [e, h4]
        simp
theorem put_read {b : List UInt8} {p : Pat} (h : patRead b = (p, 0)) : patCheck p = 0 ∧ patBytes p = b := by
  unfold patRead at h
  by_cases h1 : 400 < b.length
  · rw [if_pos h1] at h; simp at h
  rw [if_neg h1] at h
  by_cases h2 : b.length < 8
  · rw [if_pos h2] at h; simp at h
  rw [if_neg h2] at h
  generalize hq : readOps (b.getD 7 0).toNat (b.drop 8) [] = q at h
  obtain ⟨e, l, rest⟩ := q
  unfold readDone at h
  simp only at h
  by_cases h3 : e ≠ 0
  · rw [if_pos h3] at h; simp only [Prod.mk.injEq] at h; exact absurd h.2 h3
  rw [if_neg h3] at h
  by_cases h4 : rest ≠ []
  · rw [if_pos h4] at h; simp at h
  rw [if_neg h4] at h
  by_cases h5 : patCheck (headPat b l) ≠ 0
  · rw [if_pos h5] at h; simp only [Prod.mk.injEq] at h; exact absurd h.2 h5
  rw [if_neg h5] at h
  simp only [Prod.mk.injEq, and_true] at h
  subst h
  obtain rfl : e = 0 := by omega
  obtain rfl : rest = [] := by simpa using h4
  obtain ⟨m, g1, g2, g3⟩ := readOps_back _ _ _ _ _ hq
  rw [List.nil_append] at g1
  subst g1
  have hc : patCheck (headPat b l) = 0 := by omega
  refine ⟨hc, ?_⟩
  have hd := (patCheck_ok.1 hc).2
  have g4 := g3 (fun o ho => (hd.each o ho).1)
  rw [List.append_nil] at g4
  unfold patBytes
  have e : (headPat b l).ops = l := rfl
  rw [e, ← g4]
  have hh : patHead (headPat b l) = b.take 8 := by
    rcases b with _ | ⟨a0, _ | ⟨a1, _ | ⟨a2, _ | ⟨a3, _ | ⟨a4, _ | ⟨a5, _ | ⟨a6, _ | ⟨a7, r⟩⟩⟩⟩⟩⟩⟩⟩
    all_goals first | (simp at h2; done) | skip
    simp only [patHead, headPat, List.getD_cons_zero, List.getD_cons_succ, List.take_succ_cons, List.take_zero]
    simp only [List.getD_cons_succ, List.getD_cons_zero] at g2
    have k2 := a2.toNat_lt
    have k3 := a3.toNat_lt
    have k4 := a4.toNat_lt
    have k5 := a5.toNat_lt
    have e1 : ((a2.toNat : Int) * 256 + a3.toNat) / 256 = a2.toNat := by omega
    have e2 : ((a4.toNat : Int) * 256 + a5.toNat) / 256 = a4.toNat := by omega
    have e3 : by_ ((a2.toNat : Int) * 256 + a3.toNat) = a3 := by
      apply UInt8.toNat_inj.1
      have := by_toNat ((a2.toNat : Int) * 256 + a3.toNat)
      omega
    have e4 : by_ ((a4.toNat : Int) * 256 + a5.toNat) = a5 := by
      apply UInt8.toNat_inj.1
      have := by_toNat ((a4.toNat : Int) * 256 + a5.toNat)
      omega
    rw [e1, e2, e3, e4, by_of, by_of, by_of, by_of, by_of, g2, by_of]
  rw [hh, List.take_append_drop]
end Go.Proofs.Ytefkfglkpebbmab
