/- The plain data and what is reckoned of it: no program in sight. -/
import Derived.Test.YtaimbkndebaaiaaNum
import Derived.Test.YtaimbkndebaaiaaKn
namespace Go.Rd
set_option linter.unusedVariables false
set_option linter.unusedSimpArgs false

structure Tgt where
  (u0 u1 u2 w0 w1 w2 regs : Int)
def Tgt.cells (t : Tgt) : List Value := [.int .i64 t.u0, .int .i64 t.u1, .int .i64 t.u2, .int .i64 t.w0, .int .i64 t.w1, .int .i64 t.w2, .int .i64 t.regs]
/-- D1. -/
def tgtOk (t : Tgt) : Bool := decide ((1 ≤ t.u0 ∧ t.u0 ≤ 4 ∧ 1 ≤ t.w0 ∧ t.w0 ≤ 6) ∧ (1 ≤ t.u1 ∧ t.u1 ≤ 4 ∧ 1 ≤ t.w1 ∧ t.w1 ≤ 6) ∧ (1 ≤ t.u2 ∧ t.u2 ≤ 4 ∧ 1 ≤ t.w2 ∧ t.w2 ≤ 6) ∧ 1 ≤ t.regs ∧ t.regs ≤ 128)
theorem tgtOk_iff {t : Tgt} : tgtOk t = true ↔ ((1 ≤ t.u0 ∧ t.u0 ≤ 4 ∧ 1 ≤ t.w0 ∧ t.w0 ≤ 6) ∧ (1 ≤ t.u1 ∧ t.u1 ≤ 4 ∧ 1 ≤ t.w1 ∧ t.w1 ≤ 6) ∧ (1 ≤ t.u2 ∧ t.u2 ≤ 4 ∧ 1 ≤ t.w2 ∧ t.w2 ≤ 6) ∧ 1 ≤ t.regs ∧ t.regs ≤ 128) := by
  unfold tgtOk; exact decide_eq_true_iff
theorem tgtOk_not {t : Tgt} : tgtOk t = false ↔ ¬ ((1 ≤ t.u0 ∧ t.u0 ≤ 4 ∧ 1 ≤ t.w0 ∧ t.w0 ≤ 6) ∧ (1 ≤ t.u1 ∧ t.u1 ≤ 4 ∧ 1 ≤ t.w1 ∧ t.w1 ≤ 6) ∧ (1 ≤ t.u2 ∧ t.u2 ≤ 4 ∧ 1 ≤ t.w2 ∧ t.w2 ≤ 6) ∧ 1 ≤ t.regs ∧ t.regs ≤ 128) := by
  unfold tgtOk; exact decide_eq_false_iff_not
/-- D2. -/
def waitV (t : Tgt) (op : Int) : Int := if tgtOk t = true then sel3 t.w0 t.w1 t.w2 (clsV op) else 0
theorem sel3_bd {a b c i lo hi : Int} (ha : lo ≤ a ∧ a ≤ hi) (hb : lo ≤ b ∧ b ≤ hi) (hc : lo ≤ c ∧ c ≤ hi) : lo ≤ sel3 a b c i ∧ sel3 a b c i ≤ hi := by
  unfold sel3; split <;> (try split) <;> assumption
theorem waitV_bd (t : Tgt) (op : Int) : 0 ≤ waitV t op ∧ waitV t op ≤ 6 := by
  unfold waitV
  split
  · rename_i h
    rw [tgtOk_iff] at h
    exact sel3_bd (by omega) (by omega) (by omega)
  · omega
theorem sel3_0 (a b c : Int) : sel3 a b c 0 = a := rfl
theorem sel3_1 (a b c : Int) : sel3 a b c 1 = b := rfl
theorem sel3_2 (a b c : Int) : sel3 a b c 2 = c := rfl

/-- How far a machine has been looked through. -/
def tgtTo (t : Tgt) (i : Int) : Prop := 0 ≤ i ∧ i ≤ 3 ∧ (0 < i → 1 ≤ t.u0 ∧ t.u0 ≤ 4 ∧ 1 ≤ t.w0 ∧ t.w0 ≤ 6) ∧ (1 < i → 1 ≤ t.u1 ∧ t.u1 ≤ 4 ∧ 1 ≤ t.w1 ∧ t.w1 ≤ 6) ∧ (2 < i → 1 ≤ t.u2 ∧ t.u2 ≤ 4 ∧ 1 ≤ t.w2 ∧ t.w2 ≤ 6)
def tgtBad (t : Tgt) (i : Int) : Bool := decide (sel3 t.u0 t.u1 t.u2 i < 1) || decide (sel3 t.u0 t.u1 t.u2 i > 4) || decide (sel3 t.w0 t.w1 t.w2 i < 1) || decide (sel3 t.w0 t.w1 t.w2 i > 6)
theorem tgt_bad {t : Tgt} {i : Int} (h0 : 0 ≤ i) (h1 : i < 3) (h : tgtBad t i = true) : tgtOk t = false := by
  rw [tgtOk_not]
  unfold tgtBad at h
  simp at h
  have : i = 0 ∨ i = 1 ∨ i = 2 := by omega
  rcases this with rfl | rfl | rfl <;> simp only [sel3_0, sel3_1, sel3_2] at h <;> omega
theorem tgt_next {t : Tgt} {i : Int} (h : tgtTo t i) (h1 : i < 3) (hb : tgtBad t i = false) : tgtTo t (i + 1) := by
  unfold tgtTo at *
  unfold tgtBad at hb
  simp at hb
  have : i = 0 ∨ i = 1 ∨ i = 2 := by omega
  rcases this with rfl | rfl | rfl <;> simp only [sel3_0, sel3_1, sel3_2] at hb <;> omega
theorem tgt_end {t : Tgt} {i : Int} (h : tgtTo t i) (h1 : ¬ i < 3) : (decide (t.regs ≥ 1) && decide (t.regs ≤ 128)) = tgtOk t := by
  unfold tgtTo at h
  unfold tgtOk
  rw [← Bool.decide_and]
  apply decide_eq_decide.2
  omega
theorem tgt_end' {t : Tgt} {i : Int} (h : tgtTo t i) (h1 : ¬ i < 3) : (decide (t.regs > 0) && decide (t.regs ≤ 128)) = tgtOk t := by
  rw [← tgt_end h h1]
  congr 1

/-- A statement's truth as a Bool. -/
noncomputable def tb (p : Prop) : Bool := @decide p (Classical.propDecidable p)
theorem tb_iff {p : Prop} : tb p = true ↔ p := by unfold tb; exact @decide_eq_true_iff p (Classical.propDecidable p)
theorem tb_not {p : Prop} : tb p = false ↔ ¬ p := by unfold tb; exact @decide_eq_false_iff_not p (Classical.propDecidable p)
theorem tb_of {p : Prop} (h : p) : tb p = true := tb_iff.2 h
theorem tb_nof {p : Prop} (h : ¬ p) : tb p = false := tb_not.2 h
/-- A Bool that says what p says is p's. -/
theorem tb_eq {p : Prop} {b : Bool} (h : b = true ↔ p) : b = tb p := by
  cases hb : b with
  | true => exact (tb_of (h.1 hb)).symm
  | false => exact (tb_nof (fun hp => by rw [h.2 hp] at hb; cases hb)).symm

/-! ### B1, B2: loops -/
structure Rf where
  (st bk : Int)
structure Stm where
  (op : Int)
  (a b : Rf)
  (ar sp pl n : Int)
structure Lp where
  (logs : List Int)
  (body : List Stm)
  (outs : List Int)
def Rf.cells (r : Rf) : List Value := [.int .i64 r.st, .int .i64 r.bk]
def Stm.cells (s : Stm) : List Value := [.int .i64 s.op, .int .i64 s.a.st, .int .i64 s.a.bk, .int .i64 s.b.st, .int .i64 s.b.bk, .int .i64 s.ar, .int .i64 s.sp, .int .i64 s.pl, .int .i64 s.n]
def Rf.zero : Rf := ⟨0, 0⟩
def Stm.zero : Stm := ⟨0, Rf.zero, Rf.zero, 0, 0, 0, 0⟩
def icell (n : Int) : List Value := [.int .i64 n]

theorem icell_len : ∀ n : Int, (icell n).length = 1 := fun n => rfl
theorem icell_one (ys : List Int) : ∀ u ∈ ys, ∀ c ∈ icell u, c.oneCell' = true := fun n _ c hc => by simp [icell] at hc; subst hc; rfl
/-- What a statement looks at. -/
def usesL (s : Stm) : List Rf := if s.op = 4 then [s.a] else if s.op > 10 then [s.a, s.b] else []

theorem usesL_len (s : Stm) : (usesL s).length ≤ 2 := by unfold usesL; split <;> (try split) <;> simp
/-- n: how many statements; k: the statement's own number. -/
def RefOk (n k : Int) (r : Rf) : Prop := 0 ≤ r.bk ∧ r.bk ≤ 3 ∧ 0 ≤ r.st ∧ (r.bk = 0 → r.st < k) ∧ (r.bk ≠ 0 → r.st < n)
def WordOk (nl : Int) (s : Stm) : Prop := 0 ≤ s.ar ∧ s.ar < nl ∧ -64 ≤ s.sp ∧ s.sp ≤ 64 ∧ -64 ≤ s.pl ∧ s.pl ≤ 64
def StillOk (s : Stm) : Prop := s.ar = 0 ∧ s.sp = 0 ∧ s.pl = 0
def Rf.isZero (r : Rf) : Prop := r.st = 0 ∧ r.bk = 0
def StmtOk (nl n k : Int) (s : Stm) : Prop :=
  ((s.op = 4 ∨ s.op > 10) → RefOk n k s.a) ∧ (s.op > 10 → RefOk n k s.b) ∧
  ((s.op = 1 ∧ StillOk s ∧ s.a.isZero ∧ s.b.isZero) ∨ (s.op = 2 ∧ s.n = 0 ∧ StillOk s ∧ s.a.isZero ∧ s.b.isZero) ∨ (s.op = 3 ∧ s.n = 0 ∧ WordOk nl s ∧ s.a.isZero ∧ s.b.isZero) ∨
   (s.op = 4 ∧ s.n = 0 ∧ WordOk nl s ∧ s.b.isZero) ∨ (11 ≤ s.op ∧ s.op ≤ 18 ∧ s.n = 0 ∧ StillOk s))
/-- A statement's fields, but what it looks at. -/
def StmtRest (nl : Int) (s : Stm) : Prop :=
  (s.op = 1 ∧ StillOk s ∧ s.a.isZero ∧ s.b.isZero) ∨ (s.op = 2 ∧ s.n = 0 ∧ StillOk s ∧ s.a.isZero ∧ s.b.isZero) ∨ (s.op = 3 ∧ s.n = 0 ∧ WordOk nl s ∧ s.a.isZero ∧ s.b.isZero) ∨
   (s.op = 4 ∧ s.n = 0 ∧ WordOk nl s ∧ s.b.isZero) ∨ (11 ≤ s.op ∧ s.op ≤ 18 ∧ s.n = 0 ∧ StillOk s)
theorem usesL_cases (s : Stm) : (s.op = 4 ∧ (usesL s).length = 1) ∨ (s.op > 10 ∧ (usesL s).length = 2) ∨ (s.op ≠ 4 ∧ s.op ≤ 10 ∧ (usesL s).length = 0) := by
  unfold usesL
  by_cases h : s.op = 4
  · simp [h]
  · by_cases h' : s.op > 10
    · simp [h, h']
    · simp [h, h']; omega
/-- What is looked at has been looked through so far. -/
def UsesTo (n k i : Int) (s : Stm) : Prop := ∀ j : Nat, (j : Int) < i → j < (usesL s).length → RefOk n k ((usesL s).getD j Rf.zero)
theorem uses_all {n k : Int} {s : Stm} : (∀ j : Nat, j < (usesL s).length → RefOk n k ((usesL s).getD j Rf.zero)) ↔ (((s.op = 4 ∨ s.op > 10) → RefOk n k s.a) ∧ (s.op > 10 → RefOk n k s.b)) := by
  unfold usesL
  by_cases h : s.op = 4
  · simp only [h, if_true, List.length_singleton]
    constructor
    · intro hh; exact ⟨fun _ => hh 0 (by omega), fun h' => by omega⟩
    · intro hh j hj
      obtain rfl : j = 0 := by omega
      exact hh.1 (.inl trivial)
  · by_cases h' : s.op > 10
    · simp only [h, h', if_true, if_false, List.length_cons, List.length_nil]
      constructor
      · intro hh; exact ⟨fun _ => hh 0 (by omega), fun _ => hh 1 (by omega)⟩
      · intro hh j hj
        have : j = 0 ∨ j = 1 := by omega
        rcases this with rfl | rfl
        · exact hh.1 (.inr trivial)
        · exact hh.2 trivial
    · simp [h, h']
theorem uses_start {n k : Int} {s : Stm} : UsesTo n k 0 s := fun j hj => by omega
theorem uses_next {n k i : Int} {s : Stm} (h : UsesTo n k i s) (h0 : 0 ≤ i) (hr : RefOk n k ((usesL s).getD i.toNat Rf.zero)) : UsesTo n k (i + 1) s := fun j hj hl => by
  by_cases e : (j : Int) < i
  · exact h j e hl
  · obtain rfl : j = i.toNat := by omega
    exact hr
theorem uses_bad {nl n k i : Int} {s : Stm} (h0 : 0 ≤ i) (h1 : i < (usesL s).length) (hr : ¬ RefOk n k ((usesL s).getD i.toNat Rf.zero)) : ¬ StmtOk nl n k s := fun hs => by
  have := uses_all.2 ⟨hs.1, hs.2.1⟩
  exact hr (this i.toNat (by omega))
theorem stmt_rest {nl n k i : Int} {s : Stm} (h : UsesTo n k i s) (h1 : ¬ i < (usesL s).length) : StmtOk nl n k s ↔ StmtRest nl s := by
  have := uses_all.1 (fun j hj => h j (by omega) hj)
  unfold StmtOk StmtRest
  exact ⟨fun x => x.2.2, fun x => ⟨this.1, this.2, x⟩⟩
/-! .. read off case by case. -/
theorem rest_1 {nl : Int} {s : Stm} (h : s.op = 1) : StmtRest nl s ↔ StillOk s ∧ s.a.isZero ∧ s.b.isZero := by unfold StmtRest; simp [h]
theorem rest_n {nl : Int} {s : Stm} (h : s.op ≠ 1) (hn : s.n ≠ 0) : ¬ StmtRest nl s := by unfold StmtRest; simp [h, hn]
theorem rest_2 {nl : Int} {s : Stm} (h : s.op = 2) (hn : s.n = 0) : StmtRest nl s ↔ StillOk s ∧ s.a.isZero ∧ s.b.isZero := by unfold StmtRest; simp [h, hn]
theorem rest_3 {nl : Int} {s : Stm} (h : s.op = 3) (hn : s.n = 0) : StmtRest nl s ↔ WordOk nl s ∧ s.a.isZero ∧ s.b.isZero := by unfold StmtRest; simp [h, hn]
theorem rest_4 {nl : Int} {s : Stm} (h : s.op = 4) (hn : s.n = 0) : StmtRest nl s ↔ WordOk nl s ∧ s.b.isZero := by unfold StmtRest; simp [h, hn]
theorem rest_5 {nl : Int} {s : Stm} (h1 : s.op ≠ 1) (h2 : s.op ≠ 2) (h3 : s.op ≠ 3) (h4 : s.op ≠ 4) (hn : s.n = 0) : StmtRest nl s ↔ StillOk s ∧ (11 ≤ s.op ∧ s.op ≤ 18) := by
  unfold StmtRest; simp [h1, h2, h3, h4, hn]; constructor <;> intro h <;> simp [h]
def Zeros (s : Stm) : Prop := ((usesL s).length < 2 → s.b.isZero) ∧ ((usesL s).length < 1 → s.a.isZero)
theorem rest_zero {nl : Int} {s : Stm} (h : StmtRest nl s) : Zeros s := by
  have hu := usesL_cases s
  unfold StmtRest at h
  rcases h with h | h | h | h | h
  · exact ⟨fun _ => h.2.2.2, fun _ => h.2.2.1⟩
  · exact ⟨fun _ => h.2.2.2.2, fun _ => h.2.2.2.1⟩
  · exact ⟨fun _ => h.2.2.2.2, fun _ => h.2.2.2.1⟩
  · exact ⟨fun _ => h.2.2.2, fun hl => by omega⟩
  · exact ⟨fun hl => by omega, fun hl => by omega⟩
theorem rest_34 {nl : Int} {s : Stm} (h : s.op = 3 ∨ s.op = 4) (hz : Zeros s) (hn : s.n = 0) : StmtRest nl s ↔ WordOk nl s := by
  have hu := usesL_cases s
  rcases h with h | h
  · rw [rest_3 h hn]
    exact ⟨fun x => x.1, fun x => ⟨x, hz.2 (by omega), hz.1 (by omega)⟩⟩
  · rw [rest_4 h hn]
    exact ⟨fun x => x.1, fun x => ⟨x, hz.1 (by omega)⟩⟩
theorem rest_still {nl : Int} {s : Stm} (h : ¬ (s.op = 3 ∨ s.op = 4)) (hs : StmtRest nl s) : StillOk s := by
  unfold StmtRest at hs
  rcases hs with h' | h' | h' | h' | h'
  · exact h'.2.1
  · exact h'.2.2.1
  · exact absurd (.inl h'.1) h
  · exact absurd (.inr h'.1) h
  · exact h'.2.2.2
theorem rest_end {nl : Int} {s : Stm} (h : ¬ (s.op = 3 ∨ s.op = 4)) (hz : Zeros s) (hst : StillOk s) (hn : s.op = 1 ∨ s.n = 0) : StmtRest nl s ↔ (s.op = 1 ∨ s.op = 2 ∨ (11 ≤ s.op ∧ s.op ≤ 18)) := by
  have hu := usesL_cases s
  constructor
  · intro hs
    unfold StmtRest at hs
    rcases hs with h' | h' | h' | h' | h'
    · exact .inl h'.1
    · exact .inr (.inl h'.1)
    · exact absurd (.inl h'.1) h
    · exact absurd (.inr h'.1) h
    · exact .inr (.inr ⟨h'.1, h'.2.1⟩)
  · intro hs
    rcases hs with h' | h' | h'
    · exact (rest_1 h').2 ⟨hst, hz.2 (by omega), hz.1 (by omega)⟩
    · exact (rest_2 h' (by omega)).2 ⟨hst, hz.2 (by omega), hz.1 (by omega)⟩
    · exact (rest_5 (by omega) (by omega) (by omega) (by omega) (by omega)).2 ⟨hst, h'⟩
theorem op_sub10 {op : Int} (h : InR op) : (1 ≤ IntKind.i64.wrap (op - 10) ∧ IntKind.i64.wrap (op - 10) < 9) ↔ (11 ≤ op ∧ op ≤ 18) := by
  unfold InR at h
  rw [wrap_def]
  split <;> omega

def LogsTo (l : Lp) (i : Int) : Prop := ∀ j : Nat, (j : Int) < i → 0 ≤ l.logs.getD j 0 ∧ l.logs.getD j 0 ≤ 5
def OutsTo (l : Lp) (i : Int) : Prop := ∀ j : Nat, (j : Int) < i → 0 ≤ l.outs.getD j 0 ∧ l.outs.getD j 0 < l.body.length ∧ (∀ m : Nat, j = m + 1 → l.outs.getD m 0 < l.outs.getD j 0)
def BodyTo (l : Lp) (i : Int) : Prop := ∀ j : Nat, (j : Int) < i → StmtOk l.logs.length l.body.length j (l.body.getD j Stm.zero)
/-- B1. -/
def LoopOk (l : Lp) : Prop := l.logs.length ≤ 3 ∧ 1 ≤ l.body.length ∧ l.body.length ≤ 16 ∧ LogsTo l l.logs.length ∧ OutsTo l l.outs.length ∧ BodyTo l l.body.length
theorem to_zero {p : Nat → Prop} : ∀ j : Nat, (j : Int) < 0 → p j := fun j hj => by omega
theorem to_next {p : Nat → Prop} {i : Int} (h : ∀ j : Nat, (j : Int) < i → p j) (h0 : 0 ≤ i) (hp : p i.toNat) : ∀ j : Nat, (j : Int) < i + 1 → p j := fun j hj => by
  by_cases e : (j : Int) < i
  · exact h j e
  · obtain rfl : j = i.toNat := by omega
    exact hp
theorem to_le {p : Nat → Prop} {i m : Int} (h : ∀ j : Nat, (j : Int) < i → p j) (hm : m ≤ i) : ∀ j : Nat, (j : Int) < m → p j := fun j hj => h j (by omega)
/-- The out ahead of number i. -/
def lastOut (l : Lp) (i : Int) : Int := if i = 0 then -1 else l.outs.getD (i - 1).toNat 0
theorem out_step {l : Lp} {i : Int} (h0 : 0 ≤ i) (h : OutsTo l i) : (lastOut l i + 1 ≤ l.outs.getD i.toNat 0 ∧ l.outs.getD i.toNat 0 < l.body.length) ↔
    (0 ≤ l.outs.getD i.toNat 0 ∧ l.outs.getD i.toNat 0 < l.body.length ∧ (∀ m : Nat, i.toNat = m + 1 → l.outs.getD m 0 < l.outs.getD i.toNat 0)) := by
  unfold lastOut
  split
  · subst i
    constructor
    · intro h'; exact ⟨by omega, h'.2, fun m hm => by simp at hm⟩
    · intro h'; exact ⟨by omega, h'.2.1⟩
  · rename_i hi
    have hp := h (i - 1).toNat (by omega)
    constructor
    · intro h'
      refine ⟨by omega, h'.2, fun m hm => ?_⟩
      obtain rfl : m = (i - 1).toNat := by omega
      omega
    · intro h'
      have := h'.2.2 (i - 1).toNat (by omega)
      exact ⟨by omega, h'.2.1⟩
theorem lastOut_bd {l : Lp} {i : Int} (h0 : 0 ≤ i) (h : OutsTo l i) : -1 ≤ lastOut l i ∧ lastOut l i + 1 ≤ l.body.length := by
  unfold lastOut
  split
  · exact ⟨by omega, by omega⟩
  · have hp := h (i - 1).toNat (by omega)
    exact ⟨by omega, by omega⟩
theorem lastOut_next {l : Lp} {i : Int} (h0 : 0 ≤ i) : lastOut l (i + 1) = l.outs.getD i.toNat 0 := by
  unfold lastOut
  rw [if_neg (by omega), show i + 1 - 1 = i from by omega]

def Stm.InR (s : Stm) : Prop := Rd.InR s.op ∧ Rd.InR s.a.st ∧ Rd.InR s.a.bk ∧ Rd.InR s.b.st ∧ Rd.InR s.b.bk ∧ Rd.InR s.ar ∧ Rd.InR s.sp ∧ Rd.InR s.pl ∧ Rd.InR s.n
theorem getD_all {α : Type} {p : α → Prop} {l : List α} {d : α} (h : ∀ x ∈ l, p x) (hd : p d) (i : Nat) : p (l.getD i d) := by
  by_cases hi : i < l.length
  · rw [List.getD_eq_getElem?_getD, List.getElem?_eq_getElem hi]; exact h _ (List.getElem_mem hi)
  · rw [List.getD_eq_getElem?_getD, List.getElem?_eq_none (by omega)]; exact hd
theorem Stm.zero_InR : Stm.zero.InR := by unfold Stm.InR Rd.InR Stm.zero Rf.zero; simp

/-- The loop's three slices in memory. -/
structure LpRep (w : World) (v1 v2 v3 : Value) (l : Lp) : Prop where
  logs : Arr w v1 1 (l.logs.map icell)
  body : Arr w v2 9 (l.body.map Stm.cells)
  outs : Arr w v3 1 (l.outs.map icell)
  rlogs : ∀ x ∈ l.logs, InR x
  rbody : ∀ x ∈ l.body, x.InR
  routs : ∀ x ∈ l.outs, InR x
  llogs : l.logs.length ≤ maxLen
  lbody : l.body.length ≤ maxLen
  louts : l.outs.length ≤ maxLen
theorem tb_congr {p q : Prop} (h : p ↔ q) : tb p = tb q := by rw [propext h]
theorem LpRep.grow {w w' : World} {v1 v2 v3 : Value} {l : Lp} (h : LpRep w v1 v2 v3 l) (hg : Grow w w') : LpRep w' v1 v2 v3 l :=
  { h with logs := h.logs.grow hg, body := h.body.grow hg, outs := h.outs.grow hg }
theorem LpRep.sR {w : World} {v1 v2 v3 : Value} {l : Lp} (h : LpRep w v1 v2 v3 l) (i : Nat) : (l.body.getD i Stm.zero).InR := getD_all h.rbody Stm.zero_InR i
theorem LpRep.oR {w : World} {v1 v2 v3 : Value} {l : Lp} (h : LpRep w v1 v2 v3 l) (i : Nat) : InR (l.outs.getD i 0) := getD_all h.routs (by unfold InR; omega) i
theorem LpRep.gR {w : World} {v1 v2 v3 : Value} {l : Lp} (h : LpRep w v1 v2 v3 l) (i : Nat) : InR (l.logs.getD i 0) := getD_all h.rlogs (by unfold InR; omega) i

/-! ### Rows of numbers -/
def vcell (p : Value × List Int) : List Value := [p.1]
def dV : Value × List Int := (.slice none 0 0, [])
/-- A slice of slices of numbers. -/
structure RowsRep (w : World) (v : Value) (B : List (Value × List Int)) : Prop where
  rows : Arr w v 1 (B.map vcell)
  each : ∀ p ∈ B, Arr w p.1 1 (p.2.map icell)
  rng : ∀ p ∈ B, ∀ x ∈ p.2, InR x
  lens : ∀ p ∈ B, p.2.length ≤ maxLen
  len : B.length ≤ maxLen
theorem RowsRep.grow {w w' : World} {v : Value} {B : List (Value × List Int)} (h : RowsRep w v B) (hg : Grow w w') : RowsRep w' v B :=
  { h with rows := h.rows.grow hg, each := fun p hp => (h.each p hp).grow hg }
theorem RowsRep.arr {w : World} {v : Value} {B : List (Value × List Int)} (h : RowsRep w v B) (i : Nat) : Arr w (B.getD i dV).1 1 ((B.getD i dV).2.map icell) :=
  getD_all (p := fun (p : Value × List Int) => Arr w p.1 1 (p.2.map icell)) h.each Arr.nil i
theorem RowsRep.lenAt {w : World} {v : Value} {B : List (Value × List Int)} (h : RowsRep w v B) (i : Nat) : (B.getD i dV).2.length ≤ maxLen :=
  getD_all (p := fun (p : Value × List Int) => p.2.length ≤ maxLen) h.lens (by unfold dV; simp) i

/-- B2, of a loop that may be. -/
def BeforeTo (B : List (Value × List Int)) (i : Int) : Prop := ∀ j : Nat, (j : Int) < i → (B.getD j dV).2.length = 3
def MemTo (l : Lp) (M : List (Value × List Int)) (i : Int) : Prop := ∀ j : Nat, (j : Int) < i → ((M.getD j dV).2.length : Int) = 2 ^ (l.logs.getD j 0).toNat
def FitsOk (l : Lp) (B M : List (Value × List Int)) : Prop := LoopOk l ∧ B.length = l.body.length ∧ M.length = l.logs.length ∧ BeforeTo B B.length ∧ MemTo l M M.length

def RowsK (k : World) (B : List (Value × List Int)) : Prop := ∀ p ∈ B, Arr k p.1 1 (p.2.map icell)
theorem RowsK.nil {k : World} : RowsK k [] := fun p hp => by cases hp
theorem RowsK.le {k k' : World} {B : List (Value × List Int)} (h : RowsK k B) (hl : Le k k') : RowsK k' B := fun p hp => (h p hp).le hl
theorem RowsRep.le {k k' : World} {v : Value} {B : List (Value × List Int)} (h : RowsRep k v B) (hl : Le k k') : RowsRep k' v B := { h with rows := h.rows.le hl, each := fun p hp => (h.each p hp).le hl }
theorem LpRep.le {w w' : World} {v1 v2 v3 : Value} {l : Lp} (h : LpRep w v1 v2 v3 l) (hl : Le w w') : LpRep w' v1 v2 v3 l := { h with logs := h.logs.le hl, body := h.body.le hl, outs := h.outs.le hl }
theorem rows_snoc {k : World} {B : List (Value × List Int)} {u : Value} {r : List Int} (h : RowsK k B) (hr : Arr k u 1 (r.map icell)) : RowsK k (B ++ [(u, r)]) := fun p hp => by
  rcases List.mem_append.1 hp with hp | hp
  · exact h p hp
  · simp at hp; subst hp; exact hr
theorem rows_len_of {B1 B : List (Value × List Int)} {i : Nat} (h : B1.map (·.2) = (B.take i).map (·.2)) (hi : i ≤ B.length) : B1.length = i := by
  have := congrArg List.length h
  simpa [hi] using this
theorem rows_step {B1 B : List (Value × List Int)} {i : Nat} {u : Value} (h : B1.map (·.2) = (B.take i).map (·.2)) (hi : i < B.length) : (B1 ++ [(u, (B.getD (i : Int).toNat dV).2)]).map (·.2) = (B.take (i + 1)).map (·.2) := by
  rw [List.map_append, h, List.take_add_one, List.map_append]
  simp [List.getD_eq_getElem?_getD, List.getElem?_eq_getElem hi]
theorem one_row {u : Value} {m : Nat} {r : List Int} (h : SliceLen u m) : ∀ p ∈ [(u, r)], ∀ c ∈ vcell p, c.oneCell' = true := fun p hp c hc => by
  simp at hp; subst hp
  simp [vcell] at hc; subst hc
  exact h.one
end Go.Rd
