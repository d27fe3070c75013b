/- The plain data and what is reckoned of it: no program in sight. -/
import Derived.Test.YtaimbkndebaaiaaNum
namespace Go.Rd
set_option linter.unusedVariables false
set_option linter.unusedSimpArgs false

structure Tgt where
  (u0 u1 u2 w0 w1 w2 regs : Int)
def Tgt.cells (t : Tgt) : List Value := [.int .i64 t.u0, .int .i64 t.u1, .int .i64 t.u2, .int .i64 t.w0, .int .i64 t.w1, .int .i64 t.w2, .int .i64 t.regs]
/-- D1. -/
def tgtOk (t : Tgt) : Bool := decide ((1 ≤ t.u0 ∧ t.u0 ≤ 4 ∧ 1 ≤ t.w0 ∧ t.w0 ≤ 6) ∧ (1 ≤ t.u1 ∧ t.u1 ≤ 4 ∧ 1 ≤ t.w1 ∧ t.w1 ≤ 6) ∧ (1 ≤ t.u2 ∧ t.u2 ≤ 4 ∧ 1 ≤ t.w2 ∧ t.w2 ≤ 6) ∧ 1 ≤ t.regs ∧ t.regs ≤ 128)
theorem tgtOk_iff {t : Tgt} : tgtOk t = true ↔ ((1 ≤ t.u0 ∧ t.u0 ≤ 4 ∧ 1 ≤ t.w0 ∧ t.w0 ≤ 6) ∧ (1 ≤ t.u1 ∧ t.u1 ≤ 4 ∧ 1 ≤ t.w1 ∧ t.w1 ≤ 6) ∧ (1 ≤ t.u2 ∧ t.u2 ≤ 4 ∧ 1 ≤ t.w2 ∧ t.w2 ≤ 6) ∧ 1 ≤ t.regs ∧ t.regs ≤ 128) := by
  unfold tgtOk; exact decide_eq_true_iff
theorem tgtOk_not {t : Tgt} : tgtOk t = false ↔ ¬ ((1 ≤ t.u0 ∧ t.u0 ≤ 4 ∧ 1 ≤ t.w0 ∧ t.w0 ≤ 6) ∧ (1 ≤ t.u1 ∧ t.u1 ≤ 4 ∧ 1 ≤ t.w1 ∧ t.w1 ≤ 6) ∧ (1 ≤ t.u2 ∧ t.u2 ≤ 4 ∧ 1 ≤ t.w2 ∧ t.w2 ≤ 6) ∧ 1 ≤ t.regs ∧ t.regs ≤ 128) := by
  unfold tgtOk; exact decide_eq_false_iff_not
/-- D2. -/
def waitV (t : Tgt) (op : Int) : Int := if tgtOk t = true then sel3 t.w0 t.w1 t.w2 (clsV op) else 0
theorem sel3_bd {a b c i lo hi : Int} (ha : lo ≤ a ∧ a ≤ hi) (hb : lo ≤ b ∧ b ≤ hi) (hc : lo ≤ c ∧ c ≤ hi) : lo ≤ sel3 a b c i ∧ sel3 a b c i ≤ hi := by
  unfold sel3; split <;> (try split) <;> assumption
theorem waitV_bd (t : Tgt) (op : Int) : 0 ≤ waitV t op ∧ waitV t op ≤ 6 := by
  unfold waitV
  split
  · rename_i h
    rw [tgtOk_iff] at h
    exact sel3_bd (by omega) (by omega) (by omega)
  · omega
theorem sel3_0 (a b c : Int) : sel3 a b c 0 = a := rfl
theorem sel3_1 (a b c : Int) : sel3 a b c 1 = b := rfl
theorem sel3_2 (a b c : Int) : sel3 a b c 2 = c := rfl

/-- How far a machine has been looked through. -/
def tgtTo (t : Tgt) (i : Int) : Prop := 0 ≤ i ∧ i ≤ 3 ∧ (0 < i → 1 ≤ t.u0 ∧ t.u0 ≤ 4 ∧ 1 ≤ t.w0 ∧ t.w0 ≤ 6) ∧ (1 < i → 1 ≤ t.u1 ∧ t.u1 ≤ 4 ∧ 1 ≤ t.w1 ∧ t.w1 ≤ 6) ∧ (2 < i → 1 ≤ t.u2 ∧ t.u2 ≤ 4 ∧ 1 ≤ t.w2 ∧ t.w2 ≤ 6)
def tgtBad (t : Tgt) (i : Int) : Bool := decide (sel3 t.u0 t.u1 t.u2 i < 1) || decide (sel3 t.u0 t.u1 t.u2 i > 4) || decide (sel3 t.w0 t.w1 t.w2 i < 1) || decide (sel3 t.w0 t.w1 t.w2 i > 6)
theorem tgt_bad {t : Tgt} {i : Int} (h0 : 0 ≤ i) (h1 : i < 3) (h : tgtBad t i = true) : tgtOk t = false := by
  rw [tgtOk_not]
  unfold tgtBad at h
  simp at h
  have : i = 0 ∨ i = 1 ∨ i = 2 := by omega
  rcases this with rfl | rfl | rfl <;> simp only [sel3_0, sel3_1, sel3_2] at h <;> omega
theorem tgt_next {t : Tgt} {i : Int} (h : tgtTo t i) (h1 : i < 3) (hb : tgtBad t i = false) : tgtTo t (i + 1) := by
  unfold tgtTo at *
  unfold tgtBad at hb
  simp at hb
  have : i = 0 ∨ i = 1 ∨ i = 2 := by omega
  rcases this with rfl | rfl | rfl <;> simp only [sel3_0, sel3_1, sel3_2] at hb <;> omega
theorem tgt_end {t : Tgt} {i : Int} (h : tgtTo t i) (h1 : ¬ i < 3) : (decide (t.regs ≥ 1) && decide (t.regs ≤ 128)) = tgtOk t := by
  unfold tgtTo at h
  unfold tgtOk
  rw [← Bool.decide_and]
  apply decide_eq_decide.2
  omega
theorem tgt_end' {t : Tgt} {i : Int} (h : tgtTo t i) (h1 : ¬ i < 3) : (decide (t.regs > 0) && decide (t.regs ≤ 128)) = tgtOk t := by
  rw [← tgt_end h h1]
  congr 1
end Go.Rd
