/- The order of edges: what its model comes to. -/
import Derived.Test.YtaimbkndebaaiabPl
import Derived.Test.YtaimbkndebaaiabMOrd
namespace Go.Rd
set_option linter.unusedVariables false
set_option linter.unusedSimpArgs false
def cmpV (x y : Int) : Int := if x < y then -1 else if y < x then 1 else 0
theorem cmp_s (x y : Int) : cmp_Compare_int__m x y = some (cmpV x y) := by
  unfold cmp_Compare_int__m cmp_isNaN_int__m cmpV
  simp only [bd_ret, bne_self_eq_false, br_false, br_eq, decide_eq_true_eq]
  by_cases h : x < y
  · simp [h]
  · by_cases h2 : y < x
    · simp [h, h2]
    · simp [h, h2]
theorem or_s (a b c d : Int) : cmp_Or_int__m [a, b, c, d] = some (if a ≠ 0 then a else if b ≠ 0 then b else if c ≠ 0 then c else d) := by
  unfold cmp_Or_int__m
  have st : ∀ (i : Nat) (v : Int), i < 4 → ele [a, b, c, d] (i : Int) = v → cmp_Or_int__L0 [a, b, c, d] i = br (v != 0) (some (.ret v)) (some (.next ((i + 1 : Nat) : Int))) := fun i v hi hv => by
    unfold cmp_Or_int__L0
    rw [br_T (by show (i : Int) < 4; omega), ck_IX (by omega) (by show (i : Int) < 4; omega), hv, ck_IR (by omega) (by omega)]
    rfl
  have s0 := st 0 a (by omega) rfl
  have s1 := st 1 b (by omega) rfl
  have s2 := st 2 c (by omega) rfl
  have s3 := st 3 d (by omega) rfl
  have s4 : cmp_Or_int__L0 [a, b, c, d] 4 = some (.brk 4) := by unfold cmp_Or_int__L0; exact br_F (by show ¬ ((4 : Int) < 4); omega)
  have key : ∀ (i : Nat) (v : Int) (r : Option (Out Int Int)), cmp_Or_int__L0 [a, b, c, d] i = br (v != 0) (some (.ret v)) (some (.next ((i + 1 : Nat) : Int))) → lp (cmp_Or_int__L0 [a, b, c, d]) ((i + 1 : Nat) : Int) = r → lp (cmp_Or_int__L0 [a, b, c, d]) i = if v ≠ 0 then some (.ret v) else r := fun i v r h1 h2 => by
    by_cases hv : v = 0
    · subst hv
      simp only [bne_self_eq_false, br_false] at h1
      rw [lp_next h1, h2]; rfl
    · rw [show (v != 0) = true from by simpa using hv, br_true] at h1
      rw [lp_ret h1, if_pos hv]
  have h4 : lp (cmp_Or_int__L0 [a, b, c, d]) ((3 + 1 : Nat) : Int) = some (.go 4) := lp_brk s4
  have h0 := key 0 a _ s0 (key 1 b _ s1 (key 2 c _ s2 (key 3 d _ s3 h4)))
  rw [show ((0 : Nat) : Int) = 0 from rfl] at h0
  rw [h0]
  by_cases ha : a = 0
  · by_cases hb : b = 0
    · by_cases hc : c = 0
      · by_cases hd : d = 0
        · simp [ha, hb, hc, hd]
        · simp [ha, hb, hc, hd]
      · simp [ha, hb, hc]
    · simp [ha, hb]
  · simp [ha]
theorem order_s (a b : Edg) : dep_order_m a b = some (ordV a b) := by
  unfold dep_order_m
  simp only [cmp_s, bd_ret, or_s]
  congr 1
  unfold cmpV ordV
  by_cases h1 : a.fr < b.fr
  · simp [h1]
  by_cases h2 : b.fr < a.fr
  · simp [h1, h2]
  by_cases h3 : a.to < b.to
  · simp [h1, h2, h3]
  by_cases h4 : b.to < a.to
  · simp [h1, h2, h3, h4]
  by_cases h5 : a.bk < b.bk
  · simp [h1, h2, h3, h4, h5]
  by_cases h6 : b.bk < a.bk
  · simp [h1, h2, h3, h4, h5, h6]
  simp [h1, h2, h3, h4, h5, h6]
theorem ordV_neg {a b : Edg} : ordV a b < 0 ↔ a.fr < b.fr ∨ (a.fr = b.fr ∧ (a.to < b.to ∨ (a.to = b.to ∧ (a.bk < b.bk ∨ (a.bk = b.bk ∧ a.wt < b.wt))))) := by
  unfold ordV
  repeat' split
  all_goals omega
end Go.Rd
