/- Numbers: what the models come to. -/
import Derived.Test.YtaimbkndebaaiaaPl
import Derived.Test.YtaimbkndebaaiaaMNum
namespace Go.Rd
set_option linter.unusedVariables false
set_option linter.unusedSimpArgs false
theorem num_Index_s (step plus turn log : Int) : num_Index_m step plus turn log = some (idx step plus turn log) := by
  unfold num_Index_m num_Index_c1_m bdG idx
  simp only [bd_ret, br_eq]
  by_cases h : OkIdx step plus turn log
  · have hb := h
    unfold OkIdx at hb
    obtain ⟨h1, h2, h3, h4, h5, h6, h7, h8⟩ := hb
    have hp2 := two_pow_5 log.toNat (by omega)
    have hst := step_turn h3 h4 h7 h8
    have hg := idx_go h
    have hs : shlD 1 log = 2 ^ log.toNat := shl_one log h1 h2
    simp only [show ¬ log < 0 from by omega, show ¬ log > 5 from by omega, show step ≥ -64 from h3, h4, show plus ≥ -64 from h5, h6, show ¬ turn < 0 from by omega, show ¬ turn > 200 from by omega, decide_false, decide_true, Bool.or_self, Bool.and_self, Bool.not_true, Bool.not_false, if_true, Bool.or_false, Bool.false_eq_true, if_false, if_pos h, hs]
    rw [ck_IR (by omega) (by omega), ck_IR (by omega) (by omega), ck_yes (by omega), ck_IR (by omega) (by omega)]
    congr 1
    unfold bitAnd
    rw [and_mask _ _ (by omega), wrap_i64]
    · have := Int.emod_nonneg (step * turn + plus) (show (2 : Int) ^ log.toNat ≠ 0 from by omega)
      omega
    · have := Int.emod_lt_of_pos (step * turn + plus) (show (0 : Int) < 2 ^ log.toNat from by omega)
      omega
  · rw [if_neg h]
    unfold OkIdx at h
    by_cases g1 : log < 0 ∨ log > 5
    · rcases g1 with g | g <;> simp [g]
    · by_cases g2 : step ≥ -64 ∧ step ≤ 64
      · by_cases g3 : plus ≥ -64 ∧ plus ≤ 64
        · by_cases g4 : turn < 0 ∨ turn > 200
          · rcases g4 with g | g <;> simp [g, show ¬ log < 0 from by omega, show ¬ log > 5 from by omega, g2.1, g2.2, g3.1, g3.2]
          · exact absurd ⟨by omega, by omega, by omega, by omega, by omega, by omega, by omega, by omega⟩ h
        · have : (decide (plus ≥ -64) && decide (plus ≤ 64)) = false := by simp; omega
          simp [this, show ¬ log < 0 from by omega, show ¬ log > 5 from by omega, g2.1, g2.2]
      · have : (decide (step ≥ -64) && decide (step ≤ 64)) = false := by simp; omega
        simp [this, show ¬ log < 0 from by omega, show ¬ log > 5 from by omega]
theorem num_Op_s (op a b : Int) : num_Op_m op a b = some (opV op a b) := by
  unfold num_Op_m num_Op_c1_m opV
  simp only [br_eq, beq_iff_eq]
  (repeat' split) <;> (try simp_all) <;> (try rfl)
theorem num_Class_s (op : Int) : num_Class_m op = some (clsV op) := by
  unfold num_Class_m clsV
  simp only [br_eq, beq_iff_eq]
  (repeat' split) <;> simp_all
theorem ref_Class_s (op : Int) : roundelayref1_Class_m op = some (clsV op) := by
  unfold roundelayref1_Class_m clsV
  simp only [br_eq, Bool.or_eq_true, beq_iff_eq]
  (repeat' split) <;> simp_all
theorem Size_loop (log : Int) (hl : log ≤ 5) : ∀ (m i : Nat), i + m = log.toNat → lp (roundelayref1_Size_L0 log) (2 ^ i, i) = some (.go (2 ^ log.toNat, (log.toNat : Int)))
  | 0, i, h => by
    have hi : i = log.toNat := by omega
    subst hi
    refine lp_brk ?_
    unfold roundelayref1_Size_L0
    exact br_F (by omega)
  | m + 1, i, h => by
    have hp := two_pow_5 i (by omega)
    refine lp_step ?_ (Size_loop log hl m (i + 1) (by omega))
    unfold roundelayref1_Size_L0
    simp only
    rw [br_T (by omega), ck_IR (by omega) (by omega), ck_IR (by omega) (by omega), pow_next]
    rfl
theorem Size_s (log : Int) (hl : log ≤ 5) : roundelayref1_Size_m log = some (2 ^ log.toNat) := by
  have := Size_loop log hl log.toNat 0 (by omega)
  unfold roundelayref1_Size_m
  rw [show ((1 : Int), (0 : Int)) = ((2 : Int) ^ 0, ((0 : Nat) : Int)) from rfl, this]
  rfl
theorem Rest_s (a b : Int) (hb : 0 < b) (hB : b ≤ 9223372036854775807) : roundelayref1_Rest_m a b = some (a % b) := by
  have ht := tmod_lt' a hb
  have hf := tmod_fix (a := a) hb
  unfold roundelayref1_Rest_m
  rw [ck_yes (by omega)]
  by_cases h : Int.tmod a b < 0
  · rw [if_pos h] at hf
    rw [br_T h, ck_IR (by omega) (by omega), hf]
  · rw [if_neg h] at hf
    rw [br_F h, hf]
theorem ref_Index_s (step plus turn log : Int) : roundelayref1_Index_m step plus turn log = some (idx step plus turn log) := by
  unfold roundelayref1_Index_m idx
  by_cases h : OkIdx step plus turn log
  · have hb := h
    unfold OkIdx at hb
    obtain ⟨h1, h2, h3, h4, h5, h6, h7, h8⟩ := hb
    have hp2 := two_pow_5 log.toNat (by omega)
    have hst := step_turn h3 h4 h7 h8
    simp only [show ¬ log < 0 from by omega, show ¬ log > 5 from by omega, show ¬ step < -64 from by omega, show ¬ step > 64 from by omega, show ¬ plus < -64 from by omega, show ¬ plus > 64 from by omega, show ¬ turn < 0 from by omega, show ¬ turn > 200 from by omega, decide_false, Bool.or_self, br_false, if_pos h]
    rw [ck_IR (by omega) (by omega), ck_IR (by omega) (by omega), Size_s log h2, bd_ret, Rest_s _ _ (by omega) (by omega), bd_ret]
  · rw [if_neg h]
    have hc : (((((((decide (log < 0) || decide (log > 5)) || decide (step < -64)) || decide (step > 64)) || decide (plus < -64)) || decide (plus > 64)) || decide (turn < 0)) || decide (turn > 200)) = true := by
      unfold OkIdx at h
      simp only [Bool.or_eq_true, decide_eq_true_eq]
      omega
    rw [hc]; rfl
theorem tdiv2_bd {x : Int} (h : -9223372036854775808 ≤ x ∧ x ≤ 9223372036854775807) : -9223372036854775808 ≤ x.tdiv 2 ∧ x.tdiv 2 ≤ 9223372036854775807 := by
  have h1 := Int.tmod_add_mul_tdiv x 2
  have h2 := tmod_lt' x (m := 2) (by decide)
  omega
theorem bits_loop (op a b : Int) (ha : -9223372036854775808 ≤ a ∧ a ≤ 9223372036854775807) (hb : -9223372036854775808 ≤ b ∧ b ≤ 9223372036854775807) : ∀ (m i : Nat), i + m = 64 →
    ∃ x y z t, lp (roundelayref1_bits_L0 op) (a / 2 ^ i, b / 2 ^ i, IntKind.i64.wrap (bitsN op a b i), IntKind.i64.wrap (2 ^ i), i) = some (.go (x, y, IntKind.i64.wrap (bitsN op a b 64), z, t))
  | 0, i, h => by
    have hi : i = 64 := by omega
    subst hi
    refine ⟨a / 2 ^ 64, b / 2 ^ 64, IntKind.i64.wrap (2 ^ 64), ((64 : Nat) : Int), lp_brk ?_⟩
    unfold roundelayref1_bits_L0
    exact br_F (by omega)
  | m + 1, i, h => by
    obtain ⟨x, y, z, t, ih⟩ := bits_loop op a b ha hb m (i + 1) (by omega)
    refine ⟨x, y, z, t, lp_step ?_ ih⟩
    have hba := half_bd ha.1 ha.2 i
    have hbb := half_bd hb.1 hb.2 i
    have hcd := bits_cond op a b i
    have key : ∀ {A : Int}, (-9223372036854775808 ≤ A ∧ A ≤ 9223372036854775807) →
        (A.tmod 2 < 0 → IR (Int.tdiv (IntKind.i64.wrap (A - IntKind.i64.wrap (A.tmod 2 + 2))) 2) ∧ Int.tdiv (IntKind.i64.wrap (A - IntKind.i64.wrap (A.tmod 2 + 2))) 2 = A / 2) ∧
        (¬ A.tmod 2 < 0 → IR (Int.tdiv (IntKind.i64.wrap (A - A.tmod 2)) 2) ∧ Int.tdiv (IntKind.i64.wrap (A - A.tmod 2)) 2 = A / 2) := fun {A} hA => by
      constructor
      · intro hn
        have h1 := tdiv2_bd (wrap_bd (A - IntKind.i64.wrap (A.tmod 2 + 2)))
        have h2 := half_neg hA.1 hA.2 hn
        rw [wrap_i64 h1.1 h1.2] at h2
        exact ⟨h1, h2⟩
      · intro hn
        have h1 := tdiv2_bd (wrap_bd (A - A.tmod 2))
        have h2 := half_pos hA.1 hA.2 hn
        rw [wrap_i64 h1.1 h1.2] at h2
        exact ⟨h1, h2⟩
    have ka := key hba
    have kb := key hbb
    have hpw : IntKind.i64.wrap (IntKind.i64.wrap (2 ^ i) + IntKind.i64.wrap (2 ^ i)) = IntKind.i64.wrap (2 ^ (i + 1)) := by rw [wrap_add2, pow_next]
    have hi1 : IntKind.i64.wrap ((i : Int) + 1) = ((i + 1 : Nat) : Int) := by rw [wrap_i64 (by omega) (by omega)]; rfl
    unfold roundelayref1_bits_L0
    simp only
    rw [br_T (by omega), hcd, hpw, hi1]
    have ea := half_next a i
    have eb := half_next b i
    cases hc : bitC op (bitA a i) (bitA b i) with
    | true =>
      have hn := bits_n_yes (op := op) (a := a) (b := b) (i := i) hc rfl
      rw [br_true, hn]
      by_cases na : (a / 2 ^ i).tmod 2 < 0 <;> by_cases nb : (b / 2 ^ i).tmod 2 < 0
      · rw [br_T na, br_T nb, ck_yes (ka.1 na).1, ck_yes (kb.1 nb).1, (ka.1 na).2, (kb.1 nb).2, ea, eb]
      · rw [br_T na, br_F nb, ck_yes (ka.1 na).1, ck_yes (kb.2 nb).1, (ka.1 na).2, (kb.2 nb).2, ea, eb]
      · rw [br_F na, br_T nb, ck_yes (ka.2 na).1, ck_yes (kb.1 nb).1, (ka.2 na).2, (kb.1 nb).2, ea, eb]
      · rw [br_F na, br_F nb, ck_yes (ka.2 na).1, ck_yes (kb.2 nb).1, (ka.2 na).2, (kb.2 nb).2, ea, eb]
    | false =>
      have hn := bits_n_no (op := op) (a := a) (b := b) (i := i) hc rfl
      rw [br_false, hn]
      by_cases na : (a / 2 ^ i).tmod 2 < 0 <;> by_cases nb : (b / 2 ^ i).tmod 2 < 0
      · rw [br_T na, br_T nb, ck_yes (ka.1 na).1, ck_yes (kb.1 nb).1, (ka.1 na).2, (kb.1 nb).2, ea, eb]
      · rw [br_T na, br_F nb, ck_yes (ka.1 na).1, ck_yes (kb.2 nb).1, (ka.1 na).2, (kb.2 nb).2, ea, eb]
      · rw [br_F na, br_T nb, ck_yes (ka.2 na).1, ck_yes (kb.1 nb).1, (ka.2 na).2, (kb.1 nb).2, ea, eb]
      · rw [br_F na, br_F nb, ck_yes (ka.2 na).1, ck_yes (kb.2 nb).1, (ka.2 na).2, (kb.2 nb).2, ea, eb]
theorem bits_s (op a b : Int) (ha : -9223372036854775808 ≤ a ∧ a ≤ 9223372036854775807) (hb : -9223372036854775808 ≤ b ∧ b ≤ 9223372036854775807) : roundelayref1_bits_m op a b = some (IntKind.i64.wrap (bitsN op a b 64)) := by
  obtain ⟨x, y, z, t, h⟩ := bits_loop op a b ha hb 64 0 (by omega)
  simp only [Int.pow_zero, Int.ediv_one] at h
  unfold roundelayref1_bits_m
  rw [show (a, b, (0 : Int), (1 : Int), (0 : Int)) = (a, b, IntKind.i64.wrap (bitsN op a b 0), IntKind.i64.wrap 1, ((0 : Nat) : Int)) from rfl, h]
  rfl
theorem ref_Op_s (op a b : Int) (ha : -9223372036854775808 ≤ a ∧ a ≤ 9223372036854775807) (hb : -9223372036854775808 ≤ b ∧ b ≤ 9223372036854775807) : roundelayref1_Op_m op a b = some (opV op a b) := by
  unfold roundelayref1_Op_m
  rw [bits_s op a b ha hb]
  simp only [bd_ret, br_eq, beq_iff_eq]
  by_cases h4 : op = 4
  · have := opV_bits op a b (.inl (by simp [h4]))
    subst h4; simp [this]
  · by_cases h5 : op = 5
    · have := opV_bits op a b (.inr (.inl (by simp [h5])))
      subst h5; simp [this]
    · by_cases h6 : op = 6
      · have := opV_bits op a b (.inr (.inr (by simp [h6])))
        subst h6; simp [this]
      · unfold opV
        (repeat' split) <;> simp_all
end Go.Rd
