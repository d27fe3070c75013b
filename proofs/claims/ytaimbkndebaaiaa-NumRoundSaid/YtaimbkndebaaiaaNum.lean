/- Plain facts on the numbers of chapter 1: no program in sight. -/
import Derived.Test.YtaimbkndebaaiaaRules
namespace Go.Rd
set_option linter.unusedVariables false
set_option linter.unusedSimpArgs false

theorem ret_int {k : IntKind} {a b : Int} (h : a = b) : Ending.returned (.int k a) = Ending.returned (.int k b) := by rw [h]
theorem ret_bool {a b : Bool} (h : a = b) : Ending.returned (.bool a) = Ending.returned (.bool b) := by rw [h]

def OkIdx (step plus turn log : Int) : Prop := 0 ≤ log ∧ log ≤ 5 ∧ -64 ≤ step ∧ step ≤ 64 ∧ -64 ≤ plus ∧ plus ≤ 64 ∧ 0 ≤ turn ∧ turn ≤ 200
instance {a b c d : Int} : Decidable (OkIdx a b c d) := by unfold OkIdx; infer_instance

/-- A3. -/
def idx (step plus turn log : Int) : Int := if OkIdx step plus turn log then (step * turn + plus) % 2 ^ log.toNat else 0

theorem mul_le {a b A B : Int} (h1 : -A ≤ a) (h2 : a ≤ A) (h3 : 0 ≤ b) (h4 : b ≤ B) : -(A * B) ≤ a * b ∧ a * b ≤ A * B := by
  have hA : 0 ≤ A := by omega
  have e1 : a * b ≤ A * b := Int.mul_le_mul_of_nonneg_right h2 h3
  have e2 : A * b ≤ A * B := Int.mul_le_mul_of_nonneg_left h4 hA
  have e3 : (-A) * b ≤ a * b := Int.mul_le_mul_of_nonneg_right h1 h3
  rw [Int.neg_mul] at e3
  omega

theorem step_turn {step turn : Int} (h1 : -64 ≤ step) (h2 : step ≤ 64) (h3 : 0 ≤ turn) (h4 : turn ≤ 200) : -12800 ≤ step * turn ∧ step * turn ≤ 12800 := by
  have := mul_le (A := 64) (B := 200) h1 h2 h3 h4
  omega

theorem and_mask (x : Int) (k : Nat) (hk : k ≤ 5) : ((BitVec.ofInt 64 x &&& BitVec.ofInt 64 (2 ^ k - 1)).toNat : Int) = x % 2 ^ k := by
  have e : BitVec.ofInt 64 (2 ^ k - 1) = BitVec.ofNat 64 (2 ^ k - 1) := by
    have : k = 0 ∨ k = 1 ∨ k = 2 ∨ k = 3 ∨ k = 4 ∨ k = 5 := by omega
    rcases this with rfl | rfl | rfl | rfl | rfl | rfl <;> rfl
  rw [e, BitVec.toNat_and, BitVec.toNat_ofNat, BitVec.toNat_ofInt]
  have h2 : (2 ^ k - 1) % 2 ^ 64 = 2 ^ k - 1 := by
    have : k = 0 ∨ k = 1 ∨ k = 2 ∨ k = 3 ∨ k = 4 ∨ k = 5 := by omega
    rcases this with rfl | rfl | rfl | rfl | rfl | rfl <;> rfl
  rw [h2, Nat.and_two_pow_sub_one_eq_mod]
  have : k = 0 ∨ k = 1 ∨ k = 2 ∨ k = 3 ∨ k = 4 ∨ k = 5 := by omega
  rcases this with rfl | rfl | rfl | rfl | rfl | rfl <;> simp <;> omega

theorem shl_one (log : Int) (h0 : 0 ≤ log) (h5 : log ≤ 5) : IntKind.i64.wrap (1 * 2 ^ (min log.toNat IntKind.i64.bits)) = 2 ^ log.toNat := by
  have : log = 0 ∨ log = 1 ∨ log = 2 ∨ log = 3 ∨ log = 4 ∨ log = 5 := by omega
  rcases this with rfl | rfl | rfl | rfl | rfl | rfl <;> rfl

theorem QV.shlOne {P : Program} {σ : Env} {C : World → Prop} {d : Option Tmp} {T U Z : TypeId} {pos : String} {after : Array Edge} {gd : Option (Nat × Bool)} {x y : Operand} {g g' : Bool} {log : Int}
    (hx : σ.ev x = some (g, .int .i64 1)) (hg : g = true) (hy : σ.ev y = some (g', .int .i64 log)) (hg' : g' = true) (h0 : 0 ≤ log) (h5 : log ≤ 5) : QV P ⟨d, .binOp .shl U x y Z, T, pos, after, gd⟩ σ C (.int .i64 (2 ^ log.toNat)) := by
  have := QV.shlW (P := P) (C := C) (d := d) (T := T) (U := U) (pos := pos) (after := after) (gd := gd) (z := Z) hx hg hy hg' h0
  rwa [shl_one log h0 h5] at this

theorem two_pow_5 (k : Nat) (h : k ≤ 5) : (1 : Int) ≤ 2 ^ k ∧ (2 : Int) ^ k ≤ 32 := by
  have : k = 0 ∨ k = 1 ∨ k = 2 ∨ k = 3 ∨ k = 4 ∨ k = 5 := by omega
  rcases this with rfl | rfl | rfl | rfl | rfl | rfl <;> decide

/-- What the program reckons is the index. -/
theorem idx_go {step plus turn log : Int} (h : OkIdx step plus turn log) :
    IntKind.i64.wrap (BitVec.ofInt IntKind.i64.bits (IntKind.i64.wrap (IntKind.i64.wrap (step * turn) + plus)) &&& BitVec.ofInt IntKind.i64.bits (IntKind.i64.wrap (IntKind.i64.wrap (1 * 2 ^ (min log.toNat IntKind.i64.bits)) - 1))).toNat
      = idx step plus turn log := by
  have ho := h
  obtain ⟨h1, h2, h3, h4, h5, h6, h7, h8⟩ := h
  have hm := step_turn h3 h4 h7 h8
  have hp := two_pow_5 log.toNat (by omega)
  rw [shl_one log h1 h2, wrap_i64 (n := step * turn) (by omega) (by omega), wrap_i64 (n := step * turn + plus) (by omega) (by omega), wrap_i64 (n := 2 ^ log.toNat - 1) (by omega) (by omega)]
  have := and_mask (step * turn + plus) log.toNat (by omega)
  show IntKind.i64.wrap (BitVec.ofInt 64 (step * turn + plus) &&& BitVec.ofInt 64 (2 ^ log.toNat - 1)).toNat = _
  rw [this, idx, if_pos ho]
  have h0 := Int.emod_nonneg (step * turn + plus) (show (2 : Int) ^ log.toNat ≠ 0 by omega)
  have h9 := Int.emod_lt_of_pos (step * turn + plus) (show (0 : Int) < 2 ^ log.toNat by omega)
  exact wrap_i64 (by omega) (by omega)

theorem idx_range {step plus turn log : Int} (h : OkIdx step plus turn log) : 0 ≤ idx step plus turn log ∧ idx step plus turn log < 2 ^ log.toNat := by
  have hp := two_pow_5 log.toNat (by have := h.1; have := h.2.1; omega)
  rw [idx, if_pos h]
  exact ⟨Int.emod_nonneg _ (by omega), Int.emod_lt_of_pos _ (by omega)⟩
theorem idx_le {step plus turn log : Int} : 0 ≤ idx step plus turn log ∧ idx step plus turn log ≤ 31 := by
  by_cases h : OkIdx step plus turn log
  · have := idx_range h
    have := two_pow_5 log.toNat (by have := h.1; have := h.2.1; omega)
    omega
  · rw [idx, if_neg h]; omega

/-- As many turns on as the array has words, the index comes round again. -/
theorem idx_round {step plus turn log : Int} (h : OkIdx step plus turn log) (ht : turn + 2 ^ log.toNat ≤ 200) : idx step plus (turn + 2 ^ log.toNat) log = idx step plus turn log := by
  have hp := two_pow_5 log.toNat (by have := h.1; have := h.2.1; omega)
  have h' : OkIdx step plus (turn + 2 ^ log.toNat) log := by obtain ⟨h1, h2, h3, h4, h5, h6, h7, h8⟩ := h; exact ⟨h1, h2, h3, h4, h5, h6, by omega, by omega⟩
  rw [idx, if_pos h', idx, if_pos h, Int.mul_add]
  rw [show step * turn + step * 2 ^ log.toNat + plus = (step * turn + plus) + step * 2 ^ log.toNat from by omega, Int.add_mul_emod_self_right]

theorem tmod_add_emod (a b m : Int) (hm : 0 < m) : (a.tmod m + b.tmod m) % m = (a + b) % m := by
  have e : ∀ x : Int, x.tmod m % m = x % m := fun x => by
    have h := Int.tmod_add_mul_tdiv x m
    conv => rhs; rw [← h]
    rw [Int.add_mul_emod_self_left]
  rw [Int.add_emod, e, e, ← Int.add_emod]

theorem tmod_lt' (a : Int) {m : Int} (hm : 0 < m) : -m < a.tmod m ∧ a.tmod m < m := by
  have h1 := Int.tmod_lt_of_pos a hm
  have h2 : -m < a.tmod m := by
    have := Int.tmod_lt_of_pos (-a) hm
    rw [Int.neg_tmod] at this
    omega
  exact ⟨h2, h1⟩

theorem idx_split {step plus turn log : Int} (h : OkIdx step plus turn log) : idx 0 ((step * turn).tmod (2 ^ log.toNat) + plus.tmod (2 ^ log.toNat)) 0 log = idx step plus turn log := by
  have hp := two_pow_5 log.toNat (by have := h.1; have := h.2.1; omega)
  have r1 := tmod_lt' (step * turn) (m := 2 ^ log.toNat) (by omega)
  have r2 := tmod_lt' plus (m := 2 ^ log.toNat) (by omega)
  have h' : OkIdx 0 ((step * turn).tmod (2 ^ log.toNat) + plus.tmod (2 ^ log.toNat)) 0 log := by
    obtain ⟨h1, h2, h3, h4, h5, h6, h7, h8⟩ := h
    exact ⟨h1, h2, by omega, by omega, by omega, by omega, by omega, by omega⟩
  rw [idx, if_pos h', idx, if_pos h, Int.zero_mul, Int.zero_add]
  exact tmod_add_emod _ _ _ (by omega)
end Go.Rd
