/- Plain facts on the numbers of chapter 1: no program in sight. -/
import Derived.Test.YtaimbkndebaaiaaRules
namespace Go.Rd
set_option linter.unusedVariables false
set_option linter.unusedSimpArgs false

theorem ret_int {k : IntKind} {a b : Int} (h : a = b) : Ending.returned (.int k a) = Ending.returned (.int k b) := by rw [h]
theorem ret_bool {a b : Bool} (h : a = b) : Ending.returned (.bool a) = Ending.returned (.bool b) := by rw [h]

def OkIdx (step plus turn log : Int) : Prop := 0 ≤ log ∧ log ≤ 5 ∧ -64 ≤ step ∧ step ≤ 64 ∧ -64 ≤ plus ∧ plus ≤ 64 ∧ 0 ≤ turn ∧ turn ≤ 200
instance {a b c d : Int} : Decidable (OkIdx a b c d) := by unfold OkIdx; infer_instance

/-- A3. -/
def idx (step plus turn log : Int) : Int := if OkIdx step plus turn log then (step * turn + plus) % 2 ^ log.toNat else 0

theorem mul_le {a b A B : Int} (h1 : -A ≤ a) (h2 : a ≤ A) (h3 : 0 ≤ b) (h4 : b ≤ B) : -(A * B) ≤ a * b ∧ a * b ≤ A * B := by
  have hA : 0 ≤ A := by omega
  have e1 : a * b ≤ A * b := Int.mul_le_mul_of_nonneg_right h2 h3
  have e2 : A * b ≤ A * B := Int.mul_le_mul_of_nonneg_left h4 hA
  have e3 : (-A) * b ≤ a * b := Int.mul_le_mul_of_nonneg_right h1 h3
  rw [Int.neg_mul] at e3
  omega

theorem step_turn {step turn : Int} (h1 : -64 ≤ step) (h2 : step ≤ 64) (h3 : 0 ≤ turn) (h4 : turn ≤ 200) : -12800 ≤ step * turn ∧ step * turn ≤ 12800 := by
  have := mul_le (A := 64) (B := 200) h1 h2 h3 h4
  omega

theorem and_mask (x : Int) (k : Nat) (hk : k ≤ 5) : ((BitVec.ofInt 64 x &&& BitVec.ofInt 64 (2 ^ k - 1)).toNat : Int) = x % 2 ^ k := by
  have e : BitVec.ofInt 64 (2 ^ k - 1) = BitVec.ofNat 64 (2 ^ k - 1) := by
    have : k = 0 ∨ k = 1 ∨ k = 2 ∨ k = 3 ∨ k = 4 ∨ k = 5 := by omega
    rcases this with rfl | rfl | rfl | rfl | rfl | rfl <;> rfl
  rw [e, BitVec.toNat_and, BitVec.toNat_ofNat, BitVec.toNat_ofInt]
  have h2 : (2 ^ k - 1) % 2 ^ 64 = 2 ^ k - 1 := by
    have : k = 0 ∨ k = 1 ∨ k = 2 ∨ k = 3 ∨ k = 4 ∨ k = 5 := by omega
    rcases this with rfl | rfl | rfl | rfl | rfl | rfl <;> rfl
  rw [h2, Nat.and_two_pow_sub_one_eq_mod]
  have : k = 0 ∨ k = 1 ∨ k = 2 ∨ k = 3 ∨ k = 4 ∨ k = 5 := by omega
  rcases this with rfl | rfl | rfl | rfl | rfl | rfl <;> simp <;> omega

theorem shl_one (log : Int) (h0 : 0 ≤ log) (h5 : log ≤ 5) : IntKind.i64.wrap (1 * 2 ^ (min log.toNat IntKind.i64.bits)) = 2 ^ log.toNat := by
  have : log = 0 ∨ log = 1 ∨ log = 2 ∨ log = 3 ∨ log = 4 ∨ log = 5 := by omega
  rcases this with rfl | rfl | rfl | rfl | rfl | rfl <;> rfl

theorem QV.shlOne {P : Program} {σ : Env} {C : World → Prop} {d : Option Tmp} {T U Z : TypeId} {pos : String} {after : Array Edge} {gd : Option (Nat × Bool)} {x y : Operand} {g g' : Bool} {log : Int}
    (hx : σ.ev x = some (g, .int .i64 1)) (hg : g = true) (hy : σ.ev y = some (g', .int .i64 log)) (hg' : g' = true) (h0 : 0 ≤ log) (h5 : log ≤ 5) : QV P ⟨d, .binOp .shl U x y Z, T, pos, after, gd⟩ σ C (.int .i64 (2 ^ log.toNat)) := by
  have := QV.shlW (P := P) (C := C) (d := d) (T := T) (U := U) (pos := pos) (after := after) (gd := gd) (z := Z) hx hg hy hg' h0
  rwa [shl_one log h0 h5] at this

theorem two_pow_5 (k : Nat) (h : k ≤ 5) : (1 : Int) ≤ 2 ^ k ∧ (2 : Int) ^ k ≤ 32 := by
  have : k = 0 ∨ k = 1 ∨ k = 2 ∨ k = 3 ∨ k = 4 ∨ k = 5 := by omega
  rcases this with rfl | rfl | rfl | rfl | rfl | rfl <;> decide

/-- What the program reckons is the index. -/
theorem idx_go {step plus turn log : Int} (h : OkIdx step plus turn log) :
    IntKind.i64.wrap (BitVec.ofInt IntKind.i64.bits (IntKind.i64.wrap (IntKind.i64.wrap (step * turn) + plus)) &&& BitVec.ofInt IntKind.i64.bits (IntKind.i64.wrap (IntKind.i64.wrap (1 * 2 ^ (min log.toNat IntKind.i64.bits)) - 1))).toNat
      = idx step plus turn log := by
  have ho := h
  obtain ⟨h1, h2, h3, h4, h5, h6, h7, h8⟩ := h
  have hm := step_turn h3 h4 h7 h8
  have hp := two_pow_5 log.toNat (by omega)
  rw [shl_one log h1 h2, wrap_i64 (n := step * turn) (by omega) (by omega), wrap_i64 (n := step * turn + plus) (by omega) (by omega), wrap_i64 (n := 2 ^ log.toNat - 1) (by omega) (by omega)]
  have := and_mask (step * turn + plus) log.toNat (by omega)
  show IntKind.i64.wrap (BitVec.ofInt 64 (step * turn + plus) &&& BitVec.ofInt 64 (2 ^ log.toNat - 1)).toNat = _
  rw [this, idx, if_pos ho]
  have h0 := Int.emod_nonneg (step * turn + plus) (show (2 : Int) ^ log.toNat ≠ 0 by omega)
  have h9 := Int.emod_lt_of_pos (step * turn + plus) (show (0 : Int) < 2 ^ log.toNat by omega)
  exact wrap_i64 (by omega) (by omega)

theorem idx_range {step plus turn log : Int} (h : OkIdx step plus turn log) : 0 ≤ idx step plus turn log ∧ idx step plus turn log < 2 ^ log.toNat := by
  have hp := two_pow_5 log.toNat (by have := h.1; have := h.2.1; omega)
  rw [idx, if_pos h]
  exact ⟨Int.emod_nonneg _ (by omega), Int.emod_lt_of_pos _ (by omega)⟩
theorem idx_le {step plus turn log : Int} : 0 ≤ idx step plus turn log ∧ idx step plus turn log ≤ 31 := by
  by_cases h : OkIdx step plus turn log
  · have := idx_range h
    have := two_pow_5 log.toNat (by have := h.1; have := h.2.1; omega)
    omega
  · rw [idx, if_neg h]; omega

/-- As many turns on as the array has words, the index comes round again. -/
theorem idx_round {step plus turn log : Int} (h : OkIdx step plus turn log) (ht : turn + 2 ^ log.toNat ≤ 200) : idx step plus (turn + 2 ^ log.toNat) log = idx step plus turn log := by
  have hp := two_pow_5 log.toNat (by have := h.1; have := h.2.1; omega)
  have h' : OkIdx step plus (turn + 2 ^ log.toNat) log := by obtain ⟨h1, h2, h3, h4, h5, h6, h7, h8⟩ := h; exact ⟨h1, h2, h3, h4, h5, h6, by omega, by omega⟩
  rw [idx, if_pos h', idx, if_pos h, Int.mul_add]
  rw [show step * turn + step * 2 ^ log.toNat + plus = (step * turn + plus) + step * 2 ^ log.toNat from by omega, Int.add_mul_emod_self_right]

theorem tmod_add_emod (a b m : Int) (hm : 0 < m) : (a.tmod m + b.tmod m) % m = (a + b) % m := by
  have e : ∀ x : Int, x.tmod m % m = x % m := fun x => by
    have h := Int.tmod_add_mul_tdiv x m
    conv => rhs; rw [← h]
    rw [Int.add_mul_emod_self_left]
  rw [Int.add_emod, e, e, ← Int.add_emod]

theorem tmod_lt' (a : Int) {m : Int} (hm : 0 < m) : -m < a.tmod m ∧ a.tmod m < m := by
  have h1 := Int.tmod_lt_of_pos a hm
  have h2 : -m < a.tmod m := by
    have := Int.tmod_lt_of_pos (-a) hm
    rw [Int.neg_tmod] at this
    omega
  exact ⟨h2, h1⟩

theorem idx_split {step plus turn log : Int} (h : OkIdx step plus turn log) : idx 0 ((step * turn).tmod (2 ^ log.toNat) + plus.tmod (2 ^ log.toNat)) 0 log = idx step plus turn log := by
  have hp := two_pow_5 log.toNat (by have := h.1; have := h.2.1; omega)
  have r1 := tmod_lt' (step * turn) (m := 2 ^ log.toNat) (by omega)
  have r2 := tmod_lt' plus (m := 2 ^ log.toNat) (by omega)
  have h' : OkIdx 0 ((step * turn).tmod (2 ^ log.toNat) + plus.tmod (2 ^ log.toNat)) 0 log := by
    obtain ⟨h1, h2, h3, h4, h5, h6, h7, h8⟩ := h
    exact ⟨h1, h2, by omega, by omega, by omega, by omega, by omega, by omega⟩
  rw [idx, if_pos h', idx, if_pos h, Int.zero_mul, Int.zero_add]
  exact tmod_add_emod _ _ _ (by omega)

/-! ### A1, A2: operations -/
theorem wrap_def (n : Int) : IntKind.i64.wrap n = if n % 18446744073709551616 ≥ 9223372036854775808 then n % 18446744073709551616 - 18446744073709551616 else n % 18446744073709551616 := by
  simp [IntKind.wrap, IntKind.signed, IntKind.bits]
theorem wrap_bd (n : Int) : -9223372036854775808 ≤ IntKind.i64.wrap n ∧ IntKind.i64.wrap n ≤ 9223372036854775807 := by
  rw [wrap_def]; split <;> omega
theorem wrap_add2 (x y : Int) : IntKind.i64.wrap (IntKind.i64.wrap x + IntKind.i64.wrap y) = IntKind.i64.wrap (x + y) := by
  simp only [wrap_def]; (repeat' split) <;> omega

def opV (op a b : Int) : Int :=
  if op = 1 then IntKind.i64.wrap (a + b) else if op = 2 then IntKind.i64.wrap (a - b) else if op = 3 then IntKind.i64.wrap (a * b)
  else if op = 4 then IntKind.i64.wrap (BitVec.ofInt IntKind.i64.bits a &&& BitVec.ofInt IntKind.i64.bits b).toNat
  else if op = 5 then IntKind.i64.wrap (BitVec.ofInt IntKind.i64.bits a ||| BitVec.ofInt IntKind.i64.bits b).toNat
  else if op = 6 then IntKind.i64.wrap (BitVec.ofInt IntKind.i64.bits a ^^^ BitVec.ofInt IntKind.i64.bits b).toNat
  else if op = 7 then (if a < b then 1 else 0) else if op = 8 then (if a = b then 1 else 0) else 0

def clsV (op : Int) : Int := if op = 3 ∨ op = 4 then 2 else if op = 13 then 1 else 0
theorem clsV_range (op : Int) : 0 ≤ clsV op ∧ clsV op < 3 := by unfold clsV; split <;> (try split) <;> omega

theorem opV_bd (op a b : Int) : -9223372036854775808 ≤ opV op a b ∧ opV op a b ≤ 9223372036854775807 := by
  unfold opV
  repeat' split
  all_goals first | exact wrap_bd _ | omega

/-- The reference's bits. -/
def bitC (op : Int) (x y : Bool) : Bool := (((op == 4) && x) && y) || ((op == 5) && (x || y)) || ((op == 6) && !(x == y))
def bitA (a : Int) (j : Nat) : Bool := (a / 2 ^ j) % 2 != 0
def bitsN (op a b : Int) : Nat → Nat
  | 0 => 0
  | i + 1 => bitsN op a b i + (if bitC op (bitA a i) (bitA b i) then 2 ^ i else 0)

theorem tmod2 (A : Int) : (A.tmod 2 != 0) = (A % 2 != 0) := by
  have h1 := Int.tmod_add_mul_tdiv A 2
  have h2 := tmod_lt' A (m := 2) (by omega)
  have : (A.tmod 2 = 0) ↔ (A % 2 = 0) := by omega
  by_cases h : A % 2 = 0
  · rw [h, this.2 h]
  · have h' : ¬ A.tmod 2 = 0 := fun h0 => h (this.1 h0)
    rw [bne_iff_ne.2 h, bne_iff_ne.2 h']

theorem half_neg {A : Int} (h1 : -9223372036854775808 ≤ A) (h2 : A ≤ 9223372036854775807) (h : A.tmod 2 < 0) : IntKind.i64.wrap ((IntKind.i64.wrap (A - IntKind.i64.wrap (A.tmod 2 + 2))).tdiv 2) = A / 2 := by
  have e1 := Int.tmod_add_mul_tdiv A 2
  have e2 := tmod_lt' A (m := 2) (by omega)
  have e3 : A.tmod 2 = -1 := by omega
  rw [e3, wrap_i64 (n := -1 + 2) (by omega) (by omega), wrap_i64 (n := A - (-1 + 2)) (by omega) (by omega), show A - (-1 + 2) = 2 * (A / 2) from by omega, Int.mul_tdiv_cancel_left _ (by omega)]
  exact wrap_i64 (by omega) (by omega)
theorem half_pos {A : Int} (h1 : -9223372036854775808 ≤ A) (h2 : A ≤ 9223372036854775807) (h : ¬ A.tmod 2 < 0) : IntKind.i64.wrap ((IntKind.i64.wrap (A - A.tmod 2)).tdiv 2) = A / 2 := by
  have e1 := Int.tmod_add_mul_tdiv A 2
  have e2 := tmod_lt' A (m := 2) (by omega)
  rw [wrap_i64 (n := A - A.tmod 2) (by omega) (by omega), show A - A.tmod 2 = 2 * (A / 2) from by omega, Int.mul_tdiv_cancel_left _ (by omega)]
  exact wrap_i64 (by omega) (by omega)
theorem half_next (a : Int) (i : Nat) : a / 2 ^ i / 2 = a / 2 ^ (i + 1) := by
  rw [Int.ediv_ediv_of_nonneg (Int.pow_nonneg (by omega)), Int.pow_succ]
theorem half_bd {a : Int} (h1 : -9223372036854775808 ≤ a) (h2 : a ≤ 9223372036854775807) (i : Nat) : -9223372036854775808 ≤ a / 2 ^ i ∧ a / 2 ^ i ≤ 9223372036854775807 := by
  induction i with
  | zero => simp; omega
  | succ i ih => rw [← half_next]; omega

theorem bitsN_mod {op a b : Int} {r : Nat} : ∀ i, (∀ j, j < i → r.testBit j = bitC op (bitA a j) (bitA b j)) → bitsN op a b i = r % 2 ^ i
  | 0, _ => by simp [bitsN, Nat.mod_one]
  | i + 1, h => by
    have h0 := h i (by omega)
    rw [bitsN, bitsN_mod i (fun j hj => h j (by omega)), ← h0, Nat.testBit_eq_decide_div_mod_eq]
    have e : r % 2 ^ (i + 1) = r % 2 ^ i + 2 ^ i * (r / 2 ^ i % 2) := by rw [Nat.pow_succ, Nat.mod_mul]
    rw [e]
    have : r / 2 ^ i % 2 = 0 ∨ r / 2 ^ i % 2 = 1 := by omega
    rcases this with h | h <;> simp [h]

theorem bitA_ofInt (a : Int) (j : Nat) (hj : j < 64) : (BitVec.ofInt 64 a).toNat.testBit j = bitA a j := by
  rw [BitVec.toNat_ofInt, Nat.testBit_eq_decide_div_mod_eq, bitA]
  have h0 : 0 ≤ a % ((2 ^ 64 : Nat) : Int) := Int.emod_nonneg _ (by decide)
  have e : (((a % ((2 ^ 64 : Nat) : Int)).toNat / 2 ^ j % 2 : Nat) : Int) = a / 2 ^ j % 2 := by
    rw [Int.natCast_emod, Int.natCast_ediv, Int.toNat_of_nonneg h0]
    have e1 : a = a % ((2 ^ 64 : Nat) : Int) + 2 ^ j * (2 ^ (64 - j) * (a / ((2 ^ 64 : Nat) : Int))) := by
      rw [← Int.mul_assoc, ← Int.pow_add, show j + (64 - j) = 64 from by omega]
      have := Int.emod_add_mul_ediv a ((2 ^ 64 : Nat) : Int)
      exact this.symm
    have e2 : a / 2 ^ j = a % ((2 ^ 64 : Nat) : Int) / 2 ^ j + 2 ^ (64 - j) * (a / ((2 ^ 64 : Nat) : Int)) := by
      conv => lhs; rw [e1]
      rw [Int.add_mul_ediv_left _ _ (show (2 : Int) ^ j ≠ 0 from Int.ne_of_gt (Int.pow_pos (by omega)))]
    have e3 : (2 : Int) ^ (64 - j) = 2 * 2 ^ (63 - j) := by
      rw [show 64 - j = (63 - j) + 1 from by omega, Int.pow_succ, Int.mul_comm]
    rw [e2, e3, Int.mul_assoc, Int.add_mul_emod_self_left]
    simp
  have h2 : a / 2 ^ j % 2 = 0 ∨ a / 2 ^ j % 2 = 1 := by omega
  rcases h2 with h | h
  · have : (a % ((2 ^ 64 : Nat) : Int)).toNat / 2 ^ j % 2 = 0 := by omega
    rw [this, h]; rfl
  · have : (a % ((2 ^ 64 : Nat) : Int)).toNat / 2 ^ j % 2 = 1 := by omega
    rw [this, h]; rfl

theorem bits_and (a b : Int) : ((bitsN 4 a b 64 : Nat) : Int) = (BitVec.ofInt IntKind.i64.bits a &&& BitVec.ofInt IntKind.i64.bits b).toNat := by
  have := bitsN_mod (op := 4) (a := a) (b := b) (r := (BitVec.ofInt 64 a &&& BitVec.ofInt 64 b).toNat) 64 (fun j hj => by
    rw [BitVec.toNat_and, Nat.testBit_and, bitA_ofInt a j hj, bitA_ofInt b j hj]; cases bitA a j <;> cases bitA b j <;> rfl)
  rw [this, Nat.mod_eq_of_lt (BitVec.isLt _)]; rfl
theorem bits_or (a b : Int) : ((bitsN 5 a b 64 : Nat) : Int) = (BitVec.ofInt IntKind.i64.bits a ||| BitVec.ofInt IntKind.i64.bits b).toNat := by
  have := bitsN_mod (op := 5) (a := a) (b := b) (r := (BitVec.ofInt 64 a ||| BitVec.ofInt 64 b).toNat) 64 (fun j hj => by
    rw [BitVec.toNat_or, Nat.testBit_or, bitA_ofInt a j hj, bitA_ofInt b j hj]; cases bitA a j <;> cases bitA b j <;> rfl)
  rw [this, Nat.mod_eq_of_lt (BitVec.isLt _)]; rfl
theorem bits_xor (a b : Int) : ((bitsN 6 a b 64 : Nat) : Int) = (BitVec.ofInt IntKind.i64.bits a ^^^ BitVec.ofInt IntKind.i64.bits b).toNat := by
  have := bitsN_mod (op := 6) (a := a) (b := b) (r := (BitVec.ofInt 64 a ^^^ BitVec.ofInt 64 b).toNat) 64 (fun j hj => by
    rw [BitVec.toNat_xor, Nat.testBit_xor, bitA_ofInt a j hj, bitA_ofInt b j hj]; cases bitA a j <;> cases bitA b j <;> rfl)
  rw [this, Nat.mod_eq_of_lt (BitVec.isLt _)]; rfl

theorem opV_bits (op a b : Int) (h : (op == 4) = true ∨ (op == 5) = true ∨ (op == 6) = true) : IntKind.i64.wrap (bitsN op a b 64) = opV op a b := by
  simp only [beq_iff_eq] at h
  rcases h with rfl | rfl | rfl
  · rw [bits_and]; rfl
  · rw [bits_or]; rfl
  · rw [bits_xor]; rfl
theorem look_int {σ : Env} {t : Nat} {k : IntKind} {n m : Int} (h : σ.look t = some (true, .int k n)) (e : n = m) : σ.look t = some (true, .int k m) := e ▸ h
theorem look_bool {σ : Env} {t : Nat} {n m : Bool} (h : σ.look t = some (true, .bool n)) (e : n = m) : σ.look t = some (true, .bool m) := e ▸ h

theorem bits_n_yes {op a b : Int} {i : Nat} {c : Bool} (hc : c = true) (e : c = bitC op (bitA a i) (bitA b i)) : IntKind.i64.wrap (IntKind.i64.wrap (bitsN op a b i) + IntKind.i64.wrap (2 ^ i)) = IntKind.i64.wrap (bitsN op a b (i + 1)) := by
  rw [wrap_add2, bitsN, ← e, hc]; simp
theorem bits_n_no {op a b : Int} {i : Nat} {c : Bool} (hc : c = false) (e : c = bitC op (bitA a i) (bitA b i)) : IntKind.i64.wrap (bitsN op a b i) = IntKind.i64.wrap (bitsN op a b (i + 1)) := by
  rw [bitsN, ← e, hc]; simp
theorem bits_cond (op a b : Int) (i : Nat) : ((((op == 4) && ((a / 2 ^ i).tmod 2 != 0)) && ((b / 2 ^ i).tmod 2 != 0)) || ((op == 5) && (((a / 2 ^ i).tmod 2 != 0) || ((b / 2 ^ i).tmod 2 != 0))) || ((op == 6) && !(((a / 2 ^ i).tmod 2 != 0) == ((b / 2 ^ i).tmod 2 != 0)))) = bitC op (bitA a i) (bitA b i) := by
  rw [tmod2, tmod2]; rfl

/-! ### Sizes -/
theorem pow_next (k : Nat) : (2 : Int) ^ k + 2 ^ k = 2 ^ (k + 1) := by rw [Int.pow_succ]; omega
theorem pow_le_32 {k : Nat} (h : k ≤ 5) : (2 : Int) ^ k ≤ 32 := (two_pow_5 k h).2
theorem tmod_fix {a b : Int} (hb : 0 < b) : (if a.tmod b < 0 then a.tmod b + b else a.tmod b) = a % b := by
  have h1 := Int.tmod_add_mul_tdiv a b
  have h2 := tmod_lt' a hb
  have h3 : a % b = a.tmod b % b := by
    conv => lhs; rw [← h1]
    rw [Int.add_mul_emod_self_left]
  split
  · rw [h3, ← Int.add_emod_right, Int.emod_eq_of_lt (by omega) (by omega)]
  · rw [h3, Int.emod_eq_of_lt (by omega) (by omega)]

/-! ### Three cells in a row -/
def sel3 (a b c : Int) (k : Int) : Int := if k = 0 then a else if k = 1 then b else c
theorem sel3_get {l : List Value} {off : Nat} {a b c i : Int} (h0 : 0 ≤ i) (h1 : i < 3) (e0 : l[off]? = some (.int .i64 a)) (e1 : l[off + 1]? = some (.int .i64 b)) (e2 : l[off + 2]? = some (.int .i64 c)) :
    l[off + i.toNat * 1]? = some (.int .i64 (sel3 a b c i)) := by
  have : i = 0 ∨ i = 1 ∨ i = 2 := by omega
  rcases this with rfl | rfl | rfl
  · simpa [sel3] using e0
  · simpa [sel3] using e1
  · simpa [sel3] using e2
theorem Own.cellSym {M : Nat → Prop} {w0 : World} {H : List Res} (k : Nat) {b : Nat} {cs : List Value} {T : TypeId} {off : Nat} {v : Value} {q : Addr} (hk : H[k]? = some (blk b cs T)) (hv : cs[off]? = some v) (hq : q = ⟨b, off, none⟩) :
    ∀ w, Own M w0 H w → w.cell? q = some v := hq ▸ Own.cell k hk hv
theorem addr_sym (b off m : Nat) : (((⟨b, 0, none⟩ : Addr).add off).add m) = ⟨b, off + m, none⟩ := by
  unfold Addr.add
  by_cases h : off = 0 <;> by_cases h' : m = 0 <;> simp [h, h']
end Go.Rd
