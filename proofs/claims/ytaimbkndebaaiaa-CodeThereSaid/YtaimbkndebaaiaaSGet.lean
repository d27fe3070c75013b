/- Kernels read off bytes: what the models come to; that bytes are read as they were written. -/
import Derived.Test.YtaimbkndebaaiaaSCode
namespace Go.Rd
set_option linter.unusedVariables false
set_option linter.unusedSimpArgs false

def rd1 (n : Int) (c : UInt8) : Int := IntKind.i64.wrap (n * 256 + (c.toNat : Int))
/-- The number that eight bytes are. -/
def rdv (bs : List UInt8) : Int := bs.foldl rd1 0
theorem ofInt_wrap (n : Int) : BitVec.ofInt 64 (IntKind.i64.wrap n) = BitVec.ofInt 64 n := by
  apply BitVec.eq_of_toInt_eq
  rw [BitVec.toInt_ofInt, BitVec.toInt_ofInt, wrap_def]
  split <;> simp only [Int.bmod_def] <;> omega
theorem wrap_ofNat_toNat (v : BitVec 64) : IntKind.i64.wrap (v.toNat : Int) = v.toInt := by
  rw [wrap_def, BitVec.toInt_eq_toNat_cond]
  have := v.isLt
  split <;> split <;> omega
theorem toInt_ofInt_wrap (n : Int) : (BitVec.ofInt 64 n).toInt = IntKind.i64.wrap n := by
  rw [BitVec.toInt_ofInt, wrap_def, Int.bmod_def]
  split <;> split <;> omega
theorem or_byte (n : Int) (c : UInt8) : bitOr (shlD n 8) (c.toNat : Int) = rd1 n c := by
  have hc := UInt8.toNat_lt c
  have e1 : shlD n 8 = IntKind.i64.wrap (n * 256) := rfl
  unfold bitOr rd1
  rw [e1, ofInt_wrap]
  have hz : BitVec.ofInt 64 (n * 256) &&& BitVec.ofInt 64 (c.toNat : Int) = BitVec.ofNat 64 0 := by
    apply BitVec.eq_of_getLsbD_eq
    intro j hj
    have h1 := bitA_ofInt (n * 256) j hj
    have h2 := bitA_ofInt (c.toNat : Int) j hj
    rw [BitVec.testBit_toNat] at h1 h2
    rw [BitVec.getLsbD_and, h1, h2, BitVec.getLsbD_zero]
    unfold bitA
    by_cases hj8 : j < 8
    · have : (n * 256 / 2 ^ j) % 2 = 0 := by
        have e : n * 256 = (n * 2 ^ (8 - j)) * 2 ^ j := by
          rw [Int.mul_assoc, ← Int.pow_add, show 8 - j + j = 8 from by omega]; rfl
        rw [e, Int.mul_ediv_cancel _ (Int.ne_of_gt (Int.pow_pos (by decide))), show 8 - j = (7 - j) + 1 from by omega, Int.pow_succ, ← Int.mul_assoc]
        exact Int.mul_emod_left _ 2
      simp [this]
    · have : ((c.toNat : Int) / 2 ^ j) = 0 := by
        apply Int.ediv_eq_zero_of_lt (by omega)
        have h256 : (2 : Int) ^ 8 ≤ 2 ^ j := by exact_mod_cast Nat.pow_le_pow_right (by decide) (by omega)
        have : (2 : Int) ^ 8 = 256 := rfl
        omega
      simp [this]
  rw [← BitVec.add_eq_or_of_and_eq_zero _ _ hz, ← BitVec.ofInt_add, wrap_ofNat_toNat, toInt_ofInt_wrap]
theorem wrap_mul_add (n c : Int) : IntKind.i64.wrap (IntKind.i64.wrap (n * 256) + c) = IntKind.i64.wrap (n * 256 + c) := by
  rw [wrap_def, wrap_def, wrap_def]
  split <;> split <;> split <;> omega
theorem fold_take {b : List UInt8} {i : Nat} (h : i < b.length) (a : Int) : (b.take (i + 1)).foldl rd1 a = rd1 ((b.take i).foldl rd1 a) (ele b i) := by
  rw [take_next h, List.foldl_append]; rfl

/-- What is read at place k. -/
def numAt (b : List UInt8) (k : Nat) : Int := rdv ((b.drop (8 * k)).take 8)
theorem ele_drop {b : List UInt8} {m i : Nat} : ele (b.drop m) (i : Int) = ele b ((m + i : Nat) : Int) := by
  unfold ele; rw [Int.toNat_natCast, Int.toNat_natCast]; simp [List.getD_eq_getElem?_getD, List.getElem?_drop]
theorem get1_loop (b : List UInt8) (hb : 8 ≤ b.length) : ∀ (m i : Nat), i + m = 8 → lp (code_Get_c1_L0 b) (rdv (b.take i), i) = some (.go (rdv (b.take 8), 8))
  | 0, i, h => by
    have hi : i = 8 := by omega
    subst hi
    refine lp_brk ?_
    unfold code_Get_c1_L0
    exact br_F (by simp [ln, sub]; omega)
  | m + 1, i, h => by
    have ih := get1_loop b hb m (i + 1) (by omega)
    refine lp_step ?_ ih
    have hl : ln (sub b 0 8) = 8 := by simp [ln, sub]; omega
    have he : ele (sub b 0 8) i = ele b i := by simp [sub, ele, List.getD_eq_getElem?_getD, List.getElem?_take, show i < 8 from by omega]
    unfold code_Get_c1_L0
    simp only
    rw [hl, br_T (by omega), ck_IX (by omega) (by omega), ck_IR (by omega) (by omega), or_byte, he]
    unfold rdv
    rw [fold_take (by omega)]
    rfl
theorem get1_s (b : List UInt8) (hb : 8 ≤ b.length) : code_Get_c1_m b = some (numAt b 0, b.drop 8) := by
  have := get1_loop b hb 8 0 (by omega)
  unfold code_Get_c1_m
  rw [ck_SX (by omega) (by omega) (by unfold ln; omega), show ((0 : Int), (0 : Int)) = (rdv (b.take 0), ((0 : Nat) : Int)) from rfl, this, bd_ret, Out.on_go]
  simp only
  rw [ck_SX (by omega) (by unfold ln; omega) (by omega)]
  simp [numAt, sub, ln]
  rw [List.take_of_length_le (by simp; omega)]
theorem at_loop (b : List UInt8) (k : Nat) (hk : k ≤ 1000000) (hb : 8 * k + 8 ≤ b.length) : ∀ (m i : Nat), i + m = 8 → lp (roundelayref13_at_L0 b k) (rdv ((b.drop (8 * k)).take i), i) = some (.go (numAt b k, 8))
  | 0, i, h => by
    have hi : i = 8 := by omega
    subst hi
    refine lp_brk ?_
    unfold roundelayref13_at_L0
    exact br_F (by omega)
  | m + 1, i, h => by
    have ih := at_loop b k hk hb m (i + 1) (by omega)
    refine lp_step ?_ ih
    unfold roundelayref13_at_L0
    simp only
    rw [br_T (by omega), ck_IR (by omega) (by omega), ck_IR (by omega) (by omega), ck_IX (by omega) (by unfold ln; omega), ck_IR (by omega) (by omega), wrap_mul_add]
    unfold rdv
    rw [fold_take (by simp; omega), ele_drop]
    have e : (8 * (k : Int) + (i : Int)) = ((8 * k + i : Nat) : Int) := by omega
    rw [e]
    rfl
theorem at_s (b : List UInt8) (k : Nat) (x : Int) (hx : x = k) (hk : k ≤ 1000000) (hb : 8 * k + 8 ≤ b.length) : roundelayref13_at_m b x = some (numAt b k) := by
  subst hx
  have := at_loop b k hk hb 8 0 (by omega)
  unfold roundelayref13_at_m
  rw [show ((0 : Int), (0 : Int)) = (rdv ((b.drop (8 * k)).take 0), ((0 : Nat) : Int)) from rfl, this]
  rfl

def numsAt (b : List UInt8) (k m : Nat) : List Int := (List.range m).map fun j => numAt b (k + j)
theorem numsAt_len (b : List UInt8) (k m : Nat) : (numsAt b k m).length = m := by simp [numsAt]
theorem numsAt_succ (b : List UInt8) (k m : Nat) : numsAt b k (m + 1) = numsAt b k m ++ [numAt b (k + m)] := by simp [numsAt, List.range_succ]
theorem numAt_drop (b : List UInt8) (i k : Nat) : numAt (b.drop (8 * i)) k = numAt b (i + k) := by
  unfold numAt; rw [List.drop_drop, ← Nat.mul_add]
def opAt (b : List UInt8) (i : Nat) : Opr := oprOf (numsAt b (3 + 10 * i) 10)
def opsAt (b : List UInt8) (m : Nat) : List Opr := (List.range m).map (opAt b)
theorem opsAt_succ (b : List UInt8) (m : Nat) : opsAt b (m + 1) = opsAt b m ++ [opAt b m] := by simp [opsAt, List.range_succ]
theorem opsAt_len (b : List UInt8) (m : Nat) : (opsAt b m).length = m := by simp [opsAt]
theorem upd_mid (A : List Int) (x y : Int) (B : List Int) (i : Nat) (h : A.length = i) : upd (A ++ x :: B) i y = A ++ y :: B := by
  subst h; simp [upd]
theorem fields_loop (b : List UInt8) (k : Nat) (hb : 8 * (k + 9) ≤ b.length) : ∀ (m i : Nat), i + m = 9 →
    lp code_Get_L2 (numsAt b k i ++ List.replicate (10 - i) 0, b.drop (8 * (k + i)), i) = some (.go (numsAt b k 9 ++ [0], b.drop (8 * (k + 9)), 9))
  | 0, i, h => by
    have hi : i = 9 := by omega
    subst hi
    refine lp_brk ?_
    unfold code_Get_L2
    exact br_F (by omega)
  | m + 1, i, h => by
    have ih := fields_loop b k hb m (i + 1) (by omega)
    refine lp_step ?_ ih
    have hr : List.replicate (10 - i) (0 : Int) = 0 :: List.replicate (10 - (i + 1)) 0 := by
      rw [show 10 - i = (10 - (i + 1)) + 1 from by omega]; rfl
    have hl : (numsAt b k i ++ List.replicate (10 - i) (0 : Int)).length = 10 := by simp [numsAt_len]; omega
    unfold code_Get_L2
    simp only
    rw [br_T (by omega), ck_IX (by omega) (by omega), get1_s _ (by simp; omega), bd_ret, ck_IX (by omega) (by unfold ln; omega), ck_IR (by omega) (by omega), numAt_drop, hr, upd_mid _ _ _ _ _ (numsAt_len b k i), numsAt_succ]
    simp only [List.append_assoc, List.singleton_append, List.drop_drop, Nat.add_zero]
    rfl
theorem getops_loop (b : List UInt8) (x : Int × List UInt8) (n : Nat) (hx : x.1 = n) (hn : n ≤ 16) (hb : b.length = 24 + 80 * n) : ∀ (m i : Nat), i + m = n →
    lp (code_Get_L0 x) (opsAt b i, b.drop (8 * (3 + 10 * i)), i) = some (.go (opsAt b n, b.drop (8 * (3 + 10 * n)), n))
  | 0, i, h => by
    have hi : i = n := by omega
    subst hi
    refine lp_brk ?_
    unfold code_Get_L0
    simp only
    rw [hx]
    exact br_F (by omega)
  | m + 1, i, h => by
    have ih := getops_loop b x n hx hn hb m (i + 1) (by omega)
    refine lp_step ?_ ih
    have hf : lp code_Get_L2 (([0, 0, 0, 0, 0, 0, 0, 0, 0, 0] : List Int), b.drop (8 * (3 + 10 * i)), (0 : Int)) = some (.go (numsAt b (3 + 10 * i) 9 ++ [0], b.drop (8 * (3 + 10 * i + 9)), 9)) := fields_loop b (3 + 10 * i) (by omega) 9 0 (by omega)
    have hu : upd (numsAt b (3 + 10 * i) 9 ++ [0]) 9 (numAt b (3 + 10 * i + 9)) = numsAt b (3 + 10 * i) 10 := by
      rw [numsAt_succ]; exact upd_mid _ _ _ _ 9 (numsAt_len b _ 9)
    unfold code_Get_L0
    simp only
    rw [hx, br_T (by omega), hf, bd_ret, Out.on_go]
    simp only
    rw [get1_s _ (by simp; omega), bd_ret, ck_IX (by omega) (by simp [ln, numsAt_len])]
    simp only
    rw [numAt_drop, Nat.add_zero, hu, ck_yes (numsAt_len _ _ _), ck_AL (by simp [opsAt_len]; omega) (by simp [opsAt_len]; omega), ck_IR (by omega) (by omega), opsAt_succ, List.drop_drop, show 8 * (3 + 10 * i + 9) + 8 = 8 * (3 + 10 * (i + 1)) from by omega]
    rfl
def okBytes (b : List UInt8) : Prop := 24 ≤ b.length ∧ 0 ≤ numAt b 2 ∧ numAt b 2 ≤ 16 ∧ (b.length : Int) = 24 + 80 * numAt b 2
def getK (b : List UInt8) : Krn := ⟨numAt b 0, numAt b 1, opsAt b (numAt b 2).toNat⟩
theorem code_Get_s (b : List UInt8) : (okBytes b → code_Get_m b = some (getK b, 0)) ∧ (¬ okBytes b → code_Get_m b = some (⟨0, 0, []⟩, 2)) := by
  have head : 24 ≤ b.length → code_Get_m b = ck ((!((decide (numAt b 2 < 0)) || (decide (numAt b 2 > 16)))) = true → IR (80 * numAt b 2)) (br (((decide (numAt b 2 < 0)) || (decide (numAt b 2 > 16))) || ((ln (b.drop 24)) != (80 * numAt b 2))) (
      some ((Krn.mk 0 0 []), (2 : Int))) (bd (lp (code_Get_L0 (numAt b 2, b.drop 24)) ([], b.drop 24, 0)) fun o25 => o25.on (fun (v24_4, b1c0_4, x37_4) => some ((Krn.mk (numAt b 0) (numAt b 1) v24_4), (0 : Int))) (fun r => r.elim))) := fun h => by
    unfold code_Get_m
    rw [br_F (by unfold ln; omega), get1_s b (by omega), bd_ret, get1_s _ (by simp; omega), bd_ret, get1_s _ (by simp; omega), bd_ret]
    simp only [List.drop_drop]
    rw [show numAt (b.drop 8) 0 = numAt b 1 from numAt_drop b 1 0, show numAt (b.drop (8 + 8)) 0 = numAt b 2 from numAt_drop b 2 0]
  constructor
  · rintro ⟨h1, h2, h3, h4⟩
    have hl : ln (b.drop 24) = 80 * numAt b 2 := by unfold ln; rw [List.length_drop]; omega
    have := getops_loop b (numAt b 2, b.drop 24) (numAt b 2).toNat (by simp; omega) (by omega) (by omega) (numAt b 2).toNat 0 (by omega)
    rw [head h1, ck_imp (fun _ => ⟨by omega, by omega⟩), hl]
    simp only [show ¬ numAt b 2 < 0 from by omega, show ¬ numAt b 2 > 16 from by omega, decide_false, Bool.or_self, bne_self_eq_false, br_false]
    rw [show opsAt b 0 = [] from rfl, show 8 * (3 + 10 * 0) = 24 from rfl] at this
    rw [show (0 : Int) = ((0 : Nat) : Int) from rfl, this]
    rfl
  · intro hn
    by_cases h1 : 24 ≤ b.length
    · rw [head h1]
      have hd : (b.drop 24).length = b.length - 24 := List.length_drop
      by_cases h2 : numAt b 2 < 0
      · simp [h2, ck]
      · by_cases h3 : numAt b 2 > 16
        · simp [h3, ck]
        · have h4 : ln (b.drop 24) ≠ 80 * numAt b 2 := fun h4 => hn ⟨h1, by omega, by omega, by unfold ln at h4; omega⟩
          have h5 : (ln (b.drop 24) != 80 * numAt b 2) = true := bne_iff_ne.2 h4
          rw [ck_imp (fun _ => ⟨by omega, by omega⟩)]
          simp only [show ¬ numAt b 2 < 0 from h2, show ¬ numAt b 2 > 16 from h3, decide_false, Bool.or_self, h5, Bool.false_or, br_true]
    · unfold code_Get_m
      exact br_T (by unfold ln; omega)
theorem ref_ops (b : List UInt8) (n : Nat) (hn : n ≤ 16) (hb : b.length = 24 + 80 * n) : ∀ (m i : Nat), i + m = n →
    lp (roundelayref13_Get_L0 b n) (opsAt b i, i) = some (.go (opsAt b n, n))
  | 0, i, h => by
    have hi : i = n := by omega
    subst hi
    refine lp_brk ?_
    unfold roundelayref13_Get_L0
    exact br_F (by omega)
  | m + 1, i, h => by
    have ih := ref_ops b n hn hb m (i + 1) (by omega)
    refine lp_step ?_ ih
    have e : ∀ j : Nat, j < 10 → roundelayref13_at_m b ((3 + 10 * (i : Int)) + (j : Int)) = some (numAt b (3 + 10 * i + j)) := fun j hj => at_s b (3 + 10 * i + j) _ (by omega) (by omega) (by omega)
    have e0 := e 0 (by omega); have e1 := e 1 (by omega); have e2 := e 2 (by omega); have e3 := e 3 (by omega); have e4 := e 4 (by omega); have e5 := e 5 (by omega); have e6 := e 6 (by omega); have e7 := e 7 (by omega); have e8 := e 8 (by omega); have e9 := e 9 (by omega)
    simp only [Int.natCast_zero, Int.add_zero, Nat.add_zero] at e0
    unfold roundelayref13_Get_L0
    simp only
    rw [br_T (by omega), ck_IR (by omega) (by omega), ck_IR (by omega) (by omega), e0, bd_ret, ck_IR (by omega) (by omega), show (1 : Int) = ((1 : Nat) : Int) from rfl, e1, bd_ret, ck_IR (by omega) (by omega), show (2 : Int) = ((2 : Nat) : Int) from rfl, e2, bd_ret, ck_IR (by omega) (by omega), show (3 : Int) + 10 * (i : Int) + 3 = 3 + 10 * (i : Int) + ((3 : Nat) : Int) from rfl, e3, bd_ret,
      ck_IR (by omega) (by omega), show (4 : Int) = ((4 : Nat) : Int) from rfl, e4, bd_ret, ck_IR (by omega) (by omega), show (5 : Int) = ((5 : Nat) : Int) from rfl, e5, bd_ret, ck_IR (by omega) (by omega), show (6 : Int) = ((6 : Nat) : Int) from rfl, e6, bd_ret, ck_IR (by omega) (by omega), show (7 : Int) = ((7 : Nat) : Int) from rfl, e7, bd_ret,
      ck_IR (by omega) (by omega), show (8 : Int) = ((8 : Nat) : Int) from rfl, e8, bd_ret, ck_IR (by omega) (by omega), show (9 : Int) = ((9 : Nat) : Int) from rfl, e9, bd_ret, ck_AL (by simp [opsAt_len]; omega) (by simp [opsAt_len]; omega), ck_IR (by omega) (by omega), opsAt_succ]
    rfl
theorem ref_Get_s (b : List UInt8) : (okBytes b → roundelayref13_Get_m b = some (getK b, 0)) ∧ (¬ okBytes b → roundelayref13_Get_m b = some (⟨0, 0, []⟩, 2)) := by
  constructor
  · rintro ⟨h1, h2, h3, h4⟩
    have hn : numAt b 2 = ((numAt b 2).toNat : Int) := by omega
    have := ref_ops b (numAt b 2).toNat (by omega) (by omega) (numAt b 2).toNat 0 (by omega)
    unfold roundelayref13_Get_m
    rw [br_F (by unfold ln; omega), at_s b 2 2 rfl (by omega) (by omega), bd_ret, ck_imp (fun _ => ⟨by omega, by omega⟩), ck_imp (fun _ => ⟨by omega, by omega⟩)]
    simp only [show ¬ numAt b 2 < 0 from by omega, show ¬ numAt b 2 > 16 from by omega, decide_false, Bool.or_self, show (ln b != 24 + 80 * numAt b 2) = false from by simp [ln, h4], br_false]
    rw [at_s b 0 0 rfl (by omega) (by omega), bd_ret, at_s b 1 1 rfl (by omega) (by omega), bd_ret]
    rw [← hn, show opsAt b 0 = [] from rfl] at this
    rw [show (0 : Int) = ((0 : Nat) : Int) from rfl, this]
    rfl
  · intro hn
    by_cases h1 : 24 ≤ b.length
    · unfold roundelayref13_Get_m
      rw [br_F (by unfold ln; omega), at_s b 2 2 rfl (by omega) (by omega), bd_ret]
      by_cases h2 : numAt b 2 < 0
      · simp [h2, ck]
      · by_cases h3 : numAt b 2 > 16
        · simp [h3, ck]
        · have h4 : ln b ≠ 24 + 80 * numAt b 2 := fun h4 => hn ⟨h1, by omega, by omega, by unfold ln at h4; omega⟩
          have h5 : (ln b != 24 + 80 * numAt b 2) = true := bne_iff_ne.2 h4
          rw [ck_imp (fun _ => ⟨by omega, by omega⟩), ck_imp (fun _ => ⟨by omega, by omega⟩)]
          simp only [show ¬ numAt b 2 < 0 from h2, show ¬ numAt b 2 > 16 from h3, decide_false, Bool.or_self, h5, Bool.false_or, br_true]
    · unfold roundelayref13_Get_m
      exact br_T (by unfold ln; omega)
end Go.Rd
