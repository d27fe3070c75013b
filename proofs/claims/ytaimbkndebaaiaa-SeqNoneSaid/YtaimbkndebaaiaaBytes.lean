/- Numbers as eight bytes, the great one first. -/
import Derived.Test.YtaimbkndebaaiaaStr
import Derived.Test.YtaimbkndebaaiaaNum
import Derived.Test.YtaimbkndebaaiaaDyn
namespace Go.Rd
set_option linter.unusedVariables false
set_option linter.unusedSimpArgs false

/-- The byte that stands s bits up. -/
def bytU (n : Int) (s : Nat) : UInt8 := UInt8.ofNat ((n / 2 ^ s) % 256).toNat
theorem bytU_nat' (n : Int) (s : Nat) : ((bytU n s).toNat : Int) = (n / 2 ^ s) % 256 := by
  have h1 : 0 ≤ (n / 2 ^ s) % 256 := Int.emod_nonneg _ (by decide)
  have h2 : (n / 2 ^ s) % 256 < 256 := Int.emod_lt_of_pos _ (by decide)
  unfold bytU
  simp only [UInt8.toNat_ofNat']
  omega
theorem wrap_u8 (n : Int) : IntKind.u8.wrap n = n % 256 := by
  unfold IntKind.wrap
  simp [IntKind.signed, IntKind.bits]
theorem byte_shr (n : Int) (s : Nat) (hs : s ≤ 64) : IntKind.u8.wrap (n.fdiv (2 ^ (min s 64))) = ((bytU n s).toNat : Int) := by
  rw [wrap_u8, bytU_nat', Nat.min_eq_left hs, Int.fdiv_eq_ediv_of_nonneg _ (Int.le_of_lt (Int.pow_pos (by decide)))]
/-- The eight bytes, from k on. -/
def beFrom (n : Int) : Nat → List UInt8
  | 0 => []
  | k + 1 => bytU n (8 * k) :: beFrom n k
def be8 (n : Int) : List UInt8 := beFrom n 8
theorem beFrom_len (n : Int) : ∀ k, (beFrom n k).length = k
  | 0 => rfl
  | k + 1 => by simp [beFrom, beFrom_len n k]
theorem be8_len (n : Int) : (be8 n).length = 8 := beFrom_len n 8
/-- The bytes of a row of numbers. -/
def beL (ns : List Int) : List UInt8 := ns.flatMap be8
theorem beL_len (ns : List Int) : (beL ns).length = 8 * ns.length := by
  unfold beL
  induction ns with
  | nil => rfl
  | cons n ns ih => rw [List.flatMap_cons, List.length_append, be8_len, ih, List.length_cons]; omega
theorem beL_snoc (ns : List Int) (n : Int) : beL (ns ++ [n]) = beL ns ++ be8 n := by simp [beL]
theorem byte_cell (n : Int) (j : Nat) (hj : j ≤ 7) : Value.int .u8 (IntKind.u8.wrap (n.fdiv (2 ^ (min (8 * (j : Int)).toNat IntKind.i64.bits)))) = .int .u8 ((bytU n (8 * j)).toNat : Int) := by
  have e : (8 * (j : Int)).toNat = 8 * j := by omega
  rw [e, show IntKind.i64.bits = 64 from rfl, byte_shr n _ (by omega)]
theorem byte_cellT (n t : Int) (j : Nat) (ht : t = 8 * (j : Int)) (hj : j ≤ 7) : Value.int .u8 (IntKind.u8.wrap (n.fdiv (2 ^ (min t.toNat IntKind.i64.bits)))) = .int .u8 ((bytU n (8 * j)).toNat : Int) := by
  subst ht; exact byte_cell n j hj
theorem beL_take {xs : List Int} {i : Nat} (h : i < xs.length) : beL (xs.take (i + 1)) = beL (xs.take i) ++ be8 (xs.getD i 0) := by
  rw [List.take_add_one, List.getElem?_eq_getElem h, Option.toList_some, beL_snoc, List.getD_eq_getElem?_getD, List.getElem?_eq_getElem h]
  rfl
theorem beFrom_get (n : Int) : ∀ (k i : Nat), i < k → (beFrom n k).getD i 0 = bytU n (8 * (k - 1 - i))
  | k + 1, 0, _ => by simp [beFrom]
  | k + 1, i + 1, h => by
    have := beFrom_get n k i (by omega)
    rw [show k + 1 - 1 - (i + 1) = k - 1 - i from by omega, ← this]
    simp [beFrom]
theorem be8_of {n : Int} {L : List UInt8} (hl : L.length = 8) (h : ∀ j : Nat, j < 8 → L.getD (7 - j) 0 = bytU n (8 * j)) : L = be8 n := by
  apply List.ext_getElem?
  intro i
  by_cases hi : i < 8
  · have h1 := h (7 - i) (by omega)
    have h2 := beFrom_get n 8 i hi
    rw [show 7 - (7 - i) = i from by omega] at h1
    rw [show 8 - 1 - i = 7 - i from by omega] at h2
    have h3 : i < (be8 n).length := by rw [be8_len]; exact hi
    rw [List.getElem?_eq_getElem (by omega), List.getElem?_eq_getElem h3]
    rw [List.getD_eq_getElem?_getD, List.getElem?_eq_getElem (by omega)] at h1
    unfold be8 at h3 ⊢
    rw [List.getD_eq_getElem?_getD, List.getElem?_eq_getElem h3] at h2
    simp only [Option.getD_some] at h1 h2
    rw [h1, h2]
  · rw [List.getElem?_eq_none (by omega), List.getElem?_eq_none (by rw [be8_len]; omega)]
theorem bytU_nat (n : Int) (m : Nat) : ((bytU n (8 * m)).toNat : Int) = (n / 2 ^ (8 * m)) % 256 := bytU_nat' n (8 * m)
theorem tmod256 (a : Int) : Int.tmod a 256 = a % 256 ∨ (Int.tmod a 256 < 0 ∧ Int.tmod a 256 + 256 = a % 256) := by
  have := tmod_fix (a := a) (b := 256) (by decide)
  split at this <;> omega
theorem next256 (n : Int) (m : Nat) : n / 2 ^ (8 * (m + 1)) = (n / 2 ^ (8 * m) - n / 2 ^ (8 * m) % 256) / 256 := by
  rw [show 8 * (m + 1) = 8 * m + 8 from by omega, Int.pow_add, ← Int.ediv_ediv_of_nonneg (Int.pow_nonneg (by omega))]
  omega
end Go.Rd
