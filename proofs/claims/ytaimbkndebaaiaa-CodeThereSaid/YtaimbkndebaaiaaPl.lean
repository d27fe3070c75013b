/- Lemmas for reckoning with plain models: checks that hold, branches that are known. -/
import Derived.Test.YtaimbkndebaaiaaDyn
import Derived.Test.YtaimbkndebaaiaaBytes
namespace Go.Rd
set_option linter.unusedVariables false
set_option linter.unusedSimpArgs false
theorem br_T {α : Type} {p : Prop} [Decidable p] {a b : α} (h : p) : br (decide p) a b = a := by rw [decide_eq_true h]; rfl
theorem br_F {α : Type} {p : Prop} [Decidable p] {a b : α} (h : ¬ p) : br (decide p) a b = b := by rw [decide_eq_false h]; rfl
theorem br_eq {α : Type} {c : Bool} {a b : α} : br c a b = if c = true then a else b := by cases c <;> rfl
theorem ck_IR {α : Type} {n : Int} {x : Option α} (h1 : -9223372036854775808 ≤ n) (h2 : n ≤ 9223372036854775807) : ck (IR n) x = x := ck_yes ⟨h1, h2⟩
theorem ck_IX {α : Type} {i n : Int} {x : Option α} (h1 : 0 ≤ i) (h2 : i < n) : ck (IX i n) x = x := ck_yes ⟨h1, h2⟩
theorem ck_SX {α : Type} {i j n : Int} {x : Option α} (h1 : 0 ≤ i) (h2 : i ≤ j) (h3 : j ≤ n) : ck (SX i j n) x = x := ck_yes ⟨h1, h2, h3⟩
theorem ck_AL {α : Type} {n b : Nat} {x : Option α} (h1 : n ≤ 9223372036854775807) (h2 : n * b ≤ 140737488355328) : ck (AL n b) x = x := ck_yes ⟨h1, h2⟩
theorem ck_SL {α : Type} {l : List UInt8} {x : Option α} (h1 : l.length ≤ 9223372036854775807) : ck (SL l) x = x := ck_yes h1
theorem ck_imp {α : Type} {c : Bool} {p : Prop} [Decidable p] {x : Option α} (h : c = true → p) : ck (c = true → p) x = x := ck_yes h
@[simp] theorem bd_some' {α β : Type} {x : α} {k : α → Option β} : bd (some x) k = k x := rfl
@[simp] theorem bdG_t {α β : Type} [Inhabited α] {m : Option α} {k : α → Option β} : bdG true m k = bd m k := rfl
@[simp] theorem bdG_f {α β : Type} [Inhabited α] {m : Option α} {k : α → Option β} : bdG false m k = k default := rfl
theorem ele_nat {α : Type} [Inhabited α] (xs : List α) (i : Nat) : ele xs (i : Int) = xs.getD i default := rfl
theorem ln_nonneg {α : Type} (xs : List α) : 0 ≤ ln xs := by unfold ln; omega
theorem wrapI {n : Int} (h1 : -9223372036854775808 ≤ n) (h2 : n ≤ 9223372036854775807) : IntKind.i64.wrap n = n := wrap_i64 h1 h2
/-- A loop whose runs are told by a function of the state. -/
theorem lp_step {γ ρ : Type} {f : γ → Option (Stp γ ρ)} {g g' : γ} {o : Out γ ρ} (h : f g = some (.next g')) (k : lp f g' = some o) : lp f g = some o := (lp_next h).trans k
theorem take_next {α : Type} [Inhabited α] {xs : List α} {i : Nat} (h : i < xs.length) : xs.take (i + 1) = xs.take i ++ [ele xs i] := by
  rw [List.take_add_one, List.getElem?_eq_getElem h, Option.toList_some]
  simp [ele, List.getD_eq_getElem?_getD, List.getElem?_eq_getElem h]
end Go.Rd
