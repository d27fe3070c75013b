/- Lemmas for reckoning with plain models: checks that hold, branches that are known. -/
import Derived.Test.YtaimbkndebaaiaaDyn
import Derived.Test.YtaimbkndebaaiaaBytes
namespace Go.Rd
set_option linter.unusedVariables false
set_option linter.unusedSimpArgs false
theorem br_T {α : Type} {p : Prop} [Decidable p] {a b : α} (h : p) : br (decide p) a b = a := by rw [decide_eq_true h]; rfl
theorem br_F {α : Type} {p : Prop} [Decidable p] {a b : α} (h : ¬ p) : br (decide p) a b = b := by rw [decide_eq_false h]; rfl
theorem br_eq {α : Type} {c : Bool} {a b : α} : br c a b = if c = true then a else b := by cases c <;> rfl
theorem ck_IR {α : Type} {n : Int} {x : Option α} (h1 : -9223372036854775808 ≤ n) (h2 : n ≤ 9223372036854775807) : ck (IR n) x = x := ck_yes ⟨h1, h2⟩
theorem ck_IX {α : Type} {i n : Int} {x : Option α} (h1 : 0 ≤ i) (h2 : i < n) : ck (IX i n) x = x := ck_yes ⟨h1, h2⟩
theorem ck_SX {α : Type} {i j n : Int} {x : Option α} (h1 : 0 ≤ i) (h2 : i ≤ j) (h3 : j ≤ n) : ck (SX i j n) x = x := ck_yes ⟨h1, h2, h3⟩
theorem ck_AL {α : Type} {n b : Nat} {x : Option α} (h1 : n ≤ 9223372036854775807) (h2 : n * b ≤ 140737488355328) : ck (AL n b) x = x := ck_yes ⟨h1, h2⟩
theorem ck_SL {α : Type} {l : List UInt8} {x : Option α} (h1 : l.length ≤ 9223372036854775807) : ck (SL l) x = x := ck_yes h1
theorem ck_imp {α : Type} {c : Bool} {p : Prop} [Decidable p] {x : Option α} (h : c = true → p) : ck (c = true → p) x = x := ck_yes h
@[simp] theorem bd_some' {α β : Type} {x : α} {k : α → Option β} : bd (some x) k = k x := rfl
@[simp] theorem bdG_t {α β : Type} [Inhabited α] {m : Option α} {k : α → Option β} : bdG true m k = bd m k := rfl
@[simp] theorem bdG_f {α β : Type} [Inhabited α] {m : Option α} {k : α → Option β} : bdG false m k = k default := rfl
theorem ele_nat {α : Type} [Inhabited α] (xs : List α) (i : Nat) : ele xs (i : Int) = xs.getD i default := rfl
theorem ln_nonneg {α : Type} (xs : List α) : 0 ≤ ln xs := by unfold ln; omega
theorem wrapI {n : Int} (h1 : -9223372036854775808 ≤ n) (h2 : n ≤ 9223372036854775807) : IntKind.i64.wrap n = n := wrap_i64 h1 h2
/-- A loop whose runs are told by a function of the state. -/
theorem lp_step {γ ρ : Type} {f : γ → Option (Stp γ ρ)} {g g' : γ} {o : Out γ ρ} (h : f g = some (.next g')) (k : lp f g' = some o) : lp f g = some o := (lp_next h).trans k
theorem ele_all {α : Type} [Inhabited α] {p : α → Prop} {l : List α} (h : ∀ x ∈ l, p x) {i : Nat} (hi : i < l.length) : p (ele l i) := by
  have : ele l i = l[i] := by simp [Rd.ele, List.getD_eq_getElem?_getD, List.getElem?_eq_getElem hi]
  rw [this]; exact h _ (List.getElem_mem hi)
theorem bdG_some' {α : Type} (c b : Bool) (k : Bool → Option α) : bdG c (some b) k = k (if c = true then b else false) := by cases c <;> rfl
/-- A loop that looks whether all are so. -/
theorem lp_all {f : Int → Option (Stp Int Bool)} {n : Nat} {p : Nat → Prop} (step : ∀ i : Nat, i < n → (∀ j, j < i → p j) → (p i → f i = some (.next ((i : Int) + 1))) ∧ (¬ p i → f i = some (.ret false))) (hend : f n = some (.brk n)) :
    ((∀ i, i < n → p i) ∧ lp f 0 = some (.go (n : Int))) ∨ (¬ (∀ i, i < n → p i) ∧ lp f 0 = some (.ret false)) := by
  have key : ∀ (m i : Nat), i + m = n → (∀ j, j < i → p j) → ((∀ i, i < n → p i) ∧ lp f i = some (.go (n : Int))) ∨ (¬ (∀ i, i < n → p i) ∧ lp f i = some (.ret false)) := by
    intro m
    induction m with
    | zero =>
      intro i h hp
      have hi : i = n := by omega
      subst hi
      exact .inl ⟨hp, lp_brk hend⟩
    | succ m ih =>
      intro i h hp
      obtain ⟨h1, h2⟩ := step i (by omega) hp
      by_cases hpi : p i
      · have hs : ∀ j, j < i + 1 → p j := fun j hj => by
          rcases Nat.lt_or_ge j i with h | h
          · exact hp j h
          · have : j = i := by omega
            subst this; exact hpi
        rcases ih (i + 1) (by omega) hs with ⟨a, b⟩ | ⟨a, b⟩
        · exact .inl ⟨a, (lp_next (h1 hpi)).trans b⟩
        · exact .inr ⟨a, (lp_next (h1 hpi)).trans b⟩
      · exact .inr ⟨fun h => hpi (h i (by omega)), lp_ret (h2 hpi)⟩
  exact key n 0 (by omega) (fun j hj => absurd hj (Nat.not_lt_zero _))
theorem take_next {α : Type} [Inhabited α] {xs : List α} {i : Nat} (h : i < xs.length) : xs.take (i + 1) = xs.take i ++ [ele xs i] := by
  rw [List.take_add_one, List.getElem?_eq_getElem h, Option.toList_some]
  simp [ele, List.getD_eq_getElem?_getD, List.getElem?_eq_getElem h]
/-- A loop that appends one thing a round. -/
theorem lp_build {α ρ : Type} {f : List α × Int → Option (Stp (List α × Int) ρ)} {n : Nat} {h : Nat → α} (step : ∀ i : Nat, i < n → f ((List.range i).map h, (i : Int)) = some (.next ((List.range i).map h ++ [h i], (i : Int) + 1)))
    (hend : f ((List.range n).map h, (n : Int)) = some (.brk ((List.range n).map h, (n : Int)))) : lp f ([], 0) = some (.go ((List.range n).map h, (n : Int))) := by
  have key : ∀ m i : Nat, i + m = n → lp f ((List.range i).map h, (i : Int)) = some (.go ((List.range n).map h, (n : Int))) := by
    intro m
    induction m with
    | zero =>
      intro i hi
      have : i = n := by omega
      subst this
      exact lp_brk hend
    | succ m ih =>
      intro i hi
      refine lp_step (step i (by omega)) ?_
      have := ih (i + 1) (by omega)
      rw [List.range_succ, List.map_append] at this
      exact this
  exact key n 0 (by omega)
theorem range_map {α : Type} [Inhabited α] (l : List α) : (List.range l.length).map (fun i : Nat => ele l (i : Int)) = l := by
  apply List.ext_getElem?
  intro i
  by_cases h : i < l.length
  · simp [h, ele_nat, List.getD_eq_getElem?_getD]
  · simp [List.getElem?_eq_none (Nat.le_of_not_lt h), h]
theorem range_map' {α β : Type} [Inhabited α] (l : List α) (g : α → β) : (List.range l.length).map (fun i : Nat => g (ele l (i : Int))) = l.map g := by
  conv => rhs; rw [← range_map l]
  rw [List.map_map]
  rfl
end Go.Rd
