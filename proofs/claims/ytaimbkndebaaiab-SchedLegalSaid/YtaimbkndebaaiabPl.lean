/- Lemmas for reckoning with plain models: checks that hold, branches that are known. -/
import Derived.Test.YtaimbkndebaaiabDyn
import Derived.Test.YtaimbkndebaaiabBytes
namespace Go.Rd
set_option linter.unusedVariables false
set_option linter.unusedSimpArgs false
theorem br_T {α : Type} {p : Prop} [Decidable p] {a b : α} (h : p) : br (decide p) a b = a := by rw [decide_eq_true h]; rfl
theorem br_F {α : Type} {p : Prop} [Decidable p] {a b : α} (h : ¬ p) : br (decide p) a b = b := by rw [decide_eq_false h]; rfl
theorem br_eq {α : Type} {c : Bool} {a b : α} : br c a b = if c = true then a else b := by cases c <;> rfl
theorem ck_IR {α : Type} {n : Int} {x : Option α} (h1 : -9223372036854775808 ≤ n) (h2 : n ≤ 9223372036854775807) : ck (IR n) x = x := ck_yes ⟨h1, h2⟩
theorem ck_IX {α : Type} {i n : Int} {x : Option α} (h1 : 0 ≤ i) (h2 : i < n) : ck (IX i n) x = x := ck_yes ⟨h1, h2⟩
theorem ck_SX {α : Type} {i j n : Int} {x : Option α} (h1 : 0 ≤ i) (h2 : i ≤ j) (h3 : j ≤ n) : ck (SX i j n) x = x := ck_yes ⟨h1, h2, h3⟩
theorem ck_AL {α : Type} {n b : Nat} {x : Option α} (h1 : n ≤ 9223372036854775807) (h2 : n * b ≤ 140737488355328) : ck (AL n b) x = x := ck_yes ⟨h1, h2⟩
theorem ck_SL {α : Type} {l : List UInt8} {x : Option α} (h1 : l.length ≤ 9223372036854775807) : ck (SL l) x = x := ck_yes h1
theorem ck_imp {α : Type} {c : Bool} {p : Prop} [Decidable p] {x : Option α} (h : c = true → p) : ck (c = true → p) x = x := ck_yes h
@[simp] theorem bd_some' {α β : Type} {x : α} {k : α → Option β} : bd (some x) k = k x := rfl
@[simp] theorem bdG_t {α β : Type} [Inhabited α] {m : Option α} {k : α → Option β} : bdG true m k = bd m k := rfl
@[simp] theorem bdG_f {α β : Type} [Inhabited α] {m : Option α} {k : α → Option β} : bdG false m k = k default := rfl
theorem ele_nat {α : Type} [Inhabited α] (xs : List α) (i : Nat) : ele xs (i : Int) = xs.getD i default := rfl
theorem ln_nonneg {α : Type} (xs : List α) : 0 ≤ ln xs := by unfold ln; omega
theorem wrapI {n : Int} (h1 : -9223372036854775808 ≤ n) (h2 : n ≤ 9223372036854775807) : IntKind.i64.wrap n = n := wrap_i64 h1 h2
/-- A loop whose runs are told by a function of the state. -/
theorem lp_step {γ ρ : Type} {f : γ → Option (Stp γ ρ)} {g g' : γ} {o : Out γ ρ} (h : f g = some (.next g')) (k : lp f g' = some o) : lp f g = some o := (lp_next h).trans k
theorem ele_all {α : Type} [Inhabited α] {p : α → Prop} {l : List α} (h : ∀ x ∈ l, p x) {i : Nat} (hi : i < l.length) : p (ele l i) := by
  have : ele l i = l[i] := by simp [Rd.ele, List.getD_eq_getElem?_getD, List.getElem?_eq_getElem hi]
  rw [this]; exact h _ (List.getElem_mem hi)
theorem bdG_some' {α : Type} (c b : Bool) (k : Bool → Option α) : bdG c (some b) k = k (if c = true then b else false) := by cases c <;> rfl
/-- A loop that looks whether all are so. -/
theorem lp_all {f : Int → Option (Stp Int Bool)} {n : Nat} {p : Nat → Prop} (step : ∀ i : Nat, i < n → (∀ j, j < i → p j) → (p i → f i = some (.next ((i : Int) + 1))) ∧ (¬ p i → f i = some (.ret false))) (hend : f n = some (.brk n)) :
    ((∀ i, i < n → p i) ∧ lp f 0 = some (.go (n : Int))) ∨ (¬ (∀ i, i < n → p i) ∧ lp f 0 = some (.ret false)) := by
  have key : ∀ (m i : Nat), i + m = n → (∀ j, j < i → p j) → ((∀ i, i < n → p i) ∧ lp f i = some (.go (n : Int))) ∨ (¬ (∀ i, i < n → p i) ∧ lp f i = some (.ret false)) := by
    intro m
    induction m with
    | zero =>
      intro i h hp
      have hi : i = n := by omega
      subst hi
      exact .inl ⟨hp, lp_brk hend⟩
    | succ m ih =>
      intro i h hp
      obtain ⟨h1, h2⟩ := step i (by omega) hp
      by_cases hpi : p i
      · have hs : ∀ j, j < i + 1 → p j := fun j hj => by
          rcases Nat.lt_or_ge j i with h | h
          · exact hp j h
          · have : j = i := by omega
            subst this; exact hpi
        rcases ih (i + 1) (by omega) hs with ⟨a, b⟩ | ⟨a, b⟩
        · exact .inl ⟨a, (lp_next (h1 hpi)).trans b⟩
        · exact .inr ⟨a, (lp_next (h1 hpi)).trans b⟩
      · exact .inr ⟨fun h => hpi (h i (by omega)), lp_ret (h2 hpi)⟩
  exact key n 0 (by omega) (fun j hj => absurd hj (Nat.not_lt_zero _))
theorem take_next {α : Type} [Inhabited α] {xs : List α} {i : Nat} (h : i < xs.length) : xs.take (i + 1) = xs.take i ++ [ele xs i] := by
  rw [List.take_add_one, List.getElem?_eq_getElem h, Option.toList_some]
  simp [ele, List.getD_eq_getElem?_getD, List.getElem?_eq_getElem h]
/-- A loop that appends one thing a round. -/
theorem lp_build {α ρ : Type} {f : List α × Int → Option (Stp (List α × Int) ρ)} {n : Nat} {h : Nat → α} (step : ∀ i : Nat, i < n → f ((List.range i).map h, (i : Int)) = some (.next ((List.range i).map h ++ [h i], (i : Int) + 1)))
    (hend : f ((List.range n).map h, (n : Int)) = some (.brk ((List.range n).map h, (n : Int)))) : lp f ([], 0) = some (.go ((List.range n).map h, (n : Int))) := by
  have key : ∀ m i : Nat, i + m = n → lp f ((List.range i).map h, (i : Int)) = some (.go ((List.range n).map h, (n : Int))) := by
    intro m
    induction m with
    | zero =>
      intro i hi
      have : i = n := by omega
      subst this
      exact lp_brk hend
    | succ m ih =>
      intro i hi
      refine lp_step (step i (by omega)) ?_
      have := ih (i + 1) (by omega)
      rw [List.range_succ, List.map_append] at this
      exact this
  exact key n 0 (by omega)
theorem range_map {α : Type} [Inhabited α] (l : List α) : (List.range l.length).map (fun i : Nat => ele l (i : Int)) = l := by
  apply List.ext_getElem?
  intro i
  by_cases h : i < l.length
  · simp [h, ele_nat, List.getD_eq_getElem?_getD]
  · simp [List.getElem?_eq_none (Nat.le_of_not_lt h), h]
theorem range_map' {α β : Type} [Inhabited α] (l : List α) (g : α → β) : (List.range l.length).map (fun i : Nat => g (ele l (i : Int))) = l.map g := by
  conv => rhs; rw [← range_map l]
  rw [List.map_map]
  rfl
/-- A loop that looks for the first that is not so. -/
theorem lp_scan {ρ : Type} {f : Int → Option (Stp Int ρ)} {n : Nat} {p : Nat → Prop} (q : Nat → ρ) : ∀ (m s : Nat), s + m = n → (step : ∀ i : Nat, s ≤ i → i < n → (p i → f i = some (.next ((i : Int) + 1))) ∧ (¬ p i → f i = some (.ret (q i)))) → (hend : f n = some (.brk n)) →
    ((∀ i, s ≤ i → i < n → p i) ∧ lp f s = some (.go (n : Int))) ∨ (∃ i, s ≤ i ∧ i < n ∧ ¬ p i ∧ (∀ j, s ≤ j → j < i → p j) ∧ lp f s = some (.ret (q i)))
  | 0, s, h, step, hend => by
    have : s = n := by omega
    subst this
    exact .inl ⟨fun i h1 h2 => by omega, lp_brk hend⟩
  | m + 1, s, h, step, hend => by
    obtain ⟨h1, h2⟩ := step s (Nat.le_refl _) (by omega)
    by_cases hp : p s
    · rcases lp_scan q m (s + 1) (by omega) (fun i a b => step i (by omega) b) hend with ⟨a, b⟩ | ⟨i, a, b, c, d, e⟩
      · refine .inl ⟨fun i h3 h4 => ?_, (lp_next (h1 hp)).trans b⟩
        by_cases e : i = s
        · subst e; exact hp
        · exact a i (by omega) h4
      · refine .inr ⟨i, by omega, b, c, fun j h3 h4 => ?_, (lp_next (h1 hp)).trans e⟩
        by_cases e : j = s
        · subst e; exact hp
        · exact d j (by omega) h4
    · exact .inr ⟨s, Nat.le_refl _, by omega, hp, fun j h3 h4 => by omega, lp_ret (h2 hp)⟩
/-- A loop over places with a state of which something is kept. -/
theorem lp_inv {α ρ : Type} {f : α × Int → Option (Stp (α × Int) ρ)} {n : Nat} (Inv : Nat → α → Prop) (step : ∀ (i : Nat) g, i < n → Inv i g → ∃ g', f (g, (i : Int)) = some (.next (g', (i : Int) + 1)) ∧ Inv (i + 1) g') (hend : ∀ g, f (g, (n : Int)) = some (.brk (g, (n : Int)))) (g0 : α) (h0 : Inv 0 g0) :
    ∃ g, lp f (g0, 0) = some (.go (g, (n : Int))) ∧ Inv n g := by
  have key : ∀ m i : Nat, i + m = n → ∀ g, Inv i g → ∃ g', lp f (g, (i : Int)) = some (.go (g', (n : Int))) ∧ Inv n g' := by
    intro m
    induction m with
    | zero =>
      intro i hi g hg
      have : i = n := by omega
      subst this
      exact ⟨g, lp_brk (hend g), hg⟩
    | succ m ih =>
      intro i hi g hg
      obtain ⟨g', h1, h2⟩ := step i g (by omega) hg
      obtain ⟨g2, h3, h4⟩ := ih (i + 1) (by omega) g' h2
      exact ⟨g2, lp_step h1 h3, h4⟩
  exact key n 0 (by omega) g0 h0
theorem br_go {α ρ : Type} {c : Bool} {a b : α} : br c (some (Out.go a : Out α ρ)) (some (Out.go b)) = some (.go (if c = true then a else b)) := by cases c <;> rfl
theorem ele_mem' {α : Type} [Inhabited α] {l : List α} {i : Nat} (h : i < l.length) : ele l (i : Int) ∈ l := by
  rw [ele_nat, List.getD_eq_getElem?_getD, List.getElem?_eq_getElem h]; exact List.getElem_mem h
theorem mem_ele {α : Type} [Inhabited α] {l : List α} {x : α} (h : x ∈ l) : ∃ i : Nat, i < l.length ∧ ele l (i : Int) = x := by
  obtain ⟨i, hi, rfl⟩ := List.getElem_of_mem h
  exact ⟨i, hi, by rw [ele_nat, List.getD_eq_getElem?_getD, List.getElem?_eq_getElem hi]; rfl⟩
theorem upd_upd {α : Type} (l : List α) (i : Int) (a b : α) : upd (upd l i a) i b = upd l i b := by unfold upd; rw [List.set_set]
theorem ele_upd {α : Type} [Inhabited α] {l : List α} {i : Int} {a : α} (h : IX i (ln l)) : ele (upd l i a) i = a := by
  have : i.toNat < l.length := by have := h.1; have := h.2; unfold ln at this; omega
  unfold ele upd
  rw [List.getD_eq_getElem?_getD, List.getElem?_set]
  simp [this]
theorem ele_upd_ne {α : Type} [Inhabited α] {l : List α} {i j : Int} {a : α} (h : i.toNat ≠ j.toNat) : ele (upd l i a) j = ele l j := by
  unfold ele upd
  rw [List.getD_eq_getElem?_getD, List.getElem?_set, if_neg h, ← List.getD_eq_getElem?_getD]
/-- A loop over places with a state of which something is kept, that ends early at the first place that is not so. -/
theorem lp_chk {α ρ : Type} {f : α × Int → Option (Stp (α × Int) ρ)} {n : Nat} {r0 : ρ} (p : Nat → Prop) (Inv : Nat → α → Prop) (step : ∀ (i : Nat) g, i < n → Inv i g → (p i ∧ ∃ g', f (g, (i : Int)) = some (.next (g', (i : Int) + 1)) ∧ Inv (i + 1) g') ∨ (¬ p i ∧ f (g, (i : Int)) = some (.ret r0)))
    (hend : ∀ g, f (g, (n : Int)) = some (.brk (g, (n : Int)))) (g0 : α) (h0 : Inv 0 g0) : ((∀ i, i < n → p i) ∧ ∃ g, lp f (g0, 0) = some (.go (g, (n : Int))) ∧ Inv n g) ∨ (¬ (∀ i, i < n → p i) ∧ lp f (g0, 0) = some (.ret r0)) := by
  have key : ∀ m i : Nat, i + m = n → (∀ j, j < i → p j) → ∀ g, Inv i g → ((∀ i, i < n → p i) ∧ ∃ g', lp f (g, (i : Int)) = some (.go (g', (n : Int))) ∧ Inv n g') ∨ (¬ (∀ i, i < n → p i) ∧ lp f (g, (i : Int)) = some (.ret r0)) := by
    intro m
    induction m with
    | zero =>
      intro i hi hp g hg
      have : i = n := by omega
      subst this
      exact .inl ⟨hp, g, lp_brk (hend g), hg⟩
    | succ m ih =>
      intro i hi hp g hg
      rcases step i g (by omega) hg with ⟨h1, g', h2, h3⟩ | ⟨h1, h2⟩
      · have hp' : ∀ j, j < i + 1 → p j := fun j hj => by
          by_cases e : j = i
          · subst e; exact h1
          · exact hp j (by omega)
        rcases ih (i + 1) (by omega) hp' g' h3 with ⟨a, g2, b, c⟩ | ⟨a, b⟩
        · exact .inl ⟨a, g2, (lp_next h2).trans b, c⟩
        · exact .inr ⟨a, (lp_next h2).trans b⟩
      · exact .inr ⟨fun h => h1 (h i (by omega)), lp_ret h2⟩
  exact key n 0 (by omega) (fun j hj => absurd hj (Nat.not_lt_zero _)) g0 h0
end Go.Rd
