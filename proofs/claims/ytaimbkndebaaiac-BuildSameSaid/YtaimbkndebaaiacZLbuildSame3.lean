/- Texts for the law, 3. -/
import Derived.Test.YtaimbkndebaaiacZLbuildSame2
set_option linter.unusedVariables false
set_option linter.unusedSimpArgs false
set_option maxRecDepth 8000
section
namespace Go.Rd
def keyK (l : Lp) (p : Pln) (i : Nat) : Int × Int := (Int.tmod (ele p.times (i : Int)) p.pace, clsV (ele l.body (i : Int)).op)
def cntK (l : Lp) (p : Pln) (k : Nat) (κ : Int × Int) : Nat := (List.range k).countP fun j => decide (keyK l p j = κ)
def unitsV (t : Tgt) (c : Int) : Int := sel3 t.u0 t.u1 t.u2 c
theorem cntK_succ (l : Lp) (p : Pln) (k : Nat) (κ : Int × Int) : cntK l p (k + 1) κ = cntK l p k κ + if keyK l p k = κ then 1 else 0 := by
 unfold cntK
 rw [List.range_succ, List.countP_append, List.countP_singleton]
 by_cases h : keyK l p k = κ <;> simp [h]
theorem cntK_mono (l : Lp) (p : Pln) {κ : Int × Int} {i j : Nat} (h : i ≤ j) : cntK l p i κ ≤ cntK l p j κ := by
  induction j with
  | zero => have : i = 0 := by omega
            subst this; exact Nat.le_refl _
  | succ j ih =>
    by_cases e : i = j + 1
    · subst e; exact Nat.le_refl _
    · rw [cntK_succ]; have := ih (by omega); omega
theorem cntK_le (l : Lp) (p : Pln) (κ : Int × Int) : ∀ k, cntK l p k κ ≤ k
 | 0 => Nat.le_refl _
 | k + 1 => by rw [cntK_succ]; have := cntK_le l p κ k; split <;> omega
theorem units_bd {t : Tgt} (ht : tgtOk t = true) (c : Int) : 1 ≤ unitsV t c ∧ unitsV t c ≤ 4 := by
 rw [tgtOk_iff] at ht
 exact sel3_bd ⟨ht.1.1, ht.1.2.1⟩ ⟨ht.2.1.1, ht.2.1.2.1⟩ ⟨ht.2.2.1.1, ht.2.2.1.2.1⟩
theorem cnt_all {l : Lp} {p : Pln} {t : Tgt} (ht : tgtOk t = true) {n : Nat} : (∀ k, k < n → (cntK l p (k + 1) (keyK l p k) : Int) ≤ unitsV t (keyK l p k).2) ↔ (∀ i, i < n → (cntK l p n (keyK l p i) : Int) ≤ unitsV t (keyK l p i).2) := by
 constructor
 ·intro h
  have key : ∀ k, k ≤ n → ∀ κ, (cntK l p k κ : Int) ≤ unitsV t κ.2 := by
   intro k
   induction k with
   | zero => intro _ κ; have := (units_bd ht κ.2).1; show ((0 : Nat) : Int) ≤ _; omega
   | succ k ih =>
    intro hk κ
    by_cases e : keyK l p k = κ
    ·have := h k (by omega); rw [e] at this; exact this
    ·rw [cntK_succ, if_neg e]; exact ih (by omega) κ
  exact fun i _ => key n (Nat.le_refl _) _
 ·intro h k hk
  have := h k hk
  have := cntK_mono l p (κ := keyK l p k) (show k + 1 ≤ n from hk)
  omega
def RngP (p : Pln) (i : Nat) : Prop := 0 ≤ ele p.times (i : Int) ∧ ele p.times (i : Int) ≤ 1000
def EdgOk (p : Pln) (e : Edg) : Prop := ele p.times e.fr + e.wt ≤ ele p.times e.to + e.bk * p.pace
structure LegalP (l : Lp) (t : Tgt) (p : Pln) : Prop where
 loop : LoopOk l
 tgt : tgtOk t = true
 pace : 1 ≤ p.pace ∧ p.pace ≤ 200
 len : p.times.length = l.body.length
 rng : ∀ i, i < l.body.length → RngP p i
 units : ∀ i, i < l.body.length → (cntK l p l.body.length (keyK l p i) : Int) ≤ unitsV t (keyK l p i).2
 edge : ∀ e, EdgeP l t e → EdgOk p e
def FitP (l : Lp) (t : Tgt) (p : Pln) : Prop := ((∀ i, i < l.body.length → RngP p i) ∧ (∀ i, i < l.body.length → (cntK l p l.body.length (keyK l p i) : Int) ≤ unitsV t (keyK l p i).2)) ∧ ∀ e, EdgeP l t e → EdgOk p e
theorem edge_range {l : Lp} {p : Pln} (hl : LoopOk l) (hp : 1 ≤ p.pace ∧ p.pace ≤ 200) (hlen : p.times.length = l.body.length) (hr : ∀ i, i < l.body.length → RngP p i) {t : Tgt} {e : Edg} (he : EdgeP l t e) :
  IX e.to (ln p.times) ∧ IX e.fr (ln p.times) ∧ (0 ≤ e.bk * p.pace ∧ e.bk * p.pace ≤ 6400) ∧ (0 ≤ ele p.times e.to ∧ ele p.times e.to ≤ 1000) ∧ (0 ≤ ele p.times e.fr ∧ ele p.times e.fr ≤ 1000) ∧ (0 ≤ e.wt ∧ e.wt ≤ 6) := by
 obtain ⟨a1, a2, a3, a4, _⟩ := he.in hl
 have m1 := mul_le (a := e.bk) (A := 32) (b := p.pace) (B := 200) (by omega) (by omega) (by omega) (by omega)
 have m2 : 0 ≤ e.bk * p.pace := Int.mul_nonneg a3.1 (by omega)
 have q1 := hr e.to.toNat (by omega)
 have q2 := hr e.fr.toNat (by omega)
 unfold RngP at q1 q2
 rw [show ((e.to.toNat : Nat) : Int) = e.to from by omega] at q1
 rw [show ((e.fr.toNat : Nat) : Int) = e.fr from by omega] at q2
 exact ⟨⟨a2.1, by unfold ln; omega⟩, ⟨a1.1, by unfold ln; omega⟩, ⟨m2, by omega⟩, q1, q2, a4⟩
theorem all_edges {l : Lp} {t : Tgt} {E : List Edg} (hE : ∀ e, e ∈ E ↔ EdgeP l t e) {q : Edg → Prop} : (∀ i : Nat, i < E.length → q (ele E (i : Int))) ↔ ∀ e, EdgeP l t e → q e := by
 constructor
 ·intro h e he
  obtain ⟨i, hi, rfl⟩ := mem_ele ((hE e).2 he)
  exact h i hi
 ·exact fun h i hi => h _ ((hE _).1 (ele_mem' hi))
theorem fits_s {l : Lp} {t : Tgt} {p : Pln} (hl : LoopOk l) (ht : tgtOk t = true) (hp : 1 ≤ p.pace ∧ p.pace ≤ 200) (hlen : p.times.length = l.body.length) {E : List Edg} (hE : ∀ e, e ∈ E ↔ EdgeP l t e) (hEl : E.length ≤ 60000) : sched_fits_m l t p E = some (tb (FitP l t p)) := by
 have hn16 := hl.2.2.1
 unfold sched_fits_m
 rcases lp_chk (f := sched_fits_L0 l t p) (n := p.times.length) (r0 := false) (fun i => RngP p i ∧ (cntK l p (i + 1) (keyK l p i) : Int) ≤ unitsV t (keyK l p i).2) (fun k m => ∀ κ, mget m κ 0 = (cntK l p k κ : Int)) (fun i m hi hm => by
   have hc := clsV_range (ele l.body (i : Int)).op
   have hcl := cntK_le l p (keyK l p i) i
   have hmg : mget m (keyK l p i) 0 = (cntK l p i (keyK l p i) : Int) := hm _
   have hk : keyK l p i = (Int.tmod (ele p.times (i : Int)) p.pace, clsV (ele l.body (i : Int)).op) := rfl
   have hnew : mget (mput m (keyK l p i) (mget m (keyK l p i) 0 + 1)) (keyK l p i) 0 = (cntK l p (i + 1) (keyK l p i) : Int) := by rw [mget_mput, if_pos rfl, hmg, cntK_succ, if_pos rfl]; rfl
   have e : sched_fits_L0 l t p (m, (i : Int)) = br (!tb (RngP p i)) (some (.ret false)) (br (decide ((cntK l p (i + 1) (keyK l p i) : Int) > unitsV t (keyK l p i).2)) (some (.ret false)) (some (.next (mput m (keyK l p i) (mget m (keyK l p i) 0 + 1), (i : Int) + 1)))) := by
    unfold sched_fits_L0
    simp only
    rw [br_T (by unfold ln; omega), ck_IX (by omega) (by unfold ln; omega)]
    have hb : (decide (ele p.times (i : Int) < 0) || decide (ele p.times (i : Int) > 1000)) = !tb (RngP p i) := by
     have : (!(decide (ele p.times (i : Int) < 0) || decide (ele p.times (i : Int) > 1000))) = tb (RngP p i) := tb_eq (by unfold RngP; simp)
     rw [← this, Bool.not_not]
    rw [hb, ck_yes (by omega), ck_IX (by omega) (by unfold ln; omega), num_Class_s, bd_ret, ← hk, ck_IR (by omega) (by omega), ck_IX hc.1 hc.2, hnew, ck_IR (by omega) (by omega)]
    rfl
   rw [e]
   by_cases h1 : RngP p i
   ·rw [tb_t h1, Bool.not_true, br_false]
    by_cases h2 : (cntK l p (i + 1) (keyK l p i) : Int) > unitsV t (keyK l p i).2
    ·rw [br_T h2]; exact .inr ⟨fun h => by omega, rfl⟩
    ·rw [br_F h2]
     refine .inl ⟨⟨h1, by omega⟩, _, rfl, fun κ => ?_⟩
     rw [mget_mput, cntK_succ]
     by_cases hq : keyK l p i = κ
     ·rw [if_pos hq, if_pos hq, hmg, hq]; rfl
     ·rw [if_neg hq, if_neg hq, hm]; rfl
   ·rw [tb_f h1]; exact .inr ⟨fun h => h1 h.1, rfl⟩) (fun g => by unfold sched_fits_L0; exact br_F (by unfold ln; omega)) [] (fun κ => rfl) with ⟨h1, m, e1, _⟩ | ⟨h1, e1⟩
 ·rw [e1, bd_ret, Out.on_go]
  simp only
  have hrng : ∀ i, i < l.body.length → RngP p i := fun i hi => (h1 i (by omega)).1
  have hcnt := (cnt_all (l := l) (p := p) ht (n := l.body.length)).1 fun i hi => (h1 i (by omega)).2
  rcases lp_all (f := sched_fits_L2 p E) (n := E.length) (p := fun i => EdgOk p (ele E (i : Int))) (fun i hi _ => by
    obtain ⟨x1, x2, x3, x4, x5, x6⟩ := edge_range hl hp hlen hrng ((hE _).1 (ele_mem' hi))
    have e : sched_fits_L2 p E i = br (!tb (EdgOk p (ele E (i : Int)))) (some (.ret false)) (some (.next ((i : Int) + 1))) := by
     unfold sched_fits_L2
     rw [br_T (by unfold ln; omega), ck_IX (by omega) (by unfold ln; omega), ck_yes x1, ck_IR (by omega) (by omega), ck_IR (by omega) (by omega), ck_yes x2, ck_IR (by omega) (by omega), ck_IR (by omega) (by omega)]
     congr 1
     have : (!decide (ele p.times (ele E (i : Int)).to + (ele E (i : Int)).bk * p.pace < ele p.times (ele E (i : Int)).fr + (ele E (i : Int)).wt)) = tb (EdgOk p (ele E (i : Int))) := tb_eq (by unfold EdgOk; simp)
     rw [← this, Bool.not_not]
    rw [e]
    exact ⟨fun h => by rw [tb_t h]; rfl, fun h => by rw [tb_f h]; rfl⟩) (by unfold sched_fits_L2; exact br_F (by unfold ln; omega)) with ⟨h2, e2⟩ | ⟨h2, e2⟩
  ·rw [e2, bd_ret, Out.on_go, tb_t ⟨⟨hrng, hcnt⟩, (all_edges hE).1 h2⟩]
  ·rw [e2, bd_ret, Out.on_ret, tb_f fun h => h2 ((all_edges hE).2 h.2)]
 ·rw [e1, bd_ret, Out.on_ret, tb_f fun h => h1 fun i hi => ⟨h.1.1 i (by omega), (cnt_all ht).2 h.1.2 i (by omega)⟩]
theorem legal_iff {l : Lp} {t : Tgt} {p : Pln} : LegalP l t p ↔ (LoopOk l ∧ tgtOk t = true) ∧ (1 ≤ p.pace ∧ p.pace ≤ 200) ∧ p.times.length = l.body.length ∧ FitP l t p :=
 ⟨fun h => ⟨⟨h.loop, h.tgt⟩, h.pace, h.len, ⟨h.rng, h.units⟩, h.edge⟩, fun ⟨h1, h2, h3, h4⟩ => ⟨h1.1, h1.2, h2, h3, h4.1.1, h4.1.2, h4.2⟩⟩
theorem Legal_s {l : Lp} (hf : l.Fine) (t : Tgt) (p : Pln) : sched_Legal_m l t p = some (tb (LegalP l t p)) := by
 unfold sched_Legal_m
 by_cases h : LoopOk l ∧ tgtOk t = true
 ·obtain ⟨E, e1, e2, e3, e4, e5⟩ := edges_both h.1 hf h.2
  rw [e1, bd_ret]
  simp only
  by_cases h2 : (1 ≤ p.pace ∧ p.pace ≤ 200) ∧ p.times.length = l.body.length
  ·have hc : ((((0 : Int) == 0) && (decide (p.pace ≥ 1))) && (decide (p.pace ≤ 200)) && ((ln p.times) == (ln l.body))) = true := by
    unfold ln
    simp only [Bool.and_eq_true, decide_eq_true_eq, beq_iff_eq]
    exact ⟨⟨⟨trivial, by omega⟩, by omega⟩, by omega⟩
   rw [hc, fits_s h.1 h.2 h2.1 h2.2 e4 e5, bdG_t, bd_ret, Bool.true_and]
   congr 1
   exact tb_congr ⟨fun hh => legal_iff.2 ⟨h, h2.1, h2.2, hh⟩, fun hh => (legal_iff.1 hh).2.2.2⟩
  ·have hc : ((((0 : Int) == 0) && (decide (p.pace ≥ 1))) && (decide (p.pace ≤ 200)) && ((ln p.times) == (ln l.body))) = false := by
    cases hq : ((((0 : Int) == 0) && (decide (p.pace ≥ 1))) && (decide (p.pace ≤ 200)) && ((ln p.times) == (ln l.body))) with
    | false => rfl
    | true =>
     unfold ln at hq
     simp only [Bool.and_eq_true, decide_eq_true_eq, beq_iff_eq] at hq
     exact absurd ⟨⟨by omega, by omega⟩, by omega⟩ h2
   rw [hc, bdG_f, Bool.false_and, tb_f fun hh => h2 ⟨hh.pace, hh.len⟩]
 ·rw [Edges_bad hf h, bd_ret, tb_f fun hh => h ⟨hh.loop, hh.tgt⟩]
  rfl
theorem lp_det {γ ρ : Type} {f : γ → Option (Stp γ ρ)} (st : Nat → γ) (n : Nat) (step : ∀ i, i < n → f (st i) = some (.next (st (i + 1)))) (hend : f (st n) = some (.brk (st n))) : lp f (st 0) = some (.go (st n)) := by
 have key : ∀ m i : Nat, i + m = n → lp f (st i) = some (.go (st n)) := by
  intro m
  induction m with
  | zero =>
   intro i hi
   have : i = n := by omega
   subst this
   exact lp_brk hend
  | succ m ih => exact fun i hi => lp_step (step i (by omega)) (ih (i + 1) (by omega))
 exact key n 0 (by omega)
theorem lp_det2 {γ ρ : Type} {f : γ → Option (Stp γ ρ)} (st : Nat → γ) (n : Nat) (p : Nat → Prop) (q : Nat → ρ) (step : ∀ i, i < n → (∀ j, j < i → p j) → (p i → f (st i) = some (.next (st (i + 1)))) ∧ (¬ p i → f (st i) = some (.ret (q i)))) (hend : f (st n) = some (.brk (st n))) :
  ((∀ i, i < n → p i) ∧ lp f (st 0) = some (.go (st n))) ∨ (∃ i, i < n ∧ ¬ p i ∧ (∀ j, j < i → p j) ∧ lp f (st 0) = some (.ret (q i))) := by
 have key : ∀ m i : Nat, i + m = n → (∀ j, j < i → p j) → ((∀ i, i < n → p i) ∧ lp f (st i) = some (.go (st n))) ∨ (∃ k, k < n ∧ ¬ p k ∧ (∀ j, j < k → p j) ∧ lp f (st i) = some (.ret (q k))) := by
  intro m
  induction m with
  | zero =>
   intro i hi hp
   have : i = n := by omega
   subst this
   exact .inl ⟨hp, lp_brk hend⟩
  | succ m ih =>
   intro i hi hp
   obtain ⟨h1, h2⟩ := step i (by omega) hp
   by_cases hpi : p i
   ·have hp' : ∀ j, j < i + 1 → p j := fun j hj => by
     by_cases e : j = i
     ·subst e; exact hpi
     ·exact hp j (by omega)
    rcases ih (i + 1) (by omega) hp' with ⟨a, b⟩ | ⟨k, a, b, c, d⟩
    ·exact .inl ⟨a, lp_step (h1 hpi) b⟩
    ·exact .inr ⟨k, a, b, c, lp_step (h1 hpi) d⟩
   ·exact .inr ⟨i, by omega, hpi, hp, lp_ret (h2 hpi)⟩
 exact key n 0 (by omega) (fun j hj => absurd hj (Nat.not_lt_zero _))
theorem lp_invM {α γ ρ : Type} {f : γ → Option (Stp γ ρ)} (mk : α → Int → γ) {n : Nat} (Inv : Nat → α → Prop) (step : ∀ (i : Nat) g, i < n → Inv i g → ∃ g', f (mk g (i : Int)) = some (.next (mk g' ((i : Int) + 1))) ∧ Inv (i + 1) g') (hend : ∀ g, f (mk g (n : Int)) = some (.brk (mk g (n : Int)))) (g0 : α) (h0 : Inv 0 g0) :
  ∃ g, lp f (mk g0 0) = some (.go (mk g (n : Int))) ∧ Inv n g := by
 have key : ∀ m i : Nat, i + m = n → ∀ g, Inv i g → ∃ g', lp f (mk g (i : Int)) = some (.go (mk g' (n : Int))) ∧ Inv n g' := by
  intro m
  induction m with
  | zero =>
   intro i hi g hg
   have : i = n := by omega
   subst this
   exact ⟨g, lp_brk (hend g), hg⟩
  | succ m ih =>
   intro i hi g hg
   obtain ⟨g', h1, h2⟩ := step i g (by omega) hg
   obtain ⟨g2, h3, h4⟩ := ih (i + 1) (by omega) g' h2
   exact ⟨g2, lp_step h1 h3, h4⟩
 exact key n 0 (by omega) g0 h0
theorem lp_invR {α ρ : Type} {f : α × Int → Option (Stp (α × Int) ρ)} {n : Nat} (Inv : Nat → α → Prop) (Rr : ρ → Prop) (step : ∀ (i : Nat) g, i < n → Inv i g → (∃ g', f (g, (i : Int)) = some (.next (g', (i : Int) + 1)) ∧ Inv (i + 1) g') ∨ (∃ r, f (g, (i : Int)) = some (.ret r) ∧ Rr r)) (hend : ∀ g, f (g, (n : Int)) = some (.brk (g, (n : Int)))) (g0 : α) (h0 : Inv 0 g0) :
  (∃ g, lp f (g0, 0) = some (.go (g, (n : Int))) ∧ Inv n g) ∨ (∃ r, lp f (g0, 0) = some (.ret r) ∧ Rr r) := by
 have key : ∀ m i : Nat, i + m = n → ∀ g, Inv i g → (∃ g', lp f (g, (i : Int)) = some (.go (g', (n : Int))) ∧ Inv n g') ∨ (∃ r, lp f (g, (i : Int)) = some (.ret r) ∧ Rr r) := by
  intro m
  induction m with
  | zero =>
   intro i hi g hg
   have : i = n := by omega
   subst this
   exact .inl ⟨g, lp_brk (hend g), hg⟩
  | succ m ih =>
   intro i hi g hg
   rcases step i g (by omega) hg with ⟨g', h1, h2⟩ | ⟨r, h1, h2⟩
   ·rcases ih (i + 1) (by omega) g' h2 with ⟨g2, h3, h4⟩ | ⟨r, h3, h4⟩
    ·exact .inl ⟨g2, lp_step h1 h3, h4⟩
    ·exact .inr ⟨r, lp_step h1 h3, h4⟩
   ·exact .inr ⟨r, lp_ret h1, h2⟩
 exact key n 0 (by omega) g0 h0
theorem ele_rm {α : Type} [Inhabited α] {n : Nat} {g : Nat → α} {i : Nat} (h : i < n) : ele ((List.range n).map g) (i : Int) = g i := by
 rw [ele_nat, List.getD_eq_getElem?_getD, List.getElem?_map, List.getElem?_range h]; rfl
theorem ln_rm {α : Type} {n : Nat} {g : Nat → α} : ln ((List.range n).map g) = n := by unfold ln; simp
theorem rm_succ {α : Type} {n : Nat} {g : Nat → α} : (List.range n).map g ++ [g n] = (List.range (n + 1)).map g := by rw [List.range_succ, List.map_append]; rfl
theorem upd_rm {α : Type} [Inhabited α] {n : Nat} {g : Nat → α} {i : Nat} (h : i < n) {x : α} : upd ((List.range n).map g) (i : Int) x = (List.range n).map (fun j => if j = i then x else g j) := by
 apply List.ext_getElem?
 intro j
 unfold upd
 rw [List.getElem?_set, List.getElem?_map]
 by_cases hj : j < n
 ·rw [List.getElem?_map, List.getElem?_range hj]
  by_cases e : j = i
  ·subst e; simp [h]
  ·simp [show ¬ i = j from fun h => e h.symm, e]
 ·rw [List.getElem?_map, List.getElem?_eq_none (by simp; omega)]
  have : ¬ i = j := by omega
  simp [this]
theorem rm_congr {α : Type} {n : Nat} {g h : Nat → α} (e : ∀ i, i < n → g i = h i) : (List.range n).map g = (List.range n).map h := List.map_congr_left fun i hi => e i (List.mem_range.1 hi)
theorem AL80 {n : Nat} (h : n ≤ 100000) : AL n 80 := ⟨by show n ≤ 9223372036854775807; omega, by omega⟩
noncomputable def emit_Rest_m (a b : Int) : Option (Int) :=
 ck (b ≠ 0) <|
 ck (IR ((Int.tmod a b) + b)) <|
 ck (b ≠ 0) <|
 some (Int.tmod ((Int.tmod a b) + b) b)
noncomputable def emit_Emit_L0 (t : Tgt) (dests : List Int) : Int → Option (Stp (Int) (Krn × Int)) := fun x35_1 =>
 br (decide (x35_1 < (ln dests))) (
 ck (IX x35_1 (ln dests)) <|
 br ((decide ((ele dests x35_1) < 0)) || (decide ((ele dests x35_1) ≥ t.regs))) (
 some (.ret ((Krn.mk 0 0 []), 2))) (
 ck (IR (x35_1 + 1)) <|
 some (.next (x35_1 + 1)))) (
 some (.brk x35_1))
noncomputable def emit_Emit_L4 (t : Tgt) (p : Pln) (dests : List Int) (x49 : List Rf) : ((List Int) × Int) → Option (Stp ((List Int) × Int) (Empty)) := fun (b48n_6, x94_6) =>
 br (decide (x94_6 < (ln x49))) (
 ck (IX x94_6 (ln x49)) <|
 ck (IX ((ele x49 x94_6).st) (ln dests)) <|
 ck (IX ((ele x49 x94_6).st) (ln p.times)) <|
 ck (p.pace ≠ 0) <|
 ck (IR (Int.tdiv (ele p.times ((ele x49 x94_6).st)) p.pace)) <|
 ck (IR ((ele dests ((ele x49 x94_6).st)) + (Int.tdiv (ele p.times ((ele x49 x94_6).st)) p.pace))) <|
 ck (IR (((ele dests ((ele x49 x94_6).st)) + (Int.tdiv (ele p.times ((ele x49 x94_6).st)) p.pace)) - (ele x49 x94_6).bk)) <|
 ck (IX 1 (ln b48n_6)) <|
 ck (IR ((((ele dests ((ele x49 x94_6).st)) + (Int.tdiv (ele p.times ((ele x49 x94_6).st)) p.pace)) - (ele x49 x94_6).bk) - (ele b48n_6 1))) <|
 bd (emit_Rest_m ((((ele dests ((ele x49 x94_6).st)) + (Int.tdiv (ele p.times ((ele x49 x94_6).st)) p.pace)) - (ele x49 x94_6).bk) - (ele b48n_6 1)) t.regs) fun x85 =>
 ck (IX x94_6 2) <|
 ck (IX (4 + x94_6) (ln b48n_6)) <|
 ck (IR (x94_6 + 1)) <|
 some (.next ((upd b48n_6 (4 + x94_6) x85), (x94_6 + 1)))) (
 some (.brk (b48n_6, x94_6)))
noncomputable def emit_Emit_L2 (l : Lp) (t : Tgt) (p : Pln) (dests : List Int) : ((List Opr) × Int × Int) → Option (Stp ((List Opr) × Int × Int) (Empty)) := fun (v17_5, b16c1_5, x55_5) =>
 br (decide (x55_5 < (ln l.body))) (
 ck (IX x55_5 (ln l.body)) <|
 ck (IX x55_5 (ln p.times)) <|
 ck (p.pace ≠ 0) <|
 ck (IX x55_5 (ln p.times)) <|
 ck (p.pace ≠ 0) <|
 ck (IR (Int.tdiv (ele p.times x55_5) p.pace)) <|
 ck (IX x55_5 (ln dests)) <|
 bd (loop_Uses_m (ele l.body x55_5)) fun x49 =>
 bd (lp (emit_Emit_L4 t p dests x49) (([(Int.tmod (ele p.times x55_5) p.pace), (Int.tdiv (ele p.times x55_5) p.pace), (ele l.body x55_5).op, (ele dests x55_5), 0, 0, (ele l.body x55_5).ar, (ele l.body x55_5).sp, (ele l.body x55_5).pl, (ele l.body x55_5).n] : List Int), 0)) fun o53 => o53.on (fun (b48n_6, x94_6) =>
 ck (b48n_6.length = 10) <|
 ck (AL (v17_5 ++ [(oprOf b48n_6)]).length 80) <|
 ck (IX 1 (ln b48n_6)) <|
 ck (IR ((ele b48n_6 1) + 1)) <|
 ck (IR (x55_5 + 1)) <|
 some (.next ((v17_5 ++ [(oprOf b48n_6)]), (max b16c1_5 ((ele b48n_6 1) + 1)), (x55_5 + 1)))) (fun r => r.elim)) (
 some (.brk (v17_5, b16c1_5, x55_5)))
noncomputable def emit_Emit_m (l : Lp) (t : Tgt) (p : Pln) (dests : List Int) : Option (Krn × Int) :=
 bd (sched_Legal_m l t p) fun x5 =>
 br ((!x5) || ((ln dests) != (ln l.body))) (
 some ((Krn.mk 0 0 []), 2)) (
 bd (lp (emit_Emit_L0 t dests) 0) fun o11 => o11.on (fun x35_1 =>
 bd (lp (emit_Emit_L2 l t p dests) ([], 0, 0)) fun o18 => o18.on (fun (v17_5, b16c1_5, x55_5) =>
 some ((Krn.mk p.pace b16c1_5 v17_5), 0)) (fun r => r.elim)) (fun r => some r))
def stgV (p : Pln) (i : Int) : Int := Int.tdiv (ele p.times i) p.pace
def regV (t : Tgt) (p : Pln) (ds : List Int) (i : Int) (r : Rf) : Int := (ele ds r.st + stgV p r.st - r.bk - stgV p i) % t.regs
def abV (t : Tgt) (p : Pln) (ds : List Int) (i : Int) (us : List Rf) : Int × Int := match us with | [] => (0, 0) | [a] => (regV t p ds i a, 0) | a :: b :: _ => (regV t p ds i a, regV t p ds i b)
def oprV (l : Lp) (t : Tgt) (p : Pln) (ds : List Int) (i : Int) (us : List Rf) : Opr :=
 ⟨Int.tmod (ele p.times i) p.pace, stgV p i, (ele l.body i).op, ele ds i, (abV t p ds i us).1, (abV t p ds i us).2, (ele l.body i).ar, (ele l.body i).sp, (ele l.body i).pl, (ele l.body i).n⟩
def stagesV (p : Pln) : Nat → Int
 | 0 => 0
 | i + 1 => max (stagesV p i) (stgV p i + 1)
def DestOk (t : Tgt) (ds : List Int) (i : Nat) : Prop := 0 ≤ ele ds (i : Int) ∧ ele ds (i : Int) < t.regs
def krnV (l : Lp) (t : Tgt) (p : Pln) (ds : List Int) : Krn := ⟨p.pace, stagesV p l.body.length, (List.range l.body.length).map fun i : Nat => oprV l t p ds i (usesL (ele l.body (i : Int)))⟩
def EmitP (l : Lp) (t : Tgt) (p : Pln) (ds : List Int) : Prop := LegalP l t p ∧ ds.length = l.body.length ∧ ∀ i, i < l.body.length → DestOk t ds i
theorem stg_bd {p : Pln} {i : Nat} (hp : 1 ≤ p.pace ∧ p.pace ≤ 200) (hr : RngP p i) : 0 ≤ stgV p i ∧ stgV p i ≤ 1000 := by
 unfold stgV
 obtain ⟨h1, h2⟩ := hr
 rw [Int.tdiv_eq_ediv_of_nonneg h1]
 exact ⟨Int.ediv_nonneg h1 (by omega), Int.le_trans (Int.ediv_le_self _ h1) h2⟩
theorem eRest_s {a b : Int} (hb : 1 ≤ b) (hB : b ≤ 128) : emit_Rest_m a b = some (a % b) := by
 have ht := tmod_lt' a (show 0 < b by omega)
 unfold emit_Rest_m
 rw [ck_yes (by omega), ck_IR (by omega) (by omega), ck_yes (by omega)]
 congr 1
 rw [Int.tmod_eq_emod_of_nonneg (by omega), Int.add_emod_right]
 have h := Int.tmod_add_mul_tdiv a b
 rw [show Int.tmod a b = a - b * Int.tdiv a b from by omega, Int.sub_mul_emod_self_left]
theorem use_rng {l : Lp} {t : Tgt} {p : Pln} {ds : List Int} (h : EmitP l t p ds) {i : Nat} (hi : i < l.body.length) {r : Rf} (hr : r ∈ usesL (ele l.body (i : Int))) :
  (0 ≤ r.st ∧ r.st < l.body.length) ∧ (0 ≤ r.bk ∧ r.bk ≤ 3) ∧ (0 ≤ stgV p r.st ∧ stgV p r.st ≤ 1000) ∧ (0 ≤ stgV p i ∧ stgV p i ≤ 1000) ∧ (0 ≤ ele ds r.st ∧ ele ds r.st < 128) ∧ (1 ≤ t.regs ∧ t.regs ≤ 128) := by
 have h1 := uses_ok h.1.loop hi hr
 have h2 := h1.st (by omega)
 obtain ⟨k, hk⟩ := Int.eq_ofNat_of_zero_le h2.1
 have hk' : k < l.body.length := by omega
 have ht := h.1.tgt
 rw [tgtOk_iff] at ht
 have h3 := h.2.2 k hk'
 rw [hk]
 unfold DestOk at h3
 exact ⟨by omega, ⟨h1.1, h1.2.1⟩, stg_bd h.1.pace (h.1.rng k hk'), stg_bd h.1.pace (h.1.rng i hi), by omega, ht.2.2.2⟩
theorem emit_in {l : Lp} {t : Tgt} {p : Pln} {ds : List Int} (h : EmitP l t p ds) {i : Nat} (hi : i < l.body.length) {us : List Rf} (hu : ∀ r ∈ us, r ∈ usesL (ele l.body (i : Int))) {j : Nat} (hj : j < us.length) (hj2 : j < 2) {b : List Int} (hb : b.length = 10) (hb1 : ele b 1 = stgV p i) :
  emit_Emit_L4 t p ds us (b, (j : Int)) = some (.next (upd b (4 + (j : Int)) (regV t p ds i (ele us (j : Int))), (j : Int) + 1)) := by
 obtain ⟨q1, q2, q3, q4, q5, q6⟩ := use_rng h hi (hu _ (ele_mem' hj))
 have hl := h.1.len
 have hd := h.2.1
 have hp := h.1.pace
 unfold emit_Emit_L4
 simp only
 unfold regV
 unfold stgV at *
 rw [br_T (by unfold ln; omega), ck_IX (by omega) (by unfold ln; omega), ck_IX (by omega) (by unfold ln; omega), ck_IX (by omega) (by unfold ln; omega), ck_yes (by omega), ck_IR (by omega) (by omega), ck_IR (by omega) (by omega), ck_IR (by omega) (by omega), ck_IX (by omega) (by unfold ln; omega), hb1, ck_IR (by omega) (by omega), eRest_s (by omega) (by omega), bd_ret,
  ck_IX (by omega) (by omega), ck_IX (by omega) (by unfold ln; omega), ck_IR (by omega) (by omega)]
theorem emit_inner {l : Lp} {t : Tgt} {p : Pln} {ds : List Int} (h : EmitP l t p ds) {i : Nat} (hi : i < l.body.length) {c1 c2 c3 c4 c5 c6 c7 : Int} :
  ∃ b, lp (emit_Emit_L4 t p ds (usesL (ele l.body (i : Int)))) ([c1, stgV p i, c2, c3, 0, 0, c4, c5, c6, c7], 0) = some (.go (b, ((usesL (ele l.body (i : Int))).length : Int))) ∧ b = [c1, stgV p i, c2, c3, (abV t p ds i (usesL (ele l.body (i : Int)))).1, (abV t p ds i (usesL (ele l.body (i : Int)))).2, c4, c5, c6, c7] := by
 have hlen := usesL_len (ele l.body (i : Int))
 have hin := fun {j : Nat} hj hj2 {b : List Int} hb hb1 => emit_in h hi (us := usesL (ele l.body (i : Int))) (fun r hr => hr) (j := j) hj hj2 (b := b) hb hb1
 generalize usesL (ele l.body (i : Int)) = us at *
 have hend : ∀ b : List Int, emit_Emit_L4 t p ds us (b, (us.length : Int)) = some (.brk (b, (us.length : Int))) := fun b => by
  unfold emit_Emit_L4; exact br_F (by unfold ln; omega)
 match us, hlen with
 | [], _ => exact ⟨_, lp_brk (hend _), rfl⟩
 | [a], _ =>
  refine ⟨_, lp_step (hin (j := 0) (by simp) (by omega) rfl rfl) (lp_brk (hend _)), rfl⟩
 | [a, c], _ =>
  refine ⟨_, lp_step (hin (j := 0) (by simp) (by omega) rfl rfl) (lp_step (hin (j := 1) (by simp) (by omega) rfl rfl) (lp_brk (hend _))), rfl⟩
theorem emit_loop {l : Lp} {t : Tgt} {p : Pln} {ds : List Int} (h : EmitP l t p ds) : lp (emit_Emit_L2 l t p ds) ([], 0, 0) = some (.go ((krnV l t p ds).ops, (krnV l t p ds).stages, (l.body.length : Int))) := by
 have hl := h.1.len
 have hd := h.2.1
 have hp := h.1.pace
 have hn := h.1.loop.2.2.1
 refine lp_det (f := emit_Emit_L2 l t p ds) (fun i => ((List.range i).map fun i : Nat => oprV l t p ds i (usesL (ele l.body (i : Int))), stagesV p i, (i : Int))) l.body.length (fun i hi => ?_) (by unfold emit_Emit_L2; exact br_F (by unfold ln; omega))
 have hs := stg_bd hp (h.1.rng i hi)
 obtain ⟨b, e1, e2⟩ := emit_inner h hi (c1 := Int.tmod (ele p.times (i : Int)) p.pace) (c2 := (ele l.body (i : Int)).op) (c3 := ele ds (i : Int)) (c4 := (ele l.body (i : Int)).ar) (c5 := (ele l.body (i : Int)).sp) (c6 := (ele l.body (i : Int)).pl) (c7 := (ele l.body (i : Int)).n)
 have e3 : Int.tdiv (ele p.times (i : Int)) p.pace = stgV p i := rfl
 unfold emit_Emit_L2
 simp only
 rw [br_T (by unfold ln; omega), ck_IX (by omega) (by unfold ln; omega), ck_IX (by omega) (by unfold ln; omega), ck_yes (by omega), ck_IX (by omega) (by unfold ln; omega), ck_yes (by omega), e3, ck_IR (by omega) (by omega), ck_IX (by omega) (by unfold ln; omega), Uses_s, bd_ret, e1, bd_ret, Out.on_go, e2]
 simp only
 rw [ck_yes (by rfl)]
 have e4 : oprOf [Int.tmod (ele p.times (i : Int)) p.pace, stgV p i, (ele l.body (i : Int)).op, ele ds (i : Int), (abV t p ds i (usesL (ele l.body (i : Int)))).1, (abV t p ds i (usesL (ele l.body (i : Int)))).2, (ele l.body (i : Int)).ar, (ele l.body (i : Int)).sp, (ele l.body (i : Int)).pl, (ele l.body (i : Int)).n] = oprV l t p ds i (usesL (ele l.body (i : Int))) := rfl
 rw [e4, ck_yes (AL80 (by simp; omega)), ck_IX (by omega) (by unfold ln; simp)]
 have e5 : ele [Int.tmod (ele p.times (i : Int)) p.pace, stgV p i, (ele l.body (i : Int)).op, ele ds (i : Int), (abV t p ds i (usesL (ele l.body (i : Int)))).1, (abV t p ds i (usesL (ele l.body (i : Int)))).2, (ele l.body (i : Int)).ar, (ele l.body (i : Int)).sp, (ele l.body (i : Int)).pl, (ele l.body (i : Int)).n] 1 = stgV p i := rfl
 rw [e5, ck_IR (by omega) (by omega), ck_IR (by omega) (by omega), rm_succ (g := fun i : Nat => oprV l t p ds i (usesL (ele l.body (i : Int))))]
 rfl
theorem Emit_s {l : Lp} (hf : l.Fine) (t : Tgt) (p : Pln) {ds : List Int} (hdl : ds.length ≤ 9223372036854775807) : emit_Emit_m l t p ds = some (if tb (EmitP l t p ds) = true then (krnV l t p ds, 0) else (⟨0, 0, []⟩, 2)) := by
 unfold emit_Emit_m
 rw [Legal_s hf, bd_ret]
 by_cases h1 : LegalP l t p ∧ ds.length = l.body.length
 ·rw [tb_t h1.1, show ((!true) || ((ln ds) != (ln l.body))) = false from by unfold ln; simp [h1.2], br_false]
  have hn := h1.1.loop.2.2.1
  rcases lp_det2 (f := emit_Emit_L0 t ds) (fun i => (i : Int)) ds.length (DestOk t ds) (fun _ => ((Krn.mk 0 0 []), 2)) (fun i hi _ => by
    unfold emit_Emit_L0 DestOk
    rw [br_T (by unfold ln; omega), ck_IX (by omega) (by unfold ln; omega)]
    constructor
    ·intro h
     rw [show (decide (ele ds (i : Int) < 0) || decide (ele ds (i : Int) ≥ t.regs)) = false from by simp; omega, br_false, ck_IR (by omega) (by omega)]
     rfl
    ·intro h
     rw [show (decide (ele ds (i : Int) < 0) || decide (ele ds (i : Int) ≥ t.regs)) = true from by simp; omega, br_true]) (by unfold emit_Emit_L0; exact br_F (by unfold ln; omega)) with ⟨h2, e⟩ | ⟨i, h2, h3, _, e⟩
  ·have hE : EmitP l t p ds := ⟨h1.1, h1.2, fun i hi => h2 i (by omega)⟩
   rw [show (0 : Int) = ((0 : Nat) : Int) from rfl, e, bd_ret, Out.on_go]
   have := emit_loop hE
   rw [show lp (emit_Emit_L2 l t p ds) ([], ((0 : Nat) : Int), ((0 : Nat) : Int)) = _ from this, bd_ret, Out.on_go, tb_t hE]
   rfl
  ·rw [show (0 : Int) = ((0 : Nat) : Int) from rfl, e, bd_ret, Out.on_ret, tb_f fun hE : EmitP l t p ds => h3 (hE.2.2 i (by omega))]
   rfl
 ·have hc : ((!tb (LegalP l t p)) || ((ln ds) != (ln l.body))) = true := by
   by_cases h : LegalP l t p
   ·have : ¬ ds.length = l.body.length := fun e => h1 ⟨h, e⟩
    rw [tb_t h]
    unfold ln
    simp; omega
   ·rw [tb_f h]; rfl
  rw [hc, br_true, tb_f fun hE : EmitP l t p ds => h1 ⟨hE.1, hE.2.1⟩]
  rfl
theorem upd_len {α : Type} {v : List α} {i : Int} {x : α} : (upd v i x).length = v.length := List.length_set
theorem krn_len {l : Lp} {t : Tgt} {p : Pln} {ds : List Int} : (krnV l t p ds).ops.length = l.body.length := by unfold krnV; simp
noncomputable def keep_Far_L2 (a : Int) (x14 : List Rf) : (Int × Int) → Option (Stp (Int × Int) (Empty)) := fun (far5_4, x20_4) =>
 br (decide (x20_4 < (ln x14))) (
 ck (IX x20_4 (ln x14)) <|
 br ((ele x14 x20_4).st == a) (
 ck (IR (x20_4 + 1)) <|
 some (.next ((max far5_4 ((ele x14 x20_4).bk)), (x20_4 + 1)))) (
 ck (IR (x20_4 + 1)) <|
 some (.next (far5_4, (x20_4 + 1))))) (
 some (.brk (far5_4, x20_4)))
noncomputable def keep_Far_L0 (l : Lp) (a : Int) : (Int × Int) → Option (Stp (Int × Int) (Empty)) := fun (far5_3, x13_3) =>
 br (decide (x13_3 < (ln l.body))) (
 ck (IX x13_3 (ln l.body)) <|
 bd (loop_Uses_m (Stm.mk ((ele l.body x13_3).op) ((ele l.body x13_3).a) ((ele l.body x13_3).b) ((ele l.body x13_3).ar) ((ele l.body x13_3).sp) ((ele l.body x13_3).pl) ((ele l.body x13_3).n))) fun x14 =>
 bd (lp (keep_Far_L2 a x14) (far5_3, 0)) fun o18 => o18.on (fun (far5_4, x20_4) =>
 ck (IR (x13_3 + 1)) <|
 some (.next (far5_4, (x13_3 + 1)))) (fun r => r.elim)) (
 some (.brk (far5_3, x13_3)))
noncomputable def keep_Far_m (l : Lp) (a : Int) : Option (Int) :=
 bd (lp (keep_Far_L0 l a) (0, 0)) fun o2 => o2.on (fun (far5_3, x13_3) =>
 some far5_3) (fun r => r.elim)
noncomputable def slices_IndexIIL0 (s : List Int) (v : Int) : Int → Option (Stp (Int) (Int)) := fun x8_1 =>
 br (decide (x8_1 < (ln s))) (
 ck (IX x8_1 (ln s)) <|
 br (v == (ele s x8_1)) (
 some (.ret x8_1)) (
 ck (IR (x8_1 + 1)) <|
 some (.next (x8_1 + 1)))) (
 some (.brk x8_1))
noncomputable def slices_IndexIIm (s : List Int) (v : Int) : Option (Int) :=
 bd (lp (slices_IndexIIL0 s v) 0) fun o1 => o1.on (fun x8_1 =>
 some (-1)) (fun r => some r)
noncomputable def slices_ContainsIIm (s : List Int) (v : Int) : Option (Bool) :=
 bd (slices_IndexIIm s v) fun x1 =>
 some (decide (x1 ≥ 0))
noncomputable def KL_uses_L2 (y_Pace : Int) (y_Time : List Int) (a x16_4 : Int) (x14 : List Rf) : ((List Use) × Int) → Option (Stp ((List Use) × Int) (Empty)) := fun (v1_5, x24_5) =>
 br (decide (x24_5 < (ln x14))) (
 ck (IX x24_5 (ln x14)) <|
 br ((ele x14 x24_5).st == a) (
 ck (IX x16_4 (ln y_Time)) <|
 ck (IR ((ele x14 x24_5).bk * y_Pace)) <|
 ck (IR ((ele y_Time x16_4) + ((ele x14 x24_5).bk * y_Pace))) <|
 ck (AL (v1_5 ++ [(Use.mk ((ele y_Time x16_4) + ((ele x14 x24_5).bk * y_Pace)) (decide ((ele x14 x24_5).bk > 0)))]).length 16) <|
 ck (IR (x24_5 + 1)) <|
 some (.next ((v1_5 ++ [(Use.mk ((ele y_Time x16_4) + ((ele x14 x24_5).bk * y_Pace)) (decide ((ele x14 x24_5).bk > 0)))]), (x24_5 + 1)))) (
 ck (IR (x24_5 + 1)) <|
 some (.next (v1_5, (x24_5 + 1))))) (
 some (.brk (v1_5, x24_5)))
noncomputable def KL_uses_L0 (y_Loop_Body : List Stm) (y_Pace : Int) (y_Time : List Int) (a : Int) : ((List Use) × Int) → Option (Stp ((List Use) × Int) (Empty)) := fun (v1_4, x16_4) =>
 br (decide (x16_4 < (ln y_Loop_Body))) (
 ck (IX x16_4 (ln y_Loop_Body)) <|
 bd (loop_Uses_m (Stm.mk ((ele y_Loop_Body x16_4).op) ((ele y_Loop_Body x16_4).a) ((ele y_Loop_Body x16_4).b) ((ele y_Loop_Body x16_4).ar) ((ele y_Loop_Body x16_4).sp) ((ele y_Loop_Body x16_4).pl) ((ele y_Loop_Body x16_4).n))) fun x14 =>
 bd (lp (KL_uses_L2 y_Pace y_Time a x16_4 x14) (v1_4, 0)) fun o18 => o18.on (fun (v1_5, x24_5) =>
 ck (IR (x16_4 + 1)) <|
 some (.next (v1_5, (x16_4 + 1)))) (fun r => r.elim)) (
 some (.brk (v1_4, x16_4)))
noncomputable def KL_uses_m (y_Loop_Body : List Stm) (y_Pace y_Regs : Int) (y_Time : List Int) (a : Int) : Option (List Use) :=
 bd (lp (KL_uses_L0 y_Loop_Body y_Pace y_Time a) ([], 0)) fun o2 => o2.on (fun (v1_4, x16_4) =>
 some v1_4) (fun r => r.elim)
noncomputable def KL_bad_L0 (y_Pace : Int) (y_Ready : List Int) (a m_ j : Int) (uses : List Use) : Int → Option (Stp (Int) (Bool)) := fun x30_1 =>
 br (decide (x30_1 < (ln uses))) (
 ck (IX x30_1 (ln uses)) <|
 ck (IX a (ln y_Ready)) <|
 br (((decide (((ele y_Ready m_) + (j * y_Pace)) ≥ (ele y_Ready a))) && (decide (((ele y_Ready m_) + (j * y_Pace)) ≤ (ele uses x30_1).til))) || (((ele uses x30_1).later && (decide (j > 0))) && (decide (((ele y_Ready m_) + (j * y_Pace)) ≤ (ele uses x30_1).til)))) (
 some (.ret true)) (
 ck (IR (x30_1 + 1)) <|
 some (.next (x30_1 + 1)))) (
 some (.brk x30_1))
noncomputable def KL_bad_m (y_Loop_Outs : List Int) (y_Pace y_Regs : Int) (y_Ready : List Int) (a m_ j : Int) (uses : List Use) : Option (Bool) :=
 ck (IX m_ (ln y_Ready)) <|
 ck (IR (j * y_Pace)) <|
 ck (IR ((ele y_Ready m_) + (j * y_Pace))) <|
 bd (lp (KL_bad_L0 y_Pace y_Ready a m_ j uses) 0) fun o9 => o9.on (fun x30_1 =>
 ck ((decide (j ≤ 0)) = true → IX a (ln y_Ready)) <|
 bdG ((decide (j ≤ 0)) && (decide (((ele y_Ready m_) + (j * y_Pace)) ≥ (ele y_Ready a)))) (slices_ContainsIIm y_Loop_Outs a) fun x18 =>
 some (((decide (j ≤ 0)) && (decide (((ele y_Ready m_) + (j * y_Pace)) ≥ (ele y_Ready a)))) && x18)) (fun r => some r)
noncomputable def KL_Apart_L0 (y_Loop_Outs : List Int) (y_Pace y_Regs : Int) (y_Ready : List Int) (a m_ : Int) (x1 : List Use) : Int → Option (Stp (Int) (Bool)) := fun j10_1 =>
 br (decide (j10_1 ≤ ((Int.tdiv 4000 y_Pace) + 1))) (
 bdG ((m_ != a) || (j10_1 != 0)) (KL_bad_m y_Loop_Outs y_Pace y_Regs y_Ready a m_ j10_1 x1) fun x44 =>
 br (((m_ != a) || (j10_1 != 0)) && x44) (
 some (.ret false)) (
 ck (IR (j10_1 + y_Regs)) <|
 some (.next (j10_1 + y_Regs)))) (
 some (.brk j10_1))
noncomputable def KL_Apart_m (y_Loop_Body : List Stm) (y_Loop_Outs : List Int) (y_Pace y_Regs : Int) (y_Time y_Ready y_Places : List Int) (a m_ : Int) : Option (Bool) :=
 bd (KL_uses_m y_Loop_Body y_Pace y_Regs y_Time a) fun x1 =>
 ck (IX a (ln y_Places)) <|
 ck (IX m_ (ln y_Places)) <|
 ck (IR ((ele y_Places a) - (ele y_Places m_))) <|
 ck (y_Regs ≠ 0) <|
 ck (IR ((Int.tmod ((ele y_Places a) - (ele y_Places m_)) y_Regs) + y_Regs)) <|
 ck (y_Regs ≠ 0) <|
 ck (y_Pace ≠ 0) <|
 ck (IR (Int.tdiv 4000 y_Pace)) <|
 ck (IR ((Int.tdiv 4000 y_Pace) + 1)) <|
 ck (y_Regs ≠ 0) <|
 ck (IR (Int.tdiv ((Int.tdiv 4000 y_Pace) + 1) y_Regs)) <|
 ck (IR ((Int.tdiv ((Int.tdiv 4000 y_Pace) + 1) y_Regs) + 2)) <|
 ck (IR (((Int.tdiv ((Int.tdiv 4000 y_Pace) + 1) y_Regs) + 2) * y_Regs)) <|
 ck (IR ((Int.tmod ((Int.tmod ((ele y_Places a) - (ele y_Places m_)) y_Regs) + y_Regs) y_Regs) - (((Int.tdiv ((Int.tdiv 4000 y_Pace) + 1) y_Regs) + 2) * y_Regs))) <|
 bd (lp (KL_Apart_L0 y_Loop_Outs y_Pace y_Regs y_Ready a m_ x1) ((Int.tmod ((Int.tmod ((ele y_Places a) - (ele y_Places m_)) y_Regs) + y_Regs) y_Regs) - (((Int.tdiv ((Int.tdiv 4000 y_Pace) + 1) y_Regs) + 2) * y_Regs))) fun o37 => o37.on (fun j10_1 =>
 some true) (fun r => some r)
noncomputable def KL_Firsts_L2 (y_Regs : Int) (y_Places l : List Int) (x13_3 x13 : Int) : ((List (Int × Bool)) × Int) → Option (Stp ((List (Int × Bool)) × Int) (Bool)) := fun (m1n_4, x23_4) =>
 br (decide (x23_4 < x13)) (
 ck (IX (ele l x13_3) (ln y_Places)) <|
 ck (IR ((ele y_Places (ele l x13_3)) - x23_4)) <|
 ck (IR (((ele y_Places (ele l x13_3)) - x23_4) - 1)) <|
 ck (y_Regs ≠ 0) <|
 ck (IR ((Int.tmod (((ele y_Places (ele l x13_3)) - x23_4) - 1) y_Regs) + y_Regs)) <|
 ck (y_Regs ≠ 0) <|
 br (mget m1n_4 (Int.tmod ((Int.tmod (((ele y_Places (ele l x13_3)) - x23_4) - 1) y_Regs) + y_Regs) y_Regs) false) (
 some (.ret false)) (
 ck (IR (x23_4 + 1)) <|
 some (.next ((mput m1n_4 (Int.tmod ((Int.tmod (((ele y_Places (ele l x13_3)) - x23_4) - 1) y_Regs) + y_Regs) y_Regs) true), (x23_4 + 1))))) (
 some (.brk (m1n_4, x23_4)))
noncomputable def KL_Firsts_L0 (y_Loop_Logs : List Int) (y_Loop_Body : List Stm) (y_Loop_Outs : List Int) (y_Regs : Int) (y_Places l : List Int) : ((List (Int × Bool)) × Int) → Option (Stp ((List (Int × Bool)) × Int) (Bool)) := fun (m1n_3, x13_3) =>
 br (decide (x13_3 < (ln l))) (
 ck (IX x13_3 (ln l)) <|
 bd (keep_Far_m (Lp.mk y_Loop_Logs y_Loop_Body y_Loop_Outs) (ele l x13_3)) fun x13 =>
 bd (lp (KL_Firsts_L2 y_Regs y_Places l x13_3 x13) (m1n_3, 0)) fun o16 => o16.on (fun (m1n_4, x23_4) =>
 ck (IR (x13_3 + 1)) <|
 some (.next (m1n_4, (x13_3 + 1)))) (fun r => some (.ret r))) (
 some (.brk (m1n_3, x13_3)))
noncomputable def KL_Firsts_m (y_Loop_Logs : List Int) (y_Loop_Body : List Stm) (y_Loop_Outs : List Int) (y_Pace y_Regs : Int) (y_Places l : List Int) : Option (Bool) :=
 bd (lp (KL_Firsts_L0 y_Loop_Logs y_Loop_Body y_Loop_Outs y_Regs y_Places l) (([] : List (Int × Bool)), 0)) fun o2 => o2.on (fun (m1n_3, x13_3) =>
 some true) (fun r => some r)
structure LayD where
 (logs : List Int)
 (body : List Stm)
 (outs : List Int)
 (pace regs : Int)
 (time ready places : List Int)
structure LayD.Ok (y : LayD) : Prop where
 n : 1 ≤ y.body.length ∧ y.body.length ≤ 16
 lt : y.time.length = y.body.length
 lr : y.ready.length = y.body.length
 lp : y.places.length = y.body.length
 lo : y.outs.length ≤ 100000
 pace : 1 ≤ y.pace ∧ y.pace ≤ 200
 regs : 1 ≤ y.regs ∧ y.regs ≤ 128
 tm : ∀ i : Nat, i < y.body.length → 0 ≤ ele y.time (i : Int) ∧ ele y.time (i : Int) ≤ 1000
 rd : ∀ i : Nat, i < y.body.length → 0 ≤ ele y.ready (i : Int) ∧ ele y.ready (i : Int) ≤ 1006
 pl : ∀ i : Nat, i < y.body.length → -100000 ≤ ele y.places (i : Int) ∧ ele y.places (i : Int) ≤ 100000
 us : ∀ i : Nat, i < y.body.length → ∀ r ∈ usesL (ele y.body (i : Int)), 0 ≤ r.st ∧ r.st < y.body.length ∧ 0 ≤ r.bk ∧ r.bk ≤ 3
def farU (a : Int) : List Rf → Int → Int
 | [], f => f
 | r :: us, f => farU a us (if r.st = a then max f r.bk else f)
def farN (body : List Stm) (a : Int) : Nat → Int
 | 0 => 0
 | k + 1 => farU a (usesL (ele body (k : Int))) (farN body a k)
def farV (body : List Stm) (a : Int) : Int := farN body a body.length
theorem farU_app (a : Int) : ∀ (u v : List Rf) (f : Int), farU a (u ++ v) f = farU a v (farU a u f)
 | [], _, _ => rfl
 | r :: u, v, f => farU_app a u v _
theorem farU_ge (a : Int) : ∀ (u : List Rf) (f : Int), f ≤ farU a u f ∧ ∀ r ∈ u, r.st = a → r.bk ≤ farU a u f
 | [], f => ⟨Int.le_refl _, fun r h => by cases h⟩
 | r :: u, f => by
  have h := farU_ge a u (if r.st = a then max f r.bk else f)
  refine ⟨Int.le_trans ?_ h.1, fun x hx hs => ?_⟩
  ·split <;> omega
  ·rcases List.mem_cons.1 hx with rfl | hx
   ·refine Int.le_trans ?_ h.1
    rw [if_pos hs]; omega
   ·exact h.2 x hx hs
theorem farU_le (a : Int) {B : Int} : ∀ (u : List Rf) (f : Int), f ≤ B → (∀ r ∈ u, r.bk ≤ B) → farU a u f ≤ B
 | [], _, h, _ => h
 | r :: u, f, h, hu => farU_le a u _ (by have := hu r (by simp); split <;> omega) fun x hx => hu x (by simp [hx])
theorem farN_bd {body : List Stm} (hu : ∀ i : Nat, i < body.length → ∀ r ∈ usesL (ele body (i : Int)), 0 ≤ r.bk ∧ r.bk ≤ 3) (a : Int) : ∀ k, k ≤ body.length → 0 ≤ farN body a k ∧ farN body a k ≤ 3
 | 0, _ => by show 0 ≤ (0 : Int) ∧ (0 : Int) ≤ 3; omega
 | k + 1, h => by
  have ih := farN_bd hu a k (by omega)
  have h1 := farU_ge a (usesL (ele body (k : Int))) (farN body a k)
  exact ⟨Int.le_trans ih.1 h1.1, farU_le a _ _ ih.2 fun r hr => (hu k (by omega) r hr).2⟩
theorem farN_ge {body : List Stm} (a : Int) : ∀ k i : Nat, i < k → ∀ r ∈ usesL (ele body (i : Int)), r.st = a → r.bk ≤ farN body a k
 | k + 1, i, h, r, hr, hs => by
  have h1 := farU_ge a (usesL (ele body (k : Int))) (farN body a k)
  by_cases e : i = k
  ·subst e; exact h1.2 r hr hs
  ·exact Int.le_trans (farN_ge a k i (by omega) r hr hs) h1.1
theorem far_s {l : Lp} (hn : l.body.length ≤ 16) (hu : ∀ i : Nat, i < l.body.length → ∀ r ∈ usesL (ele l.body (i : Int)), 0 ≤ r.bk ∧ r.bk ≤ 3) (a : Int) : keep_Far_m l a = some (farV l.body a) := by
 have X := lp_det (f := keep_Far_L0 l a) (ρ := Empty) (fun k => (farN l.body a k, (k : Int))) l.body.length (fun k hk => by
  have h2 := usesL_len (ele l.body (k : Int))
  have Y := lp_det (f := keep_Far_L2 a (usesL (ele l.body (k : Int)))) (ρ := Empty) (fun j => (farU a ((usesL (ele l.body (k : Int))).take j) (farN l.body a k), (j : Int))) (usesL (ele l.body (k : Int))).length (fun j hj => by
   unfold keep_Far_L2
   simp only
   rw [br_T (by unfold ln; omega), ck_IX (by omega) (by unfold ln; omega), take_next hj, farU_app]
   by_cases e : (ele (usesL (ele l.body (k : Int))) (j : Int)).st = a
   ·rw [show ((ele (usesL (ele l.body (k : Int))) (j : Int)).st == a) = true from by simp [e], br_true, ck_IR (by omega) (by omega)]
    show _ = some (Stp.next (if _ then _ else _, _))
    rw [if_pos e]; rfl
   ·rw [show ((ele (usesL (ele l.body (k : Int))) (j : Int)).st == a) = false from by simp [e], br_false, ck_IR (by omega) (by omega)]
    show _ = some (Stp.next (if _ then _ else _, _))
    rw [if_neg e]; rfl) (by unfold keep_Far_L2; exact br_F (by unfold ln; omega))
  rw [List.take_length] at Y
  unfold keep_Far_L0
  simp only
  rw [br_T (by unfold ln; omega), ck_IX (by omega) (by unfold ln; omega), show loop_Uses_m (Stm.mk ((ele l.body (k : Int)).op) ((ele l.body (k : Int)).a) ((ele l.body (k : Int)).b) ((ele l.body (k : Int)).ar) ((ele l.body (k : Int)).sp) ((ele l.body (k : Int)).pl) ((ele l.body (k : Int)).n)) = some (usesL (ele l.body (k : Int))) from Uses_s _, bd_ret,
   show lp (keep_Far_L2 a (usesL (ele l.body (k : Int)))) (farN l.body a k, 0) = _ from Y, bd_ret, Out.on_go, ck_IR (by omega) (by omega)]
  rfl) (by unfold keep_Far_L0; exact br_F (by unfold ln; omega))
 unfold keep_Far_m
 rw [show lp (keep_Far_L0 l a) (0, 0) = _ from X, bd_ret, Out.on_go]
 rfl
def UseOf (y : LayD) (a : Int) (k : Nat) (r : Rf) (x : Use) : Prop := r.st = a ∧ x = ⟨ele y.time (k : Int) + r.bk * y.pace, decide (r.bk > 0)⟩
theorem uses_in {y : LayD} (hy : y.Ok) (a : Int) {k : Nat} (hk : k < y.body.length) {g0 : List Use} (hg : g0.length ≤ 1000) : ∃ g, lp (KL_uses_L2 y.pace y.time a k (usesL (ele y.body (k : Int)))) (g0, 0) = some (.go (g, ((usesL (ele y.body (k : Int))).length : Int))) ∧ ((∀ x, x ∈ g ↔ x ∈ g0 ∨ ∃ r ∈ usesL (ele y.body (k : Int)), UseOf y a k r x) ∧ g.length ≤ g0.length + 2) := by
 have h2 := usesL_len (ele y.body (k : Int))
 have X := lp_inv (f := KL_uses_L2 y.pace y.time a k (usesL (ele y.body (k : Int)))) (ρ := Empty) (n := (usesL (ele y.body (k : Int))).length) (fun j g => (∀ x, x ∈ g ↔ x ∈ g0 ∨ ∃ r ∈ (usesL (ele y.body (k : Int))).take j, UseOf y a k r x) ∧ g.length ≤ g0.length + j) (fun j g hj hg2 => by
  obtain ⟨q1, q2⟩ := hg2
  have hu := hy.us k hk _ (ele_mem' hj)
  have ht := hy.tm k hk
  have hpc := hy.pace
  have m1 := mul_le (a := (ele (usesL (ele y.body (k : Int))) (j : Int)).bk) (A := 3) (b := y.pace) (B := 200) (by omega) (by omega) (by omega) (by omega)
  have hl := hy.lt
  unfold KL_uses_L2
  simp only
  rw [br_T (by unfold ln; omega), ck_IX (by omega) (by unfold ln; omega), take_next hj]
  by_cases e : (ele (usesL (ele y.body (k : Int))) (j : Int)).st = a
  ·rw [show ((ele (usesL (ele y.body (k : Int))) (j : Int)).st == a) = true from by simp [e], br_true, ck_IX (by omega) (by unfold ln; omega), ck_IR (by omega) (by omega), ck_IR (by omega) (by omega), ck_yes ⟨by show _ ≤ 9223372036854775807; simp; omega, by simp; omega⟩, ck_IR (by omega) (by omega)]
   refine ⟨_, rfl, fun x => ?_, by simp; omega⟩
   rw [List.mem_append, List.mem_singleton, q1]
   constructor
   ·rintro ((h | ⟨r, h, h'⟩) | h)
    ·exact .inl h
    ·exact .inr ⟨r, by simp [h], h'⟩
    ·exact .inr ⟨_, by simp, e, h⟩
   ·rintro (h | ⟨r, h, h'⟩)
    ·exact .inl (.inl h)
    ·rcases List.mem_append.1 h with h | h
     ·exact .inl (.inr ⟨r, h, h'⟩)
     ·rw [List.mem_singleton] at h
      subst h
      exact .inr h'.2
  ·rw [show ((ele (usesL (ele y.body (k : Int))) (j : Int)).st == a) = false from by simp [e], br_false, ck_IR (by omega) (by omega)]
   refine ⟨_, rfl, fun x => ?_, by omega⟩
   rw [q1]
   constructor
   ·rintro (h | ⟨r, h, h'⟩)
    ·exact .inl h
    ·exact .inr ⟨r, by simp [h], h'⟩
   ·rintro (h | ⟨r, h, h'⟩)
    ·exact .inl h
    ·rcases List.mem_append.1 h with h | h
     ·exact .inr ⟨r, h, h'⟩
     ·rw [List.mem_singleton] at h
      subst h
      exact absurd h'.1 e) (fun g => by unfold KL_uses_L2; exact br_F (by unfold ln; omega)) g0 ⟨fun x => ⟨.inl, fun h => by
       rcases h with h | ⟨r, h, _⟩
       ·exact h
       ·simp at h⟩, by omega⟩
 obtain ⟨g, e, q1, q2⟩ := X
 rw [List.take_length] at q1
 exact ⟨g, e, q1, by omega⟩
theorem uses_l {y : LayD} (hy : y.Ok) (a : Int) : ∃ us, KL_uses_m y.body y.pace y.regs y.time a = some us ∧ (∀ x, x ∈ us ↔ ∃ k, k < y.body.length ∧ ∃ r ∈ usesL (ele y.body (k : Int)), UseOf y a k r x) ∧ us.length ≤ 32 := by
 have hn := hy.n
 have X := lp_inv (f := KL_uses_L0 y.body y.pace y.time a) (ρ := Empty) (n := y.body.length) (fun i g => (∀ x, x ∈ g ↔ ∃ k, k < i ∧ ∃ r ∈ usesL (ele y.body (k : Int)), UseOf y a k r x) ∧ g.length ≤ 2 * i) (fun i g hi hg => by
  obtain ⟨q1, q2⟩ := hg
  obtain ⟨g', e1, e2, e3⟩ := uses_in hy a hi (g0 := g) (by omega)
  unfold KL_uses_L0
  simp only
  rw [br_T (by unfold ln; omega), ck_IX (by omega) (by unfold ln; omega), show loop_Uses_m (Stm.mk ((ele y.body (i : Int)).op) ((ele y.body (i : Int)).a) ((ele y.body (i : Int)).b) ((ele y.body (i : Int)).ar) ((ele y.body (i : Int)).sp) ((ele y.body (i : Int)).pl) ((ele y.body (i : Int)).n)) = some (usesL (ele y.body (i : Int))) from Uses_s _, bd_ret, e1, bd_ret, Out.on_go, ck_IR (by omega) (by omega)]
  refine ⟨_, rfl, fun x => ?_, by show g'.length ≤ _; omega⟩
  rw [e2, q1]
  constructor
  ·rintro (⟨k, h1, h2⟩ | h)
   ·exact ⟨k, by omega, h2⟩
   ·exact ⟨i, by omega, h⟩
  ·rintro ⟨k, h1, h2⟩
   by_cases e : k = i
   ·subst e; exact .inr h2
   ·exact .inl ⟨k, by omega, h2⟩) (fun g => by unfold KL_uses_L0; exact br_F (by unfold ln; omega)) [] ⟨fun x => ⟨fun h => (by cases h), fun ⟨k, h, _⟩ => absurd h (Nat.not_lt_zero _)⟩, by simp⟩
 obtain ⟨g, e, q1, q2⟩ := X
 unfold KL_uses_m
 rw [e, bd_ret, Out.on_go]
 exact ⟨g, rfl, q1, by omega⟩
structure LookP (y : LayD) (a m j : Int) (k : Nat) (r : Rf) : Prop where
 kn : k < y.body.length
 mem : r ∈ usesL (ele y.body (k : Int))
 st : r.st = a
 near : (ele y.ready a ≤ ele y.ready m + j * y.pace ∧ ele y.ready m + j * y.pace ≤ ele y.time (k : Int) + r.bk * y.pace) ∨ (0 < r.bk ∧ 0 < j ∧ ele y.ready m + j * y.pace ≤ ele y.time (k : Int) + r.bk * y.pace)
def OutP (y : LayD) (a m j : Int) : Prop := j ≤ 0 ∧ ele y.ready a ≤ ele y.ready m + j * y.pace ∧ a ∈ y.outs
def BadP (y : LayD) (a m j : Int) : Prop := (∃ k r, LookP y a m j k r) ∨ OutP y a m j
def ApartP (y : LayD) (a m : Int) : Prop := ∀ j : Int, (m ≠ a ∨ j ≠ 0) → (ele y.places m + j - ele y.places a) % y.regs = 0 → ¬ BadP y a m j
theorem contains_s (s : List Int) (hs : s.length ≤ 100000) (v : Int) : slices_ContainsIIm s v = some (tb (v ∈ s)) := by
 unfold slices_ContainsIIm slices_IndexIIm
 rcases lp_det2 (f := slices_IndexIIL0 s v) (fun i => (i : Int)) s.length (fun i => ¬ (v = ele s (i : Int))) (fun i => (i : Int)) (fun i hi _ => by
   unfold slices_IndexIIL0
   rw [br_T (by unfold ln; omega), ck_IX (by omega) (by unfold ln; omega)]
   exact ⟨fun h => by rw [show (v == ele s (i : Int)) = false from by simp [h], br_false, ck_IR (by omega) (by omega)]; rfl, fun h => by rw [show (v == ele s (i : Int)) = true from by simpa using h, br_true]⟩) (by unfold slices_IndexIIL0; exact br_F (by unfold ln; omega)) with ⟨h1, e⟩ | ⟨i, h1, h2, _, e⟩
 ·rw [show (0 : Int) = ((0 : Nat) : Int) from rfl, e, bd_ret, Out.on_go, bd_ret, tb_f]
  ·rfl
  ·intro h
   obtain ⟨i, hi, he⟩ := mem_ele h
   exact h1 i hi he.symm
 ·rw [show (0 : Int) = ((0 : Nat) : Int) from rfl, e, bd_ret, Out.on_ret, bd_ret, tb_t (by rw [Classical.not_not.1 h2]; exact ele_mem' h1), decide_eq_true (by omega)]
theorem bad_s {y : LayD} (hy : y.Ok) {a m : Nat} (ha : a < y.body.length) (hm : m < y.body.length) {j : Int} (h1 : -10000 ≤ j) (h2 : j ≤ 10000) {us : List Use} (hus : ∀ x, x ∈ us ↔ ∃ k, k < y.body.length ∧ ∃ r ∈ usesL (ele y.body (k : Int)), UseOf y a k r x) (hul : us.length ≤ 32) :
  KL_bad_m y.outs y.pace y.regs y.ready a m j us = some (tb (BadP y a m j)) := by
 have hpc := hy.pace
 have hlr := hy.lr
 have r1 := hy.rd a ha; have r2 := hy.rd m hm
 have m1 := mul_le (a := j) (A := 10000) (b := y.pace) (B := 200) (by omega) (by omega) (by omega) (by omega)
 unfold KL_bad_m
 rw [ck_IX (by omega) (by unfold ln; omega), ck_IR (by omega) (by omega), ck_IR (by omega) (by omega)]
 rcases lp_det2 (f := KL_bad_L0 y.pace y.ready a m j us) (fun i => (i : Int)) us.length (fun i => ¬ ((ele y.ready a ≤ ele y.ready m + j * y.pace ∧ ele y.ready m + j * y.pace ≤ (ele us (i : Int)).til) ∨ ((ele us (i : Int)).later = true ∧ 0 < j ∧ ele y.ready m + j * y.pace ≤ (ele us (i : Int)).til))) (fun i => true) (fun i hi _ => by
   unfold KL_bad_L0
   rw [br_T (by unfold ln; omega), ck_IX (by omega) (by unfold ln; omega), ck_IX (by omega) (by unfold ln; omega)]
   have hb : (((decide (((ele y.ready m) + (j * y.pace)) ≥ (ele y.ready a))) && (decide (((ele y.ready m) + (j * y.pace)) ≤ (ele us (i : Int)).til))) || (((ele us (i : Int)).later && (decide (j > 0))) && (decide (((ele y.ready m) + (j * y.pace)) ≤ (ele us (i : Int)).til)))) = tb ((ele y.ready a ≤ ele y.ready m + j * y.pace ∧ ele y.ready m + j * y.pace ≤ (ele us (i : Int)).til) ∨ ((ele us (i : Int)).later = true ∧ 0 < j ∧ ele y.ready m + j * y.pace ≤ (ele us (i : Int)).til)) := tb_eq (by simp [and_assoc])
   rw [hb]
   exact ⟨fun h => by rw [tb_f h, br_false, ck_IR (by omega) (by omega)]; rfl, fun h => by rw [tb_t (Classical.not_not.1 h), br_true]⟩) (by unfold KL_bad_L0; exact br_F (by unfold ln; omega)) with ⟨q1, e⟩ | ⟨i, q1, q2, _, e⟩
 ·rw [show lp (KL_bad_L0 y.pace y.ready a m j us) 0 = _ from e, bd_ret, Out.on_go, ck_imp (fun _ => ⟨by omega, by unfold ln; omega⟩), contains_s _ hy.lo, bdG_some']
  congr 1
  refine tb_eq ?_
  have hno : ¬ ∃ k r, LookP y a m j k r := by
   rintro ⟨k, r, hk, hr, hs, hn⟩
   obtain ⟨i, hi, he⟩ := mem_ele ((hus _).2 ⟨k, hk, r, hr, hs, rfl⟩)
   refine q1 i hi ?_
   rw [he]
   simpa using hn
  unfold BadP OutP
  constructor
  ·intro h
   by_cases c : j ≤ 0 <;> by_cases d : ele y.ready a ≤ ele y.ready m + j * y.pace <;> by_cases f : (a : Int) ∈ y.outs <;> simp [c, d, f, tb_t, tb_f] at h ⊢
  ·rintro (h | ⟨c, d, f⟩)
   ·exact absurd h hno
   ·have d' : ele y.ready m + j * y.pace ≥ ele y.ready a := d
    rw [tb_t f, decide_eq_true c, decide_eq_true d']
    rfl
 ·rw [show lp (KL_bad_L0 y.pace y.ready a m j us) 0 = _ from e, bd_ret, Out.on_ret, tb_t]
  obtain ⟨k, hk, r, hr, hs, he⟩ := (hus _).1 (ele_mem' q1)
  have q3 := Classical.not_not.1 q2
  rw [he] at q3
  exact .inl ⟨k, r, hk, hr, hs, by simpa using q3⟩
def farJ (y : LayD) : Int := 4000 / y.pace + 1
theorem bad_near {y : LayD} (hy : y.Ok) {a m : Nat} (ha : a < y.body.length) (hm : m < y.body.length) {j : Int} (h : BadP y a m j) : -(4000 / y.pace) - 2 ≤ j ∧ j ≤ farJ y ∧ -1006 ≤ j ∧ j ≤ 1003 ∧ -1006 ≤ j * y.pace := by
 have hp := hy.pace
 have r1 := hy.rd a ha; have r2 := hy.rd m hm
 have hlow : -1006 ≤ j * y.pace → -(4000 / y.pace) - 2 ≤ j := fun hl => by
  have h1 : -j ≤ 4000 / y.pace := Int.le_ediv_of_mul_le (by omega) (by rw [Int.neg_mul]; omega)
  omega
 have hup : j * y.pace ≤ 1000 + 3 * y.pace → j ≤ farJ y ∧ j ≤ 1003 := fun hu => by
  have h1 : j - 3 ≤ 1000 / y.pace := Int.le_ediv_of_mul_le (by omega) (by rw [Int.sub_mul]; omega)
  have h2 : 1000 / y.pace + 2 ≤ 4000 / y.pace := Int.le_ediv_of_mul_le (by omega) (by
   have := Int.ediv_mul_le 1000 (show y.pace ≠ 0 by omega)
   rw [Int.add_mul]; omega)
  have h3 : 1000 / y.pace ≤ 1000 := Int.ediv_le_self _ (by omega)
  unfold farJ
  omega
 have hj : ∀ hl : -1006 ≤ j * y.pace, -1006 ≤ j := fun hl => by
  by_cases c : j < 0
  ·have := Int.mul_le_mul_of_nonneg_left (show (1 : Int) ≤ y.pace by omega) (show 0 ≤ -j by omega)
   rw [Int.neg_mul j y.pace] at this
   omega
  ·omega
 have hpos : 0 < j → 0 ≤ j * y.pace := fun h0 => Int.mul_nonneg (by omega) (by omega)
 have hnp : j ≤ 0 → j * y.pace ≤ 0 := fun h0 => by
  have := Int.mul_le_mul_of_nonneg_right h0 (show 0 ≤ y.pace by omega)
  omega
 rcases h with ⟨k, r, q⟩ | ⟨q1, q2, q3⟩
 ·have hk := hy.tm k q.kn
  have hu := hy.us k q.kn r q.mem
  have m1 := Int.mul_le_mul_of_nonneg_right (show r.bk ≤ 3 by omega) (show 0 ≤ y.pace by omega)
  have hl : -1006 ≤ j * y.pace := by
   rcases q.near with ⟨n1, n2⟩ | ⟨n1, n2, n3⟩
   ·omega
   ·have := hpos n2; omega
  have hh : j * y.pace ≤ 1000 + 3 * y.pace := by
   rcases q.near with ⟨n1, n2⟩ | ⟨n1, n2, n3⟩ <;> omega
  have := hup hh
  exact ⟨hlow hl, this.1, hj hl, this.2, hl⟩
 ·have hl : -1006 ≤ j * y.pace := by omega
  have := hup (by have := hnp q1; omega)
  exact ⟨hlow hl, this.1, hj hl, this.2, hl⟩
theorem tm2 {d R : Int} (hR : 1 ≤ R) (hR2 : R ≤ 128) : Int.tmod (Int.tmod d R + R) R = d % R := by
 have ht := tmod_lt' d (show 0 < R by omega)
 rw [Int.tmod_eq_emod_of_nonneg (by omega), Int.add_emod_right]
 have h := Int.tmod_add_mul_tdiv d R
 rw [show Int.tmod d R = d - R * Int.tdiv d R from by omega, Int.sub_mul_emod_self_left]
theorem apart_s {y : LayD} (hy : y.Ok) {a m : Nat} (ha : a < y.body.length) (hm : m < y.body.length) : KL_Apart_m y.body y.outs y.pace y.regs y.time y.ready y.places a m = some (tb (ApartP y a m)) := by
 obtain ⟨us, u1, u2, u3⟩ := uses_l hy a
 have hp := hy.pace; have hR := hy.regs
 have p1 := hy.pl a ha; have p2 := hy.pl m hm
 have hlp := hy.lp
 have ht := tmod_lt' (ele y.places (a : Int) - ele y.places (m : Int)) (show 0 < y.regs by omega)
 have hf : Int.tdiv 4000 y.pace = 4000 / y.pace := Int.tdiv_eq_ediv_of_nonneg (by omega)
 have hf0 : 0 ≤ 4000 / y.pace := Int.ediv_nonneg (by omega) (by omega)
 have hf1 : 4000 / y.pace ≤ 4000 := Int.ediv_le_self _ (by omega)
 have hq : Int.tdiv (4000 / y.pace + 1) y.regs = (4000 / y.pace + 1) / y.regs := Int.tdiv_eq_ediv_of_nonneg (by omega)
 have hq0 : 0 ≤ (4000 / y.pace + 1) / y.regs := Int.ediv_nonneg (by omega) (by omega)
 have hq1 : (4000 / y.pace + 1) / y.regs ≤ 4001 := Int.le_trans (Int.ediv_le_self _ (by omega)) (by omega)
 have hq2 := Int.ediv_mul_le (4000 / y.pace + 1) (show y.regs ≠ 0 by omega)
 have hq3 := Int.lt_ediv_add_one_mul_self (4000 / y.pace + 1) (show 0 < y.regs by omega)
 have hd0 := Int.emod_nonneg (ele y.places (a : Int) - ele y.places (m : Int)) (show y.regs ≠ 0 by omega)
 have hd1 := Int.emod_lt_of_pos (ele y.places (a : Int) - ele y.places (m : Int)) (show 0 < y.regs by omega)
 unfold KL_Apart_m
 rw [u1, bd_ret, ck_IX (by omega) (by unfold ln; omega), ck_IX (by omega) (by unfold ln; omega), ck_IR (by omega) (by omega), ck_yes (by omega), ck_IR (by omega) (by omega), ck_yes (by omega), ck_yes (by omega), hf, ck_IR (by omega) (by omega), ck_IR (by omega) (by omega), ck_yes (by omega), hq, ck_IR (by omega) (by omega), ck_IR (by omega) (by omega)]
 rw [Int.add_mul] at hq3
 have e2 : ((4000 / y.pace + 1) / y.regs + 2) * y.regs = (4000 / y.pace + 1) / y.regs * y.regs + 2 * y.regs := Int.add_mul ..
 rw [tm2 hR.1 hR.2, e2, ck_IR (by omega) (by omega), ck_IR (by omega) (by omega)]
 generalize hlo : (ele y.places (a : Int) - ele y.places (m : Int)) % y.regs - ((4000 / y.pace + 1) / y.regs * y.regs + 2 * y.regs) = lo
 have hfar : farJ y = 4000 / y.pace + 1 := rfl
 have hlob : lo < -(4000 / y.pace) - 1 ∧ -10000 ≤ lo := by omega
 have hN0 : 0 ≤ (farJ y - lo) / y.regs := Int.ediv_nonneg (by omega) (by omega)
 obtain ⟨N, hN⟩ := Int.eq_ofNat_of_zero_le (show 0 ≤ (farJ y - lo) / y.regs + 1 by omega)
 have hN1 := Int.ediv_mul_le (farJ y - lo) (show y.regs ≠ 0 by omega)
 have hN2 := Int.lt_ediv_add_one_mul_self (farJ y - lo) (show 0 < y.regs by omega)
 rw [hN] at hN2
 have hst : ∀ i : Nat, i < N → lo + (i : Int) * y.regs ≤ farJ y ∧ lo ≤ lo + (i : Int) * y.regs := fun i hi => by
  have h1 := Int.mul_le_mul_of_nonneg_right (show (i : Int) ≤ (farJ y - lo) / y.regs by omega) (show 0 ≤ y.regs by omega)
  have h2 := Int.mul_nonneg (show 0 ≤ (i : Int) by omega) (show 0 ≤ y.regs by omega)
  omega
 have hcong : ∀ i : Int, (ele y.places (m : Int) + (lo + i * y.regs) - ele y.places (a : Int)) % y.regs = 0 := fun i => by
  have h1 := Int.emod_add_mul_ediv (ele y.places (a : Int) - ele y.places (m : Int)) y.regs
  have e : ele y.places (m : Int) + (lo + i * y.regs) - ele y.places (a : Int) = (i - (ele y.places (a : Int) - ele y.places (m : Int)) / y.regs - ((4000 / y.pace + 1) / y.regs + 2)) * y.regs := by
   rw [Int.sub_mul, Int.sub_mul, e2, Int.mul_comm ((ele y.places (a : Int) - ele y.places (m : Int)) / y.regs)]
   omega
  rw [e, Int.mul_emod_left]
 have X := lp_det2 (f := KL_Apart_L0 y.outs y.pace y.regs y.ready a m us) (ρ := Bool) (fun i => lo + (i : Int) * y.regs) N (fun i => ¬ (((m : Int) ≠ a ∨ lo + (i : Int) * y.regs ≠ 0) ∧ BadP y a m (lo + (i : Int) * y.regs))) (fun _ => false) (fun i hi _ => by
  have h1 := hst i hi
  unfold KL_Apart_L0
  rw [hf, br_T (by omega), bad_s hy ha hm (by omega) (by omega) u2 u3, bdG_some']
  have hb : ((((m : Int) != a) || (lo + (i : Int) * y.regs != 0)) && (if (((m : Int) != a) || (lo + (i : Int) * y.regs != 0)) = true then tb (BadP y a m (lo + (i : Int) * y.regs)) else false)) = tb (((m : Int) ≠ a ∨ lo + (i : Int) * y.regs ≠ 0) ∧ BadP y a m (lo + (i : Int) * y.regs)) := by
   rw [show (((m : Int) != a) || (lo + (i : Int) * y.regs != 0)) = tb ((m : Int) ≠ a ∨ lo + (i : Int) * y.regs ≠ 0) from tb_eq (by simp)]
   by_cases c : ((m : Int) ≠ a ∨ lo + (i : Int) * y.regs ≠ 0)
   ·rw [tb_t c, if_pos rfl, Bool.true_and]; exact tb_congr ⟨fun h => ⟨c, h⟩, fun h => h.2⟩
   ·rw [tb_f c, Bool.false_and, tb_f fun h => c h.1]
  rw [hb]
  exact ⟨fun h => by rw [tb_f h, br_false, ck_IR (by omega) (by omega)]; refine congrArg some (congrArg Stp.next ?_); rw [show ((i + 1 : Nat) : Int) = (i : Int) + 1 from by omega, Int.add_mul]; omega, fun h => by rw [tb_t (Classical.not_not.1 h), br_true]⟩) (by
  unfold KL_Apart_L0
  rw [hf]
  exact br_F (by omega))
 rw [show lo + ((0 : Nat) : Int) * y.regs = lo from by rw [show ((0 : Nat) : Int) = 0 from rfl, Int.zero_mul]; omega] at X
 rcases X with ⟨h1, e⟩ | ⟨i, h1, h2, _, e⟩
 ·rw [e, bd_ret, Out.on_go, tb_t]
  intro j hj hz hbad
  have hb := bad_near hy ha hm hbad
  obtain ⟨z, hz⟩ := Int.dvd_of_emod_eq_zero hz
  have h3 := Int.emod_add_mul_ediv (ele y.places (a : Int) - ele y.places (m : Int)) y.regs
  have e3 : j - lo = y.regs * (z + (ele y.places (a : Int) - ele y.places (m : Int)) / y.regs + ((4000 / y.pace + 1) / y.regs + 2)) := by
   rw [Int.mul_add, Int.mul_add, ← hz, Int.mul_comm y.regs ((4000 / y.pace + 1) / y.regs + 2), e2]
   omega
  generalize z + (ele y.places (a : Int) - ele y.places (m : Int)) / y.regs + ((4000 / y.pace + 1) / y.regs + 2) = i at e3
  have hi0 : 0 ≤ i := by
   by_cases c : i < 0
   ·have := Int.mul_le_mul_of_nonneg_left (show i ≤ -1 by omega) (show 0 ≤ y.regs by omega)
    omega
   ·omega
  have hi1 : i ≤ (farJ y - lo) / y.regs := Int.le_ediv_of_mul_le (by omega) (by rw [Int.mul_comm]; omega)
  obtain ⟨i', rfl⟩ := Int.eq_ofNat_of_zero_le hi0
  have hj' : lo + (i' : Int) * y.regs = j := by rw [Int.mul_comm]; omega
  have := h1 i' (by omega)
  rw [hj'] at this
  exact this ⟨hj, hbad⟩
 ·rw [e, bd_ret, Out.on_ret, tb_f]
  intro h
  have h3 := Classical.not_not.1 h2
  exact h _ h3.1 (hcong i) h3.2
noncomputable def R5_Uses_m (op : Int) : Option (Int) :=
 br (op == 4) (
 some 1) (
 br (decide (op > 10)) (
 some 2) (
 some 0))
noncomputable def R5_one_m (t : Tgt) (k_ : Krn) (o : Opr) (logs : List Int) : Option (Bool) :=
 ck ((!((((decide (o.slot < 0)) || (decide (o.slot ≥ k_.pace))) || (decide (o.stage < 0))) || (decide (o.stage ≥ k_.stages)))) = true → IR (o.stage * k_.pace)) <|
 ck ((!((((decide (o.slot < 0)) || (decide (o.slot ≥ k_.pace))) || (decide (o.stage < 0))) || (decide (o.stage ≥ k_.stages)))) = true → IR ((o.stage * k_.pace) + o.slot)) <|
 br (((((decide (o.slot < 0)) || (decide (o.slot ≥ k_.pace))) || (decide (o.stage < 0))) || (decide (o.stage ≥ k_.stages))) || (decide (((o.stage * k_.pace) + o.slot) > 1000))) (
 some false) (
 bd (R5_Uses_m o.op) fun x11 =>
 br ((((((((decide (o.dest < 0)) || (decide (o.dest ≥ t.regs))) || (decide (o.a < 0))) || (decide (o.b < 0))) || (decide (o.a ≥ t.regs))) || (decide (o.b ≥ t.regs))) || ((decide (x11 < 1)) && (o.a != 0))) || ((decide (x11 < 2)) && (o.b != 0))) (
 some false) (
 bd (R2_May_m (Lp.mk logs [(Stm.mk 2 (Rf.mk 0 0) (Rf.mk 0 0) 0 0 0 0), (Stm.mk o.op (Rf.mk 0 0) (Rf.mk 0 0) o.ar o.sp o.pl o.n)] [])) fun x19 =>
 some x19))
noncomputable def R5_May_L2 (k_ : Krn) (i7_2 x39 : Int) : (Int × Int) → Option (Stp (Int × Int) (Empty)) := fun (many9_3, j10_3) =>
 br (decide (j10_3 < (ln k_.ops))) (
 ck (IX j10_3 (ln k_.ops)) <|
 ck (IX i7_2 (ln k_.ops)) <|
 ck (((ele k_.ops j10_3).slot == (ele k_.ops i7_2).slot) = true → IX j10_3 (ln k_.ops)) <|
 bdG ((ele k_.ops j10_3).slot == (ele k_.ops i7_2).slot) (R1_Class_m ((ele k_.ops j10_3).op)) fun x61 =>
 br (((ele k_.ops j10_3).slot == (ele k_.ops i7_2).slot) && (x61 == x39)) (
 ck (IR (many9_3 + 1)) <|
 ck (IR (j10_3 + 1)) <|
 some (.next ((many9_3 + 1), (j10_3 + 1)))) (
 ck (IR (j10_3 + 1)) <|
 some (.next (many9_3, (j10_3 + 1))))) (
 some (.brk (many9_3, j10_3)))
noncomputable def R5_May_L0 (t : Tgt) (k_ : Krn) (logs : List Int) : Int → Option (Stp (Int) (Bool)) := fun i7_2 =>
 br (decide (i7_2 < (ln k_.ops))) (
 ck (IX i7_2 (ln k_.ops)) <|
 bd (R5_one_m t k_ (ele k_.ops i7_2) logs) fun x29 =>
 br (!x29) (
 some (.ret false)) (
 ck (IX i7_2 (ln k_.ops)) <|
 bd (R1_Class_m ((ele k_.ops i7_2).op)) fun x39 =>
 bd (lp (R5_May_L2 k_ i7_2 x39) (0, 0)) fun o42 => o42.on (fun (many9_3, j10_3) =>
 ck (IX x39 3) <|
 br (decide (many9_3 > (sel3 t.u0 t.u1 t.u2 x39))) (
 some (.ret false)) (
 ck (IR (i7_2 + 1)) <|
 some (.next (i7_2 + 1)))) (fun r => r.elim))) (
 some (.brk i7_2))
noncomputable def R5_May_m (t : Tgt) (k_ : Krn) (logs : List Int) : Option (Bool) :=
 bd (R4_May_m t) fun x3 =>
 bdG (!(!x3)) (R2_Within_m k_.pace 1 200) fun x6 =>
 bdG (!((!x3) || (!x6))) (R2_Within_m k_.stages 1 1001) fun x9 =>
 bdG (!(((!x3) || (!x6)) || (!x9))) (R2_Within_m (ln k_.ops) 1 16) fun x12 =>
 br ((((!x3) || (!x6)) || (!x9)) || (!x12)) (
 some false) (
 bd (lp (R5_May_L0 t k_ logs) 0) fun o18 => o18.on (fun i7_2 =>
 some true) (fun r => some r))
noncomputable def R10_Layout_L2 (order : List Int) (s12_4 : Int) : Int → Option (Stp (Int) (List Off × Bool)) := fun i13_5 =>
 br (decide (i13_5 < s12_4)) (
 ck (IX i13_5 (ln order)) <|
 ck (IX s12_4 (ln order)) <|
 br ((ele order i13_5) == (ele order s12_4)) (
 some (.ret ([], false))) (
 ck (IR (i13_5 + 1)) <|
 some (.next (i13_5 + 1)))) (
 some (.brk i13_5))
noncomputable def R10_Layout_L0 (l : Lp) (t : Tgt) (k_ : Krn) (order : List Int) : ((List Off) × Int) → Option (Stp ((List Off) × Int) (List Off × Bool)) := fun (v13_4, s12_4) =>
 br (decide (s12_4 < (ln l.body))) (
 ck (IX s12_4 (ln order)) <|
 ck ((!(decide ((ele order s12_4) < 0))) = true → IX s12_4 (ln order)) <|
 br ((decide ((ele order s12_4) < 0)) || (decide ((ele order s12_4) ≥ (ln l.body)))) (
 some (.ret ([], false))) (
 bd (lp (R10_Layout_L2 order s12_4) 0) fun o32 => o32.on (fun i13_5 =>
 ck (IX s12_4 (ln order)) <|
 ck (IX (ele order s12_4) (ln k_.ops)) <|
 ck (IX s12_4 (ln l.body)) <|
 br ((((((ele k_.ops (ele order s12_4)).op != (ele l.body s12_4).op) || ((ele k_.ops (ele order s12_4)).ar != (ele l.body s12_4).ar)) || ((ele k_.ops (ele order s12_4)).sp != (ele l.body s12_4).sp)) || ((ele k_.ops (ele order s12_4)).pl != (ele l.body s12_4).pl)) || ((ele k_.ops (ele order s12_4)).n != (ele l.body s12_4).n)) (
 some (.ret ([], false))) (
 ck (IR (k_.pace * (ele k_.ops (ele order s12_4)).stage)) <|
 ck (IR ((ele k_.ops (ele order s12_4)).slot + (k_.pace * (ele k_.ops (ele order s12_4)).stage))) <|
 bd (R4_Wait_m t ((ele k_.ops (ele order s12_4)).op)) fun x58 =>
 ck (IR (((ele k_.ops (ele order s12_4)).slot + (k_.pace * (ele k_.ops (ele order s12_4)).stage)) + x58)) <|
 ck (IR ((ele k_.ops (ele order s12_4)).dest + (ele k_.ops (ele order s12_4)).stage)) <|
 ck (AL (v13_4 ++ [(Off.mk ((ele k_.ops (ele order s12_4)).slot + (k_.pace * (ele k_.ops (ele order s12_4)).stage)) (((ele k_.ops (ele order s12_4)).slot + (k_.pace * (ele k_.ops (ele order s12_4)).stage)) + x58) ((ele k_.ops (ele order s12_4)).dest + (ele k_.ops (ele order s12_4)).stage))]).length 24) <|
 ck (IR (s12_4 + 1)) <|
 some (.next ((v13_4 ++ [(Off.mk ((ele k_.ops (ele order s12_4)).slot + (k_.pace * (ele k_.ops (ele order s12_4)).stage)) (((ele k_.ops (ele order s12_4)).slot + (k_.pace * (ele k_.ops (ele order s12_4)).stage)) + x58) ((ele k_.ops (ele order s12_4)).dest + (ele k_.ops (ele order s12_4)).stage))]), (s12_4 + 1))))) (fun r => some (.ret r)))) (
 some (.brk (v13_4, s12_4)))
noncomputable def R10_Layout_m (l : Lp) (t : Tgt) (k_ : Krn) (order : List Int) : Option (List Off × Bool) :=
 bd (R6_May_m l t) fun x4 =>
 bdG (!(!x4)) (R5_May_m t k_ l.logs) fun x7 =>
 br ((((!x4) || (!x7)) || ((ln k_.ops) != (ln l.body))) || ((ln order) != (ln l.body))) (
 some ([], false)) (
 bd (lp (R10_Layout_L0 l t k_ order) ([], 0)) fun o14 => o14.on (fun (v13_4, s12_4) =>
 some (v13_4, true)) (fun r => some r))
noncomputable def R10_Far_L2 (a : Int) (x13 : List Rf) : (Int × Int) → Option (Stp (Int × Int) (Empty)) := fun (far5_4, k8_4) =>
 br (decide (k8_4 < (ln x13))) (
 ck (IX k8_4 (ln x13)) <|
 ck (((ele x13 k8_4).st == a) = true → IX k8_4 (ln x13)) <|
 br (((ele x13 k8_4).st == a) && (decide ((ele x13 k8_4).bk > far5_4))) (
 ck (IX k8_4 (ln x13)) <|
 ck (IR (k8_4 + 1)) <|
 some (.next ((ele x13 k8_4).bk, (k8_4 + 1)))) (
 ck (IR (k8_4 + 1)) <|
 some (.next (far5_4, (k8_4 + 1))))) (
 some (.brk (far5_4, k8_4)))
noncomputable def R10_Far_L0 (l : Lp) (a : Int) : (Int × Int) → Option (Stp (Int × Int) (Empty)) := fun (far5_3, i6_3) =>
 br (decide (i6_3 < (ln l.body))) (
 ck (IX i6_3 (ln l.body)) <|
 bd (R2_Uses_m (ele l.body i6_3)) fun x13 =>
 bd (lp (R10_Far_L2 a x13) (far5_3, 0)) fun o17 => o17.on (fun (far5_4, k8_4) =>
 ck (IR (i6_3 + 1)) <|
 some (.next (far5_4, (i6_3 + 1)))) (fun r => r.elim)) (
 some (.brk (far5_3, i6_3)))
noncomputable def R10_Far_m (l : Lp) (a : Int) : Option (Int) :=
 bd (lp (R10_Far_L0 l a) (0, 0)) fun o2 => o2.on (fun (far5_3, i6_3) =>
 some far5_3) (fun r => r.elim)
def usesN (op : Int) : Int := if op = 4 then 1 else if op > 10 then 2 else 0
def turnS : Stm := ⟨2, ⟨0, 0⟩, ⟨0, 0⟩, 0, 0, 0, 0⟩
def stmO (o : Opr) : Stm := ⟨o.op, ⟨0, 0⟩, ⟨0, 0⟩, o.ar, o.sp, o.pl, o.n⟩
def lpO (logs : List Int) (o : Opr) : Lp := ⟨logs, [turnS, stmO o], []⟩
def SlotP (k : Krn) (o : Opr) : Prop := 0 ≤ o.slot ∧ o.slot < k.pace ∧ 0 ≤ o.stage ∧ o.stage < k.stages ∧ o.stage * k.pace + o.slot ≤ 1000
def NamesP (t : Tgt) (o : Opr) : Prop := 0 ≤ o.dest ∧ o.dest < t.regs ∧ 0 ≤ o.a ∧ o.a < t.regs ∧ 0 ≤ o.b ∧ o.b < t.regs ∧ (usesN o.op < 1 → o.a = 0) ∧ (usesN o.op < 2 → o.b = 0)
def OneP (t : Tgt) (k : Krn) (o : Opr) (logs : List Int) : Prop := SlotP k o ∧ NamesP t o ∧ LoopOk (lpO logs o)
theorem rUses_s (op : Int) : R5_Uses_m op = some (usesN op) := by
 unfold R5_Uses_m usesN
 by_cases h : op = 4
 ·simp [h, br]
 ·by_cases h2 : op > 10
  ·have h3 : (op == 4) = false := by simp [h]
   simp [h, h2, h3, br]
  ·have h3 : (op == 4) = false := by simp [h]
   simp [h, h2, h3, br]
theorem one_s {t : Tgt} {k : Krn} {o : Opr} {logs : List Int} (hp : 1 ≤ k.pace ∧ k.pace ≤ 200) (hs : 1 ≤ k.stages ∧ k.stages ≤ 1001) (hf : (lpO logs o).Fine) : R5_one_m t k o logs = some (tb (OneP t k o logs)) := by
 unfold R5_one_m
 have hir : (!((((decide (o.slot < 0)) || (decide (o.slot ≥ k.pace))) || (decide (o.stage < 0))) || (decide (o.stage ≥ k.stages)))) = true → (0 ≤ o.stage * k.pace ∧ o.stage * k.pace ≤ 1001 * 200 ∧ 0 ≤ o.slot ∧ o.slot < 200) := fun h => by
  simp only [Bool.not_eq_true', Bool.or_eq_false_iff, decide_eq_false_iff_not] at h
  have m1 := mul_le (a := o.stage) (A := 1001) (b := k.pace) (B := 200) (by omega) (by omega) (by omega) (by omega)
  have m2 := Int.mul_nonneg (show 0 ≤ o.stage by omega) (show 0 ≤ k.pace by omega)
  omega
 rw [ck_imp (fun h => by have := hir h; exact ⟨by omega, by omega⟩), ck_imp (fun h => by have := hir h; exact ⟨by omega, by omega⟩)]
 have hb : (((((decide (o.slot < 0)) || (decide (o.slot ≥ k.pace))) || (decide (o.stage < 0))) || (decide (o.stage ≥ k.stages))) || (decide (((o.stage * k.pace) + o.slot) > 1000))) = !tb (SlotP k o) := by
  rw [show tb (SlotP k o) = !(((((decide (o.slot < 0)) || (decide (o.slot ≥ k.pace))) || (decide (o.stage < 0))) || (decide (o.stage ≥ k.stages))) || (decide (((o.stage * k.pace) + o.slot) > 1000))) from (tb_eq (by unfold SlotP; simp [and_assoc])).symm, Bool.not_not]
 rw [hb, rUses_s, bd_ret]
 have hc : ((((((((decide (o.dest < 0)) || (decide (o.dest ≥ t.regs))) || (decide (o.a < 0))) || (decide (o.b < 0))) || (decide (o.a ≥ t.regs))) || (decide (o.b ≥ t.regs))) || ((decide (usesN o.op < 1)) && (o.a != 0))) || ((decide (usesN o.op < 2)) && (o.b != 0))) = !tb (NamesP t o) := by
  rw [show tb (NamesP t o) = !((((((((decide (o.dest < 0)) || (decide (o.dest ≥ t.regs))) || (decide (o.a < 0))) || (decide (o.b < 0))) || (decide (o.a ≥ t.regs))) || (decide (o.b ≥ t.regs))) || ((decide (usesN o.op < 1)) && (o.a != 0))) || ((decide (usesN o.op < 2)) && (o.b != 0))) from (tb_eq (by
   unfold NamesP
   simp only [Bool.not_eq_true', Bool.or_eq_false_iff, decide_eq_false_iff_not, Bool.and_eq_false_iff, bne_eq_false_iff_eq, Int.not_lt, Int.not_le, ge_iff_le]
   constructor
   ·rintro ⟨⟨⟨⟨⟨⟨⟨a1, a2⟩, a3⟩, a4⟩, a5⟩, a6⟩, a7⟩, a8⟩
    exact ⟨a1, a2, a3, a5, a4, a6, fun h => a7.resolve_left (by omega), fun h => a8.resolve_left (by omega)⟩
   ·rintro ⟨a1, a2, a3, a5, a4, a6, a7, a8⟩
    refine ⟨⟨⟨⟨⟨⟨⟨a1, a2⟩, a3⟩, a4⟩, a5⟩, a6⟩, ?_⟩, ?_⟩
    ·by_cases h : usesN o.op < 1
     ·exact .inr (a7 h)
     ·exact .inl (by omega)
    ·by_cases h : usesN o.op < 2
     ·exact .inr (a8 h)
     ·exact .inl (by omega))).symm, Bool.not_not]
 rw [hc, show R2_May_m (Lp.mk logs [(Stm.mk 2 (Rf.mk 0 0) (Rf.mk 0 0) 0 0 0 0), (Stm.mk o.op (Rf.mk 0 0) (Rf.mk 0 0) o.ar o.sp o.pl o.n)] []) = _ from ref_May_s (lpO logs o) hf, bd_ret]
 by_cases h1 : SlotP k o
 ·by_cases h2 : NamesP t o
  ·rw [tb_t h1, tb_t h2]
   show some _ = some _
   congr 1
   exact tb_congr ⟨fun h => ⟨h1, h2, h⟩, fun h => h.2.2⟩
  ·rw [tb_t h1, tb_f h2, tb_f fun h : OneP t k o logs => h2 h.2.1]; rfl
 ·rw [tb_f h1, tb_f fun h : OneP t k o logs => h1 h.1]; rfl
def keyO (k : Krn) (i : Nat) : Int × Int := ((ele k.ops (i : Int)).slot, clsV (ele k.ops (i : Int)).op)
def cntO (k : Krn) (n : Nat) (κ : Int × Int) : Nat := (List.range n).countP fun j => decide (keyO k j = κ)
theorem cntO_succ (k : Krn) (n : Nat) (κ : Int × Int) : cntO k (n + 1) κ = cntO k n κ + if keyO k n = κ then 1 else 0 := by
 unfold cntO
 rw [List.range_succ, List.countP_append, List.countP_singleton]
 by_cases h : keyO k n = κ <;> simp [h]
theorem cntO_le (k : Krn) (κ : Int × Int) : ∀ n, cntO k n κ ≤ n
 | 0 => Nat.le_refl _
 | n + 1 => by rw [cntO_succ]; have := cntO_le k κ n; split <;> omega
structure KMayP (t : Tgt) (k : Krn) (logs : List Int) : Prop where
 tgt : tgtOk t = true
 pace : 1 ≤ k.pace ∧ k.pace ≤ 200
 stages : 1 ≤ k.stages ∧ k.stages ≤ 1001
 n : 1 ≤ k.ops.length ∧ k.ops.length ≤ 16
 one : ∀ i : Nat, i < k.ops.length → OneP t k (ele k.ops (i : Int)) logs
 units : ∀ i : Nat, i < k.ops.length → (cntO k k.ops.length (keyO k i) : Int) ≤ unitsV t (keyO k i).2
theorem within_s (n a b : Int) : R2_Within_m n a b = some (tb (a ≤ n ∧ n ≤ b)) := by
 unfold R2_Within_m
 congr 1
 exact tb_eq (by simp)
theorem kMay_s {t : Tgt} {k : Krn} {logs : List Int} (hf : ∀ i : Nat, i < k.ops.length → (lpO logs (ele k.ops (i : Int))).Fine) : R5_May_m t k logs = some (tb (KMayP t k logs)) := by
 unfold R5_May_m
 rw [ref_tMay_s, bd_ret, within_s, bdG_some', within_s, bdG_some', within_s, bdG_some']
 by_cases h : (tgtOk t = true ∧ (1 ≤ k.pace ∧ k.pace ≤ 200)) ∧ (1 ≤ k.stages ∧ k.stages ≤ 1001) ∧ (1 ≤ k.ops.length ∧ k.ops.length ≤ 16)
 ·obtain ⟨⟨h1, h2⟩, h3, h4⟩ := h
  rw [h1, tb_t h2, tb_t h3, tb_t (p := 1 ≤ ln k.ops ∧ ln k.ops ≤ 16) ⟨by unfold ln; omega, by unfold ln; omega⟩]
  simp only [Bool.not_true, Bool.or_self, Bool.not_false, if_true, br_false]
  have X := lp_det2 (f := R5_May_L0 t k logs) (ρ := Bool) (fun i => (i : Int)) k.ops.length (fun i => OneP t k (ele k.ops (i : Int)) logs ∧ (cntO k k.ops.length (keyO k i) : Int) ≤ unitsV t (keyO k i).2) (fun _ => false) (fun i hi _ => by
   have hc := clsV_range (ele k.ops (i : Int)).op
   have Y := lp_det (f := R5_May_L2 k i (clsV (ele k.ops (i : Int)).op)) (ρ := Empty) (fun j => ((cntO k j (keyO k i) : Int), (j : Int))) k.ops.length (fun j hj => by
    have hcl := cntO_le k (keyO k i) j
    unfold R5_May_L2
    simp only
    rw [br_T (by unfold ln; omega), ck_IX (by omega) (by unfold ln; omega), ck_IX (by omega) (by unfold ln; omega), ck_imp (fun _ => ⟨by omega, by unfold ln; omega⟩), ref_Class_s, bdG_any, cntO_succ]
    have hb : (((ele k.ops (j : Int)).slot == (ele k.ops (i : Int)).slot) && ((if ((ele k.ops (j : Int)).slot == (ele k.ops (i : Int)).slot) = true then clsV (ele k.ops (j : Int)).op else default) == clsV (ele k.ops (i : Int)).op)) = tb (keyO k j = keyO k i) := by
     refine tb_eq ?_
     unfold keyO
     by_cases hq : (ele k.ops (j : Int)).slot = (ele k.ops (i : Int)).slot
     ·simp [hq]
     ·simp [hq]
    rw [hb]
    by_cases hq : keyO k j = keyO k i
    ·rw [tb_t hq, br_true, ck_IR (by omega) (by omega), ck_IR (by omega) (by omega), if_pos hq]; rfl
    ·rw [tb_f hq, br_false, ck_IR (by omega) (by omega), if_neg hq]; rfl) (by unfold R5_May_L2; exact br_F (by unfold ln; omega))
   unfold R5_May_L0
   rw [br_T (by unfold ln; omega), ck_IX (by omega) (by unfold ln; omega), one_s h2 h3 (hf i hi), bd_ret]
   by_cases h5 : OneP t k (ele k.ops (i : Int)) logs
   ·rw [tb_t h5, Bool.not_true, br_false, ck_IX (by omega) (by unfold ln; omega), ref_Class_s, bd_ret, show lp (R5_May_L2 k i (clsV (ele k.ops (i : Int)).op)) (0, 0) = _ from Y, bd_ret, Out.on_go]
    simp only
    rw [ck_IX hc.1 hc.2]
    have he : sel3 t.u0 t.u1 t.u2 (clsV (ele k.ops (i : Int)).op) = unitsV t (keyO k i).2 := rfl
    rw [he]
    exact ⟨fun h => by rw [br_F (by omega), ck_IR (by omega) (by omega)]; rfl, fun h => by rw [br_T (by have : ¬ (cntO k k.ops.length (keyO k i) : Int) ≤ unitsV t (keyO k i).2 := fun h' => h ⟨h5, h'⟩; omega)]⟩
   ·rw [tb_f h5]
    exact ⟨fun h => absurd h.1 h5, fun _ => rfl⟩) (by unfold R5_May_L0; exact br_F (by unfold ln; omega))
  rcases X with ⟨q1, e⟩ | ⟨i, q1, q2, _, e⟩
  ·rw [show lp (R5_May_L0 t k logs) 0 = _ from e, bd_ret, Out.on_go, tb_t (p := KMayP t k logs) ⟨h1, h2, h3, h4, fun i hi => (q1 i hi).1, fun i hi => (q1 i hi).2⟩]
  ·rw [show lp (R5_May_L0 t k logs) 0 = _ from e, bd_ret, Out.on_ret, tb_f fun h : KMayP t k logs => q2 ⟨h.one i q1, h.units i q1⟩]
 ·rw [tb_f fun hk : KMayP t k logs => h ⟨⟨hk.tgt, hk.pace⟩, hk.stages, hk.n⟩]
  by_cases h1 : tgtOk t = true
  ·by_cases h2 : 1 ≤ k.pace ∧ k.pace ≤ 200
   ·by_cases h3 : 1 ≤ k.stages ∧ k.stages ≤ 1001
    ·have h4 : ¬ (1 ≤ ln k.ops ∧ ln k.ops ≤ 16) := fun hh => h ⟨⟨h1, h2⟩, h3, by unfold ln at hh; omega⟩
     rw [h1, tb_t h2, tb_t h3, tb_f h4]; rfl
    ·rw [h1, tb_t h2, tb_f h3]; rfl
   ·rw [h1, tb_f h2]; rfl
  ·rw [show tgtOk t = false from by cases hh : tgtOk t with | true => exact absurd hh h1 | false => rfl]; rfl
def regF (y : LayD) (a : Int) (q : Nat) : Int := (ele y.places a - q - 1) % y.regs
def frA (y : LayD) (a : Int) (n : Nat) : List Int := (List.range n).map (regF y a)
def fregs (y : LayD) (L : List Int) : List Int := L.flatMap fun a => frA y a (farV y.body a).toNat
def FirstsP (y : LayD) (L : List Int) : Prop := (fregs y L).Nodup
theorem nodup_snoc {l : List Int} {x : Int} : (l ++ [x]).Nodup ↔ l.Nodup ∧ x ∉ l := by
 rw [List.nodup_append]
 constructor
 ·rintro ⟨h1, _, h3⟩
  exact ⟨h1, fun h => h3 x h x (by simp) rfl⟩
 ·rintro ⟨h1, h2⟩
  exact ⟨h1, by simp, fun a ha b hb e => by
   rw [List.mem_singleton] at hb
   subst hb; subst e
   exact h2 ha⟩
theorem frA_succ (y : LayD) (a : Int) (n : Nat) : frA y a (n + 1) = frA y a n ++ [regF y a n] := rm_succ.symm
theorem nodup_frA {y : LayD} {a : Int} {F : List Int} : ∀ n, (F ++ frA y a n).Nodup ↔ F.Nodup ∧ ∀ i, i < n → regF y a i ∉ F ++ frA y a i
 | 0 => by
  show (F ++ []).Nodup ↔ _
  rw [List.append_nil]
  exact ⟨fun h => ⟨h, fun i hi => absurd hi (Nat.not_lt_zero _)⟩, fun h => h.1⟩
 | n + 1 => by
  rw [frA_succ, ← List.append_assoc, nodup_snoc, nodup_frA n]
  constructor
  ·rintro ⟨⟨h1, h2⟩, h3⟩
   refine ⟨h1, fun i hi => ?_⟩
   by_cases e : i = n
   ·subst e; exact h3
   ·exact h2 i (by omega)
  ·rintro ⟨h1, h2⟩
   exact ⟨⟨h1, fun i hi => h2 i (by omega)⟩, h2 n (by omega)⟩
theorem LayD.Ok.bk {y : LayD} (hy : y.Ok) : ∀ i : Nat, i < y.body.length → ∀ r ∈ usesL (ele y.body (i : Int)), 0 ≤ r.bk ∧ r.bk ≤ 3 := fun i hi r hr => (hy.us i hi r hr).2.2
theorem far_bd {y : LayD} (hy : y.Ok) (a : Int) : 0 ≤ farV y.body a ∧ farV y.body a ≤ 3 := farN_bd hy.bk a _ (Nat.le_refl _)
theorem first_in {y : LayD} (hy : y.Ok) {L : List Int} {i : Nat} (hi : i < L.length) (hL : ∀ x ∈ L, 0 ≤ x ∧ x < y.body.length) {n : Nat} (hn : n ≤ 3) {F : List Int} {m : List (Int × Bool)} (hm : ∀ v, mget m v false = true ↔ v ∈ F) :
  ((∀ q, q < n → regF y (ele L (i : Int)) q ∉ F ++ frA y (ele L (i : Int)) q) ∧ ∃ m', lp (KL_Firsts_L2 y.regs y.places L i n) (m, 0) = some (.go (m', (n : Int))) ∧ ∀ v, mget m' v false = true ↔ v ∈ F ++ frA y (ele L (i : Int)) n) ∨ (¬ (∀ q, q < n → regF y (ele L (i : Int)) q ∉ F ++ frA y (ele L (i : Int)) q) ∧ lp (KL_Firsts_L2 y.regs y.places L i n) (m, 0) = some (.ret false)) := by
 have hR := hy.regs
 have ha := hL _ (ele_mem' hi)
 obtain ⟨a, haa⟩ := Int.eq_ofNat_of_zero_le ha.1
 have hp := hy.pl a (by omega)
 have hlp := hy.lp
 rw [← haa] at hp
 refine lp_chk (f := KL_Firsts_L2 y.regs y.places L i n) (n := n) (r0 := false) (fun q => regF y (ele L (i : Int)) q ∉ F ++ frA y (ele L (i : Int)) q) (fun q m => ∀ v, mget m v false = true ↔ v ∈ F ++ frA y (ele L (i : Int)) q) (fun q g hq hg => ?_) (fun g => by unfold KL_Firsts_L2; exact br_F (by omega)) m (fun v => by rw [hm]; show _ ↔ v ∈ F ++ []; rw [List.append_nil])
 have ht := tmod_lt' (ele y.places (ele L (i : Int)) - (q : Int) - 1) (show 0 < y.regs by omega)
 have he : (ele y.places (ele L (i : Int)) - (q : Int) - 1) % y.regs = regF y (ele L (i : Int)) q := rfl
 unfold KL_Firsts_L2
 simp only
 rw [br_T (by omega), ck_IX (by omega) (by unfold ln; omega), ck_IR (by omega) (by omega), ck_IR (by omega) (by omega), ck_yes (by omega), ck_IR (by omega) (by omega), ck_yes (by omega), tm2 hR.1 hR.2, he]
 by_cases h : regF y (ele L (i : Int)) q ∈ F ++ frA y (ele L (i : Int)) q
 ·rw [(hg _).2 h, br_true]
  exact .inr ⟨fun h' => h' h, rfl⟩
 ·have hf : mget g (regF y (ele L (i : Int)) q) false = false := by
   cases hh : mget g (regF y (ele L (i : Int)) q) false with
   | false => rfl
   | true => exact absurd ((hg _).1 hh) h
  rw [hf, br_false, ck_IR (by omega) (by omega)]
  refine .inl ⟨h, _, rfl, fun v => ?_⟩
  rw [mget_mput, frA_succ, ← List.append_assoc, List.mem_append, List.mem_singleton, ← hg]
  by_cases e : regF y (ele L (i : Int)) q = v
  ·rw [if_pos e]; simp [e]
  ·rw [if_neg e]
   exact ⟨.inl, fun h => h.resolve_right fun h => e h.symm⟩
theorem fregs_take {y : LayD} {L : List Int} {i : Nat} (hi : i < L.length) : fregs y (L.take (i + 1)) = fregs y (L.take i) ++ frA y (ele L (i : Int)) (farV y.body (ele L (i : Int))).toNat := by
 rw [take_next hi]
 unfold fregs
 rw [List.flatMap_append]
 simp
theorem nodup_take {y : LayD} {L : List Int} : ∀ n, n ≤ L.length → ((fregs y (L.take n)).Nodup ↔ ∀ i, i < n → ∀ q, q < (farV y.body (ele L (i : Int))).toNat → regF y (ele L (i : Int)) q ∉ fregs y (L.take i) ++ frA y (ele L (i : Int)) q)
 | 0, _ => by simp [fregs]
 | n + 1, h => by
  rw [fregs_take (by omega), nodup_frA, nodup_take n (by omega)]
  constructor
  ·rintro ⟨h1, h2⟩ i hi
   by_cases e : i = n
   ·subst e; exact h2
   ·exact h1 i (by omega)
  ·intro h1
   exact ⟨fun i hi => h1 i (by omega), h1 n (by omega)⟩
theorem firsts_s {y : LayD} (hy : y.Ok) {L : List Int} (hL : ∀ x ∈ L, 0 ≤ x ∧ x < y.body.length) (hl : L.length ≤ 100000) : KL_Firsts_m y.logs y.body y.outs y.pace y.regs y.places L = some (tb (FirstsP y L)) := by
 have hn := hy.n
 unfold KL_Firsts_m
 have X := lp_chk (f := KL_Firsts_L0 y.logs y.body y.outs y.regs y.places L) (n := L.length) (r0 := false) (fun i => ∀ q, q < (farV y.body (ele L (i : Int))).toNat → regF y (ele L (i : Int)) q ∉ fregs y (L.take i) ++ frA y (ele L (i : Int)) q) (fun i m => ∀ v, mget m v false = true ↔ v ∈ fregs y (L.take i)) (fun i g hi hg => by
  have hf := far_bd hy (ele L (i : Int))
  obtain ⟨n, hn'⟩ := Int.eq_ofNat_of_zero_le hf.1
  unfold KL_Firsts_L0
  simp only
  rw [br_T (by unfold ln; omega), ck_IX (by omega) (by unfold ln; omega), far_s (l := ⟨y.logs, y.body, y.outs⟩) hn.2 hy.bk, bd_ret, show farV (Lp.mk y.logs y.body y.outs).body (ele L (i : Int)) = farV y.body (ele L (i : Int)) from rfl, hn', Int.toNat_natCast]
  rcases first_in hy hi hL (n := n) (by omega) hg with ⟨h1, m', h2, h3⟩ | ⟨h1, h2⟩
  ·refine .inl ⟨h1, m', ?_, fun v => ?_⟩
   ·rw [h2, bd_ret, Out.on_go, ck_IR (by omega) (by omega)]
   ·rw [h3, fregs_take hi, hn', Int.toNat_natCast]
  ·exact .inr ⟨h1, by rw [h2, bd_ret, Out.on_ret]⟩) (fun g => by unfold KL_Firsts_L0; exact br_F (by unfold ln; omega)) [] (fun v => by simp [fregs, mget_nil])
 have hN := nodup_take (y := y) (L := L) L.length (Nat.le_refl _)
 rw [List.take_length] at hN
 rcases X with ⟨h1, m, e, _⟩ | ⟨h1, e⟩
 ·rw [e, bd_ret, Out.on_go, tb_t (p := FirstsP y L) (hN.2 h1)]
 ·rw [e, bd_ret, Out.on_ret, tb_f fun h : FirstsP y L => h1 (hN.1 h)]
noncomputable def regs_layout_L0 (l : Lp) (t : Tgt) (p : Pln) : ((List Int) × Int) → Option (Stp ((List Int) × Int) (Empty)) := fun (v12_1, x26_1) =>
 br (decide (x26_1 < (ln l.body))) (
 ck (IX x26_1 (ln l.body)) <|
 ck (IX x26_1 (ln p.times)) <|
 bd (target_Wait_m t ((ele l.body x26_1).op)) fun x29 =>
 ck (IR ((ele p.times x26_1) + x29)) <|
 ck (AL (v12_1 ++ [((ele p.times x26_1) + x29)]).length 8) <|
 ck (IR (x26_1 + 1)) <|
 some (.next ((v12_1 ++ [((ele p.times x26_1) + x29)]), (x26_1 + 1)))) (
 some (.brk (v12_1, x26_1)))
noncomputable def regs_layout_m (l : Lp) (t : Tgt) (p : Pln) : Option ((List Int × List Stm × List Int × Int × Int × List Int × List Int × List Int)) :=
 ck (0 ≤ (ln l.body)) <|
 ck (AL (ln l.body).toNat 8) <|
 bd (lp (regs_layout_L0 l t p) ([], 0)) fun o13 => o13.on (fun (v12_1, x26_1) =>
 some (l.logs, l.body, l.outs, p.pace, t.regs, p.times, v12_1, (List.replicate (ln l.body).toNat (0 : Int)))) (fun r => r.elim)
noncomputable def regs_fine_L0 (y_Loop_Body : List Stm) (y_Loop_Outs : List Int) (y_Pace y_Regs : Int) (y_Time y_Ready y_Places : List Int) (k_ : Int) : ((List Int) × Int) → Option (Stp ((List Int) × Int) (Bool)) := fun (v3_1, x9_1) =>
 br (decide (x9_1 < (k_ + 1))) (
 ck (AL (v3_1 ++ [x9_1]).length 8) <|
 bd (KL_Apart_m y_Loop_Body y_Loop_Outs y_Pace y_Regs y_Time y_Ready y_Places k_ x9_1) fun x16 =>
 bdG (!(!x16)) (KL_Apart_m y_Loop_Body y_Loop_Outs y_Pace y_Regs y_Time y_Ready y_Places x9_1 k_) fun x19 =>
 br ((!x16) || (!x19)) (
 some (.ret false)) (
 ck (IR (x9_1 + 1)) <|
 some (.next ((v3_1 ++ [x9_1]), (x9_1 + 1))))) (
 some (.brk (v3_1, x9_1)))
noncomputable def regs_fine_m (y_Loop_Logs : List Int) (y_Loop_Body : List Stm) (y_Loop_Outs : List Int) (y_Pace y_Regs : Int) (y_Time y_Ready y_Places : List Int) (k_ : Int) : Option (Bool) :=
 ck (IR (k_ + 1)) <|
 bd (lp (regs_fine_L0 y_Loop_Body y_Loop_Outs y_Pace y_Regs y_Time y_Ready y_Places k_) ([], 0)) fun o4 => o4.on (fun (v3_1, x9_1) =>
 bd (KL_Firsts_m y_Loop_Logs y_Loop_Body y_Loop_Outs y_Pace y_Regs y_Places v3_1) fun x9 =>
 some x9) (fun r => some r)
noncomputable def regs_dests_L0 (y_Pace y_Regs : Int) (y_Time y_Places : List Int) : ((List Int) × Int) → Option (Stp ((List Int) × Int) (Empty)) := fun (v1_1, x11_1) =>
 br (decide (x11_1 < (ln y_Places))) (
 ck (IX x11_1 (ln y_Places)) <|
 ck (IX x11_1 (ln y_Time)) <|
 ck (y_Pace ≠ 0) <|
 ck (IR (Int.tdiv (ele y_Time x11_1) y_Pace)) <|
 ck (IR ((ele y_Places x11_1) - (Int.tdiv (ele y_Time x11_1) y_Pace))) <|
 bd (emit_Rest_m ((ele y_Places x11_1) - (Int.tdiv (ele y_Time x11_1) y_Pace)) y_Regs) fun x23 =>
 ck (AL (v1_1 ++ [x23]).length 8) <|
 ck (IR (x11_1 + 1)) <|
 some (.next ((v1_1 ++ [x23]), (x11_1 + 1)))) (
 some (.brk (v1_1, x11_1)))
noncomputable def regs_dests_m (y_Pace y_Regs : Int) (y_Time y_Places : List Int) : Option (List Int) :=
 bd (lp (regs_dests_L0 y_Pace y_Regs y_Time y_Places) ([], 0)) fun o2 => o2.on (fun (v1_1, x11_1) =>
 some v1_1) (fun r => r.elim)
noncomputable def regs_first_L2 (y_Loop_Logs : List Int) (y_Loop_Body : List Stm) (y_Loop_Outs : List Int) (y_Pace y_Regs : Int) (y_Time y_Ready : List Int) (x10_3 : Int) : (List Int) → Option (Stp ((List Int)) (Bool × List Int)) := fun own0v7_4 =>
 bd (regs_fine_m y_Loop_Logs y_Loop_Body y_Loop_Outs y_Pace y_Regs y_Time y_Ready own0v7_4 x10_3) fun x18 =>
 br (!x18) (
 ck (IX x10_3 (ln own0v7_4)) <|
 ck (IR ((ele own0v7_4 x10_3) + 1)) <|
 br (decide (((ele own0v7_4 x10_3) + 1) ≥ y_Regs)) (
 some (.ret (false, own0v7_4))) (
 ck (IX x10_3 (ln own0v7_4)) <|
 ck (IR ((ele own0v7_4 x10_3) + 1)) <|
 ck (IX x10_3 (ln own0v7_4)) <|
 some (.next (upd own0v7_4 x10_3 ((ele own0v7_4 x10_3) + 1))))) (
 some (.brk own0v7_4))
noncomputable def regs_first_L0 (y_Loop_Logs : List Int) (y_Loop_Body : List Stm) (y_Loop_Outs : List Int) (y_Pace y_Regs : Int) (y_Time y_Ready : List Int) : ((List Int) × Int) → Option (Stp ((List Int) × Int) (Bool × List Int)) := fun (own0v7_3, x10_3) =>
 br (decide (x10_3 < (ln y_Loop_Body))) (
 ck (IX x10_3 (ln own0v7_3)) <|
 bd (lp (regs_first_L2 y_Loop_Logs y_Loop_Body y_Loop_Outs y_Pace y_Regs y_Time y_Ready x10_3) (upd own0v7_3 x10_3 0)) fun o13 => o13.on (fun own0v7_4 =>
 ck (IR (x10_3 + 1)) <|
 some (.next (own0v7_4, (x10_3 + 1)))) (fun r => some (.ret r))) (
 some (.brk (own0v7_3, x10_3)))
noncomputable def regs_first_m (y_Loop_Logs : List Int) (y_Loop_Body : List Stm) (y_Loop_Outs : List Int) (y_Pace y_Regs : Int) (y_Time y_Ready y_Places : List Int) : Option (Bool × List Int) :=
 bd (lp (regs_first_L0 y_Loop_Logs y_Loop_Body y_Loop_Outs y_Pace y_Regs y_Time y_Ready) (y_Places, 0)) fun o1 => o1.on (fun (own0v7_3, x10_3) =>
 some (true, own0v7_3)) (fun r => some r)
noncomputable def regs_spaced_L0 (y_Loop_Body : List Stm) : ((List Int) × Int) → Option (Stp ((List Int) × Int) (Empty)) := fun (own0v7_1, x11_1) =>
 br (decide (x11_1 < (ln y_Loop_Body))) (
 ck (IR (5 * x11_1)) <|
 ck (IX x11_1 (ln own0v7_1)) <|
 ck (IR (x11_1 + 1)) <|
 some (.next ((upd own0v7_1 x11_1 (5 * x11_1)), (x11_1 + 1)))) (
 some (.brk (own0v7_1, x11_1)))
noncomputable def regs_spaced_L2 (y_Loop_Logs : List Int) (y_Loop_Body : List Stm) (y_Loop_Outs : List Int) (y_Pace y_Regs : Int) (y_Time y_Ready own0v7_1 : List Int) : Int → Option (Stp (Int) (Bool × List Int)) := fun x29_2 =>
 br (decide (x29_2 < (ln y_Loop_Body))) (
 bd (regs_fine_m y_Loop_Logs y_Loop_Body y_Loop_Outs y_Pace y_Regs y_Time y_Ready own0v7_1 x29_2) fun x13 =>
 br (!x13) (
 some (.ret (false, own0v7_1))) (
 ck (IR (x29_2 + 1)) <|
 some (.next (x29_2 + 1)))) (
 some (.brk x29_2))
noncomputable def regs_spaced_m (y_Loop_Logs : List Int) (y_Loop_Body : List Stm) (y_Loop_Outs : List Int) (y_Pace y_Regs : Int) (y_Time y_Ready y_Places : List Int) : Option (Bool × List Int) :=
 bd (lp (regs_spaced_L0 y_Loop_Body) (y_Places, 0)) fun o1 => o1.on (fun (own0v7_1, x11_1) =>
 bd (lp (regs_spaced_L2 y_Loop_Logs y_Loop_Body y_Loop_Outs y_Pace y_Regs y_Time y_Ready own0v7_1) 0) fun o6 => o6.on (fun x29_2 =>
 some (true, own0v7_1)) (fun r => some r)) (fun r => r.elim)
noncomputable def regs_Make_m (l : Lp) (t : Tgt) (p : Pln) : Option (List Int × Int) :=
 bd (sched_Legal_m l t p) fun x4 =>
 br (!x4) (
 some ([], 2)) (
 bd (regs_layout_m l t p) fun x10 =>
 bd (regs_first_m x10.1 x10.2.1 x10.2.2.1 x10.2.2.2.1 x10.2.2.2.2.1 x10.2.2.2.2.2.1 x10.2.2.2.2.2.2.1 x10.2.2.2.2.2.2.2) fun x16 =>
 br (!x16.1) (
 bd (regs_spaced_m x10.1 x10.2.1 x10.2.2.1 x10.2.2.2.1 x10.2.2.2.2.1 x10.2.2.2.2.2.1 x10.2.2.2.2.2.2.1 x16.2) fun x22 =>
 br (x16.1 || x22.1) (
 bd (regs_dests_m x10.2.2.2.1 x10.2.2.2.2.1 x10.2.2.2.2.2.1 x22.2) fun x30 =>
 some (x30, 0)) (
 some ([], 1))) (
 br (x16.1 || false) (
 bd (regs_dests_m x10.2.2.2.1 x10.2.2.2.2.1 x10.2.2.2.2.2.1 x16.2) fun x40 =>
 some (x40, 0)) (
 some ([], 1))))
def natL (n : Nat) : List Int := (List.range n).map fun i : Nat => (i : Int)
theorem natL_mem {n : Nat} {x : Int} (h : x ∈ natL n) : 0 ≤ x ∧ x < n := by
 unfold natL at h
 rw [List.mem_map] at h
 obtain ⟨i, hi, rfl⟩ := h
 have := List.mem_range.1 hi
 omega
theorem natL_len (n : Nat) : (natL n).length = n := by unfold natL; simp
def LayD.wp (y : LayD) (v : List Int) : LayD := { y with places := v }
def FineP (y : LayD) (k : Nat) : Prop := (∀ m : Nat, m < k + 1 → ApartP y k m ∧ ApartP y m k) ∧ FirstsP y (natL (k + 1))
def AllFine (y : LayD) : Prop := (∀ a m : Nat, a < y.body.length → m < y.body.length → ApartP y a m) ∧ FirstsP y (natL y.body.length)
theorem fine_s {y : LayD} (hy : y.Ok) {k : Nat} (hk : k < y.body.length) : regs_fine_m y.logs y.body y.outs y.pace y.regs y.time y.ready y.places k = some (tb (FineP y k)) := by
 have hn := hy.n
 unfold regs_fine_m
 rw [ck_IR (by omega) (by omega)]
 have X := lp_det2 (f := regs_fine_L0 y.body y.outs y.pace y.regs y.time y.ready y.places k) (ρ := Bool) (fun i => (natL i, (i : Int))) (k + 1) (fun m => ApartP y k m ∧ ApartP y m k) (fun _ => false) (fun i hi _ => by
  unfold regs_fine_L0
  simp only
  have e : natL i ++ [(i : Int)] = natL (i + 1) := rm_succ (g := fun i : Nat => (i : Int))
  rw [br_T (by omega), e, ck_yes (AL8 (by rw [natL_len]; omega)), apart_s hy hk (show i < y.body.length by omega), bd_ret, apart_s hy (show i < y.body.length by omega) hk, bdG_some']
  by_cases h1 : ApartP y k i <;> by_cases h2 : ApartP y i k
  ·rw [tb_t h1, tb_t h2]
   exact ⟨fun _ => by rw [show ((!true) || (!(if (!(!true)) = true then true else false))) = false from rfl, br_false, ck_IR (by omega) (by omega)]; rfl, fun h => absurd ⟨h1, h2⟩ h⟩
  ·rw [tb_t h1, tb_f h2]
   exact ⟨fun h => absurd h.2 h2, fun _ => rfl⟩
  ·rw [tb_f h1]
   exact ⟨fun h => absurd h.1 h1, fun _ => rfl⟩
  ·rw [tb_f h1]
   exact ⟨fun h => absurd h.1 h1, fun _ => rfl⟩) (by unfold regs_fine_L0; exact br_F (by omega))
 rcases X with ⟨h1, e⟩ | ⟨i, h1, h2, _, e⟩
 ·rw [show lp (regs_fine_L0 y.body y.outs y.pace y.regs y.time y.ready y.places k) ([], 0) = _ from e, bd_ret, Out.on_go]
  simp only
  rw [firsts_s hy (fun x hx => by have := natL_mem hx; omega) (by rw [natL_len]; omega), bd_ret]
  congr 1
  exact tb_congr ⟨fun h => ⟨h1, h⟩, fun h => h.2⟩
 ·rw [show lp (regs_fine_L0 y.body y.outs y.pace y.regs y.time y.ready y.places k) ([], 0) = _ from e, bd_ret, Out.on_ret, tb_f fun h : FineP y k => h2 (h.1 i h1)]
structure PlOk (y : LayD) (v : List Int) : Prop where
 len : v.length = y.body.length
 bd : ∀ i : Nat, i < y.body.length → 0 ≤ ele v (i : Int) ∧ ele v (i : Int) ≤ 128
theorem LayD.Ok.wp {y : LayD} (hy : y.Ok) {v : List Int} (hv : PlOk y v) : (y.wp v).Ok :=
 ⟨hy.n, hy.lt, hy.lr, hv.len, hy.lo, hy.pace, hy.regs, hy.tm, hy.rd, fun i hi => by have := hv.bd i hi; exact ⟨by show -100000 ≤ ele v _; omega, by show ele v _ ≤ 100000; omega⟩, hy.us⟩
theorem bad_wp {y : LayD} {v w : List Int} {a m j : Int} (h : BadP (y.wp v) a m j) : BadP (y.wp w) a m j := by
 rcases h with ⟨k, r, h1, h2, h3, h4⟩ | h
 ·exact .inl ⟨k, r, h1, h2, h3, h4⟩
 ·exact .inr h
theorem apart_congr {y : LayD} {v w : List Int} {a m : Nat} (h1 : ele v (a : Int) = ele w (a : Int)) (h2 : ele v (m : Int) = ele w (m : Int)) (h : ApartP (y.wp v) a m) : ApartP (y.wp w) a m := fun j hj hz hb =>
 h j hj (by show (ele v (m : Int) + j - ele v (a : Int)) % y.regs = 0; rw [h1, h2]; exact hz) (bad_wp hb)
theorem pl_upd {y : LayD} {v : List Int} (hv : PlOk y v) {k : Nat} (hk : k < y.body.length) {c : Int} (h0 : 0 ≤ c) (h1 : c ≤ 128) : PlOk y (upd v k c) := by
 refine ⟨by rw [upd_len]; exact hv.len, fun i hi => ?_⟩
 by_cases e : i = k
 ·subst e
  rw [ele_upd ⟨by omega, by unfold ln; have := hv.len; omega⟩]
  exact ⟨h0, h1⟩
 ·rw [ele_upd_ne (by omega)]; exact hv.bd i hi
theorem first_one {y : LayD} (hy : y.Ok) {v : List Int} (hv : PlOk y v) {k : Nat} (hk : k < y.body.length) : ∀ (d c : Nat), (c : Int) + d + 1 = y.regs →
  (∃ c' : Nat, c' ≤ 128 ∧ lp (regs_first_L2 y.logs y.body y.outs y.pace y.regs y.time y.ready k) (upd v k (c : Int)) = some (.go (upd v k (c' : Int))) ∧ FineP (y.wp (upd v k (c' : Int))) k) ∨ (∃ v', lp (regs_first_L2 y.logs y.body y.outs y.pace y.regs y.time y.ready k) (upd v k (c : Int)) = some (.ret (false, v')) ∧ PlOk y v')
 | d, c, hd => by
  have hR := hy.regs
  have hp := pl_upd hv hk (c := c) (by omega) (by omega)
  have hix : IX (k : Int) (ln v) := ⟨by omega, by unfold ln; have := hv.len; omega⟩
  have hix2 : IX (k : Int) (ln (upd v k (c : Int))) := ⟨by omega, by unfold ln; rw [upd_len]; have := hv.len; omega⟩
  have hfs : regs_fine_m y.logs y.body y.outs y.pace y.regs y.time y.ready (upd v k (c : Int)) k = some (tb (FineP (y.wp (upd v k (c : Int))) k)) := fine_s (hy.wp hp) hk
  by_cases hf : FineP (y.wp (upd v k (c : Int))) k
  ·refine .inl ⟨c, by omega, lp_brk ?_, hf⟩
   unfold regs_first_L2
   rw [hfs, bd_ret, tb_t hf]; rfl
  ·match d, hd with
   | 0, hd =>
    refine .inr ⟨upd v k (c : Int), lp_ret ?_, hp⟩
    unfold regs_first_L2
    rw [hfs, bd_ret, tb_f hf, Bool.not_false, br_true, ck_yes hix2, ele_upd hix, ck_IR (by omega) (by omega), br_T (by omega)]
   | d + 1, hd =>
    have hstep : regs_first_L2 y.logs y.body y.outs y.pace y.regs y.time y.ready k (upd v k (c : Int)) = some (.next (upd v k ((c + 1 : Nat) : Int))) := by
     unfold regs_first_L2
     rw [hfs, bd_ret, tb_f hf, Bool.not_false, br_true, ck_yes hix2, ele_upd hix, ck_IR (by omega) (by omega), br_F (by omega), ck_yes hix2, ck_IR (by omega) (by omega), ck_yes hix2, upd_upd]
     rfl
    rcases first_one hy hv hk d (c + 1) (by omega) with ⟨c', q1, q2, q3⟩ | ⟨v', q1, q2⟩
    ·exact .inl ⟨c', q1, lp_step hstep q2, q3⟩
    ·exact .inr ⟨v', lp_step hstep q1, q2⟩
theorem first_s {y : LayD} (hy : y.Ok) (hpl : PlOk y y.places) : ∃ b v, regs_first_m y.logs y.body y.outs y.pace y.regs y.time y.ready y.places = some (b, v) ∧ PlOk y v ∧ (b = true → AllFine (y.wp v)) := by
 have hn := hy.n
 have hR := hy.regs
 have X := lp_invR (f := regs_first_L0 y.logs y.body y.outs y.pace y.regs y.time y.ready) (n := y.body.length) (fun i v => PlOk y v ∧ (∀ a m : Nat, a < i → m < i → ApartP (y.wp v) a m) ∧ FirstsP (y.wp v) (natL i)) (fun r => r.1 = false ∧ PlOk y r.2) (fun i v hi hg => by
  obtain ⟨q1, q2, q3⟩ := hg
  have hix : IX (i : Int) (ln v) := ⟨by omega, by unfold ln; have := q1.len; omega⟩
  unfold regs_first_L0
  simp only
  rw [br_T (by unfold ln; omega), ck_yes hix]
  rcases first_one hy q1 hi (y.regs - 1).toNat 0 (by omega) with ⟨c', w1, w2, w3⟩ | ⟨v', w1, w2⟩
  ·refine .inl ⟨upd v i (c' : Int), ?_, pl_upd q1 hi (by omega) (by omega), fun a m ha hm => ?_, w3.2⟩
   ·rw [show lp (regs_first_L2 y.logs y.body y.outs y.pace y.regs y.time y.ready i) (upd v i 0) = _ from w2, bd_ret, Out.on_go, ck_IR (by omega) (by omega)]
   ·by_cases e1 : a = i
    ·subst e1; exact (w3.1 m hm).1
    ·by_cases e2 : m = i
     ·subst e2; exact (w3.1 a ha).2
     ·exact apart_congr (ele_upd_ne (by omega)).symm (ele_upd_ne (by omega)).symm (q2 a m (by omega) (by omega))
  ·exact .inr ⟨(false, v'), by rw [show lp (regs_first_L2 y.logs y.body y.outs y.pace y.regs y.time y.ready i) (upd v i 0) = _ from w1, bd_ret, Out.on_ret], rfl, w2⟩) (fun g => by unfold regs_first_L0; exact br_F (by unfold ln; omega)) y.places ⟨hpl, fun a m h => absurd h (Nat.not_lt_zero _), by unfold FirstsP natL fregs; simp⟩
 unfold regs_first_m
 rcases X with ⟨v, e, q1, q2, q3⟩ | ⟨⟨b, v⟩, e, q1, q2⟩
 ·exact ⟨true, v, by rw [e, bd_ret, Out.on_go], q1, fun _ => ⟨q2, q3⟩⟩
 ·exact ⟨b, v, by rw [e, bd_ret, Out.on_ret], q2, fun h => by
   have q1' : b = false := q1
   rw [q1'] at h; cases h⟩
def spV (n : Nat) : List Int := (List.range n).map fun i : Nat => 5 * (i : Int)
theorem sp_ok {y : LayD} (hy : y.Ok) : PlOk y (spV y.body.length) := by
 have hn := hy.n
 exact ⟨by unfold spV; simp, fun i hi => by rw [show ele (spV y.body.length) (i : Int) = 5 * (i : Int) from ele_rm hi]; omega⟩
theorem spaced_s {y : LayD} (hy : y.Ok) (hpl : PlOk y y.places) : ∃ b, regs_spaced_m y.logs y.body y.outs y.pace y.regs y.time y.ready y.places = some (b, spV y.body.length) ∧ (b = true ↔ ∀ k, k < y.body.length → FineP (y.wp (spV y.body.length)) k) := by
 have hn := hy.n
 have e0 : y.places = (List.range y.body.length).map fun j : Nat => if j < 0 then 5 * (j : Int) else ele y.places (j : Int) := by
  conv => lhs; rw [← range_map y.places, hpl.len]
  exact rm_congr fun j hj => by rw [if_neg (by omega)]
 have e1 : spV y.body.length = (List.range y.body.length).map fun j : Nat => if j < y.body.length then 5 * (j : Int) else ele y.places (j : Int) := rm_congr fun j hj => by rw [if_pos hj]
 have X := lp_det (f := regs_spaced_L0 y.body) (ρ := Empty) (fun i => ((List.range y.body.length).map fun j : Nat => if j < i then 5 * (j : Int) else ele y.places (j : Int), (i : Int))) y.body.length (fun i hi => by
  unfold regs_spaced_L0
  simp only
  rw [br_T (by unfold ln; omega), ck_IR (by omega) (by omega), ck_IX (by omega) (by rw [ln_rm]; omega), ck_IR (by omega) (by omega), upd_rm hi]
  refine congrArg some (congrArg Stp.next (Prod.ext (rm_congr fun j hj => ?_) rfl))
  by_cases a : j = i
  ·subst a; rw [if_pos rfl, if_pos (by omega)]
  ·rw [if_neg a]
   by_cases b : j < i
   ·rw [if_pos b, if_pos (by omega)]
   ·rw [if_neg b, if_neg (by omega)]) (by unfold regs_spaced_L0; exact br_F (by unfold ln; omega))
 unfold regs_spaced_m
 have X' : lp (regs_spaced_L0 y.body) (y.places, 0) = some (.go (spV y.body.length, (y.body.length : Int))) := by
  rw [e1]
  conv => lhs; rw [e0]
  exact X
 rw [X', bd_ret, Out.on_go]
 simp only
 have Y := lp_det2 (f := regs_spaced_L2 y.logs y.body y.outs y.pace y.regs y.time y.ready (spV y.body.length)) (fun i => (i : Int)) y.body.length (fun k => FineP (y.wp (spV y.body.length)) k) (fun _ => (false, spV y.body.length)) (fun k hk _ => by
  have hfs : regs_fine_m y.logs y.body y.outs y.pace y.regs y.time y.ready (spV y.body.length) k = some (tb (FineP (y.wp (spV y.body.length)) k)) := fine_s (hy.wp (sp_ok hy)) hk
  unfold regs_spaced_L2
  rw [br_T (by unfold ln; omega), hfs, bd_ret]
  exact ⟨fun h => by rw [tb_t h, Bool.not_true, br_false, ck_IR (by omega) (by omega)]; rfl, fun h => by rw [tb_f h, Bool.not_false, br_true]⟩) (by unfold regs_spaced_L2; exact br_F (by unfold ln; omega))
 rcases Y with ⟨h1, e⟩ | ⟨k, h1, h2, _, e⟩
 ·exact ⟨true, by rw [show lp (regs_spaced_L2 y.logs y.body y.outs y.pace y.regs y.time y.ready (spV y.body.length)) 0 = _ from e, bd_ret, Out.on_go], ⟨fun _ => h1, fun _ => rfl⟩⟩
 ·exact ⟨false, by rw [show lp (regs_spaced_L2 y.logs y.body y.outs y.pace y.regs y.time y.ready (spV y.body.length)) 0 = _ from e, bd_ret, Out.on_ret], ⟨fun h => (by cases h), fun h => absurd (h k h1) h2⟩⟩
theorem allfine_of {y : LayD} (hy : y.Ok) (h : ∀ k, k < y.body.length → FineP y k) : AllFine y := by
 have hn := hy.n
 refine ⟨fun a m ha hm => ?_, ?_⟩
 ·by_cases c : m ≤ a
  ·exact ((h a ha).1 m (by omega)).1
  ·exact ((h m hm).1 a (by omega)).2
 ·have := (h (y.body.length - 1) (by omega)).2
  rw [show y.body.length - 1 + 1 = y.body.length from by omega] at this
  exact this
def readyV (l : Lp) (t : Tgt) (p : Pln) : List Int := (List.range l.body.length).map fun i : Nat => ele p.times (i : Int) + waitV t (ele l.body (i : Int)).op
def layP (l : Lp) (t : Tgt) (p : Pln) : LayD := ⟨l.logs, l.body, l.outs, p.pace, t.regs, p.times, readyV l t p, List.replicate l.body.length 0⟩
theorem rep_ele {n i : Nat} (hi : i < n) : ele (List.replicate n (0 : Int)) (i : Int) = 0 := by rw [ele_nat, List.getD_eq_getElem?_getD]; simp [List.getElem?_replicate, hi]
theorem layP_ok {l : Lp} {t : Tgt} {p : Pln} (h : LegalP l t p) : (layP l t p).Ok ∧ PlOk (layP l t p) (layP l t p).places := by
 have ht := h.tgt
 rw [tgtOk_iff] at ht
 have hp0 : PlOk (layP l t p) (layP l t p).places := ⟨by show (List.replicate _ _).length = l.body.length; simp, fun i hi => by rw [show ele (layP l t p).places (i : Int) = 0 from rep_ele hi]; omega⟩
 refine ⟨⟨⟨h.loop.2.1, h.loop.2.2.1⟩, h.len, by show (readyV l t p).length = _; unfold readyV; simp; rfl, hp0.len, by have := outs_len h.loop; show l.outs.length ≤ _; omega, h.pace, ht.2.2.2, fun i hi => h.rng i hi, fun i hi => ?_, fun i hi => ?_, fun i hi r hr => ?_⟩, hp0⟩
 ·have h1 := h.rng i hi
  have hw := waitV_bd t (ele l.body (i : Int)).op
  unfold RngP at h1
  rw [show ele (layP l t p).ready (i : Int) = ele p.times (i : Int) + waitV t (ele l.body (i : Int)).op from ele_rm hi]
  omega
 ·have := hp0.bd i hi; omega
 ·have hi' : i < l.body.length := hi
  have h1 := uses_ok h.loop hi' hr
  have h2 := h1.st (by omega)
  exact ⟨h2.1, h2.2, h1.1, h1.2.1⟩
def destV (t : Tgt) (p : Pln) (n : Nat) (v : List Int) : List Int := (List.range n).map fun i : Nat => (ele v (i : Int) - stgV p i) % t.regs
theorem dests_s {l : Lp} {t : Tgt} {p : Pln} (h : LegalP l t p) {v : List Int} (hv : PlOk (layP l t p) v) : regs_dests_m p.pace t.regs p.times v = some (destV t p l.body.length v) := by
 have ht := h.tgt
 rw [tgtOk_iff] at ht
 have hn := h.loop.2.2.1
 have hl := h.len
 have hvl : v.length = l.body.length := hv.len
 have hpc := h.pace
 have X := lp_det (f := regs_dests_L0 p.pace t.regs p.times v) (ρ := Empty) (fun i => ((List.range i).map fun i : Nat => (ele v (i : Int) - stgV p i) % t.regs, (i : Int))) l.body.length (fun i hi => by
  have hs := stg_bd hpc (h.rng i hi)
  have hb := hv.bd i hi
  unfold stgV at hs
  unfold regs_dests_L0
  simp only
  rw [br_T (by unfold ln; omega), ck_IX (by omega) (by unfold ln; omega), ck_IX (by omega) (by unfold ln; omega), ck_yes (by omega), ck_IR (by omega) (by omega), ck_IR (by omega) (by omega), eRest_s (by omega) (by omega), bd_ret, ck_yes (AL8 (by simp; omega)), ck_IR (by omega) (by omega), show (ele v (i : Int) - Int.tdiv (ele p.times (i : Int)) p.pace) % t.regs = (fun i : Nat => (ele v (i : Int) - stgV p i) % t.regs) i from rfl, rm_succ]
  rfl) (by unfold regs_dests_L0; exact br_F (by unfold ln; omega))
 unfold regs_dests_m
 rw [show lp (regs_dests_L0 p.pace t.regs p.times v) ([], 0) = _ from X, bd_ret, Out.on_go]
 rfl
theorem layout_s {l : Lp} {t : Tgt} {p : Pln} (h : LegalP l t p) : regs_layout_m l t p = some (l.logs, l.body, l.outs, p.pace, t.regs, p.times, readyV l t p, List.replicate l.body.length 0) := by
 have hn := h.loop.2.2.1
 have hl := h.len
 have X := lp_det (f := regs_layout_L0 l t p) (ρ := Empty) (fun i => ((List.range i).map fun i : Nat => ele p.times (i : Int) + waitV t (ele l.body (i : Int)).op, (i : Int))) l.body.length (fun i hi => by
  have h1 := h.rng i hi
  have hw := waitV_bd t (ele l.body (i : Int)).op
  unfold RngP at h1
  unfold regs_layout_L0
  simp only
  rw [br_T (by unfold ln; omega), ck_IX (by omega) (by unfold ln; omega), ck_IX (by omega) (by unfold ln; omega), target_Wait_s, bd_ret, ck_IR (by omega) (by omega), ck_yes (AL8 (by simp; omega)), ck_IR (by omega) (by omega), rm_succ (g := fun i : Nat => ele p.times (i : Int) + waitV t (ele l.body (i : Int)).op)]
  rfl) (by unfold regs_layout_L0; exact br_F (by unfold ln; omega))
 unfold regs_layout_m
 rw [ck_yes (ln_nonneg _), ck_yes (AL8 (by unfold ln; omega)), show lp (regs_layout_L0 l t p) ([], 0) = _ from X, bd_ret, Out.on_go]
 simp only [ln, Int.toNat_natCast]
 rfl
theorem regsMake_s {l : Lp} {t : Tgt} {p : Pln} (hf : l.Fine) (h : LegalP l t p) : (∃ v, PlOk (layP l t p) v ∧ AllFine ((layP l t p).wp v) ∧ regs_Make_m l t p = some (destV t p l.body.length v, 0)) ∨ (regs_Make_m l t p = some ([], 1) ∧ ¬ ∀ k, k < l.body.length → FineP ((layP l t p).wp (spV l.body.length)) k) := by
 obtain ⟨hy, hp0⟩ := layP_ok h
 obtain ⟨b, v, e1, e2, e3⟩ := first_s hy hp0
 have e1' : regs_first_m l.logs l.body l.outs p.pace t.regs p.times (readyV l t p) (List.replicate l.body.length 0) = some (b, v) := e1
 unfold regs_Make_m
 rw [Legal_s hf, bd_ret, tb_t h, Bool.not_true, br_false, layout_s h, bd_ret]
 simp only
 rw [e1', bd_ret]
 simp only
 cases b with
 | true => exact .inl ⟨v, e2, e3 rfl, by rw [Bool.not_true, br_false, Bool.true_or, br_true, dests_s h e2, bd_ret]⟩
 | false =>
  have hy2 := hy.wp e2
  obtain ⟨b', f1, f2⟩ := spaced_s hy2 ⟨e2.len, e2.bd⟩
  have f1' : regs_spaced_m l.logs l.body l.outs p.pace t.regs p.times (readyV l t p) v = some (b', spV l.body.length) := f1
  rw [Bool.not_false, br_true, f1', bd_ret]
  simp only
  cases b' with
  | true =>
   refine .inl ⟨spV l.body.length, sp_ok hy, allfine_of (hy.wp (sp_ok hy)) (f2.1 rfl), ?_⟩
   rw [Bool.or_true, br_true, dests_s h (v := spV l.body.length) (sp_ok hy), bd_ret]
  | false =>
   refine .inr ⟨by rw [Bool.or_self, br_false], fun hh => ?_⟩
   have := f2.2 hh
   cases this
theorem rfar_s {l : Lp} (hn : l.body.length ≤ 16) (hu : ∀ i : Nat, i < l.body.length → ∀ r ∈ usesL (ele l.body (i : Int)), 0 ≤ r.bk ∧ r.bk ≤ 3) (a : Int) : R10_Far_m l a = some (farV l.body a) := by
 have X := lp_det (f := R10_Far_L0 l a) (ρ := Empty) (fun k => (farN l.body a k, (k : Int))) l.body.length (fun k hk => by
  have h2 := usesL_len (ele l.body (k : Int))
  have Y := lp_det (f := R10_Far_L2 a (usesL (ele l.body (k : Int)))) (ρ := Empty) (fun j => (farU a ((usesL (ele l.body (k : Int))).take j) (farN l.body a k), (j : Int))) (usesL (ele l.body (k : Int))).length (fun j hj => by
   unfold R10_Far_L2
   simp only
   rw [br_T (by unfold ln; omega), ck_IX (by omega) (by unfold ln; omega), ck_imp (fun _ => ⟨by omega, by unfold ln; omega⟩), take_next hj, farU_app]
   generalize farU a ((usesL (ele l.body (k : Int))).take j) (farN l.body a k) = f
   show _ = some (Stp.next (if (ele (usesL (ele l.body (k : Int))) (j : Int)).st = a then max f (ele (usesL (ele l.body (k : Int))) (j : Int)).bk else f, _))
   by_cases e : (ele (usesL (ele l.body (k : Int))) (j : Int)).st = a
   ·by_cases e2 : (ele (usesL (ele l.body (k : Int))) (j : Int)).bk > f
    ·rw [show (((ele (usesL (ele l.body (k : Int))) (j : Int)).st == a) && decide ((ele (usesL (ele l.body (k : Int))) (j : Int)).bk > f)) = true from by simp [e, e2], br_true, ck_IX (by omega) (by unfold ln; omega), ck_IR (by omega) (by omega), if_pos e, show max f (ele (usesL (ele l.body (k : Int))) (j : Int)).bk = (ele (usesL (ele l.body (k : Int))) (j : Int)).bk from by omega]; rfl
    ·rw [show (((ele (usesL (ele l.body (k : Int))) (j : Int)).st == a) && decide ((ele (usesL (ele l.body (k : Int))) (j : Int)).bk > f)) = false from by simp [e2], br_false, ck_IR (by omega) (by omega), if_pos e, show max f (ele (usesL (ele l.body (k : Int))) (j : Int)).bk = f from by omega]; rfl
   ·rw [show (((ele (usesL (ele l.body (k : Int))) (j : Int)).st == a) && decide ((ele (usesL (ele l.body (k : Int))) (j : Int)).bk > f)) = false from by simp [e], br_false, ck_IR (by omega) (by omega), if_neg e]; rfl) (by unfold R10_Far_L2; exact br_F (by unfold ln; omega))
  rw [List.take_length] at Y
  unfold R10_Far_L0
  simp only
  rw [br_T (by unfold ln; omega), ck_IX (by omega) (by unfold ln; omega), ref_Uses_s, bd_ret,
   show lp (R10_Far_L2 a (usesL (ele l.body (k : Int)))) (farN l.body a k, 0) = _ from Y, bd_ret, Out.on_go, ck_IR (by omega) (by omega)]
  rfl) (by unfold R10_Far_L0; exact br_F (by unfold ln; omega))
 unfold R10_Far_m
 rw [show lp (R10_Far_L0 l a) (0, 0) = _ from X, bd_ret, Out.on_go]
 rfl
def oprAt (k : Krn) (order : List Int) (s : Nat) : Opr := ele k.ops (ele order (s : Int))
def timeK (k : Krn) (o : Opr) : Int := o.slot + k.pace * o.stage
def offK (t : Tgt) (k : Krn) (order : List Int) (s : Nat) : Off := ⟨timeK k (oprAt k order s), timeK k (oprAt k order s) + waitV t (oprAt k order s).op, (oprAt k order s).dest + (oprAt k order s).stage⟩
def layK (l : Lp) (t : Tgt) (k : Krn) (order : List Int) : LayD :=
 ⟨l.logs, l.body, l.outs, k.pace, t.regs, (List.range l.body.length).map fun s => (offK t k order s).time, (List.range l.body.length).map fun s => (offK t k order s).ready, (List.range l.body.length).map fun s => (offK t k order s).place⟩
def SameO (o : Opr) (x : Stm) : Prop := o.op = x.op ∧ o.ar = x.ar ∧ o.sp = x.sp ∧ o.pl = x.pl ∧ o.n = x.n
def OrdP (l : Lp) (k : Krn) (order : List Int) (s : Nat) : Prop := (0 ≤ ele order (s : Int) ∧ ele order (s : Int) < l.body.length) ∧ (∀ i, i < s → ele order (i : Int) ≠ ele order (s : Int)) ∧ SameO (oprAt k order s) (ele l.body (s : Int))
structure LayP (l : Lp) (t : Tgt) (k : Krn) (order : List Int) : Prop where
 loop : LoopOk l
 tgt : tgtOk t = true
 may : KMayP t k l.logs
 n : k.ops.length = l.body.length
 no : order.length = l.body.length
 ord : ∀ s, s < l.body.length → OrdP l k order s
def KFine (l : Lp) (k : Krn) : Prop := ∀ i : Nat, i < k.ops.length → (lpO l.logs (ele k.ops (i : Int))).Fine
theorem LayP.opr {l : Lp} {t : Tgt} {k : Krn} {order : List Int} (hm : KMayP t k l.logs) (hn : k.ops.length = l.body.length) {s : Nat} (h : 0 ≤ ele order (s : Int) ∧ ele order (s : Int) < l.body.length) : OneP t k (oprAt k order s) l.logs := by
 obtain ⟨i, hi⟩ := Int.eq_ofNat_of_zero_le h.1
 unfold oprAt
 rw [hi]
 exact hm.one i (by omega)
theorem opr_bd {t : Tgt} {k : Krn} {o : Opr} {logs : List Int} (hm : KMayP t k logs) (h : OneP t k o logs) : (0 ≤ timeK k o ∧ timeK k o ≤ 1000) ∧ (0 ≤ k.pace * o.stage ∧ k.pace * o.stage ≤ 1000) ∧ (0 ≤ o.dest ∧ o.dest < 128) ∧ (0 ≤ o.stage ∧ o.stage ≤ 1000) := by
 obtain ⟨⟨a1, a2, a3, a4, a5⟩, ⟨b1, b2, _⟩, _⟩ := h
 have ht := hm.tgt
 rw [tgtOk_iff] at ht
 have hp := hm.pace; have hs := hm.stages
 have h0 := Int.mul_nonneg (show 0 ≤ k.pace by omega) a3
 have e := Int.mul_comm o.stage k.pace
 unfold timeK
 omega
theorem Layout_s {l : Lp} (hf : l.Fine) {t : Tgt} {k : Krn} {order : List Int} (hk : KFine l k) (ho : order.length ≤ 9223372036854775807) : R10_Layout_m l t k order = some (if tb (LayP l t k order) = true then ((List.range l.body.length).map (offK t k order), true) else ([], false)) := by
 unfold R10_Layout_m
 rw [rMay_s hf, bd_ret, kMay_s hk, bdG_some']
 by_cases h : (LoopOk l ∧ tgtOk t = true) ∧ KMayP t k l.logs ∧ k.ops.length = l.body.length ∧ order.length = l.body.length
 ·obtain ⟨h1, h2, h3, h4⟩ := h
  have hn := h1.1.2.2.1
  rw [tb_t h1, tb_t h2, show ((((!true) || (!(if (!(!true)) = true then true else false))) || ((ln k.ops) != (ln l.body))) || ((ln order) != (ln l.body))) = false from by unfold ln; simp [h3, h4], br_false]
  have X := lp_det2 (f := R10_Layout_L0 l t k order) (ρ := List Off × Bool) (fun s => ((List.range s).map (offK t k order), (s : Int))) l.body.length (fun s => OrdP l k order s) (fun _ => ([], false)) (fun s hs _ => by
   unfold R10_Layout_L0
   simp only
   have hix : IX (s : Int) (ln order) := ⟨by omega, by unfold ln; omega⟩
   rw [br_T (by unfold ln; omega), ck_yes hix, ck_imp (fun _ => hix)]
   by_cases c1 : 0 ≤ ele order (s : Int) ∧ ele order (s : Int) < l.body.length
   ·rw [show (decide (ele order (s : Int) < 0) || decide (ele order (s : Int) ≥ ln l.body)) = false from by unfold ln; simp; omega, br_false]
    rcases lp_det2 (f := R10_Layout_L2 order s) (ρ := List Off × Bool) (fun i => (i : Int)) s (fun i => ele order (i : Int) ≠ ele order (s : Int)) (fun _ => ([], false)) (fun i hi _ => by
      unfold R10_Layout_L2
      rw [br_T (by omega), ck_IX (by omega) (by unfold ln; omega), ck_yes hix]
      exact ⟨fun h => by rw [show (ele order (i : Int) == ele order (s : Int)) = false from by simp [h], br_false, ck_IR (by omega) (by omega)]; rfl, fun h => by rw [show (ele order (i : Int) == ele order (s : Int)) = true from by simpa using h, br_true]⟩) (by unfold R10_Layout_L2; exact br_F (by omega)) with ⟨q1, e⟩ | ⟨i, q1, q2, _, e⟩
    ·have ho := LayP.opr h2 h3 c1
     have hob := opr_bd h2 ho
     have hw := waitV_bd t (oprAt k order s).op
     rw [show lp (R10_Layout_L2 order s) 0 = _ from e, bd_ret, Out.on_go, ck_yes hix, ck_IX (by omega) (by unfold ln; omega), ck_IX (by omega) (by unfold ln; omega)]
     rw [show ele k.ops (ele order (s : Int)) = oprAt k order s from rfl]
     have hb : ((((((oprAt k order s).op != (ele l.body (s : Int)).op) || ((oprAt k order s).ar != (ele l.body (s : Int)).ar)) || ((oprAt k order s).sp != (ele l.body (s : Int)).sp)) || ((oprAt k order s).pl != (ele l.body (s : Int)).pl)) || ((oprAt k order s).n != (ele l.body (s : Int)).n)) = !tb (SameO (oprAt k order s) (ele l.body (s : Int))) := by
      rw [show tb (SameO (oprAt k order s) (ele l.body (s : Int))) = !((((((oprAt k order s).op != (ele l.body (s : Int)).op) || ((oprAt k order s).ar != (ele l.body (s : Int)).ar)) || ((oprAt k order s).sp != (ele l.body (s : Int)).sp)) || ((oprAt k order s).pl != (ele l.body (s : Int)).pl)) || ((oprAt k order s).n != (ele l.body (s : Int)).n)) from (tb_eq (by unfold SameO; simp [and_assoc])).symm, Bool.not_not]
     rw [hb]
     by_cases c2 : SameO (oprAt k order s) (ele l.body (s : Int))
     ·rw [tb_t c2, Bool.not_true, br_false]
      unfold timeK at hob
      rw [ck_IR (by omega) (by omega), ck_IR (by omega) (by omega), ref_Wait_s, bd_ret, ck_IR (by omega) (by omega), ck_IR (by omega) (by omega), ck_yes ⟨by show _ ≤ 9223372036854775807; simp; omega, by simp; omega⟩, ck_IR (by omega) (by omega)]
      refine ⟨fun _ => ?_, fun h => absurd ⟨c1, q1, c2⟩ h⟩
      show some (Stp.next ((List.range s).map (offK t k order) ++ [offK t k order s], _)) = _
      rw [rm_succ]; rfl
     ·rw [tb_f c2]
      exact ⟨fun h => absurd h.2.2 c2, fun _ => rfl⟩
    ·rw [show lp (R10_Layout_L2 order s) 0 = _ from e, bd_ret, Out.on_ret]
     exact ⟨fun h => absurd (h.2.1 i q1) q2, fun _ => rfl⟩
   ·rw [show (decide (ele order (s : Int) < 0) || decide (ele order (s : Int) ≥ ln l.body)) = true from by
     unfold ln
     rw [Bool.or_eq_true, decide_eq_true_eq, decide_eq_true_eq]; omega, br_true]
    exact ⟨fun h => absurd h.1 c1, fun _ => rfl⟩) (by unfold R10_Layout_L0; exact br_F (by unfold ln; omega))
  rcases X with ⟨q1, e⟩ | ⟨s, q1, q2, _, e⟩
  ·rw [show lp (R10_Layout_L0 l t k order) ([], 0) = _ from e, bd_ret, Out.on_go, tb_t (p := LayP l t k order) ⟨h1.1, h1.2, h2, h3, h4, q1⟩]
   rfl
  ·rw [show lp (R10_Layout_L0 l t k order) ([], 0) = _ from e, bd_ret, Out.on_ret, tb_f fun h : LayP l t k order => q2 (h.ord s q1)]
   rfl
 ·rw [tb_f fun hl : LayP l t k order => h ⟨⟨hl.loop, hl.tgt⟩, hl.may, hl.n, hl.no⟩]
  by_cases h1 : LoopOk l ∧ tgtOk t = true
  ·by_cases h2 : KMayP t k l.logs
   ·rw [tb_t h1, tb_t h2, show ((((!true) || (!(if (!(!true)) = true then true else false))) || ((ln k.ops) != (ln l.body))) || ((ln order) != (ln l.body))) = true from by
     unfold ln
     by_cases h3 : k.ops.length = l.body.length
     ·have h4 : ¬ order.length = l.body.length := fun h4 => h ⟨h1, h2, h3, h4⟩
      simp; omega
     ·simp; omega, br_true]
    rfl
   ·rw [tb_t h1, tb_f h2]; rfl
  ·rw [tb_f h1]; rfl
theorem layK_ok {l : Lp} {t : Tgt} {k : Krn} {order : List Int} (h : LayP l t k order) : (layK l t k order).Ok := by
 have ht := h.tgt
 rw [tgtOk_iff] at ht
 refine ⟨⟨h.loop.2.1, h.loop.2.2.1⟩, by unfold layK; simp, by unfold layK; simp, by unfold layK; simp, by have := outs_len h.loop; show l.outs.length ≤ _; omega, h.may.pace, ht.2.2.2, fun i hi => ?_, fun i hi => ?_, fun i hi => ?_, fun i hi r hr => ?_⟩
 all_goals have hi' : i < l.body.length := hi
 ·have ho := opr_bd h.may (LayP.opr h.may h.n (h.ord i hi').1)
  rw [show ele (layK l t k order).time (i : Int) = (offK t k order i).time from ele_rm hi']
  exact ho.1
 ·have ho := opr_bd h.may (LayP.opr h.may h.n (h.ord i hi').1)
  have hw := waitV_bd t (oprAt k order i).op
  rw [show ele (layK l t k order).ready (i : Int) = (offK t k order i).ready from ele_rm hi']
  show 0 ≤ timeK k (oprAt k order i) + waitV t (oprAt k order i).op ∧ timeK k (oprAt k order i) + waitV t (oprAt k order i).op ≤ 1006
  omega
 ·have ho := opr_bd h.may (LayP.opr h.may h.n (h.ord i hi').1)
  rw [show ele (layK l t k order).places (i : Int) = (offK t k order i).place from ele_rm hi']
  show -100000 ≤ (oprAt k order i).dest + (oprAt k order i).stage ∧ (oprAt k order i).dest + (oprAt k order i).stage ≤ 100000
  omega
 ·have h1 := uses_ok h.loop hi' hr
  have h2 := h1.st (by omega)
  exact ⟨h2.1, h2.2, h1.1, h1.2.1⟩
def offsK (l : Lp) (t : Tgt) (k : Krn) (order : List Int) : List Off := (List.range l.body.length).map (offK t k order)
section
variable {l : Lp} {t : Tgt} {k : Krn} {order : List Int}
theorem offs_ln : ln (offsK l t k order) = l.body.length := ln_rm
theorem offs_at {i : Nat} (hi : i < l.body.length) : (ele (offsK l t k order) (i : Int)).time = ele (layK l t k order).time (i : Int) ∧ (ele (offsK l t k order) (i : Int)).ready = ele (layK l t k order).ready (i : Int) ∧ (ele (offsK l t k order) (i : Int)).place = ele (layK l t k order).places (i : Int) := by
 unfold offsK layK
 rw [ele_rm hi, ele_rm hi, ele_rm hi, ele_rm hi]
 exact ⟨rfl, rfl, rfl⟩
end
def nameO (o : Opr) (i : Nat) : Int := if i = 1 then o.b else o.a
def NameP (l : Lp) (t : Tgt) (k : Krn) (order : List Int) (s i : Nat) : Prop := nameO (oprAt k order s) i = (ele (layK l t k order).places (ele (usesL (ele l.body (s : Int))) (i : Int)).st - (ele (usesL (ele l.body (s : Int))) (i : Int)).bk - (oprAt k order s).stage) % t.regs
def TEdgeP (y : LayD) (e : Edg) : Prop := ele y.time e.fr + e.wt ≤ ele y.time e.to + e.bk * y.pace
structure TakesP (l : Lp) (t : Tgt) (k : Krn) (order : List Int) : Prop where
 lay : LayP l t k order
 edge : ∀ e, EdgeP l t e → TEdgeP (layK l t k order) e
 name : ∀ s, s < l.body.length → ∀ i, i < (usesL (ele l.body (s : Int))).length → NameP l t k order s i
 apart : ∀ a m : Nat, a < l.body.length → m < l.body.length → ApartP (layK l t k order) a m
 firsts : FirstsP (layK l t k order) (natL l.body.length)
theorem layK_us {l : Lp} {t : Tgt} {k : Krn} {order : List Int} (h : LayP l t k order) : ∀ s : Nat, s < l.body.length → ∀ r ∈ usesL (ele l.body (s : Int)), 0 ≤ r.st ∧ r.st < l.body.length ∧ 0 ≤ r.bk ∧ r.bk ≤ 3 := fun s hs r hr => (layK_ok h).us s hs r hr
theorem natL_take {n i : Nat} (h : i ≤ n) : (natL n).take i = natL i := by
 unfold natL
 rw [← List.map_take, List.take_range, Nat.min_eq_left h]
theorem natL_ele {n i : Nat} (h : i < n) : ele (natL n) (i : Int) = i := ele_rm h
theorem firsts_iff {y : LayD} (n : Nat) : FirstsP y (natL n) ↔ ∀ s, s < n → ∀ q, q < (farV y.body s).toNat → regF y s q ∉ fregs y (natL s) ++ frA y s q := by
 have h := nodup_take (y := y) (L := natL n) n (by rw [natL_len]; exact Nat.le_refl _)
 rw [natL_take (Nat.le_refl _)] at h
 unfold FirstsP
 rw [h]
 constructor
 ·intro h1 s hs
  have := h1 s hs
  rw [natL_ele hs, natL_take (by omega)] at this
  exact this
 ·intro h1 s hs
  rw [natL_ele hs, natL_take (by omega)]
  exact h1 s hs
section
variable {l : Lp} {t : Tgt} {k : Krn} {order : List Int}
end
theorem tmod_bd1 {a b : Int} (ha : 0 ≤ a) (hb : 1 ≤ b) : 0 ≤ Int.tmod a b ∧ Int.tmod a b < b := by
 rw [Int.tmod_eq_emod_of_nonneg ha]
 exact ⟨Int.emod_nonneg _ (by omega), Int.emod_lt_of_pos _ (by omega)⟩
theorem stages_ge {p : Pln} : ∀ n i : Nat, i < n → stgV p i + 1 ≤ stagesV p n
 | n + 1, i, h => by
  show stgV p i + 1 ≤ max (stagesV p n) (stgV p n + 1)
  by_cases e : i = n
  ·subst e; omega
  ·have := stages_ge (p := p) n i (by omega); omega
theorem stages_le {p : Pln} {n : Nat} (h : ∀ i : Nat, i < n → stgV p i ≤ 1000) : ∀ k, k ≤ n → 0 ≤ stagesV p k ∧ stagesV p k ≤ 1001
 | 0, _ => by show 0 ≤ (0 : Int) ∧ (0 : Int) ≤ 1001; omega
 | k + 1, hk => by
  have := stages_le h k (by omega)
  have := h k (by omega)
  show 0 ≤ max (stagesV p k) (stgV p k + 1) ∧ max (stagesV p k) (stgV p k + 1) ≤ 1001
  omega
theorem dest_ele {t : Tgt} {p : Pln} {n : Nat} {v : List Int} {i : Nat} (hi : i < n) : ele (destV t p n v) (i : Int) = (ele v (i : Int) - stgV p i) % t.regs := ele_rm hi
theorem emit_ok {l : Lp} {t : Tgt} {p : Pln} (h : LegalP l t p) {v : List Int} : EmitP l t p (destV t p l.body.length v) := by
 have ht := h.tgt
 rw [tgtOk_iff] at ht
 refine ⟨h, by unfold destV; simp, fun i hi => ?_⟩
 unfold DestOk
 rw [dest_ele hi]
 exact ⟨Int.emod_nonneg _ (by omega), Int.emod_lt_of_pos _ (by omega)⟩
section
variable {l : Lp} {t : Tgt} {p : Pln} {v : List Int}
def krnN (l : Lp) (t : Tgt) (p : Pln) (v : List Int) : Krn := krnV l t p (destV t p l.body.length v)
theorem opr_N {i : Nat} (hi : i < l.body.length) : oprAt (krnN l t p v) (natL l.body.length) i = oprV l t p (destV t p l.body.length v) i (usesL (ele l.body (i : Int))) := by
 unfold oprAt
 rw [natL_ele hi]
 exact ele_rm hi
theorem ops_N {i : Nat} (hi : i < l.body.length) : ele (krnN l t p v).ops (i : Int) = oprV l t p (destV t p l.body.length v) i (usesL (ele l.body (i : Int))) := ele_rm hi
theorem time_N (h : LegalP l t p) {i : Nat} (hi : i < l.body.length) : Int.tmod (ele p.times (i : Int)) p.pace + p.pace * stgV p i = ele p.times (i : Int) ∧ stgV p i * p.pace + Int.tmod (ele p.times (i : Int)) p.pace = ele p.times (i : Int) := by
 have := Int.tmod_add_mul_tdiv (ele p.times (i : Int)) p.pace
 unfold stgV
 refine ⟨this, ?_⟩
 rw [Int.mul_comm]; omega
theorem ab_bd (h : LegalP l t p) {i : Nat} (us : List Rf) (ds : List Int) : 0 ≤ (abV t p ds i us).1 ∧ (abV t p ds i us).1 < t.regs ∧ 0 ≤ (abV t p ds i us).2 ∧ (abV t p ds i us).2 < t.regs := by
 have ht := h.tgt
 rw [tgtOk_iff] at ht
 have hr : ∀ r, 0 ≤ regV t p ds i r ∧ regV t p ds i r < t.regs := fun r => ⟨Int.emod_nonneg _ (by omega), Int.emod_lt_of_pos _ (by omega)⟩
 unfold abV
 split
 ·simp only; omega
 ·rename_i a
  have := hr a
  simp only; omega
 ·rename_i a b _
  have := hr a; have := hr b
  simp only; omega
theorem uses_cases (s : Stm) : (usesN s.op < 1 → usesL s = []) ∧ (usesN s.op < 2 → (usesL s).length < 2) := by
 unfold usesN usesL
 by_cases h : s.op = 4
 ·simp [h]
 ·by_cases h2 : s.op > 10
  ·simp [h, h2]
  ·simp [h, h2]
theorem stm_ok (hl : LoopOk l) {i : Nat} (hi : i < l.body.length) {o : Opr} (ho : SameO o (ele l.body (i : Int))) : LoopOk (lpO l.logs o) := by
 have hs := hl.stm i hi
 rw [show l.body.getD i Stm.zero = ele l.body (i : Int) from rfl] at hs
 obtain ⟨o1, o2, o3, o4, o5⟩ := ho
 refine ⟨hl.1, by show 1 ≤ 2; omega, by show 2 ≤ 16; omega, hl.2.2.2.1, fun j hj => by
  have : (lpO l.logs o).outs.length = 0 := rfl
  omega, fun j hj => ?_⟩
 have hj' : j = 0 ∨ j = 1 := by
  have : (lpO l.logs o).body.length = 2 := rfl
  omega
 have hr : ∀ k : Int, 0 < k → RefOk 2 k ⟨0, 0⟩ := fun k hk => ⟨by show (0 : Int) ≤ 0; omega, by show (0 : Int) ≤ 3; omega, by show (0 : Int) ≤ 0; omega, fun _ => hk, fun hh => absurd rfl hh⟩
 have hz : Rf.isZero ⟨0, 0⟩ := ⟨rfl, rfl⟩
 rcases hj' with rfl | rfl
 ·show StmtOk _ _ _ turnS
  refine ⟨fun hh => ?_, fun hh => ?_, .inr (.inl ⟨rfl, rfl, ⟨rfl, rfl, rfl⟩, hz, hz⟩)⟩
  ·rcases hh with hh | hh
   ·exact absurd hh (by decide)
   ·exact absurd hh (by decide)
  ·exact absurd hh (by decide)
 ·show StmtOk l.logs.length 2 1 (stmO o)
  refine ⟨fun _ => hr _ (by omega), fun _ => hr _ (by omega), ?_⟩
  have h3 := hs.2.2
  have q : (stmO o).op = (ele l.body (i : Int)).op ∧ (stmO o).ar = (ele l.body (i : Int)).ar ∧ (stmO o).sp = (ele l.body (i : Int)).sp ∧ (stmO o).pl = (ele l.body (i : Int)).pl ∧ (stmO o).n = (ele l.body (i : Int)).n := ⟨o1, o2, o3, o4, o5⟩
  obtain ⟨p1, p2, p3, p4, p5⟩ := q
  unfold StillOk WordOk at *
  rw [p1, p2, p3, p4, p5]
  rcases h3 with h3 | h3 | h3 | h3 | h3
  ·exact .inl ⟨h3.1, h3.2.1, hz, hz⟩
  ·exact .inr (.inl ⟨h3.1, h3.2.1, h3.2.2.1, hz, hz⟩)
  ·exact .inr (.inr (.inl ⟨h3.1, h3.2.1, h3.2.2.1, hz, hz⟩))
  ·exact .inr (.inr (.inr (.inl ⟨h3.1, h3.2.1, h3.2.2.1, hz⟩)))
  ·exact .inr (.inr (.inr (.inr h3)))
theorem same_N {i : Nat} {ds : List Int} {us : List Rf} : SameO (oprV l t p ds i us) (ele l.body (i : Int)) := ⟨rfl, rfl, rfl, rfl, rfl⟩
theorem krn_may (h : LegalP l t p) : KMayP t (krnN l t p v) l.logs := by
 have hn := h.loop.2.2.1
 have hn1 := h.loop.2.1
 have hp := h.pace
 have hlen : (krnN l t p v).ops.length = l.body.length := krn_len
 have hst : ∀ i : Nat, i < l.body.length → stgV p i ≤ 1000 := fun i hi => (stg_bd hp (h.rng i hi)).2
 have hsl := stages_le hst l.body.length (Nat.le_refl _)
 have hsg := stages_ge (p := p) l.body.length 0 (by omega)
 have hs0 := (stg_bd hp (h.rng 0 (by omega))).1
 have hE := emit_ok h (v := v)
 refine ⟨h.tgt, hp, ⟨by show 1 ≤ stagesV p l.body.length; have hs0' : 0 ≤ stgV p (0 : Nat) := hs0; omega, hsl.2⟩, by omega, fun i hi => ?_, fun i hi => ?_⟩
 ·have hi' : i < l.body.length := by omega
  rw [ops_N hi']
  have hs := stg_bd hp (h.rng i hi')
  have hr := h.rng i hi'
  unfold RngP at hr
  have hm := tmod_bd1 hr.1 hp.1
  have ht := time_N h hi'
  have hg := stages_ge (p := p) l.body.length i hi'
  have hd := hE.2.2 i hi'
  unfold DestOk at hd
  have hab := ab_bd h (i := i) (usesL (ele l.body (i : Int))) (destV t p l.body.length v)
  have hu := uses_cases (ele l.body (i : Int))
  refine ⟨⟨hm.1, hm.2, hs.1, by show stgV p i < stagesV p l.body.length; omega, by show stgV p i * p.pace + Int.tmod (ele p.times (i : Int)) p.pace ≤ 1000; rw [ht.2]; omega⟩, ⟨hd.1, hd.2, hab.1, hab.2.1, hab.2.2.1, hab.2.2.2, fun hh => ?_, fun hh => ?_⟩, stm_ok h.loop hi' same_N⟩
  ·show (abV t p _ i (usesL (ele l.body (i : Int)))).1 = 0
   rw [hu.1 hh]; rfl
  ·show (abV t p _ i (usesL (ele l.body (i : Int)))).2 = 0
   have := hu.2 hh
   match usesL (ele l.body (i : Int)), this with
   | [], _ => rfl
   | [_], _ => rfl
 ·have hi' : i < l.body.length := by omega
  have hkey : ∀ j, j < l.body.length → keyO (krnN l t p v) j = keyK l p j := fun j hj => by
   unfold keyO keyK
   rw [ops_N hj]; rfl
  rw [hkey i hi', hlen]
  have hc : cntO (krnN l t p v) l.body.length (keyK l p i) = cntK l p l.body.length (keyK l p i) := by
   unfold cntO cntK
   refine List.countP_congr fun j hj => ?_
   rw [hkey j (List.mem_range.1 hj)]
  rw [hc]
  exact h.units i hi'
theorem krn_lay (h : LegalP l t p) : LayP l t (krnN l t p v) (natL l.body.length) := by
 refine ⟨h.loop, h.tgt, krn_may h, krn_len, natL_len _, fun s hs => ⟨?_, fun i hi => ?_, ?_⟩⟩
 ·rw [natL_ele hs]; omega
 ·rw [natL_ele hs, natL_ele (show i < l.body.length by omega)]; omega
 ·rw [opr_N hs]; exact same_N
theorem mod_shift {x s c R : Int} : ((x - s) % R + s - c) % R = (x - c) % R := by
 have h := Int.emod_add_mul_ediv (x - s) R
 rw [show (x - s) % R + s - c = (x - c) - R * ((x - s) / R) from by omega, Int.sub_mul_emod_self_left]
theorem lay_at (h : LegalP l t p) {i : Nat} (hi : i < l.body.length) :
  ele (layK l t (krnN l t p v) (natL l.body.length)).time (i : Int) = ele p.times (i : Int) ∧ ele (layK l t (krnN l t p v) (natL l.body.length)).ready (i : Int) = ele p.times (i : Int) + waitV t (ele l.body (i : Int)).op ∧
  ele (layK l t (krnN l t p v) (natL l.body.length)).places (i : Int) = (ele v (i : Int) - stgV p i) % t.regs + stgV p i := by
 have ht := time_N h hi
 have e1 : (offK t (krnN l t p v) (natL l.body.length) i).time = ele p.times (i : Int) := by
  show timeK _ (oprAt _ _ i) = _
  rw [opr_N hi]
  exact ht.1
 refine ⟨(ele_rm hi).trans e1, (ele_rm hi).trans ?_, (ele_rm hi).trans ?_⟩
 ·show timeK _ (oprAt _ _ i) + waitV t (oprAt _ _ i).op = _
  rw [opr_N hi]
  show Int.tmod (ele p.times (i : Int)) p.pace + p.pace * stgV p i + _ = _
  rw [ht.1]; rfl
 ·show (oprAt _ _ i).dest + (oprAt _ _ i).stage = _
  rw [opr_N hi]
  show ele (destV t p l.body.length v) (i : Int) + stgV p i = _
  rw [dest_ele hi]
theorem lp_at {i : Nat} (hi : i < l.body.length) : ele ((layP l t p).wp v).ready (i : Int) = ele p.times (i : Int) + waitV t (ele l.body (i : Int)).op := ele_rm hi
theorem krn_takes (h : LegalP l t p) (hv : PlOk (layP l t p) v) (hf : AllFine ((layP l t p).wp v)) : TakesP l t (krnN l t p v) (natL l.body.length) := by
 have hL := krn_lay h (v := v)
 have ht := h.tgt
 rw [tgtOk_iff] at ht
 refine ⟨hL, fun e he => ?_, fun s hs i hi => ?_, fun a m ha hm => ?_, ?_⟩
 ·have hin := he.in h.loop
  have h2 := h.edge e he
  obtain ⟨a, ha⟩ := Int.eq_ofNat_of_zero_le hin.to.1
  obtain ⟨b, hb⟩ := Int.eq_ofNat_of_zero_le hin.fr.1
  unfold TEdgeP
  unfold EdgOk at h2
  have ha' : a < l.body.length := by have := hin.to.2; omega
  have hb' : b < l.body.length := by have := hin.fr.2; omega
  rw [ha, hb] at h2 ⊢
  rw [(lay_at h ha').1, (lay_at h hb').1]
  exact h2
 ·have hu := layK_us hL s hs _ (ele_mem' hi)
  obtain ⟨a, ha⟩ := Int.eq_ofNat_of_zero_le hu.1
  have ha' : a < l.body.length := by have := hu.2.1; omega
  unfold NameP
  rw [ha, (lay_at h ha').2.2, opr_N hs]
  have hr : regV t p (destV t p l.body.length v) s (ele (usesL (ele l.body (s : Int))) (i : Int)) = ((ele v (a : Int) - stgV p a) % t.regs + stgV p a - (ele (usesL (ele l.body (s : Int))) (i : Int)).bk - stgV p s) % t.regs := by
   unfold regV
   rw [ha, dest_ele ha']
  rw [show (oprV l t p (destV t p l.body.length v) s (usesL (ele l.body (s : Int)))).stage = stgV p s from rfl, ← hr]
  have hlen := usesL_len (ele l.body (s : Int))
  show nameO ⟨_, _, _, _, (abV t p _ s (usesL (ele l.body (s : Int)))).1, (abV t p _ s (usesL (ele l.body (s : Int)))).2, _, _, _, _⟩ i = _
  generalize usesL (ele l.body (s : Int)) = us at *
  match us, hlen, hi with
  | [x], _, hi =>
   have : i = 0 := by simp at hi; omega
   subst this; rfl
  | [x, z], _, hi =>
   have : i = 0 ∨ i = 1 := by simp at hi; omega
   rcases this with rfl | rfl <;> rfl
 ·intro j hj hz hb
  have ea := lay_at h (v := v) ha; have em := lay_at h (v := v) hm
  refine hf.1 a m ha hm j hj ?_ ?_
  ·show (ele v (m : Int) + j - ele v (a : Int)) % t.regs = 0
   have hz' : (((ele v (m : Int) - stgV p m) % t.regs + stgV p m) + j - ((ele v (a : Int) - stgV p a) % t.regs + stgV p a)) % t.regs = 0 := by
    rw [← ea.2.2, ← em.2.2]; exact hz
   have h1 := Int.emod_add_mul_ediv (ele v (a : Int) - stgV p a) t.regs
   have h2 := Int.emod_add_mul_ediv (ele v (m : Int) - stgV p m) t.regs
   rw [show ele v (m : Int) + j - ele v (a : Int) = (((ele v (m : Int) - stgV p m) % t.regs + stgV p m) + j - ((ele v (a : Int) - stgV p a) % t.regs + stgV p a)) - t.regs * ((ele v (a : Int) - stgV p a) / t.regs - (ele v (m : Int) - stgV p m) / t.regs) from by rw [Int.mul_sub]; omega, Int.sub_mul_emod_self_left]
   exact hz'
  ·have ra : ele ((layP l t p).wp v).ready (a : Int) = ele (layK l t (krnN l t p v) (natL l.body.length)).ready (a : Int) := (lp_at ha).trans ea.2.1.symm
   have rm : ele ((layP l t p).wp v).ready (m : Int) = ele (layK l t (krnN l t p v) (natL l.body.length)).ready (m : Int) := (lp_at hm).trans em.2.1.symm
   rcases hb with ⟨k, r, q1, q2, q3, q4⟩ | ⟨q1, q2, q3⟩
   ·refine .inl ⟨k, r, q1, q2, q3, ?_⟩
    rw [ra, rm, show ele ((layP l t p).wp v).time (k : Int) = ele (layK l t (krnN l t p v) (natL l.body.length)).time (k : Int) from (lay_at h q1).1.symm]
    exact q4
   ·refine .inr ⟨q1, ?_, q3⟩
    rw [ra, rm]; exact q2
 ·have hfi := hf.2
  have e : fregs (layK l t (krnN l t p v) (natL l.body.length)) (natL l.body.length) = fregs ((layP l t p).wp v) (natL l.body.length) := by
   unfold fregs
   refine congrArg List.flatten (List.map_congr_left fun a ha => ?_)
   have hb := natL_mem ha
   obtain ⟨i, hi⟩ := Int.eq_ofNat_of_zero_le hb.1
   subst hi
   refine rm_congr fun q hq => ?_
   unfold regF
   rw [(lay_at h (v := v) (show i < l.body.length by omega)).2.2]
   show ((ele v (i : Int) - stgV p i) % t.regs + stgV p i - (q : Int) - 1) % t.regs = (ele v (i : Int) - (q : Int) - 1) % t.regs
   rw [show (ele v (i : Int) - stgV p i) % t.regs + stgV p i - (q : Int) - 1 = (ele v (i : Int) - stgV p i) % t.regs + stgV p i - ((q : Int) + 1) from by omega, mod_shift]
   rw [show ele v (i : Int) - ((q : Int) + 1) = ele v (i : Int) - (q : Int) - 1 from by omega]
  unfold FirstsP
  rw [e]
  exact hfi
end
theorem wait_pos1 {t : Tgt} (ht : tgtOk t = true) (op : Int) : 1 ≤ waitV t op ∧ waitV t op ≤ 6 := by
 unfold waitV
 rw [if_pos ht]
 rw [tgtOk_iff] at ht
 exact sel3_bd (by omega) (by omega) (by omega)
def OverP (l : Lp) (t : Tgt) (p : Pln) : Prop := ∀ i : Nat, i < l.body.length → ele p.times (i : Int) + waitV t (ele l.body (i : Int)).op ≤ p.pace
theorem spaced_fine {l : Lp} {t : Tgt} {p : Pln} (h : LegalP l t p) (hr : 5 * (l.body.length : Int) ≤ t.regs) (ho : OverP l t p) : ∀ k, k < l.body.length → FineP ((layP l t p).wp (spV l.body.length)) k := by
 have hn := h.loop.2.2.1
 have hp := h.pace
 have hy : ((layP l t p).wp (spV l.body.length)).Ok := (layP_ok h).1.wp (sp_ok (layP_ok h).1)
 have hsp : ∀ i : Nat, i < l.body.length → ele ((layP l t p).wp (spV l.body.length)).places (i : Int) = 5 * (i : Int) := fun i hi => ele_rm hi
 have hrd : ∀ i : Nat, i < l.body.length → 1 ≤ ele ((layP l t p).wp (spV l.body.length)).ready (i : Int) ∧ ele ((layP l t p).wp (spV l.body.length)).ready (i : Int) ≤ p.pace := fun i hi => by
  rw [lp_at hi]
  have h1 := h.rng i hi
  have hw := wait_pos1 h.tgt (ele l.body (i : Int)).op
  unfold RngP at h1
  have := ho i hi
  omega
 have htm : ∀ i : Nat, i < l.body.length → ele ((layP l t p).wp (spV l.body.length)).time (i : Int) < p.pace := fun i hi => by
  have hw := wait_pos1 h.tgt (ele l.body (i : Int)).op
  have := ho i hi
  show ele p.times (i : Int) < p.pace
  omega
 have hap : ∀ a m : Nat, a < l.body.length → m < l.body.length → ApartP ((layP l t p).wp (spV l.body.length)) a m := fun a m ha hm j hj hz hb => by
  have ra := hrd a ha; have rm := hrd m hm
  rw [hsp a ha, hsp m hm, show ((layP l t p).wp (spV l.body.length)).regs = t.regs from rfl] at hz
  have hpe : ((layP l t p).wp (spV l.body.length)).pace = p.pace := rfl
  have hlow : -p.pace < j * p.pace → 0 ≤ j := fun hl => by
   by_cases c : j < 0
   ·have := Int.mul_le_mul_of_nonneg_right (show j ≤ -1 by omega) (show 0 ≤ p.pace by omega)
    omega
   ·omega
  have hup : j * p.pace < 4 * p.pace → j ≤ 3 := fun hu => by
   by_cases c : 4 ≤ j
   ·have := Int.mul_le_mul_of_nonneg_right c (show 0 ≤ p.pace by omega)
    omega
   ·omega
  have hj03 : 0 ≤ j ∧ j ≤ 3 := by
   rcases hb with ⟨k, r, q1, q2, q3, q4⟩ | ⟨q1, q2, q3⟩
   ·have hu := hy.us k q1 r q2
    have htk := htm k q1
    rw [hpe] at q4
    have m1 := Int.mul_le_mul_of_nonneg_right (show r.bk ≤ 3 by omega) (show 0 ≤ p.pace by omega)
    rcases q4 with ⟨n1, n2⟩ | ⟨n1, n2, n3⟩
    ·exact ⟨hlow (by omega), hup (by omega)⟩
    ·exact ⟨by omega, hup (by omega)⟩
   ·rw [hpe] at q2
    exact ⟨hlow (by omega), by omega⟩
  obtain ⟨z, hz'⟩ := Int.dvd_of_emod_eq_zero hz
  have hz0 : z = 0 := by
   by_cases c1 : 1 ≤ z
   ·have := Int.mul_le_mul_of_nonneg_left c1 (show 0 ≤ t.regs by omega)
    omega
   ·by_cases c2 : z ≤ -1
    ·have := Int.mul_le_mul_of_nonneg_left c2 (show 0 ≤ t.regs by omega)
     omega
    ·omega
  rw [hz0, Int.mul_zero] at hz'
  rcases hj with hj | hj <;> omega
 intro k hk
 refine ⟨fun m hm => ⟨hap k m hk (by omega), hap m k (by omega) hk⟩, (firsts_iff _).2 fun s hs q hq hmem => ?_⟩
 have hfar : 0 ≤ farV ((layP l t p).wp (spV l.body.length)).body (s : Int) ∧ farV ((layP l t p).wp (spV l.body.length)).body (s : Int) ≤ 3 := far_bd hy (s : Int)
 have hreg : ∀ s q : Nat, s < l.body.length → regF ((layP l t p).wp (spV l.body.length)) s q = (5 * (s : Int) - q - 1) % t.regs := fun s q hs => by
  unfold regF
  rw [hsp s hs]; rfl
 have hne : ∀ s' q' : Nat, s' < k + 1 → q' < 3 → (s' ≠ s ∨ q' ≠ q) → regF ((layP l t p).wp (spV l.body.length)) s' q' ≠ regF ((layP l t p).wp (spV l.body.length)) s q := fun s' q' hs' hq' hd he => by
  rw [hreg s' q' (by omega), hreg s q (by omega)] at he
  have h1 := Int.emod_add_mul_ediv (5 * (s' : Int) - q' - 1) t.regs
  have h2 := Int.emod_add_mul_ediv (5 * (s : Int) - q - 1) t.regs
  rw [he] at h1
  have e : 5 * (s' : Int) - q' - 1 - (5 * (s : Int) - q - 1) = t.regs * ((5 * (s' : Int) - q' - 1) / t.regs - (5 * (s : Int) - q - 1) / t.regs) := by rw [Int.mul_sub]; omega
  generalize (5 * (s' : Int) - q' - 1) / t.regs - (5 * (s : Int) - q - 1) / t.regs = z at e
  have hz0 : z = 0 := by
   by_cases c1 : 1 ≤ z
   ·have := Int.mul_le_mul_of_nonneg_left c1 (show 0 ≤ t.regs by omega)
    omega
   ·by_cases c2 : z ≤ -1
    ·have := Int.mul_le_mul_of_nonneg_left c2 (show 0 ≤ t.regs by omega)
     omega
    ·omega
  rw [hz0, Int.mul_zero] at e
  rcases hd with hd | hd <;> omega
 rcases List.mem_append.1 hmem with hm | hm
 ·unfold fregs at hm
  rw [List.mem_flatMap] at hm
  obtain ⟨a, ha, hb⟩ := hm
  have hab := natL_mem ha
  obtain ⟨s', hs'⟩ := Int.eq_ofNat_of_zero_le hab.1
  subst hs'
  unfold frA at hb
  rw [List.mem_map] at hb
  obtain ⟨q', hq', he⟩ := hb
  have hf' : 0 ≤ farV ((layP l t p).wp (spV l.body.length)).body (s' : Int) ∧ farV ((layP l t p).wp (spV l.body.length)).body (s' : Int) ≤ 3 := far_bd hy (s' : Int)
  have := List.mem_range.1 hq'
  exact hne s' q' (by omega) (by omega) (.inl (by omega)) he
 ·unfold frA at hm
  rw [List.mem_map] at hm
  obtain ⟨q', hq', he⟩ := hm
  have := List.mem_range.1 hq'
  exact hne s q' hs (by omega) (.inr (by omega)) he
theorem lpO_fine {l : Lp} (hf : l.Fine) {o : Opr} (ho : InR o.op ∧ InR o.ar ∧ InR o.sp ∧ InR o.pl ∧ InR o.n) : (lpO l.logs o).Fine := by
 have h0 : InR 0 := by unfold InR; omega
 have h2 : InR 2 := by unfold InR; omega
 refine ⟨hf.rlogs, fun u hu => ?_, fun u hu => (by cases hu), hf.llogs, by show 2 ≤ maxLen; rw [maxLen_eq]; omega, by show 0 ≤ maxLen; omega⟩
 have hu' : u = turnS ∨ u = stmO o := by
  rcases List.mem_cons.1 hu with h | h
  ·exact .inl h
  ·exact .inr (List.mem_singleton.1 h)
 rcases hu' with rfl | rfl
 ·exact ⟨h2, h0, h0, h0, h0, h0, h0, h0, h0⟩
 ·exact ⟨ho.1, h0, h0, h0, h0, ho.2.1, ho.2.2.1, ho.2.2.2.1, ho.2.2.2.2⟩
theorem krnN_fine {l : Lp} (hf : l.Fine) {t : Tgt} {p : Pln} {v : List Int} : KFine l (krnN l t p v) := fun i hi => by
 have hi' : i < l.body.length := by rw [show (krnN l t p v).ops.length = l.body.length from krn_len] at hi; exact hi
 rw [ops_N hi']
 have hs := hf.rbody _ (ele_mem' hi')
 obtain ⟨s1, _, _, _, _, s2, s3, s4, s5⟩ := hs
 exact lpO_fine hf ⟨s1, s2, s3, s4, s5⟩
noncomputable def kernel_Stmt_m (o : Opr) : Option (Stm) :=
 some (Stm.mk o.op (Rf.mk 0 0) (Rf.mk 0 0) o.ar o.sp o.pl o.n)
noncomputable def kernel_Time_m (k_ : Krn) (o : Opr) : Option (Int) :=
 ck (IR (o.stage * k_.pace)) <|
 ck (IR ((o.stage * k_.pace) + o.slot)) <|
 some ((o.stage * k_.pace) + o.slot)
noncomputable def kernel_op_c1_m (r_ from_ n : Int) (t : Tgt) : Option (Bool) :=
 some ((r_ == 0) || (((decide (n > from_)) && (decide (r_ > 0))) && (decide (r_ < t.regs))))
noncomputable def kernel_op_m (t : Tgt) (k_ : Krn) (o : Opr) (logs : List Int) : Option (Bool) :=
 bd (kernel_Stmt_m o) fun x4 =>
 bd (loop_Uses_m x4) fun x8 =>
 bd (show Option (Out (Int × Int × Int × Int) (Empty)) from br (decide ((ln x8) > 0)) (
 some (.go (0, 0, 0, 0))) (
 some (.go (x4.a.st, x4.a.bk, x4.b.st, x4.b.bk)))) fun o13 => o13.on (fun (b7c1_1, b7c2_1, b7c3_1, b7c4_1) =>
 bdG ((((decide (o.slot ≥ 0)) && (decide (o.slot < k_.pace))) && (decide (o.stage ≥ 0))) && (decide (o.stage < k_.stages))) (kernel_Time_m k_ o) fun x18 =>
 bdG (((((decide (o.slot ≥ 0)) && (decide (o.slot < k_.pace))) && (decide (o.stage ≥ 0))) && (decide (o.stage < k_.stages))) && (decide (x18 ≤ 1000))) (loop_May_m (Lp.mk logs [(Stm.mk 1 (Rf.mk 0 0) (Rf.mk 0 0) 0 0 0 0), (Stm.mk x4.op (Rf.mk b7c1_1 b7c2_1) (Rf.mk b7c3_1 b7c4_1) x4.ar x4.sp x4.pl x4.n)] [])) fun x21 =>
 bdG ((((((((decide (o.slot ≥ 0)) && (decide (o.slot < k_.pace))) && (decide (o.stage ≥ 0))) && (decide (o.stage < k_.stages))) && (decide (x18 ≤ 1000))) && x21) && (decide (o.dest ≥ 0))) && (decide (o.dest < t.regs))) (kernel_op_c1_m o.a 0 (ln x8) t) fun x24 =>
 bdG (((((((((decide (o.slot ≥ 0)) && (decide (o.slot < k_.pace))) && (decide (o.stage ≥ 0))) && (decide (o.stage < k_.stages))) && (decide (x18 ≤ 1000))) && x21) && (decide (o.dest ≥ 0))) && (decide (o.dest < t.regs))) && x24) (kernel_op_c1_m o.b 1 (ln x8) t) fun x27 =>
 some ((((((((((decide (o.slot ≥ 0)) && (decide (o.slot < k_.pace))) && (decide (o.stage ≥ 0))) && (decide (o.stage < k_.stages))) && (decide (x18 ≤ 1000))) && x21) && (decide (o.dest ≥ 0))) && (decide (o.dest < t.regs))) && x24) && x27)) (fun r => r.elim)
noncomputable def kernel_May_L0 (t : Tgt) (k_ : Krn) (logs : List Int) : ((List ((Int × Int) × Int)) × Int) → Option (Stp ((List ((Int × Int) × Int)) × Int) (Bool)) := fun (m9n_1, x50_1) =>
 br (decide (x50_1 < (ln k_.ops))) (
 ck (IX x50_1 (ln k_.ops)) <|
 bd (kernel_op_m t k_ (ele k_.ops x50_1) logs) fun x22 =>
 br (!x22) (
 some (.ret false)) (
 bd (num_Class_m ((ele k_.ops x50_1).op)) fun x28 =>
 ck (IR ((mget m9n_1 ((ele k_.ops x50_1).slot, x28) 0) + 1)) <|
 ck (IX x28 3) <|
 br (decide ((mget (mput m9n_1 ((ele k_.ops x50_1).slot, x28) ((mget m9n_1 ((ele k_.ops x50_1).slot, x28) 0) + 1)) ((ele k_.ops x50_1).slot, x28) 0) > (sel3 t.u0 t.u1 t.u2 x28))) (
 some (.ret false)) (
 ck (IR (x50_1 + 1)) <|
 some (.next ((mput m9n_1 ((ele k_.ops x50_1).slot, x28) ((mget m9n_1 ((ele k_.ops x50_1).slot, x28) 0) + 1)), (x50_1 + 1)))))) (
 some (.brk (m9n_1, x50_1)))
noncomputable def kernel_May_m (t : Tgt) (k_ : Krn) (logs : List Int) : Option (Bool) :=
 bd (target_May_m t) fun x3 =>
 br (((((((!x3) || (decide (k_.pace < 1))) || (decide (k_.pace > 200))) || (decide (k_.stages < 1))) || (decide (k_.stages > 1001))) || (decide ((ln k_.ops) < 1))) || (decide ((ln k_.ops) > 16))) (
 some false) (
 bd (lp (kernel_May_L0 t k_ logs) (([] : List ((Int × Int) × Int)), 0)) fun o10 => o10.on (fun (m9n_1, x50_1) =>
 some true) (fun r => some r))
def lpC (logs : List Int) (o : Opr) : Lp := ⟨logs, [⟨1, ⟨0, 0⟩, ⟨0, 0⟩, 0, 0, 0, 0⟩, stmO o], []⟩
theorem lpC_iff {logs : List Int} {o : Opr} : LoopOk (lpC logs o) ↔ LoopOk (lpO logs o) := by
 have hz : Rf.isZero ⟨0, 0⟩ := ⟨rfl, rfl⟩
 have key : ∀ s s' : Stm, (StmtOk logs.length 2 0 s') → LoopOk ⟨logs, [s, stmO o], []⟩ → LoopOk ⟨logs, [s', stmO o], []⟩ := fun s s' hs h => by
  refine ⟨h.1, h.2.1, h.2.2.1, h.2.2.2.1, h.2.2.2.2.1, fun j hj => ?_⟩
  have hj' : j = 0 ∨ j = 1 := by
   have : (Lp.mk logs [s', stmO o] []).body.length = 2 := rfl
   omega
  rcases hj' with rfl | rfl
  ·exact hs
  ·exact h.2.2.2.2.2 1 (by show (1 : Int) < 2; omega)
 refine ⟨fun h => key _ _ ?_ h, fun h => key _ _ ?_ h⟩
 ·refine ⟨fun hh => ?_, fun hh => absurd hh (by decide), .inr (.inl ⟨rfl, rfl, ⟨rfl, rfl, rfl⟩, hz, hz⟩)⟩
  rcases hh with hh | hh <;> exact absurd hh (by decide)
 ·refine ⟨fun hh => ?_, fun hh => absurd hh (by decide), .inl ⟨rfl, ⟨rfl, rfl, rfl⟩, hz, hz⟩⟩
  rcases hh with hh | hh <;> exact absurd hh (by decide)
theorem uses_ln (o : Opr) : ((usesL (stmO o)).length : Int) = usesN o.op := by
 unfold usesL usesN
 rw [show (stmO o).op = o.op from rfl]
 by_cases h : o.op = 4
 ·rw [if_pos h, if_pos h]; rfl
 ·by_cases h2 : o.op > 10
  ·rw [if_neg h, if_pos h2, if_neg h, if_pos h2]; rfl
  ·rw [if_neg h, if_neg h2, if_neg h, if_neg h2]; rfl
theorem lpC_fine {logs : List Int} {o : Opr} (h : (lpO logs o).Fine) : (lpC logs o).Fine := by
 have h0 : InR 0 := by unfold InR; omega
 have h1 : InR 1 := by unfold InR; omega
 refine ⟨h.rlogs, fun u hu => ?_, h.routs, h.llogs, h.lbody, h.louts⟩
 rcases List.mem_cons.1 hu with rfl | hu
 ·exact ⟨h1, h0, h0, h0, h0, h0, h0, h0, h0⟩
 ·exact h.rbody u (by rw [List.mem_singleton] at hu; subst hu; show stmO o ∈ [turnS, stmO o]; simp)
theorem kop_s {t : Tgt} (ht : tgtOk t = true) {k : Krn} {o : Opr} {logs : List Int} (hp : 1 ≤ k.pace ∧ k.pace ≤ 200) (hs : 1 ≤ k.stages ∧ k.stages ≤ 1001) (hf : (lpO logs o).Fine) : kernel_op_m t k o logs = some (tb (OneP t k o logs)) := by
 rw [tgtOk_iff] at ht
 have hst : kernel_Stmt_m o = some (stmO o) := rfl
 have hu : loop_Uses_m (stmO o) = some (usesL (stmO o)) := Uses_s _
 have hun := uses_ln o
 have hmay : loop_May_m (lpC logs o) = some (tb (LoopOk (lpO logs o))) := by
  rw [May_s _ (lpC_fine hf)]
  congr 1
  exact tb_congr lpC_iff
 unfold kernel_op_m
 rw [hst, bd_ret, hu, bd_ret]
 have hsel : (show Option (Out (Int × Int × Int × Int) (Empty)) from br (decide ((ln (usesL (stmO o))) > 0)) (some (.go (0, 0, 0, 0))) (some (.go ((stmO o).a.st, (stmO o).a.bk, (stmO o).b.st, (stmO o).b.bk)))) = some (.go (0, 0, 0, 0)) := by
  by_cases c : ln (usesL (stmO o)) > 0
  ·rw [decide_eq_true c]; rfl
  ·rw [decide_eq_false c]; rfl
 rw [hsel, bd_ret, Out.on_go]
 simp only
 rw [show (Lp.mk logs [(Stm.mk 1 (Rf.mk 0 0) (Rf.mk 0 0) 0 0 0 0), (Stm.mk (stmO o).op (Rf.mk 0 0) (Rf.mk 0 0) (stmO o).ar (stmO o).sp (stmO o).pl (stmO o).n)] []) = lpC logs o from rfl]
 by_cases h1 : 0 ≤ o.slot ∧ o.slot < k.pace ∧ 0 ≤ o.stage ∧ o.stage < k.stages
 ·have m1 := mul_le (a := o.stage) (A := 1001) (b := k.pace) (B := 200) (by omega) (by omega) (by omega) (by omega)
  have htm : kernel_Time_m k o = some (o.stage * k.pace + o.slot) := by
   unfold kernel_Time_m
   rw [ck_IR (by omega) (by omega), ck_IR (by omega) (by omega)]
  have hc : ((((decide (o.slot ≥ 0)) && (decide (o.slot < k.pace))) && (decide (o.stage ≥ 0))) && (decide (o.stage < k.stages))) = true := by
   simp only [Bool.and_eq_true, decide_eq_true_eq]; omega
  rw [hc, htm, bdG_t, bd_ret, Bool.true_and]
  by_cases h2 : o.stage * k.pace + o.slot ≤ 1000
  ·rw [decide_eq_true h2, bdG_t, hmay, bd_ret, Bool.true_and]
   by_cases h3 : LoopOk (lpO logs o)
   ·rw [tb_t h3, Bool.true_and]
    by_cases h4 : 0 ≤ o.dest ∧ o.dest < t.regs
    ·rw [show (decide (o.dest ≥ 0) && decide (o.dest < t.regs)) = true from by simp only [Bool.and_eq_true, decide_eq_true_eq]; omega, bdG_t]
     unfold kernel_op_c1_m
     rw [bd_ret, bdG_some', Bool.true_and]
     have ha : ((o.a == 0) || (((decide (ln (usesL (stmO o)) > 0)) && (decide (o.a > 0))) && (decide (o.a < t.regs)))) = tb (o.a = 0 ∨ (0 < usesN o.op ∧ 0 < o.a ∧ o.a < t.regs)) := tb_eq (by unfold ln; rw [hun]; simp [and_assoc])
     have hb : ((o.b == 0) || (((decide (ln (usesL (stmO o)) > 1)) && (decide (o.b > 0))) && (decide (o.b < t.regs)))) = tb (o.b = 0 ∨ (1 < usesN o.op ∧ 0 < o.b ∧ o.b < t.regs)) := tb_eq (by unfold ln; rw [hun]; simp [and_assoc])
     rw [ha, hb]
     have hN : NamesP t o ↔ (o.a = 0 ∨ (0 < usesN o.op ∧ 0 < o.a ∧ o.a < t.regs)) ∧ (o.b = 0 ∨ (1 < usesN o.op ∧ 0 < o.b ∧ o.b < t.regs)) := by
      unfold NamesP
      constructor
      ·rintro ⟨a1, a2, a3, a4, a5, a6, a7, a8⟩
       refine ⟨?_, ?_⟩
       ·by_cases c : o.a = 0
        ·exact .inl c
        ·exact .inr ⟨by have : ¬ usesN o.op < 1 := fun hh => c (a7 hh); omega, by omega, a4⟩
       ·by_cases c : o.b = 0
        ·exact .inl c
        ·exact .inr ⟨by have : ¬ usesN o.op < 2 := fun hh => c (a8 hh); omega, by omega, a6⟩
      ·rintro ⟨b1, b2⟩
       refine ⟨h4.1, h4.2, ?_, ?_, ?_, ?_, fun hh => ?_, fun hh => ?_⟩
       all_goals first | omega | (rcases b1 with b1 | b1 <;> rcases b2 with b2 | b2 <;> omega)
     by_cases h5 : (o.a = 0 ∨ (0 < usesN o.op ∧ 0 < o.a ∧ o.a < t.regs))
     ·by_cases h6 : (o.b = 0 ∨ (1 < usesN o.op ∧ 0 < o.b ∧ o.b < t.regs))
      ·rw [tb_t h5, tb_t h6, tb_t (p := OneP t k o logs) ⟨⟨h1.1, h1.2.1, h1.2.2.1, h1.2.2.2, h2⟩, hN.2 ⟨h5, h6⟩, h3⟩]; rfl
      ·rw [tb_t h5, tb_f h6, tb_f fun hh : OneP t k o logs => h6 (hN.1 hh.2.1).2]; rfl
     ·rw [tb_f h5, tb_f fun hh : OneP t k o logs => h5 (hN.1 hh.2.1).1]; rfl
    ·have hd : (decide (o.dest ≥ 0) && decide (o.dest < t.regs)) = false := by
      rw [Bool.and_eq_false_iff, decide_eq_false_iff_not, decide_eq_false_iff_not]; omega
     rw [hd, tb_f fun hh : OneP t k o logs => h4 ⟨hh.2.1.1, hh.2.1.2.1⟩]; rfl
   ·rw [tb_f h3, tb_f fun hh : OneP t k o logs => h3 hh.2.2]; rfl
  ·rw [decide_eq_false h2, tb_f fun hh : OneP t k o logs => h2 hh.1.2.2.2.2]; rfl
 ·have hc : ((((decide (o.slot ≥ 0)) && (decide (o.slot < k.pace))) && (decide (o.stage ≥ 0))) && (decide (o.stage < k.stages))) = false := by
   cases hh : ((((decide (o.slot ≥ 0)) && (decide (o.slot < k.pace))) && (decide (o.stage ≥ 0))) && (decide (o.stage < k.stages))) with
   | false => rfl
   | true =>
    simp only [Bool.and_eq_true, decide_eq_true_eq] at hh
    exact absurd ⟨hh.1.1.1, hh.1.1.2, hh.1.2, hh.2⟩ h1
  rw [hc, tb_f fun hh : OneP t k o logs => h1 ⟨hh.1.1, hh.1.2.1, hh.1.2.2.1, hh.1.2.2.2.1⟩]
  rfl
theorem cntO_all {t : Tgt} (ht : tgtOk t = true) {k : Krn} {n : Nat} : (∀ i, i < n → (cntO k (i + 1) (keyO k i) : Int) ≤ unitsV t (keyO k i).2) ↔ (∀ i, i < n → (cntO k n (keyO k i) : Int) ≤ unitsV t (keyO k i).2) := by
  have mono : ∀ (κ : Int × Int) i j, i ≤ j → cntO k i κ ≤ cntO k j κ := fun κ i j h => by
    induction j with
    | zero => have : i = 0 := by omega
              subst this; exact Nat.le_refl _
    | succ j ih =>
      by_cases e : i = j + 1
      · subst e; exact Nat.le_refl _
      · rw [cntO_succ]; have := ih (by omega); omega
  constructor
  · intro h
    have key : ∀ m, m ≤ n → ∀ κ, (cntO k m κ : Int) ≤ unitsV t κ.2 := by
      intro m
      induction m with
      | zero => intro _ κ; have := (units_bd ht κ.2).1; show ((0 : Nat) : Int) ≤ _; omega
      | succ m ih =>
        intro hm κ
        by_cases e : keyO k m = κ
        · have := h m (by omega); rw [e] at this; exact this
        · rw [cntO_succ, if_neg e]; exact ih (by omega) κ
    exact fun i _ => key n (Nat.le_refl _) _
  · intro h i hi
    have := h i hi
    have := mono (keyO k i) (i + 1) n hi
    omega
theorem pMay_s {t : Tgt} {k : Krn} {logs : List Int} (hf : ∀ i : Nat, i < k.ops.length → (lpO logs (ele k.ops (i : Int))).Fine) : kernel_May_m t k logs = some (tb (KMayP t k logs)) := by
 unfold kernel_May_m
 rw [target_May_s, bd_ret]
 by_cases h : tgtOk t = true ∧ (1 ≤ k.pace ∧ k.pace ≤ 200) ∧ (1 ≤ k.stages ∧ k.stages ≤ 1001) ∧ (1 ≤ k.ops.length ∧ k.ops.length ≤ 16)
 ·obtain ⟨h1, h2, h3, h4⟩ := h
  rw [show (((((((!tgtOk t) || (decide (k.pace < 1))) || (decide (k.pace > 200))) || (decide (k.stages < 1))) || (decide (k.stages > 1001))) || (decide ((ln k.ops) < 1))) || (decide ((ln k.ops) > 16))) = false from by rw [h1]; unfold ln; simp; omega, br_false]
  rcases lp_chk (f := kernel_May_L0 t k logs) (n := k.ops.length) (r0 := false) (fun i => OneP t k (ele k.ops (i : Int)) logs ∧ (cntO k (i + 1) (keyO k i) : Int) ≤ unitsV t (keyO k i).2) (fun i m => ∀ κ, mget m κ 0 = (cntO k i κ : Int)) (fun i g hi hg => by
    have hc := clsV_range (ele k.ops (i : Int)).op
    have hcl := cntO_le k (keyO k i) i
    have hk : ((ele k.ops (i : Int)).slot, clsV (ele k.ops (i : Int)).op) = keyO k i := rfl
    have hmg := hg (keyO k i)
    have hnew : mget (mput g (keyO k i) (mget g (keyO k i) 0 + 1)) (keyO k i) 0 = (cntO k (i + 1) (keyO k i) : Int) := by rw [mget_mput, if_pos rfl, hmg, cntO_succ, if_pos rfl]; rfl
    have hun : sel3 t.u0 t.u1 t.u2 (clsV (ele k.ops (i : Int)).op) = unitsV t (keyO k i).2 := rfl
    unfold kernel_May_L0
    simp only
    rw [br_T (by unfold ln; omega), ck_IX (by omega) (by unfold ln; omega), kop_s h1 h2 h3 (hf i hi), bd_ret]
    by_cases h5 : OneP t k (ele k.ops (i : Int)) logs
    ·rw [tb_t h5, Bool.not_true, br_false, num_Class_s, bd_ret, hk, ck_IR (by omega) (by omega), ck_IX hc.1 hc.2, hnew, hun]
     by_cases h6 : (cntO k (i + 1) (keyO k i) : Int) > unitsV t (keyO k i).2
     ·rw [br_T h6]; exact .inr ⟨fun h => by omega, rfl⟩
     ·rw [br_F h6, ck_IR (by omega) (by omega)]
      refine .inl ⟨⟨h5, by omega⟩, _, rfl, fun κ => ?_⟩
      rw [mget_mput, cntO_succ]
      by_cases hq : keyO k i = κ
      ·rw [if_pos hq, if_pos hq, hmg, hq]; rfl
      ·rw [if_neg hq, if_neg hq, hg]; rfl
    ·rw [tb_f h5]
     exact .inr ⟨fun h => h5 h.1, rfl⟩) (fun g => by unfold kernel_May_L0; exact br_F (by unfold ln; omega)) [] (fun κ => rfl) with ⟨q1, m, e, _⟩ | ⟨q1, e⟩
  ·rw [e, bd_ret, Out.on_go, tb_t (p := KMayP t k logs) ⟨h1, h2, h3, h4, fun i hi => (q1 i hi).1, (cntO_all h1).1 fun i hi => (q1 i hi).2⟩]
  ·rw [e, bd_ret, Out.on_ret, tb_f fun h : KMayP t k logs => q1 fun i hi => ⟨h.one i hi, (cntO_all h1).2 h.units i hi⟩]
 ·rw [tb_f fun hk : KMayP t k logs => h ⟨hk.tgt, hk.pace, hk.stages, hk.n⟩]
  have hc : (((((((!tgtOk t) || (decide (k.pace < 1))) || (decide (k.pace > 200))) || (decide (k.stages < 1))) || (decide (k.stages > 1001))) || (decide ((ln k.ops) < 1))) || (decide ((ln k.ops) > 16))) = true := by
   cases hh : (((((((!tgtOk t) || (decide (k.pace < 1))) || (decide (k.pace > 200))) || (decide (k.stages < 1))) || (decide (k.stages > 1001))) || (decide ((ln k.ops) < 1))) || (decide ((ln k.ops) > 16))) with
   | true => rfl
   | false =>
    unfold ln at hh
    simp only [Bool.or_eq_false_iff, Bool.not_eq_false', decide_eq_false_iff_not] at hh
    obtain ⟨⟨⟨⟨⟨⟨a1, a2⟩, a3⟩, a4⟩, a5⟩, a6⟩, a7⟩ := hh
    exact absurd ⟨a1, ⟨by omega, by omega⟩, ⟨by omega, by omega⟩, by omega, by omega⟩ h
  rw [hc]; rfl
noncomputable def check_layout_L0 (l : Lp) (t : Tgt) (k_ : Krn) (order : List Int) : ((List Int) × (List Int) × (List Int) × (List (Int × Bool)) × Int) → Option (Stp ((List Int) × (List Int) × (List Int) × (List (Int × Bool)) × Int) (Option LayT × Bool)) := fun (v17_1, v16_1, v15_1, m14n_1, x54_1) =>
 br (decide (x54_1 < (ln order))) (
 ck (IX x54_1 (ln order)) <|
 br (((decide ((ele order x54_1) < 0)) || (decide ((ele order x54_1) ≥ (ln k_.ops)))) || (mget m14n_1 (ele order x54_1) false)) (
 some (.ret (none, false))) (
 ck (IX (ele order x54_1) (ln k_.ops)) <|
 ck (IX x54_1 (ln l.body)) <|
 bd (kernel_Stmt_m (ele k_.ops (ele order x54_1))) fun x42 =>
 br (!([x42.op, x42.a.st, x42.a.bk, x42.b.st, x42.b.bk, x42.ar, x42.sp, x42.pl, x42.n] == [(ele l.body x54_1).op, 0, 0, 0, 0, (ele l.body x54_1).ar, (ele l.body x54_1).sp, (ele l.body x54_1).pl, (ele l.body x54_1).n])) (
 some (.ret (none, false))) (
 bd (kernel_Time_m k_ (ele k_.ops (ele order x54_1))) fun x48 =>
 ck (AL (v15_1 ++ [x48]).length 8) <|
 bd (kernel_Time_m k_ (ele k_.ops (ele order x54_1))) fun x56 =>
 bd (target_Wait_m t ((ele k_.ops (ele order x54_1)).op)) fun x59 =>
 ck (IR (x56 + x59)) <|
 ck (AL (v16_1 ++ [(x56 + x59)]).length 8) <|
 ck (IR ((ele k_.ops (ele order x54_1)).dest + (ele k_.ops (ele order x54_1)).stage)) <|
 ck (AL (v17_1 ++ [((ele k_.ops (ele order x54_1)).dest + (ele k_.ops (ele order x54_1)).stage)]).length 8) <|
 ck (IR (x54_1 + 1)) <|
 some (.next ((v17_1 ++ [((ele k_.ops (ele order x54_1)).dest + (ele k_.ops (ele order x54_1)).stage)]), (v16_1 ++ [(x56 + x59)]), (v15_1 ++ [x48]), (mput m14n_1 (ele order x54_1) true), (x54_1 + 1)))))) (
 some (.brk (v17_1, v16_1, v15_1, m14n_1, x54_1)))
noncomputable def check_layout_m (l : Lp) (t : Tgt) (k_ : Krn) (order : List Int) : Option (Option LayT × Bool) :=
 bd (loop_May_m l) fun x4 =>
 bdG (!(!x4)) (kernel_May_m t k_ l.logs) fun x7 =>
 br ((((!x4) || (!x7)) || ((ln k_.ops) != (ln l.body))) || ((ln order) != (ln l.body))) (
 some (none, false)) (
 bd (lp (check_layout_L0 l t k_ order) ([], [], [], ([] : List (Int × Bool)), 0)) fun o18 => o18.on (fun (v17_1, v16_1, v15_1, m14n_1, x54_1) =>
 some ((some (l.logs, l.body, l.outs, k_.pace, t.regs, v15_1, v16_1, v17_1)), true)) (fun r => some r))
noncomputable def check_named_L2 (t : Tgt) (k_ : Krn) (order y_Places : List Int) (x19_3 : Int) (x25 : List Rf) : Int → Option (Stp (Int) (Bool)) := fun x35_4 =>
 br (decide (x35_4 < (ln x25))) (
 ck (IX x35_4 (ln x25)) <|
 ck (IX x35_4 2) <|
 ck (IX ((ele x25 x35_4).st) (ln y_Places)) <|
 ck (IR ((ele y_Places ((ele x25 x35_4).st)) - (ele x25 x35_4).bk)) <|
 ck (IR (((ele y_Places ((ele x25 x35_4).st)) - (ele x25 x35_4).bk) - (ele k_.ops (ele order x19_3)).stage)) <|
 bd (emit_Rest_m (((ele y_Places ((ele x25 x35_4).st)) - (ele x25 x35_4).bk) - (ele k_.ops (ele order x19_3)).stage) t.regs) fun x51 =>
 br ((ele ([(ele k_.ops (ele order x19_3)).a, (ele k_.ops (ele order x19_3)).b] : List Int) x35_4) != x51) (
 some (.ret false)) (
 ck (IR (x35_4 + 1)) <|
 some (.next (x35_4 + 1)))) (
 some (.brk x35_4))
noncomputable def check_named_L0 (l : Lp) (t : Tgt) (k_ : Krn) (order y_Places : List Int) : Int → Option (Stp (Int) (Bool)) := fun x19_3 =>
 br (decide (x19_3 < (ln l.body))) (
 ck (IX x19_3 (ln l.body)) <|
 ck (IX x19_3 (ln order)) <|
 ck (IX (ele order x19_3) (ln k_.ops)) <|
 bd (loop_Uses_m (ele l.body x19_3)) fun x25 =>
 bd (lp (check_named_L2 t k_ order y_Places x19_3 x25) 0) fun o29 => o29.on (fun x35_4 =>
 ck (IR (x19_3 + 1)) <|
 some (.next (x19_3 + 1))) (fun r => some (.ret r))) (
 some (.brk x19_3))
noncomputable def check_named_m (l : Lp) (t : Tgt) (k_ : Krn) (order : List Int) (y_Pace y_Regs : Int) (y_Places : List Int) : Option (Bool) :=
 bd (lp (check_named_L0 l t k_ order y_Places) 0) fun o4 => o4.on (fun x19_3 =>
 some true) (fun r => some r)
noncomputable def check_takes_L0 (k_ : Krn) (y9 : LayT) (x25 : List Edg × Int) : Int → Option (Stp (Int) (Option LayT × Bool)) := fun x46_1 =>
 br (decide (x46_1 < (ln x25.1))) (
 ck (IX x46_1 (ln x25.1)) <|
 ck (IX ((ele x25.1 x46_1).to) (ln y9.2.2.2.2.2.1)) <|
 ck (IR ((ele x25.1 x46_1).bk * k_.pace)) <|
 ck (IR ((ele y9.2.2.2.2.2.1 ((ele x25.1 x46_1).to)) + ((ele x25.1 x46_1).bk * k_.pace))) <|
 ck (IX ((ele x25.1 x46_1).fr) (ln y9.2.2.2.2.2.1)) <|
 ck (IR ((ele y9.2.2.2.2.2.1 ((ele x25.1 x46_1).fr)) + (ele x25.1 x46_1).wt)) <|
 br (decide (((ele y9.2.2.2.2.2.1 ((ele x25.1 x46_1).to)) + ((ele x25.1 x46_1).bk * k_.pace)) < ((ele y9.2.2.2.2.2.1 ((ele x25.1 x46_1).fr)) + (ele x25.1 x46_1).wt))) (
 some (.ret (none, false))) (
 ck (IR (x46_1 + 1)) <|
 some (.next (x46_1 + 1)))) (
 some (.brk x46_1))
noncomputable def check_takes_L4 (l : Lp) (y9 : LayT) (x80_5 : Int) : Int → Option (Stp (Int) (Option LayT × Bool)) := fun x90_6 =>
 br (decide (x90_6 < (ln l.body))) (
 bd (KL_Apart_m y9.2.1 y9.2.2.1 y9.2.2.2.1 y9.2.2.2.2.1 y9.2.2.2.2.2.1 y9.2.2.2.2.2.2.1 y9.2.2.2.2.2.2.2 x80_5 x90_6) fun x54 =>
 br (!x54) (
 some (.ret (none, false))) (
 ck (IR (x90_6 + 1)) <|
 some (.next (x90_6 + 1)))) (
 some (.brk x90_6))
noncomputable def check_takes_L2 (l : Lp) (y9 : LayT) : ((List Int) × Int) → Option (Stp ((List Int) × Int) (Option LayT × Bool)) := fun (v34_5, x80_5) =>
 br (decide (x80_5 < (ln l.body))) (
 ck (AL (v34_5 ++ [x80_5]).length 8) <|
 bd (lp (check_takes_L4 l y9 x80_5) 0) fun o47 => o47.on (fun x90_6 =>
 ck (IR (x80_5 + 1)) <|
 some (.next ((v34_5 ++ [x80_5]), (x80_5 + 1)))) (fun r => some (.ret r))) (
 some (.brk (v34_5, x80_5)))
noncomputable def check_takes_m (l : Lp) (t : Tgt) (k_ : Krn) (order : List Int) : Option (Option LayT × Bool) :=
 bd (check_layout_m l t k_ order) fun x4 =>
 optC x4.1 (
 ck (x4.2 = false) <|
 ck ((!(!false)) = true → False) <|
 some (none, false)) fun y9 =>
 bdG (!(!x4.2)) (check_named_m l t k_ order y9.2.2.2.1 y9.2.2.2.2.1 y9.2.2.2.2.2.2.2) fun x19 =>
 br ((!x4.2) || (!x19)) (
 some (none, false)) (
 bd (dep_Edges_m l t) fun x25 =>
 bd (lp (check_takes_L0 k_ y9 x25) 0) fun o29 => o29.on (fun x46_1 =>
 bd (lp (check_takes_L2 l y9) ([], 0)) fun o35 => o35.on (fun (v34_5, x80_5) =>
 bd (KL_Firsts_m y9.1 y9.2.1 y9.2.2.1 y9.2.2.2.1 y9.2.2.2.2.1 y9.2.2.2.2.2.2.2 v34_5) fun x40 =>
 some ((some (y9.1, y9.2.1, y9.2.2.1, y9.2.2.2.1, y9.2.2.2.2.1, y9.2.2.2.2.2.1, y9.2.2.2.2.2.2.1, y9.2.2.2.2.2.2.2)), x40)) (fun r => some r)) (fun r => some r))
noncomputable def check_Takes_m (l : Lp) (t : Tgt) (k_ : Krn) (order : List Int) : Option (Bool) :=
 bd (check_takes_m l t k_ order) fun x4 =>
 optC x4.1 (
 ck (x4.2 = false) <|
 some false) fun y9 =>
 some x4.2
def layT (y : LayD) : LayT := (y.logs, y.body, y.outs, y.pace, y.regs, y.time, y.ready, y.places)
theorem timeK_s {t : Tgt} {k : Krn} {o : Opr} {logs : List Int} (hm : KMayP t k logs) (h : OneP t k o logs) : kernel_Time_m k o = some (timeK k o) := by
 have hb := opr_bd hm h
 unfold timeK at *
 have e := Int.mul_comm o.stage k.pace
 have hs := h.1
 unfold SlotP at hs
 unfold kernel_Time_m
 rw [ck_IR (by omega) (by omega), ck_IR (by omega) (by omega)]
 congr 1
 omega
theorem pLayout_s {l : Lp} (hf : l.Fine) {t : Tgt} {k : Krn} {order : List Int} (hk : KFine l k) (ho : order.length ≤ 9223372036854775807) : check_layout_m l t k order = some (if tb (LayP l t k order) = true then (some (layT (layK l t k order)), true) else (none, false)) := by
 unfold check_layout_m
 rw [May_s l hf, bd_ret, pMay_s hk, bdG_some']
 by_cases h : LoopOk l ∧ KMayP t k l.logs ∧ k.ops.length = l.body.length ∧ order.length = l.body.length
 ·obtain ⟨h1, h2, h3, h4⟩ := h
  have hn := h1.2.2.1
  rw [tb_t h1, tb_t h2, show ((((!true) || (!(if (!(!true)) = true then true else false))) || ((ln k.ops) != (ln l.body))) || ((ln order) != (ln l.body))) = false from by unfold ln; simp [h3, h4], br_false]
  have key : ∀ d s : Nat, s + d = l.body.length → (∀ j, j < s → OrdP l k order j) → ∀ m : List (Int × Bool), (∀ v, mget m v false = true ↔ ∃ j, j < s ∧ ele order (j : Int) = v) →
    ((∀ j, j < l.body.length → OrdP l k order j) ∧ ∃ m', lp (check_layout_L0 l t k order) ((List.range s).map (fun i => (offK t k order i).place), (List.range s).map (fun i => (offK t k order i).ready), (List.range s).map (fun i => (offK t k order i).time), m, (s : Int)) =
     some (.go ((List.range l.body.length).map (fun i => (offK t k order i).place), (List.range l.body.length).map (fun i => (offK t k order i).ready), (List.range l.body.length).map (fun i => (offK t k order i).time), m', (l.body.length : Int)))) ∨
    (¬ (∀ j, j < l.body.length → OrdP l k order j) ∧ lp (check_layout_L0 l t k order) ((List.range s).map (fun i => (offK t k order i).place), (List.range s).map (fun i => (offK t k order i).ready), (List.range s).map (fun i => (offK t k order i).time), m, (s : Int)) = some (.ret (none, false))) := by
   intro d
   induction d with
   | zero =>
    intro s hs hp m hm
    have : s = l.body.length := by omega
    subst this
    exact .inl ⟨hp, m, lp_brk (by unfold check_layout_L0; exact br_F (by unfold ln; omega))⟩
   | succ d ih =>
    intro s hs hp m hm
    have hs' : s < l.body.length := by omega
    have hix : IX (s : Int) (ln order) := ⟨by omega, by unfold ln; omega⟩
    by_cases c1 : 0 ≤ ele order (s : Int) ∧ ele order (s : Int) < l.body.length
    ·have hone := LayP.opr h2 h3 c1
     have hob := opr_bd h2 hone
     have hw := waitV_bd t (oprAt k order s).op
     have hixo : IX (ele order (s : Int)) (ln k.ops) := ⟨c1.1, by unfold ln; omega⟩
     by_cases c2 : ∀ i, i < s → ele order (i : Int) ≠ ele order (s : Int)
     ·have hmf : mget m (ele order (s : Int)) false = false := by
       cases hh : mget m (ele order (s : Int)) false with
       | false => rfl
       | true =>
        obtain ⟨j, hj, he⟩ := (hm _).1 hh
        exact absurd he (c2 j hj)
      have hb : (!([(stmO (oprAt k order s)).op, (stmO (oprAt k order s)).a.st, (stmO (oprAt k order s)).a.bk, (stmO (oprAt k order s)).b.st, (stmO (oprAt k order s)).b.bk, (stmO (oprAt k order s)).ar, (stmO (oprAt k order s)).sp, (stmO (oprAt k order s)).pl, (stmO (oprAt k order s)).n] == [(ele l.body (s : Int)).op, 0, 0, 0, 0, (ele l.body (s : Int)).ar, (ele l.body (s : Int)).sp, (ele l.body (s : Int)).pl, (ele l.body (s : Int)).n])) = !tb (SameO (oprAt k order s) (ele l.body (s : Int))) := by
       congr 1
       exact tb_eq (by unfold SameO stmO; simp)
      have hstep : check_layout_L0 l t k order ((List.range s).map (fun i => (offK t k order i).place), (List.range s).map (fun i => (offK t k order i).ready), (List.range s).map (fun i => (offK t k order i).time), m, (s : Int)) = br (!tb (SameO (oprAt k order s) (ele l.body (s : Int)))) (some (.ret (none, false))) (some (.next ((List.range (s + 1)).map (fun i => (offK t k order i).place), (List.range (s + 1)).map (fun i => (offK t k order i).ready), (List.range (s + 1)).map (fun i => (offK t k order i).time), mput m (ele order (s : Int)) true, ((s + 1 : Nat) : Int)))) := by
       unfold check_layout_L0
       simp only
       rw [br_T (by unfold ln; omega), ck_yes hix, show ((decide (ele order (s : Int) < 0) || decide (ele order (s : Int) ≥ ln k.ops)) || mget m (ele order (s : Int)) false) = false from by rw [hmf]; unfold ln; simp; omega, br_false, ck_yes hixo, ck_IX (by omega) (by unfold ln; omega)]
       rw [show ele k.ops (ele order (s : Int)) = oprAt k order s from rfl, show kernel_Stmt_m (oprAt k order s) = some (stmO (oprAt k order s)) from rfl, bd_ret, hb, timeK_s h2 hone]
       simp only [bd_ret]
       rw [ck_yes (AL8 (by simp; omega)), target_Wait_s, bd_ret, ck_IR (by omega) (by omega), ck_yes (AL8 (by simp; omega)), ck_IR (by omega) (by omega), ck_yes (AL8 (by simp; omega)), ck_IR (by omega) (by omega)]
       rw [show timeK k (oprAt k order s) = (fun i => (offK t k order i).time) s from rfl, show (fun i => (offK t k order i).time) s + waitV t (oprAt k order s).op = (fun i => (offK t k order i).ready) s from rfl, show (oprAt k order s).dest + (oprAt k order s).stage = (fun i => (offK t k order i).place) s from rfl, rm_succ, rm_succ, rm_succ]
       rfl
      by_cases c3 : SameO (oprAt k order s) (ele l.body (s : Int))
      ·rw [tb_t c3, Bool.not_true, br_false] at hstep
       have hp' : ∀ j, j < s + 1 → OrdP l k order j := fun j hj => by
        by_cases e : j = s
        ·subst e; exact ⟨c1, c2, c3⟩
        ·exact hp j (by omega)
       rcases ih (s + 1) (by omega) hp' (mput m (ele order (s : Int)) true) (fun v => by
        rw [mget_mput]
        by_cases e : ele order (s : Int) = v
        ·rw [if_pos e]; exact ⟨fun _ => ⟨s, by omega, e⟩, fun _ => rfl⟩
        ·rw [if_neg e, hm]
         constructor
         ·rintro ⟨j, hj, he⟩; exact ⟨j, by omega, he⟩
         ·rintro ⟨j, hj, he⟩
          by_cases e2 : j = s
          ·subst e2; exact absurd he e
          ·exact ⟨j, by omega, he⟩) with ⟨q1, m', q2⟩ | ⟨q1, q2⟩
       ·exact .inl ⟨q1, m', lp_step hstep q2⟩
       ·exact .inr ⟨q1, lp_step hstep q2⟩
      ·rw [tb_f c3] at hstep
       exact .inr ⟨fun h => c3 (h s hs').2.2, lp_ret hstep⟩
     ·have hmt : mget m (ele order (s : Int)) false = true := by
       refine (hm _).2 ?_
       refine Classical.byContradiction fun hh => c2 fun i hi he => hh ⟨i, hi, he⟩
      refine .inr ⟨fun h => c2 (h s hs').2.1, lp_ret ?_⟩
      unfold check_layout_L0
      simp only
      rw [br_T (by unfold ln; omega), ck_yes hix, hmt, Bool.or_true, br_true]
    ·refine .inr ⟨fun h => c1 (h s hs').1, lp_ret ?_⟩
     unfold check_layout_L0
     simp only
     rw [br_T (by unfold ln; omega), ck_yes hix, show ((decide (ele order (s : Int) < 0) || decide (ele order (s : Int) ≥ ln k.ops)) || mget m (ele order (s : Int)) false) = true from by
      unfold ln
      rw [Bool.or_eq_true, Bool.or_eq_true, decide_eq_true_eq, decide_eq_true_eq]; omega, br_true]
  rcases key l.body.length 0 (by omega) (fun j hj => absurd hj (Nat.not_lt_zero _)) [] (fun v => ⟨fun h => (by cases h), fun ⟨j, hj, _⟩ => absurd hj (Nat.not_lt_zero _)⟩) with ⟨q1, m', e⟩ | ⟨q1, e⟩
  ·rw [show lp (check_layout_L0 l t k order) ([], [], [], ([] : List (Int × Bool)), 0) = _ from e, bd_ret, Out.on_go, tb_t (p := LayP l t k order) ⟨h1, h2.tgt, h2, h3, h4, q1⟩]
   rfl
  ·rw [show lp (check_layout_L0 l t k order) ([], [], [], ([] : List (Int × Bool)), 0) = _ from e, bd_ret, Out.on_ret, tb_f fun h : LayP l t k order => q1 h.ord]
   rfl
 ·rw [tb_f fun hl : LayP l t k order => h ⟨hl.loop, hl.may, hl.n, hl.no⟩]
  by_cases h1 : LoopOk l
  ·by_cases h2 : KMayP t k l.logs
   ·rw [tb_t h1, tb_t h2, show ((((!true) || (!(if (!(!true)) = true then true else false))) || ((ln k.ops) != (ln l.body))) || ((ln order) != (ln l.body))) = true from by
     unfold ln
     by_cases h3 : k.ops.length = l.body.length
     ·have h4 : ¬ order.length = l.body.length := fun h4 => h ⟨h1, h2, h3, h4⟩
      simp; omega
     ·simp; omega, br_true]
    rfl
   ·rw [tb_t h1, tb_f h2]; rfl
  ·rw [tb_f h1]; rfl
section
variable {l : Lp} {t : Tgt} {k : Krn} {order : List Int}
def NamesAll (l : Lp) (t : Tgt) (k : Krn) (order : List Int) : Prop := ∀ s, s < l.body.length → ∀ i, i < (usesL (ele l.body (s : Int))).length → NameP l t k order s i
theorem named_s (h : LayP l t k order) : check_named_m l t k order (layK l t k order).pace (layK l t k order).regs (layK l t k order).places = some (tb (NamesAll l t k order)) := by
 have hy := layK_ok h
 have hn := h.loop.2.2.1
 have hR := hy.regs
 have hlp := hy.lp
 have hbl : (layK l t k order).body.length = l.body.length := rfl
 have hno := h.no; have hnn := h.n
 unfold check_named_m
 have X := lp_det2 (f := check_named_L0 l t k order (layK l t k order).places) (ρ := Bool) (fun s => (s : Int)) l.body.length (fun s => ∀ i, i < (usesL (ele l.body (s : Int))).length → NameP l t k order s i) (fun _ => false) (fun s hs _ => by
  have hor := h.ord s hs
  have ho := opr_bd h.may (LayP.opr h.may h.n hor.1)
  have hlen := usesL_len (ele l.body (s : Int))
  unfold check_named_L0
  rw [br_T (by unfold ln; omega), ck_IX (by omega) (by unfold ln; omega), ck_IX (by omega) (by unfold ln; omega), ck_IX hor.1.1 (by unfold ln; rw [hnn]; exact hor.1.2), Uses_s, bd_ret]
  rcases lp_det2 (f := check_named_L2 t k order (layK l t k order).places s (usesL (ele l.body (s : Int)))) (ρ := Bool) (fun i => (i : Int)) (usesL (ele l.body (s : Int))).length (fun i => NameP l t k order s i) (fun _ => false) (fun i hi _ => by
    have hu := layK_us h s hs _ (ele_mem' hi)
    obtain ⟨a, ha⟩ := Int.eq_ofNat_of_zero_le hu.1
    have ha' : a < l.body.length := by have := hu.2.1; omega
    have pa := hy.pl a ha'
    unfold check_named_L2
    rw [br_T (by unfold ln; omega), ck_IX (by omega) (by unfold ln; omega), ck_IX (by omega) (by omega), ha, ck_IX (by omega) (by unfold ln; omega), ck_IR (by omega) (by omega)]
    rw [show ele k.ops (ele order (s : Int)) = oprAt k order s from rfl, ck_IR (by omega) (by omega), eRest_s (by show 1 ≤ (layK l t k order).regs; omega) (by show (layK l t k order).regs ≤ 128; omega), bd_ret]
    have hname : ele ([(oprAt k order s).a, (oprAt k order s).b] : List Int) (i : Int) = nameO (oprAt k order s) i := by
     obtain c | c : i = 0 ∨ i = 1 := by omega
     all_goals subst c; rfl
    have hnp : (ele ([(oprAt k order s).a, (oprAt k order s).b] : List Int) (i : Int) != (ele (layK l t k order).places (a : Int) - (ele (usesL (ele l.body (s : Int))) (i : Int)).bk - (oprAt k order s).stage) % t.regs) = !tb (NameP l t k order s i) := by
     unfold NameP
     rw [hname, ha, neB]
    rw [hnp]
    exact ⟨fun h => by rw [tb_t h, Bool.not_true, br_false, ck_IR (by omega) (by omega)]; rfl, fun h => by rw [tb_f h, Bool.not_false, br_true]⟩) (by unfold check_named_L2; exact br_F (by unfold ln; omega)) with ⟨q1, e⟩ | ⟨i, q1, q2, _, e⟩
  ·rw [show lp (check_named_L2 t k order (layK l t k order).places s (usesL (ele l.body (s : Int)))) 0 = _ from e, bd_ret, Out.on_go, ck_IR (by omega) (by omega)]
   exact ⟨fun _ => rfl, fun h => absurd q1 h⟩
  ·rw [show lp (check_named_L2 t k order (layK l t k order).places s (usesL (ele l.body (s : Int)))) 0 = _ from e, bd_ret, Out.on_ret]
   exact ⟨fun h => absurd (h i q1) q2, fun _ => rfl⟩) (by unfold check_named_L0; exact br_F (by unfold ln; omega))
 rcases X with ⟨q1, e⟩ | ⟨s, q1, q2, _, e⟩
 ·rw [show lp (check_named_L0 l t k order (layK l t k order).places) 0 = _ from e, bd_ret, Out.on_go, tb_t (p := NamesAll l t k order) q1]
 ·rw [show lp (check_named_L0 l t k order (layK l t k order).places) 0 = _ from e, bd_ret, Out.on_ret, tb_f fun h : NamesAll l t k order => q2 (h s q1)]
end
section
variable {l : Lp} {t : Tgt} {k : Krn} {order : List Int}
theorem pTakes_s (hf : l.Fine) (hk : KFine l k) (ho : order.length ≤ 9223372036854775807) : ∃ r, check_takes_m l t k order = some (r, tb (TakesP l t k order)) ∧ (TakesP l t k order → r = some (layT (layK l t k order))) := by
 unfold check_takes_m
 rw [pLayout_s hf hk ho, bd_ret]
 by_cases h : LayP l t k order
 ·rw [tb_t h, if_pos rfl]
  show ∃ r, (optC (some (layT (layK l t k order))) _ _) = _ ∧ _
  unfold optC
  simp only
  have hn := named_s h
  rw [show (!(!((some (layT (layK l t k order)), true) : Option LayT × Bool).2)) = true from rfl, bdG_t, show check_named_m l t k order (layT (layK l t k order)).2.2.2.1 (layT (layK l t k order)).2.2.2.2.1 (layT (layK l t k order)).2.2.2.2.2.2.2 = _ from hn, bd_ret]
  by_cases hN : NamesAll l t k order
  ·rw [tb_t hN, show ((!((some (layT (layK l t k order)), true) : Option LayT × Bool).2) || (!true)) = false from rfl, br_false]
   obtain ⟨E, e1, e2, e3, e4, e5⟩ := edges_both h.loop hf h.tgt
   have hy := layK_ok h
   have hp := h.may.pace
   have hnn := h.loop.2.2.1
   have hlt := hy.lt
   have hbl : (layK l t k order).body.length = l.body.length := rfl
   rw [e1, bd_ret]
   rcases lp_det2 (f := check_takes_L0 k (layT (layK l t k order)) (E, 0)) (ρ := Option LayT × Bool) (fun i => (i : Int)) E.length (fun i => TEdgeP (layK l t k order) (ele E (i : Int))) (fun _ => (none, false)) (fun i hi _ => by
     have hin := ((e4 _).1 (ele_mem' hi)).in h.loop
     obtain ⟨a, ha⟩ := Int.eq_ofNat_of_zero_le hin.to.1
     obtain ⟨b, hb⟩ := Int.eq_ofNat_of_zero_le hin.fr.1
     have ha' : a < l.body.length := by have := hin.to.2; omega
     have hb' : b < l.body.length := by have := hin.fr.2; omega
     have ta := hy.tm a ha'; have tb_ := hy.tm b hb'
     have hbk := hin.bk; have hwt := hin.wt
     have m1 := mul_le (a := (ele E (i : Int)).bk) (A := 32) (b := k.pace) (B := 200) (by omega) (by omega) (by omega) (by omega)
     have e : check_takes_L0 k (layT (layK l t k order)) (E, 0) i = br (!tb (TEdgeP (layK l t k order) (ele E (i : Int)))) (some (.ret (none, false))) (some (.next ((i : Int) + 1))) := by
      unfold check_takes_L0
      simp only
      rw [show (layT (layK l t k order)).2.2.2.2.2.1 = (layK l t k order).time from rfl]
      rw [br_T (by unfold ln; omega), ck_IX (by omega) (by unfold ln; omega), ha, hb, ck_IX (by omega) (by unfold ln; omega), ck_IR (by omega) (by omega), ck_IR (by omega) (by omega), ck_IX (by omega) (by unfold ln; omega), ck_IR (by omega) (by omega), ck_IR (by omega) (by omega)]
      congr 1
      have : (!decide (ele (layK l t k order).time (a : Int) + (ele E (i : Int)).bk * k.pace < ele (layK l t k order).time (b : Int) + (ele E (i : Int)).wt)) = tb (TEdgeP (layK l t k order) (ele E (i : Int))) := tb_eq (by
       unfold TEdgeP
       rw [ha, hb, show (layK l t k order).pace = k.pace from rfl]
       simp)
      rw [← this, Bool.not_not]
     rw [e]
     exact ⟨fun h => by rw [tb_t h]; rfl, fun h => by rw [tb_f h]; rfl⟩) (by unfold check_takes_L0; exact br_F (by show ¬ ((E.length : Int) < ln E); unfold ln; omega)) with ⟨q1, w1⟩ | ⟨i, q1, q2, _, w1⟩
   ·rw [show lp (check_takes_L0 k (layT (layK l t k order)) (E, 0)) 0 = _ from w1, bd_ret, Out.on_go]
    have X := lp_det2 (f := check_takes_L2 l (layT (layK l t k order))) (ρ := Option LayT × Bool) (fun a => (natL a, (a : Int))) l.body.length (fun a => ∀ m : Nat, m < l.body.length → ApartP (layK l t k order) a m) (fun _ => (none, false)) (fun a ha _ => by
     unfold check_takes_L2
     simp only
     rw [br_T (by unfold ln; omega), show natL a ++ [(a : Int)] = natL (a + 1) from rm_succ (g := fun i : Nat => (i : Int)), ck_yes (AL8 (by rw [natL_len]; omega))]
     rcases lp_det2 (f := check_takes_L4 l (layT (layK l t k order)) a) (ρ := Option LayT × Bool) (fun i => (i : Int)) l.body.length (fun m => ApartP (layK l t k order) a m) (fun _ => (none, false)) (fun m hm _ => by
       have hap := apart_s hy ha hm
       unfold check_takes_L4
       rw [br_T (by unfold ln; omega), show KL_Apart_m (layT (layK l t k order)).2.1 (layT (layK l t k order)).2.2.1 (layT (layK l t k order)).2.2.2.1 (layT (layK l t k order)).2.2.2.2.1 (layT (layK l t k order)).2.2.2.2.2.1 (layT (layK l t k order)).2.2.2.2.2.2.1 (layT (layK l t k order)).2.2.2.2.2.2.2 a m = _ from hap, bd_ret]
       exact ⟨fun h => by rw [tb_t h, Bool.not_true, br_false, ck_IR (by omega) (by omega)]; rfl, fun h => by rw [tb_f h, Bool.not_false, br_true]⟩) (by unfold check_takes_L4; exact br_F (by unfold ln; omega)) with ⟨w1, e⟩ | ⟨m, w1, w2, _, e⟩
     ·rw [show lp (check_takes_L4 l (layT (layK l t k order)) a) 0 = _ from e, bd_ret, Out.on_go, ck_IR (by omega) (by omega)]
      exact ⟨fun _ => rfl, fun h => absurd w1 h⟩
     ·rw [show lp (check_takes_L4 l (layT (layK l t k order)) a) 0 = _ from e, bd_ret, Out.on_ret]
      exact ⟨fun h => absurd (h m w1) w2, fun _ => rfl⟩) (by unfold check_takes_L2; exact br_F (by unfold ln; omega))
    rcases X with ⟨q3, w2⟩ | ⟨a, q3, q4, _, w2⟩
    ·rw [show lp (check_takes_L2 l (layT (layK l t k order))) ([], 0) = _ from w2, bd_ret, Out.on_go]
     simp only
     have hfs := firsts_s hy (L := natL l.body.length) (fun x hx => by have := natL_mem hx; omega) (by rw [natL_len]; omega)
     rw [show KL_Firsts_m (layT (layK l t k order)).1 (layT (layK l t k order)).2.1 (layT (layK l t k order)).2.2.1 (layT (layK l t k order)).2.2.2.1 (layT (layK l t k order)).2.2.2.2.1 (layT (layK l t k order)).2.2.2.2.2.2.2 (natL l.body.length) = _ from hfs, bd_ret]
     refine ⟨_, congrArg some (Prod.ext rfl ?_), fun _ => rfl⟩
     exact tb_congr ⟨fun hh => ⟨h, (all_edges e4).1 q1, hN, fun a m ha hm => q3 a ha m hm, hh⟩, fun hh => hh.firsts⟩
    ·rw [show lp (check_takes_L2 l (layT (layK l t k order))) ([], 0) = _ from w2, bd_ret, Out.on_ret]
     have hnt : ¬ TakesP l t k order := fun hh => q4 fun m hm => hh.apart a m q3 hm
     exact ⟨none, by rw [tb_f hnt], fun hh => absurd hh hnt⟩
   ·rw [show lp (check_takes_L0 k (layT (layK l t k order)) (E, 0)) 0 = _ from w1, bd_ret, Out.on_ret]
    have hnt : ¬ TakesP l t k order := fun hh => q2 (hh.edge _ ((e4 _).1 (ele_mem' q1)))
    exact ⟨none, by rw [tb_f hnt], fun hh => absurd hh hnt⟩
  ·have hnt : ¬ TakesP l t k order := fun hh => hN hh.name
   rw [tb_f hN, show ((!((some (layT (layK l t k order)), true) : Option LayT × Bool).2) || (!false)) = true from rfl, br_true]
   exact ⟨none, by rw [tb_f hnt], fun hh => absurd hh hnt⟩
 ·have hnt : ¬ TakesP l t k order := fun hh => h hh.lay
  rw [tb_f h, if_neg (by decide)]
  refine ⟨none, ?_, fun hh => absurd hh hnt⟩
  rw [tb_f hnt]
  unfold optC
  simp only
  rw [ck_yes trivial, ck_yes (by decide)]
theorem pTakes2_s (hf : l.Fine) (hk : KFine l k) (ho : order.length ≤ 9223372036854775807) : check_Takes_m l t k order = some (tb (TakesP l t k order)) := by
 obtain ⟨r, e, hr⟩ := pTakes_s (t := t) hf hk ho
 unfold check_Takes_m
 rw [e, bd_ret]
 by_cases h : TakesP l t k order
 ·rw [hr h]; rfl
 ·rw [tb_f h]
  unfold optC
  cases r with
  | none => simp only; rw [ck_yes trivial]
  | some y => rfl
end
noncomputable def bound_rounds_L2 (n_ : Int) (v7_3 : List (List Int)) (x20_3 : Int) : ((List (List Int)) × Int) → Option (Stp ((List (List Int)) × Int) (Empty)) := fun (v7_4, x33_4) =>
 br (decide (x33_4 < (ln (ele (upd v7_3 x20_3 (List.replicate n_.toNat (0 : Int))) x20_3)))) (
 ck (IX x20_3 (ln v7_4)) <|
 ck (IX x33_4 (ln (ele v7_4 x20_3))) <|
 ck (IR (x33_4 + 1)) <|
 some (.next ((updG v7_4 x20_3 x33_4 (-1099511627776)), (x33_4 + 1)))) (
 some (.brk (v7_4, x33_4)))
noncomputable def bound_rounds_L0 (n_ : Int) : ((List (List Int)) × Int) → Option (Stp ((List (List Int)) × Int) (Empty)) := fun (v7_3, x20_3) =>
 br (decide (x20_3 < (ln (List.replicate n_.toNat ([] : List Int))))) (
 ck (0 ≤ n_) <|
 ck (AL n_.toNat 8) <|
 ck (IX x20_3 (ln v7_3)) <|
 ck (IX x20_3 (ln (upd v7_3 x20_3 (List.replicate n_.toNat (0 : Int))))) <|
 bd (lp (bound_rounds_L2 n_ v7_3 x20_3) ((upd v7_3 x20_3 (List.replicate n_.toNat (0 : Int))), 0)) fun o34 => o34.on (fun (v7_4, x33_4) =>
 ck (IR (x20_3 + 1)) <|
 some (.next (v7_4, (x20_3 + 1)))) (fun r => r.elim)) (
 some (.brk (v7_3, x20_3)))
noncomputable def bound_rounds_L4 (edges : List Edg) (pace : Int) : ((List (List Int)) × Int) → Option (Stp ((List (List Int)) × Int) (Empty)) := fun (v7_4, x46_4) =>
 br (decide (x46_4 < (ln edges))) (
 ck (IX x46_4 (ln edges)) <|
 ck (IX ((ele edges x46_4).fr) (ln v7_4)) <|
 ck (IX ((ele edges x46_4).fr) (ln v7_4)) <|
 ck (IX ((ele edges x46_4).to) (ln (ele v7_4 ((ele edges x46_4).fr)))) <|
 ck (IR (pace * (ele edges x46_4).bk)) <|
 ck (IR ((ele edges x46_4).wt - (pace * (ele edges x46_4).bk))) <|
 ck (IX ((ele edges x46_4).to) (ln (ele v7_4 ((ele edges x46_4).fr)))) <|
 ck (IR (x46_4 + 1)) <|
 some (.next ((updG v7_4 ((ele edges x46_4).fr) ((ele edges x46_4).to) (max (ele (ele v7_4 ((ele edges x46_4).fr)) ((ele edges x46_4).to)) ((ele edges x46_4).wt - (pace * (ele edges x46_4).bk)))), (x46_4 + 1)))) (
 some (.brk (v7_4, x46_4)))
noncomputable def bound_rounds_L10 (n_ x77_13 x81_16 : Int) : ((List (List Int)) × Int) → Option (Stp ((List (List Int)) × Int) (Empty)) := fun (v7_17, x85_17) =>
 br (decide (x85_17 < n_)) (
 ck (IX x81_16 (ln v7_17)) <|
 ck (IX x77_13 (ln (ele v7_17 x81_16))) <|
 ck ((decide ((ele (ele v7_17 x81_16) x77_13) > (-1099511627776))) = true → IX x77_13 (ln v7_17)) <|
 ck ((decide ((ele (ele v7_17 x81_16) x77_13) > (-1099511627776))) = true → IX x85_17 (ln (ele v7_17 x77_13))) <|
 br ((decide ((ele (ele v7_17 x81_16) x77_13) > (-1099511627776))) && (decide ((ele (ele v7_17 x77_13) x85_17) > (-1099511627776)))) (
 ck (IX x81_16 (ln v7_17)) <|
 ck (IX x81_16 (ln v7_17)) <|
 ck (IX x85_17 (ln (ele v7_17 x81_16))) <|
 ck (IX x81_16 (ln v7_17)) <|
 ck (IX x77_13 (ln (ele v7_17 x81_16))) <|
 ck (IX x77_13 (ln v7_17)) <|
 ck (IX x85_17 (ln (ele v7_17 x77_13))) <|
 ck (IR ((ele (ele v7_17 x81_16) x77_13) + (ele (ele v7_17 x77_13) x85_17))) <|
 ck (IX x85_17 (ln (ele v7_17 x81_16))) <|
 ck (IR (x85_17 + 1)) <|
 some (.next ((updG v7_17 x81_16 x85_17 (max (ele (ele v7_17 x81_16) x85_17) (min ((ele (ele v7_17 x81_16) x77_13) + (ele (ele v7_17 x77_13) x85_17)) 1048576))), (x85_17 + 1)))) (
 ck (IR (x85_17 + 1)) <|
 some (.next (v7_17, (x85_17 + 1))))) (
 some (.brk (v7_17, x85_17)))
noncomputable def bound_rounds_L8 (n_ x77_13 : Int) : ((List (List Int)) × Int) → Option (Stp ((List (List Int)) × Int) (Empty)) := fun (v7_16, x81_16) =>
 br (decide (x81_16 < n_)) (
 bd (lp (bound_rounds_L10 n_ x77_13 x81_16) (v7_16, 0)) fun o34 => o34.on (fun (v7_17, x85_17) =>
 ck (IR (x81_16 + 1)) <|
 some (.next (v7_17, (x81_16 + 1)))) (fun r => r.elim)) (
 some (.brk (v7_16, x81_16)))
noncomputable def bound_rounds_L6 (n_ : Int) : ((List (List Int)) × Int) → Option (Stp ((List (List Int)) × Int) (Empty)) := fun (v7_13, x77_13) =>
 br (decide (x77_13 < n_)) (
 bd (lp (bound_rounds_L8 n_ x77_13) (v7_13, 0)) fun o27 => o27.on (fun (v7_16, x81_16) =>
 ck (IR (x77_13 + 1)) <|
 some (.next (v7_16, (x77_13 + 1)))) (fun r => r.elim)) (
 some (.brk (v7_13, x77_13)))
noncomputable def bound_rounds_L12 (n_ : Int) (v7_13 : List (List Int)) : Int → Option (Stp (Int) (Bool)) := fun x140_14 =>
 br (decide (x140_14 < n_)) (
 ck (IX x140_14 (ln v7_13)) <|
 ck (IX x140_14 (ln (ele v7_13 x140_14))) <|
 br (decide ((ele (ele v7_13 x140_14) x140_14) > 0)) (
 some (.ret false)) (
 ck (IR (x140_14 + 1)) <|
 some (.next (x140_14 + 1)))) (
 some (.brk x140_14))
noncomputable def bound_rounds_m (n_ : Int) (edges : List Edg) (pace : Int) : Option (Bool) :=
 ck (0 ≤ n_) <|
 ck (AL n_.toNat 24) <|
 bd (lp (bound_rounds_L0 n_) ((List.replicate n_.toNat ([] : List Int)), 0)) fun o10 => o10.on (fun (v7_3, x20_3) =>
 bd (lp (bound_rounds_L4 edges pace) (v7_3, 0)) fun o15 => o15.on (fun (v7_4, x46_4) =>
 bd (lp (bound_rounds_L6 n_) (v7_4, 0)) fun o20 => o20.on (fun (v7_13, x77_13) =>
 bd (lp (bound_rounds_L12 n_ v7_13) 0) fun o25 => o25.on (fun x140_14 =>
 some true) (fun r => some r)) (fun r => r.elim)) (fun r => r.elim)) (fun r => r.elim)
noncomputable def bound_Bound_L0 (l : Lp) : ((List Int) × Int) → Option (Stp ((List Int) × Int) (Empty)) := fun (b10n_1, x25_1) =>
 br (decide (x25_1 < (ln l.body))) (
 ck (IX x25_1 (ln l.body)) <|
 bd (num_Class_m ((ele l.body x25_1).op)) fun x23 =>
 ck (IX x23 3) <|
 ck (IX x23 (ln b10n_1)) <|
 ck (IR ((ele b10n_1 x23) + 1)) <|
 ck (IX x23 3) <|
 ck (IX x23 (ln b10n_1)) <|
 ck (IR (x25_1 + 1)) <|
 some (.next ((upd b10n_1 x23 ((ele b10n_1 x23) + 1)), (x25_1 + 1)))) (
 some (.brk (b10n_1, x25_1)))
noncomputable def bound_Bound_L2 (t : Tgt) (b10n_1 : List Int) : (Int × Int) → Option (Stp (Int × Int) (Empty)) := fun (units4_2, x38_2) =>
 br (decide (x38_2 < 3)) (
 ck (IX x38_2 3) <|
 ck (IX x38_2 3) <|
 ck (IR ((ele b10n_1 x38_2) + (sel3 t.u0 t.u1 t.u2 x38_2))) <|
 ck (IR (((ele b10n_1 x38_2) + (sel3 t.u0 t.u1 t.u2 x38_2)) - 1)) <|
 ck (IX x38_2 3) <|
 ck ((sel3 t.u0 t.u1 t.u2 x38_2) ≠ 0) <|
 ck (IR (Int.tdiv (((ele b10n_1 x38_2) + (sel3 t.u0 t.u1 t.u2 x38_2)) - 1) (sel3 t.u0 t.u1 t.u2 x38_2))) <|
 ck (IR (x38_2 + 1)) <|
 some (.next ((max units4_2 (Int.tdiv (((ele b10n_1 x38_2) + (sel3 t.u0 t.u1 t.u2 x38_2)) - 1) (sel3 t.u0 t.u1 t.u2 x38_2))), (x38_2 + 1)))) (
 some (.brk (units4_2, x38_2)))
noncomputable def bound_Bound_L4 (l : Lp) (x3 : List Edg × Int) : Int → Option (Stp (Int) (Empty)) := fun least5_3 =>
 bd (bound_rounds_m (ln l.body) x3.1 least5_3) fun x28 =>
 br (!x28) (
 ck (IR (least5_3 + 1)) <|
 some (.next (least5_3 + 1))) (
 some (.brk least5_3))
noncomputable def bound_Bound_m (l : Lp) (t : Tgt) : Option (Int × Int × Int) :=
 bd (dep_Edges_m l t) fun x3 =>
 br (x3.2 != 0) (
 some (0, 0, x3.2)) (
 bd (lp (bound_Bound_L0 l) (([0, 0, 0] : List Int), 0)) fun o11 => o11.on (fun (b10n_1, x25_1) =>
 ck (b10n_1.length = 3) <|
 bd (lp (bound_Bound_L2 t b10n_1) (1, 0)) fun o18 => o18.on (fun (units4_2, x38_2) =>
 bd (lp (bound_Bound_L4 l x3) 1) fun o23 => o23.on (fun least5_3 =>
 some (units4_2, least5_3, 0)) (fun r => r.elim)) (fun r => r.elim)) (fun r => r.elim))
def gridF (n : Nat) (f : Nat → Nat → Int) : List (List Int) := (List.range n).map fun i => (List.range n).map (f i)
def setF (f : Nat → Nat → Int) (i j : Nat) (z : Int) : Nat → Nat → Int := fun a b => if a = i ∧ b = j then z else f a b
def nev : Int := -1099511627776
theorem gridF_row {n : Nat} {f : Nat → Nat → Int} {i : Nat} (hi : i < n) : ele (gridF n f) (i : Int) = (List.range n).map (f i) := ele_rm hi
theorem gridF_at {n : Nat} {f : Nat → Nat → Int} {i j : Nat} (hi : i < n) (hj : j < n) : ele (ele (gridF n f) (i : Int)) (j : Int) = f i j := by rw [gridF_row hi, ele_rm hj]
theorem gridF_ln {n : Nat} {f : Nat → Nat → Int} : ln (gridF n f) = n := ln_rm
theorem gridF_rln {n : Nat} {f : Nat → Nat → Int} {i : Nat} (hi : i < n) : ln (ele (gridF n f) (i : Int)) = n := by rw [gridF_row hi, ln_rm]
theorem gridF_set {n : Nat} {f : Nat → Nat → Int} {i j : Nat} {z : Int} (hi : i < n) (hj : j < n) : updG (gridF n f) (i : Int) (j : Int) z = gridF n (setF f i j z) := by
 unfold updG
 rw [gridF_row hi, upd_rm hj]
 unfold gridF
 rw [upd_rm hi]
 refine rm_congr fun a ha => ?_
 by_cases e : a = i
 ·subst e
  rw [if_pos rfl]
  refine rm_congr fun b hb => ?_
  unfold setF
  by_cases e2 : b = j
  ·subst e2; rw [if_pos rfl, if_pos ⟨rfl, rfl⟩]
  ·rw [if_neg e2, if_neg fun h => e2 h.2]
 ·rw [if_neg e]
  refine rm_congr fun b hb => ?_
  unfold setF
  rw [if_neg fun h => e h.1]
theorem init_row {n : Nat} (hn : n ≤ 16) {i : Nat} (hi : i < n) : lp (bound_rounds_L2 (n : Int) ((List.range n).map fun a => if a < i then (List.range n).map (fun _ => nev) else []) (i : Int)) ((upd ((List.range n).map fun a => if a < i then (List.range n).map (fun _ => nev) else []) (i : Int) (List.replicate n (0 : Int))), 0) =
  some (.go ((List.range n).map fun a => if a < i + 1 then (List.range n).map (fun _ => nev) else [], (n : Int))) := by
 have e0 : (upd ((List.range n).map fun a => if a < i then (List.range n).map (fun _ => nev) else []) (i : Int) (List.replicate n (0 : Int))) = (List.range n).map fun a => if a = i then (List.range n).map (fun b => if b < 0 then nev else 0) else if a < i then (List.range n).map (fun _ => nev) else [] := by
  rw [upd_rm hi]
  refine rm_congr fun a ha => ?_
  by_cases e : a = i
  ·rw [if_pos e, if_pos e]
   apply List.ext_getElem?
   intro k
   by_cases hk : k < n
   ·simp [List.getElem?_replicate, hk]
   ·simp [List.getElem?_replicate, hk]
  ·rw [if_neg e, if_neg e]
 have e1 : ((List.range n).map fun a => if a < i + 1 then (List.range n).map (fun _ => nev) else []) = (List.range n).map fun a => if a = i then (List.range n).map (fun b => if b < n then nev else 0) else if a < i then (List.range n).map (fun _ => nev) else [] := by
  refine rm_congr fun a ha => ?_
  by_cases e : a = i
  ·rw [if_pos (by omega), if_pos e]
   exact rm_congr fun b hb => by rw [if_pos hb]
  ·rw [if_neg e]
   by_cases e2 : a < i
   ·rw [if_pos (by omega), if_pos e2]
   ·rw [if_neg (by omega), if_neg e2]
 have hlen : ln (ele (upd ((List.range n).map fun a => if a < i then (List.range n).map (fun _ => nev) else []) (i : Int) (List.replicate n (0 : Int))) (i : Int)) = n := by
  rw [ele_upd ⟨by omega, by rw [ln_rm]; omega⟩]; unfold ln; simp
 rw [e1]
 have key := lp_det (f := bound_rounds_L2 (n : Int) ((List.range n).map fun a => if a < i then (List.range n).map (fun _ => nev) else []) (i : Int)) (fun j => ((List.range n).map fun a => if a = i then (List.range n).map (fun b => if b < j then nev else 0) else if a < i then (List.range n).map (fun _ => nev) else [], (j : Int))) n (fun j hj => by
   unfold bound_rounds_L2
   simp only [Int.toNat_natCast]
   rw [br_T (by rw [hlen]; omega), ck_IX (by omega) (by rw [ln_rm]; omega), ele_rm hi, if_pos rfl, ck_IX (by omega) (by rw [ln_rm]; omega), ck_IR (by omega) (by omega)]
   refine congrArg some (congrArg Stp.next (Prod.ext ?_ rfl))
   show updG _ _ _ _ = _
   unfold updG
   rw [ele_rm hi, if_pos rfl, upd_rm hj, upd_rm hi]
   refine rm_congr fun a ha => ?_
   by_cases e : a = i
   ·rw [if_pos e, if_pos e]
    refine rm_congr fun b hb => ?_
    by_cases e2 : b = j
    ·rw [if_pos e2, if_pos (by omega)]; rfl
    ·rw [if_neg e2]
     by_cases e3 : b < j
     ·rw [if_pos e3, if_pos (by omega)]
     ·rw [if_neg e3, if_neg (by omega)]
   ·rw [if_neg e, if_neg e, if_neg e]) (by
   unfold bound_rounds_L2
   simp only [Int.toNat_natCast]
   exact br_F (by rw [hlen]; omega))
 rw [e0]
 exact key
theorem init_grid {n : Nat} (hn : n ≤ 16) : lp (bound_rounds_L0 (n : Int)) (List.replicate n ([] : List Int), 0) = some (.go (gridF n (fun _ _ => nev), (n : Int))) := by
 have e0 : List.replicate n ([] : List Int) = (List.range n).map fun a => if a < 0 then (List.range n).map (fun _ => nev) else [] := by
  apply List.ext_getElem?
  intro k
  by_cases hk : k < n
  ·simp [List.getElem?_replicate, hk]
  ·simp [List.getElem?_replicate, hk]
 have e1 : gridF n (fun _ _ => nev) = (List.range n).map fun a => if a < n then (List.range n).map (fun _ => nev) else [] := rm_congr fun a ha => by rw [if_pos ha]
 rw [e0, e1]
 refine lp_det (f := bound_rounds_L0 (n : Int)) (fun i => ((List.range n).map fun a => if a < i then (List.range n).map (fun _ => nev) else [], (i : Int))) n (fun i hi => ?_) (by
  unfold bound_rounds_L0
  simp only [Int.toNat_natCast]
  exact br_F (by unfold ln; simp))
 unfold bound_rounds_L0
 simp only [Int.toNat_natCast]
 rw [br_T (by unfold ln; simp; omega), ck_yes (by omega), ck_yes (AL8 (by omega)), ck_IX (by omega) (by rw [ln_rm]; omega), ck_IX (by omega) (by rw [upd_rm hi, ln_rm]; omega), init_row hn hi, bd_ret, Out.on_go, ck_IR (by omega) (by omega)]
 rfl
structure InitI (E : List Edg) (pace : Int) (k : Nat) (f : Nat → Nat → Int) : Prop where
 src : ∀ a b : Nat, f a b = nev ∨ ∃ e ∈ E, e.fr = a ∧ e.to = b ∧ f a b = e.wt - pace * e.bk
 has : ∀ i : Nat, i < k → (ele E (i : Int)).wt - pace * (ele E (i : Int)).bk ≤ f (ele E (i : Int)).fr.toNat (ele E (i : Int)).to.toNat
theorem wt_bd {n : Nat} {e : Edg} (h : EdgeIn n e) {pace : Int} (hp : 1 ≤ pace ∧ pace ≤ 200) : -6400 ≤ e.wt - pace * e.bk ∧ e.wt - pace * e.bk ≤ 6 ∧ 0 ≤ pace * e.bk ∧ pace * e.bk ≤ 6400 := by
 have h1 := h.bk; have h2 := h.wt
 have m1 := mul_le (a := pace) (A := 200) (b := e.bk) (B := 32) (by omega) (by omega) (by omega) (by omega)
 have m2 := Int.mul_nonneg (show 0 ≤ pace by omega) h1.1
 omega
theorem init_edges {n : Nat} {E : List Edg} (hE : ∀ e ∈ E, EdgeIn n e) (hl : E.length ≤ 60000) {pace : Int} (hp : 1 ≤ pace ∧ pace ≤ 200) : ∃ g, lp (bound_rounds_L4 E pace) (gridF n (fun _ _ => nev), 0) = some (.go (g, (E.length : Int))) ∧ ∃ f, g = gridF n f ∧ InitI E pace E.length f := by
 refine lp_inv (f := bound_rounds_L4 E pace) (fun k g => ∃ f, g = gridF n f ∧ InitI E pace k f) (fun k g hk hg => ?_) (fun g => by unfold bound_rounds_L4; exact br_F (by unfold ln; omega)) _ ⟨_, rfl, fun _ _ => .inl rfl, fun i hi => absurd hi (Nat.not_lt_zero _)⟩
 obtain ⟨f, rfl, hf⟩ := hg
 have hin := hE _ (ele_mem' hk)
 have hw := wt_bd hin hp
 obtain ⟨a, ha⟩ := Int.eq_ofNat_of_zero_le hin.fr.1
 obtain ⟨b, hb⟩ := Int.eq_ofNat_of_zero_le hin.to.1
 have ha' : a < n := by have := hin.fr.2; omega
 have hb' : b < n := by have := hin.to.2; omega
 unfold bound_rounds_L4
 simp only
 rw [ha, hb, br_T (by unfold ln; omega), ck_IX (by omega) (by unfold ln; omega), ck_IX (by omega) (by rw [gridF_ln]; omega), ck_IX (by omega) (by rw [gridF_ln]; omega), ck_IX (by omega) (by rw [gridF_rln ha']; omega), ck_IR (by omega) (by omega), ck_IR (by omega) (by omega), ck_IX (by omega) (by rw [gridF_rln ha']; omega), ck_IR (by omega) (by omega), gridF_at ha' hb', gridF_set ha' hb']
 refine ⟨_, rfl, _, rfl, fun x y => ?_, fun i hi => ?_⟩
 ·unfold setF
  by_cases e : x = a ∧ y = b
  ·rw [if_pos e]
   obtain ⟨rfl, rfl⟩ := e
   by_cases hc : f x y ≤ (ele E (k : Int)).wt - pace * (ele E (k : Int)).bk
   ·exact .inr ⟨_, ele_mem' hk, ha, hb, by omega⟩
   ·rw [show max (f x y) ((ele E (k : Int)).wt - pace * (ele E (k : Int)).bk) = f x y from by omega]
    exact hf.src x y
  ·rw [if_neg e]; exact hf.src x y
 ·unfold setF
  by_cases e : (ele E (i : Int)).fr.toNat = a ∧ (ele E (i : Int)).to.toNat = b
  ·rw [if_pos e]
   by_cases e2 : i = k
   ·subst e2; omega
   ·have := hf.has i (by omega)
    rw [e.1, e.2] at this
    omega
  ·rw [if_neg e]
   by_cases e2 : i = k
   ·subst e2; exact absurd ⟨by omega, by omega⟩ e
   ·exact hf.has i (by omega)
def fwS (k i j : Nat) (f : Nat → Nat → Int) : Nat → Nat → Int := if f i k > nev ∧ f k j > nev then setF f i j (max (f i j) (min (f i k + f k j) 1048576)) else f
theorem fw_run {n : Nat} (hn : n ≤ 16) (Q : Nat → Nat → Nat → (Nat → Nat → Int) → Prop) (bd : ∀ k i j f, Q k i j f → ∀ a b, nev ≤ f a b ∧ f a b ≤ 1048576) (step : ∀ k i j f, k < n → i < n → j < n → Q k i j f → Q k i (j + 1) (fwS k i j f))
  (ej : ∀ k i f, k < n → i < n → Q k i n f → Q k (i + 1) 0 f) (ei : ∀ k f, k < n → Q k n 0 f → Q (k + 1) 0 0 f) (f0 : Nat → Nat → Int) (h0 : Q 0 0 0 f0) : ∃ f, lp (bound_rounds_L6 (n : Int)) (gridF n f0, 0) = some (.go (gridF n f, (n : Int))) ∧ Q n 0 0 f := by
 have hj : ∀ k i f, k < n → i < n → Q k i 0 f → ∃ f', lp (bound_rounds_L10 (n : Int) (k : Int) (i : Int)) (gridF n f, 0) = some (.go (gridF n f', (n : Int))) ∧ Q k i n f' := by
  intro k i f hk hi hq
  have X := lp_inv (f := bound_rounds_L10 (n : Int) (k : Int) (i : Int)) (n := n) (fun j g => ∃ f, g = gridF n f ∧ Q k i j f) (fun j g hj hg => by
   obtain ⟨f, rfl, hf⟩ := hg
   have b1 := bd _ _ _ _ hf i k
   have b2 := bd _ _ _ _ hf k j
   unfold nev at b1 b2
   unfold bound_rounds_L10
   simp only
   rw [br_T (by omega), ck_IX (by omega) (by rw [gridF_ln]; omega), ck_IX (by omega) (by rw [gridF_rln hi]; omega), ck_imp (fun _ => ⟨by omega, by rw [gridF_ln]; omega⟩), ck_imp (fun _ => ⟨by omega, by rw [gridF_rln hk]; omega⟩), gridF_at hi hk, gridF_at hk hj, gridF_at hi hj]
   by_cases hc : f i k > nev ∧ f k j > nev
   ·have hc' : (decide (f i k > -1099511627776) && decide (f k j > -1099511627776)) = true := by
     unfold nev at hc
     simp only [Bool.and_eq_true, decide_eq_true_eq]; exact hc
    rw [hc', br_true, ck_IX (by omega) (by rw [gridF_ln]; omega), ck_IX (by omega) (by rw [gridF_ln]; omega), ck_IX (by omega) (by rw [gridF_rln hi]; omega), ck_IX (by omega) (by rw [gridF_ln]; omega), ck_IX (by omega) (by rw [gridF_rln hi]; omega), ck_IX (by omega) (by rw [gridF_ln]; omega), ck_IX (by omega) (by rw [gridF_rln hk]; omega), ck_IR (by omega) (by omega), ck_IX (by omega) (by rw [gridF_rln hi]; omega), ck_IR (by omega) (by omega), gridF_set hi hj]
    exact ⟨_, rfl, _, rfl, by have := step k i j f hk hi hj hf; unfold fwS at this; rw [if_pos hc] at this; exact this⟩
   ·have hc' : (decide (f i k > -1099511627776) && decide (f k j > -1099511627776)) = false := by
     unfold nev at hc
     rw [Bool.and_eq_false_iff, decide_eq_false_iff_not, decide_eq_false_iff_not]; omega
    rw [hc', br_false, ck_IR (by omega) (by omega)]
    exact ⟨_, rfl, _, rfl, by have := step k i j f hk hi hj hf; unfold fwS at this; rw [if_neg hc] at this; exact this⟩) (fun g => by unfold bound_rounds_L10; exact br_F (by omega)) _ ⟨f, rfl, hq⟩
  obtain ⟨g, e1, f', rfl, e2⟩ := X
  exact ⟨f', e1, e2⟩
 have hi : ∀ k f, k < n → Q k 0 0 f → ∃ f', lp (bound_rounds_L8 (n : Int) (k : Int)) (gridF n f, 0) = some (.go (gridF n f', (n : Int))) ∧ Q k n 0 f' := by
  intro k f hk hq
  have X := lp_inv (f := bound_rounds_L8 (n : Int) (k : Int)) (n := n) (fun i g => ∃ f, g = gridF n f ∧ Q k i 0 f) (fun i g hi hg => by
   obtain ⟨f, rfl, hf⟩ := hg
   obtain ⟨f', e1, e2⟩ := hj k i f hk hi hf
   unfold bound_rounds_L8
   simp only
   rw [br_T (by omega), e1, bd_ret, Out.on_go, ck_IR (by omega) (by omega)]
   exact ⟨_, rfl, _, rfl, ej k i f' hk hi e2⟩) (fun g => by unfold bound_rounds_L8; exact br_F (by omega)) _ ⟨f, rfl, hq⟩
  obtain ⟨g, e1, f', rfl, e2⟩ := X
  exact ⟨f', e1, e2⟩
 have X := lp_inv (f := bound_rounds_L6 (n : Int)) (n := n) (fun k g => ∃ f, g = gridF n f ∧ Q k 0 0 f) (fun k g hk hg => by
  obtain ⟨f, rfl, hf⟩ := hg
  obtain ⟨f', e1, e2⟩ := hi k f hk hf
  unfold bound_rounds_L6
  simp only
  rw [br_T (by omega), e1, bd_ret, Out.on_go, ck_IR (by omega) (by omega)]
  exact ⟨_, rfl, _, rfl, ei k f' hk e2⟩) (fun g => by unfold bound_rounds_L6; exact br_F (by omega)) _ ⟨f0, rfl, h0⟩
 obtain ⟨g, e1, f', rfl, e2⟩ := X
 exact ⟨f', e1, e2⟩
def PotE (E : List Edg) (pace : Int) (τ : Nat → Int) : Prop := ∀ e ∈ E, τ e.fr.toNat + (e.wt - pace * e.bk) ≤ τ e.to.toNat
def nwF (k : Nat) (f : Nat → Nat → Int) (a b : Nat) : Int := if f a k > nev ∧ f k b > nev then max (f a b) (f a k + f k b) else f a b
structure Cl (n : Nat) (k : Nat) (f : Nat → Nat → Int) : Prop where
 dg : ∀ a, a < n → f a a ≤ 0
 up : ∀ a b, a < n → b < n → f a b ≤ 6 * 2 ^ k
 lo : ∀ a b, a < n → b < n → f a b > nev → -(6400 * 2 ^ k) ≤ f a b
 tri : ∀ m, m < k → ∀ a b, a < n → b < n → f a m > nev → f m b > nev → f a m + f m b ≤ f a b
def StF (n k i j : Nat) (f : Nat → Nat → Int) : Prop := ∃ f0, Cl n k f0 ∧ ∀ a b, a < n → b < n → f a b = if a < i ∨ (a = i ∧ b < j) then nwF k f0 a b else f0 a b
structure FwQ (n : Nat) (E : List Edg) (pace : Int) (k i j : Nat) (f : Nat → Nat → Int) : Prop where
 bd : ∀ a b, nev ≤ f a b ∧ f a b ≤ 1048576
 pot : ∀ τ, PotE E pace τ → ∀ a b, f a b > nev → f a b ≤ τ b - τ a
 has : ∀ e ∈ E, e.wt - pace * e.bk ≤ f e.fr.toNat e.to.toNat
 cl : (∃ a, a < n ∧ f a a > 0) ∨ StF n k i j f
theorem pow16 {k : Nat} (h : k ≤ 15) : (1 : Int) ≤ 2 ^ k ∧ (2 : Int) ^ k ≤ 32768 ∧ (2 : Int) ^ (k + 1) = 2 * 2 ^ k := by
 have key : ∀ k : Fin 16, (1 : Int) ≤ 2 ^ (k : Nat) ∧ (2 : Int) ^ (k : Nat) ≤ 32768 := by decide
 have := key ⟨k, by omega⟩
 exact ⟨this.1, this.2, by rw [Int.pow_succ]; omega⟩
theorem nw_ge {k : Nat} {f : Nat → Nat → Int} (a b : Nat) : f a b ≤ nwF k f a b := by unfold nwF; split <;> omega
theorem nw_col {n k : Nat} {f : Nat → Nat → Int} (h : Cl n k f) (hk : k < n) (a : Nat) : nwF k f a k = f a k := by
 unfold nwF; have := h.dg k hk; split <;> omega
theorem nw_row {n k : Nat} {f : Nat → Nat → Int} (h : Cl n k f) (hk : k < n) (b : Nat) : nwF k f k b = f k b := by
 unfold nwF; have := h.dg k hk; split <;> omega
theorem nw_or {k : Nat} {f : Nat → Nat → Int} (a b : Nat) : nwF k f a b = f a b ∨ (nwF k f a b = f a k + f k b ∧ f a k > nev ∧ f k b > nev) := by
 unfold nwF
 split
 ·rename_i h
  by_cases e : f a k + f k b ≤ f a b
  ·left; omega
  ·right; exact ⟨by omega, h⟩
 ·exact .inl rfl
theorem nw_via {k : Nat} {f : Nat → Nat → Int} {a b : Nat} (h1 : f a k > nev) (h2 : f k b > nev) : f a k + f k b ≤ nwF k f a b := by
 unfold nwF; rw [if_pos ⟨h1, h2⟩]; omega
theorem Cl.next {n k : Nat} {f : Nat → Nat → Int} (h : Cl n k f) (hk : k < n) (hn : n ≤ 16) (hd : ∀ a, a < n → nwF k f a a ≤ 0) : Cl n (k + 1) (nwF k f) := by
 have hp := pow16 (show k ≤ 15 by omega)
 have hfin : ∀ a b c, a < n → b < n → c < n → f a b > nev → f b c > nev → f a b + f b c > nev ∧ -(6400 * 2 ^ (k + 1)) ≤ f a b + f b c := fun a b c ha hb hc h1 h2 => by
  have l1 := h.lo a b ha hb h1; have l2 := h.lo b c hb hc h2
  unfold nev
  omega
 refine ⟨hd, fun a b ha hb => ?_, fun a b ha hb h1 => ?_, fun m hm a b ha hb h1 h2 => ?_⟩
 ·have u1 := h.up a b ha hb; have u2 := h.up a k ha hk; have u3 := h.up k b hk hb
  unfold nwF
  split <;> omega
 ·rcases nw_or (k := k) (f := f) a b with e | ⟨e, p1, p2⟩
  ·rw [e] at h1 ⊢
   have := h.lo a b ha hb h1
   omega
  ·rw [e]; exact (hfin a k b ha hk hb p1 p2).2
 ·by_cases e : m = k
  ·subst e
   rw [nw_col h hk] at h1 ⊢
   rw [nw_row h hk] at h2 ⊢
   exact nw_via h1 h2
  ·have hmk : m < k := by omega
   have hmn : m < n := by omega
   rcases nw_or (k := k) (f := f) a m with e1 | ⟨e1, p1, p2⟩ <;> rcases nw_or (k := k) (f := f) m b with e2 | ⟨e2, q1, q2⟩
   ·rw [e1] at h1 ⊢; rw [e2] at h2 ⊢
    exact Int.le_trans (h.tri m hmk a b ha hb h1 h2) (nw_ge a b)
   ·rw [e1] at h1 ⊢; rw [e2]
    have t1 := h.tri m hmk a k ha hk h1 q1
    have hf := (hfin a m k ha hmn hk h1 q1).1
    have := nw_via (a := a) (b := b) (show f a k > nev by omega) q2
    omega
   ·rw [e1]; rw [e2] at h2 ⊢
    have t1 := h.tri m hmk k b hk hb p2 h2
    have hf := (hfin k m b hk hmn hb p2 h2).1
    have := nw_via (a := a) (b := b) p1 (show f k b > nev by omega)
    omega
   ·rw [e1, e2]
    have t1 := h.tri m hmk k k hk hk p2 q1
    have := nw_via (a := a) (b := b) p1 q2
    have := h.dg k hk
    omega
theorem StF.step {n k i j : Nat} {f : Nat → Nat → Int} (hn : n ≤ 16) (hk : k < n) (hi : i < n) (hj : j < n) (h : StF n k i j f) : StF n k i (j + 1) (fwS k i j f) := by
 obtain ⟨f0, hc, hf⟩ := h
 have hp := pow16 (show k ≤ 15 by omega)
 have e1 : f i k = f0 i k := by rw [hf i k hi hk]; split; exact nw_col hc hk i; rfl
 have e2 : f k j = f0 k j := by rw [hf k j hk hj]; split; exact nw_row hc hk j; rfl
 have e3 : f i j = f0 i j := by rw [hf i j hi hj, if_neg (by omega)]
 have u2 := hc.up i k hi hk; have u3 := hc.up k j hk hj
 refine ⟨f0, hc, fun a b ha hb => ?_⟩
 have hv : fwS k i j f i j = nwF k f0 i j := by
  unfold fwS nwF
  rw [e1, e2, e3]
  by_cases c : f0 i k > nev ∧ f0 k j > nev
  ·rw [if_pos c, if_pos c]
   unfold setF
   rw [if_pos ⟨rfl, rfl⟩]
   omega
  ·rw [if_neg c, if_neg c, e3]
 by_cases e : a = i ∧ b = j
 ·obtain ⟨rfl, rfl⟩ := e
  rw [hv, if_pos (by omega)]
 ·have : fwS k i j f a b = f a b := by
   unfold fwS
   split
   ·unfold setF; rw [if_neg e]
   ·rfl
  rw [this, hf a b ha hb]
  by_cases c : a < i ∨ (a = i ∧ b < j)
  ·rw [if_pos c, if_pos (by omega)]
  ·rw [if_neg c, if_neg (by omega)]
theorem fwS_ge {k i j : Nat} {f : Nat → Nat → Int} (a b : Nat) : f a b ≤ fwS k i j f a b := by
 unfold fwS
 split
 ·unfold setF
  split
  ·rename_i h; obtain ⟨rfl, rfl⟩ := h; omega
  ·exact Int.le_refl _
 ·exact Int.le_refl _
theorem FwQ.step {n : Nat} {E : List Edg} {pace : Int} (hn : n ≤ 16) {k i j : Nat} {f : Nat → Nat → Int} (hk : k < n) (hi : i < n) (hj : j < n) (h : FwQ n E pace k i j f) : FwQ n E pace k i (j + 1) (fwS k i j f) := by
 refine ⟨fun a b => ?_, fun τ hτ a b => ?_, fun e he => Int.le_trans (h.has e he) (fwS_ge _ _), ?_⟩
 ·have b1 := h.bd a b; have b2 := h.bd i j
  unfold fwS
  split
  ·unfold setF
   split
   ·unfold nev at *; omega
   ·exact b1
  ·exact b1
 ·have p1 := h.pot τ hτ a b
  unfold fwS
  split
  ·rename_i hc
   have q1 := h.pot τ hτ i k hc.1; have q2 := h.pot τ hτ k j hc.2
   unfold setF
   split
   ·rename_i e
    obtain ⟨rfl, rfl⟩ := e
    intro hh
    by_cases g : f a b > nev
    ·have := p1 g; omega
    ·have := h.bd a b
     omega
   ·exact p1
  ·exact p1
 ·rcases h.cl with ⟨a, ha, h1⟩ | h1
  ·exact .inl ⟨a, ha, Int.lt_of_lt_of_le h1 (fwS_ge a a)⟩
  ·exact .inr (h1.step hn hk hi hj)
theorem FwQ.ej {n : Nat} {E : List Edg} {pace : Int} {k i : Nat} {f : Nat → Nat → Int} (h : FwQ n E pace k i n f) : FwQ n E pace k (i + 1) 0 f :=
 { h with cl := h.cl.imp id fun ⟨f0, hc, hf⟩ => ⟨f0, hc, fun a b ha hb => by
   rw [hf a b ha hb]
   by_cases c : a < i ∨ (a = i ∧ b < n)
   ·rw [if_pos c, if_pos (by omega)]
   ·rw [if_neg c, if_neg (by omega)]⟩ }
theorem FwQ.ei {n : Nat} {E : List Edg} {pace : Int} (hn : n ≤ 16) {k : Nat} {f : Nat → Nat → Int} (hk : k < n) (h : FwQ n E pace k n 0 f) : FwQ n E pace (k + 1) 0 0 f := by
 refine { h with cl := ?_ }
 rcases h.cl with h1 | ⟨f0, hc, hf⟩
 ·exact .inl h1
 ·by_cases hd : ∃ a, a < n ∧ f a a > 0
  ·exact .inl hd
  ·have he : ∀ a b, a < n → b < n → f a b = nwF k f0 a b := fun a b ha hb => by rw [hf a b ha hb, if_pos (.inl ha)]
   exact .inr ⟨nwF k f0, hc.next hk hn fun a ha => by rw [← he a a ha ha]; exact Int.not_lt.1 fun h => hd ⟨a, ha, h⟩, fun a b ha hb => by rw [he a b ha hb, if_neg (by omega)]⟩
def mxN (g : Nat → Int) : Nat → Int
 | 0 => 0
 | n + 1 => max (mxN g n) (g n)
theorem mxN_ge (g : Nat → Int) : ∀ n a, a < n → g a ≤ mxN g n
 | n + 1, a, h => by
  show g a ≤ max (mxN g n) (g n)
  by_cases e : a = n
  ·subst e; omega
  ·have := mxN_ge g n a (by omega); omega
theorem mxN_nn (g : Nat → Int) : ∀ n, 0 ≤ mxN g n
 | 0 => Int.le_refl _
 | n + 1 => by have := mxN_nn g n; show 0 ≤ max (mxN g n) (g n); omega
theorem mxN_or (g : Nat → Int) : ∀ n, mxN g n = 0 ∨ ∃ a, a < n ∧ mxN g n = g a ∧ 0 < g a
 | 0 => .inl rfl
 | n + 1 => by
  show max (mxN g n) (g n) = 0 ∨ ∃ a, a < n + 1 ∧ max (mxN g n) (g n) = g a ∧ 0 < g a
  have h0 := mxN_nn g n
  by_cases e : g n ≤ mxN g n
  ·rw [show max (mxN g n) (g n) = mxN g n from by omega]
   rcases mxN_or g n with h | ⟨a, ha, h⟩
   ·exact .inl h
   ·exact .inr ⟨a, by omega, h⟩
  ·exact .inr ⟨n, by omega, by omega, by omega⟩
def HasPot (E : List Edg) (pace : Int) : Prop := ∃ τ, PotE E pace τ
theorem fw_pot {n : Nat} {E : List Edg} {pace : Int} (hE : ∀ e ∈ E, EdgeIn n e) (hp : 1 ≤ pace ∧ pace ≤ 200) {f : Nat → Nat → Int} (h : FwQ n E pace n 0 0 f) (hd : ∀ a, a < n → f a a ≤ 0) : PotE E pace fun b => mxN (fun a => f a b) n := by
 intro e he
 have hin := hE e he
 have hw := wt_bd hin hp
 have h1 := h.has e he
 have hf : e.fr.toNat < n := by have := hin.fr; omega
 have ht : e.to.toNat < n := by have := hin.to; omega
 generalize e.fr.toNat = a at *
 generalize e.to.toNat = b at *
 rcases h.cl with ⟨x, hx, h2⟩ | ⟨f0, hc, hf0⟩
 ·have := hd x hx; omega
 ·have ef : ∀ x y, x < n → y < n → f x y = f0 x y := fun x y hx hy => by rw [hf0 x y hx hy, if_neg (by omega)]
  show mxN (fun x => f x a) n + (e.wt - pace * e.bk) ≤ mxN (fun x => f x b) n
  have g1 := mxN_ge (fun x => f x b) n
  rcases mxN_or (fun x => f x a) n with h2 | ⟨x, hx, h2, h3⟩
  ·have := g1 a hf
   omega
  ·have := g1 x hx
   have t := hc.tri a hf x b hx ht (by rw [← ef x a hx hf]; unfold nev; omega) (by rw [← ef a b hf ht]; unfold nev; omega)
   rw [← ef x a hx hf, ← ef a b hf ht, ← ef x b hx ht] at t
   omega
theorem pot_diag {n : Nat} {E : List Edg} {pace : Int} {f : Nat → Nat → Int} (h : FwQ n E pace n 0 0 f) (hp : HasPot E pace) (a : Nat) : f a a ≤ 0 := by
 obtain ⟨τ, hτ⟩ := hp
 by_cases c : f a a > nev
 ·have := h.pot τ hτ a a c; omega
 ·unfold nev at c; omega
theorem rounds_s {n : Nat} (hn : n ≤ 16) {E : List Edg} (hE : ∀ e ∈ E, EdgeIn n e) (hl : E.length ≤ 60000) {pace : Int} (hp : 1 ≤ pace ∧ pace ≤ 200) : bound_rounds_m (n : Int) E pace = some (tb (HasPot E pace)) := by
 obtain ⟨g, e1, f0, rfl, e2⟩ := init_edges hE hl hp
 have hq : FwQ n E pace 0 0 0 f0 := by
  refine ⟨fun a b => ?_, fun τ hτ a b hc => ?_, fun e he => ?_, ?_⟩
  ·rcases e2.src a b with h | ⟨e, he, _, _, h⟩
   ·rw [h]; unfold nev; omega
   ·have := wt_bd (hE e he) hp; rw [h]; unfold nev; omega
  ·rcases e2.src a b with h | ⟨e, he, h3, h4, h⟩
   ·omega
   ·have := hτ e he
    rw [h3, h4] at this
    simp only [Int.toNat_natCast] at this
    omega
  ·obtain ⟨i, hi, rfl⟩ := mem_ele he
   exact e2.has i hi
  ·by_cases hd : ∃ a, a < n ∧ f0 a a > 0
   ·exact .inl hd
   ·refine .inr ⟨f0, ⟨fun a ha => Int.not_lt.1 fun h => hd ⟨a, ha, h⟩, fun a b ha hb => ?_, fun a b ha hb hc => ?_, fun m hm => absurd hm (Nat.not_lt_zero _)⟩, fun a b ha hb => by rw [if_neg (by omega)]⟩
    ·rcases e2.src a b with h | ⟨e, he, _, _, h⟩
     ·rw [h]; unfold nev; simp
     ·have := wt_bd (hE e he) hp; rw [h]; simp; omega
    ·rcases e2.src a b with h | ⟨e, he, _, _, h⟩
     ·omega
     ·have := wt_bd (hE e he) hp; rw [h]; simp; omega
 obtain ⟨f, e3, e4⟩ := fw_run hn (FwQ n E pace) (fun k i j f h => h.bd) (fun k i j f hk hi hj h => h.step hn hk hi hj) (fun k i f _ _ h => h.ej) (fun k f hk h => h.ei hn hk) f0 hq
 unfold bound_rounds_m
 simp only [Int.toNat_natCast]
 rw [ck_yes (by omega), ck_yes (AL24 (by omega)), init_grid hn, bd_ret, Out.on_go]
 simp only
 rw [e1, bd_ret, Out.on_go]
 simp only
 rw [e3, bd_ret, Out.on_go]
 simp only
 have bd := e4.bd
 rcases lp_all (f := bound_rounds_L12 (n : Int) (gridF n f)) (n := n) (p := fun i => f i i ≤ 0) (fun i hi _ => by
   unfold bound_rounds_L12
   rw [br_T (by omega), ck_IX (by omega) (by rw [gridF_ln]; omega), ck_IX (by omega) (by rw [gridF_rln hi]; omega), gridF_at hi hi]
   exact ⟨fun h => by rw [br_F (by omega), ck_IR (by omega) (by omega)], fun h => by rw [br_T (by omega)]⟩) (by unfold bound_rounds_L12; exact br_F (by omega)) with ⟨h1, e5⟩ | ⟨h1, e5⟩
 ·rw [e5, bd_ret, Out.on_go, tb_t (p := HasPot E pace) ⟨_, fw_pot hE hp e4 h1⟩]
 ·rw [e5, bd_ret, Out.on_ret, tb_f fun hh : HasPot E pace => h1 fun i hi => pot_diag e4 hh i]
def preW (l : Lp) (t : Tgt) : Nat → Int
 | 0 => 0
 | k + 1 => preW l t k + waitV t (ele l.body (k : Int)).op
def allW (l : Lp) (t : Tgt) : Int := preW l t l.body.length
theorem wait_pos {t : Tgt} (ht : tgtOk t = true) (op : Int) : 1 ≤ waitV t op ∧ waitV t op ≤ 6 := by
 unfold waitV
 rw [if_pos ht]
 rw [tgtOk_iff] at ht
 exact sel3_bd (by omega) (by omega) (by omega)
theorem preW_mono {l : Lp} {t : Tgt} (ht : tgtOk t = true) {i j : Nat} (h : i ≤ j) : preW l t i + ((j : Int) - i) ≤ preW l t j := by
  induction j with
  | zero => have : i = 0 := by omega
            subst this; omega
  | succ j ih =>
    by_cases e : i = j + 1
    · subst e; omega
    · have := ih (by omega)
      have hw := (wait_pos ht (ele l.body (j : Int)).op).1
      show _ ≤ preW l t j + waitV t (ele l.body (j : Int)).op
      omega
theorem preW_bd {l : Lp} {t : Tgt} (ht : tgtOk t = true) : ∀ k : Nat, (k : Int) ≤ preW l t k ∧ preW l t k ≤ 6 * k
 | 0 => by show _ ≤ (0 : Int) ∧ (0 : Int) ≤ _; omega
 | k + 1 => by
  have := preW_bd (l := l) ht k
  have hw := wait_pos ht (ele l.body (k : Int)).op
  show _ ≤ preW l t k + waitV t (ele l.body (k : Int)).op ∧ preW l t k + waitV t (ele l.body (k : Int)).op ≤ _
  omega
theorem edge_wait {l : Lp} {t : Tgt} (ht : tgtOk t = true) {e : Edg} (h : EdgeP l t e) : e.wt ≤ waitV t (ele l.body e.fr).op := by
 obtain ⟨to, h1, h2 | ⟨fr, h2, h3⟩⟩ := h
 ·obtain ⟨r, hr, rfl⟩ := h2
  exact Int.le_refl _
 ·have := h3.wt
  have hw := (wait_pos ht (ele l.body e.fr).op).1
  split at this <;> omega
theorem straight_edge {l : Lp} (hl : LoopOk l) {t : Tgt} (ht : tgtOk t = true) {pace : Int} (hp : allW l t ≤ pace) {e : Edg} (h : EdgeP l t e) : preW l t e.fr.toNat + (e.wt - pace * e.bk) ≤ preW l t e.to.toNat := by
 have hin := h.in hl
 have hw := edge_wait ht h
 obtain ⟨a1, a2, a3, a4, a5⟩ := hin
 have hn := hl.2.2.1
 have b1 := preW_bd (l := l) ht e.to.toNat
 have hs : preW l t (e.fr.toNat + 1) = preW l t e.fr.toNat + waitV t (ele l.body e.fr).op := by
  show preW l t e.fr.toNat + waitV t (ele l.body (e.fr.toNat : Int)).op = _
  rw [show ((e.fr.toNat : Nat) : Int) = e.fr from by omega]
 by_cases hb : e.bk = 0
 ·have hlt := a5 hb
  have := preW_mono (l := l) ht (show e.fr.toNat + 1 ≤ e.to.toNat by omega)
  rw [hb]
  omega
 ·have := preW_mono (l := l) ht (show e.fr.toNat + 1 ≤ l.body.length by omega)
  have hm : pace * 1 ≤ pace * e.bk := Int.mul_le_mul_of_nonneg_left (by omega) (by have := preW_bd (l := l) ht l.body.length; unfold allW at hp; omega)
  unfold allW at hp
  omega
theorem straight_pot {l : Lp} (hl : LoopOk l) {t : Tgt} (ht : tgtOk t = true) {E : List Edg} (hE : ∀ e, e ∈ E ↔ EdgeP l t e) {pace : Int} (hp : allW l t ≤ pace) : HasPot E pace :=
 ⟨preW l t, fun e he => straight_edge hl ht hp ((hE e).1 he)⟩
theorem lp_first {ρ : Type} {f : Int → Option (Stp Int ρ)} {p : Nat → Prop} {m lo : Nat} (step : ∀ i : Nat, lo ≤ i → i ≤ m → (p i → f i = some (.brk i)) ∧ (¬ p i → f i = some (.next ((i : Int) + 1)))) (hm : p m) : ∀ (d s : Nat), lo ≤ s → s + d = m → ∃ k : Nat, s ≤ k ∧ k ≤ m ∧ p k ∧ (∀ j, s ≤ j → j < k → ¬ p j) ∧ lp f s = some (.go (k : Int))
 | 0, s, hs, h => by
  have : s = m := by omega
  subst this
  exact ⟨s, Nat.le_refl _, Nat.le_refl _, hm, fun j h1 h2 => by omega, lp_brk ((step s hs (Nat.le_refl _)).1 hm)⟩
 | d + 1, s, hs, h => by
  by_cases hp : p s
  ·exact ⟨s, Nat.le_refl _, by omega, hp, fun j h1 h2 => by omega, lp_brk ((step s hs (by omega)).1 hp)⟩
  ·obtain ⟨k, h1, h2, h3, h4, h5⟩ := lp_first step hm d (s + 1) (by omega) (by omega)
   refine ⟨k, by omega, h2, h3, fun j h6 h7 => ?_, lp_step ((step s hs (by omega)).2 hp) h5⟩
   by_cases e : j = s
   ·subst e; exact hp
   ·exact h4 j (by omega) h7
theorem tmod_bd0' {a b : Int} (ha : 0 ≤ a) (hb : 1 ≤ b) : 0 ≤ Int.tmod a b ∧ Int.tmod a b < b := by
 rw [Int.tmod_eq_emod_of_nonneg ha]
 exact ⟨Int.emod_nonneg _ (by omega), Int.emod_lt_of_pos _ (by omega)⟩
def cntC (l : Lp) (k : Nat) (c : Int) : Nat := (List.range k).countP fun j : Nat => decide (clsV (ele l.body (j : Int)).op = c)
theorem cntC_succ (l : Lp) (k : Nat) (c : Int) : cntC l (k + 1) c = cntC l k c + if clsV (ele l.body (k : Int)).op = c then 1 else 0 := by
 unfold cntC
 rw [List.range_succ, List.countP_append, List.countP_singleton]
 by_cases h : clsV (ele l.body (k : Int)).op = c <;> simp [h]
theorem cntC_le (l : Lp) (c : Int) : ∀ k, cntC l k c ≤ k
 | 0 => Nat.le_refl _
 | k + 1 => by rw [cntC_succ]; have := cntC_le l c k; split <;> omega
def cdV (n u : Int) : Int := Int.tdiv (n + u - 1) u
theorem cdV_le {n u p : Int} (hn : 0 ≤ n) (hu : 1 ≤ u) (hu4 : u ≤ 4) : cdV n u ≤ p ↔ n ≤ p * u := by
 unfold cdV
 rw [Int.tdiv_eq_ediv_of_nonneg (by omega)]
 obtain h | h | h | h : u = 1 ∨ u = 2 ∨ u = 3 ∨ u = 4 := by omega
 all_goals subst h; omega
theorem cdV_bd {n u : Int} (hn : 0 ≤ n) (hn2 : n ≤ 16) (hu : 1 ≤ u) (hu4 : u ≤ 4) : 0 ≤ cdV n u ∧ cdV n u ≤ 16 := by
 unfold cdV
 rw [Int.tdiv_eq_ediv_of_nonneg (by omega)]
 obtain h | h | h | h : u = 1 ∨ u = 2 ∨ u = 3 ∨ u = 4 := by omega
 all_goals subst h; omega
def uB (l : Lp) (t : Tgt) : Nat → Int
 | 0 => 1
 | c + 1 => max (uB l t c) (cdV (cntC l l.body.length c) (unitsV t c))
theorem uB_bd {l : Lp} {t : Tgt} (hn : l.body.length ≤ 16) (ht : tgtOk t = true) : ∀ c, 1 ≤ uB l t c ∧ uB l t c ≤ 16
 | 0 => by show 1 ≤ (1 : Int) ∧ (1 : Int) ≤ 16; omega
 | c + 1 => by
  have := uB_bd (l := l) hn ht c
  have h1 := cntC_le l c l.body.length
  have h2 := units_bd ht c
  have h3 := cdV_bd (n := (cntC l l.body.length c : Int)) (by omega) (by omega) h2.1 h2.2
  show 1 ≤ max (uB l t c) _ ∧ max (uB l t c) _ ≤ 16
  omega
theorem many_loop {l : Lp} (hn : l.body.length ≤ 16) : lp (bound_Bound_L0 l) (([0, 0, 0] : List Int), 0) = some (.go ([(cntC l l.body.length 0 : Int), cntC l l.body.length 1, cntC l l.body.length 2], (l.body.length : Int))) := by
 refine lp_det (f := bound_Bound_L0 l) (fun k => ([(cntC l k 0 : Int), cntC l k 1, cntC l k 2], (k : Int))) l.body.length (fun k hk => ?_) (by unfold bound_Bound_L0; exact br_F (by unfold ln; omega))
 have hc := clsV_range (ele l.body (k : Int)).op
 have c0 := cntC_le l 0 k; have c1 := cntC_le l 1 k; have c2 := cntC_le l 2 k
 unfold bound_Bound_L0
 simp only
 rw [br_T (by unfold ln; omega), ck_IX (by omega) (by unfold ln; omega), num_Class_s, bd_ret, ck_IX (by omega) (by omega), ck_IX (by omega) (by unfold ln; simp; omega), ck_IR (by
  obtain h | h | h : clsV (ele l.body (k : Int)).op = 0 ∨ clsV (ele l.body (k : Int)).op = 1 ∨ clsV (ele l.body (k : Int)).op = 2 := by omega
  all_goals rw [h]; simp [ele]; omega) (by
  obtain h | h | h : clsV (ele l.body (k : Int)).op = 0 ∨ clsV (ele l.body (k : Int)).op = 1 ∨ clsV (ele l.body (k : Int)).op = 2 := by omega
  all_goals rw [h]; simp [ele]; omega), ck_IX (by omega) (by omega), ck_IX (by omega) (by unfold ln; simp; omega), ck_IR (by omega) (by omega)]
 rw [cntC_succ, cntC_succ, cntC_succ]
 obtain h | h | h : clsV (ele l.body (k : Int)).op = 0 ∨ clsV (ele l.body (k : Int)).op = 1 ∨ clsV (ele l.body (k : Int)).op = 2 := by omega
 all_goals rw [h]; simp [ele, upd]
theorem units_loop {l : Lp} (hn : l.body.length ≤ 16) {t : Tgt} (ht : tgtOk t = true) : lp (bound_Bound_L2 t [(cntC l l.body.length 0 : Int), cntC l l.body.length 1, cntC l l.body.length 2]) (1, 0) = some (.go (uB l t 3, 3)) := by
 refine lp_det (f := bound_Bound_L2 t [(cntC l l.body.length 0 : Int), cntC l l.body.length 1, cntC l l.body.length 2]) (fun c => (uB l t c, (c : Int))) 3 (fun c hc => ?_) (by unfold bound_Bound_L2; exact br_F (by omega))
 have h1 := cntC_le l c l.body.length
 have h2 := units_bd ht c
 have h3 := cdV_bd (n := (cntC l l.body.length c : Int)) (by omega) (by omega) h2.1 h2.2
 have he : ele [(cntC l l.body.length 0 : Int), cntC l l.body.length 1, cntC l l.body.length 2] (c : Int) = (cntC l l.body.length c : Int) := by
  obtain h | h | h : c = 0 ∨ c = 1 ∨ c = 2 := by omega
  all_goals subst h; rfl
 have hu : sel3 t.u0 t.u1 t.u2 (c : Int) = unitsV t c := rfl
 have hd : Int.tdiv ((cntC l l.body.length c : Int) + unitsV t c - 1) (unitsV t c) = cdV (cntC l l.body.length c) (unitsV t c) := rfl
 unfold bound_Bound_L2
 simp only
 rw [br_T (by omega), he, hu, hd, ck_IX (by omega) (by omega), ck_IX (by omega) (by omega), ck_IR (by omega) (by omega), ck_IR (by omega) (by omega), ck_IX (by omega) (by omega), ck_yes (by omega), ck_IR (by omega) (by omega), ck_IR (by omega) (by omega)]
 rfl
theorem Bound_s {l : Lp} (hl : LoopOk l) {t : Tgt} (ht : tgtOk t = true) {E : List Edg} (he : dep_Edges_m l t = some (E, 0)) (hE : ∀ e, e ∈ E ↔ EdgeP l t e) (hEl : E.length ≤ 60000) :
  ∃ L : Nat, 1 ≤ L ∧ (L : Int) ≤ allW l t ∧ HasPot E L ∧ (∀ j : Nat, 1 ≤ j → j < L → ¬ HasPot E j) ∧ bound_Bound_m l t = some (uB l t 3, (L : Int), 0) := by
 have hn := hl.2.2.1
 have hn1 := hl.2.1
 have hb := preW_bd (l := l) ht l.body.length
 obtain ⟨m, hm⟩ := Int.eq_ofNat_of_zero_le (show 0 ≤ allW l t by unfold allW; omega)
 have hm1 : 1 ≤ m := by unfold allW at hm; omega
 have hm2 : m ≤ 96 := by unfold allW at hm; omega
 have hin : ∀ e ∈ E, EdgeIn l.body.length e := fun e he => ((hE e).1 he).in hl
 obtain ⟨L, h1, h2, h3, h4, h5⟩ := lp_first (f := bound_Bound_L4 l (E, 0)) (ρ := Empty) (m := m) (lo := 1) (p := fun i => HasPot E (i : Int)) (fun i h0 hi => by
  unfold bound_Bound_L4 ln
  rw [rounds_s hn hin hEl (by omega), bd_ret]
  exact ⟨fun h => by rw [tb_t h]; rfl, fun h => by rw [tb_f h, Bool.not_false, br_true, ck_IR (by omega) (by omega)]⟩) (straight_pot hl ht hE (by omega)) (m - 1) 1 (by omega) (by omega)
 refine ⟨L, h1, by omega, h3, h4, ?_⟩
 unfold bound_Bound_m
 rw [he, bd_ret, show (((E, (0 : Int)) : List Edg × Int).2 != 0) = false from rfl, br_false, many_loop hn, bd_ret, Out.on_go]
 simp only
 rw [ck_yes (by rfl), units_loop hn ht, bd_ret, Out.on_go]
 simp only
 rw [show (1 : Int) = ((1 : Nat) : Int) from rfl, h5, bd_ret, Out.on_go]
def sumR (g : Nat → Nat) : Nat → Nat
 | 0 => 0
 | n + 1 => sumR g n + g n
theorem sumR_add (g h : Nat → Nat) : ∀ n, sumR (fun s => g s + h s) n = sumR g n + sumR h n
 | 0 => rfl
 | n + 1 => by show sumR _ n + (g n + h n) = (sumR g n + g n) + (sumR h n + h n); rw [sumR_add g h n]; omega
theorem sumR_zero : ∀ n, sumR (fun _ => 0) n = 0
 | 0 => rfl
 | n + 1 => by show sumR _ n + 0 = 0; rw [sumR_zero n]
theorem sumR_congr {g h : Nat → Nat} : ∀ {n}, (∀ s, s < n → g s = h s) → sumR g n = sumR h n
 | 0, _ => rfl
 | n + 1, e => by show sumR g n + g n = sumR h n + h n; rw [sumR_congr fun s hs => e s (by omega), e n (by omega)]
theorem sumR_one {k : Nat} : ∀ {n}, k < n → sumR (fun s => if s = k then 1 else 0) n = 1
 | n + 1, h => by
  show sumR _ n + (if n = k then 1 else 0) = 1
  by_cases e : n = k
  ·subst e
   rw [if_pos rfl, sumR_congr (h := fun _ => 0) fun s hs => if_neg (by omega), sumR_zero]
  ·rw [if_neg e, sumR_one (by omega)]
theorem slots_sum {l : Lp} {p : Pln} {P : Nat} (hP : p.pace = P) (h1 : 1 ≤ P) (c : Int) : ∀ k : Nat, (∀ j : Nat, j < k → 0 ≤ ele p.times (j : Int)) → sumR (fun s => cntK l p k ((s : Int), c)) P = cntC l k c
 | 0, _ => by
  show sumR (fun s => 0) P = 0
  exact sumR_zero P
 | k + 1, h => by
  have ih := slots_sum (l := l) hP h1 c k fun j hj => h j (by omega)
  have h0 := h k (by omega)
  rw [cntC_succ, ← ih, show (fun s : Nat => cntK l p (k + 1) ((s : Int), c)) = fun s : Nat => cntK l p k ((s : Int), c) + (if keyK l p k = ((s : Int), c) then 1 else 0) from funext fun s => cntK_succ l p k _, sumR_add]
  congr 1
  unfold keyK
  by_cases e : clsV (ele l.body (k : Int)).op = c
  ·rw [if_pos e]
   have hm := tmod_bd0' (a := ele p.times (k : Int)) h0 (show 1 ≤ p.pace by omega)
   obtain ⟨s0, hs0⟩ := Int.eq_ofNat_of_zero_le hm.1
   refine Eq.trans (sumR_congr fun s hs => ?_) (sumR_one (k := s0) (n := P) (by omega))
   rw [hs0, e]
   by_cases q : s = s0
   ·subst q; rw [if_pos rfl, if_pos rfl]
   ·rw [if_neg q, if_neg]
    intro hh
    simp only [Prod.mk.injEq] at hh
    exact q (by omega)
  ·rw [if_neg e, sumR_congr (h := fun _ => 0), sumR_zero]
   intro s hs
   exact if_neg fun hh => e (Prod.mk.inj hh).2
end Go.Rd
end