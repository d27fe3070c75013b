/- Plans that are legal: both sides. -/
import Derived.Test.YtaimbkndebaaiabSEdg2
import Derived.Test.YtaimbkndebaaiabMSched1
import Derived.Test.YtaimbkndebaaiabMRSched
namespace Go.Rd
set_option linter.unusedVariables false
set_option linter.unusedSimpArgs false
def keyK (l : Lp) (p : Pln) (i : Nat) : Int × Int := (Int.tmod (ele p.times (i : Int)) p.pace, clsV (ele l.body (i : Int)).op)
def cntK (l : Lp) (p : Pln) (k : Nat) (κ : Int × Int) : Nat := (List.range k).countP fun j => decide (keyK l p j = κ)
def unitsV (t : Tgt) (c : Int) : Int := sel3 t.u0 t.u1 t.u2 c
theorem cntK_succ (l : Lp) (p : Pln) (k : Nat) (κ : Int × Int) : cntK l p (k + 1) κ = cntK l p k κ + if keyK l p k = κ then 1 else 0 := by
  unfold cntK
  rw [List.range_succ, List.countP_append, List.countP_singleton]
  by_cases h : keyK l p k = κ <;> simp [h]
theorem cntK_mono (l : Lp) (p : Pln) {κ : Int × Int} {i j : Nat} (h : i ≤ j) : cntK l p i κ ≤ cntK l p j κ := by
  induction j with
  | zero => have : i = 0 := by omega
            subst this; exact Nat.le_refl _
  | succ j ih =>
    by_cases e : i = j + 1
    · subst e; exact Nat.le_refl _
    · rw [cntK_succ]; have := ih (by omega); omega
theorem cntK_le (l : Lp) (p : Pln) (κ : Int × Int) : ∀ k, cntK l p k κ ≤ k
  | 0 => Nat.le_refl _
  | k + 1 => by rw [cntK_succ]; have := cntK_le l p κ k; split <;> omega
theorem units_bd {t : Tgt} (ht : tgtOk t = true) (c : Int) : 1 ≤ unitsV t c ∧ unitsV t c ≤ 4 := by
  rw [tgtOk_iff] at ht
  exact sel3_bd ⟨ht.1.1, ht.1.2.1⟩ ⟨ht.2.1.1, ht.2.1.2.1⟩ ⟨ht.2.2.1.1, ht.2.2.1.2.1⟩
theorem cnt_all {l : Lp} {p : Pln} {t : Tgt} (ht : tgtOk t = true) {n : Nat} : (∀ k, k < n → (cntK l p (k + 1) (keyK l p k) : Int) ≤ unitsV t (keyK l p k).2) ↔ (∀ i, i < n → (cntK l p n (keyK l p i) : Int) ≤ unitsV t (keyK l p i).2) := by
  constructor
  · intro h
    have key : ∀ k, k ≤ n → ∀ κ, (cntK l p k κ : Int) ≤ unitsV t κ.2 := by
      intro k
      induction k with
      | zero => intro _ κ; have := (units_bd ht κ.2).1; show ((0 : Nat) : Int) ≤ _; omega
      | succ k ih =>
        intro hk κ
        by_cases e : keyK l p k = κ
        · have := h k (by omega); rw [e] at this; exact this
        · rw [cntK_succ, if_neg e]; exact ih (by omega) κ
    exact fun i _ => key n (Nat.le_refl _) _
  · intro h k hk
    have := h k hk
    have := cntK_mono l p (κ := keyK l p k) (show k + 1 ≤ n from hk)
    omega
def RngP (p : Pln) (i : Nat) : Prop := 0 ≤ ele p.times (i : Int) ∧ ele p.times (i : Int) ≤ 1000
def EdgOk (p : Pln) (e : Edg) : Prop := ele p.times e.fr + e.wt ≤ ele p.times e.to + e.bk * p.pace
structure LegalP (l : Lp) (t : Tgt) (p : Pln) : Prop where
  loop : LoopOk l
  tgt : tgtOk t = true
  pace : 1 ≤ p.pace ∧ p.pace ≤ 200
  len : p.times.length = l.body.length
  rng : ∀ i, i < l.body.length → RngP p i
  units : ∀ i, i < l.body.length → (cntK l p l.body.length (keyK l p i) : Int) ≤ unitsV t (keyK l p i).2
  edge : ∀ e, EdgeP l t e → EdgOk p e
def FitP (l : Lp) (t : Tgt) (p : Pln) : Prop := ((∀ i, i < l.body.length → RngP p i) ∧ (∀ i, i < l.body.length → (cntK l p l.body.length (keyK l p i) : Int) ≤ unitsV t (keyK l p i).2)) ∧ ∀ e, EdgeP l t e → EdgOk p e
theorem tmod_bd {a b : Int} (h : 0 < b) : -b < Int.tmod a b ∧ Int.tmod a b < b := tmod_lt' a h
theorem edge_range {l : Lp} {p : Pln} (hl : LoopOk l) (hp : 1 ≤ p.pace ∧ p.pace ≤ 200) (hlen : p.times.length = l.body.length) (hr : ∀ i, i < l.body.length → RngP p i) {t : Tgt} {e : Edg} (he : EdgeP l t e) :
    IX e.to (ln p.times) ∧ IX e.fr (ln p.times) ∧ (0 ≤ e.bk * p.pace ∧ e.bk * p.pace ≤ 6400) ∧ (0 ≤ ele p.times e.to ∧ ele p.times e.to ≤ 1000) ∧ (0 ≤ ele p.times e.fr ∧ ele p.times e.fr ≤ 1000) ∧ (0 ≤ e.wt ∧ e.wt ≤ 6) := by
  obtain ⟨a1, a2, a3, a4, _⟩ := he.in hl
  have m1 := mul_le (a := e.bk) (A := 32) (b := p.pace) (B := 200) (by omega) (by omega) (by omega) (by omega)
  have m2 : 0 ≤ e.bk * p.pace := Int.mul_nonneg a3.1 (by omega)
  have q1 := hr e.to.toNat (by omega)
  have q2 := hr e.fr.toNat (by omega)
  unfold RngP at q1 q2
  rw [show ((e.to.toNat : Nat) : Int) = e.to from by omega] at q1
  rw [show ((e.fr.toNat : Nat) : Int) = e.fr from by omega] at q2
  exact ⟨⟨a2.1, by unfold ln; omega⟩, ⟨a1.1, by unfold ln; omega⟩, ⟨m2, by omega⟩, q1, q2, a4⟩
theorem all_edges {l : Lp} {t : Tgt} {E : List Edg} (hE : ∀ e, e ∈ E ↔ EdgeP l t e) {q : Edg → Prop} : (∀ i : Nat, i < E.length → q (ele E (i : Int))) ↔ ∀ e, EdgeP l t e → q e := by
  constructor
  · intro h e he
    obtain ⟨i, hi, rfl⟩ := mem_ele ((hE e).2 he)
    exact h i hi
  · exact fun h i hi => h _ ((hE _).1 (ele_mem' hi))
theorem fits_s {l : Lp} {t : Tgt} {p : Pln} (hl : LoopOk l) (ht : tgtOk t = true) (hp : 1 ≤ p.pace ∧ p.pace ≤ 200) (hlen : p.times.length = l.body.length) {E : List Edg} (hE : ∀ e, e ∈ E ↔ EdgeP l t e) (hEl : E.length ≤ 60000) : sched_fits_m l t p E = some (tb (FitP l t p)) := by
  have hn16 := hl.2.2.1
  unfold sched_fits_m
  rcases lp_chk (f := sched_fits_L0 l t p) (n := p.times.length) (r0 := false) (fun i => RngP p i ∧ (cntK l p (i + 1) (keyK l p i) : Int) ≤ unitsV t (keyK l p i).2) (fun k m => ∀ κ, mget m κ 0 = (cntK l p k κ : Int)) (fun i m hi hm => by
      have hc := clsV_range (ele l.body (i : Int)).op
      have hcl := cntK_le l p (keyK l p i) i
      have hmg : mget m (keyK l p i) 0 = (cntK l p i (keyK l p i) : Int) := hm _
      have hk : keyK l p i = (Int.tmod (ele p.times (i : Int)) p.pace, clsV (ele l.body (i : Int)).op) := rfl
      have hnew : mget (mput m (keyK l p i) (mget m (keyK l p i) 0 + 1)) (keyK l p i) 0 = (cntK l p (i + 1) (keyK l p i) : Int) := by rw [mget_mput, if_pos rfl, hmg, cntK_succ, if_pos rfl]; rfl
      have e : sched_fits_L0 l t p (m, (i : Int)) = br (!tb (RngP p i)) (some (.ret false)) (br (decide ((cntK l p (i + 1) (keyK l p i) : Int) > unitsV t (keyK l p i).2)) (some (.ret false)) (some (.next (mput m (keyK l p i) (mget m (keyK l p i) 0 + 1), (i : Int) + 1)))) := by
        unfold sched_fits_L0
        simp only
        rw [br_T (by unfold ln; omega), ck_IX (by omega) (by unfold ln; omega)]
        have hb : (decide (ele p.times (i : Int) < 0) || decide (ele p.times (i : Int) > 1000)) = !tb (RngP p i) := by
          have : (!(decide (ele p.times (i : Int) < 0) || decide (ele p.times (i : Int) > 1000))) = tb (RngP p i) := tb_eq (by unfold RngP; simp)
          rw [← this, Bool.not_not]
        rw [hb, ck_yes (by omega), ck_IX (by omega) (by unfold ln; omega), num_Class_s, bd_ret, ← hk, ck_IR (by omega) (by omega), ck_IX hc.1 hc.2, hnew, ck_IR (by omega) (by omega)]
        rfl
      rw [e]
      by_cases h1 : RngP p i
      · rw [tb_t h1, Bool.not_true, br_false]
        by_cases h2 : (cntK l p (i + 1) (keyK l p i) : Int) > unitsV t (keyK l p i).2
        · rw [br_T h2]; exact .inr ⟨fun h => by omega, rfl⟩
        · rw [br_F h2]
          refine .inl ⟨⟨h1, by omega⟩, _, rfl, fun κ => ?_⟩
          rw [mget_mput, cntK_succ]
          by_cases hq : keyK l p i = κ
          · rw [if_pos hq, if_pos hq, hmg, hq]; rfl
          · rw [if_neg hq, if_neg hq, hm]; rfl
      · rw [tb_f h1]; exact .inr ⟨fun h => h1 h.1, rfl⟩) (fun g => by unfold sched_fits_L0; exact br_F (by unfold ln; omega)) [] (fun κ => rfl) with ⟨h1, m, e1, _⟩ | ⟨h1, e1⟩
  · rw [e1, bd_ret, Out.on_go]
    simp only
    have hrng : ∀ i, i < l.body.length → RngP p i := fun i hi => (h1 i (by omega)).1
    have hcnt := (cnt_all (l := l) (p := p) ht (n := l.body.length)).1 fun i hi => (h1 i (by omega)).2
    rcases lp_all (f := sched_fits_L2 p E) (n := E.length) (p := fun i => EdgOk p (ele E (i : Int))) (fun i hi _ => by
        obtain ⟨x1, x2, x3, x4, x5, x6⟩ := edge_range hl hp hlen hrng ((hE _).1 (ele_mem' hi))
        have e : sched_fits_L2 p E i = br (!tb (EdgOk p (ele E (i : Int)))) (some (.ret false)) (some (.next ((i : Int) + 1))) := by
          unfold sched_fits_L2
          rw [br_T (by unfold ln; omega), ck_IX (by omega) (by unfold ln; omega), ck_yes x1, ck_IR (by omega) (by omega), ck_IR (by omega) (by omega), ck_yes x2, ck_IR (by omega) (by omega), ck_IR (by omega) (by omega)]
          congr 1
          have : (!decide (ele p.times (ele E (i : Int)).to + (ele E (i : Int)).bk * p.pace < ele p.times (ele E (i : Int)).fr + (ele E (i : Int)).wt)) = tb (EdgOk p (ele E (i : Int))) := tb_eq (by unfold EdgOk; simp)
          rw [← this, Bool.not_not]
        rw [e]
        exact ⟨fun h => by rw [tb_t h]; rfl, fun h => by rw [tb_f h]; rfl⟩) (by unfold sched_fits_L2; exact br_F (by unfold ln; omega)) with ⟨h2, e2⟩ | ⟨h2, e2⟩
    · rw [e2, bd_ret, Out.on_go, tb_t ⟨⟨hrng, hcnt⟩, (all_edges hE).1 h2⟩]
    · rw [e2, bd_ret, Out.on_ret, tb_f fun h => h2 ((all_edges hE).2 h.2)]
  · rw [e1, bd_ret, Out.on_ret, tb_f fun h => h1 fun i hi => ⟨h.1.1 i (by omega), (cnt_all ht).2 h.1.2 i (by omega)⟩]
theorem legal_iff {l : Lp} {t : Tgt} {p : Pln} : LegalP l t p ↔ (LoopOk l ∧ tgtOk t = true) ∧ (1 ≤ p.pace ∧ p.pace ≤ 200) ∧ p.times.length = l.body.length ∧ FitP l t p :=
  ⟨fun h => ⟨⟨h.loop, h.tgt⟩, h.pace, h.len, ⟨h.rng, h.units⟩, h.edge⟩, fun ⟨h1, h2, h3, h4⟩ => ⟨h1.1, h1.2, h2, h3, h4.1.1, h4.1.2, h4.2⟩⟩
theorem Legal_s {l : Lp} (hf : l.Fine) (t : Tgt) (p : Pln) : sched_Legal_m l t p = some (tb (LegalP l t p)) := by
  unfold sched_Legal_m
  by_cases h : LoopOk l ∧ tgtOk t = true
  · obtain ⟨E, e1, e2, e3, e4, e5⟩ := edges_both h.1 hf h.2
    rw [e1, bd_ret]
    simp only
    by_cases h2 : (1 ≤ p.pace ∧ p.pace ≤ 200) ∧ p.times.length = l.body.length
    · have hc : ((((0 : Int) == 0) && (decide (p.pace ≥ 1))) && (decide (p.pace ≤ 200)) && ((ln p.times) == (ln l.body))) = true := by
        unfold ln
        simp only [Bool.and_eq_true, decide_eq_true_eq, beq_iff_eq]
        exact ⟨⟨⟨trivial, by omega⟩, by omega⟩, by omega⟩
      rw [hc, fits_s h.1 h.2 h2.1 h2.2 e4 e5, bdG_t, bd_ret, Bool.true_and]
      congr 1
      exact tb_congr ⟨fun hh => legal_iff.2 ⟨h, h2.1, h2.2, hh⟩, fun hh => (legal_iff.1 hh).2.2.2⟩
    · have hc : ((((0 : Int) == 0) && (decide (p.pace ≥ 1))) && (decide (p.pace ≤ 200)) && ((ln p.times) == (ln l.body))) = false := by
        cases hq : ((((0 : Int) == 0) && (decide (p.pace ≥ 1))) && (decide (p.pace ≤ 200)) && ((ln p.times) == (ln l.body))) with
        | false => rfl
        | true =>
          unfold ln at hq
          simp only [Bool.and_eq_true, decide_eq_true_eq, beq_iff_eq] at hq
          exact absurd ⟨⟨by omega, by omega⟩, by omega⟩ h2
      rw [hc, bdG_f, Bool.false_and, tb_f fun hh => h2 ⟨hh.pace, hh.len⟩]
  · rw [Edges_bad hf h, bd_ret, tb_f fun hh => h ⟨hh.loop, hh.tgt⟩]
    rfl
theorem rLegal_s {l : Lp} (hf : l.Fine) (t : Tgt) (p : Pln) : roundelayref8_Legal_m l t p = some (tb (LegalP l t p)) := by
  unfold roundelayref8_Legal_m
  rw [rMay_s hf, bd_ret]
  by_cases h : LoopOk l ∧ tgtOk t = true
  · by_cases h2 : (1 ≤ p.pace ∧ p.pace ≤ 200) ∧ p.times.length = l.body.length
    · have hn16 := h.1.2.2.1
      obtain ⟨E, e1, e2, e3, e4, e5⟩ := edges_both h.1 hf h.2
      have hlen := h2.2
      rw [tb_t h, show ((((!true) || (decide (p.pace < 1))) || (decide (p.pace > 200))) || ((ln p.times) != (ln l.body))) = false from by unfold ln; simp only [Bool.not_true, Bool.false_or, Bool.or_eq_false_iff, decide_eq_false_iff_not, bne_eq_false_iff_eq]; omega, br_false]
      rcases lp_all (f := roundelayref8_Legal_L0 l t p) (n := p.times.length) (p := fun i => RngP p i ∧ (cntK l p l.body.length (keyK l p i) : Int) ≤ unitsV t (keyK l p i).2) (fun i hi _ => by
          have hc := clsV_range (ele l.body (i : Int)).op
          have hix : IX (i : Int) (ln p.times) := ⟨by omega, by unfold ln; omega⟩
          have hin : ∃ g, lp (roundelayref8_Legal_L2 l p i (clsV (ele l.body (i : Int)).op)) (0, 0) = some (.go (g, (p.times.length : Int))) ∧ g = (cntK l p p.times.length (keyK l p i) : Int) := by
            refine lp_inv (fun k g => g = (cntK l p k (keyK l p i) : Int)) (fun j g hj hg => ?_) (fun g => by unfold roundelayref8_Legal_L2; exact br_F (by unfold ln; omega)) 0 rfl
            have hcl := cntK_le l p (keyK l p i) j
            have hb : ((Int.tmod (ele p.times (j : Int)) p.pace == Int.tmod (ele p.times (i : Int)) p.pace) && ((if (Int.tmod (ele p.times (j : Int)) p.pace == Int.tmod (ele p.times (i : Int)) p.pace) = true then clsV (ele l.body (j : Int)).op else default) == clsV (ele l.body (i : Int)).op)) = tb (keyK l p j = keyK l p i) := by
              refine tb_eq ?_
              unfold keyK
              by_cases hq : Int.tmod (ele p.times (j : Int)) p.pace = Int.tmod (ele p.times (i : Int)) p.pace
              · simp [hq]
              · simp [hq]
            unfold roundelayref8_Legal_L2
            simp only
            rw [br_T (by unfold ln; omega), ck_IX (by omega) (by unfold ln; omega), ck_yes (by omega), ck_yes hix, ck_yes (by omega), ck_imp (fun _ => ⟨by omega, by unfold ln; omega⟩), ref_Class_s, bdG_any, hb]
            by_cases hq : keyK l p j = keyK l p i
            · rw [tb_t hq, br_true, ck_IR (by omega) (by omega), ck_IR (by omega) (by omega)]
              exact ⟨_, rfl, by rw [hg, cntK_succ, if_pos hq]; rfl⟩
            · rw [tb_f hq, br_false, ck_IR (by omega) (by omega)]
              exact ⟨_, rfl, by rw [hg, cntK_succ, if_neg hq]; rfl⟩
          obtain ⟨g, g1, g2⟩ := hin
          have e : roundelayref8_Legal_L0 l t p i = br (!tb (RngP p i)) (some (.ret false)) (br (decide ((cntK l p l.body.length (keyK l p i) : Int) > unitsV t (keyK l p i).2)) (some (.ret false)) (some (.next ((i : Int) + 1)))) := by
            have hb : (decide (ele p.times (i : Int) < 0) || decide (ele p.times (i : Int) > 1000)) = !tb (RngP p i) := by
              have : (!(decide (ele p.times (i : Int) < 0) || decide (ele p.times (i : Int) > 1000))) = tb (RngP p i) := tb_eq (by unfold RngP; simp)
              rw [← this, Bool.not_not]
            unfold roundelayref8_Legal_L0
            rw [br_T (by unfold ln; omega), ck_yes hix, ck_imp (fun _ => hix), hb, ck_IX (by omega) (by unfold ln; omega), ref_Class_s, bd_ret, g1, bd_ret, Out.on_go]
            simp only
            rw [ck_IX hc.1 hc.2, ck_IR (by omega) (by omega), g2, hlen]
            rfl
          rw [e]
          constructor
          · rintro ⟨x1, x2⟩
            rw [tb_t x1, Bool.not_true, br_false, br_F (by omega)]
          · intro hh
            by_cases x1 : RngP p i
            · rw [tb_t x1, Bool.not_true, br_false, br_T]
              have : ¬ ((cntK l p l.body.length (keyK l p i) : Int) ≤ unitsV t (keyK l p i).2) := fun x => hh ⟨x1, x⟩
              omega
            · rw [tb_f x1]; rfl) (by unfold roundelayref8_Legal_L0; exact br_F (by unfold ln; omega)) with ⟨h3, x3⟩ | ⟨h3, x3⟩
      · rw [x3, bd_ret, Out.on_go, e2, bd_ret]
        have hrng : ∀ i, i < l.body.length → RngP p i := fun i hi => (h3 i (by omega)).1
        rcases lp_all (f := roundelayref8_Legal_L4 p E) (n := E.length) (p := fun i => EdgOk p (ele E (i : Int))) (fun i hi _ => by
            obtain ⟨x1, x2, x3, x4, x5, x6⟩ := edge_range h.1 h2.1 hlen hrng ((e4 _).1 (ele_mem' hi))
            have e : roundelayref8_Legal_L4 p E i = br (!tb (EdgOk p (ele E (i : Int)))) (some (.ret false)) (some (.next ((i : Int) + 1))) := by
              unfold roundelayref8_Legal_L4
              rw [br_T (by unfold ln; omega), ck_IX (by omega) (by unfold ln; omega), ck_yes x1, ck_IR (by omega) (by omega), ck_IR (by omega) (by omega), ck_yes x2, ck_IR (by omega) (by omega), ck_IR (by omega) (by omega)]
              congr 1
              have : (!decide (ele p.times (ele E (i : Int)).to + (ele E (i : Int)).bk * p.pace < ele p.times (ele E (i : Int)).fr + (ele E (i : Int)).wt)) = tb (EdgOk p (ele E (i : Int))) := tb_eq (by unfold EdgOk; simp)
              rw [← this, Bool.not_not]
            rw [e]
            exact ⟨fun h => by rw [tb_t h]; rfl, fun h => by rw [tb_f h]; rfl⟩) (by unfold roundelayref8_Legal_L4; exact br_F (by unfold ln; omega)) with ⟨h4, x4⟩ | ⟨h4, x4⟩
        · rw [x4, bd_ret, Out.on_go, tb_t]
          exact legal_iff.2 ⟨h, h2.1, h2.2, ⟨hrng, fun i hi => (h3 i (by omega)).2⟩, (all_edges e4).1 h4⟩
        · rw [x4, bd_ret, Out.on_ret, tb_f fun hh => h4 ((all_edges e4).2 hh.edge)]
      · rw [x3, bd_ret, Out.on_ret, tb_f fun hh => h3 fun i hi => ⟨hh.rng i (by omega), hh.units i (by omega)⟩]
    · have hc : ((((!tb (LoopOk l ∧ tgtOk t = true)) || (decide (p.pace < 1))) || (decide (p.pace > 200))) || ((ln p.times) != (ln l.body))) = true := by
        cases hq : ((((!tb (LoopOk l ∧ tgtOk t = true)) || (decide (p.pace < 1))) || (decide (p.pace > 200))) || ((ln p.times) != (ln l.body))) with
        | true => rfl
        | false =>
          unfold ln at hq
          simp only [Bool.or_eq_false_iff, decide_eq_false_iff_not, bne_eq_false_iff_eq] at hq
          exact absurd ⟨⟨by omega, by omega⟩, by omega⟩ h2
      rw [hc, br_true, tb_f fun hh => h2 ⟨hh.pace, hh.len⟩]
  · rw [tb_f h, tb_f fun hh => h ⟨hh.loop, hh.tgt⟩]
    rfl
end Go.Rd
