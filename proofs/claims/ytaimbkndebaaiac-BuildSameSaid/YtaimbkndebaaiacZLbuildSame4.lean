/- Texts for the law, 4. -/
import Derived.Test.YtaimbkndebaaiacZLbuildSame3
import Derived.KernelRfl
import Derived.Test.YtaimbkndebaaiacProg
set_option linter.unusedVariables false
set_option linter.unusedSimpArgs false
set_option maxRecDepth 8000
section
namespace Go.Rd
noncomputable def sched_early_L2 (pace : Int) (edges : List Edg) (v6_7 : List Int) (x23_7 : Int) : (Int × Int) → Option (Stp (Int × Int) (Empty)) := fun (time13_8, x30_8) =>
 br (decide (x30_8 < (ln edges))) (
 ck (IX x30_8 (ln edges)) <|
 br (((ele edges x30_8).to == x23_7) && (decide ((ele edges x30_8).fr < x23_7))) (
 ck (IX ((ele edges x30_8).fr) (ln v6_7)) <|
 ck (IR ((ele v6_7 ((ele edges x30_8).fr)) + (ele edges x30_8).wt)) <|
 ck (IR (pace * (ele edges x30_8).bk)) <|
 ck (IR (((ele v6_7 ((ele edges x30_8).fr)) + (ele edges x30_8).wt) - (pace * (ele edges x30_8).bk))) <|
 ck (IR (x30_8 + 1)) <|
 some (.next ((max time13_8 (((ele v6_7 ((ele edges x30_8).fr)) + (ele edges x30_8).wt) - (pace * (ele edges x30_8).bk))), (x30_8 + 1)))) (
 ck (IR (x30_8 + 1)) <|
 some (.next (time13_8, (x30_8 + 1))))) (
 some (.brk (time13_8, x30_8)))
noncomputable def sched_early_L4 (t : Tgt) (pace : Int) (m5n_7 : List ((Int × Int) × Int)) (x24 : Int) : Int → Option (Stp (Int) (Empty)) := fun time13_9 =>
 ck (pace ≠ 0) <|
 ck (IX x24 3) <|
 br (decide ((mget m5n_7 ((Int.tmod time13_9 pace), x24) 0) ≥ (sel3 t.u0 t.u1 t.u2 x24))) (
 ck (IR (time13_9 + 1)) <|
 some (.next (time13_9 + 1))) (
 some (.brk time13_9))
noncomputable def sched_early_L0 (l : Lp) (t : Tgt) (pace : Int) (edges : List Edg) : ((List Int) × (List ((Int × Int) × Int)) × Int) → Option (Stp ((List Int) × (List ((Int × Int) × Int)) × Int) (Empty)) := fun (v6_7, m5n_7, x23_7) =>
 br (decide (x23_7 < (ln l.body))) (
 ck (IX x23_7 (ln l.body)) <|
 bd (lp (sched_early_L2 pace edges v6_7 x23_7) (0, 0)) fun o19 => o19.on (fun (time13_8, x30_8) =>
 bd (num_Class_m ((ele l.body x23_7).op)) fun x24 =>
 bd (lp (sched_early_L4 t pace m5n_7 x24) time13_8) fun o27 => o27.on (fun time13_9 =>
 ck (pace ≠ 0) <|
 ck (IR ((mget m5n_7 ((Int.tmod time13_9 pace), x24) 0) + 1)) <|
 ck (AL (v6_7 ++ [time13_9]).length 8) <|
 ck (IR (x23_7 + 1)) <|
 some (.next ((v6_7 ++ [time13_9]), (mput m5n_7 ((Int.tmod time13_9 pace), x24) ((mget m5n_7 ((Int.tmod time13_9 pace), x24) 0) + 1)), (x23_7 + 1)))) (fun r => r.elim)) (fun r => r.elim)) (
 some (.brk (v6_7, m5n_7, x23_7)))
noncomputable def sched_early_m (l : Lp) (t : Tgt) (pace : Int) (edges : List Edg) : Option (Pln) :=
 bd (lp (sched_early_L0 l t pace edges) ([], ([] : List ((Int × Int) × Int)), 0)) fun o7 => o7.on (fun (v6_7, m5n_7, x23_7) =>
 some (Pln.mk pace v6_7)) (fun r => r.elim)
noncomputable def sched_straight_L0 (l : Lp) (t : Tgt) : ((List Int) × Int × Int) → Option (Stp ((List Int) × Int × Int) (Empty)) := fun (v5_1, time9_1, x17_1) =>
 br (decide (x17_1 < (ln l.body))) (
 ck (IX x17_1 (ln l.body)) <|
 ck (AL (v5_1 ++ [time9_1]).length 8) <|
 bd (target_Wait_m t ((ele l.body x17_1).op)) fun x23 =>
 ck (IR (time9_1 + x23)) <|
 ck (IR (x17_1 + 1)) <|
 some (.next ((v5_1 ++ [time9_1]), (time9_1 + x23), (x17_1 + 1)))) (
 some (.brk (v5_1, time9_1, x17_1)))
noncomputable def sched_straight_m (l : Lp) (t : Tgt) (pace : Int) : Option (Pln × Int) :=
 bd (lp (sched_straight_L0 l t) ([], 0, 0)) fun o6 => o6.on (fun (v5_1, time9_1, x17_1) =>
 some ((Pln.mk pace v5_1), time9_1)) (fun r => r.elim)
noncomputable def sched_Make_L1 (l : Lp) (t : Tgt) (least : Int) (x4 : List Edg × Int) (x17 : Pln × Int) : Int → Option (Stp (Int) (Pln × Int)) := fun pace15_1 =>
 ck (IR (least + 1)) <|
 br (decide (pace15_1 < (max (least + 1) x17.2))) (
 bd (sched_early_m l t pace15_1 x4.1) fun x31 =>
 bd (sched_fits_m l t x31 x4.1) fun x36 =>
 br x36 (
 some (.ret (x31, 0))) (
 ck (IR (pace15_1 + 1)) <|
 some (.next (pace15_1 + 1)))) (
 some (.brk pace15_1))
noncomputable def sched_Make_m (l : Lp) (t : Tgt) (least : Int) : Option (Pln × Int) :=
 bd (dep_Edges_m l t) fun x4 =>
 br (x4.2 != 0) (
 some ((Pln.mk 0 []), x4.2)) (
 br ((decide (least < 1)) || (decide (least > 200))) (
 some ((Pln.mk 0 []), 3)) (
 bd (bound_Bound_m l t) fun x14 =>
 bd (sched_straight_m l t 1) fun x17 =>
 bd (lp (sched_Make_L1 l t least x4 x17) (max (max least x14.1) x14.2.1)) fun o22 => o22.on (fun pace15_1 =>
 bd (sched_straight_m l t (max least x17.2)) fun x27 =>
 some (x27.1, 0)) (fun r => some r)))
def straV (l : Lp) (t : Tgt) (pace : Int) : Pln := ⟨pace, (List.range l.body.length).map (preW l t)⟩
theorem straight_s {l : Lp} (hl : LoopOk l) {t : Tgt} (ht : tgtOk t = true) (pace : Int) : sched_straight_m l t pace = some (straV l t pace, allW l t) := by
 have hn := hl.2.2.1
 have := lp_det (f := sched_straight_L0 l t) (ρ := Empty) (fun k => ((List.range k).map (preW l t), preW l t k, (k : Int))) l.body.length (fun k hk => by
  have hb := preW_bd (l := l) ht k
  have hw := wait_pos ht (ele l.body (k : Int)).op
  unfold sched_straight_L0
  simp only
  rw [br_T (by unfold ln; omega), ck_IX (by omega) (by unfold ln; omega), ck_yes (AL8 (by simp; omega)), target_Wait_s, bd_ret, ck_IR (by omega) (by omega), ck_IR (by omega) (by omega), rm_succ (g := preW l t)]
  rfl) (by unfold sched_straight_L0; exact br_F (by unfold ln; omega))
 unfold sched_straight_m
 rw [show lp (sched_straight_L0 l t) ([], 0, 0) = _ from this, bd_ret, Out.on_go]
 rfl
theorem cntK_one {l : Lp} {p : Pln} {n : Nat} (h : ∀ i j, i < n → j < n → i ≠ j → keyK l p i ≠ keyK l p j) (κ : Int × Int) : ∀ k, k ≤ n → cntK l p k κ ≤ 1
 | 0, _ => Nat.zero_le _
 | k + 1, hk => by
  rw [cntK_succ]
  have ih := cntK_one h κ k (by omega)
  by_cases e : keyK l p k = κ
  ·rw [if_pos e]
   have : cntK l p k κ = 0 := by
    unfold cntK
    rw [List.countP_eq_zero]
    intro j hj
    have hj' := List.mem_range.1 hj
    simp only [decide_eq_true_eq]
    exact fun hh => h j k (by omega) (by omega) (by omega) (hh.trans e.symm)
   omega
  ·rw [if_neg e]; omega
theorem allW_bd {l : Lp} (hl : LoopOk l) {t : Tgt} (ht : tgtOk t = true) : 1 ≤ allW l t ∧ allW l t ≤ 96 := by
 have := preW_bd (l := l) ht l.body.length
 have h1 := hl.2.1; have h2 := hl.2.2.1
 unfold allW
 omega
theorem straight_legal {l : Lp} (hl : LoopOk l) {t : Tgt} (ht : tgtOk t = true) {pace : Int} (hp : allW l t ≤ pace) (hp2 : pace ≤ 200) : LegalP l t (straV l t pace) := by
 have hab := allW_bd hl ht
 have hat : ∀ i : Nat, i < l.body.length → ele (straV l t pace).times (i : Int) = preW l t i ∧ 0 ≤ preW l t i ∧ preW l t i < pace := fun i hi => by
  have h1 := preW_bd (l := l) ht i
  have h2 := preW_mono (l := l) ht (show i ≤ l.body.length by omega)
  unfold allW at hp
  exact ⟨ele_rm hi, by omega, by omega⟩
 have hkey : ∀ i j : Nat, i < l.body.length → j < l.body.length → i < j → keyK l (straV l t pace) i ≠ keyK l (straV l t pace) j := fun i j hi hj hij hh => by
  have h1 := hat i hi; have h2 := hat j hj
  unfold keyK at hh
  have h3 := (Prod.mk.inj hh).1
  rw [h1.1, h2.1, show (straV l t pace).pace = pace from rfl, Int.tmod_eq_of_lt h1.2.1 h1.2.2, Int.tmod_eq_of_lt h2.2.1 h2.2.2] at h3
  have := preW_mono (l := l) ht (show i ≤ j by omega)
  omega
 refine ⟨hl, ht, ⟨by show 1 ≤ pace; omega, hp2⟩, by unfold straV; simp, fun i hi => ?_, fun i hi => ?_, fun e he => ?_⟩
 ·have h1 := hat i hi
  have hb := preW_bd (l := l) ht i
  have hn := hl.2.2.1
  unfold RngP
  rw [h1.1]
  omega
 ·have h1 := cntK_one (l := l) (p := straV l t pace) (n := l.body.length) (fun i j hi hj hij hh => by
   rcases Nat.lt_or_gt_of_ne hij with h | h
   ·exact hkey i j hi hj h hh
   ·exact hkey j i hj hi h hh.symm) (keyK l (straV l t pace) i) l.body.length (Nat.le_refl _)
  have h2 := units_bd ht (keyK l (straV l t pace) i).2
  omega
 ·have hin := he.in hl
  have hf := hin.fr; have htt := hin.to
  have h1 := straight_edge hl ht hp he
  unfold EdgOk
  have e1 := (hat e.fr.toNat (by omega)).1
  have e2 := (hat e.to.toNat (by omega)).1
  rw [show ((e.fr.toNat : Nat) : Int) = e.fr from by omega] at e1
  rw [show ((e.to.toNat : Nat) : Int) = e.to from by omega] at e2
  rw [e1, e2, show (straV l t pace).pace = pace from rfl, Int.mul_comm]
  omega
theorem ele_snoc {α : Type} [Inhabited α] {v : List α} {x : α} {j : Nat} (h : j < v.length) : ele (v ++ [x]) (j : Int) = ele v (j : Int) := by
 rw [ele_nat, ele_nat, List.getD_eq_getElem?_getD, List.getD_eq_getElem?_getD, List.getElem?_append_left h]
theorem ele_last {α : Type} [Inhabited α] {v : List α} {x : α} : ele (v ++ [x]) (v.length : Int) = x := by
 rw [ele_nat, List.getD_eq_getElem?_getD]; simp
theorem keyK_snoc {l : Lp} {pace : Int} {v : List Int} {x : Int} {j : Nat} (h : j < v.length) : keyK l ⟨pace, v ++ [x]⟩ j = keyK l ⟨pace, v⟩ j := by
 unfold keyK; rw [show (Pln.mk pace (v ++ [x])).times = v ++ [x] from rfl, ele_snoc h]
theorem cntK_snoc {l : Lp} {pace : Int} {v : List Int} {x : Int} (κ : Int × Int) : ∀ k : Nat, k ≤ v.length → cntK l ⟨pace, v ++ [x]⟩ k κ = cntK l ⟨pace, v⟩ k κ
 | 0, _ => rfl
 | k + 1, h => by rw [cntK_succ, cntK_succ, cntK_snoc κ k (by omega), keyK_snoc (by omega)]
theorem slot_free {l : Lp} {t : Tgt} (hl : LoopOk l) (ht : tgtOk t = true) {pace : Nat} (hp : 1 ≤ pace) (hu : uB l t 3 ≤ pace) {v : List Int} {k : Nat} (hv : v.length = k) (hk : k < l.body.length) (hpos : ∀ j : Nat, j < k → 0 ≤ ele v (j : Int)) (s : Nat) :
    ∃ m : Nat, s ≤ m ∧ m < s + pace ∧ ¬ ((cntK l ⟨pace, v⟩ k (Int.tmod (m : Int) pace, clsV (ele l.body (k : Int)).op) : Int) ≥ unitsV t (clsV (ele l.body (k : Int)).op)) := by
  have hc := clsV_range (ele l.body (k : Int)).op
  generalize hcc : clsV (ele l.body (k : Int)).op = c at *
  have hub := units_bd ht c
  have hn := hl.2.2.1
  have h1 : cdV (cntC l l.body.length c) (unitsV t c) ≤ pace := by
    have a0 : uB l t 3 = max (max (max 1 (cdV (cntC l l.body.length (0 : Nat)) (unitsV t (0 : Nat)))) (cdV (cntC l l.body.length (1 : Nat)) (unitsV t (1 : Nat)))) (cdV (cntC l l.body.length (2 : Nat)) (unitsV t (2 : Nat))) := rfl
    obtain h | h | h : c = ((0 : Nat) : Int) ∨ c = ((1 : Nat) : Int) ∨ c = ((2 : Nat) : Int) := by omega
    all_goals rw [h]; omega
  rw [cdV_le (by omega) hub.1 hub.2] at h1
  have h2 : cntC l k c + 1 ≤ cntC l l.body.length c := by
    have e1 : cntC l (k + 1) c = cntC l k c + 1 := by rw [cntC_succ, if_pos hcc]
    have mono : ∀ a b, a ≤ b → cntC l a c ≤ cntC l b c := fun a b hab => by
      induction b with
      | zero => have : a = 0 := by omega
                subst this; exact Nat.le_refl _
      | succ b ih =>
        by_cases e : a = b + 1
        · subst e; exact Nat.le_refl _
        · rw [cntC_succ]; have := ih (by omega); omega
    have := mono (k + 1) l.body.length (by omega)
    omega
  obtain ⟨u, hu'⟩ := Int.eq_ofNat_of_zero_le (show 0 ≤ unitsV t c by omega)
  have hsum := slots_sum (l := l) (p := ⟨pace, v⟩) (P := pace) rfl hp c k hpos
  by_cases hall : ∀ s, s < pace → u ≤ cntK l ⟨pace, v⟩ k ((s : Int), c)
  · exfalso
    have hge : ∀ (g : Nat → Nat) n, (∀ s, s < n → u ≤ g s) → n * u ≤ sumR g n := fun g n => by
      induction n with
      | zero => intro _; show 0 * u ≤ 0; omega
      | succ n ih =>
        intro h
        have := ih fun s hs => h s (by omega)
        have h3 := h n (by omega)
        show (n + 1) * u ≤ sumR g n + g n
        rw [Nat.succ_mul]; omega
    have := hge _ pace hall
    rw [hsum] at this
    rw [hu'] at h1
    have h4 : (cntC l l.body.length c) ≤ pace * u := by exact_mod_cast h1
    omega
  · obtain ⟨s0, hs0⟩ := Classical.not_forall.1 hall
    obtain ⟨hs1, hs2⟩ := Classical.not_imp.1 hs0
    have hm0 := Int.emod_nonneg ((s0 : Int) - s) (show (pace : Int) ≠ 0 by omega)
    have hm1 := Int.emod_lt_of_pos ((s0 : Int) - s) (show (0 : Int) < pace by omega)
    have hm2 : ((s : Int) + ((s0 : Int) - s) % pace) % pace = s0 := by
      rw [Int.add_emod_emod, show (s : Int) + ((s0 : Int) - s) = s0 from by omega, Int.emod_eq_of_lt (by omega) (by omega)]
    obtain ⟨d, hd⟩ := Int.eq_ofNat_of_zero_le hm0
    refine ⟨s + d, by omega, by omega, ?_⟩
    rw [Int.tmod_eq_emod_of_nonneg (by omega), show (((s + d : Nat) : Nat) : Int) = (s : Int) + ((s0 : Int) - s) % pace from by omega, hm2, hu']
    omega
theorem early_s {l : Lp} {t : Tgt} (hl : LoopOk l) (ht : tgtOk t = true) {E : List Edg} (hE : ∀ e ∈ E, EdgeIn l.body.length e) (hEl : E.length ≤ 60000) {pace : Nat} (hp : 1 ≤ pace) (hp2 : pace ≤ 200) (hu : uB l t 3 ≤ pace) :
  ∃ v, sched_early_m l t pace E = some ⟨pace, v⟩ ∧ v.length = l.body.length := by
 have hn := hl.2.2.1
 have X := lp_invM (ρ := Empty) (f := sched_early_L0 l t pace E) (n := l.body.length) (fun (g : List Int × List ((Int × Int) × Int)) i => (g.1, g.2, i))
  (fun k g => g.1.length = k ∧ (∀ j : Nat, j < k → 0 ≤ ele g.1 (j : Int) ∧ ele g.1 (j : Int) ≤ 206 * k) ∧ ∀ κ, mget g.2 κ 0 = (cntK l ⟨pace, g.1⟩ k κ : Int)) (fun k g hk hg => ?_) (fun g => by
   unfold sched_early_L0; exact br_F (by unfold ln; omega)) ([], []) ⟨rfl, fun j hj => absurd hj (Nat.not_lt_zero _), fun κ => rfl⟩
 ·obtain ⟨g, e, h1, _⟩ := X
  unfold sched_early_m
  rw [show lp (sched_early_L0 l t pace E) ([], [], 0) = _ from e, bd_ret, Out.on_go]
  exact ⟨_, rfl, h1⟩
 ·obtain ⟨v, m⟩ := g
  obtain ⟨h1, h2, h3⟩ := hg
  simp only at h1 h2 h3
  have hc := clsV_range (ele l.body (k : Int)).op
  have Y := lp_inv (f := sched_early_L2 pace E v k) (ρ := Empty) (n := E.length) (fun _ g => 0 ≤ g ∧ g ≤ 206 * (k : Int) + 6) (fun i g hi hg => by
   have hin := hE _ (ele_mem' hi)
   have hw := wt_bd hin (pace := pace) (by omega)
   have hw2 := hin.wt
   unfold sched_early_L2
   simp only
   rw [br_T (by unfold ln; omega), ck_IX (by omega) (by unfold ln; omega)]
   by_cases hq : (ele E (i : Int)).to = k ∧ (ele E (i : Int)).fr < k
   ·have hfr := hin.fr
    have hv := h2 (ele E (i : Int)).fr.toNat (by omega)
    rw [show (((ele E (i : Int)).fr.toNat : Nat) : Int) = (ele E (i : Int)).fr from by omega] at hv
    rw [show ((ele E (i : Int)).to == (k : Int) && decide ((ele E (i : Int)).fr < (k : Int))) = true from by simp [hq], br_true, ck_IX (by omega) (by unfold ln; omega), ck_IR (by omega) (by omega), ck_IR (by omega) (by omega), ck_IR (by omega) (by omega), ck_IR (by omega) (by omega)]
    exact ⟨_, rfl, by omega⟩
   ·rw [show ((ele E (i : Int)).to == (k : Int) && decide ((ele E (i : Int)).fr < (k : Int))) = false from by
     rw [Bool.and_eq_false_iff, beq_eq_false_iff_ne, decide_eq_false_iff_not]; omega, br_false, ck_IR (by omega) (by omega)]
    exact ⟨_, rfl, hg⟩) (fun g => by unfold sched_early_L2; exact br_F (by unfold ln; omega)) 0 (by omega)
  obtain ⟨tm, e1, e2⟩ := Y
  obtain ⟨s, rfl⟩ := Int.eq_ofNat_of_zero_le e2.1
  obtain ⟨m0, f1, f2, f3⟩ := slot_free hl ht hp hu h1 hk (fun j hj => (h2 j hj).1) s
  obtain ⟨x, g1, g2, g3, g4, g5⟩ := lp_first (f := sched_early_L4 t pace m (clsV (ele l.body (k : Int)).op)) (ρ := Empty) (m := m0) (lo := 0) (p := fun i => ¬ ((cntK l ⟨pace, v⟩ k (Int.tmod (i : Int) pace, clsV (ele l.body (k : Int)).op) : Int) ≥ unitsV t (clsV (ele l.body (k : Int)).op))) (fun i _ hi => by
   unfold sched_early_L4
   rw [ck_yes (by omega), ck_IX hc.1 hc.2, h3]
   exact ⟨fun h => br_F h, fun h => by rw [show sel3 t.u0 t.u1 t.u2 (clsV (ele l.body (k : Int)).op) = unitsV t (clsV (ele l.body (k : Int)).op) from rfl, br_T (Classical.not_not.1 h), ck_IR (by omega) (by omega)]⟩) f3 (m0 - s) s (by omega) (by omega)
  have hcl := cntK_le l ⟨pace, v⟩ (Int.tmod (x : Int) pace, clsV (ele l.body (k : Int)).op) k
  have hkey : keyK l ⟨pace, v ++ [(x : Int)]⟩ k = (Int.tmod (x : Int) pace, clsV (ele l.body (k : Int)).op) := by
   unfold keyK
   rw [show (Pln.mk (pace : Int) (v ++ [(x : Int)])).times = v ++ [(x : Int)] from rfl, ← h1, ele_last]
  unfold sched_early_L0
  simp only
  rw [br_T (by unfold ln; omega), ck_IX (by omega) (by unfold ln; omega), e1, bd_ret, Out.on_go]
  simp only
  rw [num_Class_s, bd_ret, g5, bd_ret, Out.on_go, ck_yes (by omega), h3, ck_IR (by omega) (by omega), ck_yes (AL8 (by simp; omega)), ck_IR (by omega) (by omega)]
  refine ⟨(v ++ [(x : Int)], _), rfl, by simp [h1], fun j hj => ?_, fun κ => ?_⟩
  ·by_cases e : j = k
   ·subst e
    show 0 ≤ ele (v ++ [(x : Int)]) (j : Int) ∧ _
    rw [show ele (v ++ [(x : Int)]) (j : Int) = x from by rw [← h1]; exact ele_last]
    omega
   ·have := h2 j (by omega)
    show 0 ≤ ele (v ++ [(x : Int)]) (j : Int) ∧ _
    rw [ele_snoc (by omega)]
    omega
  ·show mget (mput _ _ _) κ 0 = (cntK l ⟨pace, v ++ [(x : Int)]⟩ (k + 1) κ : Int)
   rw [mget_mput, cntK_succ, hkey, cntK_snoc κ k (by omega)]
   by_cases e : (Int.tmod (x : Int) pace, clsV (ele l.body (k : Int)).op) = κ
   ·rw [if_pos e, if_pos e, e]; rfl
   ·rw [if_neg e, if_neg e, h3]; rfl
theorem Make_s {l : Lp} (hf : l.Fine) (hl : LoopOk l) {t : Tgt} (ht : tgtOk t = true) {least : Int} (h1 : 1 ≤ least) (h2 : least ≤ 200) : ∃ p, sched_Make_m l t least = some (p, 0) ∧ LegalP l t p ∧ least ≤ p.pace ∧ p.pace ≤ max least (allW l t) := by
 obtain ⟨E, e1, e2, e3, e4, e5⟩ := edges_both hl hf ht
 obtain ⟨L, b1, b2, b3, b4, b5⟩ := Bound_s hl ht e1 e4 e5
 have hn := hl.2.2.1
 have hu := uB_bd (l := l) hn ht 3
 have ha := allW_bd hl ht
 have hin : ∀ e ∈ E, EdgeIn l.body.length e := fun e he => ((e4 e).1 he).in hl
 unfold sched_Make_m
 rw [e1, bd_ret, show (((E, (0 : Int)) : List Edg × Int).2 != 0) = false from rfl, br_false, show (decide (least < 1) || decide (least > 200)) = false from by simp; omega, br_false, b5, bd_ret, straight_s hl ht, bd_ret]
 obtain ⟨M, hM⟩ := Int.eq_ofNat_of_zero_le (show 0 ≤ max (max least (uB l t 3)) (L : Int) by omega)
 obtain ⟨B, hB⟩ := Int.eq_ofNat_of_zero_le (show 0 ≤ max (least + 1) (allW l t) by omega)
 have hstep : ∀ i : Nat, M ≤ i → (i : Int) < max (least + 1) (allW l t) → ∃ v : List Int, sched_early_m l t (i : Int) E = some ⟨i, v⟩ ∧ v.length = l.body.length ∧ sched_fits_m l t ⟨i, v⟩ E = some (tb (FitP l t ⟨i, v⟩)) := fun i hi hb => by
  obtain ⟨v, c1, c2⟩ := early_s hl ht hin e5 (pace := i) (by omega) (by omega) (by omega)
  exact ⟨v, c1, c2, fits_s hl ht ⟨by show (1 : Int) ≤ i; omega, by show (i : Int) ≤ 200; omega⟩ c2 e4 e5⟩
 simp only
 rw [hM]
 rcases lp_scan (f := sched_Make_L1 l t least (E, 0) (straV l t 1, allW l t)) (n := max M B) (p := fun i => ¬ FitP l t ((sched_early_m l t (i : Int) E).getD default)) (fun i => ((sched_early_m l t (i : Int) E).getD default, (0 : Int))) (max M B - M) M (by omega) (fun i hi hb => by
   obtain ⟨v, c1, c2, c3⟩ := hstep i hi (by omega)
   unfold sched_Make_L1
   rw [ck_IR (by omega) (by omega), br_T (by simp only; omega)]
   simp only
   rw [c1, bd_ret, c3, bd_ret]
   exact ⟨fun h => by rw [tb_f (p := FitP l t ⟨i, v⟩) h, br_false, ck_IR (by omega) (by omega)], fun h => by rw [tb_t (p := FitP l t ⟨i, v⟩) (Classical.not_not.1 h), br_true]; rfl⟩) (by
   unfold sched_Make_L1
   rw [ck_IR (by omega) (by omega), br_F (by simp only; omega)]) with ⟨q1, q2⟩ | ⟨i, q1, q2, q3, _, q4⟩
 ·rw [q2, bd_ret, Out.on_go]
  rw [straight_s hl ht, bd_ret]
  exact ⟨_, rfl, straight_legal hl ht (by omega) (by omega), by show least ≤ max least _; omega, Int.le_refl _⟩
 ·rw [q4, bd_ret, Out.on_ret]
  obtain ⟨v, c1, c2, c3⟩ := hstep i q1 (by omega)
  refine ⟨_, rfl, ?_⟩
  have q5 := Classical.not_not.1 q3
  rw [c1] at q5 ⊢
  simp only [Option.getD_some] at q5 ⊢
  exact ⟨legal_iff.2 ⟨⟨hl, ht⟩, ⟨by show (1 : Int) ≤ i; omega, by show (i : Int) ≤ 200; omega⟩, c2, q5⟩, by show least ≤ (i : Int); omega, by show (i : Int) ≤ _; omega⟩
noncomputable def build_try_L0 (l : Lp) : ((List Int) × Int) → Option (Stp ((List Int) × Int) (Empty)) := fun (v17_1, x35_1) =>
 br (decide (x35_1 < (ln l.body))) (
 ck (AL (v17_1 ++ [x35_1]).length 8) <|
 ck (IR (x35_1 + 1)) <|
 some (.next ((v17_1 ++ [x35_1]), (x35_1 + 1)))) (
 some (.brk (v17_1, x35_1)))
noncomputable def build_try_m (l : Lp) (t : Tgt) (p : Pln) : Option (Krn × List Int × Bool) :=
 bd (regs_Make_m l t p) fun x5 =>
 br (x5.2 != 0) (
 some ((Krn.mk 0 0 []), [], false)) (
 bd (emit_Emit_m l t p x5.1) fun x12 =>
 bd (lp (build_try_L0 l) ([], 0)) fun o18 => o18.on (fun (v17_1, x35_1) =>
 bdG (x12.2 == 0) (check_Takes_m l t x12.1 v17_1) fun x23 =>
 some (x12.1, v17_1, ((x12.2 == 0) && x23))) (fun r => r.elim))
noncomputable def build_straight_L0 (l : Lp) (t : Tgt) : ((List Int) × Int × Int) → Option (Stp ((List Int) × Int × Int) (Empty)) := fun (v5_1, b4c0_1, x11_1) =>
 br (decide (x11_1 < (ln l.body))) (
 ck (IX x11_1 (ln l.body)) <|
 ck (AL (v5_1 ++ [b4c0_1]).length 8) <|
 bd (target_Wait_m t ((ele l.body x11_1).op)) fun x23 =>
 ck (IR (b4c0_1 + x23)) <|
 ck (IR (x11_1 + 1)) <|
 some (.next ((v5_1 ++ [b4c0_1]), (b4c0_1 + x23), (x11_1 + 1)))) (
 some (.brk (v5_1, b4c0_1, x11_1)))
noncomputable def build_straight_m (l : Lp) (t : Tgt) : Option (Pln) :=
 bd (lp (build_straight_L0 l t) ([], 0, 0)) fun o6 => o6.on (fun (v5_1, b4c0_1, x11_1) =>
 some (Pln.mk b4c0_1 v5_1)) (fun r => r.elim)
noncomputable def build_Build_L0 (l : Lp) (t : Tgt) (x13 : Pln) : Int → Option (Stp (Int) (Krn × List Int × Int)) := fun least8_1 =>
 br (decide (least8_1 ≤ x13.pace)) (
 bd (sched_Make_m l t least8_1) fun x25 =>
 bd (build_try_m l t x25.1) fun x30 =>
 br x30.2.2 (
 some (.ret (x30.1, x30.2.1, 0))) (
 ck (IR (x25.1.pace + 1)) <|
 ck (IR (x25.1.pace * 5)) <|
 ck (IR (Int.tdiv (x25.1.pace * 5) 4)) <|
 some (.next (max (x25.1.pace + 1) (Int.tdiv (x25.1.pace * 5) 4))))) (
 some (.brk least8_1))
noncomputable def build_Build_m (l : Lp) (t : Tgt) : Option (Krn × List Int × Int) :=
 bd (loop_May_m l) fun x4 =>
 bdG (!(!x4)) (target_May_m t) fun x7 =>
 br ((!x4) || (!x7)) (
 some ((Krn.mk 0 0 []), [], 2)) (
 bd (build_straight_m l t) fun x13 =>
 bd (lp (build_Build_L0 l t x13) 1) fun o18 => o18.on (fun least8_1 =>
 bd (build_try_m l t x13) fun x23 =>
 br x23.2.2 (
 some (x23.1, x23.2.1, 0)) (
 some ((Krn.mk 0 0 []), [], 1))) (fun r => some r))
theorem bstraight_s {l : Lp} (hl : LoopOk l) {t : Tgt} (ht : tgtOk t = true) : build_straight_m l t = some (straV l t (allW l t)) := by
 have hn := hl.2.2.1
 have := lp_det (f := build_straight_L0 l t) (ρ := Empty) (fun k => ((List.range k).map (preW l t), preW l t k, (k : Int))) l.body.length (fun k hk => by
  have hb := preW_bd (l := l) ht k
  have hw := wait_pos ht (ele l.body (k : Int)).op
  unfold build_straight_L0
  simp only
  rw [br_T (by unfold ln; omega), ck_IX (by omega) (by unfold ln; omega), ck_yes (AL8 (by simp; omega)), target_Wait_s, bd_ret, ck_IR (by omega) (by omega), ck_IR (by omega) (by omega), rm_succ (g := preW l t)]
  rfl) (by unfold build_straight_L0; exact br_F (by unfold ln; omega))
 unfold build_straight_m
 rw [show lp (build_straight_L0 l t) ([], 0, 0) = _ from this, bd_ret, Out.on_go]
 rfl
theorem try_s {l : Lp} (hf : l.Fine) {t : Tgt} {p : Pln} (h : LegalP l t p) :
  (∃ v, build_try_m l t p = some (krnN l t p v, natL l.body.length, true) ∧ TakesP l t (krnN l t p v) (natL l.body.length)) ∨
  (build_try_m l t p = some (⟨0, 0, []⟩, [], false) ∧ ¬ ∀ k, k < l.body.length → FineP ((layP l t p).wp (spV l.body.length)) k) := by
 have hn := h.loop.2.2.1
 unfold build_try_m
 rcases regsMake_s hf h with ⟨v, h1, h2, h3⟩ | ⟨h1, h2⟩
 ·refine .inl ⟨v, ?_, krn_takes h h1 h2⟩
  have hE := emit_ok h (v := v)
  have hkf : KFine l (krnN l t p v) := krnN_fine hf
  have X := lp_det (f := build_try_L0 l) (ρ := Empty) (fun i => (natL i, (i : Int))) l.body.length (fun i hi => by
   unfold build_try_L0
   simp only
   rw [br_T (by unfold ln; omega), ck_yes (AL8 (by rw [List.length_append, natL_len]; simp; omega)), ck_IR (by omega) (by omega), show natL i ++ [(i : Int)] = natL (i + 1) from rm_succ (g := fun i : Nat => (i : Int))]
   rfl) (by unfold build_try_L0; exact br_F (by unfold ln; omega))
  rw [h3, bd_ret, show (((destV t p l.body.length v, (0 : Int)) : List Int × Int).2 != 0) = false from rfl, br_false, Emit_s hf t p (by unfold destV; simp; omega), tb_t hE, if_pos rfl, bd_ret,
   show lp (build_try_L0 l) ([], 0) = _ from X, bd_ret, Out.on_go]
  simp only [beq_self_eq_true, bdG_t, Bool.true_and]
  rw [show krnV l t p (destV t p l.body.length v) = krnN l t p v from rfl, pTakes2_s hf hkf (by rw [natL_len]; omega), bd_ret, tb_t (krn_takes h h1 h2)]
 ·refine .inr ⟨?_, h2⟩
  rw [h1, bd_ret]
  rfl
theorem straight_over {l : Lp} {t : Tgt} (ht : tgtOk t = true) : OverP l t (straV l t (allW l t)) := fun i hi => by
 rw [show ele (straV l t (allW l t)).times (i : Int) = preW l t i from ele_rm hi]
 have h2 := preW_mono (l := l) ht (show i + 1 ≤ l.body.length by omega)
 have e : preW l t (i + 1) = preW l t i + waitV t (ele l.body (i : Int)).op := rfl
 show _ ≤ allW l t
 unfold allW
 omega
def Built (l : Lp) (t : Tgt) (p : Pln) (v : List Int) : Prop := LegalP l t p ∧ p.pace ≤ allW l t ∧ TakesP l t (krnN l t p v) (natL l.body.length)
theorem Build_s {l : Lp} (hf : l.Fine) (hl : LoopOk l) {t : Tgt} (ht : tgtOk t = true) :
  (∃ p v, build_Build_m l t = some (krnN l t p v, natL l.body.length, 0) ∧ Built l t p v) ∨ (build_Build_m l t = some (⟨0, 0, []⟩, [], 1) ∧ t.regs < 5 * (l.body.length : Int)) := by
 have hab := allW_bd hl ht
 have hleg := straight_legal hl ht (Int.le_refl (allW l t)) (by omega)
 unfold build_Build_m
 rw [May_s l hf, bd_ret, target_May_s, tb_t hl, ht]
 simp only [Bool.not_true, Bool.not_false, bdG_t, bd_ret, Bool.or_self, br_false]
 rw [bstraight_s hl ht, bd_ret]
 obtain ⟨o, e, hQ⟩ := lp_rule (f := build_Build_L0 l t (straV l t (allW l t))) (fun g => 1 ≤ g) (fun g => (allW l t + 1 - g).toNat) (fun o => match o with
   | .go _ => True
   | .ret r => ∃ p v, r = (krnN l t p v, natL l.body.length, (0 : Int)) ∧ Built l t p v) (fun g hg => by
   unfold build_Build_L0
   show ∃ s, br (decide (g ≤ allW l t)) _ _ = some s ∧ _
   by_cases c : g ≤ allW l t
   ·rw [br_T c]
    obtain ⟨p, h1, h2, h3, h4⟩ := Make_s hf hl ht hg (by omega)
    have hp := h2.pace
    rw [h1, bd_ret]
    rcases try_s hf h2 with ⟨v, q1, q2⟩ | ⟨q1, _⟩
    ·refine ⟨_, by simp only; rw [q1, bd_ret]; rfl, ?_⟩
     exact ⟨p, v, rfl, h2, by omega, q2⟩
    ·refine ⟨_, by simp only; rw [q1, bd_ret]; simp only; rw [br_false, ck_IR (by omega) (by omega), ck_IR (by omega) (by omega), ck_IR (by have := Int.tdiv_eq_ediv_of_nonneg (show 0 ≤ p.pace * 5 by omega) (b := 4); omega) (by have := Int.tdiv_eq_ediv_of_nonneg (show 0 ≤ p.pace * 5 by omega) (b := 4); omega)], ?_⟩
     simp only
     omega
   ·rw [br_F c]
    exact ⟨_, rfl, trivial⟩) 1 (by omega)
 rw [e, bd_ret]
 cases o with
 | ret r =>
  obtain ⟨p, v, rfl, hb⟩ := hQ
  exact .inl ⟨p, v, rfl, hb⟩
 | go g =>
  rw [Out.on_go]
  rcases try_s hf hleg with ⟨v, q1, q2⟩ | ⟨q1, q2⟩
  ·refine .inl ⟨_, v, by rw [q1, bd_ret]; rfl, hleg, Int.le_refl _, q2⟩
  ·refine .inr ⟨by rw [q1, bd_ret]; rfl, ?_⟩
   by_cases c : t.regs < 5 * (l.body.length : Int)
   ·exact c
   ·exact absurd (spaced_fine hleg (by omega) (straight_over ht)) q2
end Go.Rd
end
section
namespace Go.Rd
structure Pipe where
 (n N : Nat)
 (pace regs : Int)
 (T R P : Nat → Int)
 (val : Nat → Nat → Int)
namespace Pipe
def cyc (y : Pipe) (m σ : Nat) : Int := y.T m + σ * y.pace
def due (y : Pipe) (m σ : Nat) : Int := y.R m + σ * y.pace
def reg (y : Pipe) (m σ : Nat) : Int := (y.P m + σ) % y.regs
def In (y : Pipe) (m σ : Nat) : Prop := m < y.n ∧ σ < y.N
def ent (y : Pipe) (m σ : Nat) : Due := ⟨y.due m σ, y.reg m σ, y.val σ m⟩
structure Regs (y : Pipe) (r0 r : List Int) (c : Int) : Prop where
 len : (r.length : Int) = y.regs
 put : ∀ m σ, y.In m σ → y.due m σ ≤ c → (∀ m' σ', y.In m' σ' → y.due m σ ≤ y.due m' σ' → y.due m' σ' ≤ c → y.reg m' σ' = y.reg m σ → m' = m ∧ σ' = σ) → ele r (y.reg m σ) = y.val σ m
 old : ∀ x : Int, 0 ≤ x → x < y.regs → (∀ m σ, y.In m σ → y.due m σ ≤ c → y.reg m σ ≠ x) → ele r x = ele r0 x
structure Dues (y : Pipe) (D : Nat → Nat → Prop) (c : Int) (q : List Due) : Prop where
 src : ∀ d ∈ q, ∃ m σ, y.In m σ ∧ D m σ ∧ c ≤ y.due m σ ∧ d = y.ent m σ
 all : ∀ m σ, y.In m σ → D m σ → c ≤ y.due m σ → y.ent m σ ∈ q
theorem Dues.congr {y : Pipe} {D D' : Nat → Nat → Prop} {c : Int} {q : List Due} (h : y.Dues D c q) (e : ∀ m σ, y.In m σ → (D m σ ↔ D' m σ)) : y.Dues D' c q :=
 ⟨fun d hd => by obtain ⟨m, σ, a, b, x⟩ := h.src d hd; exact ⟨m, σ, a, (e m σ a).1 b, x⟩, fun m σ a b x => h.all m σ a ((e m σ a).2 b) x⟩
theorem Dues.add {y : Pipe} {D : Nat → Nat → Prop} {c : Int} {q : List Due} (h : y.Dues D c q) {m0 σ0 : Nat} (hi : y.In m0 σ0) (hc : c ≤ y.due m0 σ0) : y.Dues (fun m σ => D m σ ∨ (m = m0 ∧ σ = σ0)) c (q ++ [y.ent m0 σ0]) :=
  ⟨fun d hd => by
    rcases List.mem_append.1 hd with hd | hd
    · obtain ⟨m, σ, a, b, x⟩ := h.src d hd; exact ⟨m, σ, a, .inl b, x⟩
    · exact ⟨m0, σ0, hi, .inr ⟨rfl, rfl⟩, hc, List.mem_singleton.1 hd⟩,
   fun m σ a b x => by
    rcases b with b | ⟨rfl, rfl⟩
    · exact List.mem_append.2 (.inl (h.all m σ a b x))
    · exact List.mem_append.2 (.inr (List.mem_singleton.2 rfl))⟩
def land1 (c : Int) (r : List Int) (d : Due) : List Int := if d.due = c then upd r d.reg d.v else r
theorem land_len (c : Int) : ∀ (q : List Due) (r : List Int), (q.foldl (land1 c) r).length = r.length
 | [], r => rfl
 | d :: q, r => by
  rw [List.foldl_cons, land_len c q]
  unfold land1
  split
  ·exact upd_length
  ·rfl
theorem land_old (c : Int) {x : Int} (hx : 0 ≤ x) : ∀ (q : List Due) (r : List Int), (∀ d ∈ q, 0 ≤ d.reg) → (∀ d ∈ q, d.due = c → d.reg ≠ x) → ele (q.foldl (land1 c) r) x = ele r x
 | [], r, _, _ => rfl
 | d :: q, r, h0, h => by
  rw [List.foldl_cons, land_old c hx q _ (fun d hd => h0 d (List.mem_cons_of_mem _ hd)) fun d hd => h d (List.mem_cons_of_mem _ hd)]
  unfold land1
  split
  ·have := h d (List.mem_cons_self ..) ‹_›
   have := h0 d (List.mem_cons_self ..)
   exact ele_upd_ne (by omega)
  ·rfl
theorem land_put (c : Int) {x v : Int} (hx : 0 ≤ x) : ∀ (q : List Due) (r : List Int), x < r.length → (∀ d ∈ q, 0 ≤ d.reg) → (∃ d ∈ q, d.due = c ∧ d.reg = x) → (∀ d ∈ q, d.due = c → d.reg = x → d.v = v) → ele (q.foldl (land1 c) r) x = v
 | [], r, _, _, h, _ => by obtain ⟨d, h, _⟩ := h; cases h
 | d :: q, r, hl, h0, he, h => by
  rw [List.foldl_cons]
  by_cases hq : ∃ d ∈ q, d.due = c ∧ d.reg = x
  ·exact land_put c hx q _ (by unfold land1; split <;> simp only [upd_length, hl]) (fun d hd => h0 d (List.mem_cons_of_mem _ hd)) hq fun d hd => h d (List.mem_cons_of_mem _ hd)
  ·rw [land_old c hx q _ (fun d hd => h0 d (List.mem_cons_of_mem _ hd)) fun d hd h1 h2 => hq ⟨d, hd, h1, h2⟩]
   obtain ⟨d', hd', h1, h2⟩ := he
   rcases List.mem_cons.1 hd' with rfl | hd'
   ·have := h d' (List.mem_cons_self ..) h1 h2
    unfold land1
    rw [if_pos h1, h2, ele_upd ⟨hx, by unfold ln; omega⟩, this]
   ·exact absurd ⟨d', hd', h1, h2⟩ hq
structure Ok (y : Pipe) : Prop where
 regs : 1 ≤ y.regs
 pace : 1 ≤ y.pace
 wait : ∀ m, m < y.n → y.T m < y.R m
theorem reg_bd {y : Pipe} (h : y.Ok) (m σ : Nat) : 0 ≤ y.reg m σ ∧ y.reg m σ < y.regs := ⟨Int.emod_nonneg _ (by have := h.regs; omega), Int.emod_lt_of_pos _ (by have := h.regs; omega)⟩
theorem cyc_due {y : Pipe} (h : y.Ok) {m σ : Nat} (hi : y.In m σ) : y.cyc m σ < y.due m σ := by
 have := h.wait m hi.1
 unfold cyc due; omega
theorem Regs.land {y : Pipe} (h : y.Ok) {r0 r : List Int} {c : Int} (hr : y.Regs r0 r (c - 1)) {q : List Due} (hq : y.Dues (fun m σ => y.cyc m σ < c) c q) : y.Regs r0 (q.foldl (land1 c) r) c := by
 have h0 : ∀ d ∈ q, 0 ≤ d.reg := fun d hd => by
  obtain ⟨m, σ, _, _, _, rfl⟩ := hq.src d hd
  exact (reg_bd h m σ).1
 have hrl := hr.len
 refine ⟨by rw [land_len]; exact hr.len, fun m σ hi hd hu => ?_, fun x hx hx2 hu => ?_⟩
 ·have hb := reg_bd h m σ
  by_cases hc : y.due m σ = c
  ·refine land_put c hb.1 q r (by omega) h0 ⟨_, hq.all m σ hi (by have := cyc_due h hi; omega) (by omega), hc, rfl⟩ fun d hdq h1 h2 => ?_
   obtain ⟨m', σ', hi', _, hc', rfl⟩ := hq.src d hdq
   have h1' : y.due m' σ' = c := h1
   obtain ⟨rfl, rfl⟩ := hu m' σ' hi' (by omega) (by omega) h2
   rfl
  ·rw [land_old c hb.1 q r h0 fun d hdq h1 h2 => ?_]
   ·exact hr.put m σ hi (by omega) fun m' σ' hi' a b e => hu m' σ' hi' a (by omega) e
   ·obtain ⟨m', σ', hi', _, hc', rfl⟩ := hq.src d hdq
    have h1' : y.due m' σ' = c := h1
    obtain ⟨rfl, rfl⟩ := hu m' σ' hi' (by omega) (by omega) h2
    exact hc h1'
 ·rw [land_old c hx q r h0 fun d hdq h1 h2 => ?_]
  ·exact hr.old x hx hx2 fun m σ hi hd => hu m σ hi (by omega)
  ·obtain ⟨m', σ', hi', _, hc', rfl⟩ := hq.src d hdq
   have h1' : y.due m' σ' = c := h1
   exact hu m' σ' hi' (by omega) h2
theorem Dues.left {y : Pipe} {D : Nat → Nat → Prop} {c : Int} {q : List Due} (hq : y.Dues D c q) : y.Dues D (c + 1) (q.filter fun d => decide (d.due ≠ c)) :=
  ⟨fun d hd => by
    obtain ⟨h1, h2⟩ := List.mem_filter.1 hd
    obtain ⟨m, σ, hi, hD, hc, rfl⟩ := hq.src d h1
    have h2' : y.due m σ ≠ c := of_decide_eq_true h2
    exact ⟨m, σ, hi, hD, by omega, rfl⟩,
   fun m σ hi hD hc => List.mem_filter.2 ⟨hq.all m σ hi hD (by omega), by
    have : y.due m σ ≠ c := by omega
    exact decide_eq_true this⟩⟩
end Pipe
def lexL (m σ m' σ' : Nat) : Prop := σ < σ' ∨ (σ = σ' ∧ m < m')
theorem lex_tri {m σ m' σ' : Nat} (h1 : ¬ lexL m σ m' σ') (h2 : ¬ lexL m' σ' m σ) : m = m' ∧ σ = σ' := by unfold lexL at *; omega
def wd (M : List (List Int)) (a x : Nat) : Int := ele (ele M (a : Int)) (x : Int)
def Words (hits : Nat → Nat → Nat → Nat → Prop) (val : Nat → Nat → Int) (D : Nat → Nat → Prop) (M0 M : List (List Int)) : Prop :=
 ∀ a x, (∃ m σ, D m σ ∧ hits m σ a x ∧ (∀ m' σ', D m' σ' → hits m' σ' a x → ¬ lexL m σ m' σ') ∧ wd M a x = val σ m) ∨ ((∀ m σ, D m σ → ¬ hits m σ a x) ∧ wd M a x = wd M0 a x)
section
variable {hits : Nat → Nat → Nat → Nat → Prop} {val : Nat → Nat → Int} {M0 : List (List Int)}
theorem Words.same {D D' : Nat → Nat → Prop} {M M' : List (List Int)} (h : Words hits val D M0 M) (h' : Words hits val D' M0 M') {a x : Nat} (e : ∀ m σ, hits m σ a x → (D m σ ↔ D' m σ)) : wd M a x = wd M' a x := by
 rcases h a x with ⟨m, σ, d, hh, hl, hv⟩ | ⟨hn, hv⟩ <;> rcases h' a x with ⟨m', σ', d', hh', hl', hv'⟩ | ⟨hn', hv'⟩
 ·obtain ⟨rfl, rfl⟩ := lex_tri (hl m' σ' ((e m' σ' hh').2 d') hh') (hl' m σ ((e m σ hh).1 d) hh)
  rw [hv, hv']
 ·exact absurd hh (hn' m σ ((e m σ hh).1 d))
 ·exact absurd hh' (hn m' σ' ((e m' σ' hh').2 d'))
 ·rw [hv, hv']
theorem Words.congr {D D' : Nat → Nat → Prop} {M : List (List Int)} (h : Words hits val D M0 M) (e : ∀ m σ a x, hits m σ a x → (D m σ ↔ D' m σ)) : Words hits val D' M0 M := fun a x => by
 rcases h a x with ⟨m, σ, d, hh, hl, hv⟩ | ⟨hn, hv⟩
 ·exact .inl ⟨m, σ, (e m σ a x hh).1 d, hh, fun m' σ' d' hh' => hl m' σ' ((e m' σ' a x hh').2 d') hh', hv⟩
 ·exact .inr ⟨fun m σ d hh => hn m σ ((e m σ a x hh).2 d) hh, hv⟩
theorem Words.skip {D : Nat → Nat → Prop} {M : List (List Int)} (h : Words hits val D M0 M) {m0 σ0 : Nat} (hn : ∀ a x, ¬ hits m0 σ0 a x) : Words hits val (fun m σ => D m σ ∨ (m = m0 ∧ σ = σ0)) M0 M :=
 h.congr fun m σ a x hh => ⟨.inl, fun d => by
  rcases d with d | ⟨rfl, rfl⟩
  ·exact d
  ·exact absurd hh (hn a x)⟩
theorem Words.put {D : Nat → Nat → Prop} {M M' : List (List Int)} (h : Words hits val D M0 M) {m0 σ0 a0 x0 : Nat} (hh : ∀ a x, hits m0 σ0 a x ↔ a = a0 ∧ x = x0) (hl : ∀ m σ, D m σ → hits m σ a0 x0 → ¬ lexL m0 σ0 m σ)
  (hv : wd M' a0 x0 = val σ0 m0) (ho : ∀ a x, ¬ (a = a0 ∧ x = x0) → wd M' a x = wd M a x) : Words hits val (fun m σ => D m σ ∨ (m = m0 ∧ σ = σ0)) M0 M' := fun a x => by
 by_cases hax : a = a0 ∧ x = x0
 ·obtain ⟨rfl, rfl⟩ := hax
  refine .inl ⟨m0, σ0, .inr ⟨rfl, rfl⟩, (hh _ _).2 ⟨rfl, rfl⟩, fun m σ d hm => ?_, hv⟩
  rcases d with d | ⟨rfl, rfl⟩
  ·exact hl m σ d hm
  ·unfold lexL; omega
 ·have hne : ¬ hits m0 σ0 a x := fun q => hax ((hh a x).1 q)
  rw [ho a x hax]
  rcases h a x with ⟨m, σ, d, hm, hl', hv'⟩ | ⟨hn, hv'⟩
  ·refine .inl ⟨m, σ, .inl d, hm, fun m' σ' d' hm' => ?_, hv'⟩
   rcases d' with d' | ⟨rfl, rfl⟩
   ·exact hl' m' σ' d' hm'
   ·exact absurd hm' hne
  ·refine .inr ⟨fun m σ d hm => ?_, hv'⟩
   rcases d with d | ⟨rfl, rfl⟩
   ·exact hn m σ d hm
   ·exact hne hm
end
theorem wd_put {M : List (List Int)} {a0 x0 : Nat} {z : Int} (ha : a0 < M.length) (hx : x0 < (ele M (a0 : Int)).length) : wd (updG M a0 x0 z) a0 x0 = z := by
 unfold wd updG
 rw [ele_upd ⟨by omega, by unfold ln; omega⟩, ele_upd ⟨by omega, by unfold ln; omega⟩]
theorem wd_old {M : List (List Int)} {a0 x0 a x : Nat} {z : Int} (ha : a0 < M.length) (h : ¬ (a = a0 ∧ x = x0)) : wd (updG M a0 x0 z) a x = wd M a x := by
 unfold wd updG
 by_cases h1 : a0 = a
 ·subst h1
  rw [ele_upd ⟨by omega, by unfold ln; omega⟩, ele_upd_ne (by omega)]
 ·rw [ele_upd_ne (by omega)]
theorem nodup_short : ∀ (n : Nat) (l : List Nat), l.Nodup → (∀ x ∈ l, x < n) → l.length ≤ n
 | 0, l, _, h => by
  cases l with
  | nil => exact Nat.le_refl _
  | cons x l => exact absurd (h x (List.mem_cons_self ..)) (by omega)
 | n + 1, l, hn, h => by
  have := nodup_short n (l.erase n) (hn.erase n) fun x hx => by
   have h1 := (List.Nodup.mem_erase_iff hn).1 hx
   have := h x h1.2
   omega
  have := List.length_erase (a := n) (l := l)
  split at this <;> omega
theorem order_has {order : List Int} {n : Nat} (hl : order.length = n) (hr : ∀ s : Nat, s < n → 0 ≤ ele order (s : Int) ∧ ele order (s : Int) < n) (hd : ∀ s, s < n → ∀ i, i < s → ele order (i : Int) ≠ ele order (s : Int)) {i : Nat} (hi : i < n) : ∃ s : Nat, s < n ∧ ele order (s : Int) = i := by
 by_cases c : ∃ s : Nat, s < n ∧ ele order (s : Int) = i
 ·exact c
 ·have h1 : ((List.range n).map fun s : Nat => (ele order (s : Int)).toNat).Nodup := by
   rw [List.nodup_iff_pairwise_ne, List.pairwise_map, ]
   refine List.Pairwise.imp_of_mem ?_ (List.pairwise_lt_range (n := n))
   intro a b ha hb hab e
   have ha := List.mem_range.1 ha; have hb := List.mem_range.1 hb
   have := hr a ha; have := hr b hb; have := hd b hb a hab
   omega
  have h2 : (i :: (List.range n).map fun s : Nat => (ele order (s : Int)).toNat).Nodup := by
   refine List.nodup_cons.2 ⟨fun hm => ?_, h1⟩
   obtain ⟨s, hs, e⟩ := List.mem_map.1 hm
   have hs := List.mem_range.1 hs
   have := hr s hs
   exact c ⟨s, hs, by omega⟩
  have := nodup_short n _ h2 fun x hx => by
   rcases List.mem_cons.1 hx with rfl | hx
   ·exact hi
   ·obtain ⟨s, hs, e⟩ := List.mem_map.1 hx
    have hs := List.mem_range.1 hs
    have := hr s hs
    omega
  rw [List.length_cons, List.length_map, List.length_range] at this
  omega
end Go.Rd
end
section
namespace Go.Rd
noncomputable def R3_Numbers_L0 (a b : List Int) : Int → Option (Stp (Int) (Bool)) := fun i5_1 =>
 br (decide (i5_1 < (ln a))) (
 ck (IX i5_1 (ln a)) <|
 ck (IX i5_1 (ln b)) <|
 br ((ele a i5_1) != (ele b i5_1)) (
 some (.ret false)) (
 ck (IR (i5_1 + 1)) <|
 some (.next (i5_1 + 1)))) (
 some (.brk i5_1))
noncomputable def R3_Numbers_m (a b : List Int) : Option (Bool) :=
 br ((ln a) != (ln b)) (
 some false) (
 bd (lp (R3_Numbers_L0 a b) 0) fun o4 => o4.on (fun i5_1 =>
 some true) (fun r => some r))
noncomputable def R3_Words_L0 (a : List (List Int)) (b : List (List Int)) : Int → Option (Stp (Int) (Bool)) := fun i5_1 =>
 br (decide (i5_1 < (ln a))) (
 ck (IX i5_1 (ln a)) <|
 ck (IX i5_1 (ln b)) <|
 bd (R3_Numbers_m (ele a i5_1) (ele b i5_1)) fun x25 =>
 br (!x25) (
 some (.ret false)) (
 ck (IR (i5_1 + 1)) <|
 some (.next (i5_1 + 1)))) (
 some (.brk i5_1))
noncomputable def R3_Words_m (a : List (List Int)) (b : List (List Int)) : Option (Bool) :=
 br ((ln a) != (ln b)) (
 some false) (
 bd (lp (R3_Words_L0 a b) 0) fun o4 => o4.on (fun i5_1 =>
 some true) (fun r => some r))
noncomputable def R3_is_m (s : Sta) (all : List (List Int)) (r_ : Rf) (turn : Int) : Option (Int) :=
 ck (IR (turn - r_.bk)) <|
 br (decide ((turn - r_.bk) ≥ 0)) (
 ck (IX (turn - r_.bk) (ln all)) <|
 ck (IX r_.st (ln (ele all (turn - r_.bk)))) <|
 some (ele (ele all (turn - r_.bk)) r_.st)) (
 ck (IX r_.st (ln s.bef)) <|
 ck (IR (-(turn - r_.bk))) <|
 ck (IR ((-(turn - r_.bk)) - 1)) <|
 ck (IX ((-(turn - r_.bk)) - 1) (ln (ele s.bef r_.st))) <|
 some (ele (ele s.bef r_.st) ((-(turn - r_.bk)) - 1)))
noncomputable def R3_Copy_L0 (l : List (List Int)) : ((List (List Int)) × Int) → Option (Stp ((List (List Int)) × Int) (Empty)) := fun (v1_1, i4_1) =>
 br (decide (i4_1 < (ln l))) (
 ck (IX i4_1 (ln l)) <|
 ck (AL ([] ++ (ele l i4_1)).length 8) <|
 ck (AL (v1_1 ++ [([] ++ (ele l i4_1))]).length 24) <|
 ck (IR (i4_1 + 1)) <|
 some (.next ((v1_1 ++ [([] ++ (ele l i4_1))]), (i4_1 + 1)))) (
 some (.brk (v1_1, i4_1)))
noncomputable def R3_Copy_m (l : List (List Int)) : Option (List (List Int)) :=
 bd (lp (R3_Copy_L0 l) ([], 0)) fun o2 => o2.on (fun (v1_1, i4_1) =>
 some v1_1) (fun r => r.elim)
noncomputable def R3_Play_L2 (l : Lp) (s : Sta) (t9_3 : Int) : ((List (List Int)) × (List (List Int)) × Int) → Option (Stp ((List (List Int)) × (List (List Int)) × Int) (Empty)) := fun (v15_4, r8_4, k10_4) =>
 br (decide (k10_4 < (ln l.body))) (
 ck (IX k10_4 (ln l.body)) <|
 br ((ele l.body k10_4).op == 1) (
 ck (IX t9_3 (ln v15_4)) <|
 ck (IX k10_4 (ln (ele v15_4 t9_3))) <|
 ck (IR (k10_4 + 1)) <|
 some (.next ((updG v15_4 t9_3 k10_4 ((ele l.body k10_4).n)), r8_4, (k10_4 + 1)))) (
 br ((ele l.body k10_4).op == 2) (
 ck (IX t9_3 (ln v15_4)) <|
 ck (IX k10_4 (ln (ele v15_4 t9_3))) <|
 ck (IR (k10_4 + 1)) <|
 some (.next ((updG v15_4 t9_3 k10_4 t9_3), r8_4, (k10_4 + 1)))) (
 br ((ele l.body k10_4).op == 3) (
 ck (IX ((ele l.body k10_4).ar) (ln l.logs)) <|
 bd (R1_Index_m ((ele l.body k10_4).sp) ((ele l.body k10_4).pl) t9_3 (ele l.logs ((ele l.body k10_4).ar))) fun x86 =>
 ck (IX t9_3 (ln v15_4)) <|
 ck (IX ((ele l.body k10_4).ar) (ln r8_4)) <|
 ck (IX x86 (ln (ele r8_4 ((ele l.body k10_4).ar)))) <|
 ck (IX k10_4 (ln (ele v15_4 t9_3))) <|
 ck (IR (k10_4 + 1)) <|
 some (.next ((updG v15_4 t9_3 k10_4 (ele (ele r8_4 ((ele l.body k10_4).ar)) x86)), r8_4, (k10_4 + 1)))) (
 br ((ele l.body k10_4).op == 4) (
 ck (IX ((ele l.body k10_4).ar) (ln l.logs)) <|
 bd (R1_Index_m ((ele l.body k10_4).sp) ((ele l.body k10_4).pl) t9_3 (ele l.logs ((ele l.body k10_4).ar))) fun x116 =>
 bd (R3_is_m s v15_4 ((ele l.body k10_4).a) t9_3) fun x119 =>
 ck (IX ((ele l.body k10_4).ar) (ln r8_4)) <|
 ck (IX x116 (ln (ele r8_4 ((ele l.body k10_4).ar)))) <|
 ck (IX t9_3 (ln v15_4)) <|
 ck (IX k10_4 (ln (ele v15_4 t9_3))) <|
 ck (IR (k10_4 + 1)) <|
 some (.next ((updG v15_4 t9_3 k10_4 x119), (updG r8_4 ((ele l.body k10_4).ar) x116 x119), (k10_4 + 1)))) (
 bd (R3_is_m s v15_4 ((ele l.body k10_4).a) t9_3) fun x145 =>
 bd (R3_is_m s v15_4 ((ele l.body k10_4).b) t9_3) fun x148 =>
 ck (IX t9_3 (ln v15_4)) <|
 ck (IR ((ele l.body k10_4).op - 10)) <|
 bd (R1_Op_m ((ele l.body k10_4).op - 10) x145 x148) fun x157 =>
 ck (IX k10_4 (ln (ele v15_4 t9_3))) <|
 ck (IR (k10_4 + 1)) <|
 some (.next ((updG v15_4 t9_3 k10_4 x157), r8_4, (k10_4 + 1)))))))) (
 some (.brk (v15_4, r8_4, k10_4)))
noncomputable def R3_Play_L0 (l : Lp) (s : Sta) (turns : Int) : ((List (List Int)) × (List (List Int)) × Int) → Option (Stp ((List (List Int)) × (List (List Int)) × Int) (Empty)) := fun (v15_3, r8_3, t9_3) =>
 br (decide (t9_3 < turns)) (
 ck (0 ≤ (ln l.body)) <|
 ck (AL (ln l.body).toNat 8) <|
 ck (IX t9_3 (ln v15_3)) <|
 bd (lp (R3_Play_L2 l s t9_3) ((upd v15_3 t9_3 (List.replicate (ln l.body).toNat (0 : Int))), r8_3, 0)) fun o38 => o38.on (fun (v15_4, r8_4, k10_4) =>
 ck (IR (t9_3 + 1)) <|
 some (.next (v15_4, r8_4, (t9_3 + 1)))) (fun r => r.elim)) (
 some (.brk (v15_3, r8_3, t9_3)))
noncomputable def R3_Play_L5 (l : Lp) (s : Sta) (turns : Int) (v15_3 : List (List Int)) : ((List Int) × Int) → Option (Stp ((List Int) × Int) (Empty)) := fun (v24_4, i18_4) =>
 br (decide (i18_4 < (ln l.outs))) (
 ck (IX i18_4 (ln l.outs)) <|
 ck (IX (ele l.outs i18_4) (ln s.bef)) <|
 ck (IX 0 (ln (ele s.bef (ele l.outs i18_4)))) <|
 br (decide (turns > 0)) (
 ck (IR (turns - 1)) <|
 ck (IX (turns - 1) (ln v15_3)) <|
 ck (IX i18_4 (ln l.outs)) <|
 ck (IX (ele l.outs i18_4) (ln (ele v15_3 (turns - 1)))) <|
 ck (AL (v24_4 ++ [(ele (ele v15_3 (turns - 1)) (ele l.outs i18_4))]).length 8) <|
 ck (IR (i18_4 + 1)) <|
 some (.next ((v24_4 ++ [(ele (ele v15_3 (turns - 1)) (ele l.outs i18_4))]), (i18_4 + 1)))) (
 ck (AL (v24_4 ++ [(ele (ele s.bef (ele l.outs i18_4)) 0)]).length 8) <|
 ck (IR (i18_4 + 1)) <|
 some (.next ((v24_4 ++ [(ele (ele s.bef (ele l.outs i18_4)) 0)]), (i18_4 + 1))))) (
 some (.brk (v24_4, i18_4)))
noncomputable def R3_Play_m (l : Lp) (s : Sta) (turns : Int) : Option (Rst) :=
 bd (R3_Copy_m s.mem) fun x4 =>
 ck (0 ≤ turns) <|
 ck (AL turns.toNat 24) <|
 bd (lp (R3_Play_L0 l s turns) ((List.replicate turns.toNat ([] : List Int)), x4, 0)) fun o18 => o18.on (fun (v15_3, r8_3, t9_3) =>
 bd (lp (R3_Play_L5 l s turns v15_3) ([], 0)) fun o25 => o25.on (fun (v24_4, i18_4) =>
 some (Rst.mk v24_4 r8_3)) (fun r => r.elim)) (fun r => r.elim)
def FitsP (l : Lp) (s : Sta) : Prop := LoopOk l ∧ s.bef.length = l.body.length ∧ s.mem.length = l.logs.length ∧ (∀ i, i < s.bef.length → (s.bef.getD i []).length = 3) ∧ (∀ i, i < s.mem.length → ((s.mem.getD i []).length : Int) = 2 ^ (l.logs.getD i 0).toNat)
def refV (past : List (List Int)) (now : List Int) (x : Rf) : Int := if x.bk = 0 then ele now x.st else ele (ele past (x.bk - 1)) x.st
def stepV (logs : List Int) (past : List (List Int)) (t : Int) (p : List Int × List (List Int)) (s : Stm) : List Int × List (List Int) :=
 if s.op = 1 then (p.1 ++ [s.n], p.2)
 else if s.op = 2 then (p.1 ++ [t], p.2)
 else if s.op = 3 then (p.1 ++ [ele (ele p.2 s.ar) (idx s.sp s.pl t (ele logs s.ar))], p.2)
 else if s.op = 4 then (p.1 ++ [refV past p.1 s.a], updG p.2 s.ar (idx s.sp s.pl t (ele logs s.ar)) (refV past p.1 s.a))
 else (p.1 ++ [opV (s.op - 10) (refV past p.1 s.a) (refV past p.1 s.b)], p.2)
def turnV (l : Lp) (past mem : List (List Int)) (t : Int) : List Int × List (List Int) := l.body.foldl (stepV l.logs past t) ([], mem)
def colV (bef : List (List Int)) (j : Nat) : List Int := bef.map fun b => b.getD j 0
def runV (l : Lp) (s : Sta) : Nat → List (List Int) × List (List Int)
 | 0 => ([colV s.bef 0, colV s.bef 1, colV s.bef 2], s.mem)
 | t + 1 => ((turnV l (runV l s t).1 (runV l s t).2 t).1 :: (runV l s t).1, (turnV l (runV l s t).1 (runV l s t).2 t).2)
def outsV (l : Lp) (s : Sta) (t : Nat) : List Int := l.outs.map fun k => ele (ele (runV l s t).1 0) k
structure MemOk (l : Lp) (m : List (List Int)) : Prop where
 len : m.length = l.logs.length
 row : ∀ i : Nat, i < m.length → ((m.getD i []).length : Int) = 2 ^ (l.logs.getD i 0).toNat
 rng : ∀ r ∈ m, ∀ x ∈ r, InR x
structure RowOk (l : Lp) (r : List Int) : Prop where
 len : r.length = l.body.length
 rng : ∀ x ∈ r, InR x
theorem ele_rng {r : List Int} (h : ∀ x ∈ r, InR x) (i : Int) : InR (ele r i) := getD_all h (by unfold InR; decide) i.toNat
theorem eles_rng {m : List (List Int)} (h : ∀ r ∈ m, ∀ x ∈ r, InR x) (i j : Int) : InR (ele (ele m i) j) := ele_rng (getD_all (p := fun r : List Int => ∀ x ∈ r, InR x) h (fun x hx => by cases hx) i.toNat) j
theorem mem_upd {α : Type} {l : List α} {i : Int} {z x : α} (h : x ∈ upd l i z) : x ∈ l ∨ x = z := List.mem_or_eq_of_mem_set h
theorem ele_mem {m : List (List Int)} {i x : Int} (h : x ∈ ele m i) : ∃ r ∈ m, x ∈ r := by
 unfold ele at h
 by_cases hi : i.toNat < m.length
 ·rw [List.getD_eq_getElem?_getD, List.getElem?_eq_getElem hi] at h
  exact ⟨_, List.getElem_mem hi, h⟩
 ·rw [List.getD_eq_getElem?_getD, List.getElem?_eq_none (by omega)] at h
  cases h
theorem MemOk.updG {l : Lp} {m : List (List Int)} (h : MemOk l m) (i j z : Int) (hz : InR z) : MemOk l (updG m i j z) := by
 refine ⟨by unfold Rd.updG; rw [upd_length]; exact h.len, fun k hk => ?_, fun r hr x hx => ?_⟩
 ·unfold Rd.updG at hk ⊢
  rw [upd_length] at hk
  rw [getD_upd]
  split
  ·rename_i hh
   rw [upd_length, ele_getD, hh.1]; exact h.row k hk
  ·exact h.row k hk
 ·unfold Rd.updG at hr
  rcases mem_upd hr with hr | rfl
  ·exact h.rng r hr x hx
  ·rcases mem_upd hx with hx | rfl
   ·obtain ⟨r, hr, hx⟩ := ele_mem hx
    exact h.rng r hr x hx
   ·exact hz
theorem refV_rng {past : List (List Int)} {now : List Int} (hp : ∀ r ∈ past, ∀ x ∈ r, InR x) (hn : ∀ x ∈ now, InR x) (x : Rf) : InR (refV past now x) := by
 unfold refV
 split
 ·exact ele_rng hn _
 ·exact eles_rng hp _ _
theorem opV_rng (op a b : Int) : InR (opV op a b) := opV_bd op a b
theorem snoc_rng {r : List Int} {v : Int} (h : ∀ x ∈ r, InR x) (hv : InR v) : ∀ x ∈ r ++ [v], InR x := fun x hx => by
 rcases List.mem_append.1 hx with h' | h'
 ·exact h x h'
 ·simp at h'; subst h'; exact hv
theorem stepV_ok {l : Lp} (hf : l.Fine) {past : List (List Int)} {t : Int} (ht : InR t) {p : List Int × List (List Int)} (hp : ∀ r ∈ past, ∀ x ∈ r, InR x) (h1 : ∀ x ∈ p.1, InR x) (h2 : MemOk l p.2) {s : Stm} (hs : s.InR) :
  (stepV l.logs past t p s).1.length = p.1.length + 1 ∧ (∀ x ∈ (stepV l.logs past t p s).1, InR x) ∧ MemOk l (stepV l.logs past t p s).2 := by
 unfold stepV
 split
 ·exact ⟨by simp, snoc_rng h1 hs.2.2.2.2.2.2.2.2, h2⟩
 split
 ·exact ⟨by simp, snoc_rng h1 ht, h2⟩
 split
 ·exact ⟨by simp, snoc_rng h1 (eles_rng h2.rng _ _), h2⟩
 split
 ·exact ⟨by simp, snoc_rng h1 (refV_rng hp h1 _), h2.updG _ _ _ (refV_rng hp h1 _)⟩
 ·exact ⟨by simp, snoc_rng h1 (opV_rng _ _ _), h2⟩
def partV (l : Lp) (past mem : List (List Int)) (t : Int) (i : Nat) : List Int × List (List Int) := (l.body.take i).foldl (stepV l.logs past t) ([], mem)
theorem partV_next {l : Lp} {past mem : List (List Int)} {t : Int} {i : Nat} (h : i < l.body.length) : partV l past mem t (i + 1) = stepV l.logs past t (partV l past mem t i) (ele l.body i) := by
 unfold partV
 rw [take_next h, List.foldl_append]
 rfl
theorem partV_ok {l : Lp} (hf : l.Fine) {past mem : List (List Int)} {t : Int} (ht : InR t) (hp : ∀ r ∈ past, ∀ x ∈ r, InR x) (hm : MemOk l mem) : ∀ i, i ≤ l.body.length → (partV l past mem t i).1.length = i ∧ (∀ x ∈ (partV l past mem t i).1, InR x) ∧ MemOk l (partV l past mem t i).2
 | 0, _ => ⟨rfl, fun x hx => (by cases hx), hm⟩
 | i + 1, h => by
  obtain ⟨h1, h2, h3⟩ := partV_ok hf ht hp hm i (by omega)
  rw [partV_next (by omega)]
  have := stepV_ok hf ht hp h2 h3 (ele_all (p := Stm.InR) hf.rbody (i := i) (by omega))
  exact ⟨by rw [this.1, h1], this.2⟩
theorem turnV_part (l : Lp) (past mem : List (List Int)) (t : Int) : turnV l past mem t = partV l past mem t l.body.length := by unfold turnV partV; rw [List.take_length]
theorem idx_lt {step plus t log : Int} (h0 : 0 ≤ log) (h5 : log ≤ 5) : 0 ≤ idx step plus t log ∧ idx step plus t log < 2 ^ log.toNat := by
 have hp := two_pow_5 log.toNat (by omega)
 unfold idx
 split
 ·exact ⟨Int.emod_nonneg _ (by omega), Int.emod_lt_of_pos _ (by omega)⟩
 ·omega
theorem word_ix {l : Lp} (hl : LoopOk l) {m : List (List Int)} (hm : MemOk l m) {s : Stm} (hw : WordOk l.logs.length s) (t : Int) :
  IX s.ar (ln m) ∧ IX s.ar (ln l.logs) ∧ IX (idx s.sp s.pl t (ele l.logs s.ar)) (ln (ele m s.ar)) := by
 have hml := hm.len
 obtain ⟨w1, w2, _⟩ := hw
 have e : ((s.ar.toNat : Nat) : Int) = s.ar := by omega
 have hlg := hl.log s.ar.toNat (by omega)
 have hr := hm.row s.ar.toNat (by omega)
 have hi := idx_lt (step := s.sp) (plus := s.pl) (t := t) hlg.1 hlg.2
 refine ⟨⟨w1, by unfold ln; omega⟩, ⟨w1, by unfold ln; omega⟩, hi.1, ?_⟩
 have : ln (ele m s.ar) = 2 ^ (l.logs.getD s.ar.toNat 0).toNat := hr
 rw [this]
 exact hi.2
theorem rCopy_s {m : List (List Int)} (h1 : m.length ≤ 100) (h2 : ∀ r ∈ m, r.length ≤ 100000) : R3_Copy_m m = some m := by
 have e : lp (R3_Copy_L0 m) ([], 0) = some (.go ((List.range m.length).map (fun i : Nat => ele m (i : Int)), (m.length : Int))) := by
  refine lp_build (fun i hi => ?_) ?_
  ·have hr := ele_all (p := fun r : List Int => r.length ≤ 100000) h2 hi
   unfold R3_Copy_L0
   simp only [List.nil_append]
   rw [br_T (by unfold ln; omega), ck_IX (by omega) (by unfold ln; omega), ck_yes (AL8 hr), ck_yes (AL24 (by simp; omega)), ck_IR (by omega) (by omega)]
  ·unfold R3_Copy_L0
   exact br_F (by unfold ln; omega)
 unfold R3_Copy_m
 rw [e, bd_ret, Out.on_go, range_map]
structure StaOk (l : Lp) (s : Sta) : Prop where
 loop : LoopOk l
 len : s.bef.length = l.body.length
 bef : ∀ i : Nat, i < s.bef.length → (s.bef.getD i []).length = 3
 rbef : ∀ r ∈ s.bef, ∀ x ∈ r, InR x
 mem : MemOk l s.mem
theorem FitsP.ok {l : Lp} {s : Sta} (h : FitsP l s) (hb : RowsOk s.bef) (hm : RowsOk s.mem) : StaOk l s := ⟨h.1, h.2.1, h.2.2.2.1, hb.rng, ⟨h.2.2.1, h.2.2.2.2, hm.rng⟩⟩
theorem MemOk.small {l : Lp} (hl : LoopOk l) {m : List (List Int)} (h : MemOk l m) : m.length ≤ 100 ∧ ∀ r ∈ m, r.length ≤ 100000 := by
 have := h.len; have := hl.1
 refine ⟨by omega, fun r hr => ?_⟩
 obtain ⟨i, hi, rfl⟩ := List.getElem_of_mem hr
 have h1 := h.row i hi
 have h2 := hl.log i (by omega)
 have h3 := two_pow_5 (l.logs.getD i 0).toNat (by omega)
 rw [List.getD_eq_getElem?_getD, List.getElem?_eq_getElem hi] at h1
 simp only [Option.getD_some] at h1
 omega
theorem col_ok {l : Lp} {s : Sta} (h : StaOk l s) (j : Nat) : RowOk l (colV s.bef j) := by
 refine ⟨by unfold colV; rw [List.length_map, h.len], fun x hx => ?_⟩
 obtain ⟨r, hr, rfl⟩ := List.mem_map.1 hx
 exact getD_all (h.rbef r hr) (by unfold InR; decide) j
theorem run_ok {l : Lp} (hf : l.Fine) {s : Sta} (h : StaOk l s) : ∀ t : Nat, t ≤ 100000 → (∀ r ∈ (runV l s t).1, RowOk l r) ∧ MemOk l (runV l s t).2 ∧ (runV l s t).1.length = t + 3
 | 0, _ => ⟨fun r hr => by
   simp only [runV, List.mem_cons, List.not_mem_nil, or_false] at hr
   rcases hr with rfl | rfl | rfl <;> exact col_ok h _, h.mem, rfl⟩
 | t + 1, ht => by
  obtain ⟨h1, h2, h3⟩ := run_ok hf h t (by omega)
  have hp := partV_ok hf (t := (t : Int)) (by unfold InR; omega) (fun r hr => (h1 r hr).rng) h2 l.body.length (Nat.le_refl _)
  rw [← turnV_part] at hp
  refine ⟨fun r hr => ?_, hp.2.2, by simp [runV, h3]⟩
  rcases List.mem_cons.1 hr with rfl | hr
  ·exact ⟨hp.1, hp.2.1⟩
  ·exact h1 r hr
theorem set_fill {α : Type} (a : List α) (m : Nat) (z v : α) : (a ++ List.replicate (m + 1) z).set a.length v = (a ++ [v]) ++ List.replicate m z := by
 rw [List.set_append_right _ _ (Nat.le_refl _), Nat.sub_self, List.replicate_succ, List.set_cons_zero]
 simp
def rowV (l : Lp) (s : Sta) (t : Nat) : List Int := (turnV l (runV l s t).1 (runV l s t).2 t).1
theorem hist_at (l : Lp) (s : Sta) : ∀ (t j : Nat), j < t + 3 → (runV l s t).1.getD j [] = if j < t then rowV l s (t - 1 - j) else colV s.bef (j - t)
 | 0, 0, _ => rfl
 | 0, 1, _ => rfl
 | 0, 2, _ => rfl
 | 0, j + 3, h => by omega
 | t + 1, 0, _ => rfl
 | t + 1, j + 1, h => by
  have ih := hist_at l s t j (by omega)
  show (runV l s t).1.getD j [] = _
  rw [ih]
  by_cases hj : j < t
  ·rw [if_pos hj, if_pos (by omega), show t + 1 - 1 - (j + 1) = t - 1 - j from by omega]
  ·rw [if_neg hj, if_neg (by omega), show j + 1 - (t + 1) = j - t from by omega]
def allV (l : Lp) (s : Sta) (n t : Nat) : List (List Int) := (List.range n).map fun i => if i < t then rowV l s i else []
theorem allV_len (l : Lp) (s : Sta) (n t : Nat) : (allV l s n t).length = n := by simp [allV]
theorem allV_at (l : Lp) (s : Sta) {n t i : Nat} (h : i < n) : ele (allV l s n t) (i : Int) = if i < t then rowV l s i else [] := by
 rw [ele_nat, List.getD_eq_getElem?_getD, allV, List.getElem?_map, List.getElem?_range h]
 rfl
theorem allV_next (l : Lp) (s : Sta) {n t : Nat} (h : t < n) : upd (allV l s n t) t (rowV l s t) = allV l s n (t + 1) := by
 apply List.ext_getElem?
 intro i
 unfold upd allV
 rw [Int.toNat_natCast, List.getElem?_set, List.getElem?_map, List.getElem?_map, List.length_map, List.length_range]
 by_cases hi : t = i
 ·subst hi
  simp [h]
 ·rw [if_neg hi]
  by_cases hn : i < n
  ·rw [List.getElem?_range hn]
   simp only [Option.map_some]
   by_cases h1 : i < t
   ·rw [if_pos h1, if_pos (by omega)]
   ·rw [if_neg h1, if_neg (by omega)]
  ·rw [List.getElem?_eq_none (by simp; omega)]
   rfl
theorem col_at {s : Sta} {j i : Nat} (h : i < s.bef.length) : ele (colV s.bef j) (i : Int) = (ele s.bef (i : Int)).getD j 0 := by
 have e : ele s.bef (i : Int) = s.bef[i] := by rw [ele_nat, List.getD_eq_getElem?_getD, List.getElem?_eq_getElem h]; rfl
 rw [e, ele_nat, List.getD_eq_getElem?_getD, colV, List.getElem?_map, List.getElem?_eq_getElem h]
 rfl
theorem is_s {l : Lp} {s : Sta} (h : StaOk l s) (hf : l.Fine) {n t k : Nat} (hn : n ≤ 200) (ht : t < n) (hk : k ≤ l.body.length) {now z : List Int} (hnow : now.length = k) (hz : (now ++ z).length = l.body.length) {x : Rf} (hx : RefOk l.body.length k x) :
  R3_is_m s (upd (allV l s n t) t (now ++ z)) x t = some (refV (runV l s t).1 now x) := by
 obtain ⟨a1, a2, a3, a4, a5⟩ := hx
 have hrun := run_ok hf h t (by omega)
 have hst : ((x.st.toNat : Nat) : Int) = x.st := by omega
 have hlen : (upd (allV l s n t) t (now ++ z)).length = n := by rw [upd_length, allV_len]
 have hb16 := h.loop.2.2.1
 unfold R3_is_m refV
 rw [ck_IR (by omega) (by omega)]
 by_cases hb : x.bk = 0
 ·have hs4 := a4 hb
  rw [br_T (by omega), ck_IX (by omega) (by unfold ln; omega), show (t : Int) - x.bk = t from by omega, ele_upd ⟨by omega, by unfold ln; rw [allV_len]; omega⟩, ck_IX a3 (by unfold ln; omega), if_pos hb]
  congr 1
  unfold ele
  rw [List.getD_eq_getElem?_getD, List.getElem?_append_left (by omega), ← List.getD_eq_getElem?_getD]
 ·rw [if_neg hb]
  have hs5 := a5 hb
  have hh := hist_at l s t (x.bk - 1).toNat (by omega)
  have hele : ele (runV l s t).1 (x.bk - 1) = (runV l s t).1.getD (x.bk - 1).toNat [] := rfl
  by_cases hge : (t : Int) - x.bk ≥ 0
  ·have hi : (((t : Int) - x.bk).toNat : Int) = (t : Int) - x.bk := by omega
   have hrow : (rowV l s ((t : Int) - x.bk).toNat).length = l.body.length := by
    have h1 := (run_ok hf h (((t : Int) - x.bk).toNat + 1) (by omega)).1 (rowV l s ((t : Int) - x.bk).toNat) (List.mem_cons_self ..)
    exact h1.len
   have he : ele (upd (allV l s n t) t (now ++ z)) ((t : Int) - x.bk) = rowV l s ((t : Int) - x.bk).toNat := by
    rw [ele_upd_ne (by omega), ← hi, allV_at l s (by omega), if_pos (by omega)]
    rfl
   rw [br_T hge, ck_IX (by omega) (by unfold ln; omega), he, ck_IX a3 (by unfold ln; omega), hele, hh, if_pos (by omega), show t - 1 - (x.bk - 1).toNat = ((t : Int) - x.bk).toNat from by omega]
  ·have hbl := h.len
   have h3 := h.bef x.st.toNat (by omega)
   rw [show s.bef.getD x.st.toNat [] = ele s.bef (x.st.toNat : Int) from rfl, hst] at h3
   rw [br_F hge, ck_IX a3 (by unfold ln; omega), ck_IR (by omega) (by omega), ck_IR (by omega) (by omega), ck_IX (by omega) (by unfold ln; omega), hele, hh, if_neg (by omega)]
   congr 1
   rw [← hst, col_at (by omega)]
   unfold ele
   congr 1
   omega
theorem play_step {l : Lp} {s : Sta} (h : StaOk l s) (hf : l.Fine) {n t : Nat} (hn : n ≤ 200) (ht : t < n) (k : Nat) (hk : k < l.body.length) :
  R3_Play_L2 l s t (upd (allV l s n t) t ((partV l (runV l s t).1 (runV l s t).2 t k).1 ++ List.replicate (l.body.length - k) 0), (partV l (runV l s t).1 (runV l s t).2 t k).2, k) =
   some (.next (upd (allV l s n t) t ((partV l (runV l s t).1 (runV l s t).2 t (k + 1)).1 ++ List.replicate (l.body.length - (k + 1)) 0), (partV l (runV l s t).1 (runV l s t).2 t (k + 1)).2, ((k + 1 : Nat) : Int))) := by
 obtain ⟨r1, r2, r3⟩ := run_ok hf h t (by omega)
 obtain ⟨p1, p2, p3⟩ := partV_ok hf (t := (t : Int)) (by unfold InR; omega) (fun r hr => (r1 r hr).rng) r2 k (by omega)
 rw [partV_next hk]
 generalize hP : partV l (runV l s t).1 (runV l s t).2 t k = p at p1 p2 p3
 have hn16 := h.loop.2.2.1
 have hso := h.loop.stm k hk
 rw [show l.body.getD k Stm.zero = ele l.body (k : Int) from rfl] at hso
 generalize hs : ele l.body (k : Int) = st at hso
 obtain ⟨q1, q2, q3⟩ := hso
 have hfl : (p.1 ++ List.replicate (l.body.length - k) (0 : Int)).length = l.body.length := by rw [List.length_append, List.length_replicate, p1]; omega
 generalize hA : upd (allV l s n t) (t : Int) (p.1 ++ List.replicate (l.body.length - k) 0) = A
 have hAl : A.length = n := by rw [← hA, upd_length, allV_len]
 have hAt : ele A (t : Int) = p.1 ++ List.replicate (l.body.length - k) 0 := by rw [← hA]; exact ele_upd ⟨by omega, by unfold ln; rw [allV_len]; omega⟩
 have hix : IX (k : Int) (ln l.body) := ⟨by omega, by unfold ln; omega⟩
 have hit : IX (t : Int) (ln A) := ⟨by omega, by unfold ln; omega⟩
 have hik : IX (k : Int) (ln (ele A (t : Int))) := ⟨by omega, by rw [hAt]; unfold ln; omega⟩
 have hput : ∀ v : Int, updG A t k v = upd (allV l s n t) t ((p.1 ++ [v]) ++ List.replicate (l.body.length - (k + 1)) 0) := fun v => by
  unfold updG
  rw [hAt, ← hA, upd_upd]
  congr 1
  unfold upd
  rw [Int.toNat_natCast, show l.body.length - k = (l.body.length - (k + 1)) + 1 from by omega, ← p1]
  exact set_fill _ _ _ _
 have ra : (st.op = 4 ∨ st.op > 10) → R3_is_m s A st.a t = some (refV (runV l s t).1 p.1 st.a) := fun hh => by rw [← hA]; exact is_s h hf hn ht (by omega) p1 hfl (q1 hh)
 have rb : st.op > 10 → R3_is_m s A st.b t = some (refV (runV l s t).1 p.1 st.b) := fun hh => by rw [← hA]; exact is_s h hf hn ht (by omega) p1 hfl (q2 hh)
 have hra : ∀ x : Rf, InR (refV (runV l s t).1 p.1 x) := fun x => refV_rng (fun r hr => (r1 r hr).rng) p2 x
 have hsc : ((k + 1 : Nat) : Int) = (k : Int) + 1 := rfl
 unfold R3_Play_L2 stepV
 simp only
 rw [br_T (by unfold ln; omega), ck_yes hix, hs, hsc]
 by_cases o1 : st.op = 1
 ·rw [show (st.op == 1) = true from by simpa using o1, br_true, ck_yes hit, ck_yes hik, ck_IR (by omega) (by omega), if_pos o1, hput]
 rw [show (st.op == 1) = false from by simpa using o1, br_false, if_neg o1]
 by_cases o2 : st.op = 2
 ·rw [show (st.op == 2) = true from by simpa using o2, br_true, ck_yes hit, ck_yes hik, ck_IR (by omega) (by omega), if_pos o2, hput]
 rw [show (st.op == 2) = false from by simpa using o2, br_false, if_neg o2]
 by_cases o3 : st.op = 3
 ·have hw : WordOk l.logs.length st := by rcases q3 with h | h | h | h | h <;> first | exact h.2.2.1 | omega
  obtain ⟨w1, w2, w3⟩ := word_ix h.loop p3 hw t
  rw [show (st.op == 3) = true from by simpa using o3, br_true, ck_yes w2, ref_Index_s, bd_ret, ck_yes hit, ck_yes w1, ck_yes w3, ck_yes hik, ck_IR (by omega) (by omega), if_pos o3, hput]
 rw [show (st.op == 3) = false from by simpa using o3, br_false, if_neg o3]
 by_cases o4 : st.op = 4
 ·have hw : WordOk l.logs.length st := by rcases q3 with h | h | h | h | h <;> first | exact h.2.2.1 | omega
  obtain ⟨w1, w2, w3⟩ := word_ix h.loop p3 hw t
  rw [show (st.op == 4) = true from by simpa using o4, br_true, ck_yes w2, ref_Index_s, bd_ret, ra (.inl o4), bd_ret, ck_yes w1, ck_yes w3, ck_yes hit, ck_yes hik, ck_IR (by omega) (by omega), if_pos o4, hput]
 have h10 : 11 ≤ st.op ∧ st.op ≤ 18 := by omega
 rw [show (st.op == 4) = false from by simpa using o4, br_false, if_neg o4, ra (.inr (by omega)), bd_ret, rb (by omega), bd_ret, ck_yes hit, ck_IR (by omega) (by omega), ref_Op_s _ _ _ (hra _) (hra _), bd_ret, ck_yes hik, ck_IR (by omega) (by omega), hput]
theorem play_turn {l : Lp} {s : Sta} (h : StaOk l s) (hf : l.Fine) {n t : Nat} (hn : n ≤ 200) (ht : t < n) : ∀ (m k : Nat), k + m = l.body.length →
  lp (R3_Play_L2 l s t) (upd (allV l s n t) t ((partV l (runV l s t).1 (runV l s t).2 t k).1 ++ List.replicate (l.body.length - k) 0), (partV l (runV l s t).1 (runV l s t).2 t k).2, (k : Int)) =
   some (.go (allV l s n (t + 1), (runV l s (t + 1)).2, (l.body.length : Int)))
 | 0, k, hk => by
  have : k = l.body.length := by omega
  subst this
  rw [← turnV_part, Nat.sub_self, List.replicate_zero, List.append_nil, show (turnV l (runV l s t).1 (runV l s t).2 t).1 = rowV l s t from rfl, allV_next l s ht]
  refine lp_brk ?_
  unfold R3_Play_L2
  exact br_F (by unfold ln; omega)
 | m + 1, k, hk => lp_step (play_step h hf hn ht k (by omega)) (play_turn h hf hn ht m (k + 1) (by omega))
theorem play_loop {l : Lp} {s : Sta} (h : StaOk l s) (hf : l.Fine) {n : Nat} (hn : n ≤ 200) : ∀ (m t : Nat), t + m = n → lp (R3_Play_L0 l s n) (allV l s n t, (runV l s t).2, (t : Int)) = some (.go (allV l s n n, (runV l s n).2, (n : Int)))
 | 0, t, ht => by
  have : t = n := by omega
  subst this
  refine lp_brk ?_
  unfold R3_Play_L0
  exact br_F (by omega)
 | m + 1, t, ht => by
  refine lp_step ?_ (play_loop h hf hn m (t + 1) (by omega))
  have hn16 := h.loop.2.2.1
  have hp := play_turn h hf hn (t := t) (by omega) l.body.length 0 (by omega)
  rw [show partV l (runV l s t).1 (runV l s t).2 t 0 = ([], (runV l s t).2) from rfl, List.nil_append, Nat.sub_zero] at hp
  unfold R3_Play_L0
  simp only
  rw [br_T (by omega), ck_yes (ln_nonneg _), ck_yes (AL8 (by unfold ln; omega)), ck_IX (by omega) (by unfold ln; rw [allV_len]; omega), show (ln l.body).toNat = l.body.length from by unfold ln; omega]
  rw [show ((0 : Nat) : Int) = 0 from rfl] at hp
  rw [hp, bd_ret, Out.on_go]
  simp only
  rw [ck_IR (by omega) (by omega)]
  rfl
theorem Play_s {l : Lp} {s : Sta} (hf : l.Fine) (h : StaOk l s) (n : Nat) (hn : n ≤ 200) : R3_Play_m l s n = some ⟨outsV l s n, (runV l s n).2⟩ := by
 have hsm := h.mem.small h.loop
 have hn16 := h.loop.2.2.1
 have h16 := outs_len h.loop
 have hbl := h.len
 have e1 := play_loop h hf hn n 0 (by omega)
 rw [show (runV l s 0).2 = s.mem from rfl, show ((0 : Nat) : Int) = 0 from rfl, show allV l s n 0 = List.replicate (n : Int).toNat [] from by
  rw [Int.toNat_natCast]; unfold allV; simp only [Nat.not_lt_zero, if_false]; rw [List.map_const', List.length_range]] at e1
 have e2 : lp (R3_Play_L5 l s n (allV l s n n)) ([], 0) = some (.go (outsV l s n, (l.outs.length : Int))) := by
  have e := lp_build (f := R3_Play_L5 l s n (allV l s n n)) (n := l.outs.length) (h := fun i : Nat => ele (ele (runV l s n).1 0) (ele l.outs (i : Int))) (fun i hi => ?_) ?_
  ·rw [range_map' l.outs (fun k => ele (ele (runV l s n).1 0) k)] at e
   exact e
  ·have ho := h.loop.out i hi
   rw [show l.outs.getD i 0 = ele l.outs (i : Int) from rfl] at ho
   have hk : (((ele l.outs (i : Int)).toNat : Nat) : Int) = ele l.outs (i : Int) := by omega
   have h3 := h.bef (ele l.outs (i : Int)).toNat (by omega)
   rw [show s.bef.getD (ele l.outs (i : Int)).toNat [] = ele s.bef ((ele l.outs (i : Int)).toNat : Int) from rfl, hk] at h3
   have hix : IX (i : Int) (ln l.outs) := ⟨by omega, by unfold ln; omega⟩
   have hh := hist_at l s n 0 (by omega)
   unfold R3_Play_L5
   simp only
   rw [br_T (by unfold ln; omega), ck_yes hix, ck_IX ho.1 (by unfold ln; omega), ck_IX (by omega) (by unfold ln; omega)]
   by_cases hp : 0 < n
   ·have hrow : (rowV l s (n - 1)).length = l.body.length := by
     have h1 := (run_ok hf h (n - 1 + 1) (by omega)).1 (rowV l s (n - 1)) (List.mem_cons_self ..)
     exact h1.len
    have hat : ele (allV l s n n) ((n : Int) - 1) = rowV l s (n - 1) := by
     rw [show (n : Int) - 1 = ((n - 1 : Nat) : Int) from by omega, allV_at l s (by omega), if_pos (by omega)]
    rw [if_pos hp] at hh
    have hh' : ele (runV l s n).1 0 = rowV l s (n - 1) := hh
    rw [br_T (by omega), ck_IR (by omega) (by omega), ck_IX (by omega) (by unfold ln; rw [allV_len]; omega), ck_yes hix, hat, ck_IX ho.1 (by unfold ln; rw [hrow]; exact ho.2), hh', ck_yes (AL8 (by simp; omega)), ck_IR (by omega) (by omega)]
   ·have : n = 0 := by omega
    subst this
    rw [br_F (by omega), ck_yes (AL8 (by simp; omega)), ck_IR (by omega) (by omega)]
    have hc : ele (ele (runV l s 0).1 0) (ele l.outs (i : Int)) = ele (ele s.bef (ele l.outs (i : Int))) 0 := by
     show ele (colV s.bef 0) (ele l.outs (i : Int)) = _
     rw [← hk, col_at (by omega)]
     rfl
    rw [hc]
  ·unfold R3_Play_L5
   exact br_F (by unfold ln; omega)
 unfold R3_Play_m
 rw [rCopy_s hsm.1 hsm.2, bd_ret, ck_yes (by omega), ck_yes (AL24 (by omega)), e1, bd_ret, Out.on_go]
 simp only
 rw [e2, bd_ret, Out.on_go]
noncomputable def R10_Enter_L2 (l : Lp) (t : Tgt) (before : List (List Int)) (x4 : List Off × Bool) (s14_3 : Int) : ((List Int) × Int) → Option (Stp ((List Int) × Int) (Empty)) := fun (v14_4, q15_4) =>
 bd (R10_Far_m l s14_3) fun x27 =>
 br (decide (q15_4 ≤ x27)) (
 ck (IX s14_3 (ln x4.1)) <|
 ck (IR ((ele x4.1 s14_3).place - q15_4)) <|
 bd (R1_Rest_m ((ele x4.1 s14_3).place - q15_4) t.regs) fun x38 =>
 ck (IX s14_3 (ln before)) <|
 ck (IR (q15_4 - 1)) <|
 ck (IX (q15_4 - 1) (ln (ele before s14_3))) <|
 ck (IX x38 (ln v14_4)) <|
 ck (IR (q15_4 + 1)) <|
 some (.next ((upd v14_4 x38 (ele (ele before s14_3) (q15_4 - 1))), (q15_4 + 1)))) (
 some (.brk (v14_4, q15_4)))
noncomputable def R10_Enter_L0 (l : Lp) (t : Tgt) (before : List (List Int)) (x4 : List Off × Bool) : ((List Int) × Int) → Option (Stp ((List Int) × Int) (Empty)) := fun (v14_3, s14_3) =>
 br (decide (s14_3 < (ln x4.1))) (
 bd (lp (R10_Enter_L2 l t before x4 s14_3) (v14_3, 1)) fun o22 => o22.on (fun (v14_4, q15_4) =>
 ck (IR (s14_3 + 1)) <|
 some (.next (v14_4, (s14_3 + 1)))) (fun r => r.elim)) (
 some (.brk (v14_3, s14_3)))
noncomputable def R10_Enter_m (l : Lp) (t : Tgt) (k_ : Krn) (order : List Int) (before : List (List Int)) : Option (List Int) :=
 bd (R10_Layout_m l t k_ order) fun x4 =>
 ck (0 ≤ t.regs) <|
 ck (AL t.regs.toNat 8) <|
 bd (lp (R10_Enter_L0 l t before x4) ((List.replicate t.regs.toNat (0 : Int)), 0)) fun o15 => o15.on (fun (v14_3, s14_3) =>
 some v14_3) (fun r => r.elim)
noncomputable def R10_Leave_L0 (l : Lp) (t : Tgt) (before : List (List Int)) (regs : List Int) (turns : Int) (x4 : List Off × Bool) : ((List Int) × Int) → Option (Stp ((List Int) × Int) (Empty)) := fun (v8_1, i18_1) =>
 br (decide (i18_1 < (ln l.outs))) (
 ck (IX i18_1 (ln l.outs)) <|
 ck (IX (ele l.outs i18_1) (ln before)) <|
 ck (IX 0 (ln (ele before (ele l.outs i18_1)))) <|
 br (decide (turns > 0)) (
 ck (IX i18_1 (ln l.outs)) <|
 ck (IX (ele l.outs i18_1) (ln x4.1)) <|
 ck (IR ((ele x4.1 (ele l.outs i18_1)).place + turns)) <|
 ck (IR (((ele x4.1 (ele l.outs i18_1)).place + turns) - 1)) <|
 bd (R1_Rest_m (((ele x4.1 (ele l.outs i18_1)).place + turns) - 1) t.regs) fun x45 =>
 ck (IX x45 (ln regs)) <|
 ck (AL (v8_1 ++ [(ele regs x45)]).length 8) <|
 ck (IR (i18_1 + 1)) <|
 some (.next ((v8_1 ++ [(ele regs x45)]), (i18_1 + 1)))) (
 ck (AL (v8_1 ++ [(ele (ele before (ele l.outs i18_1)) 0)]).length 8) <|
 ck (IR (i18_1 + 1)) <|
 some (.next ((v8_1 ++ [(ele (ele before (ele l.outs i18_1)) 0)]), (i18_1 + 1))))) (
 some (.brk (v8_1, i18_1)))
noncomputable def R10_Leave_m (l : Lp) (t : Tgt) (k_ : Krn) (order : List Int) (before : List (List Int)) (regs : List Int) (turns : Int) : Option (List Int) :=
 bd (R10_Layout_m l t k_ order) fun x4 =>
 bd (lp (R10_Leave_L0 l t before regs turns x4) ([], 0)) fun o9 => o9.on (fun (v8_1, i18_1) =>
 some v8_1) (fun r => r.elim)
def BefP (l : Lp) (b : List (List Int)) : Prop := b.length = l.body.length ∧ ∀ i : Nat, i < b.length → (ele b (i : Int)).length = 3
section
variable {l : Lp} {t : Tgt} {k : Krn} {order : List Int} {b : List (List Int)}
def entQ (y : LayD) (b : List (List Int)) (s : Nat) (R : List Int) : Nat → List Int
 | 0 => R
 | q + 1 => upd (entQ y b s R q) (regF y s q) (ele (ele b (s : Int)) (q : Int))
def entS (y : LayD) (b : List (List Int)) (n : Nat) : Nat → List Int
 | 0 => List.replicate n 0
 | s + 1 => entQ y b s (entS y b n s) (farV y.body s).toNat
theorem entQ_len {y : LayD} {s : Nat} {R : List Int} : ∀ q, (entQ y b s R q).length = R.length
 | 0 => rfl
 | q + 1 => by show (upd _ _ _).length = _; rw [upd_len, entQ_len q]
theorem entS_len {y : LayD} {n : Nat} : ∀ s, (entS y b n s).length = n
 | 0 => by show (List.replicate n 0).length = n; simp
 | s + 1 => by show (entQ _ _ _ _ _).length = n; rw [entQ_len, entS_len s]
theorem reg_bd {y : LayD} (hy : y.Ok) (s : Int) (q : Nat) : 0 ≤ regF y s q ∧ regF y s q < y.regs := by
 have hR := hy.regs
 exact ⟨Int.emod_nonneg _ (by omega), Int.emod_lt_of_pos _ (by omega)⟩
theorem enter_r (h : LayP l t k order) (hb : BefP l b) : lp (R10_Enter_L0 l t b (offsK l t k order, true)) (List.replicate t.regs.toNat 0, 0) = some (.go (entS (layK l t k order) b t.regs.toNat l.body.length, (l.body.length : Int))) := by
 have hy := layK_ok h
 have hn := h.loop.2.2.1
 have hR := hy.regs
 have hrr : (layK l t k order).regs = t.regs := rfl
 refine lp_det (f := R10_Enter_L0 l t b (offsK l t k order, true)) (fun s => (entS (layK l t k order) b t.regs.toNat s, (s : Int))) l.body.length (fun s hs => ?_) (by unfold R10_Enter_L0; exact br_F (by rw [offs_ln]; omega))
 have hf := far_bd hy (s : Int)
 have hfe : farV (layK l t k order).body (s : Int) = farV l.body s := rfl
 have hp := hy.pl s hs
 have hbs := hb.2 s (by have := hb.1; omega)
 have hel := entS_len (b := b) (y := layK l t k order) (n := t.regs.toNat) s
 have hfar : R10_Far_m l (s : Int) = some (farV l.body s) := rfar_s hn hy.bk s
 obtain ⟨s1, s2, s3⟩ := offs_at (t := t) (k := k) (order := order) hs
 have Y := lp_det (f := R10_Enter_L2 l t b (offsK l t k order, true) s) (ρ := Empty) (fun q => (entQ (layK l t k order) b s (entS (layK l t k order) b t.regs.toNat s) q, (q : Int) + 1)) (farV l.body s).toNat (fun q hq => by
  have hr := reg_bd hy (s : Int) q
  have hl2 := entQ_len (b := b) (y := layK l t k order) (s := s) (R := entS (layK l t k order) b t.regs.toNat s) q
  have hbl2 := hb.1
  have hreg : (ele (layK l t k order).places (s : Int) - ((q : Int) + 1)) % t.regs = regF (layK l t k order) s q := by
   unfold regF
   rw [show ele (layK l t k order).places (s : Int) - (q : Int) - 1 = ele (layK l t k order).places (s : Int) - ((q : Int) + 1) from by omega]
   rfl
  unfold R10_Enter_L2
  simp only
  rw [hfar, bd_ret, br_T (by omega), ck_IX (by omega) (by rw [offs_ln]; omega), s3, ck_IR (by omega) (by omega), Rest_s _ _ (by omega) (by omega), bd_ret, hreg, ck_IX (by omega) (by unfold ln; omega), ck_IR (by omega) (by omega), show (q : Int) + 1 - 1 = q from by omega, ck_IX (by omega) (by unfold ln; omega), ck_IX hr.1 (by unfold ln; omega), ck_IR (by omega) (by omega)]
  rfl) (by
  unfold R10_Enter_L2
  simp only
  rw [hfar, bd_ret]
  exact br_F (by omega))
 unfold R10_Enter_L0
 simp only
 rw [br_T (by rw [offs_ln]; omega), show lp (R10_Enter_L2 l t b (offsK l t k order, true) s) (entS (layK l t k order) b t.regs.toNat s, 1) = _ from Y, bd_ret, Out.on_go, ck_IR (by omega) (by omega)]
 rfl
def leaveV (l : Lp) (t : Tgt) (y : LayD) (b : List (List Int)) (regs : List Int) (turns : Int) (i : Nat) : Int :=
 if turns = 0 then ele (ele b (ele l.outs (i : Int))) 0 else ele regs ((ele y.places (ele l.outs (i : Int)) + turns - 1) % t.regs)
theorem leave_r (h : LayP l t k order) (hb : BefP l b) {regs : List Int} (hr : (regs.length : Int) = t.regs) {turns : Int} (ht : 0 ≤ turns ∧ turns ≤ 200) : lp (R10_Leave_L0 l t b regs turns (offsK l t k order, true)) ([], 0) = some (.go ((List.range l.outs.length).map (leaveV l t (layK l t k order) b regs turns), (l.outs.length : Int))) := by
 have hy := layK_ok h
 have hn := h.loop.2.2.1
 have hR := hy.regs
 have hrr : (layK l t k order).regs = t.regs := rfl
 have hol := outs_len h.loop
 refine lp_det (f := R10_Leave_L0 l t b regs turns (offsK l t k order, true)) (fun i => ((List.range i).map (leaveV l t (layK l t k order) b regs turns), (i : Int))) l.outs.length (fun i hi => ?_) (by unfold R10_Leave_L0; exact br_F (by unfold ln; omega))
 have ho := h.loop.out i hi
 rw [show l.outs.getD i 0 = ele l.outs (i : Int) from rfl] at ho
 obtain ⟨a, ha⟩ := Int.eq_ofNat_of_zero_le ho.1
 have ha' : a < l.body.length := by omega
 have hp := hy.pl a ha'
 have hbs := hb.2 a (by have := hb.1; omega)
 have hbl2 := hb.1
 obtain ⟨s1, s2, s3⟩ := offs_at (t := t) (k := k) (order := order) ha'
 have h0 := Int.emod_nonneg (ele (layK l t k order).places (a : Int) + turns - 1) (show t.regs ≠ 0 by omega)
 have h1 := Int.emod_lt_of_pos (ele (layK l t k order).places (a : Int) + turns - 1) (show 0 < t.regs by omega)
 have hlv : leaveV l t (layK l t k order) b regs turns i = if turns = 0 then ele (ele b (a : Int)) 0 else ele regs ((ele (layK l t k order).places (a : Int) + turns - 1) % t.regs) := by unfold leaveV; rw [ha]
 unfold R10_Leave_L0
 simp only
 rw [br_T (by unfold ln; omega), ck_IX (by omega) (by unfold ln; omega), ha, ck_IX (by omega) (by unfold ln; omega), ck_IX (by omega) (by unfold ln; omega)]
 by_cases c : turns = 0
 ·rw [br_F (show ¬ turns > 0 by omega), ck_yes (AL8 (by simp; omega)), ck_IR (by omega) (by omega)]
  rw [if_pos c] at hlv
  rw [← hlv, rm_succ]; rfl
 ·rw [br_T (show turns > 0 by omega), ck_IX (by omega) (by unfold ln; omega), ck_IX (by omega) (by rw [offs_ln]; omega), s3, ck_IR (by omega) (by omega), ck_IR (by omega) (by omega), Rest_s _ _ (by omega) (by omega), bd_ret, ck_IX h0 (by unfold ln; omega), ck_yes (AL8 (by simp; omega)), ck_IR (by omega) (by omega)]
  rw [if_neg c] at hlv
  rw [← hlv, rm_succ]; rfl
theorem rEnter_s (hf : l.Fine) (hk : KFine l k) (ho : order.length ≤ 9223372036854775807) (h : LayP l t k order) (hb : BefP l b) : R10_Enter_m l t k order b = some (entS (layK l t k order) b t.regs.toNat l.body.length) := by
 have hR := (layK_ok h).regs
 have hrr : (layK l t k order).regs = t.regs := rfl
 unfold R10_Enter_m
 rw [Layout_s hf hk ho, bd_ret, tb_t h, if_pos rfl, ck_yes (by omega), ck_yes (AL8 (by omega)), show ((List.range l.body.length).map (offK t k order), true) = (offsK l t k order, true) from rfl, enter_r h hb, bd_ret, Out.on_go]
theorem rLeave_s (hf : l.Fine) (hk : KFine l k) (ho : order.length ≤ 9223372036854775807) (h : LayP l t k order) (hb : BefP l b) {regs : List Int} (hr : (regs.length : Int) = t.regs) {turns : Int} (ht : 0 ≤ turns ∧ turns ≤ 200) : R10_Leave_m l t k order b regs turns = some ((List.range l.outs.length).map (leaveV l t (layK l t k order) b regs turns)) := by
 unfold R10_Leave_m
 rw [Layout_s hf hk ho, bd_ret, tb_t h, if_pos rfl, show ((List.range l.body.length).map (offK t k order), true) = (offsK l t k order, true) from rfl, leave_r h hb hr ht, bd_ret, Out.on_go]
end
theorem snoc_old {α : Type} [Inhabited α] {v : List α} {x : α} {j : Nat} (h : j < v.length) : ele (v ++ [x]) (j : Int) = ele v (j : Int) := by
 rw [ele_nat, ele_nat, List.getD_eq_getElem?_getD, List.getD_eq_getElem?_getD, List.getElem?_append_left h]
theorem snoc_new {α : Type} [Inhabited α] {v : List α} {x : α} : ele (v ++ [x]) (v.length : Int) = x := by
 rw [ele_nat, List.getD_eq_getElem?_getD, List.getElem?_append_right (Nat.le_refl _), Nat.sub_self]; rfl
def stepX (logs : List Int) (past : List (List Int)) (t : Int) (p : List Int × List (List Int)) (s : Stm) : Int :=
 if s.op = 1 then s.n else if s.op = 2 then t else if s.op = 3 then ele (ele p.2 s.ar) (idx s.sp s.pl t (ele logs s.ar)) else if s.op = 4 then refV past p.1 s.a else opV (s.op - 10) (refV past p.1 s.a) (refV past p.1 s.b)
theorem stepV_eq (logs : List Int) (past : List (List Int)) (t : Int) (p : List Int × List (List Int)) (s : Stm) :
  stepV logs past t p s = (p.1 ++ [stepX logs past t p s], if s.op = 4 then updG p.2 s.ar (idx s.sp s.pl t (ele logs s.ar)) (stepX logs past t p s) else p.2) := by
 unfold stepV stepX
 by_cases h1 : s.op = 1
 ·rw [if_pos h1, if_pos h1, if_neg (by omega)]
 rw [if_neg h1, if_neg h1]
 by_cases h2 : s.op = 2
 ·rw [if_pos h2, if_pos h2, if_neg (by omega)]
 rw [if_neg h2, if_neg h2]
 by_cases h3 : s.op = 3
 ·rw [if_pos h3, if_pos h3, if_neg (by omega)]
 rw [if_neg h3, if_neg h3]
 by_cases h4 : s.op = 4
 ·rw [if_pos h4, if_pos h4, if_pos h4]
 ·rw [if_neg h4, if_neg h4, if_neg h4]
theorem part_len {l : Lp} {past mem : List (List Int)} {t : Int} : ∀ i, i ≤ l.body.length → (partV l past mem t i).1.length = i
 | 0, _ => rfl
 | i + 1, h => by rw [partV_next (by omega), stepV_eq, List.length_append, part_len i (by omega)]; rfl
theorem part_pre {l : Lp} {past mem : List (List Int)} {t : Int} {i j : Nat} (hj : j < i) : ∀ d, i + d ≤ l.body.length → ele (partV l past mem t (i + d)).1 (j : Int) = ele (partV l past mem t i).1 (j : Int)
 | 0, _ => rfl
 | d + 1, h => by
  rw [← Nat.add_assoc, partV_next (by omega), stepV_eq]
  show ele (_ ++ [_]) _ = _
  rw [snoc_old (by rw [part_len _ (by omega)]; omega), part_pre hj d (by omega)]
def valS (l : Lp) (s : Sta) (σ m : Nat) : Int := ele (rowV l s σ) (m : Int)
def valZ (l : Lp) (s : Sta) (z a : Int) : Int := if 0 ≤ z then ele (rowV l s z.toNat) a else ele (ele s.bef a) (-z - 1)
def prt (l : Lp) (s : Sta) (σ m : Nat) : List Int × List (List Int) := partV l (runV l s σ).1 (runV l s σ).2 (σ : Int) m
def memS (l : Lp) (s : Sta) (σ m : Nat) : List (List Int) := (prt l s σ m).2
section
variable {l : Lp} {s : Sta}
theorem valS_part {σ i j : Nat} (hj : j < i) (hi : i ≤ l.body.length) : ele (prt l s σ i).1 (j : Int) = valS l s σ j := by
 unfold valS rowV
 rw [turnV_part]
 have := part_pre (l := l) (past := (runV l s σ).1) (mem := (runV l s σ).2) (t := (σ : Int)) hj (l.body.length - i) (by omega)
 rw [show i + (l.body.length - i) = l.body.length from by omega] at this
 exact this.symm
theorem refV_val (h : StaOk l s) {σ j : Nat} (hj : j ≤ l.body.length) {x : Rf} (hx : RefOk l.body.length j x) : refV (runV l s σ).1 (prt l s σ j).1 x = valZ l s (σ - x.bk) x.st := by
 obtain ⟨a1, a2, a3, a4, a5⟩ := hx
 have hst : ((x.st.toNat : Nat) : Int) = x.st := by omega
 unfold refV valZ
 by_cases hb : x.bk = 0
 ·have h4 := a4 hb
  rw [if_pos hb, if_pos (by omega), show ((σ : Int) - x.bk).toNat = σ from by omega, ← hst]
  exact valS_part (by omega) hj
 ·have h5 := a5 hb
  have hh := hist_at l s σ (x.bk - 1).toNat (by omega)
  rw [if_neg hb, show ele (runV l s σ).1 (x.bk - 1) = (runV l s σ).1.getD (x.bk - 1).toNat [] from rfl, hh]
  by_cases hz : 0 ≤ (σ : Int) - x.bk
  ·rw [if_pos hz, if_pos (by omega), show σ - 1 - (x.bk - 1).toNat = ((σ : Int) - x.bk).toNat from by omega]
  ·have hl := h.len
   rw [if_neg hz, if_neg (by omega)]
   conv => lhs; rw [← hst]
   rw [col_at (by omega), hst]
   unfold ele
   congr 1
   omega
theorem stepX_val (h : StaOk l s) {σ j : Nat} (hj : j < l.body.length) : valS l s σ j = stepX l.logs (runV l s σ).1 σ (prt l s σ j) (ele l.body (j : Int)) := by
 rw [← valS_part (i := j + 1) (by omega) (by omega)]
 unfold prt
 rw [partV_next hj, stepV_eq]
 have e := part_len (l := l) (past := (runV l s σ).1) (mem := (runV l s σ).2) (t := (σ : Int)) j (by omega)
 have key : ∀ (v : List Int) (x : Int), v.length = j → ele (v ++ [x]) (j : Int) = x := fun v x hv => by subst hv; exact snoc_new
 exact key _ _ e
theorem mem_next (h : StaOk l s) {σ j : Nat} (hj : j < l.body.length) : memS l s σ (j + 1) = if (ele l.body (j : Int)).op = 4 then updG (memS l s σ j) (ele l.body (j : Int)).ar (idx (ele l.body (j : Int)).sp (ele l.body (j : Int)).pl σ (ele l.logs (ele l.body (j : Int)).ar)) (valS l s σ j) else memS l s σ j := by
 rw [stepX_val h hj]
 unfold memS prt
 rw [partV_next hj, stepV_eq]
theorem mem_turn {σ : Nat} : memS l s (σ + 1) 0 = memS l s σ l.body.length := by
 show (turnV l (runV l s σ).1 (runV l s σ).2 σ).2 = _
 rw [turnV_part]; rfl
theorem val_const (h : StaOk l s) {σ j : Nat} (hj : j < l.body.length) (ho : (ele l.body (j : Int)).op = 1) : valS l s σ j = (ele l.body (j : Int)).n := by
 rw [stepX_val h hj, stepX, if_pos ho]
theorem val_turn (h : StaOk l s) {σ j : Nat} (hj : j < l.body.length) (ho : (ele l.body (j : Int)).op = 2) : valS l s σ j = σ := by
 rw [stepX_val h hj, stepX, if_neg (by omega), if_pos ho]
theorem val_load (h : StaOk l s) {σ j : Nat} (hj : j < l.body.length) (ho : (ele l.body (j : Int)).op = 3) : valS l s σ j = ele (ele (memS l s σ j) (ele l.body (j : Int)).ar) (idx (ele l.body (j : Int)).sp (ele l.body (j : Int)).pl σ (ele l.logs (ele l.body (j : Int)).ar)) := by
 rw [stepX_val h hj, stepX, if_neg (by omega), if_neg (by omega), if_pos ho]; rfl
theorem val_store (h : StaOk l s) {σ j : Nat} (hj : j < l.body.length) (ho : (ele l.body (j : Int)).op = 4) : valS l s σ j = valZ l s (σ - (ele l.body (j : Int)).a.bk) (ele l.body (j : Int)).a.st := by
 rw [stepX_val h hj, stepX, if_neg (by omega), if_neg (by omega), if_neg (by omega), if_pos ho, refV_val h (by omega) (show RefOk l.body.length j (ele l.body (j : Int)).a from (h.loop.stm j hj).1 (.inl ho))]
theorem val_op (h : StaOk l s) {σ j : Nat} (hj : j < l.body.length) (ho : (ele l.body (j : Int)).op > 10) : valS l s σ j = opV ((ele l.body (j : Int)).op - 10) (valZ l s (σ - (ele l.body (j : Int)).a.bk) (ele l.body (j : Int)).a.st) (valZ l s (σ - (ele l.body (j : Int)).b.bk) (ele l.body (j : Int)).b.st) := by
 rw [stepX_val h hj, stepX, if_neg (by omega), if_neg (by omega), if_neg (by omega), if_neg (by omega), refV_val h (by omega) (show RefOk l.body.length j (ele l.body (j : Int)).a from (h.loop.stm j hj).1 (.inr ho)), refV_val h (by omega) (show RefOk l.body.length j (ele l.body (j : Int)).b from (h.loop.stm j hj).2.1 ho)]
def hitsS (l : Lp) (m σ a x : Nat) : Prop := (ele l.body (m : Int)).op = 4 ∧ (ele l.body (m : Int)).ar = a ∧ idx (ele l.body (m : Int)).sp (ele l.body (m : Int)).pl σ (ele l.logs (ele l.body (m : Int)).ar) = x
theorem stm_word (hl : LoopOk l) {j : Nat} (hj : j < l.body.length) (ho : wordS (ele l.body (j : Int))) : WordOk l.logs.length (ele l.body (j : Int)) := by
 have q3 := (hl.stm j hj).2.2
 rw [show l.body.getD j Stm.zero = ele l.body (j : Int) from rfl] at q3
 unfold wordS at ho
 rcases q3 with h | h | h | h | h <;> first | exact h.2.2.1 | omega
theorem prt_ok (hf : l.Fine) (h : StaOk l s) {σ j : Nat} (hs : σ ≤ 200) (hj : j ≤ l.body.length) : MemOk l (memS l s σ j) := by
 obtain ⟨r1, r2, r3⟩ := run_ok hf h σ (by omega)
 exact (partV_ok hf (t := (σ : Int)) (by unfold InR; omega) (fun r hr => (r1 r hr).rng) r2 j hj).2.2
theorem seq_words (hf : l.Fine) (h : StaOk l s) : ∀ σ : Nat, σ ≤ 200 → ∀ j : Nat, j ≤ l.body.length → Words (hitsS l) (valS l s) (fun m σ' => m < l.body.length ∧ lexL m σ' j σ) s.mem (memS l s σ j) := fun σ => by
 have inner : ∀ σ : Nat, σ ≤ 200 → Words (hitsS l) (valS l s) (fun m σ' => m < l.body.length ∧ lexL m σ' 0 σ) s.mem (memS l s σ 0) → ∀ j : Nat, j ≤ l.body.length → Words (hitsS l) (valS l s) (fun m σ' => m < l.body.length ∧ lexL m σ' j σ) s.mem (memS l s σ j) := fun σ hσ h0 j => by
  induction j with
  | zero => exact fun _ => h0
  | succ j ih =>
   intro hj
   have ih := ih (by omega)
   have hD : ∀ m σ', ((m < l.body.length ∧ lexL m σ' j σ) ∨ (m = j ∧ σ' = σ)) ↔ (m < l.body.length ∧ lexL m σ' (j + 1) σ) := fun m σ' => by unfold lexL; omega
   rw [mem_next h (by omega)]
   by_cases ho : (ele l.body (j : Int)).op = 4
   ·have hm := prt_ok hf h hσ (show j ≤ l.body.length by omega)
    have hw := stm_word h.loop (show j < l.body.length by omega) (.inr ho)
    obtain ⟨w1, w2, w3⟩ := word_ix h.loop hm hw (σ : Int)
    obtain ⟨a, ha⟩ := Int.eq_ofNat_of_zero_le w1.1
    obtain ⟨x, hx⟩ := Int.eq_ofNat_of_zero_le w3.1
    rw [if_pos ho]
    refine Words.congr (Words.put ih (m0 := j) (σ0 := σ) (a0 := a) (x0 := x) (fun a' x' => ?_) (fun m σ' hd hh => ?_) ?_ (fun a' x' hn => ?_)) fun m σ' _ _ _ => hD m σ'
    ·unfold hitsS
     rw [ha] at hx ⊢
     rw [hx]
     constructor
     ·rintro ⟨_, e1, e2⟩; omega
     ·rintro ⟨rfl, rfl⟩; exact ⟨ho, rfl, rfl⟩
    ·have := hd.2; unfold lexL at this ⊢; omega
    ·unfold IX ln at w1 w3
     rw [hx] at w3
     rw [hx, ha]
     rw [ha] at w1 w3
     exact wd_put (by omega) (by omega)
    ·unfold IX ln at w1
     rw [hx, ha]
     rw [ha] at w1
     exact wd_old (by omega) hn
   ·rw [if_neg ho]
    exact Words.congr (Words.skip ih (m0 := j) (σ0 := σ) fun a x hh => ho hh.1) fun m σ' _ _ _ => hD m σ'
 induction σ with
 | zero => exact fun hσ => inner 0 hσ fun a x => .inr ⟨fun m σ' d => by have := d.2; unfold lexL at this; omega, rfl⟩
 | succ σ ih =>
  refine fun hσ => inner (σ + 1) hσ ?_
  rw [mem_turn]
  exact Words.congr (ih (by omega) l.body.length (Nat.le_refl _)) fun m σ' _ _ _ => by unfold lexL; omega
theorem lin_mod {s p x z q : Int} : (s * (x - z * q) + p) % z = (s * x + p) % z := by
 rw [show s * (x - z * q) + p = (s * x + p) + z * (-(s * q)) from by rw [Int.mul_sub, Int.mul_left_comm s z q, Int.mul_neg]; omega, Int.add_mul_emod_self_left]
theorem meet_of {a b : Stm} {size σ σ' u : Int} (hs : 0 < size) (h : (a.sp * σ + a.pl) % size = (b.sp * σ' + b.pl) % size) : MeetP a b (σ' - σ - size * u) size := by
 have h0 := Int.emod_nonneg σ (show size ≠ 0 by omega)
 have h1 := Int.emod_lt_of_pos σ hs
 have h2 := Int.emod_add_mul_ediv σ size
 refine ⟨(σ % size).toNat, by omega, ?_⟩
 rw [show (((σ % size).toNat : Nat) : Int) = σ - size * (σ / size) from by omega, lin_mod,
  show σ - size * (σ / size) + (σ' - σ - size * u) = σ' - size * (σ / size + u) from by rw [Int.mul_add]; omega, lin_mod]
 exact h
theorem least_in {P : Int → Prop} {lo : Int} : ∀ d : Nat, P (lo + d) → ∃ e : Nat, e ≤ d ∧ P (lo + e) ∧ ∀ k, lo ≤ k → k < lo + e → ¬ P k := by
 intro d
 induction d using Nat.strongRecOn with
 | _ d ih =>
  intro h
  by_cases c : ∃ e : Nat, e < d ∧ P (lo + e)
  ·obtain ⟨e, he, hp⟩ := c
   obtain ⟨e', h1, h2, h3⟩ := ih e he hp
   exact ⟨e', by omega, h2, h3⟩
  ·refine ⟨d, Nat.le_refl _, h, fun k h1 h2 hp => c ⟨(k - lo).toNat, by omega, ?_⟩⟩
   rw [show lo + (((k - lo).toNat : Nat) : Int) = k from by omega]
   exact hp
end
section
variable {l : Lp} {t : Tgt} {k : Krn} {order : List Int}
def pipeK (l : Lp) (t : Tgt) (k : Krn) (order : List Int) (s : Sta) (N : Nat) : Pipe :=
 ⟨l.body.length, N, k.pace, t.regs, fun m => ele (layK l t k order).time (m : Int), fun m => ele (layK l t k order).ready (m : Int), fun m => ele (layK l t k order).places (m : Int), valS l s⟩
theorem layK_at {m : Nat} (hm : m < l.body.length) : ele (layK l t k order).time (m : Int) = timeK k (oprAt k order m) ∧ ele (layK l t k order).ready (m : Int) = timeK k (oprAt k order m) + waitV t (oprAt k order m).op ∧ ele (layK l t k order).places (m : Int) = (oprAt k order m).dest + (oprAt k order m).stage :=
 ⟨ele_rm hm, ele_rm hm, ele_rm hm⟩
theorem wait_ge {t : Tgt} (ht : tgtOk t = true) (op : Int) : 1 ≤ waitV t op ∧ waitV t op ≤ 6 := by
 unfold waitV
 rw [if_pos ht]
 rw [tgtOk_iff] at ht
 exact sel3_bd (by omega) (by omega) (by omega)
theorem pipe_ok (h : LayP l t k order) {s : Sta} {N : Nat} : (pipeK l t k order s N).Ok := by
 have hy := layK_ok h
 refine ⟨hy.regs.1, hy.pace.1, fun m hm => ?_⟩
 show ele (layK l t k order).time (m : Int) < ele (layK l t k order).ready (m : Int)
 have hw := wait_ge h.tgt (oprAt k order m).op
 obtain ⟨a1, a2, _⟩ := layK_at (t := t) (k := k) (order := order) (show m < l.body.length from hm)
 omega
theorem mem_order (h : TakesP l t k order) {s : Sta} {N m σ m' σ' : Nat} (hm : m < l.body.length) (hm' : m' < l.body.length) (hσ : σ' ≤ 200) (hlt : lexL m σ m' σ') (hc : memC l m m')
  (hx : idx (ele l.body (m : Int)).sp (ele l.body (m : Int)).pl σ (ele l.logs (ele l.body (m : Int)).ar) = idx (ele l.body (m' : Int)).sp (ele l.body (m' : Int)).pl σ' (ele l.logs (ele l.body (m' : Int)).ar)) :
  (pipeK l t k order s N).cyc m σ + (if (ele l.body (m : Int)).op = 4 then 1 else 0) ≤ (pipeK l t k order s N).cyc m' σ' := by
 have hl := h.lay.loop
 obtain ⟨c1, c2, c3, c4⟩ := hc
 obtain ⟨n1, i1, g1, g2⟩ := word_near hl hm c1
 obtain ⟨n2, i2, _⟩ := word_near hl hm' c2
 obtain ⟨p1, p2, p3⟩ := pow2 (show (ele l.logs (ele l.body (m : Int)).ar).toNat ≤ 5 from by omega)
 have hle : σ ≤ σ' := by unfold lexL at hlt; omega
 rw [← c3] at hx
 unfold NearS at n1 n2
 have o1 : OkIdx (ele l.body (m : Int)).sp (ele l.body (m : Int)).pl σ (ele l.logs (ele l.body (m : Int)).ar) := ⟨g1, g2, n1.1, n1.2.1, n1.2.2.1, n1.2.2.2, by omega, by omega⟩
 have o2 : OkIdx (ele l.body (m' : Int)).sp (ele l.body (m' : Int)).pl σ' (ele l.logs (ele l.body (m : Int)).ar) := ⟨g1, g2, n2.1, n2.2.1, n2.2.2.1, n2.2.2.2, by omega, by omega⟩
 unfold idx at hx
 rw [if_pos o1, if_pos o2] at hx
 have hS : sizeV l (ele l.body (m : Int)) = 2 ^ (ele l.logs (ele l.body (m : Int)).ar).toNat := rfl
 rw [← hS] at hx p1 p2
 generalize hz : sizeV l (ele l.body (m : Int)) = z at hx p1 p2
 -- how far back, within one round
 have key : ∃ u : Int, leastV m m' ≤ (σ' : Int) - σ - z * u ∧ (σ' : Int) - σ - z * u ≤ z ∧ 0 ≤ z * u := by
  unfold leastV
  by_cases hd : σ = σ'
  ·refine ⟨0, ?_, ?_, ?_⟩
   ·rw [if_neg (by unfold lexL at hlt; omega)]; omega
   ·omega
   ·omega
  ·have q0 := Int.emod_nonneg ((σ' : Int) - σ - 1) (show z ≠ 0 by omega)
   have q1 := Int.emod_lt_of_pos ((σ' : Int) - σ - 1) (show 0 < z by omega)
   have q2 := Int.emod_add_mul_ediv ((σ' : Int) - σ - 1) z
   have q3 := Int.mul_nonneg (show 0 ≤ z by omega) (Int.ediv_nonneg (show 0 ≤ (σ' : Int) - σ - 1 by omega) (show 0 ≤ z by omega))
   refine ⟨((σ' : Int) - σ - 1) / z, ?_, by omega, q3⟩
   split <;> omega
 obtain ⟨u, k1, k2, k3⟩ := key
 have hmeet := meet_of (u := u) (show 0 < z by omega) hx
 obtain ⟨e, he, hp, hfirst⟩ := least_in (P := fun b => MeetP (ele l.body (m : Int)) (ele l.body (m' : Int)) b z) (lo := leastV m m') ((σ' : Int) - σ - z * u - leastV m m').toNat (by
  rw [show leastV m m' + ((((σ' : Int) - σ - z * u - leastV m m').toNat : Nat) : Int) = (σ' : Int) - σ - z * u from by omega]
  exact hmeet)
 have hedge := h.edge ⟨m, m', leastV m m' + e, if (ele l.body (m : Int)).op = 4 then 1 else 0⟩ ⟨m', hm', .inr ⟨m, hm, ⟨⟨c1, c2, c3, c4⟩, rfl, rfl, rfl, by show leastV m m' ≤ leastV m m' + e; omega, by rw [hz]; show leastV m m' + e ≤ z; omega, by rw [hz]; exact hp, fun b b1 b2 => by rw [hz]; exact hfirst b b1 b2⟩⟩⟩
 have hpc := (layK_ok h.lay).pace
 have hpe : (layK l t k order).pace = k.pace := rfl
 unfold TEdgeP at hedge
 rw [hpe] at hpc hedge
 have hmul := Int.mul_le_mul_of_nonneg_right (show leastV m m' + e ≤ (σ' : Int) - σ by omega) (show 0 ≤ k.pace by omega)
 rw [Int.sub_mul] at hmul
 show ele (layK l t k order).time (m : Int) + σ * k.pace + _ ≤ ele (layK l t k order).time (m' : Int) + σ' * k.pace
 have hedge' : ele (layK l t k order).time (m : Int) + (if (ele l.body (m : Int)).op = 4 then 1 else 0) ≤ ele (layK l t k order).time (m' : Int) + (leastV m m' + e) * k.pace := hedge
 omega
def InitK (l : Lp) (t : Tgt) (k : Krn) (order : List Int) (b : List (List Int)) (r0 : List Int) : Prop := ∀ a : Nat, a < l.body.length → ∀ q : Nat, q < (farV l.body (a : Int)).toNat → ele r0 (regF (layK l t k order) (a : Int) q) = ele (ele b (a : Int)) (q : Int)
theorem same_op (h : LayP l t k order) {m : Nat} (hm : m < l.body.length) : (oprAt k order m).op = (ele l.body (m : Int)).op ∧ (oprAt k order m).ar = (ele l.body (m : Int)).ar ∧ (oprAt k order m).sp = (ele l.body (m : Int)).sp ∧ (oprAt k order m).pl = (ele l.body (m : Int)).pl ∧ (oprAt k order m).n = (ele l.body (m : Int)).n := (h.ord m hm).2.2
theorem read_val (h : TakesP l t k order) {s : Sta} {N m σ : Nat} {r0 r : List Int} (h0 : InitK l t k order s.bef r0) (hr : (pipeK l t k order s N).Regs r0 r ((pipeK l t k order s N).cyc m σ)) (hm : m < l.body.length) (hσ : σ < N)
  {x : Rf} (hx : x ∈ usesL (ele l.body (m : Int))) : ele r ((ele (layK l t k order).places x.st + (σ - x.bk)) % t.regs) = valZ l s (σ - x.bk) x.st := by
 have hy := layK_ok h.lay
 obtain ⟨b1, b2, b3, b4⟩ := layK_us h.lay m hm x hx
 obtain ⟨a, ha⟩ := Int.eq_ofNat_of_zero_le b1
 have hal : a < l.body.length := by omega
 have hedge := h.edge ⟨x.st, m, x.bk, waitV t (ele l.body x.st).op⟩ ⟨m, hm, .inl ⟨x, hx, rfl⟩⟩
 have hpc : 1 ≤ k.pace := hy.pace.1
 have hrg : 1 ≤ t.regs := hy.regs.1
 unfold TEdgeP at hedge
 have hedge' : ele (layK l t k order).time (a : Int) + waitV t (ele l.body (a : Int)).op ≤ ele (layK l t k order).time (m : Int) + x.bk * k.pace := by rw [ha] at hedge; exact hedge
 obtain ⟨l1, l2, l3⟩ := layK_at (t := t) (k := k) (order := order) hal
 have hso := (same_op h.lay hal).1
 rw [hso, ← l1] at l2
 have hcyc : (pipeK l t k order s N).cyc m σ = ele (layK l t k order).time (m : Int) + σ * k.pace := rfl
 have hdue : ∀ m' σ' : Nat, (pipeK l t k order s N).due m' σ' = ele (layK l t k order).ready (m' : Int) + σ' * k.pace := fun _ _ => rfl
 have hreg : ∀ m' σ' : Nat, (pipeK l t k order s N).reg m' σ' = (ele (layK l t k order).places (m' : Int) + σ') % t.regs := fun _ _ => rfl
 have hap : ∀ m' : Nat, m' < l.body.length → ApartP (layK l t k order) a m' := fun m' hm' => h.apart a m' hal hm'
 by_cases hz : 0 ≤ (σ : Int) - x.bk
 ·obtain ⟨z, hz'⟩ := Int.eq_ofNat_of_zero_le hz
  have hzp : (z : Int) * k.pace = σ * k.pace - x.bk * k.pace := by rw [← hz', Int.sub_mul]
  have := hr.put a z ⟨hal, by show z < N; omega⟩ (by rw [hdue, hcyc]; omega) fun m' σ' hi d1 d2 d3 => by
   rw [hdue, hdue] at d1
   rw [hdue, hcyc] at d2
   rw [hreg, hreg] at d3
   have hjp : ((σ' : Int) - z) * k.pace = σ' * k.pace - z * k.pace := Int.sub_mul ..
   by_cases hne : m' = a ∧ σ' = z
   ·exact hne
   ·exfalso
    refine hap m' hi.1 ((σ' : Int) - z) (by omega) ?_ (.inl ⟨m, x, ⟨hm, hx, by rw [ha], .inl ⟨?_, ?_⟩⟩⟩)
    ·have e := Int.emod_eq_emod_iff_emod_sub_eq_zero.1 d3
     rw [show ele (layK l t k order).places (m' : Int) + ((σ' : Int) - z) - ele (layK l t k order).places (a : Int) = ele (layK l t k order).places (m' : Int) + σ' - (ele (layK l t k order).places (a : Int) + z) from by omega]
     exact e
    ·show _ ≤ _ + ((σ' : Int) - z) * k.pace
     omega
    ·show _ + ((σ' : Int) - z) * k.pace ≤ _ + x.bk * k.pace
     omega
  rw [ha, hz', ← hreg, this]
  unfold valZ
  rw [if_pos (by omega)]
  rfl
 ·have hq : (-((σ : Int) - x.bk) - 1).toNat < (farV l.body (a : Int)).toNat := by
   have := farN_ge (body := l.body) (a : Int) l.body.length m hm x hx ha
   unfold farV
   omega
  have hi := h0 a hal _ hq
  rw [show regF (layK l t k order) (a : Int) (-((σ : Int) - x.bk) - 1).toNat = (ele (layK l t k order).places (a : Int) + (σ - x.bk)) % t.regs from by
   unfold regF
   rw [show ele (layK l t k order).places (a : Int) - (((-((σ : Int) - x.bk) - 1).toNat : Nat) : Int) - 1 = ele (layK l t k order).places (a : Int) + (σ - x.bk) from by omega]
   rfl] at hi
  have old := hr.old ((ele (layK l t k order).places (a : Int) + (σ - x.bk)) % t.regs) (Int.emod_nonneg _ (by omega)) (Int.emod_lt_of_pos _ (by omega)) fun m' σ' hin d1 d2 => by
   rw [hdue, hcyc] at d1
   rw [hreg] at d2
   have hjp : ((σ' : Int) - (σ - x.bk)) * k.pace = σ' * k.pace - (σ * k.pace - x.bk * k.pace) := by rw [Int.sub_mul, Int.sub_mul]
   refine hap m' hin.1 ((σ' : Int) - (σ - x.bk)) (.inr (by omega)) ?_ (.inl ⟨m, x, ⟨hm, hx, by rw [ha], .inr ⟨by omega, by omega, ?_⟩⟩⟩)
   ·have e := Int.emod_eq_emod_iff_emod_sub_eq_zero.1 d2
    rw [show ele (layK l t k order).places (m' : Int) + ((σ' : Int) - (σ - x.bk)) - ele (layK l t k order).places (a : Int) = ele (layK l t k order).places (m' : Int) + σ' - (ele (layK l t k order).places (a : Int) + (σ - x.bk)) from by omega]
    exact e
   ·show _ + ((σ' : Int) - (σ - x.bk)) * k.pace ≤ _ + x.bk * k.pace
    omega
  rw [ha, old, hi]
  unfold valZ
  rw [if_neg hz, show (((-((σ : Int) - x.bk) - 1).toNat : Nat) : Int) = -((σ : Int) - x.bk) - 1 from by omega]
theorem load_val (hf : l.Fine) (h : TakesP l t k order) {s : Sta} (hs : StaOk l s) {N m σ : Nat} (hN : N ≤ 200) {M : List (List Int)} (hM : MemOk l M)
  (hw : Words (hitsS l) (valS l s) (fun m' σ' => (pipeK l t k order s N).In m' σ' ∧ (pipeK l t k order s N).cyc m' σ' < (pipeK l t k order s N).cyc m σ) s.mem M) (hm : m < l.body.length) (hσ : σ < N) (ho : (ele l.body (m : Int)).op = 3) :
  ele (ele M (ele l.body (m : Int)).ar) (idx (ele l.body (m : Int)).sp (ele l.body (m : Int)).pl σ (ele l.logs (ele l.body (m : Int)).ar)) = valS l s σ m := by
 rw [val_load hs hm ho]
 have hwk := stm_word hs.loop hm (.inl ho)
 obtain ⟨w1, w2, w3⟩ := word_ix hs.loop hM hwk (σ : Int)
 obtain ⟨a, ha⟩ := Int.eq_ofNat_of_zero_le w1.1
 obtain ⟨x, hx⟩ := Int.eq_ofNat_of_zero_le w3.1
 have hq := seq_words hf hs σ (by omega) m (by omega)
 have := Words.same hw hq (a := a) (x := x) fun m' σ' hh => by
  obtain ⟨h1, h2, h3⟩ := hh
  constructor
  ·rintro ⟨hi, hc⟩
   refine ⟨hi.1, Classical.byContradiction fun hn => ?_⟩
   by_cases hn2 : lexL m σ m' σ'
   ·have := mem_order (s := s) (N := N) h hm hi.1 (by have := hi.2; show σ' ≤ 200; have : σ' < N := hi.2; omega) hn2 ⟨.inl ho, .inr h1, by rw [ha, h2], .inr h1⟩ (by rw [hx, h3])
    rw [if_neg (by omega)] at this
    omega
   ·obtain ⟨e1, e2⟩ := lex_tri hn hn2
    subst e1; omega
  ·rintro ⟨hm', hl⟩
   have hσ' : σ' < N := by unfold lexL at hl; omega
   refine ⟨⟨hm', hσ'⟩, ?_⟩
   have := mem_order (s := s) (N := N) h hm' hm (by omega) hl ⟨.inr h1, .inl ho, by rw [ha, h2], .inl h1⟩ (by rw [hx, h3])
   rw [if_pos h1] at this
   omega
 rw [hx, ha]
 exact this
end
noncomputable def R5_Logs_L2 (m_ : List (List Int)) (i5_4 : Int) : Int → Option (Stp (Int) (Empty)) := fun log6_5 =>
 bdG (decide (log6_5 ≤ 5)) (R1_Size_m log6_5) fun x14 =>
 ck ((decide (log6_5 ≤ 5)) = true → IX i5_4 (ln m_)) <|
 br ((decide (log6_5 ≤ 5)) && (x14 != (ln (ele m_ i5_4)))) (
 ck (IR (log6_5 + 1)) <|
 some (.next (log6_5 + 1))) (
 some (.brk log6_5))
noncomputable def R5_Logs_L0 (m_ : List (List Int)) : ((List Int) × Int) → Option (Stp ((List Int) × Int) (List Int × Bool)) := fun (v1_4, i5_4) =>
 br (decide (i5_4 < (ln m_))) (
 bd (lp (R5_Logs_L2 m_ i5_4) 0) fun o9 => o9.on (fun log6_5 =>
 br (decide (log6_5 > 5)) (
 some (.ret ([], false))) (
 ck (AL (v1_4 ++ [log6_5]).length 8) <|
 ck (IR (i5_4 + 1)) <|
 some (.next ((v1_4 ++ [log6_5]), (i5_4 + 1))))) (fun r => r.elim)) (
 some (.brk (v1_4, i5_4)))
noncomputable def R5_Logs_m (m_ : List (List Int)) : Option (List Int × Bool) :=
 bd (lp (R5_Logs_L0 m_) ([], 0)) fun o2 => o2.on (fun (v1_4, i5_4) =>
 some (v1_4, true)) (fun r => some r)
noncomputable def R5_Play_L2 (v28_9 : List Due) (now18_9 : Int) : ((List Int) × (List Due) × Int) → Option (Stp ((List Int) × (List Due) × Int) (Empty)) := fun (v3_10, v41_10, i20_10) =>
 br (decide (i20_10 < (ln v28_9))) (
 ck (IX i20_10 (ln v28_9)) <|
 br ((ele v28_9 i20_10).due == now18_9) (
 ck (IX i20_10 (ln v28_9)) <|
 ck (IX i20_10 (ln v28_9)) <|
 ck (IX ((ele v28_9 i20_10).reg) (ln v3_10)) <|
 ck (IR (i20_10 + 1)) <|
 some (.next ((upd v3_10 ((ele v28_9 i20_10).reg) ((ele v28_9 i20_10).v)), v41_10, (i20_10 + 1)))) (
 ck (IX i20_10 (ln v28_9)) <|
 ck (AL (v41_10 ++ [(ele v28_9 i20_10)]).length 24) <|
 ck (IR (i20_10 + 1)) <|
 some (.next (v3_10, (v41_10 ++ [(ele v28_9 i20_10)]), (i20_10 + 1))))) (
 some (.brk (v3_10, v41_10, i20_10)))
noncomputable def R5_Play_L4 (t : Tgt) (k_ : Krn) (regs : List Int) (turns : Int) (x13 : List Int × Bool) (m13_9 : List (List Int)) (now18_9 : Int) (v3_10 : List Int) : ((List Due) × (List (List Int)) × Int) → Option (Stp ((List Due) × (List (List Int)) × Int) (Empty)) := fun (v41_11, r60_11, i23_11) =>
 br (decide (i23_11 < (ln k_.ops))) (
 ck (IX i23_11 (ln k_.ops)) <|
 ck (IR ((Int.tdiv now18_9 k_.pace) - (ele k_.ops i23_11).stage)) <|
 ck (k_.pace ≠ 0) <|
 br ((((ele k_.ops i23_11).slot != (Int.tmod now18_9 k_.pace)) || (decide (((Int.tdiv now18_9 k_.pace) - (ele k_.ops i23_11).stage) < 0))) || (decide (((Int.tdiv now18_9 k_.pace) - (ele k_.ops i23_11).stage) ≥ turns))) (
 ck (IR (i23_11 + 1)) <|
 some (.next (v41_11, r60_11, (i23_11 + 1)))) (
 ck (IR ((ele k_.ops i23_11).a + (Int.tdiv now18_9 k_.pace))) <|
 ck (t.regs ≠ 0) <|
 ck (IX (Int.tmod ((ele k_.ops i23_11).a + (Int.tdiv now18_9 k_.pace)) t.regs) (ln v3_10)) <|
 ck (IR ((ele k_.ops i23_11).b + (Int.tdiv now18_9 k_.pace))) <|
 ck (t.regs ≠ 0) <|
 ck (IX (Int.tmod ((ele k_.ops i23_11).b + (Int.tdiv now18_9 k_.pace)) t.regs) (ln v3_10)) <|
 br ((ele k_.ops i23_11).op == 1) (
 bd (R1_Class_m ((ele k_.ops i23_11).op)) fun x100 =>
 ck (IX x100 3) <|
 ck (IR (now18_9 + (sel3 t.w0 t.w1 t.w2 x100))) <|
 ck (IR ((ele k_.ops i23_11).dest + (Int.tdiv now18_9 k_.pace))) <|
 ck (t.regs ≠ 0) <|
 ck (AL (v41_11 ++ [(Due.mk (now18_9 + (sel3 t.w0 t.w1 t.w2 x100)) (Int.tmod ((ele k_.ops i23_11).dest + (Int.tdiv now18_9 k_.pace)) t.regs) ((ele k_.ops i23_11).n))]).length 24) <|
 ck (IR (i23_11 + 1)) <|
 some (.next ((v41_11 ++ [(Due.mk (now18_9 + (sel3 t.w0 t.w1 t.w2 x100)) (Int.tmod ((ele k_.ops i23_11).dest + (Int.tdiv now18_9 k_.pace)) t.regs) ((ele k_.ops i23_11).n))]), r60_11, (i23_11 + 1)))) (
 br ((ele k_.ops i23_11).op == 2) (
 bd (R1_Class_m ((ele k_.ops i23_11).op)) fun x121 =>
 ck (IX x121 3) <|
 ck (IR (now18_9 + (sel3 t.w0 t.w1 t.w2 x121))) <|
 ck (IR ((ele k_.ops i23_11).dest + (Int.tdiv now18_9 k_.pace))) <|
 ck (t.regs ≠ 0) <|
 ck (AL (v41_11 ++ [(Due.mk (now18_9 + (sel3 t.w0 t.w1 t.w2 x121)) (Int.tmod ((ele k_.ops i23_11).dest + (Int.tdiv now18_9 k_.pace)) t.regs) ((Int.tdiv now18_9 k_.pace) - (ele k_.ops i23_11).stage))]).length 24) <|
 ck (IR (i23_11 + 1)) <|
 some (.next ((v41_11 ++ [(Due.mk (now18_9 + (sel3 t.w0 t.w1 t.w2 x121)) (Int.tmod ((ele k_.ops i23_11).dest + (Int.tdiv now18_9 k_.pace)) t.regs) ((Int.tdiv now18_9 k_.pace) - (ele k_.ops i23_11).stage))]), r60_11, (i23_11 + 1)))) (
 br ((ele k_.ops i23_11).op == 3) (
 ck (IX ((ele k_.ops i23_11).ar) (ln m13_9)) <|
 ck (IX ((ele k_.ops i23_11).ar) (ln x13.1)) <|
 bd (R1_Index_m ((ele k_.ops i23_11).sp) ((ele k_.ops i23_11).pl) ((Int.tdiv now18_9 k_.pace) - (ele k_.ops i23_11).stage) (ele x13.1 ((ele k_.ops i23_11).ar))) fun x153 =>
 ck (IX x153 (ln (ele m13_9 ((ele k_.ops i23_11).ar)))) <|
 bd (R1_Class_m ((ele k_.ops i23_11).op)) fun x160 =>
 ck (IX x160 3) <|
 ck (IR (now18_9 + (sel3 t.w0 t.w1 t.w2 x160))) <|
 ck (IR ((ele k_.ops i23_11).dest + (Int.tdiv now18_9 k_.pace))) <|
 ck (t.regs ≠ 0) <|
 ck (AL (v41_11 ++ [(Due.mk (now18_9 + (sel3 t.w0 t.w1 t.w2 x160)) (Int.tmod ((ele k_.ops i23_11).dest + (Int.tdiv now18_9 k_.pace)) t.regs) (ele (ele m13_9 ((ele k_.ops i23_11).ar)) x153))]).length 24) <|
 ck (IR (i23_11 + 1)) <|
 some (.next ((v41_11 ++ [(Due.mk (now18_9 + (sel3 t.w0 t.w1 t.w2 x160)) (Int.tmod ((ele k_.ops i23_11).dest + (Int.tdiv now18_9 k_.pace)) t.regs) (ele (ele m13_9 ((ele k_.ops i23_11).ar)) x153))]), r60_11, (i23_11 + 1)))) (
 br ((ele k_.ops i23_11).op == 4) (
 ck (IX ((ele k_.ops i23_11).ar) (ln r60_11)) <|
 ck (IX ((ele k_.ops i23_11).ar) (ln x13.1)) <|
 bd (R1_Index_m ((ele k_.ops i23_11).sp) ((ele k_.ops i23_11).pl) ((Int.tdiv now18_9 k_.pace) - (ele k_.ops i23_11).stage) (ele x13.1 ((ele k_.ops i23_11).ar))) fun x189 =>
 ck (IX x189 (ln (ele r60_11 ((ele k_.ops i23_11).ar)))) <|
 bd (R1_Class_m ((ele k_.ops i23_11).op)) fun x198 =>
 ck (IX x198 3) <|
 ck (IR (now18_9 + (sel3 t.w0 t.w1 t.w2 x198))) <|
 ck (IR ((ele k_.ops i23_11).dest + (Int.tdiv now18_9 k_.pace))) <|
 ck (t.regs ≠ 0) <|
 ck (AL (v41_11 ++ [(Due.mk (now18_9 + (sel3 t.w0 t.w1 t.w2 x198)) (Int.tmod ((ele k_.ops i23_11).dest + (Int.tdiv now18_9 k_.pace)) t.regs) (ele v3_10 (Int.tmod ((ele k_.ops i23_11).a + (Int.tdiv now18_9 k_.pace)) t.regs)))]).length 24) <|
 ck (IR (i23_11 + 1)) <|
 some (.next ((v41_11 ++ [(Due.mk (now18_9 + (sel3 t.w0 t.w1 t.w2 x198)) (Int.tmod ((ele k_.ops i23_11).dest + (Int.tdiv now18_9 k_.pace)) t.regs) (ele v3_10 (Int.tmod ((ele k_.ops i23_11).a + (Int.tdiv now18_9 k_.pace)) t.regs)))]), (updG r60_11 ((ele k_.ops i23_11).ar) x189 (ele v3_10 (Int.tmod ((ele k_.ops i23_11).a + (Int.tdiv now18_9 k_.pace)) t.regs))), (i23_11 + 1)))) (
 ck (IR ((ele k_.ops i23_11).op - 10)) <|
 bd (R1_Op_m ((ele k_.ops i23_11).op - 10) (ele v3_10 (Int.tmod ((ele k_.ops i23_11).a + (Int.tdiv now18_9 k_.pace)) t.regs)) (ele v3_10 (Int.tmod ((ele k_.ops i23_11).b + (Int.tdiv now18_9 k_.pace)) t.regs))) fun x219 =>
 bd (R1_Class_m ((ele k_.ops i23_11).op)) fun x222 =>
 ck (IX x222 3) <|
 ck (IR (now18_9 + (sel3 t.w0 t.w1 t.w2 x222))) <|
 ck (IR ((ele k_.ops i23_11).dest + (Int.tdiv now18_9 k_.pace))) <|
 ck (t.regs ≠ 0) <|
 ck (AL (v41_11 ++ [(Due.mk (now18_9 + (sel3 t.w0 t.w1 t.w2 x222)) (Int.tmod ((ele k_.ops i23_11).dest + (Int.tdiv now18_9 k_.pace)) t.regs) x219)]).length 24) <|
 ck (IR (i23_11 + 1)) <|
 some (.next ((v41_11 ++ [(Due.mk (now18_9 + (sel3 t.w0 t.w1 t.w2 x222)) (Int.tmod ((ele k_.ops i23_11).dest + (Int.tdiv now18_9 k_.pace)) t.regs) x219)]), r60_11, (i23_11 + 1))))))))) (
 some (.brk (v41_11, r60_11, i23_11)))
noncomputable def R5_Play_L0 (t : Tgt) (k_ : Krn) (regs : List Int) (turns : Int) (x13 : List Int × Bool) : ((List Due) × (List Int) × (List (List Int)) × Int) → Option (Stp ((List Due) × (List Int) × (List (List Int)) × Int) (Empty)) := fun (v28_9, v3_9, m13_9, now18_9) =>
 ck (IR ((((turns + k_.stages) - 1) * k_.pace) + 6)) <|
 ck (IR (((((turns + k_.stages) - 1) * k_.pace) + 6) + 1)) <|
 br (decide (now18_9 < (((((turns + k_.stages) - 1) * k_.pace) + 6) + 1))) (
 bd (lp (R5_Play_L2 v28_9 now18_9) (v3_9, [], 0)) fun o42 => o42.on (fun (v3_10, v41_10, i20_10) =>
 br (decide (now18_9 ≥ (((turns + k_.stages) - 1) * k_.pace))) (
 ck (IR (now18_9 + 1)) <|
 some (.next (v41_10, v3_10, m13_9, (now18_9 + 1)))) (
 ck (k_.pace ≠ 0) <|
 ck (IR (Int.tdiv now18_9 k_.pace)) <|
 bd (R3_Copy_m m13_9) fun x56 =>
 bd (lp (R5_Play_L4 t k_ regs turns x13 m13_9 now18_9 v3_10) (v41_10, x56, 0)) fun o61 => o61.on (fun (v41_11, r60_11, i23_11) =>
 ck (IR (now18_9 + 1)) <|
 some (.next (v41_11, v3_10, r60_11, (now18_9 + 1)))) (fun r => r.elim))) (fun r => r.elim)) (
 some (.brk (v28_9, v3_9, m13_9, now18_9)))
noncomputable def R5_Play_m (t : Tgt) (k_ : Krn) (regs : List Int) (memory : List (List Int)) (turns : Int) : Option (List Int × List (List Int)) :=
 ck (AL ([] ++ regs).length 8) <|
 bd (R3_Copy_m memory) fun x8 =>
 bd (R5_Logs_m memory) fun x13 =>
 br (turns == 0) (
 some (([] ++ regs), x8)) (
 ck (IR (turns + k_.stages)) <|
 ck (IR ((turns + k_.stages) - 1)) <|
 ck (IR (((turns + k_.stages) - 1) * k_.pace)) <|
 bd (lp (R5_Play_L0 t k_ regs turns x13) ([], ([] ++ regs), x8, 0)) fun o30 => o30.on (fun (v28_9, v3_9, m13_9, now18_9) =>
 some (v3_9, m13_9)) (fun r => r.elim))
theorem list_eq' {α : Type} [Inhabited α] {a b : List α} (h1 : a.length = b.length) (h2 : ∀ i : Nat, i < a.length → ele a (i : Int) = ele b (i : Int)) : a = b := by
 apply List.ext_getElem h1
 intro i hi hi'
 have := h2 i hi
 simpa [ele_nat, List.getD_eq_getElem?_getD, hi, hi'] using this
theorem AL_small {n b : Nat} (h : n ≤ 10000000) (hb : b ≤ 32) : AL n b := ⟨by rw [maxLen_eq]; omega, Nat.le_trans (Nat.mul_le_mul h hb) (by omega)⟩
theorem rLogs_s {l : Lp} (hl : LoopOk l) {M : List (List Int)} (hM : MemOk l M) : R5_Logs_m M = some (l.logs, true) := by
 have hml := hM.len
 have h3 := hl.1
 unfold R5_Logs_m
 have X := lp_det (f := R5_Logs_L0 M) (ρ := List Int × Bool) (fun i => ((List.range i).map (fun j : Nat => ele l.logs (j : Int)), (i : Int))) M.length (fun i hi => by
  have hlg := hl.log i (by omega)
  have hr := hM.row i hi
  rw [show l.logs.getD i 0 = ele l.logs (i : Int) from rfl] at hlg hr
  rw [show M.getD i [] = ele M (i : Int) from rfl] at hr
  obtain ⟨L, hL⟩ := Int.eq_ofNat_of_zero_le hlg.1
  rw [hL] at hr hlg
  have hp := pow2 (show L ≤ 5 by omega)
  have Y := lp_det (f := R5_Logs_L2 M i) (ρ := Empty) (fun j => (j : Int)) L (fun j hj => by
   have hpj := pow2 (show j ≤ 5 by omega)
   have : (2 : Nat) ^ j < 2 ^ L := Nat.pow_lt_pow_right (by omega) hj
   unfold R5_Logs_L2
   rw [decide_eq_true (show (j : Int) ≤ 5 by omega), bdG_t, Size_s _ (by omega), bd_ret, ck_imp (fun _ => ⟨by omega, by unfold ln; omega⟩), Bool.true_and,
    show (2 ^ ((j : Int).toNat) != ln (ele M (i : Int))) = true from by
     rw [bne_iff_ne]; unfold ln; rw [Int.toNat_natCast]; rw [show ((L : Int).toNat) = L from Int.toNat_natCast L] at hr; omega, br_true, ck_IR (by omega) (by omega)]
   rfl) (by
   unfold R5_Logs_L2
   rw [decide_eq_true (show (L : Int) ≤ 5 by omega), bdG_t, Size_s _ (by omega), bd_ret, ck_imp (fun _ => ⟨by omega, by unfold ln; omega⟩), Bool.true_and,
    show (2 ^ ((L : Int).toNat) != ln (ele M (i : Int))) = false from by
     rw [bne_eq_false_iff_eq]; unfold ln; omega, br_false])
  unfold R5_Logs_L0
  simp only
  rw [br_T (by unfold ln; omega), show lp (R5_Logs_L2 M i) 0 = _ from Y, bd_ret, Out.on_go, br_F (by omega), ck_yes (AL_small (by simp; omega) (by omega)), ck_IR (by omega) (by omega), ← hL]
  rw [rm_succ]; rfl) (by unfold R5_Logs_L0; exact br_F (by unfold ln; omega))
 rw [show lp (R5_Logs_L0 M) ([], 0) = _ from X, bd_ret, Out.on_go, hml, range_map]
section
variable {l : Lp} {t : Tgt} {k : Krn} {order : List Int} {s : Sta}
theorem valZ_rng (hf : l.Fine) (hs : StaOk l s) {z a : Int} (hz : z ≤ 200) : InR (valZ l s z a) := by
 unfold valZ
 split
 ·have h1 := (run_ok hf hs (z.toNat + 1) (by omega)).1 (rowV l s z.toNat) (List.mem_cons_self ..)
  exact ele_rng h1.rng _
 ·exact eles_rng hs.rbef _ _
theorem act_iff (h : LayP l t k order) {N m σ : Nat} (hm : m < l.body.length) {c : Nat} : (pipeK l t k order s N).cyc m σ = c ↔ ((oprAt k order m).slot = (c : Int) % k.pace ∧ (σ : Int) = (c : Int) / k.pace - (oprAt k order m).stage) := by
 have ho := LayP.opr h.may h.n (h.ord m hm).1
 obtain ⟨⟨a1, a2, a3, a4, a5⟩, _⟩ := ho
 obtain ⟨l1, _⟩ := layK_at (t := t) (k := k) (order := order) hm
 have e : (pipeK l t k order s N).cyc m σ = (oprAt k order m).slot + k.pace * ((oprAt k order m).stage + σ) := by
  show ele (layK l t k order).time (m : Int) + σ * k.pace = _
  rw [l1, Int.mul_add, Int.mul_comm (σ : Int)]; unfold timeK; omega
 have hp := h.may.pace
 constructor
 ·intro hc
  rw [e] at hc
  rw [← hc, Int.add_mul_emod_self_left, Int.emod_eq_of_lt a1 a2, Int.add_mul_ediv_left _ _ (by omega), Int.ediv_eq_zero_of_lt a1 a2]
  exact ⟨rfl, by omega⟩
 ·rintro ⟨h1, h2⟩
  rw [e, h1, show (oprAt k order m).stage + σ = (c : Int) / k.pace from by omega]
  exact Int.emod_add_mul_ediv _ _
theorem cyc_last (h : LayP l t k order) {N m σ : Nat} (hi : (pipeK l t k order s N).In m σ) : (0 ≤ (pipeK l t k order s N).cyc m σ) ∧ (pipeK l t k order s N).cyc m σ < (N + k.stages - 1) * k.pace := by
 have hm : m < l.body.length := hi.1
 have hσ : σ < N := hi.2
 have ho := LayP.opr h.may h.n (h.ord m hm).1
 obtain ⟨⟨a1, a2, a3, a4, a5⟩, _⟩ := ho
 obtain ⟨l1, _⟩ := layK_at (t := t) (k := k) (order := order) hm
 have hp := h.may.pace
 have e : (pipeK l t k order s N).cyc m σ = (oprAt k order m).slot + ((oprAt k order m).stage + σ) * k.pace := by
  show ele (layK l t k order).time (m : Int) + σ * k.pace = _
  rw [l1, Int.add_mul]; unfold timeK; rw [Int.mul_comm k.pace]; omega
 have m0 := Int.mul_nonneg (show 0 ≤ (oprAt k order m).stage + σ by omega) (show 0 ≤ k.pace by omega)
 have m1 := Int.mul_le_mul_of_nonneg_right (show (oprAt k order m).stage + σ + 1 ≤ N + k.stages - 1 by omega) (show 0 ≤ k.pace by omega)
 rw [Int.add_mul ((oprAt k order m).stage + σ)] at m1
 omega
def doneK (l : Lp) (t : Tgt) (k : Krn) (order : List Int) (s : Sta) (N : Nat) (c i : Int) (m σ : Nat) : Prop := (pipeK l t k order s N).cyc m σ < c ∨ ((pipeK l t k order s N).cyc m σ = c ∧ ele order (m : Int) < i)
structure OpsI (l : Lp) (t : Tgt) (k : Krn) (order : List Int) (s : Sta) (N : Nat) (c i : Nat) (q : List Due) (M : List (List Int)) : Prop where
 due : (pipeK l t k order s N).Dues (doneK l t k order s N c i) (c + 1) q
 wds : Words (hitsS l) (valS l s) (fun m σ => (pipeK l t k order s N).In m σ ∧ doneK l t k order s N c i m σ) s.mem M
 ok : MemOk l M
 len : q.length ≤ 16 * c + i
theorem op_step (hf : l.Fine) (h : TakesP l t k order) (hs : StaOk l s) {N : Nat} (hN : N ≤ 200) {c : Nat} (hc : c ≤ 300000) {regs0 r0 r : List Int} (h0 : InitK l t k order s.bef r0) (hr : (pipeK l t k order s N).Regs r0 r c)
  {M0 : List (List Int)} (hw0 : Words (hitsS l) (valS l s) (fun m σ => (pipeK l t k order s N).In m σ ∧ (pipeK l t k order s N).cyc m σ < c) s.mem M0) (hM0 : MemOk l M0) {i : Nat} (hi : i < k.ops.length) {q : List Due} {M : List (List Int)} (hI : OpsI l t k order s N c i q M) :
  ∃ q' M', R5_Play_L4 t k regs0 N (l.logs, true) M0 c r (q, M, (i : Int)) = some (.next (q', M', (i : Int) + 1)) ∧ OpsI l t k order s N c (i + 1) q' M' := by
 have hL := h.lay
 have hn := hL.loop.2.2.1
 have hkn := hL.n
 have hp := hL.may.pace
 have hok := pipe_ok (s := s) (N := N) hL
 have hR := (layK_ok hL).regs
 have hrr : (layK l t k order).regs = t.regs := rfl
 rw [hrr] at hR
 have hrl : (r.length : Int) = t.regs := hr.len
 obtain ⟨m, hm, hom⟩ := order_has (order := order) (n := l.body.length) hL.no (fun s' hs' => (hL.ord s' hs').1) (fun s' hs' j hj => (hL.ord s' hs').2.1 j hj) (show i < l.body.length by omega)
 have hop : ele k.ops (i : Int) = oprAt k order m := by unfold oprAt; rw [hom]
 have hinj : ∀ m', m' < l.body.length → ele order (m' : Int) = i → m' = m := fun m' hm' he => by
  rcases Nat.lt_trichotomy m' m with hlt | he' | hlt
  ·exact absurd (he.trans hom.symm) ((hL.ord m hm).2.1 m' hlt)
  ·exact he'
  ·exact absurd (hom.trans he.symm) ((hL.ord m' hm').2.1 m hlt)
 obtain ⟨so1, so2, so3, so4, so5⟩ := same_op hL hm
 have hone := LayP.opr hL.may hL.n (hL.ord m hm).1
 obtain ⟨⟨a1, a2, a3, a4, a5⟩, ⟨d1, d2, d3, d4, d5, d6, d7, d8⟩, _⟩ := hone
 have hst : (oprAt k order m).stage ≤ 1000 := (opr_bd hL.may (LayP.opr hL.may hL.n (hL.ord m hm).1)).2.2.2.2
 have td : Int.tdiv (c : Int) k.pace = (c : Int) / k.pace := Int.tdiv_eq_ediv_of_nonneg (by omega)
 have tm : Int.tmod (c : Int) k.pace = (c : Int) % k.pace := Int.tmod_eq_emod_of_nonneg (by omega)
 have hpa0 := Int.ediv_nonneg (show 0 ≤ (c : Int) by omega) (show 0 ≤ k.pace by omega)
 have hpa1 := Int.ediv_le_self (b := k.pace) (show 0 ≤ (c : Int) by omega)
 have hact := fun σ : Nat => act_iff (s := s) (N := N) hL hm (σ := σ) (c := c)
 obtain ⟨b1, b2, b3, b4⟩ := hI
 have hlast : k.ops.length ≤ 16 := hL.may.n.2
 unfold R5_Play_L4
 simp only
 rw [br_T (by unfold ln; omega), ck_IX (by omega) (by unfold ln; omega), hop, td, tm, ck_IR (by omega) (by omega), ck_yes (by omega)]
 generalize hpa : (c : Int) / k.pace = pa at hpa0 hpa1 hact
 by_cases hc1 : (oprAt k order m).slot = (c : Int) % k.pace ∧ 0 ≤ pa - (oprAt k order m).stage ∧ pa - (oprAt k order m).stage < N
 ·obtain ⟨e1, e2, e3⟩ := hc1
  obtain ⟨σ, hσ⟩ := Int.eq_ofNat_of_zero_le e2
  have hσN : σ < N := by omega
  have hcy := (hact σ).2 ⟨e1, by omega⟩
  have hin : (pipeK l t k order s N).In m σ := ⟨hm, hσN⟩
  have hcond : ((((oprAt k order m).slot != (c : Int) % k.pace) || (decide (pa - (oprAt k order m).stage < 0))) || (decide (pa - (oprAt k order m).stage ≥ (N : Int)))) = false := by
   rw [Bool.or_eq_false_iff, Bool.or_eq_false_iff, bne_eq_false_iff_eq, decide_eq_false_iff_not, decide_eq_false_iff_not]; omega
  have tma : ∀ a : Int, 0 ≤ a → Int.tmod (a + pa) t.regs = (a + pa) % t.regs := fun a ha => Int.tmod_eq_emod_of_nonneg (by omega)
  have hra : ∀ a : Int, 0 ≤ (a + pa) % t.regs ∧ (a + pa) % t.regs < t.regs := fun a => ⟨Int.emod_nonneg _ (by omega), Int.emod_lt_of_pos _ (by omega)⟩
  have ha' := hra (oprAt k order m).a
  have hb' := hra (oprAt k order m).b
  rw [hcond, br_false, ck_IR (by omega) (by omega), ck_yes (show t.regs ≠ 0 by omega), tma _ d3, ck_IX ha'.1 (by unfold ln; omega), ck_IR (by omega) (by omega), ck_yes (show t.regs ≠ 0 by omega), tma _ d5, ck_IX hb'.1 (by unfold ln; omega), tma _ d1]
  -- what is read
  have hread : ∀ j, j < (usesL (ele l.body (m : Int))).length → ele r ((nameO (oprAt k order m) j + pa) % t.regs) = valZ l s (σ - (ele (usesL (ele l.body (m : Int))) (j : Int)).bk) (ele (usesL (ele l.body (m : Int))) (j : Int)).st := fun j hj => by
   have hnm := h.name m hm j hj
   unfold NameP at hnm
   rw [hnm, Int.emod_add_emod, show ele (layK l t k order).places (ele (usesL (ele l.body (m : Int))) (j : Int)).st - (ele (usesL (ele l.body (m : Int))) (j : Int)).bk - (oprAt k order m).stage + pa = ele (layK l t k order).places (ele (usesL (ele l.body (m : Int))) (j : Int)).st + (σ - (ele (usesL (ele l.body (m : Int))) (j : Int)).bk) from by omega]
   exact read_val (N := N) h h0 (by rw [hcy]; exact hr) hm hσN (ele_mem' hj)
  -- the result
  have hwt := wait_ge hL.tgt (oprAt k order m).op
  obtain ⟨y1, y2, y3⟩ := layK_at (t := t) (k := k) (order := order) hm
  have hwv : sel3 t.w0 t.w1 t.w2 (clsV (oprAt k order m).op) = waitV t (oprAt k order m).op := by unfold waitV; rw [if_pos hL.tgt]
  have hdue : (pipeK l t k order s N).due m σ = c + waitV t (oprAt k order m).op := by
   rw [← hcy]
   show ele (layK l t k order).ready (m : Int) + σ * k.pace = ele (layK l t k order).time (m : Int) + σ * k.pace + _
   rw [y2, ← y1]; omega
  have hreg : (pipeK l t k order s N).reg m σ = ((oprAt k order m).dest + pa) % t.regs := by
   show (ele (layK l t k order).places (m : Int) + σ) % t.regs = _
   rw [y3, show (oprAt k order m).dest + (oprAt k order m).stage + σ = (oprAt k order m).dest + pa from by omega]
  have hent : ∀ v, v = valS l s σ m → Due.mk (c + sel3 t.w0 t.w1 t.w2 (clsV (oprAt k order m).op)) (((oprAt k order m).dest + pa) % t.regs) v = (pipeK l t k order s N).ent m σ := fun v hv => by
   unfold Pipe.ent
   rw [hdue, hreg, hwv, hv]; rfl
  have hcl : 0 ≤ clsV (oprAt k order m).op ∧ clsV (oprAt k order m).op < 3 := clsV_range _
  have hD : ∀ m' σ', (pipeK l t k order s N).In m' σ' → ((doneK l t k order s N c i m' σ' ∨ (m' = m ∧ σ' = σ)) ↔ doneK l t k order s N c (i + 1 : Nat) m' σ') := fun m' σ' hi' => by
   unfold doneK
   constructor
   ·rintro ((h1 | ⟨h1, h2⟩) | ⟨rfl, rfl⟩)
    ·exact .inl h1
    ·exact .inr ⟨h1, by omega⟩
    ·exact .inr ⟨hcy, by omega⟩
   ·rintro (h1 | ⟨h1, h2⟩)
    ·exact .inl (.inl h1)
    ·by_cases e : ele order (m' : Int) = i
     ·obtain rfl := hinj m' hi'.1 e
      have := ((hact σ').1 h1).2
      exact .inr ⟨rfl, by omega⟩
     ·exact .inl (.inr ⟨h1, by omega⟩)
  have hdu : (pipeK l t k order s N).Dues (doneK l t k order s N c (i + 1 : Nat)) (c + 1) (q ++ [(pipeK l t k order s N).ent m σ]) := (b1.add hin (by rw [hdue]; omega)).congr hD
  have hlen : (q ++ [(pipeK l t k order s N).ent m σ]).length ≤ 16 * c + (i + 1) := by rw [List.length_append]; simp; omega
  have hal : AL (q ++ [(pipeK l t k order s N).ent m σ]).length 24 := AL_small (by omega) (by omega)
  have hwd : (ele l.body (m : Int)).op ≠ 4 → Words (hitsS l) (valS l s) (fun m' σ' => (pipeK l t k order s N).In m' σ' ∧ doneK l t k order s N c (i + 1 : Nat) m' σ') s.mem M := fun ho =>
   Words.congr (Words.skip b2 (m0 := m) (σ0 := σ) fun a x hh => ho hh.1) fun m' σ' a x _ => by
    constructor
    ·rintro (⟨h1, h2⟩ | ⟨rfl, rfl⟩)
     ·exact ⟨h1, (hD m' σ' h1).1 (.inl h2)⟩
     ·exact ⟨hin, (hD _ _ hin).1 (.inr ⟨rfl, rfl⟩)⟩
    ·rintro ⟨h1, h2⟩
     rcases (hD m' σ' h1).2 h2 with h3 | h3
     ·exact .inl ⟨h1, h3⟩
     ·exact .inr h3
  have hix : ck (IR ((i : Int) + 1)) = fun (x : Option (Stp (List Due × List (List Int) × Int) Empty)) => x := by funext x; exact ck_IR (by omega) (by omega)
  by_cases o1 : (oprAt k order m).op = 1
  ·rw [show ((oprAt k order m).op == 1) = true from by simpa using o1, br_true, ref_Class_s, bd_ret, ck_IX hcl.1 hcl.2, hwv, ck_IR (by omega) (by omega), ck_IR (by omega) (by omega), ck_yes (show t.regs ≠ 0 by omega), ← hwv, hent _ (by rw [val_const hs hm (by rw [← so1]; exact o1), so5]), ck_yes hal, ck_IR (by omega) (by omega)]
   exact ⟨_, _, rfl, ⟨hdu, hwd (by rw [← so1]; omega), b3, hlen⟩⟩
  rw [show ((oprAt k order m).op == 1) = false from by simpa using o1, br_false]
  by_cases o2 : (oprAt k order m).op = 2
  ·rw [show ((oprAt k order m).op == 2) = true from by simpa using o2, br_true, ref_Class_s, bd_ret, ck_IX hcl.1 hcl.2, hwv, ck_IR (by omega) (by omega), ck_IR (by omega) (by omega), ck_yes (show t.regs ≠ 0 by omega), ← hwv, hent _ (by rw [val_turn hs hm (by rw [← so1]; exact o2), hσ]), ck_yes hal, ck_IR (by omega) (by omega)]
   exact ⟨_, _, rfl, ⟨hdu, hwd (by rw [← so1]; omega), b3, hlen⟩⟩
  rw [show ((oprAt k order m).op == 2) = false from by simpa using o2, br_false]
  by_cases o3 : (oprAt k order m).op = 3
  ·have ho3 : (ele l.body (m : Int)).op = 3 := by rw [← so1]; exact o3
   have hwk := stm_word hs.loop hm (.inl ho3)
   obtain ⟨w1, w2, w3⟩ := word_ix hs.loop hM0 hwk (σ : Int)
   rw [show ((oprAt k order m).op == 3) = true from by simpa using o3, br_true, so2, so3, so4, hσ, ck_yes w1, ck_yes w2, ref_Index_s, bd_ret, ck_yes w3, ref_Class_s, bd_ret, ck_IX hcl.1 hcl.2, hwv, ck_IR (by omega) (by omega), ck_IR (by omega) (by omega), ck_yes (show t.regs ≠ 0 by omega), ← hwv, hent _ (load_val (N := N) hf h hs hN hM0 (by rw [hcy]; exact hw0) hm hσN ho3), ck_yes hal, ck_IR (by omega) (by omega)]
   exact ⟨_, _, rfl, ⟨hdu, hwd (by omega), b3, hlen⟩⟩
  rw [show ((oprAt k order m).op == 3) = false from by simpa using o3, br_false]
  by_cases o4 : (oprAt k order m).op = 4
  ·have ho4 : (ele l.body (m : Int)).op = 4 := by rw [← so1]; exact o4
   have hwk := stm_word hs.loop hm (.inr ho4)
   obtain ⟨w1, w2, w3⟩ := word_ix hs.loop b3 hwk (σ : Int)
   have hu : usesL (ele l.body (m : Int)) = [(ele l.body (m : Int)).a] := by unfold usesL; rw [if_pos ho4]
   have hv : ele r (((oprAt k order m).a + pa) % t.regs) = valS l s σ m := by
    have := hread 0 (by rw [hu]; simp)
    rw [hu] at this
    rw [val_store hs hm ho4]
    exact this
   have hvr : InR (valS l s σ m) := by rw [val_store hs hm ho4]; exact valZ_rng hf hs (by have := (layK_us hL m hm _ (show (ele l.body (m : Int)).a ∈ usesL (ele l.body (m : Int)) by rw [hu]; simp)).2.2.1; omega)
   rw [show ((oprAt k order m).op == 4) = true from by simpa using o4, br_true, so2, so3, so4, hσ, ck_yes w1, ck_yes w2, ref_Index_s, bd_ret, ck_yes w3, ref_Class_s, bd_ret, ck_IX hcl.1 hcl.2, hwv, ck_IR (by omega) (by omega), ck_IR (by omega) (by omega), ck_yes (show t.regs ≠ 0 by omega), ← hwv, hent _ hv, ck_yes hal, ck_IR (by omega) (by omega), hv]
   refine ⟨_, _, rfl, ⟨hdu, ?_, b3.updG _ _ _ hvr, hlen⟩⟩
   obtain ⟨a, ha⟩ := Int.eq_ofNat_of_zero_le w1.1
   obtain ⟨x, hx⟩ := Int.eq_ofNat_of_zero_le w3.1
   unfold IX ln at w1 w3
   rw [hx] at w3 ⊢
   rw [ha] at w1 w3 hx ⊢
   refine Words.congr (Words.put b2 (m0 := m) (σ0 := σ) (a0 := a) (x0 := x) (fun a' x' => ?_) (fun m' σ' hd hh => ?_) (wd_put (by omega) (by omega)) (fun a' x' hne => wd_old (by omega) hne)) fun m' σ' a' x' _ => ?_
   ·unfold hitsS
    rw [ha, hx]
    constructor
    ·rintro ⟨_, e1, e2⟩; omega
    ·rintro ⟨rfl, rfl⟩; exact ⟨ho4, rfl, rfl⟩
   ·intro hlt
    obtain ⟨h1, h2, h3⟩ := hh
    have hσ' : σ' < N := hd.1.2
    have := mem_order (s := s) (N := N) h hm hd.1.1 (by omega) hlt ⟨.inr ho4, .inr h1, by rw [ha, h2], .inl ho4⟩ (by rw [ha, hx, h2, ← h3, h2])
    rw [if_pos ho4, hcy] at this
    have hd2 := hd.2
    unfold doneK at hd2
    omega
   ·constructor
    ·rintro (⟨h1, h2⟩ | ⟨rfl, rfl⟩)
     ·exact ⟨h1, (hD m' σ' h1).1 (.inl h2)⟩
     ·exact ⟨hin, (hD _ _ hin).1 (.inr ⟨rfl, rfl⟩)⟩
    ·rintro ⟨h1, h2⟩
     rcases (hD m' σ' h1).2 h2 with h3 | h3
     ·exact .inl ⟨h1, h3⟩
     ·exact .inr h3
  rw [show ((oprAt k order m).op == 4) = false from by simpa using o4, br_false]
  have ho5 : (ele l.body (m : Int)).op > 10 ∧ (ele l.body (m : Int)).op ≤ 18 := by
   have q3 := (hL.loop.stm m hm).2.2
   rw [show l.body.getD m Stm.zero = ele l.body (m : Int) from rfl] at q3
   rw [so1] at o1 o2 o3 o4
   rcases q3 with h | h | h | h | h <;> omega
  have hu : usesL (ele l.body (m : Int)) = [(ele l.body (m : Int)).a, (ele l.body (m : Int)).b] := by unfold usesL; rw [if_neg (by omega), if_pos ho5.1]
  have hva : ele r (((oprAt k order m).a + pa) % t.regs) = valZ l s (σ - (ele l.body (m : Int)).a.bk) (ele l.body (m : Int)).a.st := by
   have := hread 0 (by rw [hu]; simp)
   rw [hu] at this
   exact this
  have hvb : ele r (((oprAt k order m).b + pa) % t.regs) = valZ l s (σ - (ele l.body (m : Int)).b.bk) (ele l.body (m : Int)).b.st := by
   have := hread 1 (by rw [hu]; simp)
   rw [hu] at this
   exact this
  have hba := (layK_us hL m hm (ele l.body (m : Int)).a (by rw [hu]; simp)).2.2.1
  have hbb := (layK_us hL m hm (ele l.body (m : Int)).b (by rw [hu]; simp)).2.2.1
  have hra1 := valZ_rng hf hs (z := σ - (ele l.body (m : Int)).a.bk) (a := (ele l.body (m : Int)).a.st) (by omega)
  have hrb1 := valZ_rng hf hs (z := σ - (ele l.body (m : Int)).b.bk) (a := (ele l.body (m : Int)).b.st) (by omega)
  rw [hva, hvb, ck_IR (by rw [so1]; omega) (by rw [so1]; omega), ref_Op_s _ _ _ hra1 hrb1, bd_ret, ref_Class_s, bd_ret, ck_IX hcl.1 hcl.2, hwv, ck_IR (by omega) (by omega), ck_IR (by omega) (by omega), ck_yes (show t.regs ≠ 0 by omega), ← hwv, hent _ (by rw [val_op hs hm ho5.1, so1]), ck_yes hal, ck_IR (by omega) (by omega)]
  exact ⟨_, _, rfl, ⟨hdu, hwd (by omega), b3, hlen⟩⟩
 ·have hcond : ((((oprAt k order m).slot != (c : Int) % k.pace) || (decide (pa - (oprAt k order m).stage < 0))) || (decide (pa - (oprAt k order m).stage ≥ (N : Int)))) = true := by
   rw [Bool.or_eq_true, Bool.or_eq_true, bne_iff_ne, decide_eq_true_eq, decide_eq_true_eq]; omega
  have hD : ∀ m' σ', (pipeK l t k order s N).In m' σ' → (doneK l t k order s N c i m' σ' ↔ doneK l t k order s N c (i + 1 : Nat) m' σ') := fun m' σ' hi' => by
   unfold doneK
   constructor
   ·rintro (h1 | ⟨h1, h2⟩)
    ·exact .inl h1
    ·exact .inr ⟨h1, by omega⟩
   ·rintro (h1 | ⟨h1, h2⟩)
    ·exact .inl h1
    ·by_cases e : ele order (m' : Int) = i
     ·obtain rfl := hinj m' hi'.1 e
      have q := (hact σ').1 h1
      have : σ' < N := hi'.2
      exact absurd ⟨q.1, by omega, by omega⟩ hc1
     ·exact .inr ⟨h1, by omega⟩
  rw [hcond, br_true, ck_IR (by omega) (by omega)]
  exact ⟨_, _, rfl, ⟨b1.congr hD, Words.congr b2 fun m' σ' a x _ => ⟨fun hh => ⟨hh.1, (hD m' σ' hh.1).1 hh.2⟩, fun hh => ⟨hh.1, (hD m' σ' hh.1).2 hh.2⟩⟩, b3, by omega⟩⟩
theorem land_s {y : Pipe} {D : Nat → Nat → Prop} {c : Nat} {q : List Due} (hy : y.Ok) (hq : y.Dues D c q) (hl : q.length ≤ 10000000) {r : List Int} (hr : (r.length : Int) = y.regs) :
  lp (R5_Play_L2 q c) (r, [], 0) = some (.go (q.foldl (Pipe.land1 c) r, q.filter (fun d => decide (d.due ≠ c)), (q.length : Int))) := by
 have X := lp_det (f := R5_Play_L2 q c) (ρ := Empty) (fun i => ((q.take i).foldl (Pipe.land1 c) r, (q.take i).filter (fun d => decide (d.due ≠ c)), (i : Int))) q.length (fun i hi => by
  have hlen := Pipe.land_len (c : Int) (q.take i) r
  have hfl : ((q.take i).filter (fun d => decide (d.due ≠ (c : Int)))).length ≤ i := Nat.le_trans (List.length_filter_le _ _) (by rw [List.length_take]; omega)
  obtain ⟨m, σ, _, _, _, he⟩ := hq.src _ (ele_mem' hi)
  have hb := Pipe.reg_bd hy m σ
  have hrg : (ele q (i : Int)).reg = y.reg m σ := by rw [he]; rfl
  unfold R5_Play_L2
  simp only
  rw [br_T (by unfold ln; omega), ck_IX (by omega) (by unfold ln; omega), take_next hi, List.foldl_append, List.filter_append]
  by_cases e : (ele q (i : Int)).due = c
  ·rw [show ((ele q (i : Int)).due == (c : Int)) = true from by simpa using e, br_true, ck_IX (by omega) (by unfold ln; omega), ck_IX (by omega) (by unfold ln; omega), ck_IX (by omega) (by unfold ln; omega), ck_IR (by omega) (by omega)]
   rw [show [ele q (i : Int)].filter (fun d => decide (d.due ≠ (c : Int))) = [] from by simp [e], List.append_nil]
   show _ = some (Stp.next (Pipe.land1 c _ _, _, _))
   unfold Pipe.land1
   rw [if_pos e]; rfl
  ·rw [show ((ele q (i : Int)).due == (c : Int)) = false from by simpa using e, br_false, ck_IX (by omega) (by unfold ln; omega), ck_yes (AL_small (by rw [List.length_append, List.length_singleton]; omega) (by omega)), ck_IR (by omega) (by omega)]
   rw [show [ele q (i : Int)].filter (fun d => decide (d.due ≠ (c : Int))) = [ele q (i : Int)] from by simp [e]]
   show _ = some (Stp.next (Pipe.land1 c _ _, _, _))
   unfold Pipe.land1
   rw [if_neg e]; rfl) (by unfold R5_Play_L2; exact br_F (by unfold ln; omega))
 rw [List.take_length] at X
 exact X
structure PlayI (l : Lp) (t : Tgt) (k : Krn) (order : List Int) (s : Sta) (r0 : List Int) (N c : Nat) (q : List Due) (r : List Int) (M : List (List Int)) : Prop where
 due : (pipeK l t k order s N).Dues (fun m σ => (pipeK l t k order s N).cyc m σ < c) c q
 regs : (pipeK l t k order s N).Regs r0 r ((c : Int) - 1)
 wds : Words (hitsS l) (valS l s) (fun m σ => (pipeK l t k order s N).In m σ ∧ (pipeK l t k order s N).cyc m σ < c) s.mem M
 ok : MemOk l M
 len : q.length ≤ 16 * c
theorem last_bd (hL : LayP l t k order) {N : Nat} (hN : N ≤ 200) (h1 : 1 ≤ N) : (k.pace : Int) ≤ (N + k.stages - 1) * k.pace ∧ (N + k.stages - 1) * k.pace ≤ 240000 := by
 have hp := hL.may.pace
 have hs := hL.may.stages
 have m1 := Int.mul_le_mul_of_nonneg_right (show 1 ≤ (N : Int) + k.stages - 1 by omega) (show 0 ≤ k.pace by omega)
 have m2 := Int.mul_le_mul_of_nonneg_right (show (N : Int) + k.stages - 1 ≤ 1200 by omega) (show 0 ≤ k.pace by omega)
 omega
theorem cycle_s (hf : l.Fine) (h : TakesP l t k order) (hs : StaOk l s) {N : Nat} (hN : N ≤ 200) (h1 : 1 ≤ N) {regs0 r0 : List Int} (h0 : InitK l t k order s.bef r0) {c : Nat} (hc : (c : Int) < (N + k.stages - 1) * k.pace + 6 + 1) {q : List Due} {r : List Int} {M : List (List Int)} (hI : PlayI l t k order s r0 N c q r M) :
  ∃ q' r' M', R5_Play_L0 t k regs0 N (l.logs, true) (q, r, M, (c : Int)) = some (.next (q', r', M', (c : Int) + 1)) ∧ PlayI l t k order s r0 N (c + 1) q' r' M' := by
 have hL := h.lay
 have hok := pipe_ok (s := s) (N := N) hL
 have hlb := last_bd hL hN h1
 have hp := hL.may.pace
 have hkn := hL.may.n
 obtain ⟨b1, b2, b3, b4, b5⟩ := hI
 have hR := b2.land hok b1
 have hQ := b1.left
 have hfl : (q.filter (fun d => decide (d.due ≠ (c : Int)))).length ≤ 16 * c := Nat.le_trans (List.length_filter_le _ _) b5
 unfold R5_Play_L0
 simp only
 rw [ck_IR (by omega) (by omega), ck_IR (by omega) (by omega), br_T hc, land_s hok b1 (by omega) b2.len, bd_ret, Out.on_go]
 simp only
 by_cases hl : (c : Int) ≥ (N + k.stages - 1) * k.pace
 ·have hD : ∀ m σ, (pipeK l t k order s N).In m σ → ((pipeK l t k order s N).cyc m σ < c ↔ (pipeK l t k order s N).cyc m σ < (c + 1 : Nat)) := fun m σ hi => by
   have := (cyc_last hL hi).2
   omega
  rw [br_T hl, ck_IR (by omega) (by omega)]
  refine ⟨_, _, _, rfl, ⟨?_, ?_, ?_, b4, by omega⟩⟩
  ·exact hQ.congr hD
  ·rw [show ((c + 1 : Nat) : Int) - 1 = c from by omega]; exact hR
  ·exact Words.congr b3 fun m σ a x _ => ⟨fun hh => ⟨hh.1, (hD m σ hh.1).1 hh.2⟩, fun hh => ⟨hh.1, (hD m σ hh.1).2 hh.2⟩⟩
 ·have hsm := b4.small hs.loop
  rw [br_F hl, ck_yes (by omega), ck_IR (by have := Int.tdiv_eq_ediv_of_nonneg (show 0 ≤ (c : Int) by omega) (b := k.pace); have := Int.ediv_nonneg (show 0 ≤ (c : Int) by omega) (show 0 ≤ k.pace by omega); omega) (by have := Int.tdiv_eq_ediv_of_nonneg (show 0 ≤ (c : Int) by omega) (b := k.pace); have := Int.ediv_le_self (b := k.pace) (show 0 ≤ (c : Int) by omega); omega),
   rCopy_s hsm.1 hsm.2, bd_ret]
  have hD0 : ∀ m σ, (pipeK l t k order s N).In m σ → ((pipeK l t k order s N).cyc m σ < c ↔ doneK l t k order s N c (0 : Nat) m σ) := fun m σ hi => by
   have := (hL.ord m hi.1).1.1
   unfold doneK; omega
  have hDn : ∀ m σ, (pipeK l t k order s N).In m σ → (doneK l t k order s N c k.ops.length m σ ↔ (pipeK l t k order s N).cyc m σ < (c + 1 : Nat)) := fun m σ hi => by
   have := (hL.ord m hi.1).1.2
   have := hL.n
   unfold doneK; omega
  obtain ⟨⟨q', M'⟩, e, hI'⟩ := lp_invM (f := R5_Play_L4 t k regs0 N (l.logs, true) M c (q.foldl (Pipe.land1 c) r)) (ρ := Empty) (n := k.ops.length) (fun (g : List Due × List (List Int)) i => (g.1, g.2, i)) (fun i g => OpsI l t k order s N c i g.1 g.2) (fun i g hi hg => by
    obtain ⟨q', M', e, hn⟩ := op_step (regs0 := regs0) hf h hs hN (by omega) h0 hR b3 b4 hi hg
    exact ⟨(q', M'), e, hn⟩) (fun g => by
    unfold R5_Play_L4
    simp only
    exact br_F (by unfold ln; omega)) (q.filter (fun d => decide (d.due ≠ (c : Int))), M) ⟨hQ.congr hD0, Words.congr b3 fun m σ a x _ => ⟨fun hh => ⟨hh.1, (hD0 m σ hh.1).1 hh.2⟩, fun hh => ⟨hh.1, (hD0 m σ hh.1).2 hh.2⟩⟩, b4, by omega⟩
  rw [show lp (R5_Play_L4 t k regs0 N (l.logs, true) M c (q.foldl (Pipe.land1 c) r)) (q.filter (fun d => decide (d.due ≠ (c : Int))), M, 0) = _ from e, bd_ret, Out.on_go, ck_IR (by omega) (by omega)]
  obtain ⟨c1, c2, c3, c4⟩ := hI'
  refine ⟨_, _, _, rfl, ⟨?_, ?_, ?_, c3, ?_⟩⟩
  ·exact Pipe.Dues.congr c1 hDn
  ·rw [show ((c + 1 : Nat) : Int) - 1 = c from by omega]; exact hR
  ·exact Words.congr c2 fun m σ a x _ => ⟨fun hh => ⟨hh.1, (hDn m σ hh.1).1 hh.2⟩, fun hh => ⟨hh.1, (hDn m σ hh.1).2 hh.2⟩⟩
  ·have c4' : q'.length ≤ 16 * c + k.ops.length := c4
   show q'.length ≤ _
   omega
structure EndK (l : Lp) (t : Tgt) (k : Krn) (order : List Int) (s : Sta) (r0 : List Int) (N : Nat) (r : List Int) (M : List (List Int)) : Prop where
 len : (r.length : Int) = t.regs
 zero : N = 0 → r = r0
 outs : 1 ≤ N → ∀ a : Nat, a < l.body.length → (a : Int) ∈ l.outs → ele r ((ele (layK l t k order).places (a : Int) + N - 1) % t.regs) = valS l s (N - 1) a
 mem : M = (runV l s N).2
theorem Play5_s (hf : l.Fine) (h : TakesP l t k order) (hs : StaOk l s) {N : Nat} (hN : N ≤ 200) {r0 : List Int} (hl0 : (r0.length : Int) = t.regs) (h0 : InitK l t k order s.bef r0) : ∃ r M, R5_Play_m t k r0 s.mem N = some (r, M) ∧ EndK l t k order s r0 N r M := by
 have hL := h.lay
 have hok := pipe_ok (s := s) (N := N) hL
 have hR := (layK_ok hL).regs
 have hrr : (layK l t k order).regs = t.regs := rfl
 rw [hrr] at hR
 have hp := hL.may.pace
 have hsg := hL.may.stages
 have hsm := hs.mem.small hs.loop
 unfold R5_Play_m
 rw [List.nil_append, ck_yes (AL_small (by omega) (by omega)), rCopy_s hsm.1 hsm.2, bd_ret, rLogs_s hs.loop hs.mem, bd_ret]
 by_cases hz : N = 0
 ·subst hz
  refine ⟨r0, s.mem, rfl, ⟨hl0, fun _ => rfl, fun hh => by omega, rfl⟩⟩
 have h1 : 1 ≤ N := by omega
 have hlb := last_bd hL hN h1
 rw [show ((N : Int) == 0) = false from by simp [hz], br_false, ck_IR (by omega) (by omega), ck_IR (by omega) (by omega), ck_IR (by omega) (by omega)]
 obtain ⟨T, hT⟩ := Int.eq_ofNat_of_zero_le (show 0 ≤ (N + k.stages - 1) * k.pace + 6 + 1 by omega)
 have hinit : PlayI l t k order s r0 N 0 [] r0 s.mem := by
  refine ⟨⟨fun d hd => (by cases hd), fun m σ hi hd _ => ?_⟩, ⟨hl0, fun m σ hi hd _ => ?_, fun _ _ _ _ => rfl⟩, fun a x => .inr ⟨fun m σ hd => ?_, rfl⟩, hs.mem, by simp⟩
  ·have := (cyc_last hL hi).1; omega
  ·have := (cyc_last hL hi).1; have := Pipe.cyc_due hok hi; omega
  ·have := (cyc_last hL hd.1).1; have := hd.2; omega
 obtain ⟨⟨q, r, M⟩, e, hI⟩ := lp_invM (f := R5_Play_L0 t k r0 N (l.logs, true)) (ρ := Empty) (n := T) (fun (g : List Due × List Int × List (List Int)) i => (g.1, g.2.1, g.2.2, i)) (fun c g => PlayI l t k order s r0 N c g.1 g.2.1 g.2.2) (fun c g hc hg => by
   obtain ⟨q', r', M', e, hn⟩ := cycle_s (regs0 := r0) hf h hs hN h1 h0 (by omega) hg
   exact ⟨(q', r', M'), e, hn⟩) (fun g => by
   unfold R5_Play_L0
   simp only
   rw [ck_IR (by omega) (by omega), ck_IR (by omega) (by omega)]
   exact br_F (by omega)) ([], r0, s.mem) hinit
 rw [show lp (R5_Play_L0 t k r0 N (l.logs, true)) ([], r0, s.mem, 0) = _ from e, bd_ret, Out.on_go]
 have hI : PlayI l t k order s r0 N T q r M := hI
 obtain ⟨b1, b2, b3, b4, b5⟩ := hI
 have hdl : ∀ m σ, (pipeK l t k order s N).In m σ → (pipeK l t k order s N).due m σ ≤ (T : Int) - 1 ∧ (pipeK l t k order s N).cyc m σ < T := fun m σ hi => by
  have hc := (cyc_last hL hi).2
  obtain ⟨y1, y2, _⟩ := layK_at (t := t) (k := k) (order := order) hi.1
  have hw := wait_ge hL.tgt (oprAt k order m).op
  have : (pipeK l t k order s N).due m σ = (pipeK l t k order s N).cyc m σ + waitV t (oprAt k order m).op := by
   show ele (layK l t k order).ready (m : Int) + σ * k.pace = ele (layK l t k order).time (m : Int) + σ * k.pace + _
   rw [y2, ← y1]; omega
  omega
 refine ⟨r, M, rfl, ⟨b2.len, fun hh => absurd hh hz, fun _ a ha hout => ?_, ?_⟩⟩
 ·have hin : (pipeK l t k order s N).In a (N - 1) := ⟨ha, by show N - 1 < N; omega⟩
  have hreg : ∀ m' σ' : Nat, (pipeK l t k order s N).reg m' σ' = (ele (layK l t k order).places (m' : Int) + σ') % t.regs := fun _ _ => rfl
  have hdue : ∀ m' σ' : Nat, (pipeK l t k order s N).due m' σ' = ele (layK l t k order).ready (m' : Int) + σ' * k.pace := fun _ _ => rfl
  have := b2.put a (N - 1) hin (hdl _ _ hin).1 fun m' σ' hi d1 d2 d3 => by
   by_cases hne : m' = a ∧ σ' = N - 1
   ·exact hne
   ·exfalso
    have hσ' : σ' < N := hi.2
    rw [hdue, hdue] at d1
    rw [hreg, hreg] at d3
    have hjp : ((σ' : Int) - ((N - 1 : Nat) : Int)) * k.pace = σ' * k.pace - ((N - 1 : Nat) : Int) * k.pace := Int.sub_mul ..
    refine h.apart a m' ha hi.1 ((σ' : Int) - ((N - 1 : Nat) : Int)) (by omega) ?_ (.inr ⟨by omega, ?_, hout⟩)
    ·have e := Int.emod_eq_emod_iff_emod_sub_eq_zero.1 d3
     rw [show ele (layK l t k order).places (m' : Int) + ((σ' : Int) - ((N - 1 : Nat) : Int)) - ele (layK l t k order).places (a : Int) = ele (layK l t k order).places (m' : Int) + σ' - (ele (layK l t k order).places (a : Int) + ((N - 1 : Nat) : Int)) from by omega]
     exact e
    ·show _ ≤ _ + ((σ' : Int) - ((N - 1 : Nat) : Int)) * k.pace
     omega
  rw [hreg] at this
  rw [show ele (layK l t k order).places (a : Int) + (N : Int) - 1 = ele (layK l t k order).places (a : Int) + ((N - 1 : Nat) : Int) from by omega]
  exact this
 ·have hq := seq_words hf hs N hN 0 (by omega)
  have hrun := run_ok hf hs N (by omega)
  have hsame : ∀ a x, wd M a x = wd (memS l s N 0) a x := fun a x => Words.same b3 hq fun m σ hh => by
   constructor
   ·rintro ⟨hi, _⟩
    have : σ < N := hi.2
    exact ⟨hi.1, by unfold lexL; omega⟩
   ·rintro ⟨hm, hl⟩
    have hi : (pipeK l t k order s N).In m σ := ⟨hm, by show σ < N; unfold lexL at hl; omega⟩
    exact ⟨hi, (hdl m σ hi).2⟩
  have hM2 := hrun.2.1
  have l1 := b4.len; have l2 := hM2.len
  refine list_eq' (by omega) fun i hi => ?_
  have r1 := b4.row i hi; have r2 := hM2.row i (by omega)
  rw [show M.getD i [] = ele M (i : Int) from rfl] at r1
  rw [show (runV l s N).2.getD i [] = ele (runV l s N).2 (i : Int) from rfl] at r2
  exact list_eq' (by omega) fun j hj => hsame i j
theorem entQ_at {y : LayD} (hy : y.Ok) {b : List (List Int)} {s : Nat} {R : List Int} (hR : (R.length : Int) = y.regs) : ∀ q, (∀ q', q' < q → regF y s q' ∉ frA y s q') → (∀ q' : Nat, q' < q → ele (entQ y b s R q) (regF y s q') = ele (ele b (s : Int)) (q' : Int)) ∧ ∀ x, 0 ≤ x → (∀ q' : Nat, q' < q → regF y s q' ≠ x) → ele (entQ y b s R q) x = ele R x
 | 0, _ => ⟨fun q' h => absurd h (by omega), fun x _ _ => rfl⟩
 | q + 1, h => by
  obtain ⟨i1, i2⟩ := entQ_at (b := b) hy hR q fun q' h' => h q' (by omega)
  have hb := reg_bd hy (s : Int) q
  have hl := entQ_len (b := b) (y := y) (s := s) (R := R) q
  have hlt : regF y s q < (entQ y b s R q).length := by omega
  refine ⟨fun q' hq' => ?_, fun x hx hn => ?_⟩
  ·show ele (upd _ _ _) _ = _
   by_cases e : q' = q
   ·subst e
    rw [ele_upd ⟨hb.1, by unfold ln; omega⟩]
   ·have hb' := reg_bd hy (s : Int) q'
    have hne : regF y s q ≠ regF y s q' := fun he => h q (by omega) (by
     unfold frA
     rw [List.mem_map]
     exact ⟨q', List.mem_range.2 (by omega), he.symm⟩)
    rw [ele_upd_ne (by omega)]
    exact i1 q' (by omega)
  ·show ele (upd _ _ _) _ = _
   have := hn q (by omega)
   rw [ele_upd_ne (by omega)]
   exact i2 x hx fun q' hq' => hn q' (by omega)
theorem entS_at {y : LayD} (hy : y.Ok) {b : List (List Int)} : ∀ n : Nat, (∀ s : Nat, s < n → ∀ q, q < (farV y.body s).toNat → regF y s q ∉ fregs y (natL s) ++ frA y s q) → ∀ a : Nat, a < n → ∀ q : Nat, q < (farV y.body (a : Int)).toNat → ele (entS y b y.regs.toNat n) (regF y a q) = ele (ele b (a : Int)) (q : Int)
 | 0, _, a, ha => absurd ha (by omega)
 | n + 1, h, a, ha => fun q hq => by
  have hRg := hy.regs
  have hl := entS_len (b := b) (y := y) (n := y.regs.toNat) n
  obtain ⟨i1, i2⟩ := entQ_at (b := b) (s := n) (R := entS y b y.regs.toNat n) hy (by omega) (farV y.body n).toNat fun q' hq' hm => h n (by omega) q' hq' (List.mem_append.2 (.inr hm))
  show ele (entQ _ _ _ _ _) _ = _
  by_cases e : a = n
  ·subst e
   exact i1 q hq
  ·have hb := reg_bd hy (a : Int) q
   rw [i2 _ hb.1 fun q' hq' he => h n (by omega) q' hq' (List.mem_append.2 (.inl (by
    unfold fregs
    rw [List.mem_flatMap]
    refine ⟨(a : Int), ?_, ?_⟩
    ·unfold natL; rw [List.mem_map]; exact ⟨a, List.mem_range.2 (by omega), rfl⟩
    ·unfold frA; rw [List.mem_map]; exact ⟨q, List.mem_range.2 hq, he.symm⟩)))]
   exact entS_at hy n (fun s hs => h s (by omega)) a (by omega) q hq
theorem init_ent (h : TakesP l t k order) (b : List (List Int)) : InitK l t k order b (entS (layK l t k order) b t.regs.toNat l.body.length) :=
 entS_at (layK_ok h.lay) l.body.length ((firsts_iff _).1 h.firsts)
theorem leave_out (h : TakesP l t k order) (hs : StaOk l s) {N : Nat} (hN : N ≤ 200) {r0 r : List Int} {M : List (List Int)} (he : EndK l t k order s r0 N r M) : (List.range l.outs.length).map (leaveV l t (layK l t k order) s.bef r N) = outsV l s N := by
 unfold outsV
 rw [← range_map' l.outs (fun a => ele (ele (runV l s N).1 0) a)]
 refine List.map_congr_left fun i hi => ?_
 have hi := List.mem_range.1 hi
 have ho := hs.loop.out i hi
 rw [show l.outs.getD i 0 = ele l.outs (i : Int) from rfl] at ho
 obtain ⟨a, ha⟩ := Int.eq_ofNat_of_zero_le ho.1
 have ha' : a < l.body.length := by omega
 have hmem : (a : Int) ∈ l.outs := by rw [← ha]; exact ele_mem' hi
 have hh := hist_at l s N 0 (by omega)
 rw [show ele (runV l s N).1 0 = (runV l s N).1.getD 0 [] from rfl, hh]
 unfold leaveV
 rw [ha]
 by_cases hz : N = 0
 ·subst hz
  have hl := hs.len
  rw [if_pos (by omega), if_neg (by omega), col_at (by omega)]; rfl
 ·rw [if_neg (by omega), if_pos (by omega), he.outs (by omega) a ha' hmem]
  rfl
end
theorem rFits_s (l : Lp) (s : Sta) (hf : l.Fine) (hb : RowsOk s.bef) (hm : RowsOk s.mem) : R2_Fits_m l s = some (tb (FitsP l s)) := by
 have hbl := hb.len; have hml := hm.len
 have hlb := hf.lbody; have hll := hf.llogs
 rw [maxLen_eq] at hbl hml hlb hll
 unfold R2_Fits_m
 rw [ref_May_s l hf, bd_ret]
 by_cases h0 : LoopOk l ∧ s.bef.length = l.body.length ∧ s.mem.length = l.logs.length
 ·rw [show (((!tb (LoopOk l)) || (ln s.bef != ln l.body)) || (ln s.mem != ln l.logs)) = false from by
   rw [tb_t h0.1]; unfold ln; simp only [Bool.not_true, Bool.false_or, Bool.or_eq_false_iff, bne_eq_false_iff_eq]; omega, br_false]
  rcases lp_all (f := R2_Fits_L0 s) (n := s.bef.length) (p := fun i => (s.bef.getD i []).length = 3) (fun i hi _ => by
    have e : R2_Fits_L0 s i = br (!tb ((s.bef.getD i []).length = 3)) (some (.ret false)) (some (.next ((i : Int) + 1))) := by
     unfold R2_Fits_L0
     rw [br_T (by unfold ln; omega), ck_IX (by omega) (by unfold ln; omega), ck_IR (by omega) (by omega), ele_rows, neB]
     rw [tb_congr (show ln (s.bef.getD i []) = 3 ↔ (s.bef.getD i []).length = 3 from by unfold ln; omega)]
    rw [e]
    exact ⟨fun h => by rw [tb_t h]; rfl, fun h => by rw [tb_f h]; rfl⟩) (by unfold R2_Fits_L0; exact br_F (by unfold ln; omega)) with ⟨h1, e1⟩ | ⟨h1, e1⟩
  ·rw [e1, bd_ret, Out.on_go]
   rcases lp_all (f := R2_Fits_L2 l s) (n := s.mem.length) (p := fun i => ((s.mem.getD i []).length : Int) = 2 ^ (l.logs.getD i 0).toNat) (fun i hi _ => by
     have hlg := h0.1.log i (by omega)
     have e : R2_Fits_L2 l s i = br (!tb (((s.mem.getD i []).length : Int) = 2 ^ (l.logs.getD i 0).toNat)) (some (.ret false)) (some (.next ((i : Int) + 1))) := by
      unfold R2_Fits_L2
      rw [br_T (by unfold ln; omega), ck_IX (by omega) (by unfold ln; omega), ele_int, Size_s _ hlg.2, bd_ret, ck_IX (by omega) (by unfold ln; omega), ck_IR (by omega) (by omega), ele_rows, neB]
      rfl
     rw [e]
     exact ⟨fun h => by rw [tb_t h]; rfl, fun h => by rw [tb_f h]; rfl⟩) (by unfold R2_Fits_L2; exact br_F (by unfold ln; omega)) with ⟨h2, e2⟩ | ⟨h2, e2⟩
   ·rw [e2, bd_ret, Out.on_go, tb_t ⟨h0.1, h0.2.1, h0.2.2, h1, h2⟩]
   ·rw [e2, bd_ret, Out.on_ret, tb_f fun h => h2 h.2.2.2.2]
  ·rw [e1, bd_ret, Out.on_ret, tb_f fun h => h1 h.2.2.2.1]
 ·have : (((!tb (LoopOk l)) || (ln s.bef != ln l.body)) || (ln s.mem != ln l.logs)) = true := by
   cases hc : (((!tb (LoopOk l)) || (ln s.bef != ln l.body)) || (ln s.mem != ln l.logs)) with
   | true => rfl
   | false =>
    unfold ln at hc
    simp only [Bool.or_eq_false_iff, bne_eq_false_iff_eq, Bool.not_eq_false'] at hc
    exact absurd ⟨tb_iff.1 hc.1.1, by omega, by omega⟩ h0
  rw [this, br_true, tb_f fun h => h0 ⟨h.1, h.2.1, h.2.2.1⟩]
theorem list_eq {α : Type} [Inhabited α] {a b : List α} : a = b ↔ (a.length = b.length ∧ ∀ i : Nat, i < a.length → ele a (i : Int) = ele b (i : Int)) := by
 constructor
 ·rintro rfl; exact ⟨rfl, fun _ _ => rfl⟩
 ·rintro ⟨h1, h2⟩
  apply List.ext_getElem h1
  intro i hi hi'
  have := h2 i hi
  simpa [ele_nat, List.getD_eq_getElem?_getD, hi, hi'] using this
theorem Numbers_s (a b : List Int) (h : a.length ≤ 9223372036854775806) : R3_Numbers_m a b = some (tb (a = b)) := by
 unfold R3_Numbers_m
 by_cases h0 : a.length = b.length
 ·rw [show (ln a != ln b) = false from by unfold ln; simp; omega, br_false]
  rcases lp_all (f := R3_Numbers_L0 a b) (n := a.length) (p := fun i => ele a (i : Int) = ele b (i : Int)) (fun i hi _ => by
    have e : R3_Numbers_L0 a b i = br (!tb (ele a (i : Int) = ele b (i : Int))) (some (.ret false)) (some (.next ((i : Int) + 1))) := by
     unfold R3_Numbers_L0
     rw [br_T (by unfold ln; omega), ck_IX (by omega) (by unfold ln; omega), ck_IX (by omega) (by unfold ln; omega), ck_IR (by omega) (by omega), neB]
    rw [e]
    exact ⟨fun h => by rw [tb_t h]; rfl, fun h => by rw [tb_f h]; rfl⟩) (by unfold R3_Numbers_L0; exact br_F (by unfold ln; omega)) with ⟨h1, e1⟩ | ⟨h1, e1⟩
  ·rw [e1, bd_ret, Out.on_go, tb_t (list_eq.2 ⟨h0, h1⟩)]
  ·rw [e1, bd_ret, Out.on_ret, tb_f fun hh => h1 (list_eq.1 hh).2]
 ·rw [show (ln a != ln b) = true from by unfold ln; simp; omega, br_true, tb_f fun hh => h0 (by rw [hh])]
theorem Words_s (a b : List (List Int)) (h : a.length ≤ 9223372036854775806) (h2 : ∀ r ∈ a, r.length ≤ 9223372036854775806) : R3_Words_m a b = some (tb (a = b)) := by
 unfold R3_Words_m
 by_cases h0 : a.length = b.length
 ·rw [show (ln a != ln b) = false from by unfold ln; simp; omega, br_false]
  rcases lp_all (f := R3_Words_L0 a b) (n := a.length) (p := fun i => ele a (i : Int) = ele b (i : Int)) (fun i hi _ => by
    have e : R3_Words_L0 a b i = br (!tb (ele a (i : Int) = ele b (i : Int))) (some (.ret false)) (some (.next ((i : Int) + 1))) := by
     have hr := ele_all (p := fun r : List Int => r.length ≤ 9223372036854775806) h2 hi
     unfold R3_Words_L0
     rw [br_T (by unfold ln; omega), ck_IX (by omega) (by unfold ln; omega), ck_IX (by omega) (by unfold ln; omega), ck_IR (by omega) (by omega), Numbers_s _ _ hr, bd_ret]
    rw [e]
    exact ⟨fun h => by rw [tb_t h]; rfl, fun h => by rw [tb_f h]; rfl⟩) (by unfold R3_Words_L0; exact br_F (by unfold ln; omega)) with ⟨h1, e1⟩ | ⟨h1, e1⟩
  ·rw [e1, bd_ret, Out.on_go, tb_t (list_eq.2 ⟨h0, h1⟩)]
  ·rw [e1, bd_ret, Out.on_ret, tb_f fun hh => h1 (list_eq.1 hh).2]
 ·rw [show (ln a != ln b) = true from by unfold ln; simp; omega, br_true, tb_f fun hh => h0 (by rw [hh])]
noncomputable def roundelaylaw_work_m (k_ : Krn) (turns : Int) : Option (Bool) :=
 ck ((!(((decide (turns > 300)) || (decide (k_.stages > 2000))) || (decide (k_.pace > 300)))) = true → IR (turns + k_.stages)) <|
 ck ((!(((decide (turns > 300)) || (decide (k_.stages > 2000))) || (decide (k_.pace > 300)))) = true → IR ((turns + k_.stages) * k_.pace)) <|
 some ((((decide (turns > 300)) || (decide (k_.stages > 2000))) || (decide (k_.pace > 300))) || (decide (((turns + k_.stages) * k_.pace) > 20000)))
noncomputable def roundelaylaw_does_m (l : Lp) (t : Tgt) (k_ : Krn) (order : List Int) (s : Sta) (turns : Int) : Option (Bool) :=
 bd (R10_Enter_m l t k_ order s.bef) fun x5 =>
 bd (R5_Play_m t k_ x5 s.mem turns) fun x9 =>
 bd (R10_Leave_m l t k_ order s.bef x9.1 turns) fun x13 =>
 bd (R3_Play_m l s turns) fun x17 =>
 bd (R3_Numbers_m x13 x17.outs) fun x22 =>
 bdG (x22) (R3_Words_m x9.2 x17.mem) fun x25 =>
 some (x22 && x25)
section
variable {l : Lp} {t : Tgt} {k : Krn} {order : List Int} {s : Sta}
theorem does_s (hf : l.Fine) (hk : KFine l k) (ho : order.length ≤ 9223372036854775807) (h : TakesP l t k order) (hs : StaOk l s) {N : Nat} (hN : N ≤ 200) : roundelaylaw_does_m l t k order s N = some true := by
 have hL := h.lay
 have hb : BefP l s.bef := ⟨hs.len, fun i hi => hs.bef i hi⟩
 have hR := (layK_ok hL).regs
 have hrr : (layK l t k order).regs = t.regs := rfl
 obtain ⟨r, M, e, hE⟩ := Play5_s hf h hs hN (r0 := entS (layK l t k order) s.bef t.regs.toNat l.body.length) (by rw [entS_len]; omega) (init_ent h s.bef)
 have hlo := leave_out h hs hN hE
 have hol := outs_len hs.loop
 have hrun := (run_ok hf hs N (by omega)).2.1
 have hsm := hrun.small hs.loop
 have hov : (outsV l s N).length ≤ 9223372036854775806 := by unfold outsV; rw [List.length_map]; omega
 unfold roundelaylaw_does_m
 rw [rEnter_s hf hk ho hL hb, bd_ret, e, bd_ret, rLeave_s hf hk ho hL hb hE.len ⟨by omega, by omega⟩, bd_ret, hlo, Play_s hf hs N hN, bd_ret, Numbers_s _ _ hov, bd_ret, tb_t rfl, bdG_t, hE.mem, Words_s _ _ (show (runV l s N).2.length ≤ 9223372036854775806 by omega) (fun r hr => by have := hsm.2 r hr; omega), bd_ret, tb_t rfl]
 rfl
end
noncomputable def roundelaylaw_BuildSame_m (l : Lp) (t : Tgt) (s : Sta) (turns : Int) : Option (Bool) :=
 bd (R6_May_m l t) fun x4 =>
 bdG (!(!x4)) (R2_Fits_m l s) fun x7 =>
 br ((((!x4) || (!x7)) || (decide (turns < 0))) || (decide (turns > 200))) (
 some true) (
 bd (build_Build_m l t) fun x13 =>
 br (x13.2.2 == 1) (
 ck (IR (5 * (ln l.body))) <|
 some (decide (t.regs < (5 * (ln l.body))))) (
 bd (R10_Layout_m l t x13.1 x13.2.1) fun x23 =>
 br ((x13.2.2 != 0) || (!x23.2)) (
 some false) (
 bd (roundelaylaw_work_m x13.1 turns) fun x30 =>
 bdG (!x30) (roundelaylaw_does_m l t x13.1 x13.2.1 s turns) fun x33 =>
 some (x30 || x33))))
theorem BuildSame_true (l : Lp) (t : Tgt) (s : Sta) (turns : Int) {w : World} {v1 v2 v3 : Value} (hL : LpRep w v1 v2 v3 l) (hb : RowsOk s.bef) (hm : RowsOk s.mem) (ra : -9223372036854775808 ≤ turns ∧ turns ≤ 9223372036854775807) : roundelaylaw_BuildSame_m l t s turns = some true := by
 have hf := hL.fine
 unfold roundelaylaw_BuildSame_m
 rw [rMay_s hf, bd_ret]
 by_cases h : LoopOk l ∧ tgtOk t = true
 ·rw [tb_t h]
  simp only [Bool.not_true, Bool.not_false, bdG_t, Bool.false_or]
  rw [rFits_s l s hf hb hm, bd_ret]
  by_cases c2 : FitsP l s
  ·rw [tb_t c2]
   simp only [Bool.not_true, Bool.false_or]
   by_cases c1 : turns < 0 ∨ turns > 200
   ·rw [show (decide (turns < 0) || decide (turns > 200)) = true from by rw [Bool.or_eq_true, decide_eq_true_eq, decide_eq_true_eq]; exact c1, br_true]
   ·rw [show (decide (turns < 0) || decide (turns > 200)) = false from by rw [Bool.or_eq_false_iff, decide_eq_false_iff_not, decide_eq_false_iff_not]; omega, br_false]
    have hn := h.1.2.2.1
    rcases Build_s hf h.1 h.2 with ⟨p, v, e, hB⟩ | ⟨e, hr⟩
    ·obtain ⟨b1, b2, b3⟩ := hB
     have hs := c2.ok hb hm
     have hp := b3.lay.may.pace
     have hsg := b3.lay.may.stages
     rw [e, bd_ret, show (((krnN l t p v, natL l.body.length, (0 : Int)) : Krn × List Int × Int).2.2 == 1) = false from rfl, br_false]
     simp only
     rw [Layout_s hf (krnN_fine hf) (by rw [natL_len]; omega), bd_ret, tb_t b3.lay, if_pos rfl]
     simp only [bne_self_eq_false, Bool.not_true, Bool.or_self, br_false]
     have m0 := Int.mul_nonneg (show 0 ≤ turns + (krnN l t p v).stages by omega) (show 0 ≤ (krnN l t p v).pace by omega)
     have m1 := Int.mul_le_mul_of_nonneg_right (show turns + (krnN l t p v).stages ≤ 1201 by omega) (show 0 ≤ (krnN l t p v).pace by omega)
     have hwk : ∃ b, roundelaylaw_work_m (krnN l t p v) turns = some b := by
      unfold roundelaylaw_work_m
      rw [ck_imp (fun _ => ⟨by omega, by omega⟩), ck_imp (fun _ => ⟨by omega, by omega⟩)]
      exact ⟨_, rfl⟩
     obtain ⟨b, e2⟩ := hwk
     rw [e2, bd_ret]
     cases b with
     | true => rfl
     | false =>
      obtain ⟨N, hN⟩ := Int.eq_ofNat_of_zero_le (show 0 ≤ turns by omega)
      rw [Bool.not_false, bdG_t, hN, does_s hf (krnN_fine hf) (by rw [natL_len]; omega) b3 hs (by omega), bd_ret]
      rfl
    ·rw [e, bd_ret, show (((⟨0, 0, []⟩, [], (1 : Int)) : Krn × List Int × Int).2.2 == 1) = true from rfl, br_true, ck_IR (by unfold ln; omega) (by unfold ln; omega), decide_eq_true (show t.regs < 5 * ln l.body from hr)]
  ·rw [tb_f c2]
   simp only [Bool.not_false, Bool.true_or, br_true]
 ·rw [tb_f h]
  simp only [Bool.not_false, Bool.not_true, bdG_f, Bool.true_or, br_true]
end Go.Rd
end
section
namespace Go.Rd
section
variable {P : Program} {n : Nat} {σ : Env} {M : Nat → Prop} {w0 : World} {H : List Res} {C : World → Prop} {rest l : List Oper} {ops : Array Oper} {Q : Exit → Act → World → Prop} {d id : Nat} {v : Value} {x : Operand} {T U : TypeId} {pos : String} {after : Array Edge} {c : Op} {y : Code}
theorem wq (h : Nat.blt d n = true) (hq : QV P ⟨some d, c, T, pos, after, none⟩ σ (Own M w0 H) v) (kk : WK n (wpList P ops Q rest) ((d, (true, v)) :: σ) (Own M w0 H)) : WK n (wpList P ops Q (⟨some d, c, T, pos, after, none⟩ :: rest)) σ (Own M w0 H) := WL.q rfl rfl h hq kk
theorem wm (h : (Nat.blt d n, σ.ev x) = (true, some (true, v))) (kk : WK n (wpList P ops Q rest) ((d, (true, v)) :: σ) (Own M w0 H)) : WK n (wpList P ops Q (⟨some d, .move x, T, pos, after, none⟩ :: rest)) σ (Own M w0 H) :=
 wq (congrArg Prod.fst h) (QV.move (congrArg Prod.snd h) rfl) kk
theorem wa (h : (Nat.blt d n, σ.ev x) = (true, some (true, v))) (kk : WK n (wpList P ops Q rest) ((d, (true, v)) :: σ) (Own M w0 H)) : WK n (wpList P ops Q (⟨some d, .assign x, T, pos, after, none⟩ :: rest)) σ (Own M w0 H) :=
 wq (congrArg Prod.fst h) (QV.assign (congrArg Prod.snd h) rfl) kk
theorem wf {f off : Nat} {q : Addr} (hT : FieldT P U f off) (h : (Nat.blt d n, σ.ev x) = (true, some (true, .pointer (some q)))) (kk : WK n (wpList P ops Q rest) ((d, (true, .pointer (some (q.add off)))) :: σ) (Own M w0 H)) : WK n (wpList P ops Q (⟨some d, .fieldAddr U x f, T, pos, after, none⟩ :: rest)) σ (Own M w0 H) :=
 wq (congrArg Prod.fst h) (QV.fieldAddr hT (congrArg Prod.snd h) rfl) kk
theorem wl {q : Addr} (hT : Plain P U) (h : (Nat.blt d n, σ.ev x) = (true, some (true, .pointer (some q)))) (hc : ∀ w, Own M w0 H w → w.cell? q = some v) (kk : WK n (wpList P ops Q rest) ((d, (true, v)) :: σ) (Own M w0 H)) : WK n (wpList P ops Q (⟨some d, .load U x, T, pos, after, none⟩ :: rest)) σ (Own M w0 H) :=
 wq (congrArg Prod.fst h) (QV.load hT (congrArg Prod.snd h) rfl hc) kk
theorem wz (i : Nat) {m fuel : Nat} {S : World → Prop} [hQ : POk Q] (hi : ops[i]? = some ⟨some d, c, T, pos, after, none⟩) (hn : Nat.blt d n = true) (hq : QV P ⟨some d, c, T, pos, after, none⟩ σ S v)
  (kk : WD P n ops Q S fuel (upto (i + 1) m) ((d, (true, v)) :: σ) (Own M w0 H)) (ht : takeOk ops i m = true := by kernel_rfl) : WD P n ops Q S (fuel + 1) (upto i m) σ (Own M w0 H) := WD.q i hi ht rfl rfl hn hq kk
theorem zm (i : Nat) {m fuel : Nat} {S : World → Prop} [hQ : POk Q] (hi : ops[i]? = some ⟨some d, .move x, T, pos, after, none⟩) (h : (Nat.blt d n, σ.ev x) = (true, some (true, v)))
  (kk : WD P n ops Q S fuel (upto (i + 1) m) ((d, (true, v)) :: σ) (Own M w0 H)) (ht : takeOk ops i m = true := by kernel_rfl) : WD P n ops Q S (fuel + 1) (upto i m) σ (Own M w0 H) := WD.q i hi ht rfl rfl (congrArg Prod.fst h) (QV.move (congrArg Prod.snd h) rfl) kk
theorem zf (i : Nat) {m fuel f off : Nat} {q : Addr} {S : World → Prop} [hQ : POk Q] (hT : FieldT P U f off) (hi : ops[i]? = some ⟨some d, .fieldAddr U x f, T, pos, after, none⟩) (h : (Nat.blt d n, σ.ev x) = (true, some (true, .pointer (some q))))
  (kk : WD P n ops Q S fuel (upto (i + 1) m) ((d, (true, .pointer (some (q.add off)))) :: σ) (Own M w0 H)) (ht : takeOk ops i m = true := by kernel_rfl) : WD P n ops Q S (fuel + 1) (upto i m) σ (Own M w0 H) := WD.q i hi ht rfl rfl (congrArg Prod.fst h) (QV.fieldAddr hT (congrArg Prod.snd h) rfl) kk
theorem zl (i : Nat) {m fuel : Nat} {q : Addr} {S : World → Prop} [hQ : POk Q] (hT : Plain P U) (hi : ops[i]? = some ⟨some d, .load U x, T, pos, after, none⟩) (h : (Nat.blt d n, σ.ev x) = (true, some (true, .pointer (some q)))) (hc : ∀ w, S w → w.cell? q = some v)
  (kk : WD P n ops Q S fuel (upto (i + 1) m) ((d, (true, v)) :: σ) (Own M w0 H)) (ht : takeOk ops i m = true := by kernel_rfl) : WD P n ops Q S (fuel + 1) (upto i m) σ (Own M w0 H) := WD.q i hi ht rfl rfl (congrArg Prod.fst h) (QV.load hT (congrArg Prod.snd h) rfl hc) kk
theorem wc {α : Type} {cc : Operand} {xx : Code} {b : Bool} {u' v' r : α} (hb : σ.ev cc = some (true, .bool b)) (hm : br b u' v' = r) (ht : b = true → u' = r → WK n (xx.wp P Q) σ C) (hf : b = false → v' = r → WK n (y.wp P Q) σ C) : WK n ((Code.cond cc xx y).wp P Q) σ C :=
 WC.cond hb (fun h => ht h (br_t h hm)) (fun h => hf h (br_f h hm))
theorem gn {j d' : Nat} {b : Bool} (h : (Nat.blt d n, (ops[j]?).bind (·.dst), σ.look d') = (true, some d', some (true, .bool b))) (hq : (!b) = true → QV P ⟨some d, c, T, pos, after, some (j, false)⟩ σ (Own M w0 H) v) (kk : WK n (wpList P ops Q rest) ((d, (!b, v)) :: σ) (Own M w0 H)) : WK n (wpList P ops Q (⟨some d, c, T, pos, after, some (j, false)⟩ :: rest)) σ (Own M w0 H) :=
 WL.g rfl (congrArg (·.1) h) (GuardIs.neg (congrArg (·.2.1) h) (congrArg (·.2.2) h)) hq kk
theorem gp {j d' : Nat} {b : Bool} (h : (Nat.blt d n, (ops[j]?).bind (·.dst), σ.look d') = (true, some d', some (true, .bool b))) (hq : b = true → QV P ⟨some d, c, T, pos, after, some (j, true)⟩ σ (Own M w0 H) v) (kk : WK n (wpList P ops Q rest) ((d, (b, v)) :: σ) (Own M w0 H)) : WK n (wpList P ops Q (⟨some d, c, T, pos, after, some (j, true)⟩ :: rest)) σ (Own M w0 H) :=
 WL.g rfl (congrArg (·.1) h) (GuardIs.pos (congrArg (·.2.1) h) (congrArg (·.2.2) h)) hq kk
theorem gnC {j d' : Nat} {b gg : Bool} (h : (Nat.blt d n, (ops[j]?).bind (·.dst), σ.look d') = (true, some d', some (gg, .bool b))) (hq : (gg && !b) = true → QV P ⟨some d, c, T, pos, after, some (j, false)⟩ σ (Own M w0 H) v) (kk : WK n (wpList P ops Q rest) ((d, (gg && !b, v)) :: σ) (Own M w0 H)) : WK n (wpList P ops Q (⟨some d, c, T, pos, after, some (j, false)⟩ :: rest)) σ (Own M w0 H) :=
 WL.g rfl (congrArg (·.1) h) (GuardIs.negC (congrArg (·.2.1) h) (congrArg (·.2.2) h)) hq kk
theorem gpC {j d' : Nat} {b gg : Bool} (h : (Nat.blt d n, (ops[j]?).bind (·.dst), σ.look d') = (true, some d', some (gg, .bool b))) (hq : (gg && b) = true → QV P ⟨some d, c, T, pos, after, some (j, true)⟩ σ (Own M w0 H) v) (kk : WK n (wpList P ops Q rest) ((d, (gg && b, v)) :: σ) (Own M w0 H)) : WK n (wpList P ops Q (⟨some d, c, T, pos, after, some (j, true)⟩ :: rest)) σ (Own M w0 H) :=
 WL.g rfl (congrArg (·.1) h) (GuardIs.posC (congrArg (·.2.1) h) (congrArg (·.2.2) h)) hq kk
theorem zn (i : Nat) {j d' m fuel : Nat} {b : Bool} {S : World → Prop} [hQ : POk Q] (hi : ops[i]? = some ⟨some d, c, T, pos, after, some (j, false)⟩) (h : (Nat.blt d n, (ops[j]?).bind (·.dst), σ.look d') = (true, some d', some (true, .bool b))) (hq : (!b) = true → QV P ⟨some d, c, T, pos, after, some (j, false)⟩ σ S v)
  (kk : WD P n ops Q S fuel (upto (i + 1) m) ((d, (!b, v)) :: σ) (Own M w0 H)) (ht : takeOk ops i m = true := by kernel_rfl) : WD P n ops Q S (fuel + 1) (upto i m) σ (Own M w0 H) := WD.g i hi ht rfl (congrArg (·.1) h) (GuardIs.neg (congrArg (·.2.1) h) (congrArg (·.2.2) h)) hq kk
theorem zp (i : Nat) {j d' m fuel : Nat} {b : Bool} {S : World → Prop} [hQ : POk Q] (hi : ops[i]? = some ⟨some d, c, T, pos, after, some (j, true)⟩) (h : (Nat.blt d n, (ops[j]?).bind (·.dst), σ.look d') = (true, some d', some (true, .bool b))) (hq : b = true → QV P ⟨some d, c, T, pos, after, some (j, true)⟩ σ S v)
  (kk : WD P n ops Q S fuel (upto (i + 1) m) ((d, (b, v)) :: σ) (Own M w0 H)) (ht : takeOk ops i m = true := by kernel_rfl) : WD P n ops Q S (fuel + 1) (upto i m) σ (Own M w0 H) := WD.g i hi ht rfl (congrArg (·.1) h) (GuardIs.pos (congrArg (·.2.1) h) (congrArg (·.2.2) h)) hq kk
theorem ec {xs : List Operand} {vs : List Value} (h : σ.ev x = some (true, v)) (h3 : EvAll σ xs vs) : EvAll σ (x :: xs) (v :: vs) := EvAll.cons h rfl h3
theorem eN : EvAll σ [] [] := EvAll.nil
theorem kg {α : Type} {a : α} {w : World} (h : Own noM w0 H w) : a = a ∧ Grow w0 w := ⟨rfl, Own.kgrow (fun _ x => x) h⟩
theorem pk (js : List Nat) (hn : js.Nodup := by decide) (w : World) (h : Own M w0 H w) : Own M w0 (pickL js H) w := h.pick js hn
theorem tr {K : Act → World → Prop} (h : WK n (Q .ret) σ C) : WK n (Exit.then K Q .ret) σ C := h
theorem te {K : Act → World → Prop} {id : Nat} (h : WK n (Q (.exit id)) σ C) : WK n (Exit.then K Q (.exit id)) σ C := h
theorem kr {id : Nat} (h : WK n (Q .ret) σ C) : WK n (Exit.inBlock id Q .ret) σ C := h
theorem sk (k : WK n (Q .normal) σ C) : WK n (Code.skip.wp P Q) σ C := WC.skip k
theorem sr (h : WK n (wpList P l.toArray (Exit.then (y.wp P Q) Q) l) σ C) : WK n (((Code.region id l.toArray false).seq y).wp P Q) σ C := WC.seq (WC.region h)
theorem nt (h : WK n (y.wp P Q) σ C) : WK n (wpList P ops (Exit.then (y.wp P Q) Q) []) σ C := WL.nil (WQ.then h)
theorem nr (h : WK n (wpList P l.toArray Q l) σ C) : WK n (wpList P ops (Exit.then ((Code.region id l.toArray false).wp P Q) Q) []) σ C := nt (WC.region h)
theorem ns {z : Code} (h : WK n (wpList P l.toArray (Exit.then (z.wp P Q) Q) l) σ C) : WK n (wpList P ops (Exit.then (((Code.region id l.toArray false).seq z).wp P Q) Q) []) σ C := nt (sr h)
end
universe u
theorem Z {α : Sort u} {a : α} : a = a := rfl
theorem fT (sz : Nat) {P : Program} {T : TypeId} {f off : Nat} {fs : Array Field} {fd : Field} (h : P.underlying T = some (.struct fs)) (h1 : fs[f]? = some fd := by rfl) (h2 : fd.offset = off := by rfl) (h3 : (P.info? fd.type).map (·.size) = some (sz + 1) := by kernel_rfl) : FieldT P T f off := ⟨fs, fd, sz, h, h1, h2, h3⟩
theorem eT {P : Program} {f : FuncId} {fn : Func} (h : P.funcs[f]? = some fn) (h1 : fn.body.isNone = false := by kernel_rfl) (h2 : (fn.name == "runtime.NumGoroutine") = false := by kernel_rfl) : Enters P f := ⟨fn, h, h1, h2⟩
theorem nl {a b : Nat} (h : Nat.ble a b = true) : a ≤ b := Nat.le_of_ble_eq_true h
theorem oc {v : Value} {r : List Value} (h : v.oneCell' = true) (k : ∀ u ∈ r, u.oneCell' = true) : ∀ u ∈ v :: r, u.oneCell' = true := one_cons h k
abbrev u_ (i : Nat) (v : Value) : Nat × Bool × Value := (i, (true, v))
abbrev i_ (n : Int) : Value := .int .i64 n
section
variable {α : Type} {x : Option α} {r : α} {c1 c2 c3 c4 c5 c6 c7 c8 : Prop} [Decidable c1] [Decidable c2] [Decidable c3] [Decidable c4] [Decidable c5] [Decidable c6] [Decidable c7] [Decidable c8]
theorem cs (h : ck c1 x = some r) : c1 ∧ x = some r := ck_some h
theorem cs2 (h : ck c1 (ck c2 x) = some r) : c1 ∧ c2 ∧ x = some r := ⟨(cs h).1, cs (cs h).2⟩
theorem cs3 (h : ck c1 (ck c2 (ck c3 x)) = some r) : c1 ∧ c2 ∧ c3 ∧ x = some r := ⟨(cs h).1, cs2 (cs h).2⟩
theorem cs4 (h : ck c1 (ck c2 (ck c3 (ck c4 x))) = some r) : c1 ∧ c2 ∧ c3 ∧ c4 ∧ x = some r := ⟨(cs h).1, cs3 (cs h).2⟩
theorem cs5 (h : ck c1 (ck c2 (ck c3 (ck c4 (ck c5 x)))) = some r) : c1 ∧ c2 ∧ c3 ∧ c4 ∧ c5 ∧ x = some r := ⟨(cs h).1, cs4 (cs h).2⟩
theorem cs6 (h : ck c1 (ck c2 (ck c3 (ck c4 (ck c5 (ck c6 x))))) = some r) : c1 ∧ c2 ∧ c3 ∧ c4 ∧ c5 ∧ c6 ∧ x = some r := ⟨(cs h).1, cs5 (cs h).2⟩
theorem cs7 (h : ck c1 (ck c2 (ck c3 (ck c4 (ck c5 (ck c6 (ck c7 x)))))) = some r) : c1 ∧ c2 ∧ c3 ∧ c4 ∧ c5 ∧ c6 ∧ c7 ∧ x = some r := ⟨(cs h).1, cs6 (cs h).2⟩
theorem cs8 (h : ck c1 (ck c2 (ck c3 (ck c4 (ck c5 (ck c6 (ck c7 (ck c8 x))))))) = some r) : c1 ∧ c2 ∧ c3 ∧ c4 ∧ c5 ∧ c6 ∧ c7 ∧ c8 ∧ x = some r := ⟨(cs h).1, cs7 (cs h).2⟩
end
end Go.Rd
end
section
namespace Go.Proofs.Ytaimbkndebaaiac
open Go.Rd
namespace TNum
theorem en113 : Go.Rd.Enters Try.prog 113 := eT Try.func113
theorem en31 : Go.Rd.Enters Try.prog 31 := eT Try.func31
theorem en48 : Go.Rd.Enters Try.prog 48 := eT Try.func48
end TNum
open TNum
theorem num_Class_w {op r : Int} (w : World) (hm : num_Class_m op = some r)  : Calls Try.prog 89 #[.int .i64 op] w (fun e w' => e = .returned (.int .i64 r) ∧ Grow w w') := by
 unfold num_Class_m at hm
 have hk := Base.rfl (w := w)
 refine calls_of_WC (n := 9) (args := [i_ op]) Try.func89 Z Z (nl Z) ?_ (Own.startK hk (Own.start w))
 refine sr (wa Z (nt (WC.seq (sr (wm Z (nt (WC.block (WC.seq (sr (wq Z (QV.eql Z Z Z Z) (wa Z (nt ?_))))))))))))
 refine wc Z hm (fun h1 hm2 => ?_) (fun h1 hm9 => ?_) <;> clear hm
 ·skip
  refine sk (WQ.then ?_)
  refine wc Z hm2 (fun h3 hm4 => ?_) (fun h3 hm5 => ?_) <;> clear hm2
  ·skip
   refine sr (wa Z (nt (WC.ret (kr (tr ?_)))))
   obtain rfl := (eq_of_some hm4).symm
   exact WQ.ret1 Z Z fun w hw => kg hw
  refine sr (wq Z (QV.eql Z Z Z Z) (wa Z (nt ?_)))
  refine wc Z hm5 (fun h6 hm7 => ?_) (fun h6 hm8 => ?_) <;> clear hm5
  ·skip
   refine sr (wa Z (nt (WC.ret (kr (tr ?_)))))
   obtain rfl := (eq_of_some hm7).symm
   exact WQ.ret1 Z Z fun w hw => kg hw
  refine sk (WQ.block (WQ.then (sr (wa Z (nt (WC.ret ?_))))))
  obtain rfl := (eq_of_some hm8).symm
  exact WQ.ret1 Z Z fun w hw => kg hw
 refine WC.region (wq Z (QV.eql Z Z Z Z) (wa Z (nt ?_)))
 refine wc Z hm9 (fun h10 hm11 => ?_) (fun h10 hm12 => ?_) <;> clear hm9
 ·skip
  refine sr (wa Z (nt (WC.ret (kr (tr ?_)))))
  obtain rfl := (eq_of_some hm11).symm
  exact WQ.ret1 Z Z fun w hw => kg hw
 refine sr (wq Z (QV.eql Z Z Z Z) (wa Z (nt ?_)))
 refine wc Z hm12 (fun h13 hm14 => ?_) (fun h13 hm15 => ?_) <;> clear hm12
 ·skip
  refine sr (wa Z (nt (WC.ret (kr (tr ?_)))))
  obtain rfl := (eq_of_some hm14).symm
  exact WQ.ret1 Z Z fun w hw => kg hw
 refine sk (WQ.block (WQ.then (sr (wa Z (nt (WC.ret ?_))))))
 obtain rfl := (eq_of_some hm15).symm
 exact WQ.ret1 Z Z fun w hw => kg hw
theorem R1_Class_w {op r : Int} (w : World) (hm : R1_Class_m op = some r)  : Calls Try.prog 45 #[.int .i64 op] w (fun e w' => e = .returned (.int .i64 r) ∧ Grow w w') := by
 unfold R1_Class_m at hm
 have hk := Base.rfl (w := w)
 refine calls_of_WC (n := 11) (args := [i_ op]) Try.func45 Z Z (nl Z) ?_ (Own.startK hk (Own.start w))
 refine sr (wa Z (nt (WC.seq (sr (wm Z (wq Z (QV.eql Z Z Z Z) (wm Z (gn Z (fun hG => QV.move Z Z) (gn Z (fun hG => QV.eql Z hG Z Z) (wq Z (QV.pickOr Z Z Z (fun h => notF h)) (nt ?_)))))))))))
 refine wc Z hm (fun h1 hm2 => ?_) (fun h1 hm3 => ?_) <;> clear hm
 ·skip
  refine sr (wa Z (nt (WC.ret (tr ?_))))
  obtain rfl := (eq_of_some hm2).symm
  exact WQ.ret1 Z Z fun w hw => kg hw
 refine sk (WQ.then (WC.seq (sr (wm Z (wq Z (QV.eql Z Z Z Z) (nt ?_))))))
 refine wc Z hm3 (fun h4 hm5 => ?_) (fun h4 hm6 => ?_) <;> clear hm3
 ·skip
  refine sr (wa Z (nt (WC.ret (tr ?_))))
  obtain rfl := (eq_of_some hm5).symm
  exact WQ.ret1 Z Z fun w hw => kg hw
 refine sk (WQ.then (sr (wa Z (nt (WC.ret ?_)))))
 obtain rfl := (eq_of_some hm6).symm
 exact WQ.ret1 Z Z fun w hw => kg hw
theorem R1_Size_w {log r : Int} (w : World) (hm : R1_Size_m log = some r)  : Calls Try.prog 48 #[.int .i64 log] w (fun e w' => e = .returned (.int .i64 r) ∧ Grow w w') := by
 unfold R1_Size_m at hm
 have hk := Base.rfl (w := w)
 refine calls_of_WC (n := 14) (args := [i_ log]) Try.func48 Z Z (nl Z) ?_ (Own.startK hk (Own.start w))
 refine sr (wa Z (ns (wa Z (nt (WC.seq (sr (wa Z (nt ?_))))))))
 obtain ⟨o1, ho2, hm3⟩ := bd_some hm; clear hm; obtain ⟨n4, ho5⟩ := lp_some ho2
 refine WC.bloop2 (H2 := [kn noM w.heap.size w w]) (τ := [u_ 0 _]) (fun (n3_1 : Int) (i4_1 : Int) => [(3, (true, i_ n3_1)), (4, (true, i_ i4_1))]) (fun n3_1 i4_1 => []) (fun n3_1 i4_1 m => iter (R1_Size_L0 log) m (n3_1, i4_1) = some o1) (fun n3_1 i4_1 => o1 = .go (n3_1, i4_1)) 1 0 n4 ho5 ⟨Z, Z, Z, trivial⟩ (pk [0]) ?_ ?_
 ·skip
  rintro n3_1 i4_1 rfl
  refine WQ.then (sr (wm Z (wa Z (nt (WC.ret ?_)))))
  obtain rfl := (eq_of_some hm3).symm
  exact WQ.ret1 Z Z fun w hw => kg hw
 rintro n3_1 i4_1 m6 hI7
 obtain ⟨m8, s9, rfl, hm10, hn11⟩ := iter_step hI7; clear hI7; unfold R1_Size_L0 at hm10; simp only at hm10
 refine WC.seq (sr (wm Z (wm Z (wq Z (QV.lss Z Z Z Z) (nt ?_)))))
 refine wc Z hm10 (fun h12 hm13 => ?_) (fun h12 hm18 => ?_) <;> clear hm10
 ·skip
  refine sk (WQ.then (WC.seq (WC.block (WC.region (wm Z (wm Z ?_))))))
  obtain ⟨c14, c16, hm17⟩ := cs2 hm13; clear hm13
  refine wq Z (QV.add Z Z Z Z c14) (wa Z (WL.nil (WQ.block (WQ.then (WC.region (wm Z (wq Z (QV.add Z Z Z Z c16) (wa Z (WL.nil ?_)))))))))
  exact WQ.again2 (n3_1 + n3_1) (i4_1 + 1) m8 (up_next hm17 hn11) (Nat.lt_succ_self _) ⟨Z, Z, Z, trivial⟩ (pk [0])
 refine WC.exit (te (te (WQ.block_exit ?_)))
 exact WQ.out2 n3_1 i4_1 (up_brk hm18 hn11) ⟨Z, Z, Z, trivial⟩ (pk [0])
theorem R1_Rest_w {a b r : Int} (w : World) (hm : R1_Rest_m a b = some r)  : Calls Try.prog 31 #[.int .i64 a, .int .i64 b] w (fun e w' => e = .returned (.int .i64 r) ∧ Grow w w') := by
 unfold R1_Rest_m at hm
 have hk := Base.rfl (w := w)
 refine calls_of_WC (n := 15) (args := [i_ a, i_ b]) Try.func31 Z Z (nl Z) ?_ (Own.startK hk (Own.start w))
 refine sr (wa Z (ns (wm Z (wm Z ?_))))
 obtain ⟨c1, hm2⟩ := cs hm; clear hm
 refine wq Z (QV.rem Z Z Z Z c1) (wa Z (nt (WC.seq (sr (wm Z (wq Z (QV.lss Z Z Z Z) (nt ?_)))))))
 refine wc Z hm2 (fun h3 hm4 => ?_) (fun h3 hm7 => ?_) <;> clear hm2
 ·skip
  refine WC.region (wm Z (wm Z ?_))
  obtain ⟨c5, hm6⟩ := cs hm4; clear hm4
  refine wq Z (QV.add Z Z Z Z c5) (wa Z (ns (wm Z (wa Z (nt (WC.ret ?_))))))
  obtain rfl := (eq_of_some hm6).symm
  exact WQ.ret1 Z Z fun w hw => kg hw
 refine sk (WQ.then (sr (wm Z (wa Z (nt (WC.ret ?_))))))
 obtain rfl := (eq_of_some hm7).symm
 exact WQ.ret1 Z Z fun w hw => kg hw
theorem R1_bits_w {op a b r : Int} (w : World) (hm : R1_bits_m op a b = some r)  : Calls Try.prog 113 #[.int .i64 op, .int .i64 a, .int .i64 b] w (fun e w' => e = .returned (.int .i64 r) ∧ Grow w w') := by
 unfold R1_bits_m at hm
 have hk := Base.rfl (w := w)
 refine calls_of_WC (n := 76) (args := [i_ op, i_ a, i_ b]) Try.func113 Z Z (nl Z) ?_ (Own.startK hk (Own.start w))
 refine sr (wa Z (ns (wa Z (ns (wa Z (nt (WC.seq (sr (wa Z (nt ?_))))))))))
 obtain ⟨o1, ho2, hm3⟩ := bd_some hm; clear hm; obtain ⟨n4, ho5⟩ := lp_some ho2
 refine WC.bloop5 (H2 := [kn noM w.heap.size w w]) (τ := [u_ 0 _]) (fun (a1_1 : Int) (b2_1 : Int) (n7_1 : Int) (power8_1 : Int) (i9_1 : Int) => [(1, (true, i_ a1_1)), (2, (true, i_ b2_1)), (7, (true, i_ n7_1)), (8, (true, i_ power8_1)), (9, (true, i_ i9_1))]) (fun a1_1 b2_1 n7_1 power8_1 i9_1 => []) (fun a1_1 b2_1 n7_1 power8_1 i9_1 m => iter (R1_bits_L0 op) m (a1_1, b2_1, n7_1, power8_1, i9_1) = some o1) (fun a1_1 b2_1 n7_1 power8_1 i9_1 => o1 = .go (a1_1, b2_1, n7_1, power8_1, i9_1)) a b 0 1 0 n4 ho5 ⟨Z, Z, Z, Z, Z, Z, trivial⟩ (pk [0]) ?_ ?_
 ·skip
  rintro a1_1 b2_1 n7_1 power8_1 i9_1 rfl
  refine WQ.then (sr (wm Z (wa Z (nt (WC.ret ?_)))))
  obtain rfl := (eq_of_some hm3).symm
  exact WQ.ret1 Z Z fun w hw => kg hw
 rintro a1_1 b2_1 n7_1 power8_1 i9_1 m6 hI7
 obtain ⟨m8, s9, rfl, hm10, hn11⟩ := iter_step hI7; clear hI7; unfold R1_bits_L0 at hm10; simp only at hm10
 refine WC.seq (sr (wm Z (wq Z (QV.lss Z Z Z Z) (nt ?_))))
 refine wc Z hm10 (fun h12 hm13 => ?_) (fun h12 hm67 => ?_) <;> clear hm10
 ·skip
  refine sk (WQ.then (WC.seq (WC.block (sr (wm Z (wq Z (QV.rem Z Z Z Z (by decide)) (wa Z (ns (wm Z (wq Z (QV.rem Z Z Z Z (by decide)) (wa Z (ns (wm Z ?_)))))))))))))
  refine wq Z (QV.neq Z Z Z Z) (wa Z (ns (wm Z (wq Z (QV.neq Z Z Z Z) (wa Z (nt (WC.seq (sr (wm Z (wq Z (QV.eql Z Z Z Z) (wm Z ?_)))))))))))
  refine gp Z (fun hG => QV.move Z Z) (wq Z (QV.pickAnd Z Z Z (fun h => h)) (wm Z (gp Z (fun hG => QV.move Z Z) (wq Z (QV.pickAnd Z Z Z (fun h => h)) (wm Z (gn Z (fun hG => QV.move Z Z) (gn Z (fun hG => QV.eql Z hG Z Z) (gn Z (fun hG => QV.move Z hG) (gpC Z (fun hG => QV.move Z Z) ?_)))))))))
  refine gpC Z (fun hG => QV.move Z hG) (gnC Z (fun hG => QV.move Z Z) (gpC Z (fun hG => QV.pickOr Z hG Z (fun h => andN hG h)) (gn Z (fun hG => QV.pickAnd Z hG Z (fun h => andT hG h)) (wq Z (QV.pickOr Z Z Z (fun h => notF h)) (wm Z (gn Z (fun hG => QV.move Z Z) (gn Z (fun hG => QV.eql Z hG Z Z) (gn Z (fun hG => QV.move Z hG) (gpC Z (fun hG => QV.move Z Z) ?_)))))))))
  refine gpC Z (fun hG => QV.move Z Z) (gpC Z (fun hG => QV.neqB Try.underlying4 Z hG Z hG) (gn Z (fun hG => QV.pickAnd Z hG Z (fun h => andT hG h)) (wq Z (QV.pickOr Z Z Z (fun h => notF h)) (nt ?_))))
  refine wc Z hm13 (fun h14 hm15 => ?_) (fun h14 hm41 => ?_) <;> clear hm13
  ·skip
   refine WC.region (wm Z (wm Z (wq Z (QV.addW Z Z Z Z) (wa Z (ns (wm Z (wm Z (wq Z (QV.addW Z Z Z Z) (wa Z ?_)))))))))
   refine nt (WC.seq (sr (wm Z (wq Z (QV.lss Z Z Z Z) (nt ?_)))))
   refine wc Z hm15 (fun h16 hm17 => ?_) (fun h16 hm29 => ?_) <;> clear hm15
   ·skip
    refine WC.region (wm Z (wq Z (QV.addW Z Z Z Z) (wa Z (nt (WC.seq (sr (wm Z (wq Z (QV.lss Z Z Z Z) (nt ?_)))))))))
    refine wc Z hm17 (fun h18 hm19 => ?_) (fun h18 hm24 => ?_) <;> clear hm17
    ·skip
     refine WC.region (wm Z (wq Z (QV.addW Z Z Z Z) (wa Z (ns (wm Z (wm Z (wq Z (QV.subW Z Z Z Z) ?_)))))))
     obtain ⟨c20, c22, hm23⟩ := cs2 hm19; clear hm19
     refine wq Z (QV.quo Z Z Z Z (by decide) c20) (wa Z (nr (wm Z (wm Z (wq Z (QV.subW Z Z Z Z) (wq Z (QV.quo Z Z Z Z (by decide) c22) (wa Z (WL.nil (WQ.block (WQ.then (WC.region (wm Z ?_))))))))))))
     refine wq Z (QV.addW Z Z Z Z) (wa Z (WL.nil ?_))
     exact WQ.again5 (Int.tdiv (IntKind.i64.wrap (a1_1 - (IntKind.i64.wrap ((Int.tmod a1_1 2) + 2)))) 2) (Int.tdiv (IntKind.i64.wrap (b2_1 - (IntKind.i64.wrap ((Int.tmod b2_1 2) + 2)))) 2) (IntKind.i64.wrap (n7_1 + power8_1)) (IntKind.i64.wrap (power8_1 + power8_1)) (IntKind.i64.wrap (i9_1 + 1)) m8 (up_next hm23 hn11) (Nat.lt_succ_self _) ⟨Z, Z, Z, Z, Z, Z, trivial⟩ (pk [0])
    refine sk (WQ.then (sr (wm Z (wm Z (wq Z (QV.subW Z Z Z Z) ?_)))))
    obtain ⟨c25, c27, hm28⟩ := cs2 hm24; clear hm24
    refine wq Z (QV.quo Z Z Z Z (by decide) c25) (wa Z (nr (wm Z (wm Z (wq Z (QV.subW Z Z Z Z) (wq Z (QV.quo Z Z Z Z (by decide) c27) (wa Z (WL.nil (WQ.block (WQ.then (WC.region (wm Z ?_))))))))))))
    refine wq Z (QV.addW Z Z Z Z) (wa Z (WL.nil ?_))
    exact WQ.again5 (Int.tdiv (IntKind.i64.wrap (a1_1 - (IntKind.i64.wrap ((Int.tmod a1_1 2) + 2)))) 2) (Int.tdiv (IntKind.i64.wrap (b2_1 - (Int.tmod b2_1 2))) 2) (IntKind.i64.wrap (n7_1 + power8_1)) (IntKind.i64.wrap (power8_1 + power8_1)) (IntKind.i64.wrap (i9_1 + 1)) m8 (up_next hm28 hn11) (Nat.lt_succ_self _) ⟨Z, Z, Z, Z, Z, Z, trivial⟩ (pk [0])
   refine sk (WQ.then (WC.seq (sr (wm Z (wq Z (QV.lss Z Z Z Z) (nt ?_))))))
   refine wc Z hm29 (fun h30 hm31 => ?_) (fun h30 hm36 => ?_) <;> clear hm29
   ·skip
    refine WC.region (wm Z (wq Z (QV.addW Z Z Z Z) (wa Z (ns (wm Z (wm Z (wq Z (QV.subW Z Z Z Z) ?_)))))))
    obtain ⟨c32, c34, hm35⟩ := cs2 hm31; clear hm31
    refine wq Z (QV.quo Z Z Z Z (by decide) c32) (wa Z (nr (wm Z (wm Z (wq Z (QV.subW Z Z Z Z) (wq Z (QV.quo Z Z Z Z (by decide) c34) (wa Z (WL.nil (WQ.block (WQ.then (WC.region (wm Z ?_))))))))))))
    refine wq Z (QV.addW Z Z Z Z) (wa Z (WL.nil ?_))
    exact WQ.again5 (Int.tdiv (IntKind.i64.wrap (a1_1 - (Int.tmod a1_1 2))) 2) (Int.tdiv (IntKind.i64.wrap (b2_1 - (IntKind.i64.wrap ((Int.tmod b2_1 2) + 2)))) 2) (IntKind.i64.wrap (n7_1 + power8_1)) (IntKind.i64.wrap (power8_1 + power8_1)) (IntKind.i64.wrap (i9_1 + 1)) m8 (up_next hm35 hn11) (Nat.lt_succ_self _) ⟨Z, Z, Z, Z, Z, Z, trivial⟩ (pk [0])
   refine sk (WQ.then (sr (wm Z (wm Z (wq Z (QV.subW Z Z Z Z) ?_)))))
   obtain ⟨c37, c39, hm40⟩ := cs2 hm36; clear hm36
   refine wq Z (QV.quo Z Z Z Z (by decide) c37) (wa Z (nr (wm Z (wm Z (wq Z (QV.subW Z Z Z Z) (wq Z (QV.quo Z Z Z Z (by decide) c39) (wa Z (WL.nil (WQ.block (WQ.then (WC.region (wm Z ?_))))))))))))
   refine wq Z (QV.addW Z Z Z Z) (wa Z (WL.nil ?_))
   exact WQ.again5 (Int.tdiv (IntKind.i64.wrap (a1_1 - (Int.tmod a1_1 2))) 2) (Int.tdiv (IntKind.i64.wrap (b2_1 - (Int.tmod b2_1 2))) 2) (IntKind.i64.wrap (n7_1 + power8_1)) (IntKind.i64.wrap (power8_1 + power8_1)) (IntKind.i64.wrap (i9_1 + 1)) m8 (up_next hm40 hn11) (Nat.lt_succ_self _) ⟨Z, Z, Z, Z, Z, Z, trivial⟩ (pk [0])
  refine sk (WQ.then (sr (wm Z (wm Z (wq Z (QV.addW Z Z Z Z) (wa Z (nt (WC.seq (sr (wm Z (wq Z (QV.lss Z Z Z Z) (nt ?_))))))))))))
  refine wc Z hm41 (fun h42 hm43 => ?_) (fun h42 hm55 => ?_) <;> clear hm41
  ·skip
   refine WC.region (wm Z (wq Z (QV.addW Z Z Z Z) (wa Z (nt (WC.seq (sr (wm Z (wq Z (QV.lss Z Z Z Z) (nt ?_)))))))))
   refine wc Z hm43 (fun h44 hm45 => ?_) (fun h44 hm50 => ?_) <;> clear hm43
   ·skip
    refine WC.region (wm Z (wq Z (QV.addW Z Z Z Z) (wa Z (ns (wm Z (wm Z (wq Z (QV.subW Z Z Z Z) ?_)))))))
    obtain ⟨c46, c48, hm49⟩ := cs2 hm45; clear hm45
    refine wq Z (QV.quo Z Z Z Z (by decide) c46) (wa Z (nr (wm Z (wm Z (wq Z (QV.subW Z Z Z Z) (wq Z (QV.quo Z Z Z Z (by decide) c48) (wa Z (WL.nil (WQ.block (WQ.then (WC.region (wm Z ?_))))))))))))
    refine wq Z (QV.addW Z Z Z Z) (wa Z (WL.nil ?_))
    exact WQ.again5 (Int.tdiv (IntKind.i64.wrap (a1_1 - (IntKind.i64.wrap ((Int.tmod a1_1 2) + 2)))) 2) (Int.tdiv (IntKind.i64.wrap (b2_1 - (IntKind.i64.wrap ((Int.tmod b2_1 2) + 2)))) 2) n7_1 (IntKind.i64.wrap (power8_1 + power8_1)) (IntKind.i64.wrap (i9_1 + 1)) m8 (up_next hm49 hn11) (Nat.lt_succ_self _) ⟨Z, Z, Z, Z, Z, Z, trivial⟩ (pk [0])
   refine sk (WQ.then (sr (wm Z (wm Z (wq Z (QV.subW Z Z Z Z) ?_)))))
   obtain ⟨c51, c53, hm54⟩ := cs2 hm50; clear hm50
   refine wq Z (QV.quo Z Z Z Z (by decide) c51) (wa Z (nr (wm Z (wm Z (wq Z (QV.subW Z Z Z Z) (wq Z (QV.quo Z Z Z Z (by decide) c53) (wa Z (WL.nil (WQ.block (WQ.then (WC.region (wm Z ?_))))))))))))
   refine wq Z (QV.addW Z Z Z Z) (wa Z (WL.nil ?_))
   exact WQ.again5 (Int.tdiv (IntKind.i64.wrap (a1_1 - (IntKind.i64.wrap ((Int.tmod a1_1 2) + 2)))) 2) (Int.tdiv (IntKind.i64.wrap (b2_1 - (Int.tmod b2_1 2))) 2) n7_1 (IntKind.i64.wrap (power8_1 + power8_1)) (IntKind.i64.wrap (i9_1 + 1)) m8 (up_next hm54 hn11) (Nat.lt_succ_self _) ⟨Z, Z, Z, Z, Z, Z, trivial⟩ (pk [0])
  refine sk (WQ.then (WC.seq (sr (wm Z (wq Z (QV.lss Z Z Z Z) (nt ?_))))))
  refine wc Z hm55 (fun h56 hm57 => ?_) (fun h56 hm62 => ?_) <;> clear hm55
  ·skip
   refine WC.region (wm Z (wq Z (QV.addW Z Z Z Z) (wa Z (ns (wm Z (wm Z (wq Z (QV.subW Z Z Z Z) ?_)))))))
   obtain ⟨c58, c60, hm61⟩ := cs2 hm57; clear hm57
   refine wq Z (QV.quo Z Z Z Z (by decide) c58) (wa Z (nr (wm Z (wm Z (wq Z (QV.subW Z Z Z Z) (wq Z (QV.quo Z Z Z Z (by decide) c60) (wa Z (WL.nil (WQ.block (WQ.then (WC.region (wm Z ?_))))))))))))
   refine wq Z (QV.addW Z Z Z Z) (wa Z (WL.nil ?_))
   exact WQ.again5 (Int.tdiv (IntKind.i64.wrap (a1_1 - (Int.tmod a1_1 2))) 2) (Int.tdiv (IntKind.i64.wrap (b2_1 - (IntKind.i64.wrap ((Int.tmod b2_1 2) + 2)))) 2) n7_1 (IntKind.i64.wrap (power8_1 + power8_1)) (IntKind.i64.wrap (i9_1 + 1)) m8 (up_next hm61 hn11) (Nat.lt_succ_self _) ⟨Z, Z, Z, Z, Z, Z, trivial⟩ (pk [0])
  refine sk (WQ.then (sr (wm Z (wm Z (wq Z (QV.subW Z Z Z Z) ?_)))))
  obtain ⟨c63, c65, hm66⟩ := cs2 hm62; clear hm62
  refine wq Z (QV.quo Z Z Z Z (by decide) c63) (wa Z (nr (wm Z (wm Z (wq Z (QV.subW Z Z Z Z) (wq Z (QV.quo Z Z Z Z (by decide) c65) (wa Z (WL.nil (WQ.block (WQ.then (WC.region (wm Z ?_))))))))))))
  refine wq Z (QV.addW Z Z Z Z) (wa Z (WL.nil ?_))
  exact WQ.again5 (Int.tdiv (IntKind.i64.wrap (a1_1 - (Int.tmod a1_1 2))) 2) (Int.tdiv (IntKind.i64.wrap (b2_1 - (Int.tmod b2_1 2))) 2) n7_1 (IntKind.i64.wrap (power8_1 + power8_1)) (IntKind.i64.wrap (i9_1 + 1)) m8 (up_next hm66 hn11) (Nat.lt_succ_self _) ⟨Z, Z, Z, Z, Z, Z, trivial⟩ (pk [0])
 refine WC.exit (te (te (WQ.block_exit ?_)))
 exact WQ.out5 a1_1 b2_1 n7_1 power8_1 i9_1 (up_brk hm67 hn11) ⟨Z, Z, Z, Z, Z, Z, trivial⟩ (pk [0])
theorem R1_Op_w {op a b r : Int} (w : World) (hm : R1_Op_m op a b = some r)  : Calls Try.prog 82 #[.int .i64 op, .int .i64 a, .int .i64 b] w (fun e w' => e = .returned (.int .i64 r) ∧ Grow w w') := by
 unfold R1_Op_m at hm
 have hk := Base.rfl (w := w)
 refine calls_of_WC (n := 41) (args := [i_ op, i_ a, i_ b]) Try.func82 Z Z (nl Z) ?_ (Own.startK hk (Own.start w))
 refine sr (wa Z (nt (WC.seq (sr (wm Z (nt (WC.block (sr (wq Z (QV.eql Z Z Z Z) (wa Z (nt ?_)))))))))))
 refine wc Z hm (fun h1 hm2 => ?_) (fun h1 hm3 => ?_) <;> clear hm
 ·skip
  refine sr (wm Z (wm Z (wq Z (QV.addW Z Z Z Z) (wa Z (nt (WC.ret (kr (tr ?_))))))))
  obtain rfl := (eq_of_some hm2).symm
  exact WQ.ret1 Z Z fun w hw => kg hw
 refine sr (wq Z (QV.eql Z Z Z Z) (wa Z (nt ?_)))
 refine wc Z hm3 (fun h4 hm5 => ?_) (fun h4 hm6 => ?_) <;> clear hm3
 ·skip
  refine sr (wm Z (wm Z (wq Z (QV.subW Z Z Z Z) (wa Z (nt (WC.ret (kr (tr ?_))))))))
  obtain rfl := (eq_of_some hm5).symm
  exact WQ.ret1 Z Z fun w hw => kg hw
 refine sr (wq Z (QV.eql Z Z Z Z) (wa Z (nt ?_)))
 refine wc Z hm6 (fun h7 hm8 => ?_) (fun h7 hm9 => ?_) <;> clear hm6
 ·skip
  refine sr (wm Z (wm Z (wq Z (QV.mulW Z Z Z Z) (wa Z (nt (WC.ret (kr (tr ?_))))))))
  obtain rfl := (eq_of_some hm8).symm
  exact WQ.ret1 Z Z fun w hw => kg hw
 refine WC.seq (sr (wq Z (QV.eql Z Z Z Z) (wa Z (nt ?_))))
 refine wc Z hm9 (fun h10 hm11 => ?_) (fun h10 hm30 => ?_) <;> clear hm9
 ·skip
  refine sk (WQ.then ?_)
  refine wc Z hm11 (fun h12 hm13 => ?_) (fun h12 hm17 => ?_) <;> clear hm11
  ·skip
   refine sr (wm Z (wm Z (wm Z ?_)))
   obtain ⟨x14, hx15, hm16⟩ := bd_some hm13; clear hm13
   refine wq Z (QV.call en113 (ec Z (ec Z (ec Z eN))) (fun w hw => have h := R1_bits_w w hx15 ; h)) (wa Z (nt (WC.ret (kr (tr ?_)))))
   obtain rfl := (eq_of_some hm16).symm
   exact WQ.ret1 Z Z fun w hw => kg hw
  refine sr (wq Z (QV.eql Z Z Z Z) (wa Z (nt ?_)))
  refine wc Z hm17 (fun h18 hm19 => ?_) (fun h18 hm23 => ?_) <;> clear hm17
  ·skip
   refine sr (wm Z (wm Z (wq Z (QV.lss Z Z Z Z) (nt ?_))))
   refine wc Z hm19 (fun h20 hm21 => ?_) (fun h20 hm22 => ?_) <;> clear hm19
   ·skip
    refine sr (wa Z (nt (WC.ret (kr (tr ?_)))))
    obtain rfl := (eq_of_some hm21).symm
    exact WQ.ret1 Z Z fun w hw => kg hw
   refine sk (WQ.block (WQ.then (sr (wa Z (nt (WC.ret ?_))))))
   obtain rfl := (eq_of_some hm22).symm
   exact WQ.ret1 Z Z fun w hw => kg hw
  refine sr (wq Z (QV.eql Z Z Z Z) (wa Z (nt ?_)))
  refine wc Z hm23 (fun h24 hm25 => ?_) (fun h24 hm29 => ?_) <;> clear hm23
  ·skip
   refine sr (wm Z (wm Z (wq Z (QV.eql Z Z Z Z) (nt ?_))))
   refine wc Z hm25 (fun h26 hm27 => ?_) (fun h26 hm28 => ?_) <;> clear hm25
   ·skip
    refine sr (wa Z (nt (WC.ret (kr (tr ?_)))))
    obtain rfl := (eq_of_some hm27).symm
    exact WQ.ret1 Z Z fun w hw => kg hw
   refine sk (WQ.block (WQ.then (sr (wa Z (nt (WC.ret ?_))))))
   obtain rfl := (eq_of_some hm28).symm
   exact WQ.ret1 Z Z fun w hw => kg hw
  refine sk (WQ.block (WQ.then (sr (wa Z (nt (WC.ret ?_))))))
  obtain rfl := (eq_of_some hm29).symm
  exact WQ.ret1 Z Z fun w hw => kg hw
 refine sr (wq Z (QV.eql Z Z Z Z) (wa Z (nt ?_)))
 refine wc Z hm30 (fun h31 hm32 => ?_) (fun h31 hm51 => ?_) <;> clear hm30
 ·skip
  refine sk (WQ.then ?_)
  refine wc Z hm32 (fun h33 hm34 => ?_) (fun h33 hm38 => ?_) <;> clear hm32
  ·skip
   refine sr (wm Z (wm Z (wm Z ?_)))
   obtain ⟨x35, hx36, hm37⟩ := bd_some hm34; clear hm34
   refine wq Z (QV.call en113 (ec Z (ec Z (ec Z eN))) (fun w hw => have h := R1_bits_w w hx36 ; h)) (wa Z (nt (WC.ret (kr (tr ?_)))))
   obtain rfl := (eq_of_some hm37).symm
   exact WQ.ret1 Z Z fun w hw => kg hw
  refine sr (wq Z (QV.eql Z Z Z Z) (wa Z (nt ?_)))
  refine wc Z hm38 (fun h39 hm40 => ?_) (fun h39 hm44 => ?_) <;> clear hm38
  ·skip
   refine sr (wm Z (wm Z (wq Z (QV.lss Z Z Z Z) (nt ?_))))
   refine wc Z hm40 (fun h41 hm42 => ?_) (fun h41 hm43 => ?_) <;> clear hm40
   ·skip
    refine sr (wa Z (nt (WC.ret (kr (tr ?_)))))
    obtain rfl := (eq_of_some hm42).symm
    exact WQ.ret1 Z Z fun w hw => kg hw
   refine sk (WQ.block (WQ.then (sr (wa Z (nt (WC.ret ?_))))))
   obtain rfl := (eq_of_some hm43).symm
   exact WQ.ret1 Z Z fun w hw => kg hw
  refine sr (wq Z (QV.eql Z Z Z Z) (wa Z (nt ?_)))
  refine wc Z hm44 (fun h45 hm46 => ?_) (fun h45 hm50 => ?_) <;> clear hm44
  ·skip
   refine sr (wm Z (wm Z (wq Z (QV.eql Z Z Z Z) (nt ?_))))
   refine wc Z hm46 (fun h47 hm48 => ?_) (fun h47 hm49 => ?_) <;> clear hm46
   ·skip
    refine sr (wa Z (nt (WC.ret (kr (tr ?_)))))
    obtain rfl := (eq_of_some hm48).symm
    exact WQ.ret1 Z Z fun w hw => kg hw
   refine sk (WQ.block (WQ.then (sr (wa Z (nt (WC.ret ?_))))))
   obtain rfl := (eq_of_some hm49).symm
   exact WQ.ret1 Z Z fun w hw => kg hw
  refine sk (WQ.block (WQ.then (sr (wa Z (nt (WC.ret ?_))))))
  obtain rfl := (eq_of_some hm50).symm
  exact WQ.ret1 Z Z fun w hw => kg hw
 refine WC.region (wq Z (QV.eql Z Z Z Z) (wa Z (nt ?_)))
 refine wc Z hm51 (fun h52 hm53 => ?_) (fun h52 hm57 => ?_) <;> clear hm51
 ·skip
  refine sr (wm Z (wm Z (wm Z ?_)))
  obtain ⟨x54, hx55, hm56⟩ := bd_some hm53; clear hm53
  refine wq Z (QV.call en113 (ec Z (ec Z (ec Z eN))) (fun w hw => have h := R1_bits_w w hx55 ; h)) (wa Z (nt (WC.ret (kr (tr ?_)))))
  obtain rfl := (eq_of_some hm56).symm
  exact WQ.ret1 Z Z fun w hw => kg hw
 refine sr (wq Z (QV.eql Z Z Z Z) (wa Z (nt ?_)))
 refine wc Z hm57 (fun h58 hm59 => ?_) (fun h58 hm63 => ?_) <;> clear hm57
 ·skip
  refine sr (wm Z (wm Z (wq Z (QV.lss Z Z Z Z) (nt ?_))))
  refine wc Z hm59 (fun h60 hm61 => ?_) (fun h60 hm62 => ?_) <;> clear hm59
  ·skip
   refine sr (wa Z (nt (WC.ret (kr (tr ?_)))))
   obtain rfl := (eq_of_some hm61).symm
   exact WQ.ret1 Z Z fun w hw => kg hw
  refine sk (WQ.block (WQ.then (sr (wa Z (nt (WC.ret ?_))))))
  obtain rfl := (eq_of_some hm62).symm
  exact WQ.ret1 Z Z fun w hw => kg hw
 refine sr (wq Z (QV.eql Z Z Z Z) (wa Z (nt ?_)))
 refine wc Z hm63 (fun h64 hm65 => ?_) (fun h64 hm69 => ?_) <;> clear hm63
 ·skip
  refine sr (wm Z (wm Z (wq Z (QV.eql Z Z Z Z) (nt ?_))))
  refine wc Z hm65 (fun h66 hm67 => ?_) (fun h66 hm68 => ?_) <;> clear hm65
  ·skip
   refine sr (wa Z (nt (WC.ret (kr (tr ?_)))))
   obtain rfl := (eq_of_some hm67).symm
   exact WQ.ret1 Z Z fun w hw => kg hw
  refine sk (WQ.block (WQ.then (sr (wa Z (nt (WC.ret ?_))))))
  obtain rfl := (eq_of_some hm68).symm
  exact WQ.ret1 Z Z fun w hw => kg hw
 refine sk (WQ.block (WQ.then (sr (wa Z (nt (WC.ret ?_))))))
 obtain rfl := (eq_of_some hm69).symm
 exact WQ.ret1 Z Z fun w hw => kg hw
theorem R1_Index_w {step plus turn log r : Int} (w : World) (hm : R1_Index_m step plus turn log = some r)  : Calls Try.prog 81 #[.int .i64 step, .int .i64 plus, .int .i64 turn, .int .i64 log] w (fun e w' => e = .returned (.int .i64 r) ∧ Grow w w') := by
 unfold R1_Index_m at hm
 have hk := Base.rfl (w := w)
 refine calls_of_WC (n := 47) (args := [i_ step, i_ plus, i_ turn, i_ log]) Try.func81 Z Z (nl Z) ?_ (Own.startK hk (Own.start w))
 refine sr (wa Z (nt (WC.seq (sr (wm Z (wq Z (QV.lss Z Z Z Z) (wm Z (gn Z (fun hG => QV.move Z Z) (gn Z (fun hG => QV.gtr Z hG Z Z) (wq Z (QV.pickOr Z Z Z (fun h => notF h)) (wm Z ?_)))))))))))
 refine gn Z (fun hG => QV.move Z Z) (gn Z (fun hG => QV.lss Z hG Z Z) (wq Z (QV.pickOr Z Z Z (fun h => notF h)) (wm Z (gn Z (fun hG => QV.move Z Z) (gn Z (fun hG => QV.gtr Z hG Z Z) (wq Z (QV.pickOr Z Z Z (fun h => notF h)) (wm Z (gn Z (fun hG => QV.move Z Z) (gn Z (fun hG => QV.lss Z hG Z Z) ?_)))))))))
 refine wq Z (QV.pickOr Z Z Z (fun h => notF h)) (wm Z (gn Z (fun hG => QV.move Z Z) (gn Z (fun hG => QV.gtr Z hG Z Z) (wq Z (QV.pickOr Z Z Z (fun h => notF h)) (wm Z (gn Z (fun hG => QV.move Z Z) (gn Z (fun hG => QV.lss Z hG Z Z) (wq Z (QV.pickOr Z Z Z (fun h => notF h)) (wm Z ?_)))))))))
 refine gn Z (fun hG => QV.move Z Z) (gn Z (fun hG => QV.gtr Z hG Z Z) (wq Z (QV.pickOr Z Z Z (fun h => notF h)) (nt ?_)))
 refine wc Z hm (fun h1 hm2 => ?_) (fun h1 hm3 => ?_) <;> clear hm
 ·skip
  refine sr (wa Z (nt (WC.ret (tr ?_))))
  obtain rfl := (eq_of_some hm2).symm
  exact WQ.ret1 Z Z fun w hw => kg hw
 refine sk (WQ.then (sr (wm Z (wm Z ?_))))
 obtain ⟨c4, c6, hm7⟩ := cs2 hm3; clear hm3
 refine wq Z (QV.mul Z Z Z Z c4) (wm Z (wq Z (QV.add Z Z Z Z c6) (wm Z ?_)))
 obtain ⟨x8, hx9, hm10⟩ := bd_some hm7; clear hm7
 refine wq Z (QV.call en48 (ec Z eN) (fun w hw => have h := R1_Size_w w hx9 ; h)) ?_
 obtain ⟨x11, hx12, hm13⟩ := bd_some hm10; clear hm10
 refine wq Z (QV.call en31 (ec Z (ec Z eN)) (fun w hw => have h := R1_Rest_w w hx12 ; h)) (wa Z (nt (WC.ret ?_)))
 obtain rfl := (eq_of_some hm13).symm
 exact WQ.ret1 Z Z fun w hw => kg hw
end Go.Proofs.Ytaimbkndebaaiac
end