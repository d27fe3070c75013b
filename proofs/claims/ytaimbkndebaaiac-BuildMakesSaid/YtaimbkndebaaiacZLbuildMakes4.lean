/- Texts that the law stands on: part 4. -/
import Derived.Test.YtaimbkndebaaiacZLbuildMakes3
import Derived.KernelRfl
import Derived.Test.YtaimbkndebaaiacProg
set_option linter.unusedVariables false
set_option linter.unusedSimpArgs false
set_option maxRecDepth 8000
section
namespace Go.Rd
noncomputable def sched_early_L2 (pace : Int) (edges : List Edg) (v6_7 : List Int) (x23_7 : Int) : (Int × Int) → Option (Stp (Int × Int) (Empty)) := fun (time13_8, x30_8) =>
 br (decide (x30_8 < (ln edges))) (
 ck (IX x30_8 (ln edges)) <|
 br (((ele edges x30_8).to == x23_7) && (decide ((ele edges x30_8).fr < x23_7))) (
 ck (IX ((ele edges x30_8).fr) (ln v6_7)) <|
 ck (IR ((ele v6_7 ((ele edges x30_8).fr)) + (ele edges x30_8).wt)) <|
 ck (IR (pace * (ele edges x30_8).bk)) <|
 ck (IR (((ele v6_7 ((ele edges x30_8).fr)) + (ele edges x30_8).wt) - (pace * (ele edges x30_8).bk))) <|
 ck (IR (x30_8 + 1)) <|
 some (.next ((max time13_8 (((ele v6_7 ((ele edges x30_8).fr)) + (ele edges x30_8).wt) - (pace * (ele edges x30_8).bk))), (x30_8 + 1)))) (
 ck (IR (x30_8 + 1)) <|
 some (.next (time13_8, (x30_8 + 1))))) (
 some (.brk (time13_8, x30_8)))
noncomputable def sched_early_L4 (t : Tgt) (pace : Int) (m5n_7 : List ((Int × Int) × Int)) (x24 : Int) : Int → Option (Stp (Int) (Empty)) := fun time13_9 =>
 ck (pace ≠ 0) <|
 ck (IX x24 3) <|
 br (decide ((mget m5n_7 ((Int.tmod time13_9 pace), x24) 0) ≥ (sel3 t.u0 t.u1 t.u2 x24))) (
 ck (IR (time13_9 + 1)) <|
 some (.next (time13_9 + 1))) (
 some (.brk time13_9))
noncomputable def sched_early_L0 (l : Lp) (t : Tgt) (pace : Int) (edges : List Edg) : ((List Int) × (List ((Int × Int) × Int)) × Int) → Option (Stp ((List Int) × (List ((Int × Int) × Int)) × Int) (Empty)) := fun (v6_7, m5n_7, x23_7) =>
 br (decide (x23_7 < (ln l.body))) (
 ck (IX x23_7 (ln l.body)) <|
 bd (lp (sched_early_L2 pace edges v6_7 x23_7) (0, 0)) fun o19 => o19.on (fun (time13_8, x30_8) =>
 bd (num_Class_m ((ele l.body x23_7).op)) fun x24 =>
 bd (lp (sched_early_L4 t pace m5n_7 x24) time13_8) fun o27 => o27.on (fun time13_9 =>
 ck (pace ≠ 0) <|
 ck (IR ((mget m5n_7 ((Int.tmod time13_9 pace), x24) 0) + 1)) <|
 ck (AL (v6_7 ++ [time13_9]).length 8) <|
 ck (IR (x23_7 + 1)) <|
 some (.next ((v6_7 ++ [time13_9]), (mput m5n_7 ((Int.tmod time13_9 pace), x24) ((mget m5n_7 ((Int.tmod time13_9 pace), x24) 0) + 1)), (x23_7 + 1)))) (fun r => r.elim)) (fun r => r.elim)) (
 some (.brk (v6_7, m5n_7, x23_7)))
noncomputable def sched_early_m (l : Lp) (t : Tgt) (pace : Int) (edges : List Edg) : Option (Pln) :=
 bd (lp (sched_early_L0 l t pace edges) ([], ([] : List ((Int × Int) × Int)), 0)) fun o7 => o7.on (fun (v6_7, m5n_7, x23_7) =>
 some (Pln.mk pace v6_7)) (fun r => r.elim)
noncomputable def sched_straight_L0 (l : Lp) (t : Tgt) : ((List Int) × Int × Int) → Option (Stp ((List Int) × Int × Int) (Empty)) := fun (v5_1, time9_1, x17_1) =>
 br (decide (x17_1 < (ln l.body))) (
 ck (IX x17_1 (ln l.body)) <|
 ck (AL (v5_1 ++ [time9_1]).length 8) <|
 bd (target_Wait_m t ((ele l.body x17_1).op)) fun x23 =>
 ck (IR (time9_1 + x23)) <|
 ck (IR (x17_1 + 1)) <|
 some (.next ((v5_1 ++ [time9_1]), (time9_1 + x23), (x17_1 + 1)))) (
 some (.brk (v5_1, time9_1, x17_1)))
noncomputable def sched_straight_m (l : Lp) (t : Tgt) (pace : Int) : Option (Pln × Int) :=
 bd (lp (sched_straight_L0 l t) ([], 0, 0)) fun o6 => o6.on (fun (v5_1, time9_1, x17_1) =>
 some ((Pln.mk pace v5_1), time9_1)) (fun r => r.elim)
noncomputable def sched_Make_L1 (l : Lp) (t : Tgt) (least : Int) (x4 : List Edg × Int) (x17 : Pln × Int) : Int → Option (Stp (Int) (Pln × Int)) := fun pace15_1 =>
 ck (IR (least + 1)) <|
 br (decide (pace15_1 < (max (least + 1) x17.2))) (
 bd (sched_early_m l t pace15_1 x4.1) fun x31 =>
 bd (sched_fits_m l t x31 x4.1) fun x36 =>
 br x36 (
 some (.ret (x31, 0))) (
 ck (IR (pace15_1 + 1)) <|
 some (.next (pace15_1 + 1)))) (
 some (.brk pace15_1))
noncomputable def sched_Make_m (l : Lp) (t : Tgt) (least : Int) : Option (Pln × Int) :=
 bd (dep_Edges_m l t) fun x4 =>
 br (x4.2 != 0) (
 some ((Pln.mk 0 []), x4.2)) (
 br ((decide (least < 1)) || (decide (least > 200))) (
 some ((Pln.mk 0 []), 3)) (
 bd (bound_Bound_m l t) fun x14 =>
 bd (sched_straight_m l t 1) fun x17 =>
 bd (lp (sched_Make_L1 l t least x4 x17) (max (max least x14.1) x14.2.1)) fun o22 => o22.on (fun pace15_1 =>
 bd (sched_straight_m l t (max least x17.2)) fun x27 =>
 some (x27.1, 0)) (fun r => some r)))
end Go.Rd
end
section
namespace Go.Rd
def straV (l : Lp) (t : Tgt) (pace : Int) : Pln := ⟨pace, (List.range l.body.length).map (preW l t)⟩
theorem straight_s {l : Lp} (hl : LoopOk l) {t : Tgt} (ht : tgtOk t = true) (pace : Int) : sched_straight_m l t pace = some (straV l t pace, allW l t) := by
 have hn := hl.2.2.1
 have := lp_det (f := sched_straight_L0 l t) (ρ := Empty) (fun k => ((List.range k).map (preW l t), preW l t k, (k : Int))) l.body.length (fun k hk => by
  have hb := preW_bd (l := l) ht k
  have hw := wait_pos ht (ele l.body (k : Int)).op
  unfold sched_straight_L0
  simp only
  rw [br_T (by unfold ln; omega), ck_IX (by omega) (by unfold ln; omega), ck_yes (AL8 (by simp; omega)), target_Wait_s, bd_ret, ck_IR (by omega) (by omega), ck_IR (by omega) (by omega), rm_succ (g := preW l t)]
  rfl) (by unfold sched_straight_L0; exact br_F (by unfold ln; omega))
 unfold sched_straight_m
 rw [show lp (sched_straight_L0 l t) ([], 0, 0) = _ from this, bd_ret, Out.on_go]
 rfl
theorem all_s {l : Lp} (hl : LoopOk l) {t : Tgt} (ht : tgtOk t = true) : R8_All_m l t = some (allW l t) := by
 have hn := hl.2.2.1
 have := lp_det (f := R8_All_L0 l t) (ρ := Empty) (fun k => (preW l t k, (k : Int))) l.body.length (fun k hk => by
  have hb := preW_bd (l := l) ht k
  have hw := wait_pos ht (ele l.body (k : Int)).op
  unfold R8_All_L0
  simp only
  rw [br_T (by unfold ln; omega), ck_IX (by omega) (by unfold ln; omega), ref_Wait_s, bd_ret, ck_IR (by omega) (by omega), ck_IR (by omega) (by omega)]
  rfl) (by unfold R8_All_L0; exact br_F (by unfold ln; omega))
 unfold R8_All_m
 rw [show lp (R8_All_L0 l t) (0, 0) = _ from this, bd_ret, Out.on_go]
 rfl
theorem cntK_one {l : Lp} {p : Pln} {n : Nat} (h : ∀ i j, i < n → j < n → i ≠ j → keyK l p i ≠ keyK l p j) (κ : Int × Int) : ∀ k, k ≤ n → cntK l p k κ ≤ 1
 | 0, _ => Nat.zero_le _
 | k + 1, hk => by
  rw [cntK_succ]
  have ih := cntK_one h κ k (by omega)
  by_cases e : keyK l p k = κ
  ·rw [if_pos e]
   have : cntK l p k κ = 0 := by
    unfold cntK
    rw [List.countP_eq_zero]
    intro j hj
    have hj' := List.mem_range.1 hj
    simp only [decide_eq_true_eq]
    exact fun hh => h j k (by omega) (by omega) (by omega) (hh.trans e.symm)
   omega
  ·rw [if_neg e]; omega
theorem allW_bd {l : Lp} (hl : LoopOk l) {t : Tgt} (ht : tgtOk t = true) : 1 ≤ allW l t ∧ allW l t ≤ 96 := by
 have := preW_bd (l := l) ht l.body.length
 have h1 := hl.2.1; have h2 := hl.2.2.1
 unfold allW
 omega
theorem straight_legal {l : Lp} (hl : LoopOk l) {t : Tgt} (ht : tgtOk t = true) {pace : Int} (hp : allW l t ≤ pace) (hp2 : pace ≤ 200) : LegalP l t (straV l t pace) := by
 have hab := allW_bd hl ht
 have hat : ∀ i : Nat, i < l.body.length → ele (straV l t pace).times (i : Int) = preW l t i ∧ 0 ≤ preW l t i ∧ preW l t i < pace := fun i hi => by
  have h1 := preW_bd (l := l) ht i
  have h2 := preW_mono (l := l) ht (show i ≤ l.body.length by omega)
  unfold allW at hp
  exact ⟨ele_rm hi, by omega, by omega⟩
 have hkey : ∀ i j : Nat, i < l.body.length → j < l.body.length → i < j → keyK l (straV l t pace) i ≠ keyK l (straV l t pace) j := fun i j hi hj hij hh => by
  have h1 := hat i hi; have h2 := hat j hj
  unfold keyK at hh
  have h3 := (Prod.mk.inj hh).1
  rw [h1.1, h2.1, show (straV l t pace).pace = pace from rfl, Int.tmod_eq_of_lt h1.2.1 h1.2.2, Int.tmod_eq_of_lt h2.2.1 h2.2.2] at h3
  have := preW_mono (l := l) ht (show i ≤ j by omega)
  omega
 refine ⟨hl, ht, ⟨by show 1 ≤ pace; omega, hp2⟩, by unfold straV; simp, fun i hi => ?_, fun i hi => ?_, fun e he => ?_⟩
 ·have h1 := hat i hi
  have hb := preW_bd (l := l) ht i
  have hn := hl.2.2.1
  unfold RngP
  rw [h1.1]
  omega
 ·have h1 := cntK_one (l := l) (p := straV l t pace) (n := l.body.length) (fun i j hi hj hij hh => by
   rcases Nat.lt_or_gt_of_ne hij with h | h
   ·exact hkey i j hi hj h hh
   ·exact hkey j i hj hi h hh.symm) (keyK l (straV l t pace) i) l.body.length (Nat.le_refl _)
  have h2 := units_bd ht (keyK l (straV l t pace) i).2
  omega
 ·have hin := he.in hl
  have hf := hin.fr; have htt := hin.to
  have h1 := straight_edge hl ht hp he
  unfold EdgOk
  have e1 := (hat e.fr.toNat (by omega)).1
  have e2 := (hat e.to.toNat (by omega)).1
  rw [show ((e.fr.toNat : Nat) : Int) = e.fr from by omega] at e1
  rw [show ((e.to.toNat : Nat) : Int) = e.to from by omega] at e2
  rw [e1, e2, show (straV l t pace).pace = pace from rfl, Int.mul_comm]
  omega
theorem ele_snoc {α : Type} [Inhabited α] {v : List α} {x : α} {j : Nat} (h : j < v.length) : ele (v ++ [x]) (j : Int) = ele v (j : Int) := by
 rw [ele_nat, ele_nat, List.getD_eq_getElem?_getD, List.getD_eq_getElem?_getD, List.getElem?_append_left h]
theorem ele_last {α : Type} [Inhabited α] {v : List α} {x : α} : ele (v ++ [x]) (v.length : Int) = x := by
 rw [ele_nat, List.getD_eq_getElem?_getD]; simp
theorem keyK_snoc {l : Lp} {pace : Int} {v : List Int} {x : Int} {j : Nat} (h : j < v.length) : keyK l ⟨pace, v ++ [x]⟩ j = keyK l ⟨pace, v⟩ j := by
 unfold keyK; rw [show (Pln.mk pace (v ++ [x])).times = v ++ [x] from rfl, ele_snoc h]
theorem cntK_snoc {l : Lp} {pace : Int} {v : List Int} {x : Int} (κ : Int × Int) : ∀ k : Nat, k ≤ v.length → cntK l ⟨pace, v ++ [x]⟩ k κ = cntK l ⟨pace, v⟩ k κ
 | 0, _ => rfl
 | k + 1, h => by rw [cntK_succ, cntK_succ, cntK_snoc κ k (by omega), keyK_snoc (by omega)]
theorem slot_free {l : Lp} {t : Tgt} (hl : LoopOk l) (ht : tgtOk t = true) {pace : Nat} (hp : 1 ≤ pace) (hu : uB l t 3 ≤ pace) {v : List Int} {k : Nat} (hv : v.length = k) (hk : k < l.body.length) (hpos : ∀ j : Nat, j < k → 0 ≤ ele v (j : Int)) (s : Nat) :
    ∃ m : Nat, s ≤ m ∧ m < s + pace ∧ ¬ ((cntK l ⟨pace, v⟩ k (Int.tmod (m : Int) pace, clsV (ele l.body (k : Int)).op) : Int) ≥ unitsV t (clsV (ele l.body (k : Int)).op)) := by
  have hc := clsV_range (ele l.body (k : Int)).op
  generalize hcc : clsV (ele l.body (k : Int)).op = c at *
  have hub := units_bd ht c
  have hn := hl.2.2.1
  have h1 : cdV (cntC l l.body.length c) (unitsV t c) ≤ pace := by
    have a0 : uB l t 3 = max (max (max 1 (cdV (cntC l l.body.length (0 : Nat)) (unitsV t (0 : Nat)))) (cdV (cntC l l.body.length (1 : Nat)) (unitsV t (1 : Nat)))) (cdV (cntC l l.body.length (2 : Nat)) (unitsV t (2 : Nat))) := rfl
    obtain h | h | h : c = ((0 : Nat) : Int) ∨ c = ((1 : Nat) : Int) ∨ c = ((2 : Nat) : Int) := by omega
    all_goals rw [h]; omega
  rw [cdV_le (by omega) hub.1 hub.2] at h1
  have h2 : cntC l k c + 1 ≤ cntC l l.body.length c := by
    have e1 : cntC l (k + 1) c = cntC l k c + 1 := by rw [cntC_succ, if_pos hcc]
    have mono : ∀ a b, a ≤ b → cntC l a c ≤ cntC l b c := fun a b hab => by
      induction b with
      | zero => have : a = 0 := by omega
                subst this; exact Nat.le_refl _
      | succ b ih =>
        by_cases e : a = b + 1
        · subst e; exact Nat.le_refl _
        · rw [cntC_succ]; have := ih (by omega); omega
    have := mono (k + 1) l.body.length (by omega)
    omega
  obtain ⟨u, hu'⟩ := Int.eq_ofNat_of_zero_le (show 0 ≤ unitsV t c by omega)
  have hsum := slots_sum (l := l) (p := ⟨pace, v⟩) (P := pace) rfl hp c k hpos
  by_cases hall : ∀ s, s < pace → u ≤ cntK l ⟨pace, v⟩ k ((s : Int), c)
  · exfalso
    have hge : ∀ (g : Nat → Nat) n, (∀ s, s < n → u ≤ g s) → n * u ≤ sumR g n := fun g n => by
      induction n with
      | zero => intro _; show 0 * u ≤ 0; omega
      | succ n ih =>
        intro h
        have := ih fun s hs => h s (by omega)
        have h3 := h n (by omega)
        show (n + 1) * u ≤ sumR g n + g n
        rw [Nat.succ_mul]; omega
    have := hge _ pace hall
    rw [hsum] at this
    rw [hu'] at h1
    have h4 : (cntC l l.body.length c) ≤ pace * u := by exact_mod_cast h1
    omega
  · obtain ⟨s0, hs0⟩ := Classical.not_forall.1 hall
    obtain ⟨hs1, hs2⟩ := Classical.not_imp.1 hs0
    have hm0 := Int.emod_nonneg ((s0 : Int) - s) (show (pace : Int) ≠ 0 by omega)
    have hm1 := Int.emod_lt_of_pos ((s0 : Int) - s) (show (0 : Int) < pace by omega)
    have hm2 : ((s : Int) + ((s0 : Int) - s) % pace) % pace = s0 := by
      rw [Int.add_emod_emod, show (s : Int) + ((s0 : Int) - s) = s0 from by omega, Int.emod_eq_of_lt (by omega) (by omega)]
    obtain ⟨d, hd⟩ := Int.eq_ofNat_of_zero_le hm0
    refine ⟨s + d, by omega, by omega, ?_⟩
    rw [Int.tmod_eq_emod_of_nonneg (by omega), show (((s + d : Nat) : Nat) : Int) = (s : Int) + ((s0 : Int) - s) % pace from by omega, hm2, hu']
    omega
theorem early_s {l : Lp} {t : Tgt} (hl : LoopOk l) (ht : tgtOk t = true) {E : List Edg} (hE : ∀ e ∈ E, EdgeIn l.body.length e) (hEl : E.length ≤ 60000) {pace : Nat} (hp : 1 ≤ pace) (hp2 : pace ≤ 200) (hu : uB l t 3 ≤ pace) :
  ∃ v, sched_early_m l t pace E = some ⟨pace, v⟩ ∧ v.length = l.body.length := by
 have hn := hl.2.2.1
 have X := lp_invM (ρ := Empty) (f := sched_early_L0 l t pace E) (n := l.body.length) (fun (g : List Int × List ((Int × Int) × Int)) i => (g.1, g.2, i))
  (fun k g => g.1.length = k ∧ (∀ j : Nat, j < k → 0 ≤ ele g.1 (j : Int) ∧ ele g.1 (j : Int) ≤ 206 * k) ∧ ∀ κ, mget g.2 κ 0 = (cntK l ⟨pace, g.1⟩ k κ : Int)) (fun k g hk hg => ?_) (fun g => by
   unfold sched_early_L0; exact br_F (by unfold ln; omega)) ([], []) ⟨rfl, fun j hj => absurd hj (Nat.not_lt_zero _), fun κ => rfl⟩
 ·obtain ⟨g, e, h1, _⟩ := X
  unfold sched_early_m
  rw [show lp (sched_early_L0 l t pace E) ([], [], 0) = _ from e, bd_ret, Out.on_go]
  exact ⟨_, rfl, h1⟩
 ·obtain ⟨v, m⟩ := g
  obtain ⟨h1, h2, h3⟩ := hg
  simp only at h1 h2 h3
  have hc := clsV_range (ele l.body (k : Int)).op
  have Y := lp_inv (f := sched_early_L2 pace E v k) (ρ := Empty) (n := E.length) (fun _ g => 0 ≤ g ∧ g ≤ 206 * (k : Int) + 6) (fun i g hi hg => by
   have hin := hE _ (ele_mem' hi)
   have hw := wt_bd hin (pace := pace) (by omega)
   have hw2 := hin.wt
   unfold sched_early_L2
   simp only
   rw [br_T (by unfold ln; omega), ck_IX (by omega) (by unfold ln; omega)]
   by_cases hq : (ele E (i : Int)).to = k ∧ (ele E (i : Int)).fr < k
   ·have hfr := hin.fr
    have hv := h2 (ele E (i : Int)).fr.toNat (by omega)
    rw [show (((ele E (i : Int)).fr.toNat : Nat) : Int) = (ele E (i : Int)).fr from by omega] at hv
    rw [show ((ele E (i : Int)).to == (k : Int) && decide ((ele E (i : Int)).fr < (k : Int))) = true from by simp [hq], br_true, ck_IX (by omega) (by unfold ln; omega), ck_IR (by omega) (by omega), ck_IR (by omega) (by omega), ck_IR (by omega) (by omega), ck_IR (by omega) (by omega)]
    exact ⟨_, rfl, by omega⟩
   ·rw [show ((ele E (i : Int)).to == (k : Int) && decide ((ele E (i : Int)).fr < (k : Int))) = false from by
     rw [Bool.and_eq_false_iff, beq_eq_false_iff_ne, decide_eq_false_iff_not]; omega, br_false, ck_IR (by omega) (by omega)]
    exact ⟨_, rfl, hg⟩) (fun g => by unfold sched_early_L2; exact br_F (by unfold ln; omega)) 0 (by omega)
  obtain ⟨tm, e1, e2⟩ := Y
  obtain ⟨s, rfl⟩ := Int.eq_ofNat_of_zero_le e2.1
  obtain ⟨m0, f1, f2, f3⟩ := slot_free hl ht hp hu h1 hk (fun j hj => (h2 j hj).1) s
  obtain ⟨x, g1, g2, g3, g4, g5⟩ := lp_first (f := sched_early_L4 t pace m (clsV (ele l.body (k : Int)).op)) (ρ := Empty) (m := m0) (lo := 0) (p := fun i => ¬ ((cntK l ⟨pace, v⟩ k (Int.tmod (i : Int) pace, clsV (ele l.body (k : Int)).op) : Int) ≥ unitsV t (clsV (ele l.body (k : Int)).op))) (fun i _ hi => by
   unfold sched_early_L4
   rw [ck_yes (by omega), ck_IX hc.1 hc.2, h3]
   exact ⟨fun h => br_F h, fun h => by rw [show sel3 t.u0 t.u1 t.u2 (clsV (ele l.body (k : Int)).op) = unitsV t (clsV (ele l.body (k : Int)).op) from rfl, br_T (Classical.not_not.1 h), ck_IR (by omega) (by omega)]⟩) f3 (m0 - s) s (by omega) (by omega)
  have hcl := cntK_le l ⟨pace, v⟩ (Int.tmod (x : Int) pace, clsV (ele l.body (k : Int)).op) k
  have hkey : keyK l ⟨pace, v ++ [(x : Int)]⟩ k = (Int.tmod (x : Int) pace, clsV (ele l.body (k : Int)).op) := by
   unfold keyK
   rw [show (Pln.mk (pace : Int) (v ++ [(x : Int)])).times = v ++ [(x : Int)] from rfl, ← h1, ele_last]
  unfold sched_early_L0
  simp only
  rw [br_T (by unfold ln; omega), ck_IX (by omega) (by unfold ln; omega), e1, bd_ret, Out.on_go]
  simp only
  rw [num_Class_s, bd_ret, g5, bd_ret, Out.on_go, ck_yes (by omega), h3, ck_IR (by omega) (by omega), ck_yes (AL8 (by simp; omega)), ck_IR (by omega) (by omega)]
  refine ⟨(v ++ [(x : Int)], _), rfl, by simp [h1], fun j hj => ?_, fun κ => ?_⟩
  ·by_cases e : j = k
   ·subst e
    show 0 ≤ ele (v ++ [(x : Int)]) (j : Int) ∧ _
    rw [show ele (v ++ [(x : Int)]) (j : Int) = x from by rw [← h1]; exact ele_last]
    omega
   ·have := h2 j (by omega)
    show 0 ≤ ele (v ++ [(x : Int)]) (j : Int) ∧ _
    rw [ele_snoc (by omega)]
    omega
  ·show mget (mput _ _ _) κ 0 = (cntK l ⟨pace, v ++ [(x : Int)]⟩ (k + 1) κ : Int)
   rw [mget_mput, cntK_succ, hkey, cntK_snoc κ k (by omega)]
   by_cases e : (Int.tmod (x : Int) pace, clsV (ele l.body (k : Int)).op) = κ
   ·rw [if_pos e, if_pos e, e]; rfl
   ·rw [if_neg e, if_neg e, h3]; rfl
end Go.Rd
end
section
namespace Go.Rd
end Go.Rd
end
section
namespace Go.Rd
theorem Make_s {l : Lp} (hf : l.Fine) (hl : LoopOk l) {t : Tgt} (ht : tgtOk t = true) {least : Int} (h1 : 1 ≤ least) (h2 : least ≤ 200) : ∃ p, sched_Make_m l t least = some (p, 0) ∧ LegalP l t p ∧ least ≤ p.pace ∧ p.pace ≤ max least (allW l t) := by
 obtain ⟨E, e1, e2, e3, e4, e5⟩ := edges_both hl hf ht
 obtain ⟨L, b1, b2, b3, b4, b5⟩ := Bound_s hl ht e1 e4 e5
 have hn := hl.2.2.1
 have hu := uB_bd (l := l) hn ht 3
 have ha := allW_bd hl ht
 have hin : ∀ e ∈ E, EdgeIn l.body.length e := fun e he => ((e4 e).1 he).in hl
 unfold sched_Make_m
 rw [e1, bd_ret, show (((E, (0 : Int)) : List Edg × Int).2 != 0) = false from rfl, br_false, show (decide (least < 1) || decide (least > 200)) = false from by simp; omega, br_false, b5, bd_ret, straight_s hl ht, bd_ret]
 obtain ⟨M, hM⟩ := Int.eq_ofNat_of_zero_le (show 0 ≤ max (max least (uB l t 3)) (L : Int) by omega)
 obtain ⟨B, hB⟩ := Int.eq_ofNat_of_zero_le (show 0 ≤ max (least + 1) (allW l t) by omega)
 have hstep : ∀ i : Nat, M ≤ i → (i : Int) < max (least + 1) (allW l t) → ∃ v : List Int, sched_early_m l t (i : Int) E = some ⟨i, v⟩ ∧ v.length = l.body.length ∧ sched_fits_m l t ⟨i, v⟩ E = some (tb (FitP l t ⟨i, v⟩)) := fun i hi hb => by
  obtain ⟨v, c1, c2⟩ := early_s hl ht hin e5 (pace := i) (by omega) (by omega) (by omega)
  exact ⟨v, c1, c2, fits_s hl ht ⟨by show (1 : Int) ≤ i; omega, by show (i : Int) ≤ 200; omega⟩ c2 e4 e5⟩
 simp only
 rw [hM]
 rcases lp_scan (f := sched_Make_L1 l t least (E, 0) (straV l t 1, allW l t)) (n := max M B) (p := fun i => ¬ FitP l t ((sched_early_m l t (i : Int) E).getD default)) (fun i => ((sched_early_m l t (i : Int) E).getD default, (0 : Int))) (max M B - M) M (by omega) (fun i hi hb => by
   obtain ⟨v, c1, c2, c3⟩ := hstep i hi (by omega)
   unfold sched_Make_L1
   rw [ck_IR (by omega) (by omega), br_T (by simp only; omega)]
   simp only
   rw [c1, bd_ret, c3, bd_ret]
   exact ⟨fun h => by rw [tb_f (p := FitP l t ⟨i, v⟩) h, br_false, ck_IR (by omega) (by omega)], fun h => by rw [tb_t (p := FitP l t ⟨i, v⟩) (Classical.not_not.1 h), br_true]; rfl⟩) (by
   unfold sched_Make_L1
   rw [ck_IR (by omega) (by omega), br_F (by simp only; omega)]) with ⟨q1, q2⟩ | ⟨i, q1, q2, q3, _, q4⟩
 ·rw [q2, bd_ret, Out.on_go]
  rw [straight_s hl ht, bd_ret]
  exact ⟨_, rfl, straight_legal hl ht (by omega) (by omega), by show least ≤ max least _; omega, Int.le_refl _⟩
 ·rw [q4, bd_ret, Out.on_ret]
  obtain ⟨v, c1, c2, c3⟩ := hstep i q1 (by omega)
  refine ⟨_, rfl, ?_⟩
  have q5 := Classical.not_not.1 q3
  rw [c1] at q5 ⊢
  simp only [Option.getD_some] at q5 ⊢
  exact ⟨legal_iff.2 ⟨⟨hl, ht⟩, ⟨by show (1 : Int) ≤ i; omega, by show (i : Int) ≤ 200; omega⟩, c2, q5⟩, by show least ≤ (i : Int); omega, by show (i : Int) ≤ _; omega⟩
end Go.Rd
end
section
namespace Go.Rd
noncomputable def build_try_L0 (l : Lp) : ((List Int) × Int) → Option (Stp ((List Int) × Int) (Empty)) := fun (v17_1, x35_1) =>
 br (decide (x35_1 < (ln l.body))) (
 ck (AL (v17_1 ++ [x35_1]).length 8) <|
 ck (IR (x35_1 + 1)) <|
 some (.next ((v17_1 ++ [x35_1]), (x35_1 + 1)))) (
 some (.brk (v17_1, x35_1)))
noncomputable def build_try_m (l : Lp) (t : Tgt) (p : Pln) : Option (Krn × List Int × Bool) :=
 bd (regs_Make_m l t p) fun x5 =>
 br (x5.2 != 0) (
 some ((Krn.mk 0 0 []), [], false)) (
 bd (emit_Emit_m l t p x5.1) fun x12 =>
 bd (lp (build_try_L0 l) ([], 0)) fun o18 => o18.on (fun (v17_1, x35_1) =>
 bdG (x12.2 == 0) (check_Takes_m l t x12.1 v17_1) fun x23 =>
 some (x12.1, v17_1, ((x12.2 == 0) && x23))) (fun r => r.elim))
noncomputable def build_straight_L0 (l : Lp) (t : Tgt) : ((List Int) × Int × Int) → Option (Stp ((List Int) × Int × Int) (Empty)) := fun (v5_1, b4c0_1, x11_1) =>
 br (decide (x11_1 < (ln l.body))) (
 ck (IX x11_1 (ln l.body)) <|
 ck (AL (v5_1 ++ [b4c0_1]).length 8) <|
 bd (target_Wait_m t ((ele l.body x11_1).op)) fun x23 =>
 ck (IR (b4c0_1 + x23)) <|
 ck (IR (x11_1 + 1)) <|
 some (.next ((v5_1 ++ [b4c0_1]), (b4c0_1 + x23), (x11_1 + 1)))) (
 some (.brk (v5_1, b4c0_1, x11_1)))
noncomputable def build_straight_m (l : Lp) (t : Tgt) : Option (Pln) :=
 bd (lp (build_straight_L0 l t) ([], 0, 0)) fun o6 => o6.on (fun (v5_1, b4c0_1, x11_1) =>
 some (Pln.mk b4c0_1 v5_1)) (fun r => r.elim)
noncomputable def build_Build_L0 (l : Lp) (t : Tgt) (x13 : Pln) : Int → Option (Stp (Int) (Krn × List Int × Int)) := fun least8_1 =>
 br (decide (least8_1 ≤ x13.pace)) (
 bd (sched_Make_m l t least8_1) fun x25 =>
 bd (build_try_m l t x25.1) fun x30 =>
 br x30.2.2 (
 some (.ret (x30.1, x30.2.1, 0))) (
 ck (IR (x25.1.pace + 1)) <|
 ck (IR (x25.1.pace * 5)) <|
 ck (IR (Int.tdiv (x25.1.pace * 5) 4)) <|
 some (.next (max (x25.1.pace + 1) (Int.tdiv (x25.1.pace * 5) 4))))) (
 some (.brk least8_1))
noncomputable def build_Build_m (l : Lp) (t : Tgt) : Option (Krn × List Int × Int) :=
 bd (loop_May_m l) fun x4 =>
 bdG (!(!x4)) (target_May_m t) fun x7 =>
 br ((!x4) || (!x7)) (
 some ((Krn.mk 0 0 []), [], 2)) (
 bd (build_straight_m l t) fun x13 =>
 bd (lp (build_Build_L0 l t x13) 1) fun o18 => o18.on (fun least8_1 =>
 bd (build_try_m l t x13) fun x23 =>
 br x23.2.2 (
 some (x23.1, x23.2.1, 0)) (
 some ((Krn.mk 0 0 []), [], 1))) (fun r => some r))
end Go.Rd
end
section
namespace Go.Rd
theorem bstraight_s {l : Lp} (hl : LoopOk l) {t : Tgt} (ht : tgtOk t = true) : build_straight_m l t = some (straV l t (allW l t)) := by
 have hn := hl.2.2.1
 have := lp_det (f := build_straight_L0 l t) (ρ := Empty) (fun k => ((List.range k).map (preW l t), preW l t k, (k : Int))) l.body.length (fun k hk => by
  have hb := preW_bd (l := l) ht k
  have hw := wait_pos ht (ele l.body (k : Int)).op
  unfold build_straight_L0
  simp only
  rw [br_T (by unfold ln; omega), ck_IX (by omega) (by unfold ln; omega), ck_yes (AL8 (by simp; omega)), target_Wait_s, bd_ret, ck_IR (by omega) (by omega), ck_IR (by omega) (by omega), rm_succ (g := preW l t)]
  rfl) (by unfold build_straight_L0; exact br_F (by unfold ln; omega))
 unfold build_straight_m
 rw [show lp (build_straight_L0 l t) ([], 0, 0) = _ from this, bd_ret, Out.on_go]
 rfl
theorem try_s {l : Lp} (hf : l.Fine) {t : Tgt} {p : Pln} (h : LegalP l t p) :
  (∃ v, build_try_m l t p = some (krnN l t p v, natL l.body.length, true) ∧ TakesP l t (krnN l t p v) (natL l.body.length)) ∨
  (build_try_m l t p = some (⟨0, 0, []⟩, [], false) ∧ ¬ ∀ k, k < l.body.length → FineP ((layP l t p).wp (spV l.body.length)) k) := by
 have hn := h.loop.2.2.1
 unfold build_try_m
 rcases regsMake_s hf h with ⟨v, h1, h2, h3⟩ | ⟨h1, h2⟩
 ·refine .inl ⟨v, ?_, krn_takes h h1 h2⟩
  have hE := emit_ok h (v := v)
  have hkf : KFine l (krnN l t p v) := krnN_fine hf
  have X := lp_det (f := build_try_L0 l) (ρ := Empty) (fun i => (natL i, (i : Int))) l.body.length (fun i hi => by
   unfold build_try_L0
   simp only
   rw [br_T (by unfold ln; omega), ck_yes (AL8 (by rw [List.length_append, natL_len]; simp; omega)), ck_IR (by omega) (by omega), show natL i ++ [(i : Int)] = natL (i + 1) from rm_succ (g := fun i : Nat => (i : Int))]
   rfl) (by unfold build_try_L0; exact br_F (by unfold ln; omega))
  rw [h3, bd_ret, show (((destV t p l.body.length v, (0 : Int)) : List Int × Int).2 != 0) = false from rfl, br_false, Emit_s hf t p (by unfold destV; simp; omega), tb_t hE, if_pos rfl, bd_ret,
   show lp (build_try_L0 l) ([], 0) = _ from X, bd_ret, Out.on_go]
  simp only [beq_self_eq_true, bdG_t, Bool.true_and]
  rw [show krnV l t p (destV t p l.body.length v) = krnN l t p v from rfl, pTakes2_s hf hkf (by rw [natL_len]; omega), bd_ret, tb_t (krn_takes h h1 h2)]
 ·refine .inr ⟨?_, h2⟩
  rw [h1, bd_ret]
  rfl
theorem straight_over {l : Lp} {t : Tgt} (ht : tgtOk t = true) : OverP l t (straV l t (allW l t)) := fun i hi => by
 rw [show ele (straV l t (allW l t)).times (i : Int) = preW l t i from ele_rm hi]
 have h2 := preW_mono (l := l) ht (show i + 1 ≤ l.body.length by omega)
 have e : preW l t (i + 1) = preW l t i + waitV t (ele l.body (i : Int)).op := rfl
 show _ ≤ allW l t
 unfold allW
 omega
def Built (l : Lp) (t : Tgt) (p : Pln) (v : List Int) : Prop := LegalP l t p ∧ p.pace ≤ allW l t ∧ TakesP l t (krnN l t p v) (natL l.body.length)
theorem Build_s {l : Lp} (hf : l.Fine) (hl : LoopOk l) {t : Tgt} (ht : tgtOk t = true) :
  (∃ p v, build_Build_m l t = some (krnN l t p v, natL l.body.length, 0) ∧ Built l t p v) ∨ (build_Build_m l t = some (⟨0, 0, []⟩, [], 1) ∧ t.regs < 5 * (l.body.length : Int)) := by
 have hab := allW_bd hl ht
 have hleg := straight_legal hl ht (Int.le_refl (allW l t)) (by omega)
 unfold build_Build_m
 rw [May_s l hf, bd_ret, target_May_s, tb_t hl, ht]
 simp only [Bool.not_true, Bool.not_false, bdG_t, bd_ret, Bool.or_self, br_false]
 rw [bstraight_s hl ht, bd_ret]
 obtain ⟨o, e, hQ⟩ := lp_rule (f := build_Build_L0 l t (straV l t (allW l t))) (fun g => 1 ≤ g) (fun g => (allW l t + 1 - g).toNat) (fun o => match o with
   | .go _ => True
   | .ret r => ∃ p v, r = (krnN l t p v, natL l.body.length, (0 : Int)) ∧ Built l t p v) (fun g hg => by
   unfold build_Build_L0
   show ∃ s, br (decide (g ≤ allW l t)) _ _ = some s ∧ _
   by_cases c : g ≤ allW l t
   ·rw [br_T c]
    obtain ⟨p, h1, h2, h3, h4⟩ := Make_s hf hl ht hg (by omega)
    have hp := h2.pace
    rw [h1, bd_ret]
    rcases try_s hf h2 with ⟨v, q1, q2⟩ | ⟨q1, _⟩
    ·refine ⟨_, by simp only; rw [q1, bd_ret]; rfl, ?_⟩
     exact ⟨p, v, rfl, h2, by omega, q2⟩
    ·refine ⟨_, by simp only; rw [q1, bd_ret]; simp only; rw [br_false, ck_IR (by omega) (by omega), ck_IR (by omega) (by omega), ck_IR (by have := Int.tdiv_eq_ediv_of_nonneg (show 0 ≤ p.pace * 5 by omega) (b := 4); omega) (by have := Int.tdiv_eq_ediv_of_nonneg (show 0 ≤ p.pace * 5 by omega) (b := 4); omega)], ?_⟩
     simp only
     omega
   ·rw [br_F c]
    exact ⟨_, rfl, trivial⟩) 1 (by omega)
 rw [e, bd_ret]
 cases o with
 | ret r =>
  obtain ⟨p, v, rfl, hb⟩ := hQ
  exact .inl ⟨p, v, rfl, hb⟩
 | go g =>
  rw [Out.on_go]
  rcases try_s hf hleg with ⟨v, q1, q2⟩ | ⟨q1, q2⟩
  ·refine .inl ⟨_, v, by rw [q1, bd_ret]; rfl, hleg, Int.le_refl _, q2⟩
  ·refine .inr ⟨by rw [q1, bd_ret]; rfl, ?_⟩
   by_cases c : t.regs < 5 * (l.body.length : Int)
   ·exact c
   ·exact absurd (spaced_fine hleg (by omega) (straight_over ht)) q2
theorem Build_bad {l : Lp} (hf : l.Fine) {t : Tgt} (h : ¬ (LoopOk l ∧ tgtOk t = true)) : build_Build_m l t = some (⟨0, 0, []⟩, [], 2) := by
 unfold build_Build_m
 rw [May_s l hf, bd_ret, target_May_s]
 by_cases h1 : LoopOk l
 ·have h2 : tgtOk t = false := by cases c : tgtOk t with | true => exact absurd ⟨h1, c⟩ h | false => rfl
  rw [tb_t h1, h2]
  rfl
 ·rw [tb_f h1]
  rfl
end Go.Rd
end
section
namespace Go.Rd
noncomputable def R7_Rounds_L2 (l : List Edg) (pace : Int) : ((List Int) × Bool × Int) → Option (Stp ((List Int) × Bool × Int) (Empty)) := fun (v7_4, still9_4, i10_4) =>
 br (decide (i10_4 < (ln l))) (
 ck (IX i10_4 (ln l)) <|
 ck (IX ((ele l i10_4).fr) (ln v7_4)) <|
 ck (IR ((ele v7_4 ((ele l i10_4).fr)) + (ele l i10_4).wt)) <|
 ck (IR (pace * (ele l i10_4).bk)) <|
 ck (IR (((ele v7_4 ((ele l i10_4).fr)) + (ele l i10_4).wt) - (pace * (ele l i10_4).bk))) <|
 ck (IX ((ele l i10_4).to) (ln v7_4)) <|
 br (decide ((((ele v7_4 ((ele l i10_4).fr)) + (ele l i10_4).wt) - (pace * (ele l i10_4).bk)) > (ele v7_4 ((ele l i10_4).to)))) (
 ck (IX ((ele l i10_4).to) (ln v7_4)) <|
 ck (IR (i10_4 + 1)) <|
 some (.next ((upd v7_4 ((ele l i10_4).to) (((ele v7_4 ((ele l i10_4).fr)) + (ele l i10_4).wt) - (pace * (ele l i10_4).bk))), false, (i10_4 + 1)))) (
 ck (IR (i10_4 + 1)) <|
 some (.next (v7_4, still9_4, (i10_4 + 1))))) (
 some (.brk (v7_4, still9_4, i10_4)))
noncomputable def R7_Rounds_L0 (n_ : Int) (l : List Edg) (pace : Int) : ((List Int) × Int) → Option (Stp ((List Int) × Int) (Bool)) := fun (v7_3, round8_3) =>
 br (decide (round8_3 ≤ n_)) (
 bd (lp (R7_Rounds_L2 l pace) (v7_3, true, 0)) fun o15 => o15.on (fun (v7_4, still9_4, i10_4) =>
 br still9_4 (
 some (.ret true)) (
 ck (IR (round8_3 + 1)) <|
 some (.next (v7_4, (round8_3 + 1))))) (fun r => r.elim)) (
 some (.brk (v7_3, round8_3)))
noncomputable def R7_Rounds_m (n_ : Int) (l : List Edg) (pace : Int) : Option (Bool) :=
 ck (0 ≤ n_) <|
 ck (AL n_.toNat 8) <|
 bd (lp (R7_Rounds_L0 n_ l pace) ((List.replicate n_.toNat (0 : Int)), 0)) fun o8 => o8.on (fun (v7_3, round8_3) =>
 some false) (fun r => some r)
noncomputable def R7_Units_L2 (l : Lp) (c6_3 : Int) : (Int × Int) → Option (Stp (Int × Int) (Empty)) := fun (n7_4, i8_4) =>
 br (decide (i8_4 < (ln l.body))) (
 ck (IX i8_4 (ln l.body)) <|
 bd (R1_Class_m ((ele l.body i8_4).op)) fun x21 =>
 br (x21 == c6_3) (
 ck (IR (n7_4 + 1)) <|
 ck (IR (i8_4 + 1)) <|
 some (.next ((n7_4 + 1), (i8_4 + 1)))) (
 ck (IR (i8_4 + 1)) <|
 some (.next (n7_4, (i8_4 + 1))))) (
 some (.brk (n7_4, i8_4)))
noncomputable def R7_Units_L4 (t : Tgt) (c6_3 : Int) (n7_4 : Int) : Int → Option (Stp (Int) (Empty)) := fun pace5_5 =>
 ck (IX c6_3 3) <|
 ck (IR (pace5_5 * (sel3 t.u0 t.u1 t.u2 c6_3))) <|
 br (decide ((pace5_5 * (sel3 t.u0 t.u1 t.u2 c6_3)) < n7_4)) (
 ck (IR (pace5_5 + 1)) <|
 some (.next (pace5_5 + 1))) (
 some (.brk pace5_5))
noncomputable def R7_Units_L0 (l : Lp) (t : Tgt) : (Int × Int) → Option (Stp (Int × Int) (Empty)) := fun (pace5_3, c6_3) =>
 br (decide (c6_3 < 3)) (
 bd (lp (R7_Units_L2 l c6_3) (0, 0)) fun o10 => o10.on (fun (n7_4, i8_4) =>
 bd (lp (R7_Units_L4 t c6_3 n7_4) pace5_3) fun o15 => o15.on (fun pace5_5 =>
 ck (IR (c6_3 + 1)) <|
 some (.next (pace5_5, (c6_3 + 1)))) (fun r => r.elim)) (fun r => r.elim)) (
 some (.brk (pace5_3, c6_3)))
noncomputable def R7_Units_m (l : Lp) (t : Tgt) : Option (Int) :=
 bd (lp (R7_Units_L0 l t) (1, 0)) fun o3 => o3.on (fun (pace5_3, c6_3) =>
 some pace5_3) (fun r => r.elim)
noncomputable def R7_Least_L0 (l : Lp) (x3 : List Edg) : Int → Option (Stp (Int) (Empty)) := fun pace6_1 =>
 bd (R7_Rounds_m (ln l.body) x3 pace6_1) fun x12 =>
 br (!x12) (
 ck (IR (pace6_1 + 1)) <|
 some (.next (pace6_1 + 1))) (
 some (.brk pace6_1))
noncomputable def R7_Least_m (l : Lp) (t : Tgt) : Option (Int) :=
 bd (R6_Edges_m l t) fun x3 =>
 bd (lp (R7_Least_L0 l x3) 1) fun o7 => o7.on (fun pace6_1 =>
 some pace6_1) (fun r => r.elim)
end Go.Rd
end
section
namespace Go.Rd
def sumZ (g : Nat → Int) : Nat → Int
 | 0 => 0
 | n + 1 => sumZ g n + g n
theorem sumZ_nn {g : Nat → Int} (h : ∀ v, 0 ≤ g v) : ∀ n, 0 ≤ sumZ g n
 | 0 => Int.le_refl _
 | n + 1 => by have := sumZ_nn h n; have := h n; show 0 ≤ sumZ g n + g n; omega
theorem sumZ_le {g h : Nat → Int} (e : ∀ v, g v ≤ h v) : ∀ n, sumZ g n ≤ sumZ h n
 | 0 => Int.le_refl _
 | n + 1 => by have := sumZ_le e n; have := e n; show sumZ g n + g n ≤ sumZ h n + h n; omega
theorem sumZ_lt {g h : Nat → Int} (e : ∀ v, g v ≤ h v) {k : Nat} (hk : g k < h k) : ∀ n, k < n → sumZ g n < sumZ h n
 | n + 1, hn => by
  show sumZ g n + g n < sumZ h n + h n
  have h1 := sumZ_le e n
  have h2 := e n
  by_cases q : k = n
  ·subst q; omega
  ·have := sumZ_lt e hk n (by omega); omega
theorem lower (τ : Nat → Int) : ∀ n : Nat, ∃ lo : Int, ∀ v, v < n → lo ≤ τ v
 | 0 => ⟨0, fun v hv => absurd hv (Nat.not_lt_zero _)⟩
 | n + 1 => by
  obtain ⟨lo, h⟩ := lower τ n
  exact ⟨min lo (τ n), fun v hv => by
   by_cases e : v = n
   ·subst e; omega
   ·have := h v (by omega); omega⟩
theorem least_pot {E : List Edg} {pace : Int} (n : Nat) (h : HasPot E pace) (hr : ∀ e ∈ E, e.fr.toNat < n ∧ e.to.toNat < n) : ∃ τ, PotE E pace τ ∧ (∀ v, 0 ≤ τ v) ∧ ∀ σ, PotE E pace σ → (∀ v, 0 ≤ σ v) → sumZ τ n ≤ sumZ σ n := by
 have key : ∀ m : Nat, ∀ τ, PotE E pace τ → (∀ v, 0 ≤ τ v) → sumZ τ n ≤ m → ∃ τ, PotE E pace τ ∧ (∀ v, 0 ≤ τ v) ∧ ∀ σ, PotE E pace σ → (∀ v, 0 ≤ σ v) → sumZ τ n ≤ sumZ σ n := by
  intro m
  induction m with
  | zero => exact fun τ h1 h2 h3 => ⟨τ, h1, h2, fun σ _ hσ => by have := sumZ_nn hσ n; omega⟩
  | succ m ih =>
   intro τ h1 h2 h3
   by_cases hh : ∃ σ, PotE E pace σ ∧ (∀ v, 0 ≤ σ v) ∧ sumZ σ n < sumZ τ n
   ·obtain ⟨σ, a, b, c⟩ := hh
    exact ih σ a b (by omega)
   ·exact ⟨τ, h1, h2, fun σ a b => Int.not_lt.1 fun c => hh ⟨σ, a, b, c⟩⟩
 obtain ⟨τ, hτ⟩ := h
 obtain ⟨lo, hlo⟩ := lower τ n
 refine key (sumZ (fun v => if v < n then τ v - lo else 0) n).toNat (fun v => if v < n then τ v - lo else 0) (fun e he => ?_) (fun v => ?_) ?_
 ·have := hτ e he
  obtain ⟨h1, h2⟩ := hr e he
  simp only [if_pos h1, if_pos h2]
  omega
 ·show 0 ≤ if v < n then τ v - lo else 0
  split
  ·have := hlo v ‹_›; omega
  ·exact Int.le_refl _
 ·have := sumZ_nn (g := fun v => if v < n then τ v - lo else 0) (fun v => by
   show 0 ≤ if v < n then τ v - lo else 0
   split
   ·have := hlo v ‹_›; omega
   ·exact Int.le_refl _) n
  omega
def rmA (n : Nat) (a : Nat → Int) : List Int := (List.range n).map a
structure PassI (n : Nat) (E : List Edg) (pace : Int) (a : Nat → Int) (U : Int) (i : Nat) (a' : Nat → Int) (st : Bool) : Prop where
 mono : ∀ v, a v ≤ a' v
 bd : ∀ v, v < n → a' v ≤ U + 6 * i
 up : ∀ τ, PotE E pace τ → (∀ v, v < n → a v ≤ τ v) → ∀ v, v < n → a' v ≤ τ v
 still : st = true → (∀ v, a' v = a v) ∧ ∀ j : Nat, j < i → a (ele E (j : Int)).fr.toNat + ((ele E (j : Int)).wt - pace * (ele E (j : Int)).bk) ≤ a (ele E (j : Int)).to.toNat
 pot : PotE E pace a → st = true
 prog : ∀ j : Nat, j < i → a (ele E (j : Int)).fr.toNat + ((ele E (j : Int)).wt - pace * (ele E (j : Int)).bk) ≤ a' (ele E (j : Int)).to.toNat
theorem pass_s {n : Nat} {E : List Edg} (hE : ∀ e ∈ E, EdgeIn n e) (hl : E.length ≤ 60000) {pace : Int} (hp : 1 ≤ pace ∧ pace ≤ 200) {a : Nat → Int} (h0 : ∀ v, v < n → 0 ≤ a v) {U : Int} (hU : ∀ v, v < n → a v ≤ U) (hU2 : U ≤ 1000000000) :
  ∃ a' st, lp (R7_Rounds_L2 E pace) (rmA n a, true, 0) = some (.go (rmA n a', st, (E.length : Int))) ∧ PassI n E pace a U E.length a' st := by
 have X := lp_invM (ρ := Empty) (f := R7_Rounds_L2 E pace) (n := E.length) (fun (g : List Int × Bool) i => (g.1, g.2, i)) (fun i g => ∃ a', g.1 = rmA n a' ∧ PassI n E pace a U i a' g.2) (fun i g hi hg => ?_) (fun g => by
   unfold R7_Rounds_L2; exact br_F (by unfold ln; omega)) (rmA n a, true) ⟨a, rfl, fun v => Int.le_refl _, fun v hv => by have := hU v hv; omega, fun τ _ h => h, fun _ => ⟨fun _ => rfl, fun j hj => absurd hj (Nat.not_lt_zero _)⟩, fun _ => rfl, fun j hj => absurd hj (Nat.not_lt_zero _)⟩
 ·obtain ⟨g, e, a', h1, h2⟩ := X
  exact ⟨a', g.2, by rw [← h1]; exact e, h2⟩
 ·obtain ⟨v, st⟩ := g
  obtain ⟨a', h1, h2⟩ := hg
  simp only at h1 h2
  subst h1
  have hin := hE _ (ele_mem' hi)
  have hw := wt_bd hin hp
  have hwt := hin.wt
  obtain ⟨x, hx⟩ := Int.eq_ofNat_of_zero_le hin.fr.1
  obtain ⟨y, hy⟩ := Int.eq_ofNat_of_zero_le hin.to.1
  have hx' : x < n := by have := hin.fr.2; omega
  have hy' : y < n := by have := hin.to.2; omega
  have b1 := h2.bd x hx'; have b2 := h2.mono x; have b3 := h0 x hx'
  have b4 := h2.bd y hy'; have b5 := h2.mono y; have b6 := h0 y hy'
  have ex : (ele E (i : Int)).fr.toNat = x := by omega
  have ey : (ele E (i : Int)).to.toNat = y := by omega
  have l1 : ln (rmA n a') = n := ln_rm
  have r1 : ele (rmA n a') (x : Int) = a' x := ele_rm hx'
  have r2 : ele (rmA n a') (y : Int) = a' y := ele_rm hy'
  unfold R7_Rounds_L2
  simp only
  rw [hx, hy, br_T (by unfold ln; omega), ck_IX (by omega) (by unfold ln; omega), ck_IX (by omega) (by omega), r1, r2, ck_IR (by omega) (by omega), ck_IR (by omega) (by omega), ck_IR (by omega) (by omega), ck_IX (by omega) (by omega)]
  by_cases hc : a' x + (ele E (i : Int)).wt - pace * (ele E (i : Int)).bk > a' y
  ·rw [br_T hc, ck_IX (by omega) (by omega), ck_IR (by omega) (by omega)]
   have eu : upd (rmA n a') (y : Int) (a' x + (ele E (i : Int)).wt - pace * (ele E (i : Int)).bk) = rmA n (fun j => if j = y then a' x + (ele E (i : Int)).wt - pace * (ele E (i : Int)).bk else a' j) := upd_rm hy'
   have hge : ∀ v, a' v ≤ if v = y then a' x + (ele E (i : Int)).wt - pace * (ele E (i : Int)).bk else a' v := fun v => by
    split
    ·rename_i e; subst e; omega
    ·exact Int.le_refl _
   refine ⟨(rmA n _, false), by rw [eu], _, rfl, fun v => Int.le_trans (h2.mono v) (hge v), fun v hv => ?_, fun τ hτ hle v hv => ?_, (fun h => by cases h), fun h => ?_, fun j hj => ?_⟩
   ·have := h2.bd v hv
    split <;> omega
   ·have u1 := h2.up τ hτ hle v hv
    have u2 := h2.up τ hτ hle x hx'
    have u3 := hτ _ (ele_mem' hi)
    rw [ex, ey] at u3
    split
    ·rename_i e; subst e; omega
    ·exact u1
   ·have s1 := h2.still (h2.pot h)
    have s2 := h _ (ele_mem' hi)
    rw [ex, ey, ← s1.1 x, ← s1.1 y] at s2
    omega
   ·by_cases e : j = i
    ·subst e
     rw [ex, ey, if_pos rfl]
     omega
    ·exact Int.le_trans (h2.prog j (by omega)) (hge _)
  ·rw [br_F hc, ck_IR (by omega) (by omega)]
   refine ⟨(rmA n a', st), rfl, a', rfl, h2.mono, fun v hv => by have := h2.bd v hv; omega, h2.up, fun h => ⟨(h2.still h).1, fun j hj => ?_⟩, h2.pot, fun j hj => ?_⟩
   ·by_cases e : j = i
    ·subst e
     rw [ex, ey, ← (h2.still h).1 x, ← (h2.still h).1 y]
     omega
    ·exact (h2.still h).2 j (by omega)
   ·by_cases e : j = i
    ·subst e
     rw [ex, ey]
     omega
    ·exact h2.prog j (by omega)
theorem sumZ_one : ∀ n : Nat, sumZ (fun _ => 1) n = n
 | 0 => rfl
 | n + 1 => by show sumZ _ n + 1 = _; rw [sumZ_one n]; omega
theorem sumZ_nil : ∀ n : Nat, sumZ (fun _ => 0) n = 0
 | 0 => rfl
 | n + 1 => by show sumZ _ n + 0 = _; rw [sumZ_nil n]; rfl
def nfV (τ a : Nat → Int) (n : Nat) : Int := sumZ (fun v => if v < n ∧ a v < τ v then 1 else 0) n
theorem nf_le (τ a : Nat → Int) (n : Nat) : nfV τ a n ≤ n := by
 rw [← sumZ_one n]
 exact sumZ_le (fun v => by split <;> omega) n
theorem nf_pos {τ a : Nat → Int} {n v : Nat} (hv : v < n) (h : a v < τ v) : 1 ≤ nfV τ a n := by
 have := sumZ_lt (g := fun _ => 0) (h := fun v => if v < n ∧ a v < τ v then 1 else 0) (fun v => by split <;> omega) (k := v) (by rw [if_pos ⟨hv, h⟩]; omega) n hv
 rw [sumZ_nil] at this
 unfold nfV
 omega
def lowV (n : Nat) (τ a : Nat → Int) (v : Nat) : Int := if v < n ∧ a v < τ v then τ v - 1 else τ v
theorem pass_less {n : Nat} {E : List Edg} {pace : Int} (hr : ∀ e ∈ E, e.fr.toNat < n ∧ e.to.toNat < n) {a a' : Nat → Int} {U : Int} {st : Bool} (h : PassI n E pace a U E.length a' st) {τ : Nat → Int} (hτ : PotE E pace τ) (h0 : ∀ v, v < n → 0 ≤ a v) (hle : ∀ v, v < n → a v ≤ τ v) (hnn : ∀ v, 0 ≤ τ v)
  (hmin : ∀ σ, PotE E pace σ → (∀ v, 0 ≤ σ v) → sumZ τ n ≤ sumZ σ n) (hex : ∃ v, v < n ∧ a v < τ v) : nfV τ a' n < nfV τ a n := by
 have ht : ∃ e ∈ E, ¬ (a e.fr.toNat < τ e.fr.toNat) ∧ a e.to.toNat < τ e.to.toNat ∧ τ e.to.toNat ≤ τ e.fr.toNat + (e.wt - pace * e.bk) := by
  refine Classical.byContradiction fun hno => ?_
  obtain ⟨v0, hv0, hv1⟩ := hex
  have hs := hmin (lowV n τ a) (fun e he => by
   have h1 := hτ e he
   obtain ⟨r1, r2⟩ := hr e he
   have h2 : ¬ (¬ (a e.fr.toNat < τ e.fr.toNat) ∧ a e.to.toNat < τ e.to.toNat ∧ τ e.to.toNat ≤ τ e.fr.toNat + (e.wt - pace * e.bk)) := fun hh => hno ⟨e, he, hh⟩
   unfold lowV
   by_cases c1 : a e.fr.toNat < τ e.fr.toNat <;> by_cases c2 : a e.to.toNat < τ e.to.toNat
   ·rw [if_pos ⟨r1, c1⟩, if_pos ⟨r2, c2⟩]; omega
   ·rw [if_pos ⟨r1, c1⟩, if_neg fun h => c2 h.2]; omega
   ·rw [if_neg fun h => c1 h.2, if_pos ⟨r2, c2⟩]; omega
   ·rw [if_neg fun h => c1 h.2, if_neg fun h => c2 h.2]; omega) (fun v => by
   unfold lowV
   have := hnn v
   split
   ·rename_i hh; have := h0 v hh.1; omega
   ·exact this)
  have := sumZ_lt (g := lowV n τ a) (h := τ) (fun v => by
   unfold lowV
   split <;> omega) (k := v0) (by unfold lowV; rw [if_pos ⟨hv0, hv1⟩]; omega) n hv0
  omega
 obtain ⟨e, he, t1, t2, t3⟩ := ht
 obtain ⟨r1, r2⟩ := hr e he
 obtain ⟨j, hj, rfl⟩ := mem_ele he
 have h1 := h.prog j hj
 have h2 := hle _ r1
 have hup := h.up τ hτ hle _ r2
 refine sumZ_lt (fun v => ?_) (k := (ele E (j : Int)).to.toNat) ?_ n r2
 ·show (if _ then _ else _) ≤ if _ then _ else _
  have := h.mono v
  by_cases c : v < n ∧ a' v < τ v
  ·rw [if_pos c, if_pos ⟨c.1, by omega⟩]; omega
  ·rw [if_neg c]; split <;> omega
 ·show (if _ then _ else _) < if _ then _ else _
  rw [if_neg fun hh => absurd hh.2 (by omega), if_pos ⟨r2, t2⟩]
  omega
theorem bf_s {n : Nat} (hn : n ≤ 16) {E : List Edg} (hE : ∀ e ∈ E, EdgeIn n e) (hl : E.length ≤ 60000) {pace : Int} (hp : 1 ≤ pace ∧ pace ≤ 200) : R7_Rounds_m (n : Int) E pace = some (tb (HasPot E pace)) := by
 have hr : ∀ e ∈ E, e.fr.toNat < n ∧ e.to.toNat < n := fun e he => by have := (hE e he).fr; have := (hE e he).to; omega
 have e0 : List.replicate n (0 : Int) = rmA n (fun _ => 0) := by
  apply List.ext_getElem?
  intro k
  unfold rmA
  by_cases hk : k < n
  ·simp [List.getElem?_replicate, hk]
  ·simp [List.getElem?_replicate, hk]
 unfold R7_Rounds_m
 simp only [Int.toNat_natCast]
 rw [ck_yes (by omega), ck_yes (AL8 (by omega)), e0]
 have hstep : ∀ (r : Nat) (a : Nat → Int), r ≤ n → (∀ v, v < n → 0 ≤ a v) → (∀ v, v < n → a v ≤ 360000 * (r : Int)) → ∃ a' st, PassI n E pace a (360000 * (r : Int)) E.length a' st ∧ (∀ v, v < n → 0 ≤ a' v) ∧ (∀ v, v < n → a' v ≤ 360000 * ((r + 1 : Nat) : Int)) ∧
   R7_Rounds_L0 (n : Int) E pace (rmA n a, (r : Int)) = br st (some (.ret true)) (some (.next (rmA n a', (r : Int) + 1))) := fun r a hrn h0 hU => by
  obtain ⟨a', st, e1, h1⟩ := pass_s hE hl hp h0 hU (by omega)
  refine ⟨a', st, h1, fun v hv => Int.le_trans (h0 v hv) (h1.mono v), fun v hv => by have := h1.bd v hv; omega, ?_⟩
  unfold R7_Rounds_L0
  simp only
  rw [br_T (by omega), e1, bd_ret, Out.on_go, ck_IR (by omega) (by omega)]
 by_cases h : HasPot E pace
 ·obtain ⟨τ, t1, t2, t3⟩ := least_pot n h hr
  have key : ∀ (m r : Nat) (a : Nat → Int), r + m = n → (∀ v, v < n → 0 ≤ a v) → (∀ v, v < n → a v ≤ 360000 * (r : Int)) → (∀ v, v < n → a v ≤ τ v) → nfV τ a n ≤ m → lp (R7_Rounds_L0 (n : Int) E pace) (rmA n a, (r : Int)) = some (.ret true) := by
   intro m
   induction m with
   | zero =>
    intro r a hrm h0 hU hle hnf
    obtain ⟨a', st, h1, h2, h3, e⟩ := hstep r a (by omega) h0 hU
    have : PotE E pace a := fun e he => by
     obtain ⟨r1, r2⟩ := hr e he
     have q : ∀ v, v < n → a v = τ v := fun v hv => by
      have := hle v hv
      by_cases c : a v < τ v
      ·have := nf_pos hv c; omega
      ·omega
     rw [q _ r1, q _ r2]
     exact t1 e he
    rw [h1.pot this, br_true] at e
    exact lp_ret e
   | succ m ih =>
    intro r a hrm h0 hU hle hnf
    obtain ⟨a', st, h1, h2, h3, e⟩ := hstep r a (by omega) h0 hU
    cases hst : st with
    | true => rw [hst, br_true] at e; exact lp_ret e
    | false =>
     rw [hst, br_false] at e
     refine lp_step e (ih (r + 1) a' (by omega) h2 h3 (h1.up τ t1 hle) ?_)
     have hex : ∃ v, v < n ∧ a v < τ v := Classical.byContradiction fun hno => by
      have : PotE E pace a := fun e he => by
       obtain ⟨r1, r2⟩ := hr e he
       have q : ∀ v, v < n → a v = τ v := fun v hv => by
        have := hle v hv
        by_cases c : a v < τ v
        ·exact absurd ⟨v, hv, c⟩ hno
        ·omega
       rw [q _ r1, q _ r2]
       exact t1 e he
      have := h1.pot this
      rw [hst] at this
      cases this
     have := pass_less hr h1 t1 h0 hle t2 t3 hex
     omega
  rw [show ((rmA n (fun _ => 0), (0 : Int)) : List Int × Int) = (rmA n (fun _ => 0), ((0 : Nat) : Int)) from rfl, key n 0 (fun _ => 0) (by omega) (fun _ _ => Int.le_refl _) (fun _ _ => by omega) (fun v _ => t2 v) (nf_le _ _ _), bd_ret, Out.on_ret, tb_t h]
 ·have key : ∀ (m r : Nat) (a : Nat → Int), r + m = n + 1 → (∀ v, v < n → 0 ≤ a v) → (∀ v, v < n → a v ≤ 360000 * (r : Int)) → ∃ a', lp (R7_Rounds_L0 (n : Int) E pace) (rmA n a, (r : Int)) = some (.go (a', ((n + 1 : Nat) : Int))) := by
   intro m
   induction m with
   | zero =>
    intro r a hrm h0 hU
    have : r = n + 1 := by omega
    subst this
    exact ⟨_, lp_brk (by unfold R7_Rounds_L0; exact br_F (by omega))⟩
   | succ m ih =>
    intro r a hrm h0 hU
    obtain ⟨a', st, h1, h2, h3, e⟩ := hstep r a (by omega) h0 hU
    cases hst : st with
    | true =>
     refine absurd ⟨a, fun e he => ?_⟩ h
     obtain ⟨j, hj, rfl⟩ := mem_ele he
     exact (h1.still hst).2 j hj
    | false =>
     rw [hst, br_false] at e
     obtain ⟨a2, e2⟩ := ih (r + 1) a' (by omega) h2 h3
     exact ⟨a2, lp_step e e2⟩
  obtain ⟨a', e⟩ := key (n + 1) 0 (fun _ => 0) (by omega) (fun _ _ => Int.le_refl _) (fun _ _ => by omega)
  rw [show ((rmA n (fun _ => 0), (0 : Int)) : List Int × Int) = (rmA n (fun _ => 0), ((0 : Nat) : Int)) from rfl, e, bd_ret, Out.on_go, tb_f h]
end Go.Rd
end
section
namespace Go.Rd
end Go.Rd
end
section
namespace Go.Rd
theorem rLeast_s {l : Lp} (hl : LoopOk l) {t : Tgt} (ht : tgtOk t = true) {E : List Edg} (he : R6_Edges_m l t = some E) (hE : ∀ e, e ∈ E ↔ EdgeP l t e) (hEl : E.length ≤ 60000) {L : Nat} (h1 : 1 ≤ L) (h2 : (L : Int) ≤ allW l t) (h3 : HasPot E L) (h4 : ∀ j : Nat, 1 ≤ j → j < L → ¬ HasPot E j) :
  R7_Least_m l t = some (L : Int) := by
 have hn := hl.2.2.1
 have hb := preW_bd (l := l) ht l.body.length
 have hin : ∀ e ∈ E, EdgeIn l.body.length e := fun e he => ((hE e).1 he).in hl
 unfold allW at h2
 obtain ⟨k, k1, k2, k3, k4, k5⟩ := lp_first (f := R7_Least_L0 l E) (ρ := Empty) (m := L) (lo := 1) (p := fun i => HasPot E (i : Int)) (fun i h0 hi => by
  unfold R7_Least_L0 ln
  rw [bf_s hn hin hEl (by omega), bd_ret]
  exact ⟨fun h => by rw [tb_t h]; rfl, fun h => by rw [tb_f h, Bool.not_false, br_true, ck_IR (by omega) (by omega)]⟩) h3 (L - 1) 1 (by omega) (by omega)
 have hk : k = L := by
  by_cases e : k < L
  ·exact absurd k3 (h4 k k1 e)
  ·omega
 subst hk
 unfold R7_Least_m
 rw [he, bd_ret, show (1 : Int) = ((1 : Nat) : Int) from rfl, k5, bd_ret, Out.on_go]
theorem rUnits_s {l : Lp} (hl : LoopOk l) {t : Tgt} (ht : tgtOk t = true) : R7_Units_m l t = some (uB l t 3) := by
 have hn := hl.2.2.1
 have X := lp_det (f := R7_Units_L0 l t) (ρ := Empty) (fun c => (uB l t c, (c : Int))) 3 (fun c hc => by
  have h1 := cntC_le l c l.body.length
  have h2 := units_bd ht c
  have h3 := cdV_bd (n := (cntC l l.body.length c : Int)) (by omega) (by omega) h2.1 h2.2
  have hub := uB_bd (l := l) hn ht c
  have Y := lp_det (f := R7_Units_L2 l (c : Int)) (ρ := Empty) (fun k => ((cntC l k c : Int), (k : Int))) l.body.length (fun k hk => by
   have hcl := cntC_le l c k
   unfold R7_Units_L2
   simp only
   rw [br_T (by unfold ln; omega), ck_IX (by omega) (by unfold ln; omega), ref_Class_s, bd_ret, cntC_succ]
   by_cases e : clsV (ele l.body (k : Int)).op = (c : Int)
   ·rw [show (clsV (ele l.body (k : Int)).op == (c : Int)) = true from by simp [e], br_true, ck_IR (by omega) (by omega), ck_IR (by omega) (by omega), if_pos e]
    rfl
   ·rw [show (clsV (ele l.body (k : Int)).op == (c : Int)) = false from by simp [e], br_false, ck_IR (by omega) (by omega), if_neg e]
    rfl) (by unfold R7_Units_L2; exact br_F (by unfold ln; omega))
  obtain ⟨s, hs⟩ := Int.eq_ofNat_of_zero_le (show 0 ≤ uB l t c by omega)
  have hm : ∀ i : Nat, i ≤ 16 → 0 ≤ (i : Int) * unitsV t c ∧ (i : Int) * unitsV t c ≤ 64 := fun i hi => by
   have := mul_le (a := (i : Int)) (A := 16) (b := unitsV t c) (B := 4) (by omega) (by omega) (by omega) (by omega)
   have := Int.mul_nonneg (show 0 ≤ (i : Int) by omega) (show 0 ≤ unitsV t c by omega)
   omega
  obtain ⟨k, k1, k2, k3, k4, k5⟩ := lp_first (f := R7_Units_L4 t (c : Int) (cntC l l.body.length c : Int)) (ρ := Empty) (m := 16) (lo := 0) (p := fun i => ¬ ((i : Int) * unitsV t c < (cntC l l.body.length c : Int))) (fun i h0 hi => by
   have := hm i hi
   unfold R7_Units_L4
   rw [show sel3 t.u0 t.u1 t.u2 (c : Int) = unitsV t c from rfl, ck_IX (by omega) (by omega), ck_IR (by omega) (by omega)]
   exact ⟨fun h => br_F h, fun h => by rw [br_T (Classical.not_not.1 h), ck_IR (by omega) (by omega)]⟩) (by
   have := Int.mul_le_mul_of_nonneg_left h2.1 (show (0 : Int) ≤ 16 by omega)
   show ¬ (((16 : Nat) : Int) * unitsV t c < _)
   omega) (16 - s) s (by omega) (by omega)
  have hk : (k : Int) = max (uB l t c) (cdV (cntC l l.body.length c) (unitsV t c)) := by
   have a1 := (cdV_le (n := (cntC l l.body.length c : Int)) (u := unitsV t c) (p := (k : Int)) (by omega) h2.1 h2.2).2 (by omega)
   by_cases e : k = s
   ·omega
   ·have a2 := k4 (k - 1) (by omega) (by omega)
    have a3 : ¬ cdV (cntC l l.body.length c) (unitsV t c) ≤ ((k - 1 : Nat) : Int) := fun h => by
     have := (cdV_le (n := (cntC l l.body.length c : Int)) (u := unitsV t c) (p := ((k - 1 : Nat) : Int)) (by omega) h2.1 h2.2).1 h
     exact a2 (by omega)
    omega
  unfold R7_Units_L0
  simp only
  rw [br_T (by omega), show lp (R7_Units_L2 l (c : Int)) (0, 0) = _ from Y, bd_ret, Out.on_go]
  simp only
  rw [hs, k5, bd_ret, Out.on_go, ck_IR (by omega) (by omega), hk]
  rfl) (by unfold R7_Units_L0; exact br_F (by omega))
 unfold R7_Units_m
 rw [show lp (R7_Units_L0 l t) (1, 0) = _ from X, bd_ret, Out.on_go]
end Go.Rd
end
section
namespace Go.Rd
noncomputable def roundelaylaw_BuildMakes_m (l : Lp) (t : Tgt) : Option (Bool) :=
 bd (build_Build_m l t) fun x3 =>
 bd (R6_May_m l t) fun x8 =>
 br (!x8) (
 bdG ((x3.2.2 == 2) && ((ln x3.2.1) == 0)) (R13_Same_m x3.1 (Krn.mk 0 0 [])) fun x13 =>
 some (((x3.2.2 == 2) && ((ln x3.2.1) == 0)) && x13)) (
 br (x3.2.2 == 1) (
 ck (IR (5 * (ln l.body))) <|
 bdG ((decide (t.regs < (5 * (ln l.body)))) && ((ln x3.2.1) == 0)) (R13_Same_m x3.1 (Krn.mk 0 0 [])) fun x21 =>
 some (((decide (t.regs < (5 * (ln l.body)))) && ((ln x3.2.1) == 0)) && x21)) (
 bdG (!(x3.2.2 != 0)) (R10_Takes_m l t x3.1 x3.2.1) fun x25 =>
 br ((x3.2.2 != 0) || (!x25)) (
 some false) (
 bd (R7_Units_m l t) fun x31 =>
 bdG (decide (x3.1.pace ≥ x31)) (R7_Least_m l t) fun x34 =>
 bdG ((decide (x3.1.pace ≥ x31)) && (decide (x3.1.pace ≥ x34))) (R8_All_m l t) fun x37 =>
 some (((decide (x3.1.pace ≥ x31)) && (decide (x3.1.pace ≥ x34))) && (decide (x3.1.pace ≤ x37))))))
end Go.Rd
end
section
namespace Go.Rd
theorem BuildMakes_true (l : Lp) (t : Tgt) {w : World} {v1 v2 v3 : Value} (hL : LpRep w v1 v2 v3 l) : roundelaylaw_BuildMakes_m l t = some true := by
 have hf := hL.fine
 have hz : R13_Same_m (⟨0, 0, []⟩ : Krn) ⟨0, 0, []⟩ = some true := krn_self (by decide)
 unfold roundelaylaw_BuildMakes_m
 by_cases h : LoopOk l ∧ tgtOk t = true
 ·have hn := h.1.2.2.1
  rcases Build_s hf h.1 h.2 with ⟨p, v, e, hB⟩ | ⟨e, hr⟩
  ·obtain ⟨b1, b2, b3⟩ := hB
   obtain ⟨E, e1, e2, e3, e4, e5⟩ := edges_both h.1 hf h.2
   obtain ⟨L, c1, c2, c3, c4, c5⟩ := Bound_s h.1 h.2 e1 e4 e5
   have h1 := legal_uB b1 3
   have h2 : (L : Int) ≤ p.pace := by
    by_cases hh : (L : Int) ≤ p.pace
    ·exact hh
    ·have hpp := b1.pace
     refine absurd ?_ (c4 p.pace.toNat (by omega) (by omega))
     rw [show ((p.pace.toNat : Nat) : Int) = p.pace from by omega]
     exact legal_pot b1 e4
   have hkp : (krnN l t p v).pace = p.pace := rfl
   rw [e, bd_ret, rMay_s hf, bd_ret, tb_t h, Bool.not_true, br_false]
   rw [show (((krnN l t p v, natL l.body.length, (0 : Int)) : Krn × List Int × Int).2.2 == 1) = false from rfl, br_false]
   simp only [bne_self_eq_false, Bool.not_false, bdG_t]
   rw [Takes_s hf (krnN_fine hf) (by rw [natL_len]; omega), bd_ret, tb_t b3]
   simp only [Bool.not_true, Bool.or_false, br_false]
   rw [rUnits_s h.1 h.2, bd_ret, hkp, decide_eq_true (show p.pace ≥ uB l t 3 from h1), bdG_t, rLeast_s h.1 h.2 e2 e4 e5 c1 c2 c3 c4, bd_ret, decide_eq_true (show p.pace ≥ (L : Int) from h2)]
   simp only [Bool.and_self, bdG_t]
   rw [all_s h.1 h.2, bd_ret, decide_eq_true b2]
   rfl
  ·rw [e, bd_ret, rMay_s hf, bd_ret, tb_t h, Bool.not_true, br_false]
   rw [show (((⟨0, 0, []⟩, [], (1 : Int)) : Krn × List Int × Int).2.2 == 1) = true from rfl, br_true, ck_IR (by unfold ln; omega) (by unfold ln; omega), decide_eq_true (show t.regs < 5 * ln l.body from hr)]
   simp only [show ((ln ([] : List Int)) == 0) = true from rfl, Bool.and_self, bdG_t]
   rw [hz, bd_ret]
   rfl
 ·rw [Build_bad hf h, bd_ret, rMay_s hf, bd_ret, tb_f h, Bool.not_false, br_true]
  simp only [show ((ln ([] : List Int)) == 0) = true from rfl, beq_self_eq_true, Bool.and_self, bdG_t]
  rw [hz, bd_ret]
  rfl
end Go.Rd
end
section
namespace Go.Rd
section
variable {P : Program} {n : Nat} {σ : Env} {M : Nat → Prop} {w0 : World} {H : List Res} {C : World → Prop} {rest l : List Oper} {ops : Array Oper} {Q : Exit → Act → World → Prop} {d id : Nat} {v : Value} {x : Operand} {T U : TypeId} {pos : String} {after : Array Edge} {c : Op} {y : Code}
theorem wq (h : Nat.blt d n = true) (hq : QV P ⟨some d, c, T, pos, after, none⟩ σ (Own M w0 H) v) (kk : WK n (wpList P ops Q rest) ((d, (true, v)) :: σ) (Own M w0 H)) : WK n (wpList P ops Q (⟨some d, c, T, pos, after, none⟩ :: rest)) σ (Own M w0 H) := WL.q rfl rfl h hq kk
theorem wm (h : (Nat.blt d n, σ.ev x) = (true, some (true, v))) (kk : WK n (wpList P ops Q rest) ((d, (true, v)) :: σ) (Own M w0 H)) : WK n (wpList P ops Q (⟨some d, .move x, T, pos, after, none⟩ :: rest)) σ (Own M w0 H) :=
 wq (congrArg Prod.fst h) (QV.move (congrArg Prod.snd h) rfl) kk
theorem wa (h : (Nat.blt d n, σ.ev x) = (true, some (true, v))) (kk : WK n (wpList P ops Q rest) ((d, (true, v)) :: σ) (Own M w0 H)) : WK n (wpList P ops Q (⟨some d, .assign x, T, pos, after, none⟩ :: rest)) σ (Own M w0 H) :=
 wq (congrArg Prod.fst h) (QV.assign (congrArg Prod.snd h) rfl) kk
theorem wf {f off : Nat} {q : Addr} (hT : FieldT P U f off) (h : (Nat.blt d n, σ.ev x) = (true, some (true, .pointer (some q)))) (kk : WK n (wpList P ops Q rest) ((d, (true, .pointer (some (q.add off)))) :: σ) (Own M w0 H)) : WK n (wpList P ops Q (⟨some d, .fieldAddr U x f, T, pos, after, none⟩ :: rest)) σ (Own M w0 H) :=
 wq (congrArg Prod.fst h) (QV.fieldAddr hT (congrArg Prod.snd h) rfl) kk
theorem wl {q : Addr} (hT : Plain P U) (h : (Nat.blt d n, σ.ev x) = (true, some (true, .pointer (some q)))) (hc : ∀ w, Own M w0 H w → w.cell? q = some v) (kk : WK n (wpList P ops Q rest) ((d, (true, v)) :: σ) (Own M w0 H)) : WK n (wpList P ops Q (⟨some d, .load U x, T, pos, after, none⟩ :: rest)) σ (Own M w0 H) :=
 wq (congrArg Prod.fst h) (QV.load hT (congrArg Prod.snd h) rfl hc) kk
theorem wz (i : Nat) {m fuel : Nat} {S : World → Prop} [hQ : POk Q] (hi : ops[i]? = some ⟨some d, c, T, pos, after, none⟩) (hn : Nat.blt d n = true) (hq : QV P ⟨some d, c, T, pos, after, none⟩ σ S v)
  (kk : WD P n ops Q S fuel (upto (i + 1) m) ((d, (true, v)) :: σ) (Own M w0 H)) (ht : takeOk ops i m = true := by kernel_rfl) : WD P n ops Q S (fuel + 1) (upto i m) σ (Own M w0 H) := WD.q i hi ht rfl rfl hn hq kk
theorem gn {j d' : Nat} {b : Bool} (h : (Nat.blt d n, (ops[j]?).bind (·.dst), σ.look d') = (true, some d', some (true, .bool b))) (hq : (!b) = true → QV P ⟨some d, c, T, pos, after, some (j, false)⟩ σ (Own M w0 H) v) (kk : WK n (wpList P ops Q rest) ((d, (!b, v)) :: σ) (Own M w0 H)) : WK n (wpList P ops Q (⟨some d, c, T, pos, after, some (j, false)⟩ :: rest)) σ (Own M w0 H) :=
 WL.g rfl (congrArg (·.1) h) (GuardIs.neg (congrArg (·.2.1) h) (congrArg (·.2.2) h)) hq kk
theorem gp {j d' : Nat} {b : Bool} (h : (Nat.blt d n, (ops[j]?).bind (·.dst), σ.look d') = (true, some d', some (true, .bool b))) (hq : b = true → QV P ⟨some d, c, T, pos, after, some (j, true)⟩ σ (Own M w0 H) v) (kk : WK n (wpList P ops Q rest) ((d, (b, v)) :: σ) (Own M w0 H)) : WK n (wpList P ops Q (⟨some d, c, T, pos, after, some (j, true)⟩ :: rest)) σ (Own M w0 H) :=
 WL.g rfl (congrArg (·.1) h) (GuardIs.pos (congrArg (·.2.1) h) (congrArg (·.2.2) h)) hq kk
theorem tr {K : Act → World → Prop} (h : WK n (Q .ret) σ C) : WK n (Exit.then K Q .ret) σ C := h
theorem te {K : Act → World → Prop} {id : Nat} (h : WK n (Q (.exit id)) σ C) : WK n (Exit.then K Q (.exit id)) σ C := h
theorem kr {id : Nat} (h : WK n (Q .ret) σ C) : WK n (Exit.inBlock id Q .ret) σ C := h
theorem sk (k : WK n (Q .normal) σ C) : WK n (Code.skip.wp P Q) σ C := WC.skip k
theorem sr (h : WK n (wpList P l.toArray (Exit.then (y.wp P Q) Q) l) σ C) : WK n (((Code.region id l.toArray false).seq y).wp P Q) σ C := WC.seq (WC.region h)
theorem nt (h : WK n (y.wp P Q) σ C) : WK n (wpList P ops (Exit.then (y.wp P Q) Q) []) σ C := WL.nil (WQ.then h)
theorem nr (h : WK n (wpList P l.toArray Q l) σ C) : WK n (wpList P ops (Exit.then ((Code.region id l.toArray false).wp P Q) Q) []) σ C := nt (WC.region h)
theorem ns {z : Code} (h : WK n (wpList P l.toArray (Exit.then (z.wp P Q) Q) l) σ C) : WK n (wpList P ops (Exit.then (((Code.region id l.toArray false).seq z).wp P Q) Q) []) σ C := nt (sr h)
end
universe u
theorem Z {α : Sort u} {a : α} : a = a := rfl
theorem cs {α : Type} {c : Prop} [Decidable c] {x : Option α} {r : α} (h : ck c x = some r) : c ∧ x = some r := ck_some h
end Go.Rd
end
section
namespace Go.Proofs.Ytaimbkndebaaiac
open Go.Rd
namespace TNum
theorem en31 : Go.Rd.Enters Try.prog 31 := ⟨Try.f31, Try.func31, by kernel_rfl, by kernel_rfl⟩
theorem en48 : Go.Rd.Enters Try.prog 48 := ⟨Try.f48, Try.func48, by kernel_rfl, by kernel_rfl⟩
end TNum
open TNum
theorem num_Class_w {op : Int} {r : Int} (w : World) (hm : num_Class_m op = some r)  : Calls Try.prog 89 #[.int .i64 op] w (fun e w' => e = .returned (.int .i64 r) ∧ Grow w w') := by
 unfold num_Class_m at hm
 have hk := Base.rfl (w := w)
 refine calls_of_WC (n := 9) (args := [.int .i64 op]) Try.func89 Z Z (Nat.le_of_ble_eq_true Z) ?_ (Own.startK hk (Own.start w))
 refine sr ?_
 refine wa Z ?_
 refine nt (WC.seq (sr ?_))
 refine wm Z ?_
 refine nt (WC.block (WC.seq (sr ?_)))
 refine wq Z (QV.eql Z Z Z Z) ?_
 refine wa Z ?_
 refine nt ?_
 refine WC.cond Z (fun h1 => ?_) (fun h1 => ?_)
 ·skip
  have hm2 := br_t h1 hm; clear hm
  refine sk (WQ.then ?_)
  refine WC.cond Z (fun h3 => ?_) (fun h3 => ?_)
  ·skip
   have hm4 := br_t h3 hm2; clear hm2
   refine sr ?_
   refine wa Z ?_
   refine nt (WC.ret (kr (tr ?_)))
   obtain rfl := (eq_of_some hm4).symm
   refine WQ.ret1 Z Z (fun w hw => ?_)
   exact ⟨Z, Own.kgrow (fun _ x => x) hw⟩
  have hm5 := br_f h3 hm2; clear hm2
  refine sr ?_
  refine wq Z (QV.eql Z Z Z Z) ?_
  refine wa Z ?_
  refine nt ?_
  refine WC.cond Z (fun h6 => ?_) (fun h6 => ?_)
  ·skip
   have hm7 := br_t h6 hm5; clear hm5
   refine sr ?_
   refine wa Z ?_
   refine nt (WC.ret (kr (tr ?_)))
   obtain rfl := (eq_of_some hm7).symm
   refine WQ.ret1 Z Z (fun w hw => ?_)
   exact ⟨Z, Own.kgrow (fun _ x => x) hw⟩
  have hm8 := br_f h6 hm5; clear hm5
  refine sk (WQ.block (WQ.then (sr ?_)))
  refine wa Z ?_
  refine nt (WC.ret ?_)
  obtain rfl := (eq_of_some hm8).symm
  refine WQ.ret1 Z Z (fun w hw => ?_)
  exact ⟨Z, Own.kgrow (fun _ x => x) hw⟩
 have hm9 := br_f h1 hm; clear hm
 refine WC.region ?_
 refine wq Z (QV.eql Z Z Z Z) ?_
 refine wa Z ?_
 refine nt ?_
 refine WC.cond Z (fun h10 => ?_) (fun h10 => ?_)
 ·skip
  have hm11 := br_t h10 hm9; clear hm9
  refine sr ?_
  refine wa Z ?_
  refine nt (WC.ret (kr (tr ?_)))
  obtain rfl := (eq_of_some hm11).symm
  refine WQ.ret1 Z Z (fun w hw => ?_)
  exact ⟨Z, Own.kgrow (fun _ x => x) hw⟩
 have hm12 := br_f h10 hm9; clear hm9
 refine sr ?_
 refine wq Z (QV.eql Z Z Z Z) ?_
 refine wa Z ?_
 refine nt ?_
 refine WC.cond Z (fun h13 => ?_) (fun h13 => ?_)
 ·skip
  have hm14 := br_t h13 hm12; clear hm12
  refine sr ?_
  refine wa Z ?_
  refine nt (WC.ret (kr (tr ?_)))
  obtain rfl := (eq_of_some hm14).symm
  refine WQ.ret1 Z Z (fun w hw => ?_)
  exact ⟨Z, Own.kgrow (fun _ x => x) hw⟩
 have hm15 := br_f h13 hm12; clear hm12
 refine sk (WQ.block (WQ.then (sr ?_)))
 refine wa Z ?_
 refine nt (WC.ret ?_)
 obtain rfl := (eq_of_some hm15).symm
 refine WQ.ret1 Z Z (fun w hw => ?_)
 exact ⟨Z, Own.kgrow (fun _ x => x) hw⟩
theorem R1_Class_w {op : Int} {r : Int} (w : World) (hm : R1_Class_m op = some r)  : Calls Try.prog 45 #[.int .i64 op] w (fun e w' => e = .returned (.int .i64 r) ∧ Grow w w') := by
 unfold R1_Class_m at hm
 have hk := Base.rfl (w := w)
 refine calls_of_WC (n := 11) (args := [.int .i64 op]) Try.func45 Z Z (Nat.le_of_ble_eq_true Z) ?_ (Own.startK hk (Own.start w))
 refine sr ?_
 refine wa Z ?_
 refine nt (WC.seq (sr ?_))
 refine wm Z ?_
 refine wq Z (QV.eql Z Z Z Z) ?_
 refine wm Z ?_
 refine gn Z (fun hG => QV.move Z Z) ?_
 refine gn Z (fun hG => QV.eql Z hG Z Z) ?_
 refine wq Z (QV.pickOr Z Z Z (fun h => notF h)) ?_
 refine nt ?_
 refine WC.cond Z (fun h1 => ?_) (fun h1 => ?_)
 ·skip
  have hm2 := br_t h1 hm; clear hm
  refine sr ?_
  refine wa Z ?_
  refine nt (WC.ret (tr ?_))
  obtain rfl := (eq_of_some hm2).symm
  refine WQ.ret1 Z Z (fun w hw => ?_)
  exact ⟨Z, Own.kgrow (fun _ x => x) hw⟩
 have hm3 := br_f h1 hm; clear hm
 refine sk (WQ.then (WC.seq (sr ?_)))
 refine wm Z ?_
 refine wq Z (QV.eql Z Z Z Z) ?_
 refine nt ?_
 refine WC.cond Z (fun h4 => ?_) (fun h4 => ?_)
 ·skip
  have hm5 := br_t h4 hm3; clear hm3
  refine sr ?_
  refine wa Z ?_
  refine nt (WC.ret (tr ?_))
  obtain rfl := (eq_of_some hm5).symm
  refine WQ.ret1 Z Z (fun w hw => ?_)
  exact ⟨Z, Own.kgrow (fun _ x => x) hw⟩
 have hm6 := br_f h4 hm3; clear hm3
 refine sk (WQ.then (sr ?_))
 refine wa Z ?_
 refine nt (WC.ret ?_)
 obtain rfl := (eq_of_some hm6).symm
 refine WQ.ret1 Z Z (fun w hw => ?_)
 exact ⟨Z, Own.kgrow (fun _ x => x) hw⟩
theorem R1_Size_w {log : Int} {r : Int} (w : World) (hm : R1_Size_m log = some r)  : Calls Try.prog 48 #[.int .i64 log] w (fun e w' => e = .returned (.int .i64 r) ∧ Grow w w') := by
 unfold R1_Size_m at hm
 have hk := Base.rfl (w := w)
 refine calls_of_WC (n := 14) (args := [.int .i64 log]) Try.func48 Z Z (Nat.le_of_ble_eq_true Z) ?_ (Own.startK hk (Own.start w))
 refine sr ?_
 refine wa Z ?_
 refine ns ?_
 refine wa Z ?_
 refine nt (WC.seq (sr ?_))
 refine wa Z ?_
 refine nt ?_
 obtain ⟨o1, ho2, hm3⟩ := bd_some hm; clear hm; obtain ⟨n4, ho5⟩ := lp_some ho2
 refine WC.bloop2 (H2 := [kn noM w.heap.size w w]) (τ := [(0, (true, _))]) (fun (n3_1 : Int) (i4_1 : Int) => [(3, (true, .int .i64 n3_1)), (4, (true, .int .i64 i4_1))]) (fun n3_1 i4_1 => []) (fun n3_1 i4_1 m => iter (R1_Size_L0 log) m (n3_1, i4_1) = some o1) (fun n3_1 i4_1 => o1 = .go (n3_1, i4_1)) 1 0 n4 ho5 ⟨Z, Z, Z, trivial⟩ (fun w hw => hw.pick [0] (by decide)) ?_ ?_
 ·skip
  rintro n3_1 i4_1 rfl
  refine WQ.then (sr ?_)
  refine wm Z ?_
  refine wa Z ?_
  refine nt (WC.ret ?_)
  obtain rfl := (eq_of_some hm3).symm
  refine WQ.ret1 Z Z (fun w hw => ?_)
  exact ⟨Z, Own.kgrow (fun _ x => x) hw⟩
 rintro n3_1 i4_1 m6 hI7
 obtain ⟨m8, s9, rfl, hm10, hn11⟩ := iter_step hI7; clear hI7; unfold R1_Size_L0 at hm10; simp only at hm10
 refine WC.seq (sr ?_)
 refine wm Z ?_
 refine wm Z ?_
 refine wq Z (QV.lss Z Z Z Z) ?_
 refine nt ?_
 refine WC.cond Z (fun h12 => ?_) (fun h12 => ?_)
 ·skip
  have hm13 := br_t h12 hm10; clear hm10
  refine sk (WQ.then (WC.seq (WC.block (WC.region ?_))))
  refine wm Z ?_
  refine wm Z ?_
  obtain ⟨c14, hm15⟩ := cs hm13; clear hm13
  refine wq Z (QV.add Z Z Z Z c14) ?_
  refine wa Z ?_
  refine WL.nil (WQ.block (WQ.then (WC.region ?_)))
  refine wm Z ?_
  obtain ⟨c16, hm17⟩ := cs hm15; clear hm15
  refine wq Z (QV.add Z Z Z Z c16) ?_
  refine wa Z ?_
  refine WL.nil ?_
  exact WQ.again2 (n3_1 + n3_1) (i4_1 + 1) m8 (up_next hm17 hn11) (Nat.lt_succ_self _) ⟨Z, Z, Z, trivial⟩ (fun w hw => hw.pick [0] (by decide))
 have hm18 := br_f h12 hm10; clear hm10
 refine WC.exit (te (te (WQ.block_exit ?_)))
 exact WQ.out2 n3_1 i4_1 (up_brk hm18 hn11) ⟨Z, Z, Z, trivial⟩ (fun w hw => hw.pick [0] (by decide))
theorem R1_Rest_w {a : Int} {b : Int} {r : Int} (w : World) (hm : R1_Rest_m a b = some r)  : Calls Try.prog 31 #[.int .i64 a, .int .i64 b] w (fun e w' => e = .returned (.int .i64 r) ∧ Grow w w') := by
 unfold R1_Rest_m at hm
 have hk := Base.rfl (w := w)
 refine calls_of_WC (n := 15) (args := [.int .i64 a, .int .i64 b]) Try.func31 Z Z (Nat.le_of_ble_eq_true Z) ?_ (Own.startK hk (Own.start w))
 refine sr ?_
 refine wa Z ?_
 refine ns ?_
 refine wm Z ?_
 refine wm Z ?_
 obtain ⟨c1, hm2⟩ := cs hm; clear hm
 refine wq Z (QV.rem Z Z Z Z c1) ?_
 refine wa Z ?_
 refine nt (WC.seq (sr ?_))
 refine wm Z ?_
 refine wq Z (QV.lss Z Z Z Z) ?_
 refine nt ?_
 refine WC.cond Z (fun h3 => ?_) (fun h3 => ?_)
 ·skip
  have hm4 := br_t h3 hm2; clear hm2
  refine WC.region ?_
  refine wm Z ?_
  refine wm Z ?_
  obtain ⟨c5, hm6⟩ := cs hm4; clear hm4
  refine wq Z (QV.add Z Z Z Z c5) ?_
  refine wa Z ?_
  refine ns ?_
  refine wm Z ?_
  refine wa Z ?_
  refine nt (WC.ret ?_)
  obtain rfl := (eq_of_some hm6).symm
  refine WQ.ret1 Z Z (fun w hw => ?_)
  exact ⟨Z, Own.kgrow (fun _ x => x) hw⟩
 have hm7 := br_f h3 hm2; clear hm2
 refine sk (WQ.then (sr ?_))
 refine wm Z ?_
 refine wa Z ?_
 refine nt (WC.ret ?_)
 obtain rfl := (eq_of_some hm7).symm
 refine WQ.ret1 Z Z (fun w hw => ?_)
 exact ⟨Z, Own.kgrow (fun _ x => x) hw⟩
end Go.Proofs.Ytaimbkndebaaiac
end
section
namespace Go.Proofs.Ytaimbkndebaaiac
open Go.Rd
open TNum
namespace TLoop
theorem ag25 : AggT Try.prog 25 3 := ⟨_, Try.underlying25, rfl, by kernel_rfl⟩
theorem ag28 : AggT Try.prog 28 7 := ⟨_, Try.underlying28, rfl, by kernel_rfl⟩
theorem ag79 : AggT Try.prog 79 2 := ⟨_, Try.underlying79, rfl, by kernel_rfl⟩
theorem ag81 : AggT Try.prog 81 9 := ⟨_, Try.underlying81, rfl, by kernel_rfl⟩
theorem ar26 : ArrayT Try.prog 26 3 1 := ⟨_, Try.underlying26, by kernel_rfl⟩
theorem en105 : Go.Rd.Enters Try.prog 105 := ⟨Try.f105, Try.func105, by kernel_rfl, by kernel_rfl⟩
theorem en30 : Go.Rd.Enters Try.prog 30 := ⟨Try.f30, Try.func30, by kernel_rfl, by kernel_rfl⟩
theorem en38 : Go.Rd.Enters Try.prog 38 := ⟨Try.f38, Try.func38, by kernel_rfl, by kernel_rfl⟩
theorem en39 : Go.Rd.Enters Try.prog 39 := ⟨Try.f39, Try.func39, by kernel_rfl, by kernel_rfl⟩
theorem en43 : Go.Rd.Enters Try.prog 43 := ⟨Try.f43, Try.func43, by kernel_rfl, by kernel_rfl⟩
theorem en44 : Go.Rd.Enters Try.prog 44 := ⟨Try.f44, Try.func44, by kernel_rfl, by kernel_rfl⟩
theorem en45 : Go.Rd.Enters Try.prog 45 := ⟨Try.f45, Try.func45, by kernel_rfl, by kernel_rfl⟩
theorem en66 : Go.Rd.Enters Try.prog 66 := ⟨Try.f66, Try.func66, by kernel_rfl, by kernel_rfl⟩
theorem en67 : Go.Rd.Enters Try.prog 67 := ⟨Try.f67, Try.func67, by kernel_rfl, by kernel_rfl⟩
theorem en68 : Go.Rd.Enters Try.prog 68 := ⟨Try.f68, Try.func68, by kernel_rfl, by kernel_rfl⟩
theorem en76 : Go.Rd.Enters Try.prog 76 := ⟨Try.f76, Try.func76, by kernel_rfl, by kernel_rfl⟩
theorem en77 : Go.Rd.Enters Try.prog 77 := ⟨Try.f77, Try.func77, by kernel_rfl, by kernel_rfl⟩
theorem en89 : Go.Rd.Enters Try.prog 89 := ⟨Try.f89, Try.func89, by kernel_rfl, by kernel_rfl⟩
theorem eq79 : EqT Try.prog 79 2 := ⟨by kernel_rfl, ⟨_, Try.underlying79⟩, by kernel_rfl, by kernel_rfl⟩
theorem fd25_0 : FieldT Try.prog 25 0 0 := ⟨_, _, 0, Try.underlying25, rfl, rfl, by kernel_rfl⟩
theorem fd25_1 : FieldT Try.prog 25 1 1 := ⟨_, _, 0, Try.underlying25, rfl, rfl, by kernel_rfl⟩
theorem fd25_2 : FieldT Try.prog 25 2 2 := ⟨_, _, 0, Try.underlying25, rfl, rfl, by kernel_rfl⟩
theorem fd28_0 : FieldT Try.prog 28 0 0 := ⟨_, _, 2, Try.underlying28, rfl, rfl, by kernel_rfl⟩
theorem fd28_1 : FieldT Try.prog 28 1 3 := ⟨_, _, 2, Try.underlying28, rfl, rfl, by kernel_rfl⟩
theorem fd28_2 : FieldT Try.prog 28 2 6 := ⟨_, _, 0, Try.underlying28, rfl, rfl, by kernel_rfl⟩
theorem fd79_0 : FieldT Try.prog 79 0 0 := ⟨_, _, 0, Try.underlying79, rfl, rfl, by kernel_rfl⟩
theorem fd79_1 : FieldT Try.prog 79 1 1 := ⟨_, _, 0, Try.underlying79, rfl, rfl, by kernel_rfl⟩
theorem fd81_0 : FieldT Try.prog 81 0 0 := ⟨_, _, 0, Try.underlying81, rfl, rfl, by kernel_rfl⟩
theorem fd81_1 : FieldT Try.prog 81 1 1 := ⟨_, _, 1, Try.underlying81, rfl, rfl, by kernel_rfl⟩
theorem fd81_2 : FieldT Try.prog 81 2 3 := ⟨_, _, 1, Try.underlying81, rfl, rfl, by kernel_rfl⟩
theorem fd81_3 : FieldT Try.prog 81 3 5 := ⟨_, _, 0, Try.underlying81, rfl, rfl, by kernel_rfl⟩
theorem fd81_4 : FieldT Try.prog 81 4 6 := ⟨_, _, 0, Try.underlying81, rfl, rfl, by kernel_rfl⟩
theorem fd81_5 : FieldT Try.prog 81 5 7 := ⟨_, _, 0, Try.underlying81, rfl, rfl, by kernel_rfl⟩
theorem fd81_6 : FieldT Try.prog 81 6 8 := ⟨_, _, 0, Try.underlying81, rfl, rfl, by kernel_rfl⟩
theorem pl2 : Plain Try.prog 2 := ⟨_, Try.underlying2, rfl⟩
theorem pl22 : Plain Try.prog 22 := ⟨_, Try.underlying22, rfl⟩
theorem pl23 : Plain Try.prog 23 := ⟨_, Try.underlying23, rfl⟩
theorem pl3 : Plain Try.prog 3 := ⟨_, Try.underlying3, rfl⟩
theorem sl22 : SliceT Try.prog 22 3 1 := ⟨Try.underlying22, by kernel_rfl⟩
theorem sl23 : SliceT Try.prog 23 81 9 := ⟨Try.underlying23, by kernel_rfl⟩
theorem sl76 : SliceT Try.prog 76 79 2 := ⟨Try.underlying76, by kernel_rfl⟩
theorem sz79 : SizeT Try.prog 79 2 := by unfold SizeT; kernel_rfl
theorem sz81 : SizeT Try.prog 81 9 := by unfold SizeT; kernel_rfl
theorem sz_76 : SliceZ Try.prog 76 79 2 [.int .i64 0, .int .i64 0] := ⟨Try.underlying76, by kernel_rfl⟩
theorem ze79 : ZeroT Try.prog 79 [.int .i64 0, .int .i64 0] := by unfold ZeroT; kernel_rfl
theorem ze81 : ZeroT Try.prog 81 [.int .i64 0, .int .i64 0, .int .i64 0, .int .i64 0, .int .i64 0, .int .i64 0, .int .i64 0, .int .i64 0, .int .i64 0] := by unfold ZeroT; kernel_rfl
end TLoop
open TLoop
theorem target_May_w {t : Tgt} {r : Bool} (w : World) (hm : target_May_m t = some r)  : Calls Try.prog 39 #[.agg #[.int .i64 t.u0, .int .i64 t.u1, .int .i64 t.u2, .int .i64 t.w0, .int .i64 t.w1, .int .i64 t.w2, .int .i64 t.regs]] w (fun e w' => e = .returned (.bool r) ∧ Grow w w') := by
 unfold target_May_m at hm
 have hk := Base.rfl (w := w)
 refine calls_of_WC (n := 42) (args := [.agg #[.int .i64 t.u0, .int .i64 t.u1, .int .i64 t.u2, .int .i64 t.w0, .int .i64 t.w1, .int .i64 t.w2, .int .i64 t.regs]]) Try.func39 Z Z (Nat.le_of_ble_eq_true Z) ?_ (Own.startK hk (Own.start w))
 refine sr ?_
 refine WL.effect Z ?_
 refine (EV.boxAgg (by decide) Z Z (fun b1 => ?_))
 refine wa Z ?_
 refine nt (WC.seq (sr ?_))
 refine wm Z ?_
 refine nt ?_
 obtain ⟨o2, ho3, hm4⟩ := bd_some hm; clear hm; obtain ⟨n5, ho6⟩ := lp_some ho3
 refine WC.bloop1 (H2 := [blk b1 t.cells 28, kn noM w.heap.size w w]) (τ := [(1, (true, _))]) (fun (x4_1 : Int) => [(4, (true, .int .i64 x4_1))]) (fun x4_1 => []) (fun x4_1 m => iter (target_May_L0 t) m x4_1 = some o2) (fun x4_1 => o2 = .go x4_1) 0 n5 ho6 ⟨Z, Z, trivial⟩ (fun w hw => hw.pick [0, 1] (by decide)) ?_ ?_
 ·skip
  rintro x4_1 rfl
  refine WQ.then (sr ?_)
  refine wf fd28_2 Z ?_
  refine wl pl3 Z (Own.cell 0 Z Z) ?_
  refine wq Z (QV.geq Z Z Z Z) ?_
  refine wm Z ?_
  refine gp Z (fun hG => QV.fieldAddr fd28_2 Z Z) ?_
  refine gp Z (fun hG => QV.load pl3 Z hG (Own.cell 0 Z Z)) ?_
  refine gp Z (fun hG => QV.leq Z hG Z Z) ?_
  refine wq Z (QV.pickAnd Z Z Z (fun h => h)) ?_
  refine wa Z ?_
  refine nt (WC.ret ?_)
  obtain rfl := (eq_of_some hm4).symm
  refine WQ.ret1 Z Z (fun w hw => ?_)
  exact ⟨Z, Own.kgrow (fun _ x => x) hw⟩
 rintro x4_1 m7 hI8
 obtain ⟨m9, s10, rfl, hm11, hn12⟩ := iter_step hI8; clear hI8; unfold target_May_L0 at hm11
 refine sr ?_
 refine wq Z (QV.lss Z Z Z Z) ?_
 refine nt (WC.seq ?_)
 refine WC.cond Z (fun h13 => ?_) (fun h13 => ?_)
 ·skip
  have hm14 := br_t h13 hm11; clear hm11
  refine sk (WQ.then (WC.seq (WC.block (sr ?_))))
  refine wm Z ?_
  refine wa Z ?_
  refine ns ?_
  refine wm Z ?_
  refine wf fd28_0 Z ?_
  obtain ⟨c15, hm16⟩ := cs hm14; clear hm14
  refine wq Z (QV.indexArray ar26 Z Z Z Z c15.1 c15.2) ?_
  refine wl pl3 Z (Own.cellSym 0 Z (sel3_get (off := 0) (i := x4_1) c15.1 c15.2 Z Z Z) (addr_sym _ _ _)) ?_
  refine wq Z (QV.lss Z Z Z Z) ?_
  refine wm Z ?_
  refine gn Z (fun hG => QV.move Z Z) ?_
  refine gn Z (fun hG => QV.fieldAddr fd28_0 Z Z) ?_
  obtain ⟨c17, hm18⟩ := cs hm16; clear hm16
  refine gn Z (fun hG => QV.indexArray ar26 Z hG Z hG (c17 hG).1 (c17 hG).2) ?_
  refine gn Z (fun hG => QV.load pl3 Z hG (Own.cellSym 0 Z (sel3_get (off := 0) (i := x4_1) (c17 hG).1 (c17 hG).2 Z Z Z) (addr_sym _ _ _))) ?_
  refine gn Z (fun hG => QV.gtr Z hG Z Z) ?_
  refine wq Z (QV.pickOr Z Z Z (fun h => notF h)) ?_
  refine wm Z ?_
  refine gn Z (fun hG => QV.move Z Z) ?_
  refine gn Z (fun hG => QV.fieldAddr fd28_1 Z Z) ?_
  obtain ⟨c19, hm20⟩ := cs hm18; clear hm18
  refine gn Z (fun hG => QV.indexArray ar26 Z hG Z hG (c19 hG).1 (c19 hG).2) ?_
  refine gn Z (fun hG => QV.load pl3 Z hG (Own.cellSym 0 Z (sel3_get (off := 3) (i := x4_1) (c19 hG).1 (c19 hG).2 Z Z Z) (addr_sym _ _ _))) ?_
  refine gn Z (fun hG => QV.lss Z hG Z Z) ?_
  refine wq Z (QV.pickOr Z Z Z (fun h => notF h)) ?_
  refine wm Z ?_
  refine gn Z (fun hG => QV.move Z Z) ?_
  refine gn Z (fun hG => QV.fieldAddr fd28_1 Z Z) ?_
  obtain ⟨c21, hm22⟩ := cs hm20; clear hm20
  refine gn Z (fun hG => QV.indexArray ar26 Z hG Z hG (c21 hG).1 (c21 hG).2) ?_
  refine gn Z (fun hG => QV.load pl3 Z hG (Own.cellSym 0 Z (sel3_get (off := 3) (i := x4_1) (c21 hG).1 (c21 hG).2 Z Z Z) (addr_sym _ _ _))) ?_
  refine gn Z (fun hG => QV.gtr Z hG Z Z) ?_
  refine wq Z (QV.pickOr Z Z Z (fun h => notF h)) ?_
  refine nt ?_
  refine WC.cond Z (fun h23 => ?_) (fun h23 => ?_)
  ·skip
   have hm24 := br_t h23 hm22; clear hm22
   refine sr ?_
   refine wa Z ?_
   refine nt (WC.ret (kr (tr (tr (kr (tr (tr ?_)))))))
   obtain rfl := up_ret hm24 hn12
   obtain rfl := (eq_of_some hm4).symm
   refine WQ.ret1 Z Z (fun w hw => ?_)
   exact ⟨Z, Own.kgrow (fun _ x => x) hw⟩
  have hm25 := br_f h23 hm22; clear hm22
  refine sk (WQ.block (WQ.then (WC.region ?_)))
  obtain ⟨c26, hm27⟩ := cs hm25; clear hm25
  refine wq Z (QV.add Z Z Z Z c26) ?_
  refine wm Z ?_
  refine WL.nil ?_
  exact WQ.again1 (x4_1 + 1) m9 (up_next hm27 hn12) (Nat.lt_succ_self _) ⟨Z, Z, trivial⟩ (fun w hw => hw.pick [0, 1] (by decide))
 have hm28 := br_f h13 hm11; clear hm11
 refine WC.exit (te (te (WQ.block_exit ?_)))
 exact WQ.out1 x4_1 (up_brk hm28 hn12) ⟨Z, Z, trivial⟩ (fun w hw => hw.pick [0, 1] (by decide))
theorem target_Wait_w {t : Tgt} {op : Int} {r : Int} (w : World) (hm : target_Wait_m t op = some r)  : Calls Try.prog 69 #[.agg #[.int .i64 t.u0, .int .i64 t.u1, .int .i64 t.u2, .int .i64 t.w0, .int .i64 t.w1, .int .i64 t.w2, .int .i64 t.regs], .int .i64 op] w (fun e w' => e = .returned (.int .i64 r) ∧ Grow w w') := by
 unfold target_Wait_m at hm
 have hk := Base.rfl (w := w)
 refine calls_of_WC (n := 13) (args := [.agg #[.int .i64 t.u0, .int .i64 t.u1, .int .i64 t.u2, .int .i64 t.w0, .int .i64 t.w1, .int .i64 t.w2, .int .i64 t.regs], .int .i64 op]) Try.func69 Z Z (Nat.le_of_ble_eq_true Z) ?_ (Own.startK hk (Own.start w))
 refine sr ?_
 refine WL.effect Z ?_
 refine (EV.boxAgg (by decide) Z Z (fun b1 => ?_))
 refine wa Z ?_
 refine nt (WC.seq (sr ?_))
 refine wq Z (QV.loadAgg ag28 Z Z Z (Own.cellsBlk 0 Z)) ?_
 obtain ⟨x2, hx3, hm4⟩ := bd_some hm; clear hm
 refine wq Z (QV.call en39 (EvAll.cons Z Z EvAll.nil) (fun w hw => have h := target_May_w w hx3 ; h)) ?_
 refine wq Z (QV.not Z Z) ?_
 refine nt ?_
 refine WC.cond Z (fun h5 => ?_) (fun h5 => ?_)
 ·skip
  have hm6 := br_t h5 hm4; clear hm4
  refine sr ?_
  refine wa Z ?_
  refine nt (WC.ret (tr ?_))
  obtain rfl := (eq_of_some hm6).symm
  refine WQ.ret1 Z Z (fun w hw => ?_)
  exact ⟨Z, Own.kgrow (fun _ x => x) hw⟩
 have hm7 := br_f h5 hm4; clear hm4
 refine sk (WQ.then (sr ?_))
 refine wm Z ?_
 obtain ⟨x8, hx9, hm10⟩ := bd_some hm7; clear hm7
 refine wq Z (QV.call en89 (EvAll.cons Z Z EvAll.nil) (fun w hw => have h := num_Class_w w hx9 ; h)) ?_
 refine wf fd28_1 Z ?_
 obtain ⟨c11, hm12⟩ := cs hm10; clear hm10
 refine wq Z (QV.indexArray ar26 Z Z Z Z c11.1 c11.2) ?_
 refine wl pl3 Z (Own.cellSym 0 Z (sel3_get (off := 3) (i := x8) c11.1 c11.2 Z Z Z) (addr_sym _ _ _)) ?_
 refine wa Z ?_
 refine nt (WC.ret ?_)
 obtain rfl := (eq_of_some hm12).symm
 refine WQ.ret1 Z Z (fun w hw => ?_)
 exact ⟨Z, Own.kgrow (fun _ x => x) hw⟩
theorem R4_May_w {t : Tgt} {r : Bool} (w : World) (hm : R4_May_m t = some r)  : Calls Try.prog 44 #[.agg #[.int .i64 t.u0, .int .i64 t.u1, .int .i64 t.u2, .int .i64 t.w0, .int .i64 t.w1, .int .i64 t.w2, .int .i64 t.regs]] w (fun e w' => e = .returned (.bool r) ∧ Grow w w') := by
 unfold R4_May_m at hm
 have hk := Base.rfl (w := w)
 refine calls_of_WC (n := 42) (args := [.agg #[.int .i64 t.u0, .int .i64 t.u1, .int .i64 t.u2, .int .i64 t.w0, .int .i64 t.w1, .int .i64 t.w2, .int .i64 t.regs]]) Try.func44 Z Z (Nat.le_of_ble_eq_true Z) ?_ (Own.startK hk (Own.start w))
 refine sr ?_
 refine WL.effect Z ?_
 refine (EV.boxAgg (by decide) Z Z (fun b1 => ?_))
 refine wa Z ?_
 refine nt (WC.seq (sr ?_))
 refine wa Z ?_
 refine nt ?_
 obtain ⟨o2, ho3, hm4⟩ := bd_some hm; clear hm; obtain ⟨n5, ho6⟩ := lp_some ho3
 refine WC.bloop1 (H2 := [blk b1 t.cells 28, kn noM w.heap.size w w]) (τ := [(1, (true, _))]) (fun (k3_1 : Int) => [(3, (true, .int .i64 k3_1))]) (fun k3_1 => []) (fun k3_1 m => iter (R4_May_L0 t) m k3_1 = some o2) (fun k3_1 => o2 = .go k3_1) 0 n5 ho6 ⟨Z, Z, trivial⟩ (fun w hw => hw.pick [0, 1] (by decide)) ?_ ?_
 ·skip
  rintro k3_1 rfl
  refine WQ.then (sr ?_)
  refine wf fd28_2 Z ?_
  refine wl pl3 Z (Own.cell 0 Z Z) ?_
  refine wq Z (QV.gtr Z Z Z Z) ?_
  refine wm Z ?_
  refine gp Z (fun hG => QV.fieldAddr fd28_2 Z Z) ?_
  refine gp Z (fun hG => QV.load pl3 Z hG (Own.cell 0 Z Z)) ?_
  refine gp Z (fun hG => QV.leq Z hG Z Z) ?_
  refine wq Z (QV.pickAnd Z Z Z (fun h => h)) ?_
  refine wa Z ?_
  refine nt (WC.ret ?_)
  obtain rfl := (eq_of_some hm4).symm
  refine WQ.ret1 Z Z (fun w hw => ?_)
  exact ⟨Z, Own.kgrow (fun _ x => x) hw⟩
 rintro k3_1 m7 hI8
 obtain ⟨m9, s10, rfl, hm11, hn12⟩ := iter_step hI8; clear hI8; unfold R4_May_L0 at hm11
 refine WC.seq (sr ?_)
 refine wm Z ?_
 refine wq Z (QV.lss Z Z Z Z) ?_
 refine nt ?_
 refine WC.cond Z (fun h13 => ?_) (fun h13 => ?_)
 ·skip
  have hm14 := br_t h13 hm11; clear hm11
  refine sk (WQ.then (WC.seq (WC.block (sr ?_))))
  refine wm Z ?_
  refine wf fd28_0 Z ?_
  obtain ⟨c15, hm16⟩ := cs hm14; clear hm14
  refine wq Z (QV.indexArray ar26 Z Z Z Z c15.1 c15.2) ?_
  refine wl pl3 Z (Own.cellSym 0 Z (sel3_get (off := 0) (i := k3_1) c15.1 c15.2 Z Z Z) (addr_sym _ _ _)) ?_
  refine wq Z (QV.lss Z Z Z Z) ?_
  refine wm Z ?_
  refine gn Z (fun hG => QV.move Z Z) ?_
  refine gn Z (fun hG => QV.fieldAddr fd28_0 Z Z) ?_
  obtain ⟨c17, hm18⟩ := cs hm16; clear hm16
  refine gn Z (fun hG => QV.indexArray ar26 Z hG Z hG (c17 hG).1 (c17 hG).2) ?_
  refine gn Z (fun hG => QV.load pl3 Z hG (Own.cellSym 0 Z (sel3_get (off := 0) (i := k3_1) (c17 hG).1 (c17 hG).2 Z Z Z) (addr_sym _ _ _))) ?_
  refine gn Z (fun hG => QV.gtr Z hG Z Z) ?_
  refine wq Z (QV.pickOr Z Z Z (fun h => notF h)) ?_
  refine wm Z ?_
  refine gn Z (fun hG => QV.move Z Z) ?_
  refine gn Z (fun hG => QV.fieldAddr fd28_1 Z Z) ?_
  obtain ⟨c19, hm20⟩ := cs hm18; clear hm18
  refine gn Z (fun hG => QV.indexArray ar26 Z hG Z hG (c19 hG).1 (c19 hG).2) ?_
  refine gn Z (fun hG => QV.load pl3 Z hG (Own.cellSym 0 Z (sel3_get (off := 3) (i := k3_1) (c19 hG).1 (c19 hG).2 Z Z Z) (addr_sym _ _ _))) ?_
  refine gn Z (fun hG => QV.lss Z hG Z Z) ?_
  refine wq Z (QV.pickOr Z Z Z (fun h => notF h)) ?_
  refine wm Z ?_
  refine gn Z (fun hG => QV.move Z Z) ?_
  refine gn Z (fun hG => QV.fieldAddr fd28_1 Z Z) ?_
  obtain ⟨c21, hm22⟩ := cs hm20; clear hm20
  refine gn Z (fun hG => QV.indexArray ar26 Z hG Z hG (c21 hG).1 (c21 hG).2) ?_
  refine gn Z (fun hG => QV.load pl3 Z hG (Own.cellSym 0 Z (sel3_get (off := 3) (i := k3_1) (c21 hG).1 (c21 hG).2 Z Z Z) (addr_sym _ _ _))) ?_
  refine gn Z (fun hG => QV.gtr Z hG Z Z) ?_
  refine wq Z (QV.pickOr Z Z Z (fun h => notF h)) ?_
  refine nt ?_
  refine WC.cond Z (fun h23 => ?_) (fun h23 => ?_)
  ·skip
   have hm24 := br_t h23 hm22; clear hm22
   refine sr ?_
   refine wa Z ?_
   refine nt (WC.ret (kr (tr (tr (kr (tr (tr ?_)))))))
   obtain rfl := up_ret hm24 hn12
   obtain rfl := (eq_of_some hm4).symm
   refine WQ.ret1 Z Z (fun w hw => ?_)
   exact ⟨Z, Own.kgrow (fun _ x => x) hw⟩
  have hm25 := br_f h23 hm22; clear hm22
  refine sk (WQ.block (WQ.then (WC.region ?_)))
  refine wm Z ?_
  obtain ⟨c26, hm27⟩ := cs hm25; clear hm25
  refine wq Z (QV.add Z Z Z Z c26) ?_
  refine wa Z ?_
  refine WL.nil ?_
  exact WQ.again1 (k3_1 + 1) m9 (up_next hm27 hn12) (Nat.lt_succ_self _) ⟨Z, Z, trivial⟩ (fun w hw => hw.pick [0, 1] (by decide))
 have hm28 := br_f h13 hm11; clear hm11
 refine WC.exit (te (te (WQ.block_exit ?_)))
 exact WQ.out1 k3_1 (up_brk hm28 hn12) ⟨Z, Z, trivial⟩ (fun w hw => hw.pick [0, 1] (by decide))
theorem R4_Wait_w {t : Tgt} {op : Int} {r : Int} (w : World) (hm : R4_Wait_m t op = some r)  : Calls Try.prog 47 #[.agg #[.int .i64 t.u0, .int .i64 t.u1, .int .i64 t.u2, .int .i64 t.w0, .int .i64 t.w1, .int .i64 t.w2, .int .i64 t.regs], .int .i64 op] w (fun e w' => e = .returned (.int .i64 r) ∧ Grow w w') := by
 unfold R4_Wait_m at hm
 have hk := Base.rfl (w := w)
 refine calls_of_WC (n := 15) (args := [.agg #[.int .i64 t.u0, .int .i64 t.u1, .int .i64 t.u2, .int .i64 t.w0, .int .i64 t.w1, .int .i64 t.w2, .int .i64 t.regs], .int .i64 op]) Try.func47 Z Z (Nat.le_of_ble_eq_true Z) ?_ (Own.startK hk (Own.start w))
 refine sr ?_
 refine WL.effect Z ?_
 refine (EV.boxAgg (by decide) Z Z (fun b1 => ?_))
 refine wa Z ?_
 refine nt (WC.seq (sr ?_))
 refine wq Z (QV.loadAgg ag28 Z Z Z (Own.cellsBlk 0 Z)) ?_
 obtain ⟨x2, hx3, hm4⟩ := bd_some hm; clear hm
 refine wq Z (QV.call en44 (EvAll.cons Z Z EvAll.nil) (fun w hw => have h := R4_May_w w hx3 ; h)) ?_
 refine wq Z (QV.not Z Z) ?_
 refine nt ?_
 refine WC.cond Z (fun h5 => ?_) (fun h5 => ?_)
 ·skip
  have hm6 := br_t h5 hm4; clear hm4
  refine sr ?_
  refine wa Z ?_
  refine nt (WC.ret (tr ?_))
  obtain rfl := (eq_of_some hm6).symm
  refine WQ.ret1 Z Z (fun w hw => ?_)
  exact ⟨Z, Own.kgrow (fun _ x => x) hw⟩
 have hm7 := br_f h5 hm4; clear hm4
 refine sk (WQ.then (sr ?_))
 refine wm Z ?_
 obtain ⟨x8, hx9, hm10⟩ := bd_some hm7; clear hm7
 refine wq Z (QV.call en45 (EvAll.cons Z Z EvAll.nil) (fun w hw => have h := R1_Class_w w hx9 ; h)) ?_
 refine wa Z ?_
 refine ns ?_
 refine wm Z ?_
 refine wf fd28_1 Z ?_
 obtain ⟨c11, hm12⟩ := cs hm10; clear hm10
 refine wq Z (QV.indexArray ar26 Z Z Z Z c11.1 c11.2) ?_
 refine wl pl3 Z (Own.cellSym 0 Z (sel3_get (off := 3) (i := x8) c11.1 c11.2 Z Z Z) (addr_sym _ _ _)) ?_
 refine wa Z ?_
 refine nt (WC.ret ?_)
 obtain rfl := (eq_of_some hm12).symm
 refine WQ.ret1 Z Z (fun w hw => ?_)
 exact ⟨Z, Own.kgrow (fun _ x => x) hw⟩
theorem loop_in_w {n_ : Int} {from_ : Int} {below : Int} {r : Bool} (w : World) (hm : loop_in_m n_ from_ below = some r)  : Calls Try.prog 67 #[.int .i64 n_, .int .i64 from_, .int .i64 below] w (fun e w' => e = .returned (.bool r) ∧ Grow w w') := by
 unfold loop_in_m at hm
 have hk := Base.rfl (w := w)
 refine calls_of_WC (n := 15) (args := [.int .i64 n_, .int .i64 from_, .int .i64 below]) Try.func67 Z Z (Nat.le_of_ble_eq_true Z) ?_ (Own.startK hk (Own.start w))
 refine sr ?_
 refine wa Z ?_
 refine ns ?_
 refine wm Z ?_
 refine wm Z ?_
 refine wq Z (QV.geq Z Z Z Z) ?_
 refine wm Z ?_
 refine gp Z (fun hG => QV.move Z Z) ?_
 refine gp Z (fun hG => QV.move Z Z) ?_
 refine gp Z (fun hG => QV.lss Z hG Z hG) ?_
 refine wq Z (QV.pickAnd Z Z Z (fun h => h)) ?_
 refine wa Z ?_
 refine nt (WC.ret ?_)
 obtain rfl := (eq_of_some hm).symm
 refine WQ.ret1 Z Z (fun w hw => ?_)
 exact ⟨Z, Own.kgrow (fun _ x => x) hw⟩
theorem loop_Uses_w {s : Stm} {r : List Rf} {K0 : World} (hm : loop_Uses_m s = some r)  (M : Nat → Prop) (w : World) (hk : Base M K0 w) (hw0 : Own M w [] w) : Calls Try.prog 66 #[.agg #[.int .i64 s.op, .int .i64 s.a.st, .int .i64 s.a.bk, .int .i64 s.b.st, .int .i64 s.b.bk, .int .i64 s.ar, .int .i64 s.sp, .int .i64 s.pl, .int .i64 s.n]] w (fun e w' => ∃ X : Value × World, e = .returned (X.1) ∧ Own M w (kn M w.heap.size K0 X.2 :: []) w' ∧ Arr X.2 X.1 2 (r.map Rf.cells)) := by
 unfold loop_Uses_m at hm
 refine calls_of_WC (n := 19) (args := [.agg #[.int .i64 s.op, .int .i64 s.a.st, .int .i64 s.a.bk, .int .i64 s.b.st, .int .i64 s.b.bk, .int .i64 s.ar, .int .i64 s.sp, .int .i64 s.pl, .int .i64 s.n]]) Try.func66 Z Z (Nat.le_of_ble_eq_true Z) ?_ (Own.startK hk hw0)
 refine sr ?_
 refine WL.effect Z ?_
 refine (EV.boxAgg (by decide) Z Z (fun b1 => ?_))
 refine wa Z ?_
 refine nt (WC.seq (WC.block (sr ?_)))
 refine wf fd81_0 Z ?_
 refine wl pl3 Z (Own.cell 0 Z Z) ?_
 refine wq Z (QV.eql Z Z Z Z) ?_
 refine wa Z ?_
 refine nt ?_
 refine WC.cond Z (fun h2 => ?_) (fun h2 => ?_)
 ·skip
  have hm3 := br_t h2 hm; clear hm
  refine sr ?_
  refine wf fd81_1 Z ?_
  refine wq Z (QV.loadAgg ag79 Z Z Z (fun w hw => (Own.cellsBlk 0 Z w hw).sub 1 2 Z)) ?_
  refine WL.effect Z ?_
  refine (EV.buildSlice (by decide) sz_76 (by decide) (by decide) (ps := [(0, .tmp 8)]) (cells := [.int .i64 s.a.st, .int .i64 s.a.bk]) (EvAll.cons Z Z EvAll.nil) (by kernel_rfl) (fun b4 => ?_))
  refine wa Z ?_
  refine nt (WC.ret (kr (tr ?_)))
  obtain rfl := (eq_of_some hm3).symm
  refine WK.of (fun w hw => hw.blkVec Rf.cells ([s.a] : List Rf) Z Rf.cells_len (Nat.le_of_ble_eq_true Z)) ?_
  refine WK.of (C' := Own M w [kn M w.heap.size K0 K0, vec (blkSlice b4 1 1) 79 2 (List.map Rf.cells [s.a]), blk b1 s.cells 81]) (fun w hw => hw.pick [2, 0, 1] (by decide)) ?_
  refine WK.freeze hk (fun k5 hle5 hr5 => ?_)
  have hA5 := vec_arr hr5
  refine WQ.ret1 Z Z (fun w hw => ?_)
  exact ⟨((blkSlice b4 1 1), k5), Z, hw.pick [0] (by decide), hA5⟩
 have hm6 := br_f h2 hm; clear hm
 refine sr ?_
 refine wf fd81_0 Z ?_
 refine wl pl3 Z (Own.cell 0 Z Z) ?_
 refine wq Z (QV.gtr Z Z Z Z) ?_
 refine wa Z ?_
 refine nt ?_
 refine WC.cond Z (fun h7 => ?_) (fun h7 => ?_)
 ·skip
  have hm8 := br_t h7 hm6; clear hm6
  refine sr ?_
  refine wf fd81_1 Z ?_
  refine wq Z (QV.loadAgg ag79 Z Z Z (fun w hw => (Own.cellsBlk 0 Z w hw).sub 1 2 Z)) ?_
  refine wf fd81_2 Z ?_
  refine wq Z (QV.loadAgg ag79 Z Z Z (fun w hw => (Own.cellsBlk 0 Z w hw).sub 3 2 Z)) ?_
  refine WL.effect Z ?_
  refine (EV.buildSlice (by decide) sz_76 (by decide) (by decide) (ps := [(0, .tmp 15), (1, .tmp 17)]) (cells := [.int .i64 s.a.st, .int .i64 s.a.bk, .int .i64 s.b.st, .int .i64 s.b.bk]) (EvAll.cons Z Z (EvAll.cons Z Z EvAll.nil)) (by kernel_rfl) (fun b9 => ?_))
  refine wa Z ?_
  refine nt (WC.ret (kr (tr ?_)))
  obtain rfl := (eq_of_some hm8).symm
  refine WK.of (fun w hw => hw.blkVec Rf.cells ([s.a, s.b] : List Rf) Z Rf.cells_len (Nat.le_of_ble_eq_true Z)) ?_
  refine WK.of (C' := Own M w [kn M w.heap.size K0 K0, vec (blkSlice b9 2 2) 79 2 (List.map Rf.cells [s.a, s.b]), blk b1 s.cells 81]) (fun w hw => hw.pick [2, 0, 1] (by decide)) ?_
  refine WK.freeze hk (fun k10 hle10 hr10 => ?_)
  have hA10 := vec_arr hr10
  refine WQ.ret1 Z Z (fun w hw => ?_)
  exact ⟨((blkSlice b9 2 2), k10), Z, hw.pick [0] (by decide), hA10⟩
 have hm11 := br_f h7 hm6; clear hm6
 refine sk (WQ.block (WQ.then (sr ?_)))
 refine wa Z ?_
 refine nt (WC.ret ?_)
 obtain rfl := (eq_of_some hm11).symm
 refine WQ.ret1 Z Z (fun w hw => ?_)
 exact ⟨(.slice none 0 0, K0), Z, hw.pick [1] (by decide), Arr.nil⟩
theorem loop_ref_w {v_l_logs : Value} {v_l_body : Value} {v_l_outs : Value} {l : Lp} {k_ : Int} {r_ : Rf} {r : Bool} (w : World) (hm : loop_ref_m l k_ r_ = some r) (h_l_logs : Arr w v_l_logs 1 (l.logs.map icell)) (h_l_body : Arr w v_l_body 9 (l.body.map Stm.cells)) (h_l_outs : Arr w v_l_outs 1 (l.outs.map icell)) : Calls Try.prog 105 #[.agg #[v_l_logs, v_l_body, v_l_outs], .int .i64 k_, .agg #[.int .i64 r_.st, .int .i64 r_.bk]] w (fun e w' => e = .returned (.bool r) ∧ Grow w w') := by
 unfold loop_ref_m at hm
 have hk := Base.rfl (w := w)
 refine calls_of_WC (n := 24) (args := [.agg #[v_l_logs, v_l_body, v_l_outs], .int .i64 k_, .agg #[.int .i64 r_.st, .int .i64 r_.bk]]) Try.func105 Z Z (Nat.le_of_ble_eq_true Z) ?_ (Own.startK hk (Own.start w))
 refine sr ?_
 refine WL.effect Z ?_
 refine (EV.boxAgg (by decide) Z Z (fun b1 => ?_))
 refine WL.effect Z ?_
 refine (EV.boxAgg (by decide) Z Z (fun b2 => ?_))
 refine wa Z ?_
 refine ns ?_
 refine wf fd25_1 Z ?_
 refine wl pl23 Z (Own.cell 1 Z Z) ?_
 refine wq Z (QV.lenS Try.underlying23 Z Z h_l_body.lenMap) ?_
 refine wa Z ?_
 refine nt (WC.seq (sr ?_))
 refine wf fd79_1 Z ?_
 refine wl pl3 Z (Own.cell 0 Z Z) ?_
 refine wq Z (QV.eql Z Z Z Z) ?_
 refine nt ?_
 refine WC.cond Z (fun h3 => ?_) (fun h3 => ?_)
 ·skip
  have hm4 := br_t h3 hm; clear hm
  refine WC.region ?_
  refine wm Z ?_
  refine wa Z ?_
  refine ns ?_
  refine wf fd79_1 Z ?_
  refine wl pl3 Z (Own.cell 0 Z Z) ?_
  obtain ⟨x5, hx6, hm7⟩ := bd_some hm4; clear hm4
  refine wq Z (QV.call en67 (EvAll.cons Z Z (EvAll.cons Z Z (EvAll.cons Z Z EvAll.nil))) (fun w hw => have h := loop_in_w w hx6 ; h)) ?_
  refine wm Z ?_
  refine gp Z (fun hG => QV.fieldAddr fd79_0 Z Z) ?_
  refine gp Z (fun hG => QV.load pl3 Z hG (Own.cell 0 Z Z)) ?_
  refine gp Z (fun hG => QV.move Z Z) ?_
  obtain ⟨x8, hx9, hm10⟩ := bdG_some hm7; clear hm7
  refine gp Z (fun hG => QV.call en67 (EvAll.cons Z hG (EvAll.cons Z Z (EvAll.cons Z hG EvAll.nil))) (fun w hw => have h := loop_in_w w (hx9 hG) ; h)) ?_
  refine wq Z (QV.pickAnd Z Z Z (fun h => h)) ?_
  refine wa Z ?_
  refine nt (WC.ret ?_)
  obtain rfl := (eq_of_some hm10).symm
  refine WQ.ret1 Z Z (fun w hw => ?_)
  exact ⟨Z, Own.kgrow (fun _ x => x) hw⟩
 have hm11 := br_f h3 hm; clear hm
 refine sk (WQ.then (sr ?_))
 refine wf fd79_1 Z ?_
 refine wl pl3 Z (Own.cell 0 Z Z) ?_
 obtain ⟨x12, hx13, hm14⟩ := bd_some hm11; clear hm11
 refine wq Z (QV.call en67 (EvAll.cons Z Z (EvAll.cons Z Z (EvAll.cons Z Z EvAll.nil))) (fun w hw => have h := loop_in_w w hx13 ; h)) ?_
 refine wm Z ?_
 refine gp Z (fun hG => QV.fieldAddr fd79_0 Z Z) ?_
 refine gp Z (fun hG => QV.load pl3 Z hG (Own.cell 0 Z Z)) ?_
 refine gp Z (fun hG => QV.move Z Z) ?_
 obtain ⟨x15, hx16, hm17⟩ := bdG_some hm14; clear hm14
 refine gp Z (fun hG => QV.call en67 (EvAll.cons Z hG (EvAll.cons Z Z (EvAll.cons Z hG EvAll.nil))) (fun w hw => have h := loop_in_w w (hx16 hG) ; h)) ?_
 refine wq Z (QV.pickAnd Z Z Z (fun h => h)) ?_
 refine wa Z ?_
 refine nt (WC.ret ?_)
 obtain rfl := (eq_of_some hm17).symm
 refine WQ.ret1 Z Z (fun w hw => ?_)
 exact ⟨Z, Own.kgrow (fun _ x => x) hw⟩
theorem loop_stmt_w {v_l_logs : Value} {v_l_body : Value} {v_l_outs : Value} {l : Lp} {k_ : Int} {r : Bool} (w : World) (hm : loop_stmt_m l k_ = some r) (h_l_logs : Arr w v_l_logs 1 (l.logs.map icell)) (h_l_body : Arr w v_l_body 9 (l.body.map Stm.cells)) (h_l_outs : Arr w v_l_outs 1 (l.outs.map icell)) : Calls Try.prog 68 #[.agg #[v_l_logs, v_l_body, v_l_outs], .int .i64 k_] w (fun e w' => e = .returned (.bool r) ∧ Grow w w') := by
 unfold loop_stmt_m at hm
 have hk := Base.rfl (w := w)
 refine calls_of_WC (n := 132) (args := [.agg #[v_l_logs, v_l_body, v_l_outs], .int .i64 k_]) Try.func68 Z Z (Nat.le_of_ble_eq_true Z) ?_ (Own.startK hk (Own.start w))
 refine sr ?_
 refine WL.effect Z ?_
 refine (EV.boxAgg (by decide) Z Z (fun b1 => ?_))
 refine wa Z ?_
 refine ns ?_
 refine wf fd25_1 Z ?_
 refine wl pl23 Z (Own.cell 0 Z Z) ?_
 refine wm Z ?_
 obtain ⟨c2, hm3⟩ := cs hm; clear hm
 obtain ⟨p4, hp5⟩ := h_l_body.lenMap.ix (sz := 9) ln_len c2
 refine wq Z (QV.indexSlice sl23 Z Z Z Z hp5) ?_
 refine wq Z (QV.loadAgg ag81 Z Z Z (fun w hw => ((Own.karr 1 Z hk h_l_body) w hw).ele hp5 c2)) ?_
 refine WL.effect Z ?_
 refine (EV.alloc (by decide) ze81 (fun b6 => ?_))
 refine WL.effect Z ?_
 refine (EV.store 0 Z Z Z Z Z Z (vs := (Stm.cells (ele l.body k_))) (show Value.cells _ = List.toArray _ from Z) sz81 (Nat.le_of_ble_eq_true Z) (one_cons Z (one_cons Z (one_cons Z (one_cons Z (one_cons Z (one_cons Z (one_cons Z (one_cons Z (one_cons Z one_nil))))))))) ?_)
 refine ns ?_
 refine wq Z (QV.build (ps := []) (cells := [.int .i64 0, .int .i64 0]) EvAll.nil (by kernel_rfl)) ?_
 refine WL.effect Z ?_
 refine (EV.alloc (by decide) ze79 (fun b7 => ?_))
 refine WL.effect Z ?_
 refine (EV.store 0 Z Z Z Z Z Z (vs := [.int .i64 0, .int .i64 0]) (show Value.cells _ = List.toArray _ from Z) sz79 (Nat.le_of_ble_eq_true Z) (one_cons Z (one_cons Z one_nil)) ?_)
 refine ns ?_
 refine wf fd81_3 Z ?_
 refine wl pl3 Z (Own.cell 1 Z Z) ?_
 refine wf fd25_0 Z ?_
 refine wl pl22 Z (Own.cell 2 Z Z) ?_
 refine wq Z (QV.lenS Try.underlying22 Z Z h_l_logs.lenMap) ?_
 obtain ⟨x8, hx9, hm10⟩ := bd_some hm3; clear hm3
 refine wq Z (QV.call en67 (EvAll.cons Z Z (EvAll.cons Z Z (EvAll.cons Z Z EvAll.nil))) (fun w hw => have h := loop_in_w w hx9 ; h)) ?_
 refine wm Z ?_
 refine gp Z (fun hG => QV.fieldAddr fd81_4 Z Z) ?_
 refine gp Z (fun hG => QV.load pl3 Z hG (Own.cell 1 Z Z)) ?_
 obtain ⟨x11, hx12, hm13⟩ := bdG_some hm10; clear hm10
 refine gp Z (fun hG => QV.call en67 (EvAll.cons Z hG (EvAll.cons Z Z (EvAll.cons Z Z EvAll.nil))) (fun w hw => have h := loop_in_w w (hx12 hG) ; h)) ?_
 refine wq Z (QV.pickAnd Z Z Z (fun h => h)) ?_
 refine wm Z ?_
 refine gp Z (fun hG => QV.fieldAddr fd81_5 Z Z) ?_
 refine gp Z (fun hG => QV.load pl3 Z hG (Own.cell 1 Z Z)) ?_
 obtain ⟨x14, hx15, hm16⟩ := bdG_some hm13; clear hm13
 refine gp Z (fun hG => QV.call en67 (EvAll.cons Z hG (EvAll.cons Z Z (EvAll.cons Z Z EvAll.nil))) (fun w hw => have h := loop_in_w w (hx15 hG) ; h)) ?_
 refine wq Z (QV.pickAnd Z Z Z (fun h => h)) ?_
 refine wa Z ?_
 refine ns ?_
 refine wf fd81_3 Z ?_
 refine wl pl3 Z (Own.cell 1 Z Z) ?_
 refine wq Z (QV.eql Z Z Z Z) ?_
 refine wm Z ?_
 refine gp Z (fun hG => QV.fieldAddr fd81_4 Z Z) ?_
 refine gp Z (fun hG => QV.load pl3 Z hG (Own.cell 1 Z Z)) ?_
 refine gp Z (fun hG => QV.eql Z hG Z Z) ?_
 refine wq Z (QV.pickAnd Z Z Z (fun h => h)) ?_
 refine wm Z ?_
 refine gp Z (fun hG => QV.fieldAddr fd81_5 Z Z) ?_
 refine gp Z (fun hG => QV.load pl3 Z hG (Own.cell 1 Z Z)) ?_
 refine gp Z (fun hG => QV.eql Z hG Z Z) ?_
 refine wq Z (QV.pickAnd Z Z Z (fun h => h)) ?_
 refine wa Z ?_
 refine nt (WC.seq (sr ?_))
 refine wq Z (QV.loadAgg ag81 Z Z Z (Own.cellsBlk 1 Z)) ?_
 refine WL.effect Z ?_
 obtain ⟨x17, hx18, hm19⟩ := bd_some hm16; clear hm16
 refine EV.of (C' := Own noM w [kn noM w.heap.size w w, blk b7 [.int .i64 0, .int .i64 0] 79, blk b6 (Stm.cells (ele l.body k_)) 81, blk b1 [v_l_logs, v_l_body, v_l_outs] 25]) (fun w hw => hw.pick [3, 0, 1, 2] (by decide)) ?_
 refine (EV.callR (X := Value × World) (R := []) (fun X => X.1) (fun X => []) (fun X => X.2) (fun X => Arr X.2 X.1 2 (x17.map Rf.cells)) hk (fun _ h => by cases h; decide) en66 (EvAll.cons Z Z EvAll.nil) (fun M w h1 h2 => have h := loop_Uses_w hx18  M w h1 h2; h) (fun X20 hF20 hle20 => ?_))
 refine wq Z (QV.lenS Try.underlying76 Z Z hF20.lenMap) ?_
 refine wm Z ?_
 refine nt ?_
 obtain ⟨o21, ho22, hm23⟩ := bd_some hm19; clear hm19; obtain ⟨n24, ho25⟩ := lp_some ho22
 refine WC.bloop1 (H2 := [kn noM w.heap.size w X20.2, blk b7 [.int .i64 0, .int .i64 0] 79, blk b6 (Stm.cells (ele l.body k_)) 81, blk b1 [v_l_logs, v_l_body, v_l_outs] 25]) (τ := [(1, (true, _)), (2, (true, _)), (5, (true, _)), (6, (true, _)), (7, (true, _)), (8, (true, _)), (47, (true, _)), (48, (true, _))]) (fun (x49_1 : Int) => [(49, (true, .int .i64 x49_1))]) (fun x49_1 => []) (fun x49_1 m => iter (loop_stmt_L0 l k_ x17) m x49_1 = some o21) (fun x49_1 => o21 = .go x49_1) 0 n24 ho25 ⟨Z, Z, Z, Z, Z, Z, Z, Z, Z, trivial⟩ (fun w hw => hw.pick [0, 1, 2, 3] (by decide)) ?_ ?_
 ·skip
  rintro x49_1 rfl
  refine WQ.then (WC.seq (WC.block (sr ?_)))
  refine wf fd81_0 Z ?_
  refine wl pl3 Z (Own.cell 2 Z Z) ?_
  refine wq Z (QV.eql Z Z Z Z) ?_
  refine wa Z ?_
  refine nt ?_
  refine WC.cond Z (fun h26 => ?_) (fun h26 => ?_)
  ·skip
   have hm27 := br_t h26 hm23; clear hm23
   refine sr ?_
   refine wm Z ?_
   refine wm Z ?_
   refine gp Z (fun hG => QV.fieldAddr fd81_1 Z Z) ?_
   refine gp Z (fun hG => QV.loadAgg ag79 Z Z hG (fun w hw => (Own.cellsBlk 2 Z w hw).sub 1 2 Z)) ?_
   refine gp Z (fun hG => QV.loadAgg ag79 Z Z Z (Own.cellsBlk 1 Z)) ?_
   refine gp Z (fun hG => QV.eqlF eq79 (ns := [((ele l.body k_).a).st, ((ele l.body k_).a).bk]) (ms := [0, 0]) Z hG Z hG Z Z) ?_
   refine wq Z (QV.pickAnd Z Z Z (fun h => h)) ?_
   refine wm Z ?_
   refine gp Z (fun hG => QV.fieldAddr fd81_2 Z Z) ?_
   refine gp Z (fun hG => QV.loadAgg ag79 Z Z hG (fun w hw => (Own.cellsBlk 2 Z w hw).sub 3 2 Z)) ?_
   refine gp Z (fun hG => QV.loadAgg ag79 Z Z Z (Own.cellsBlk 1 Z)) ?_
   refine gp Z (fun hG => QV.eqlF eq79 (ns := [((ele l.body k_).b).st, ((ele l.body k_).b).bk]) (ms := [0, 0]) Z hG Z hG Z Z) ?_
   refine wq Z (QV.pickAnd Z Z Z (fun h => h)) ?_
   refine wa Z ?_
   refine nt (WC.ret (kr (tr ?_)))
   obtain rfl := (eq_of_some hm27).symm
   refine WQ.ret1 Z Z (fun w hw => ?_)
   exact ⟨Z, Own.kgrow (fun _ x => x) hw⟩
  have hm28 := br_f h26 hm23; clear hm23
  refine sr ?_
  refine wf fd81_6 Z ?_
  refine wl pl2 Z (Own.cell 2 Z Z) ?_
  refine wq Z (QV.neq Z Z Z Z) ?_
  refine wa Z ?_
  refine nt ?_
  refine WC.cond Z (fun h29 => ?_) (fun h29 => ?_)
  ·skip
   have hm30 := br_t h29 hm28; clear hm28
   refine sr ?_
   refine wa Z ?_
   refine nt (WC.ret (kr (tr ?_)))
   obtain rfl := (eq_of_some hm30).symm
   refine WQ.ret1 Z Z (fun w hw => ?_)
   exact ⟨Z, Own.kgrow (fun _ x => x) hw⟩
  have hm31 := br_f h29 hm28; clear hm28
  refine sr ?_
  refine wf fd81_0 Z ?_
  refine wl pl3 Z (Own.cell 2 Z Z) ?_
  refine wq Z (QV.eql Z Z Z Z) ?_
  refine wa Z ?_
  refine nt ?_
  refine WC.cond Z (fun h32 => ?_) (fun h32 => ?_)
  ·skip
   have hm33 := br_t h32 hm31; clear hm31
   refine sr ?_
   refine wm Z ?_
   refine wm Z ?_
   refine gp Z (fun hG => QV.fieldAddr fd81_1 Z Z) ?_
   refine gp Z (fun hG => QV.loadAgg ag79 Z Z hG (fun w hw => (Own.cellsBlk 2 Z w hw).sub 1 2 Z)) ?_
   refine gp Z (fun hG => QV.loadAgg ag79 Z Z Z (Own.cellsBlk 1 Z)) ?_
   refine gp Z (fun hG => QV.eqlF eq79 (ns := [((ele l.body k_).a).st, ((ele l.body k_).a).bk]) (ms := [0, 0]) Z hG Z hG Z Z) ?_
   refine wq Z (QV.pickAnd Z Z Z (fun h => h)) ?_
   refine wm Z ?_
   refine gp Z (fun hG => QV.fieldAddr fd81_2 Z Z) ?_
   refine gp Z (fun hG => QV.loadAgg ag79 Z Z hG (fun w hw => (Own.cellsBlk 2 Z w hw).sub 3 2 Z)) ?_
   refine gp Z (fun hG => QV.loadAgg ag79 Z Z Z (Own.cellsBlk 1 Z)) ?_
   refine gp Z (fun hG => QV.eqlF eq79 (ns := [((ele l.body k_).b).st, ((ele l.body k_).b).bk]) (ms := [0, 0]) Z hG Z hG Z Z) ?_
   refine wq Z (QV.pickAnd Z Z Z (fun h => h)) ?_
   refine wa Z ?_
   refine nt (WC.ret (kr (tr ?_)))
   obtain rfl := (eq_of_some hm33).symm
   refine WQ.ret1 Z Z (fun w hw => ?_)
   exact ⟨Z, Own.kgrow (fun _ x => x) hw⟩
  have hm34 := br_f h32 hm31; clear hm31
  refine sr ?_
  refine wf fd81_0 Z ?_
  refine wl pl3 Z (Own.cell 2 Z Z) ?_
  refine wq Z (QV.eql Z Z Z Z) ?_
  refine wa Z ?_
  refine nt ?_
  refine WC.cond Z (fun h35 => ?_) (fun h35 => ?_)
  ·skip
   have hm36 := br_t h35 hm34; clear hm34
   refine sr ?_
   refine wm Z ?_
   refine wm Z ?_
   refine gp Z (fun hG => QV.fieldAddr fd81_1 Z Z) ?_
   refine gp Z (fun hG => QV.loadAgg ag79 Z Z hG (fun w hw => (Own.cellsBlk 2 Z w hw).sub 1 2 Z)) ?_
   refine gp Z (fun hG => QV.loadAgg ag79 Z Z Z (Own.cellsBlk 1 Z)) ?_
   refine gp Z (fun hG => QV.eqlF eq79 (ns := [((ele l.body k_).a).st, ((ele l.body k_).a).bk]) (ms := [0, 0]) Z hG Z hG Z Z) ?_
   refine wq Z (QV.pickAnd Z Z Z (fun h => h)) ?_
   refine wm Z ?_
   refine gp Z (fun hG => QV.fieldAddr fd81_2 Z Z) ?_
   refine gp Z (fun hG => QV.loadAgg ag79 Z Z hG (fun w hw => (Own.cellsBlk 2 Z w hw).sub 3 2 Z)) ?_
   refine gp Z (fun hG => QV.loadAgg ag79 Z Z Z (Own.cellsBlk 1 Z)) ?_
   refine gp Z (fun hG => QV.eqlF eq79 (ns := [((ele l.body k_).b).st, ((ele l.body k_).b).bk]) (ms := [0, 0]) Z hG Z hG Z Z) ?_
   refine wq Z (QV.pickAnd Z Z Z (fun h => h)) ?_
   refine wa Z ?_
   refine nt (WC.ret (kr (tr ?_)))
   obtain rfl := (eq_of_some hm36).symm
   refine WQ.ret1 Z Z (fun w hw => ?_)
   exact ⟨Z, Own.kgrow (fun _ x => x) hw⟩
  have hm37 := br_f h35 hm34; clear hm34
  refine sr ?_
  refine wf fd81_0 Z ?_
  refine wl pl3 Z (Own.cell 2 Z Z) ?_
  refine wq Z (QV.eql Z Z Z Z) ?_
  refine wa Z ?_
  refine nt ?_
  refine WC.cond Z (fun h38 => ?_) (fun h38 => ?_)
  ·skip
   have hm39 := br_t h38 hm37; clear hm37
   refine sr ?_
   refine wm Z ?_
   refine wm Z ?_
   refine gp Z (fun hG => QV.fieldAddr fd81_2 Z Z) ?_
   refine gp Z (fun hG => QV.loadAgg ag79 Z Z hG (fun w hw => (Own.cellsBlk 2 Z w hw).sub 3 2 Z)) ?_
   refine gp Z (fun hG => QV.loadAgg ag79 Z Z Z (Own.cellsBlk 1 Z)) ?_
   refine gp Z (fun hG => QV.eqlF eq79 (ns := [((ele l.body k_).b).st, ((ele l.body k_).b).bk]) (ms := [0, 0]) Z hG Z hG Z Z) ?_
   refine wq Z (QV.pickAnd Z Z Z (fun h => h)) ?_
   refine wa Z ?_
   refine nt (WC.ret (kr (tr ?_)))
   obtain rfl := (eq_of_some hm39).symm
   refine WQ.ret1 Z Z (fun w hw => ?_)
   exact ⟨Z, Own.kgrow (fun _ x => x) hw⟩
  have hm40 := br_f h38 hm37; clear hm37
  refine sk (WQ.block (WQ.then (sr ?_)))
  refine wm Z ?_
  refine wm Z ?_
  refine gp Z (fun hG => QV.fieldAddr fd81_0 Z Z) ?_
  refine gp Z (fun hG => QV.load pl3 Z hG (Own.cell 2 Z Z)) ?_
  refine gp Z (fun hG => QV.subW Z hG Z Z) ?_
  obtain ⟨x41, hx42, hm43⟩ := bdG_some hm40; clear hm40
  refine gp Z (fun hG => QV.call en67 (EvAll.cons Z hG (EvAll.cons Z Z (EvAll.cons Z Z EvAll.nil))) (fun w hw => have h := loop_in_w w (hx42 hG) ; h)) ?_
  refine wq Z (QV.pickAnd Z Z Z (fun h => h)) ?_
  refine wa Z ?_
  refine nt (WC.ret ?_)
  obtain rfl := (eq_of_some hm43).symm
  refine WQ.ret1 Z Z (fun w hw => ?_)
  exact ⟨Z, Own.kgrow (fun _ x => x) hw⟩
 rintro x49_1 m44 hI45
 obtain ⟨m46, s47, rfl, hm48, hn49⟩ := iter_step hI45; clear hI45; unfold loop_stmt_L0 at hm48
 refine sr ?_
 refine wq Z (QV.lss Z Z Z Z) ?_
 refine nt (WC.seq ?_)
 refine WC.cond Z (fun h50 => ?_) (fun h50 => ?_)
 ·skip
  have hm51 := br_t h50 hm48; clear hm48
  refine sk (WQ.then (WC.seq (WC.block (sr ?_))))
  obtain ⟨c52, hm53⟩ := cs hm51; clear hm51
  obtain ⟨p54, hp55⟩ := hF20.lenMap.ix (sz := 2) ln_len c52
  refine wq Z (QV.indexSlice sl76 Z Z Z Z hp55) ?_
  refine wq Z (QV.loadAgg ag79 Z Z Z (fun w hw => ((Own.karr 0 Z hk hF20) w hw).ele hp55 c52)) ?_
  refine WL.effect Z ?_
  refine (EV.alloc (by decide) ze79 (fun b56 => ?_))
  refine WL.effect Z ?_
  refine (EV.store 0 Z Z Z Z Z Z (vs := [.int .i64 ((ele x17 x49_1).st), .int .i64 ((ele x17 x49_1).bk)]) (show Value.cells _ = List.toArray _ from Z) sz79 (Nat.le_of_ble_eq_true Z) (one_cons Z (one_cons Z one_nil)) ?_)
  refine ns ?_
  refine wq Z (QV.loadAgg ag25 Z Z Z (Own.cellsBlk 4 Z)) ?_
  refine wm Z ?_
  refine wq Z (QV.loadAgg ag79 Z Z Z (Own.cellsBlk 0 Z)) ?_
  obtain ⟨x57, hx58, hm59⟩ := bd_some hm53; clear hm53
  refine wq Z (QV.call en105 (EvAll.cons Z Z (EvAll.cons Z Z (EvAll.cons Z Z EvAll.nil))) (fun w hw => have h := loop_ref_w w hx58 ((Own.karr 1 Z hk (h_l_logs.le hle20)) w hw) ((Own.karr 1 Z hk (h_l_body.le hle20)) w hw) ((Own.karr 1 Z hk (h_l_outs.le hle20)) w hw); h)) ?_
  refine wq Z (QV.not Z Z) ?_
  refine nt ?_
  refine WC.cond Z (fun h60 => ?_) (fun h60 => ?_)
  ·skip
   have hm61 := br_t h60 hm59; clear hm59
   refine sr ?_
   refine wa Z ?_
   refine nt (WC.ret (kr (tr (tr (kr (tr (tr ?_)))))))
   obtain rfl := up_ret hm61 hn49
   obtain rfl := (eq_of_some hm23).symm
   refine WQ.ret1 Z Z (fun w hw => ?_)
   exact ⟨Z, Own.kgrow (fun _ x => x) hw⟩
  have hm62 := br_f h60 hm59; clear hm59
  refine sk (WQ.block (WQ.then (WC.region ?_)))
  obtain ⟨c63, hm64⟩ := cs hm62; clear hm62
  refine wq Z (QV.add Z Z Z Z c63) ?_
  refine wm Z ?_
  refine WL.nil ?_
  exact WQ.again1 (x49_1 + 1) m46 (up_next hm64 hn49) (Nat.lt_succ_self _) ⟨Z, Z, Z, Z, Z, Z, Z, Z, Z, trivial⟩ (fun w hw => hw.pick [1, 2, 3, 4] (by decide))
 have hm65 := br_f h50 hm48; clear hm48
 refine WC.exit (te (te (WQ.block_exit ?_)))
 exact WQ.out1 x49_1 (up_brk hm65 hn49) ⟨Z, Z, Z, Z, Z, Z, Z, Z, Z, trivial⟩ (fun w hw => hw.pick [0, 1, 2, 3] (by decide))
theorem loop_May_w {v_l_logs : Value} {v_l_body : Value} {v_l_outs : Value} {l : Lp} {r : Bool} (w : World) (hm : loop_May_m l = some r) (h_l_logs : Arr w v_l_logs 1 (l.logs.map icell)) (h_l_body : Arr w v_l_body 9 (l.body.map Stm.cells)) (h_l_outs : Arr w v_l_outs 1 (l.outs.map icell)) : Calls Try.prog 38 #[.agg #[v_l_logs, v_l_body, v_l_outs]] w (fun e w' => e = .returned (.bool r) ∧ Grow w w') := by
 unfold loop_May_m at hm
 have hk := Base.rfl (w := w)
 refine calls_of_WC (n := 64) (args := [.agg #[v_l_logs, v_l_body, v_l_outs]]) Try.func38 Z Z (Nat.le_of_ble_eq_true Z) ?_ (Own.startK hk (Own.start w))
 refine sr ?_
 refine WL.effect Z ?_
 refine (EV.boxAgg (by decide) Z Z (fun b1 => ?_))
 refine wa Z ?_
 refine nt (WC.seq (sr ?_))
 refine wf fd25_0 Z ?_
 refine wl pl22 Z (Own.cell 0 Z Z) ?_
 refine wq Z (QV.lenS Try.underlying22 Z Z h_l_logs.lenMap) ?_
 refine wm Z ?_
 refine nt ?_
 obtain ⟨o2, ho3, hm4⟩ := bd_some hm; clear hm; obtain ⟨n5, ho6⟩ := lp_some ho3
 refine WC.bloop1 (H2 := [blk b1 [v_l_logs, v_l_body, v_l_outs] 25, kn noM w.heap.size w w]) (τ := [(1, (true, _)), (10, (true, _)), (11, (true, _))]) (fun (x12_1 : Int) => [(12, (true, .int .i64 x12_1))]) (fun x12_1 => []) (fun x12_1 m => iter (loop_May_L0 l) m x12_1 = some o2) (fun x12_1 => o2 = .go x12_1) 0 n5 ho6 ⟨Z, Z, Z, Z, trivial⟩ (fun w hw => hw.pick [0, 1] (by decide)) ?_ ?_
 ·skip
  rintro x12_1 rfl
  refine WQ.then (sr ?_)
  refine wa Z ?_
  refine nt (WC.seq (sr ?_))
  refine wf fd25_2 Z ?_
  refine wl pl22 Z (Own.cell 0 Z Z) ?_
  refine wq Z (QV.lenS Try.underlying22 Z Z h_l_outs.lenMap) ?_
  refine wm Z ?_
  refine nt ?_
  obtain ⟨o7, ho8, hm9⟩ := bd_some hm4; clear hm4; obtain ⟨n10, ho11⟩ := lp_some ho8
  refine WC.bloop2 (H2 := [blk b1 [v_l_logs, v_l_body, v_l_outs] 25, kn noM w.heap.size w w]) (τ := [(1, (true, _)), (21, (true, _)), (22, (true, _))]) (fun (last5_2 : Int) (x23_2 : Int) => [(5, (true, .int .i64 last5_2)), (23, (true, .int .i64 x23_2))]) (fun last5_2 x23_2 => []) (fun last5_2 x23_2 m => iter (loop_May_L2 l) m (last5_2, x23_2) = some o7) (fun last5_2 x23_2 => o7 = .go (last5_2, x23_2)) (-1) 0 n10 ho11 ⟨Z, Z, Z, Z, Z, trivial⟩ (fun w hw => hw.pick [0, 1] (by decide)) ?_ ?_
  ·skip
   rintro last5_2 x23_2 rfl
   refine WQ.then (WC.seq (sr ?_))
   refine wf fd25_1 Z ?_
   refine wl pl23 Z (Own.cell 0 Z Z) ?_
   refine wq Z (QV.lenS Try.underlying23 Z Z h_l_body.lenMap) ?_
   refine wm Z ?_
   refine nt ?_
   obtain ⟨o12, ho13, hm14⟩ := bd_some hm9; clear hm9; obtain ⟨n15, ho16⟩ := lp_some ho13
   refine WC.bloop1 (H2 := [blk b1 [v_l_logs, v_l_body, v_l_outs] 25, kn noM w.heap.size w w]) (τ := [(1, (true, _)), (39, (true, _))]) (fun (x40_3 : Int) => [(40, (true, .int .i64 x40_3))]) (fun x40_3 => []) (fun x40_3 m => iter (loop_May_L4 l) m x40_3 = some o12) (fun x40_3 => o12 = .go x40_3) 0 n15 ho16 ⟨Z, Z, Z, trivial⟩ (fun w hw => hw.pick [0, 1] (by decide)) ?_ ?_
   ·skip
    rintro x40_3 rfl
    refine WQ.then (sr ?_)
    refine wf fd25_0 Z ?_
    refine wl pl22 Z (Own.cell 0 Z Z) ?_
    refine wq Z (QV.lenS Try.underlying22 Z Z h_l_logs.lenMap) ?_
    refine wq Z (QV.leq Z Z Z Z) ?_
    refine wm Z ?_
    refine gp Z (fun hG => QV.fieldAddr fd25_1 Z Z) ?_
    refine gp Z (fun hG => QV.load pl23 Z hG (Own.cell 0 Z Z)) ?_
    refine gp Z (fun hG => QV.lenS Try.underlying23 Z hG h_l_body.lenMap) ?_
    refine gp Z (fun hG => QV.gtr Z hG Z Z) ?_
    refine wq Z (QV.pickAnd Z Z Z (fun h => h)) ?_
    refine wa Z ?_
    refine nt (WC.ret ?_)
    obtain rfl := (eq_of_some hm14).symm
    refine WQ.ret1 Z Z (fun w hw => ?_)
    exact ⟨Z, Own.kgrow (fun _ x => x) hw⟩
   rintro x40_3 m17 hI18
   obtain ⟨m19, s20, rfl, hm21, hn22⟩ := iter_step hI18; clear hI18; unfold loop_May_L4 at hm21
   refine sr ?_
   refine wq Z (QV.lss Z Z Z Z) ?_
   refine nt (WC.seq ?_)
   refine WC.cond Z (fun h23 => ?_) (fun h23 => ?_)
   ·skip
    have hm24 := br_t h23 hm21; clear hm21
    refine sk (WQ.then (WC.seq (WC.block (sr ?_))))
    refine wm Z ?_
    refine wa Z ?_
    refine ns ?_
    refine wf fd25_1 Z ?_
    refine wl pl23 Z (Own.cell 0 Z Z) ?_
    refine wq Z (QV.lenS Try.underlying23 Z Z h_l_body.lenMap) ?_
    refine wq Z (QV.gtr Z Z Z Z) ?_
    refine wm Z ?_
    refine gn Z (fun hG => QV.loadAgg ag25 Z Z Z (Own.cellsBlk 0 Z)) ?_
    refine gn Z (fun hG => QV.move Z Z) ?_
    obtain ⟨x25, hx26, hm27⟩ := bdG_some hm24; clear hm24
    refine gn Z (fun hG => QV.call en68 (EvAll.cons Z hG (EvAll.cons Z hG EvAll.nil)) (fun w hw => have h := loop_stmt_w w (hx26 hG) ((Own.karr 1 Z hk h_l_logs) w hw) ((Own.karr 1 Z hk h_l_body) w hw) ((Own.karr 1 Z hk h_l_outs) w hw); h)) ?_
    refine gn Z (fun hG => QV.not Z hG) ?_
    refine wq Z (QV.pickOr Z Z Z (fun h => notF h)) ?_
    refine nt ?_
    refine WC.cond Z (fun h28 => ?_) (fun h28 => ?_)
    ·skip
     have hm29 := br_t h28 hm27; clear hm27
     refine sr ?_
     refine wa Z ?_
     refine nt (WC.ret (kr (tr (tr (kr (tr (tr ?_)))))))
     obtain rfl := up_ret hm29 hn22
     obtain rfl := (eq_of_some hm14).symm
     refine WQ.ret1 Z Z (fun w hw => ?_)
     exact ⟨Z, Own.kgrow (fun _ x => x) hw⟩
    have hm30 := br_f h28 hm27; clear hm27
    refine sk (WQ.block (WQ.then (WC.region ?_)))
    obtain ⟨c31, hm32⟩ := cs hm30; clear hm30
    refine wq Z (QV.add Z Z Z Z c31) ?_
    refine wm Z ?_
    refine WL.nil ?_
    exact WQ.again1 (x40_3 + 1) m19 (up_next hm32 hn22) (Nat.lt_succ_self _) ⟨Z, Z, Z, trivial⟩ (fun w hw => hw.pick [0, 1] (by decide))
   have hm33 := br_f h23 hm21; clear hm21
   refine WC.exit (te (te (WQ.block_exit ?_)))
   exact WQ.out1 x40_3 (up_brk hm33 hn22) ⟨Z, Z, Z, trivial⟩ (fun w hw => hw.pick [0, 1] (by decide))
  rintro last5_2 x23_2 m34 hI35
  obtain ⟨m36, s37, rfl, hm38, hn39⟩ := iter_step hI35; clear hI35; unfold loop_May_L2 at hm38; simp only at hm38
  refine sr ?_
  refine wq Z (QV.lss Z Z Z Z) ?_
  refine nt (WC.seq ?_)
  refine WC.cond Z (fun h40 => ?_) (fun h40 => ?_)
  ·skip
   have hm41 := br_t h40 hm38; clear hm38
   refine sk (WQ.then (WC.seq (WC.block (sr ?_))))
   obtain ⟨c42, hm43⟩ := cs hm41; clear hm41
   obtain ⟨p44, hp45⟩ := h_l_outs.lenMap.ix (sz := 1) ln_len c42
   refine wq Z (QV.indexSlice sl22 Z Z Z Z hp45) ?_
   refine wl pl3 Z (fun w hw => CellsAt.one 0 (((Own.karr 1 Z hk h_l_outs) w hw).ele hp45 c42) Z) ?_
   refine wa Z ?_
   refine nt (WC.seq (sr ?_))
   refine wm Z ?_
   refine wm Z ?_
   obtain ⟨c46, hm47⟩ := cs hm43; clear hm43
   refine wq Z (QV.add Z Z Z Z c46) ?_
   refine wf fd25_1 Z ?_
   refine wl pl23 Z (Own.cell 0 Z Z) ?_
   refine wq Z (QV.lenS Try.underlying23 Z Z h_l_body.lenMap) ?_
   obtain ⟨x48, hx49, hm50⟩ := bd_some hm47; clear hm47
   refine wq Z (QV.call en67 (EvAll.cons Z Z (EvAll.cons Z Z (EvAll.cons Z Z EvAll.nil))) (fun w hw => have h := loop_in_w w hx49 ; h)) ?_
   refine wq Z (QV.not Z Z) ?_
   refine nt ?_
   refine WC.cond Z (fun h51 => ?_) (fun h51 => ?_)
   ·skip
    have hm52 := br_t h51 hm50; clear hm50
    refine sr ?_
    refine wa Z ?_
    refine nt (WC.ret (tr (kr (tr (tr (kr (tr (tr ?_))))))))
    obtain rfl := up_ret hm52 hn39
    obtain rfl := (eq_of_some hm9).symm
    refine WQ.ret1 Z Z (fun w hw => ?_)
    exact ⟨Z, Own.kgrow (fun _ x => x) hw⟩
   have hm53 := br_f h51 hm50; clear hm50
   refine sk (WQ.then (WC.region ?_))
   refine wm Z ?_
   refine wa Z ?_
   refine WL.nil (WQ.block (WQ.then (WC.region ?_)))
   obtain ⟨c54, hm55⟩ := cs hm53; clear hm53
   refine wq Z (QV.add Z Z Z Z c54) ?_
   refine wm Z ?_
   refine WL.nil ?_
   exact WQ.again2 (ele l.outs x23_2) (x23_2 + 1) m36 (up_next hm55 hn39) (Nat.lt_succ_self _) ⟨Z, Z, Z, Z, Z, trivial⟩ (fun w hw => hw.pick [0, 1] (by decide))
  have hm56 := br_f h40 hm38; clear hm38
  refine WC.exit (te (te (WQ.block_exit ?_)))
  exact WQ.out2 last5_2 x23_2 (up_brk hm56 hn39) ⟨Z, Z, Z, Z, Z, trivial⟩ (fun w hw => hw.pick [0, 1] (by decide))
 rintro x12_1 m57 hI58
 obtain ⟨m59, s60, rfl, hm61, hn62⟩ := iter_step hI58; clear hI58; unfold loop_May_L0 at hm61
 refine sr ?_
 refine wq Z (QV.lss Z Z Z Z) ?_
 refine nt (WC.seq ?_)
 refine WC.cond Z (fun h63 => ?_) (fun h63 => ?_)
 ·skip
  have hm64 := br_t h63 hm61; clear hm61
  refine sk (WQ.then (WC.seq (WC.block (sr ?_))))
  obtain ⟨c65, hm66⟩ := cs hm64; clear hm64
  obtain ⟨p67, hp68⟩ := h_l_logs.lenMap.ix (sz := 1) ln_len c65
  refine wq Z (QV.indexSlice sl22 Z Z Z Z hp68) ?_
  refine wl pl3 Z (fun w hw => CellsAt.one 0 (((Own.karr 1 Z hk h_l_logs) w hw).ele hp68 c65) Z) ?_
  refine wa Z ?_
  refine ns ?_
  refine wm Z ?_
  obtain ⟨x69, hx70, hm71⟩ := bd_some hm66; clear hm66
  refine wq Z (QV.call en67 (EvAll.cons Z Z (EvAll.cons Z Z (EvAll.cons Z Z EvAll.nil))) (fun w hw => have h := loop_in_w w hx70 ; h)) ?_
  refine wq Z (QV.not Z Z) ?_
  refine nt ?_
  refine WC.cond Z (fun h72 => ?_) (fun h72 => ?_)
  ·skip
   have hm73 := br_t h72 hm71; clear hm71
   refine sr ?_
   refine wa Z ?_
   refine nt (WC.ret (kr (tr (tr (kr (tr (tr ?_)))))))
   obtain rfl := up_ret hm73 hn62
   obtain rfl := (eq_of_some hm4).symm
   refine WQ.ret1 Z Z (fun w hw => ?_)
   exact ⟨Z, Own.kgrow (fun _ x => x) hw⟩
  have hm74 := br_f h72 hm71; clear hm71
  refine sk (WQ.block (WQ.then (WC.region ?_)))
  obtain ⟨c75, hm76⟩ := cs hm74; clear hm74
  refine wq Z (QV.add Z Z Z Z c75) ?_
  refine wm Z ?_
  refine WL.nil ?_
  exact WQ.again1 (x12_1 + 1) m59 (up_next hm76 hn62) (Nat.lt_succ_self _) ⟨Z, Z, Z, Z, trivial⟩ (fun w hw => hw.pick [0, 1] (by decide))
 have hm77 := br_f h63 hm61; clear hm61
 refine WC.exit (te (te (WQ.block_exit ?_)))
 exact WQ.out1 x12_1 (up_brk hm77 hn62) ⟨Z, Z, Z, Z, trivial⟩ (fun w hw => hw.pick [0, 1] (by decide))
theorem R2_Within_w {n_ : Int} {least : Int} {most : Int} {r : Bool} (w : World) (hm : R2_Within_m n_ least most = some r)  : Calls Try.prog 76 #[.int .i64 n_, .int .i64 least, .int .i64 most] w (fun e w' => e = .returned (.bool r) ∧ Grow w w') := by
 unfold R2_Within_m at hm
 have hk := Base.rfl (w := w)
 refine calls_of_WC (n := 15) (args := [.int .i64 n_, .int .i64 least, .int .i64 most]) Try.func76 Z Z (Nat.le_of_ble_eq_true Z) ?_ (Own.startK hk (Own.start w))
 refine sr ?_
 refine wa Z ?_
 refine ns ?_
 refine wm Z ?_
 refine wm Z ?_
 refine wq Z (QV.geq Z Z Z Z) ?_
 refine wm Z ?_
 refine gp Z (fun hG => QV.move Z Z) ?_
 refine gp Z (fun hG => QV.move Z Z) ?_
 refine gp Z (fun hG => QV.leq Z hG Z hG) ?_
 refine wq Z (QV.pickAnd Z Z Z (fun h => h)) ?_
 refine wa Z ?_
 refine nt (WC.ret ?_)
 obtain rfl := (eq_of_some hm).symm
 refine WQ.ret1 Z Z (fun w hw => ?_)
 exact ⟨Z, Own.kgrow (fun _ x => x) hw⟩
theorem R2_Uses_w {s : Stm} {r : List Rf} {K0 : World} (hm : R2_Uses_m s = some r)  (M : Nat → Prop) (w : World) (hk : Base M K0 w) (hw0 : Own M w [] w) : Calls Try.prog 30 #[.agg #[.int .i64 s.op, .int .i64 s.a.st, .int .i64 s.a.bk, .int .i64 s.b.st, .int .i64 s.b.bk, .int .i64 s.ar, .int .i64 s.sp, .int .i64 s.pl, .int .i64 s.n]] w (fun e w' => ∃ X : Value × World, e = .returned (X.1) ∧ Own M w (kn M w.heap.size K0 X.2 :: []) w' ∧ Arr X.2 X.1 2 (r.map Rf.cells)) := by
 unfold R2_Uses_m at hm
 refine calls_of_WC (n := 17) (args := [.agg #[.int .i64 s.op, .int .i64 s.a.st, .int .i64 s.a.bk, .int .i64 s.b.st, .int .i64 s.b.bk, .int .i64 s.ar, .int .i64 s.sp, .int .i64 s.pl, .int .i64 s.n]]) Try.func30 Z Z (Nat.le_of_ble_eq_true Z) ?_ (Own.startK hk hw0)
 refine sr ?_
 refine WL.effect Z ?_
 refine (EV.boxAgg (by decide) Z Z (fun b1 => ?_))
 refine wa Z ?_
 refine nt (WC.seq (sr ?_))
 refine wf fd81_0 Z ?_
 refine wl pl3 Z (Own.cell 0 Z Z) ?_
 refine wq Z (QV.eql Z Z Z Z) ?_
 refine nt ?_
 refine WC.cond Z (fun h2 => ?_) (fun h2 => ?_)
 ·skip
  have hm3 := br_t h2 hm; clear hm
  refine sr ?_
  refine wf fd81_1 Z ?_
  refine wq Z (QV.loadAgg ag79 Z Z Z (fun w hw => (Own.cellsBlk 0 Z w hw).sub 1 2 Z)) ?_
  refine WL.effect Z ?_
  refine (EV.buildSlice (by decide) sz_76 (by decide) (by decide) (ps := [(0, .tmp 7)]) (cells := [.int .i64 s.a.st, .int .i64 s.a.bk]) (EvAll.cons Z Z EvAll.nil) (by kernel_rfl) (fun b4 => ?_))
  refine wa Z ?_
  refine nt (WC.ret (tr ?_))
  obtain rfl := (eq_of_some hm3).symm
  refine WK.of (fun w hw => hw.blkVec Rf.cells ([s.a] : List Rf) Z Rf.cells_len (Nat.le_of_ble_eq_true Z)) ?_
  refine WK.of (C' := Own M w [kn M w.heap.size K0 K0, vec (blkSlice b4 1 1) 79 2 (List.map Rf.cells [s.a]), blk b1 s.cells 81]) (fun w hw => hw.pick [2, 0, 1] (by decide)) ?_
  refine WK.freeze hk (fun k5 hle5 hr5 => ?_)
  have hA5 := vec_arr hr5
  refine WQ.ret1 Z Z (fun w hw => ?_)
  exact ⟨((blkSlice b4 1 1), k5), Z, hw.pick [0] (by decide), hA5⟩
 have hm6 := br_f h2 hm; clear hm
 refine sk (WQ.then (WC.seq (sr ?_)))
 refine wf fd81_0 Z ?_
 refine wl pl3 Z (Own.cell 0 Z Z) ?_
 refine wq Z (QV.gtr Z Z Z Z) ?_
 refine nt ?_
 refine WC.cond Z (fun h7 => ?_) (fun h7 => ?_)
 ·skip
  have hm8 := br_t h7 hm6; clear hm6
  refine sr ?_
  refine wf fd81_1 Z ?_
  refine wq Z (QV.loadAgg ag79 Z Z Z (fun w hw => (Own.cellsBlk 0 Z w hw).sub 1 2 Z)) ?_
  refine wf fd81_2 Z ?_
  refine wq Z (QV.loadAgg ag79 Z Z Z (fun w hw => (Own.cellsBlk 0 Z w hw).sub 3 2 Z)) ?_
  refine WL.effect Z ?_
  refine (EV.buildSlice (by decide) sz_76 (by decide) (by decide) (ps := [(0, .tmp 13), (1, .tmp 15)]) (cells := [.int .i64 s.a.st, .int .i64 s.a.bk, .int .i64 s.b.st, .int .i64 s.b.bk]) (EvAll.cons Z Z (EvAll.cons Z Z EvAll.nil)) (by kernel_rfl) (fun b9 => ?_))
  refine wa Z ?_
  refine nt (WC.ret (tr ?_))
  obtain rfl := (eq_of_some hm8).symm
  refine WK.of (fun w hw => hw.blkVec Rf.cells ([s.a, s.b] : List Rf) Z Rf.cells_len (Nat.le_of_ble_eq_true Z)) ?_
  refine WK.of (C' := Own M w [kn M w.heap.size K0 K0, vec (blkSlice b9 2 2) 79 2 (List.map Rf.cells [s.a, s.b]), blk b1 s.cells 81]) (fun w hw => hw.pick [2, 0, 1] (by decide)) ?_
  refine WK.freeze hk (fun k10 hle10 hr10 => ?_)
  have hA10 := vec_arr hr10
  refine WQ.ret1 Z Z (fun w hw => ?_)
  exact ⟨((blkSlice b9 2 2), k10), Z, hw.pick [0] (by decide), hA10⟩
 have hm11 := br_f h7 hm6; clear hm6
 refine sk (WQ.then (sr ?_))
 refine wa Z ?_
 refine nt (WC.ret ?_)
 obtain rfl := (eq_of_some hm11).symm
 refine WQ.ret1 Z Z (fun w hw => ?_)
 exact ⟨(.slice none 0 0, K0), Z, hw.pick [1] (by decide), Arr.nil⟩
theorem R2_stmt_w {v_l_logs : Value} {v_l_body : Value} {v_l_outs : Value} {l : Lp} {k_ : Int} {r : Bool} (w : World) (hm : R2_stmt_m l k_ = some r) (h_l_logs : Arr w v_l_logs 1 (l.logs.map icell)) (h_l_body : Arr w v_l_body 9 (l.body.map Stm.cells)) (h_l_outs : Arr w v_l_outs 1 (l.outs.map icell)) : Calls Try.prog 77 #[.agg #[v_l_logs, v_l_body, v_l_outs], .int .i64 k_] w (fun e w' => e = .returned (.bool r) ∧ Grow w w') := by
 unfold R2_stmt_m at hm
 have hk := Base.rfl (w := w)
 refine calls_of_WC (n := 142) (args := [.agg #[v_l_logs, v_l_body, v_l_outs], .int .i64 k_]) Try.func77 Z Z (Nat.le_of_ble_eq_true Z) ?_ (Own.startK hk (Own.start w))
 refine sr ?_
 refine WL.effect Z ?_
 refine (EV.boxAgg (by decide) Z Z (fun b1 => ?_))
 refine wa Z ?_
 refine ns ?_
 refine wf fd25_1 Z ?_
 refine wl pl23 Z (Own.cell 0 Z Z) ?_
 refine wm Z ?_
 obtain ⟨c2, hm3⟩ := cs hm; clear hm
 obtain ⟨p4, hp5⟩ := h_l_body.lenMap.ix (sz := 9) ln_len c2
 refine wq Z (QV.indexSlice sl23 Z Z Z Z hp5) ?_
 refine wq Z (QV.loadAgg ag81 Z Z Z (fun w hw => ((Own.karr 1 Z hk h_l_body) w hw).ele hp5 c2)) ?_
 refine WL.effect Z ?_
 refine (EV.alloc (by decide) ze81 (fun b6 => ?_))
 refine WL.effect Z ?_
 refine (EV.store 0 Z Z Z Z Z Z (vs := (Stm.cells (ele l.body k_))) (show Value.cells _ = List.toArray _ from Z) sz81 (Nat.le_of_ble_eq_true Z) (one_cons Z (one_cons Z (one_cons Z (one_cons Z (one_cons Z (one_cons Z (one_cons Z (one_cons Z (one_cons Z one_nil))))))))) ?_)
 refine ns ?_
 refine wq Z (QV.loadAgg ag81 Z Z Z (Own.cellsBlk 0 Z)) ?_
 refine WL.effect Z ?_
 obtain ⟨x7, hx8, hm9⟩ := bd_some hm3; clear hm3
 refine EV.of (C' := Own noM w [kn noM w.heap.size w w, blk b6 (Stm.cells (ele l.body k_)) 81, blk b1 [v_l_logs, v_l_body, v_l_outs] 25]) (fun w hw => hw.pick [2, 0, 1] (by decide)) ?_
 refine (EV.callR (X := Value × World) (R := []) (fun X => X.1) (fun X => []) (fun X => X.2) (fun X => Arr X.2 X.1 2 (x7.map Rf.cells)) hk (fun _ h => by cases h; decide) en30 (EvAll.cons Z Z EvAll.nil) (fun M w h1 h2 => have h := R2_Uses_w hx8  M w h1 h2; h) (fun X10 hF10 hle10 => ?_))
 refine wa Z ?_
 refine nt (WC.seq (sr ?_))
 refine wa Z ?_
 refine nt ?_
 obtain ⟨o11, ho12, hm13⟩ := bd_some hm9; clear hm9; obtain ⟨n14, ho15⟩ := lp_some ho12
 refine WC.bloop1 (H2 := [kn noM w.heap.size w X10.2, blk b6 (Stm.cells (ele l.body k_)) 81, blk b1 [v_l_logs, v_l_body, v_l_outs] 25]) (τ := [(1, (true, _)), (2, (true, _)), (5, (true, _)), (6, (true, _))]) (fun (i7_1 : Int) => [(7, (true, .int .i64 i7_1))]) (fun i7_1 => []) (fun i7_1 m => iter (R2_stmt_L0 l k_ x7) m i7_1 = some o11) (fun i7_1 => o11 = .go i7_1) 0 n14 ho15 ⟨Z, Z, Z, Z, Z, trivial⟩ (fun w hw => hw.pick [0, 1, 2] (by decide)) ?_ ?_
 ·skip
  rintro i7_1 rfl
  refine WQ.then (WC.seq (sr ?_))
  refine wm Z ?_
  refine wq Z (QV.lenS Try.underlying76 Z Z hF10.lenMap) ?_
  refine wq Z (QV.lss Z Z Z Z) ?_
  refine wm Z ?_
  refine gp Z (fun hG => QV.fieldAddr fd81_2 Z Z) ?_
  refine gp Z (fun hG => QV.fieldAddr fd79_0 Z hG) ?_
  refine gp Z (fun hG => QV.load pl3 Z hG (Own.cell 1 Z Z)) ?_
  refine gp Z (fun hG => QV.neq Z hG Z Z) ?_
  refine gp Z (fun hG => QV.move Z hG) ?_
  refine WL.g Z Z (GuardIs.negC Z Z) (fun hG => QV.fieldAddr fd81_2 Z Z) ?_
  refine WL.g Z Z (GuardIs.negC Z Z) (fun hG => QV.fieldAddr fd79_1 Z hG) ?_
  refine WL.g Z Z (GuardIs.negC Z Z) (fun hG => QV.load pl3 Z hG (Own.cell 1 Z Z)) ?_
  refine WL.g Z Z (GuardIs.negC Z Z) (fun hG => QV.neq Z hG Z Z) ?_
  refine gp Z (fun hG => QV.pickOr Z hG Z (fun h => andN hG h)) ?_
  refine wq Z (QV.pickAnd Z Z Z (fun h => h)) ?_
  refine wm Z ?_
  refine gn Z (fun hG => QV.move Z Z) ?_
  refine gn Z (fun hG => QV.lenS Try.underlying76 Z hG hF10.lenMap) ?_
  refine gn Z (fun hG => QV.lss Z hG Z Z) ?_
  refine gn Z (fun hG => QV.move Z hG) ?_
  refine WL.g Z Z (GuardIs.posC Z Z) (fun hG => QV.fieldAddr fd81_1 Z Z) ?_
  refine WL.g Z Z (GuardIs.posC Z Z) (fun hG => QV.fieldAddr fd79_0 Z hG) ?_
  refine WL.g Z Z (GuardIs.posC Z Z) (fun hG => QV.load pl3 Z hG (Own.cell 1 Z Z)) ?_
  refine WL.g Z Z (GuardIs.posC Z Z) (fun hG => QV.neq Z hG Z Z) ?_
  refine WL.g Z Z (GuardIs.posC Z Z) (fun hG => QV.move Z hG) ?_
  refine WL.g Z Z (GuardIs.negC Z Z) (fun hG => QV.fieldAddr fd81_1 Z Z) ?_
  refine WL.g Z Z (GuardIs.negC Z Z) (fun hG => QV.fieldAddr fd79_1 Z hG) ?_
  refine WL.g Z Z (GuardIs.negC Z Z) (fun hG => QV.load pl3 Z hG (Own.cell 1 Z Z)) ?_
  refine WL.g Z Z (GuardIs.negC Z Z) (fun hG => QV.neq Z hG Z Z) ?_
  refine WL.g Z Z (GuardIs.posC Z Z) (fun hG => QV.pickOr Z hG Z (fun h => andN hG h)) ?_
  refine gn Z (fun hG => QV.pickAnd Z hG Z (fun h => andT hG h)) ?_
  refine wq Z (QV.pickOr Z Z Z (fun h => notF h)) ?_
  refine nt ?_
  refine WC.cond Z (fun h16 => ?_) (fun h16 => ?_)
  ·skip
   have hm17 := br_t h16 hm13; clear hm13
   refine sr ?_
   refine wa Z ?_
   refine nt (WC.ret (tr ?_))
   obtain rfl := (eq_of_some hm17).symm
   refine WQ.ret1 Z Z (fun w hw => ?_)
   exact ⟨Z, Own.kgrow (fun _ x => x) hw⟩
  have hm18 := br_f h16 hm13; clear hm13
  refine sk (WQ.then (WC.seq (sr ?_)))
  refine wf fd81_0 Z ?_
  refine wl pl3 Z (Own.cell 1 Z Z) ?_
  refine wq Z (QV.neq Z Z Z Z) ?_
  refine wm Z ?_
  refine gp Z (fun hG => QV.fieldAddr fd81_6 Z Z) ?_
  refine gp Z (fun hG => QV.load pl2 Z hG (Own.cell 1 Z Z)) ?_
  refine gp Z (fun hG => QV.neq Z hG Z Z) ?_
  refine wq Z (QV.pickAnd Z Z Z (fun h => h)) ?_
  refine nt ?_
  refine WC.cond Z (fun h19 => ?_) (fun h19 => ?_)
  ·skip
   have hm20 := br_t h19 hm18; clear hm18
   refine sr ?_
   refine wa Z ?_
   refine nt (WC.ret (tr ?_))
   obtain rfl := (eq_of_some hm20).symm
   refine WQ.ret1 Z Z (fun w hw => ?_)
   exact ⟨Z, Own.kgrow (fun _ x => x) hw⟩
  have hm21 := br_f h19 hm18; clear hm18
  refine sk (WQ.then (WC.seq (sr ?_)))
  refine wf fd81_0 Z ?_
  refine wl pl3 Z (Own.cell 1 Z Z) ?_
  refine wq Z (QV.eql Z Z Z Z) ?_
  refine wm Z ?_
  refine gn Z (fun hG => QV.fieldAddr fd81_0 Z Z) ?_
  refine gn Z (fun hG => QV.load pl3 Z hG (Own.cell 1 Z Z)) ?_
  refine gn Z (fun hG => QV.eql Z hG Z Z) ?_
  refine wq Z (QV.pickOr Z Z Z (fun h => notF h)) ?_
  refine nt ?_
  refine WC.cond Z (fun h22 => ?_) (fun h22 => ?_)
  ·skip
   have hm23 := br_t h22 hm21; clear hm21
   refine sr ?_
   refine wf fd81_3 Z ?_
   refine wl pl3 Z (Own.cell 1 Z Z) ?_
   refine wf fd25_0 Z ?_
   refine wl pl22 Z (Own.cell 2 Z Z) ?_
   refine wq Z (QV.lenS Try.underlying22 Z Z (h_l_logs.le hle10).lenMap) ?_
   obtain ⟨c24, hm25⟩ := cs hm23; clear hm23
   refine wq Z (QV.sub Z Z Z Z c24) ?_
   obtain ⟨x26, hx27, hm28⟩ := bd_some hm25; clear hm25
   refine wq Z (QV.call en76 (EvAll.cons Z Z (EvAll.cons Z Z (EvAll.cons Z Z EvAll.nil))) (fun w hw => have h := R2_Within_w w hx27 ; h)) ?_
   refine wm Z ?_
   refine gp Z (fun hG => QV.fieldAddr fd81_4 Z Z) ?_
   refine gp Z (fun hG => QV.load pl3 Z hG (Own.cell 1 Z Z)) ?_
   obtain ⟨x29, hx30, hm31⟩ := bdG_some hm28; clear hm28
   refine gp Z (fun hG => QV.call en76 (EvAll.cons Z hG (EvAll.cons Z Z (EvAll.cons Z Z EvAll.nil))) (fun w hw => have h := R2_Within_w w (hx30 hG) ; h)) ?_
   refine wq Z (QV.pickAnd Z Z Z (fun h => h)) ?_
   refine wm Z ?_
   refine gp Z (fun hG => QV.fieldAddr fd81_5 Z Z) ?_
   refine gp Z (fun hG => QV.load pl3 Z hG (Own.cell 1 Z Z)) ?_
   obtain ⟨x32, hx33, hm34⟩ := bdG_some hm31; clear hm31
   refine gp Z (fun hG => QV.call en76 (EvAll.cons Z hG (EvAll.cons Z Z (EvAll.cons Z Z EvAll.nil))) (fun w hw => have h := R2_Within_w w (hx33 hG) ; h)) ?_
   refine wq Z (QV.pickAnd Z Z Z (fun h => h)) ?_
   refine wa Z ?_
   refine nt (WC.ret (tr ?_))
   obtain rfl := (eq_of_some hm34).symm
   refine WQ.ret1 Z Z (fun w hw => ?_)
   exact ⟨Z, Own.kgrow (fun _ x => x) hw⟩
  have hm35 := br_f h22 hm21; clear hm21
  refine sk (WQ.then (WC.seq (sr ?_)))
  refine wf fd81_3 Z ?_
  refine wl pl3 Z (Own.cell 1 Z Z) ?_
  refine wq Z (QV.neq Z Z Z Z) ?_
  refine wm Z ?_
  refine gn Z (fun hG => QV.fieldAddr fd81_4 Z Z) ?_
  refine gn Z (fun hG => QV.load pl3 Z hG (Own.cell 1 Z Z)) ?_
  refine gn Z (fun hG => QV.neq Z hG Z Z) ?_
  refine wq Z (QV.pickOr Z Z Z (fun h => notF h)) ?_
  refine wm Z ?_
  refine gn Z (fun hG => QV.fieldAddr fd81_5 Z Z) ?_
  refine gn Z (fun hG => QV.load pl3 Z hG (Own.cell 1 Z Z)) ?_
  refine gn Z (fun hG => QV.neq Z hG Z Z) ?_
  refine wq Z (QV.pickOr Z Z Z (fun h => notF h)) ?_
  refine nt ?_
  refine WC.cond Z (fun h36 => ?_) (fun h36 => ?_)
  ·skip
   have hm37 := br_t h36 hm35; clear hm35
   refine sr ?_
   refine wa Z ?_
   refine nt (WC.ret (tr ?_))
   obtain rfl := (eq_of_some hm37).symm
   refine WQ.ret1 Z Z (fun w hw => ?_)
   exact ⟨Z, Own.kgrow (fun _ x => x) hw⟩
  have hm38 := br_f h36 hm35; clear hm35
  refine sk (WQ.then (sr ?_))
  refine wf fd81_0 Z ?_
  refine wl pl3 Z (Own.cell 1 Z Z) ?_
  refine wq Z (QV.eql Z Z Z Z) ?_
  refine wm Z ?_
  refine gn Z (fun hG => QV.fieldAddr fd81_0 Z Z) ?_
  refine gn Z (fun hG => QV.load pl3 Z hG (Own.cell 1 Z Z)) ?_
  refine gn Z (fun hG => QV.eql Z hG Z Z) ?_
  refine wq Z (QV.pickOr Z Z Z (fun h => notF h)) ?_
  refine wm Z ?_
  refine gn Z (fun hG => QV.fieldAddr fd81_0 Z Z) ?_
  refine gn Z (fun hG => QV.load pl3 Z hG (Own.cell 1 Z Z)) ?_
  obtain ⟨x39, hx40, hm41⟩ := bdG_some hm38; clear hm38
  refine gn Z (fun hG => QV.call en76 (EvAll.cons Z hG (EvAll.cons Z Z (EvAll.cons Z Z EvAll.nil))) (fun w hw => have h := R2_Within_w w (hx40 hG) ; h)) ?_
  refine wq Z (QV.pickOr Z Z Z (fun h => notF h)) ?_
  refine wa Z ?_
  refine nt (WC.ret ?_)
  obtain rfl := (eq_of_some hm41).symm
  refine WQ.ret1 Z Z (fun w hw => ?_)
  exact ⟨Z, Own.kgrow (fun _ x => x) hw⟩
 rintro i7_1 m42 hI43
 obtain ⟨m44, s45, rfl, hm46, hn47⟩ := iter_step hI43; clear hI43; unfold R2_stmt_L0 at hm46
 refine WC.seq (sr ?_)
 refine wm Z ?_
 refine wm Z ?_
 refine wq Z (QV.lenS Try.underlying76 Z Z hF10.lenMap) ?_
 refine wq Z (QV.lss Z Z Z Z) ?_
 refine nt ?_
 refine WC.cond Z (fun h48 => ?_) (fun h48 => ?_)
 ·skip
  have hm49 := br_t h48 hm46; clear hm46
  refine sk (WQ.then (WC.seq (WC.block (sr ?_))))
  refine wf fd25_1 Z ?_
  refine wl pl23 Z (Own.cell 2 Z Z) ?_
  refine wq Z (QV.lenS Try.underlying23 Z Z (h_l_body.le hle10).lenMap) ?_
  obtain ⟨c50, hm51⟩ := cs hm49; clear hm49
  refine wq Z (QV.sub Z Z Z Z c50) ?_
  refine wa Z ?_
  refine nt (WC.seq (sr ?_))
  refine wm Z ?_
  refine wm Z ?_
  obtain ⟨c52, hm53⟩ := cs hm51; clear hm51
  obtain ⟨p54, hp55⟩ := hF10.lenMap.ix (sz := 2) ln_len c52
  refine wq Z (QV.indexSlice sl76 Z Z Z Z hp55) ?_
  refine wf fd79_1 Z ?_
  refine wl pl3 Z (fun w hw => CellsAt.one 1 (((Own.karr 0 Z hk hF10) w hw).ele hp55 c52) Z) ?_
  refine wq Z (QV.eql Z Z Z Z) ?_
  refine nt ?_
  refine WC.cond Z (fun h56 => ?_) (fun h56 => ?_)
  ·skip
   have hm57 := br_t h56 hm53; clear hm53
   refine WC.region ?_
   refine wm Z ?_
   obtain ⟨c58, hm59⟩ := cs hm57; clear hm57
   refine wq Z (QV.sub Z Z Z Z c58) ?_
   refine wa Z ?_
   refine ns ?_
   refine wm Z ?_
   refine wm Z ?_
   obtain ⟨c60, hm61⟩ := cs hm59; clear hm59
   obtain ⟨p62, hp63⟩ := hF10.lenMap.ix (sz := 2) ln_len c60
   refine wq Z (QV.indexSlice sl76 Z Z Z Z hp63) ?_
   refine wf fd79_1 Z ?_
   refine wl pl3 Z (fun w hw => CellsAt.one 1 (((Own.karr 0 Z hk hF10) w hw).ele hp63 c60) Z) ?_
   obtain ⟨x64, hx65, hm66⟩ := bd_some hm61; clear hm61
   refine wq Z (QV.call en76 (EvAll.cons Z Z (EvAll.cons Z Z (EvAll.cons Z Z EvAll.nil))) (fun w hw => have h := R2_Within_w w hx65 ; h)) ?_
   refine wq Z (QV.not Z Z) ?_
   refine wm Z ?_
   refine gn Z (fun hG => QV.move Z Z) ?_
   refine gn Z (fun hG => QV.move Z Z) ?_
   obtain ⟨c67, hm68⟩ := cs hm66; clear hm66
   obtain ⟨p69, hp70⟩ := hF10.lenMap.ixG (sz := 2) ln_len c67
   refine gn Z (fun hG => QV.indexSlice sl76 Z hG Z hG (hp70 hG)) ?_
   refine gn Z (fun hG => QV.fieldAddr fd79_0 Z hG) ?_
   refine gn Z (fun hG => QV.load pl3 Z hG (fun w hw => CellsAt.one 0 (((Own.karr 0 Z hk hF10) w hw).ele (hp70 hG) (c67 hG)) Z)) ?_
   refine gn Z (fun hG => QV.move Z Z) ?_
   obtain ⟨x71, hx72, hm73⟩ := bdG_some hm68; clear hm68
   refine gn Z (fun hG => QV.call en76 (EvAll.cons Z hG (EvAll.cons Z Z (EvAll.cons Z hG EvAll.nil))) (fun w hw => have h := R2_Within_w w (hx72 hG) ; h)) ?_
   refine gn Z (fun hG => QV.not Z hG) ?_
   refine wq Z (QV.pickOr Z Z Z (fun h => notF h)) ?_
   refine nt ?_
   refine WC.cond Z (fun h74 => ?_) (fun h74 => ?_)
   ·skip
    have hm75 := br_t h74 hm73; clear hm73
    refine sr ?_
    refine wa Z ?_
    refine nt (WC.ret (kr (tr (tr (kr (tr (tr ?_)))))))
    obtain rfl := up_ret hm75 hn47
    obtain rfl := (eq_of_some hm13).symm
    refine WQ.ret1 Z Z (fun w hw => ?_)
    exact ⟨Z, Own.kgrow (fun _ x => x) hw⟩
   have hm76 := br_f h74 hm73; clear hm73
   refine sk (WQ.block (WQ.then (WC.region ?_)))
   refine wm Z ?_
   obtain ⟨c77, hm78⟩ := cs hm76; clear hm76
   refine wq Z (QV.add Z Z Z Z c77) ?_
   refine wa Z ?_
   refine WL.nil ?_
   exact WQ.again1 (i7_1 + 1) m44 (up_next hm78 hn47) (Nat.lt_succ_self _) ⟨Z, Z, Z, Z, Z, trivial⟩ (fun w hw => hw.pick [0, 1, 2] (by decide))
  have hm79 := br_f h56 hm53; clear hm53
  refine sk (WQ.then (sr ?_))
  refine wm Z ?_
  refine wm Z ?_
  obtain ⟨c80, hm81⟩ := cs hm79; clear hm79
  obtain ⟨p82, hp83⟩ := hF10.lenMap.ix (sz := 2) ln_len c80
  refine wq Z (QV.indexSlice sl76 Z Z Z Z hp83) ?_
  refine wf fd79_1 Z ?_
  refine wl pl3 Z (fun w hw => CellsAt.one 1 (((Own.karr 0 Z hk hF10) w hw).ele hp83 c80) Z) ?_
  obtain ⟨x84, hx85, hm86⟩ := bd_some hm81; clear hm81
  refine wq Z (QV.call en76 (EvAll.cons Z Z (EvAll.cons Z Z (EvAll.cons Z Z EvAll.nil))) (fun w hw => have h := R2_Within_w w hx85 ; h)) ?_
  refine wq Z (QV.not Z Z) ?_
  refine wm Z ?_
  refine gn Z (fun hG => QV.move Z Z) ?_
  refine gn Z (fun hG => QV.move Z Z) ?_
  obtain ⟨c87, hm88⟩ := cs hm86; clear hm86
  obtain ⟨p89, hp90⟩ := hF10.lenMap.ixG (sz := 2) ln_len c87
  refine gn Z (fun hG => QV.indexSlice sl76 Z hG Z hG (hp90 hG)) ?_
  refine gn Z (fun hG => QV.fieldAddr fd79_0 Z hG) ?_
  refine gn Z (fun hG => QV.load pl3 Z hG (fun w hw => CellsAt.one 0 (((Own.karr 0 Z hk hF10) w hw).ele (hp90 hG) (c87 hG)) Z)) ?_
  refine gn Z (fun hG => QV.move Z Z) ?_
  obtain ⟨x91, hx92, hm93⟩ := bdG_some hm88; clear hm88
  refine gn Z (fun hG => QV.call en76 (EvAll.cons Z hG (EvAll.cons Z Z (EvAll.cons Z hG EvAll.nil))) (fun w hw => have h := R2_Within_w w (hx92 hG) ; h)) ?_
  refine gn Z (fun hG => QV.not Z hG) ?_
  refine wq Z (QV.pickOr Z Z Z (fun h => notF h)) ?_
  refine nt ?_
  refine WC.cond Z (fun h94 => ?_) (fun h94 => ?_)
  ·skip
   have hm95 := br_t h94 hm93; clear hm93
   refine sr ?_
   refine wa Z ?_
   refine nt (WC.ret (kr (tr (tr (kr (tr (tr ?_)))))))
   obtain rfl := up_ret hm95 hn47
   obtain rfl := (eq_of_some hm13).symm
   refine WQ.ret1 Z Z (fun w hw => ?_)
   exact ⟨Z, Own.kgrow (fun _ x => x) hw⟩
  have hm96 := br_f h94 hm93; clear hm93
  refine sk (WQ.block (WQ.then (WC.region ?_)))
  refine wm Z ?_
  obtain ⟨c97, hm98⟩ := cs hm96; clear hm96
  refine wq Z (QV.add Z Z Z Z c97) ?_
  refine wa Z ?_
  refine WL.nil ?_
  exact WQ.again1 (i7_1 + 1) m44 (up_next hm98 hn47) (Nat.lt_succ_self _) ⟨Z, Z, Z, Z, Z, trivial⟩ (fun w hw => hw.pick [0, 1, 2] (by decide))
 have hm99 := br_f h48 hm46; clear hm46
 refine WC.exit (te (te (WQ.block_exit ?_)))
 exact WQ.out1 i7_1 (up_brk hm99 hn47) ⟨Z, Z, Z, Z, Z, trivial⟩ (fun w hw => hw.pick [0, 1, 2] (by decide))
theorem R2_May_w {v_l_logs : Value} {v_l_body : Value} {v_l_outs : Value} {l : Lp} {r : Bool} (w : World) (hm : R2_May_m l = some r) (h_l_logs : Arr w v_l_logs 1 (l.logs.map icell)) (h_l_body : Arr w v_l_body 9 (l.body.map Stm.cells)) (h_l_outs : Arr w v_l_outs 1 (l.outs.map icell)) : Calls Try.prog 43 #[.agg #[v_l_logs, v_l_body, v_l_outs]] w (fun e w' => e = .returned (.bool r) ∧ Grow w w') := by
 unfold R2_May_m at hm
 have hk := Base.rfl (w := w)
 refine calls_of_WC (n := 79) (args := [.agg #[v_l_logs, v_l_body, v_l_outs]]) Try.func43 Z Z (Nat.le_of_ble_eq_true Z) ?_ (Own.startK hk (Own.start w))
 refine sr ?_
 refine WL.effect Z ?_
 refine (EV.boxAgg (by decide) Z Z (fun b1 => ?_))
 refine wa Z ?_
 refine ns ?_
 refine wf fd25_1 Z ?_
 refine wl pl23 Z (Own.cell 0 Z Z) ?_
 refine wq Z (QV.lenS Try.underlying23 Z Z h_l_body.lenMap) ?_
 refine wa Z ?_
 refine nt (WC.seq (sr ?_))
 refine wf fd25_0 Z ?_
 refine wl pl22 Z (Own.cell 0 Z Z) ?_
 refine wq Z (QV.lenS Try.underlying22 Z Z h_l_logs.lenMap) ?_
 refine wq Z (QV.gtr Z Z Z Z) ?_
 refine wm Z ?_
 refine gn Z (fun hG => QV.move Z Z) ?_
 refine gn Z (fun hG => QV.lss Z hG Z Z) ?_
 refine wq Z (QV.pickOr Z Z Z (fun h => notF h)) ?_
 refine wm Z ?_
 refine gn Z (fun hG => QV.move Z Z) ?_
 refine gn Z (fun hG => QV.gtr Z hG Z Z) ?_
 refine wq Z (QV.pickOr Z Z Z (fun h => notF h)) ?_
 refine nt ?_
 refine WC.cond Z (fun h2 => ?_) (fun h2 => ?_)
 ·skip
  have hm3 := br_t h2 hm; clear hm
  refine sr ?_
  refine wa Z ?_
  refine nt (WC.ret (tr ?_))
  obtain rfl := (eq_of_some hm3).symm
  refine WQ.ret1 Z Z (fun w hw => ?_)
  exact ⟨Z, Own.kgrow (fun _ x => x) hw⟩
 have hm4 := br_f h2 hm; clear hm
 refine sk (WQ.then (WC.seq (sr ?_)))
 refine wa Z ?_
 refine nt ?_
 obtain ⟨o5, ho6, hm7⟩ := bd_some hm4; clear hm4; obtain ⟨n8, ho9⟩ := lp_some ho6
 refine WC.bloop1 (H2 := [blk b1 [v_l_logs, v_l_body, v_l_outs] 25, kn noM w.heap.size w w]) (τ := [(1, (true, _)), (3, (true, _))]) (fun (i4_1 : Int) => [(4, (true, .int .i64 i4_1))]) (fun i4_1 => []) (fun i4_1 m => iter (R2_May_L0 l) m i4_1 = some o5) (fun i4_1 => o5 = .go i4_1) 0 n8 ho9 ⟨Z, Z, Z, trivial⟩ (fun w hw => hw.pick [0, 1] (by decide)) ?_ ?_
 ·skip
  rintro i4_1 rfl
  refine WQ.then (WC.seq (sr ?_))
  refine wa Z ?_
  refine nt ?_
  obtain ⟨o10, ho11, hm12⟩ := bd_some hm7; clear hm7; obtain ⟨n13, ho14⟩ := lp_some ho11
  refine WC.bloop1 (H2 := [blk b1 [v_l_logs, v_l_body, v_l_outs] 25, kn noM w.heap.size w w]) (τ := [(1, (true, _)), (3, (true, _))]) (fun (i5_2 : Int) => [(5, (true, .int .i64 i5_2))]) (fun i5_2 => []) (fun i5_2 m => iter (R2_May_L2 l) m i5_2 = some o10) (fun i5_2 => o10 = .go i5_2) 0 n13 ho14 ⟨Z, Z, Z, trivial⟩ (fun w hw => hw.pick [0, 1] (by decide)) ?_ ?_
  ·skip
   rintro i5_2 rfl
   refine WQ.then (WC.seq (sr ?_))
   refine wa Z ?_
   refine nt ?_
   obtain ⟨o15, ho16, hm17⟩ := bd_some hm12; clear hm12; obtain ⟨n18, ho19⟩ := lp_some ho16
   refine WC.bloop1 (H2 := [blk b1 [v_l_logs, v_l_body, v_l_outs] 25, kn noM w.heap.size w w]) (τ := [(1, (true, _)), (3, (true, _))]) (fun (k6_3 : Int) => [(6, (true, .int .i64 k6_3))]) (fun k6_3 => []) (fun k6_3 m => iter (R2_May_L4 l) m k6_3 = some o15) (fun k6_3 => o15 = .go k6_3) 0 n18 ho19 ⟨Z, Z, Z, trivial⟩ (fun w hw => hw.pick [0, 1] (by decide)) ?_ ?_
   ·skip
    rintro k6_3 rfl
    refine WQ.then (sr ?_)
    refine wa Z ?_
    refine nt (WC.ret ?_)
    obtain rfl := (eq_of_some hm17).symm
    refine WQ.ret1 Z Z (fun w hw => ?_)
    exact ⟨Z, Own.kgrow (fun _ x => x) hw⟩
   rintro k6_3 m20 hI21
   obtain ⟨m22, s23, rfl, hm24, hn25⟩ := iter_step hI21; clear hI21; unfold R2_May_L4 at hm24
   refine WC.seq (sr ?_)
   refine wm Z ?_
   refine wm Z ?_
   refine wq Z (QV.lss Z Z Z Z) ?_
   refine nt ?_
   refine WC.cond Z (fun h26 => ?_) (fun h26 => ?_)
   ·skip
    have hm27 := br_t h26 hm24; clear hm24
    refine sk (WQ.then (WC.seq (WC.block (sr ?_))))
    refine wq Z (QV.loadAgg ag25 Z Z Z (Own.cellsBlk 0 Z)) ?_
    refine wm Z ?_
    obtain ⟨x28, hx29, hm30⟩ := bd_some hm27; clear hm27
    refine wq Z (QV.call en77 (EvAll.cons Z Z (EvAll.cons Z Z EvAll.nil)) (fun w hw => have h := R2_stmt_w w hx29 ((Own.karr 1 Z hk h_l_logs) w hw) ((Own.karr 1 Z hk h_l_body) w hw) ((Own.karr 1 Z hk h_l_outs) w hw); h)) ?_
    refine wq Z (QV.not Z Z) ?_
    refine nt ?_
    refine WC.cond Z (fun h31 => ?_) (fun h31 => ?_)
    ·skip
     have hm32 := br_t h31 hm30; clear hm30
     refine sr ?_
     refine wa Z ?_
     refine nt (WC.ret (kr (tr (tr (kr (tr (tr ?_)))))))
     obtain rfl := up_ret hm32 hn25
     obtain rfl := (eq_of_some hm17).symm
     refine WQ.ret1 Z Z (fun w hw => ?_)
     exact ⟨Z, Own.kgrow (fun _ x => x) hw⟩
    have hm33 := br_f h31 hm30; clear hm30
    refine sk (WQ.block (WQ.then (WC.region ?_)))
    refine wm Z ?_
    obtain ⟨c34, hm35⟩ := cs hm33; clear hm33
    refine wq Z (QV.add Z Z Z Z c34) ?_
    refine wa Z ?_
    refine WL.nil ?_
    exact WQ.again1 (k6_3 + 1) m22 (up_next hm35 hn25) (Nat.lt_succ_self _) ⟨Z, Z, Z, trivial⟩ (fun w hw => hw.pick [0, 1] (by decide))
   have hm36 := br_f h26 hm24; clear hm24
   refine WC.exit (te (te (WQ.block_exit ?_)))
   exact WQ.out1 k6_3 (up_brk hm36 hn25) ⟨Z, Z, Z, trivial⟩ (fun w hw => hw.pick [0, 1] (by decide))
  rintro i5_2 m37 hI38
  obtain ⟨m39, s40, rfl, hm41, hn42⟩ := iter_step hI38; clear hI38; unfold R2_May_L2 at hm41
  refine WC.seq (sr ?_)
  refine wm Z ?_
  refine wf fd25_2 Z ?_
  refine wl pl22 Z (Own.cell 0 Z Z) ?_
  refine wq Z (QV.lenS Try.underlying22 Z Z h_l_outs.lenMap) ?_
  refine wq Z (QV.lss Z Z Z Z) ?_
  refine nt ?_
  refine WC.cond Z (fun h43 => ?_) (fun h43 => ?_)
  ·skip
   have hm44 := br_t h43 hm41; clear hm41
   refine sk (WQ.then (WC.seq (WC.block (WC.seq ?_))))
   refine WC.dr (m := 27) (S := Own noM w [kn noM w.heap.size w w, blk b1 [v_l_logs, v_l_body, v_l_outs] 25]) (by kernel_rfl) (by kernel_rfl) (fun w hw => hw.pick [1, 0] (by decide)) ?_
   refine wz 0 Z Z (QV.fieldAddr fd25_2 Z Z) ?_
   refine wz 1 Z Z (QV.load pl22 Z Z (Own.cell 1 Z Z)) ?_
   refine wz 2 Z Z (QV.move Z Z) ?_
   obtain ⟨c45, hm46⟩ := cs hm44; clear hm44
   obtain ⟨p47, hp48⟩ := h_l_outs.lenMap.ix (sz := 1) ln_len c45
   refine wz 3 Z Z (QV.indexSlice sl22 Z Z Z Z hp48) ?_
   refine wz 4 Z Z (QV.load pl3 Z Z (fun w hw => CellsAt.one 0 (((Own.karr 0 Z hk h_l_outs) w hw).ele hp48 c45) Z)) ?_
   refine wz 5 Z Z (QV.move Z Z) ?_
   obtain ⟨c49, hm50⟩ := cs hm46; clear hm46
   refine wz 6 Z Z (QV.sub Z Z Z Z c49) ?_
   obtain ⟨x51, hx52, hm53⟩ := bd_some hm50; clear hm50
   refine wz 7 Z Z (QV.call en76 (EvAll.cons Z Z (EvAll.cons Z Z (EvAll.cons Z Z EvAll.nil))) (fun w hw => have h := R2_Within_w w hx52 ; h)) ?_
   refine wz 8 Z Z (QV.not Z Z) ?_
   refine wz 9 Z Z (QV.move Z Z) ?_
   refine WD.g 10 Z (by kernel_rfl) Z Z (GuardIs.neg Z Z) (fun hG => QV.move Z Z) ?_
   refine WD.g 11 Z (by kernel_rfl) Z Z (GuardIs.neg Z Z) (fun hG => QV.gtr Z hG Z Z) ?_
   refine WD.g 12 Z (by kernel_rfl) Z Z (GuardIs.neg Z Z) (fun hG => QV.move Z hG) ?_
   refine WD.g 13 Z (by kernel_rfl) Z Z (GuardIs.posC Z Z) (fun hG => QV.fieldAddr fd25_2 Z Z) ?_
   refine WD.g 14 Z (by kernel_rfl) Z Z (GuardIs.posC Z Z) (fun hG => QV.load pl22 Z hG (Own.cell 1 Z Z)) ?_
   refine WD.g 15 Z (by kernel_rfl) Z Z (GuardIs.posC Z Z) (fun hG => QV.move Z Z) ?_
   obtain ⟨c54, hm55⟩ := cs hm53; clear hm53
   obtain ⟨p56, hp57⟩ := h_l_outs.lenMap.ixG (sz := 1) ln_len c54
   refine WD.g 16 Z (by kernel_rfl) Z Z (GuardIs.posC Z Z) (fun hG => QV.indexSlice sl22 Z hG Z hG (hp57 hG)) ?_
   refine WD.g 17 Z (by kernel_rfl) Z Z (GuardIs.posC Z Z) (fun hG => QV.load pl3 Z hG (fun w hw => CellsAt.one 0 (((Own.karr 0 Z hk h_l_outs) w hw).ele (hp57 hG) (c54 hG)) Z)) ?_
   refine WD.g 18 Z (by kernel_rfl) Z Z (GuardIs.posC Z Z) (fun hG => QV.fieldAddr fd25_2 Z Z) ?_
   refine WD.g 19 Z (by kernel_rfl) Z Z (GuardIs.posC Z Z) (fun hG => QV.load pl22 Z hG (Own.cell 1 Z Z)) ?_
   refine WD.g 20 Z (by kernel_rfl) Z Z (GuardIs.posC Z Z) (fun hG => QV.move Z Z) ?_
   obtain ⟨c58, hm59⟩ := cs hm55; clear hm55
   refine WD.g 21 Z (by kernel_rfl) Z Z (GuardIs.posC Z Z) (fun hG => QV.sub Z hG Z Z (c58 hG)) ?_
   obtain ⟨c60, hm61⟩ := cs hm59; clear hm59
   obtain ⟨p62, hp63⟩ := h_l_outs.lenMap.ixG (sz := 1) ln_len c60
   refine WD.g 22 Z (by kernel_rfl) Z Z (GuardIs.posC Z Z) (fun hG => QV.indexSlice sl22 Z hG Z hG (hp63 hG)) ?_
   refine WD.g 23 Z (by kernel_rfl) Z Z (GuardIs.posC Z Z) (fun hG => QV.load pl3 Z hG (fun w hw => CellsAt.one 0 (((Own.karr 0 Z hk h_l_outs) w hw).ele (hp63 hG) (c60 hG)) Z)) ?_
   refine WD.g 24 Z (by kernel_rfl) Z Z (GuardIs.posC Z Z) (fun hG => QV.leq Z hG Z hG) ?_
   refine WD.g 25 Z (by kernel_rfl) Z Z (GuardIs.neg Z Z) (fun hG => QV.pickAnd Z hG Z (fun h => andT hG h)) ?_
   refine wz 26 Z Z (QV.pickOr Z Z Z (fun h => notF h)) ?_
   refine WD.e (by kernel_rfl) ?_
   refine WQ.then ?_
   refine WC.cond Z (fun h64 => ?_) (fun h64 => ?_)
   ·skip
    have hm65 := br_t h64 hm61; clear hm61
    refine sr ?_
    refine wa Z ?_
    refine nt (WC.ret (kr (tr (tr (kr (tr (tr ?_)))))))
    obtain rfl := up_ret hm65 hn42
    obtain rfl := (eq_of_some hm12).symm
    refine WQ.ret1 Z Z (fun w hw => ?_)
    exact ⟨Z, Own.kgrow (fun _ x => x) hw⟩
   have hm66 := br_f h64 hm61; clear hm61
   refine sk (WQ.block (WQ.then (WC.region ?_)))
   refine wm Z ?_
   obtain ⟨c67, hm68⟩ := cs hm66; clear hm66
   refine wq Z (QV.add Z Z Z Z c67) ?_
   refine wa Z ?_
   refine WL.nil ?_
   exact WQ.again1 (i5_2 + 1) m39 (up_next hm68 hn42) (Nat.lt_succ_self _) ⟨Z, Z, Z, trivial⟩ (fun w hw => hw.pick [0, 1] (by decide))
  have hm69 := br_f h43 hm41; clear hm41
  refine WC.exit (te (te (WQ.block_exit ?_)))
  exact WQ.out1 i5_2 (up_brk hm69 hn42) ⟨Z, Z, Z, trivial⟩ (fun w hw => hw.pick [0, 1] (by decide))
 rintro i4_1 m70 hI71
 obtain ⟨m72, s73, rfl, hm74, hn75⟩ := iter_step hI71; clear hI71; unfold R2_May_L0 at hm74
 refine WC.seq (sr ?_)
 refine wm Z ?_
 refine wf fd25_0 Z ?_
 refine wl pl22 Z (Own.cell 0 Z Z) ?_
 refine wq Z (QV.lenS Try.underlying22 Z Z h_l_logs.lenMap) ?_
 refine wq Z (QV.lss Z Z Z Z) ?_
 refine nt ?_
 refine WC.cond Z (fun h76 => ?_) (fun h76 => ?_)
 ·skip
  have hm77 := br_t h76 hm74; clear hm74
  refine sk (WQ.then (WC.seq (WC.block (sr ?_))))
  refine wf fd25_0 Z ?_
  refine wl pl22 Z (Own.cell 0 Z Z) ?_
  refine wm Z ?_
  obtain ⟨c78, hm79⟩ := cs hm77; clear hm77
  obtain ⟨p80, hp81⟩ := h_l_logs.lenMap.ix (sz := 1) ln_len c78
  refine wq Z (QV.indexSlice sl22 Z Z Z Z hp81) ?_
  refine wl pl3 Z (fun w hw => CellsAt.one 0 (((Own.karr 1 Z hk h_l_logs) w hw).ele hp81 c78) Z) ?_
  obtain ⟨x82, hx83, hm84⟩ := bd_some hm79; clear hm79
  refine wq Z (QV.call en76 (EvAll.cons Z Z (EvAll.cons Z Z (EvAll.cons Z Z EvAll.nil))) (fun w hw => have h := R2_Within_w w hx83 ; h)) ?_
  refine wq Z (QV.not Z Z) ?_
  refine nt ?_
  refine WC.cond Z (fun h85 => ?_) (fun h85 => ?_)
  ·skip
   have hm86 := br_t h85 hm84; clear hm84
   refine sr ?_
   refine wa Z ?_
   refine nt (WC.ret (kr (tr (tr (kr (tr (tr ?_)))))))
   obtain rfl := up_ret hm86 hn75
   obtain rfl := (eq_of_some hm7).symm
   refine WQ.ret1 Z Z (fun w hw => ?_)
   exact ⟨Z, Own.kgrow (fun _ x => x) hw⟩
  have hm87 := br_f h85 hm84; clear hm84
  refine sk (WQ.block (WQ.then (WC.region ?_)))
  refine wm Z ?_
  obtain ⟨c88, hm89⟩ := cs hm87; clear hm87
  refine wq Z (QV.add Z Z Z Z c88) ?_
  refine wa Z ?_
  refine WL.nil ?_
  exact WQ.again1 (i4_1 + 1) m72 (up_next hm89 hn75) (Nat.lt_succ_self _) ⟨Z, Z, Z, trivial⟩ (fun w hw => hw.pick [0, 1] (by decide))
 have hm90 := br_f h76 hm74; clear hm74
 refine WC.exit (te (te (WQ.block_exit ?_)))
 exact WQ.out1 i4_1 (up_brk hm90 hn75) ⟨Z, Z, Z, trivial⟩ (fun w hw => hw.pick [0, 1] (by decide))
end Go.Proofs.Ytaimbkndebaaiac
end
section
namespace Go.Proofs.Ytaimbkndebaaiac
open Go.Rd
open TNum TLoop
namespace TKern
theorem ag146 : AggT Try.prog 146 2 := ⟨_, Try.underlying146, rfl, by kernel_rfl⟩
theorem ag31 : AggT Try.prog 31 3 := ⟨_, Try.underlying31, rfl, by kernel_rfl⟩
theorem ag75 : AggT Try.prog 75 10 := ⟨_, Try.underlying75, rfl, by kernel_rfl⟩
theorem ar146 : ArrayT Try.prog 146 2 1 := ⟨_, Try.underlying146, by kernel_rfl⟩
theorem en118 : Go.Rd.Enters Try.prog 118 := ⟨Try.f118, Try.func118, by kernel_rfl, by kernel_rfl⟩
theorem en88 : Go.Rd.Enters Try.prog 88 := ⟨Try.f88, Try.func88, by kernel_rfl, by kernel_rfl⟩
theorem en95 : Go.Rd.Enters Try.prog 95 := ⟨Try.f95, Try.func95, by kernel_rfl, by kernel_rfl⟩
theorem en96 : Go.Rd.Enters Try.prog 96 := ⟨Try.f96, Try.func96, by kernel_rfl, by kernel_rfl⟩
theorem fd31_0 : FieldT Try.prog 31 0 0 := ⟨_, _, 0, Try.underlying31, rfl, rfl, by kernel_rfl⟩
theorem fd31_1 : FieldT Try.prog 31 1 1 := ⟨_, _, 0, Try.underlying31, rfl, rfl, by kernel_rfl⟩
theorem fd31_2 : FieldT Try.prog 31 2 2 := ⟨_, _, 0, Try.underlying31, rfl, rfl, by kernel_rfl⟩
theorem fd75_0 : FieldT Try.prog 75 0 0 := ⟨_, _, 0, Try.underlying75, rfl, rfl, by kernel_rfl⟩
theorem fd75_1 : FieldT Try.prog 75 1 1 := ⟨_, _, 0, Try.underlying75, rfl, rfl, by kernel_rfl⟩
theorem fd75_2 : FieldT Try.prog 75 2 2 := ⟨_, _, 0, Try.underlying75, rfl, rfl, by kernel_rfl⟩
theorem fd75_3 : FieldT Try.prog 75 3 3 := ⟨_, _, 0, Try.underlying75, rfl, rfl, by kernel_rfl⟩
theorem fd75_4 : FieldT Try.prog 75 4 4 := ⟨_, _, 0, Try.underlying75, rfl, rfl, by kernel_rfl⟩
theorem fd75_5 : FieldT Try.prog 75 5 5 := ⟨_, _, 0, Try.underlying75, rfl, rfl, by kernel_rfl⟩
theorem fd75_6 : FieldT Try.prog 75 6 6 := ⟨_, _, 0, Try.underlying75, rfl, rfl, by kernel_rfl⟩
theorem fd75_7 : FieldT Try.prog 75 7 7 := ⟨_, _, 0, Try.underlying75, rfl, rfl, by kernel_rfl⟩
theorem fd75_8 : FieldT Try.prog 75 8 8 := ⟨_, _, 0, Try.underlying75, rfl, rfl, by kernel_rfl⟩
theorem fd75_9 : FieldT Try.prog 75 9 9 := ⟨_, _, 0, Try.underlying75, rfl, rfl, by kernel_rfl⟩
theorem kt146 : KeyT Try.prog 146 kP := KeyT.pair Try.underlying146 Try.underlying3 (by kernel_rfl)
theorem mt145 : MapT Try.prog 145 146 3 := Try.underlying145
theorem pl29 : Plain Try.prog 29 := ⟨_, Try.underlying29, rfl⟩
theorem sl29 : SliceT Try.prog 29 75 10 := ⟨Try.underlying29, by kernel_rfl⟩
theorem sz146 : SizeT Try.prog 146 2 := by unfold SizeT; kernel_rfl
theorem sz25 : SizeT Try.prog 25 3 := by unfold SizeT; kernel_rfl
theorem sz3 : SizeT Try.prog 3 1 := by unfold SizeT; kernel_rfl
theorem sz75 : SizeT Try.prog 75 10 := by unfold SizeT; kernel_rfl
theorem sz_23 : SliceZ Try.prog 23 81 9 [.int .i64 0, .int .i64 0, .int .i64 0, .int .i64 0, .int .i64 0, .int .i64 0, .int .i64 0, .int .i64 0, .int .i64 0] := ⟨Try.underlying23, by kernel_rfl⟩
theorem ze146 : ZeroT Try.prog 146 [.int .i64 0, .int .i64 0] := by unfold ZeroT; kernel_rfl
theorem ze25 : ZeroT Try.prog 25 [.slice none 0 0, .slice none 0 0, .slice none 0 0] := by unfold ZeroT; kernel_rfl
theorem ze3 : ZeroT Try.prog 3 [.int .i64 0] := by unfold ZeroT; kernel_rfl
theorem ze75 : ZeroT Try.prog 75 [.int .i64 0, .int .i64 0, .int .i64 0, .int .i64 0, .int .i64 0, .int .i64 0, .int .i64 0, .int .i64 0, .int .i64 0, .int .i64 0] := by unfold ZeroT; kernel_rfl
theorem zv3i64v : ZVal Try.prog 3 (i64v 0) := by unfold ZVal; kernel_rfl
end TKern
open TKern
theorem kernel_Stmt_w {o : Opr} {r : Stm} (w : World) (hm : kernel_Stmt_m o = some r)  : Calls Try.prog 95 #[.agg #[.int .i64 o.slot, .int .i64 o.stage, .int .i64 o.op, .int .i64 o.dest, .int .i64 o.a, .int .i64 o.b, .int .i64 o.ar, .int .i64 o.sp, .int .i64 o.pl, .int .i64 o.n]] w (fun e w' => e = .returned (.agg #[.int .i64 r.op, .int .i64 r.a.st, .int .i64 r.a.bk, .int .i64 r.b.st, .int .i64 r.b.bk, .int .i64 r.ar, .int .i64 r.sp, .int .i64 r.pl, .int .i64 r.n]) ∧ Grow w w') := by
 unfold kernel_Stmt_m at hm
 have hk := Base.rfl (w := w)
 refine calls_of_WC (n := 14) (args := [.agg #[.int .i64 o.slot, .int .i64 o.stage, .int .i64 o.op, .int .i64 o.dest, .int .i64 o.a, .int .i64 o.b, .int .i64 o.ar, .int .i64 o.sp, .int .i64 o.pl, .int .i64 o.n]]) Try.func95 Z Z (Nat.le_of_ble_eq_true Z) ?_ (Own.startK hk (Own.start w))
 refine sr ?_
 refine WL.effect Z ?_
 refine (EV.boxAgg (by decide) Z Z (fun b1 => ?_))
 refine WL.effect Z ?_
 refine (EV.alloc (by decide) ze81 (fun b2 => ?_))
 refine ns ?_
 refine wf fd75_2 Z ?_
 refine wl pl3 Z (Own.cell 1 Z Z) ?_
 refine wf fd75_6 Z ?_
 refine wl pl3 Z (Own.cell 1 Z Z) ?_
 refine wf fd75_7 Z ?_
 refine wl pl3 Z (Own.cell 1 Z Z) ?_
 refine wf fd75_8 Z ?_
 refine wl pl3 Z (Own.cell 1 Z Z) ?_
 refine wf fd75_9 Z ?_
 refine wl pl2 Z (Own.cell 1 Z Z) ?_
 refine wq Z (QV.build (ps := [(0, .tmp 4), (3, .tmp 6), (4, .tmp 8), (5, .tmp 10), (6, .tmp 12)]) (cells := [.int .i64 o.op, .int .i64 0, .int .i64 0, .int .i64 0, .int .i64 0, .int .i64 o.ar, .int .i64 o.sp, .int .i64 o.pl, .int .i64 o.n]) (EvAll.cons Z Z (EvAll.cons Z Z (EvAll.cons Z Z (EvAll.cons Z Z (EvAll.cons Z Z EvAll.nil))))) (by kernel_rfl)) ?_
 refine WL.effect Z ?_
 refine (EV.store 0 Z Z Z Z Z Z (vs := [.int .i64 o.op, .int .i64 0, .int .i64 0, .int .i64 0, .int .i64 0, .int .i64 o.ar, .int .i64 o.sp, .int .i64 o.pl, .int .i64 o.n]) (show Value.cells _ = List.toArray _ from Z) sz81 (Nat.le_of_ble_eq_true Z) (one_cons Z (one_cons Z (one_cons Z (one_cons Z (one_cons Z (one_cons Z (one_cons Z (one_cons Z (one_cons Z one_nil))))))))) ?_)
 refine nt (WC.ret ?_)
 obtain rfl := (eq_of_some hm).symm
 refine WQ.retCell Z ag81 Z Z (Own.cellsBlk 0 Z) (fun w hw => ?_)
 exact ⟨Z, Own.kgrow (fun _ x => x) hw⟩
theorem kernel_Time_w {v_k__ops : Value} {k_ : Krn} {o : Opr} {r : Int} (w : World) (hm : kernel_Time_m k_ o = some r) (h_k__ops : Arr w v_k__ops 10 (k_.ops.map Opr.cells)) : Calls Try.prog 96 #[.agg #[.int .i64 k_.pace, .int .i64 k_.stages, v_k__ops], .agg #[.int .i64 o.slot, .int .i64 o.stage, .int .i64 o.op, .int .i64 o.dest, .int .i64 o.a, .int .i64 o.b, .int .i64 o.ar, .int .i64 o.sp, .int .i64 o.pl, .int .i64 o.n]] w (fun e w' => e = .returned (.int .i64 r) ∧ Grow w w') := by
 unfold kernel_Time_m at hm
 have hk := Base.rfl (w := w)
 refine calls_of_WC (n := 13) (args := [.agg #[.int .i64 k_.pace, .int .i64 k_.stages, v_k__ops], .agg #[.int .i64 o.slot, .int .i64 o.stage, .int .i64 o.op, .int .i64 o.dest, .int .i64 o.a, .int .i64 o.b, .int .i64 o.ar, .int .i64 o.sp, .int .i64 o.pl, .int .i64 o.n]]) Try.func96 Z Z (Nat.le_of_ble_eq_true Z) ?_ (Own.startK hk (Own.start w))
 refine sr ?_
 refine WL.effect Z ?_
 refine (EV.boxAgg (by decide) Z Z (fun b1 => ?_))
 refine WL.effect Z ?_
 refine (EV.boxAgg (by decide) Z Z (fun b2 => ?_))
 refine wa Z ?_
 refine ns ?_
 refine wf fd75_1 Z ?_
 refine wl pl3 Z (Own.cell 0 Z Z) ?_
 refine wf fd31_0 Z ?_
 refine wl pl3 Z (Own.cell 1 Z Z) ?_
 obtain ⟨c3, hm4⟩ := cs hm; clear hm
 refine wq Z (QV.mul Z Z Z Z c3) ?_
 refine wf fd75_0 Z ?_
 refine wl pl3 Z (Own.cell 0 Z Z) ?_
 obtain ⟨c5, hm6⟩ := cs hm4; clear hm4
 refine wq Z (QV.add Z Z Z Z c5) ?_
 refine wa Z ?_
 refine nt (WC.ret ?_)
 obtain rfl := (eq_of_some hm6).symm
 refine WQ.ret1 Z Z (fun w hw => ?_)
 exact ⟨Z, Own.kgrow (fun _ x => x) hw⟩
theorem kernel_op_c1_w {p_n : Addr} {p_t : Addr} {r_ : Int} {from_ : Int} {n : Int} {t : Tgt} {r : Bool} (w : World) (hm : kernel_op_c1_m r_ from_ n t = some r) (hp_n : CellsAt w p_n [.int .i64 n] 0) (hp_t : CellsAt w p_t [.int .i64 t.u0, .int .i64 t.u1, .int .i64 t.u2, .int .i64 t.w0, .int .i64 t.w1, .int .i64 t.w2, .int .i64 t.regs] 0) : Calls Try.prog 118 #[.int .i64 r_, .int .i64 from_, .pointer (some p_n), .pointer (some p_t)] w (fun e w' => e = .returned (.bool r) ∧ Grow w w') := by
 unfold kernel_op_c1_m at hm
 have hk := Base.rfl (w := w)
 refine calls_of_WC (n := 24) (args := [.int .i64 r_, .int .i64 from_, .pointer (some p_n), .pointer (some p_t)]) Try.func118 Z Z (Nat.le_of_ble_eq_true Z) ?_ (Own.startK hk (Own.start w))
 refine sr ?_
 refine wa Z ?_
 refine ns ?_
 refine wm Z ?_
 refine wq Z (QV.eql Z Z Z Z) ?_
 refine wm Z ?_
 refine gn Z (fun hG => QV.load pl3 Z Z (fun w hw => CellsAt.one 0 ((Own.kcells 0 Z hk hp_n) w hw) Z)) ?_
 refine gn Z (fun hG => QV.move Z Z) ?_
 refine gn Z (fun hG => QV.gtr Z hG Z hG) ?_
 refine gn Z (fun hG => QV.move Z hG) ?_
 refine WL.g Z Z (GuardIs.posC Z Z) (fun hG => QV.move Z Z) ?_
 refine WL.g Z Z (GuardIs.posC Z Z) (fun hG => QV.gtr Z hG Z Z) ?_
 refine gn Z (fun hG => QV.pickAnd Z hG Z (fun h => andT hG h)) ?_
 refine gn Z (fun hG => QV.move Z hG) ?_
 refine WL.g Z Z (GuardIs.posC Z Z) (fun hG => QV.move Z Z) ?_
 refine WL.g Z Z (GuardIs.posC Z Z) (fun hG => QV.fieldAddr fd28_2 Z Z) ?_
 refine WL.g Z Z (GuardIs.posC Z Z) (fun hG => QV.load pl3 Z hG (fun w hw => CellsAt.one 6 ((Own.kcells 0 Z hk hp_t) w hw) Z)) ?_
 refine WL.g Z Z (GuardIs.posC Z Z) (fun hG => QV.lss Z hG Z hG) ?_
 refine gn Z (fun hG => QV.pickAnd Z hG Z (fun h => andT hG h)) ?_
 refine wq Z (QV.pickOr Z Z Z (fun h => notF h)) ?_
 refine wa Z ?_
 refine nt (WC.ret ?_)
 obtain rfl := (eq_of_some hm).symm
 refine WQ.ret1 Z Z (fun w hw => ?_)
 exact ⟨Z, Own.kgrow (fun _ x => x) hw⟩
theorem kernel_op_w {v_k__ops : Value} {v_logs : Value} {t : Tgt} {k_ : Krn} {o : Opr} {logs : List Int} {r : Bool} (w : World) (hm : kernel_op_m t k_ o logs = some r) (h_k__ops : Arr w v_k__ops 10 (k_.ops.map Opr.cells)) (h_logs : Arr w v_logs 1 (logs.map icell)) : Calls Try.prog 88 #[.agg #[.int .i64 t.u0, .int .i64 t.u1, .int .i64 t.u2, .int .i64 t.w0, .int .i64 t.w1, .int .i64 t.w2, .int .i64 t.regs], .agg #[.int .i64 k_.pace, .int .i64 k_.stages, v_k__ops], .agg #[.int .i64 o.slot, .int .i64 o.stage, .int .i64 o.op, .int .i64 o.dest, .int .i64 o.a, .int .i64 o.b, .int .i64 o.ar, .int .i64 o.sp, .int .i64 o.pl, .int .i64 o.n], v_logs] w (fun e w' => e = .returned (.bool r) ∧ Grow w w') := by
 unfold kernel_op_m at hm
 have hk := Base.rfl (w := w)
 refine calls_of_WC (n := 88) (args := [.agg #[.int .i64 t.u0, .int .i64 t.u1, .int .i64 t.u2, .int .i64 t.w0, .int .i64 t.w1, .int .i64 t.w2, .int .i64 t.regs], .agg #[.int .i64 k_.pace, .int .i64 k_.stages, v_k__ops], .agg #[.int .i64 o.slot, .int .i64 o.stage, .int .i64 o.op, .int .i64 o.dest, .int .i64 o.a, .int .i64 o.b, .int .i64 o.ar, .int .i64 o.sp, .int .i64 o.pl, .int .i64 o.n], v_logs]) Try.func88 Z Z (Nat.le_of_ble_eq_true Z) ?_ (Own.startK hk (Own.start w))
 refine sr ?_
 refine WL.effect Z ?_
 refine (EV.boxAgg (by decide) Z Z (fun b1 => ?_))
 refine WL.effect Z ?_
 refine (EV.boxAgg (by decide) Z Z (fun b2 => ?_))
 refine WL.effect Z ?_
 refine (EV.boxAgg (by decide) Z Z (fun b3 => ?_))
 refine wa Z ?_
 refine ns ?_
 refine wq Z (QV.loadAgg ag75 Z Z Z (Own.cellsBlk 0 Z)) ?_
 obtain ⟨x4, hx5, hm6⟩ := bd_some hm; clear hm
 refine wq Z (QV.call en95 (EvAll.cons Z Z EvAll.nil) (fun w hw => have h := kernel_Stmt_w w hx5 ; h)) ?_
 refine WL.effect Z ?_
 refine (EV.alloc (by decide) ze81 (fun b7 => ?_))
 refine WL.effect Z ?_
 refine (EV.store 0 Z Z Z Z Z Z (vs := x4.cells) (show Value.cells _ = List.toArray _ from Z) sz81 (Nat.le_of_ble_eq_true Z) (one_cons Z (one_cons Z (one_cons Z (one_cons Z (one_cons Z (one_cons Z (one_cons Z (one_cons Z (one_cons Z one_nil))))))))) ?_)
 refine ns ?_
 refine wq Z (QV.loadAgg ag81 Z Z Z (Own.cellsBlk 0 Z)) ?_
 refine WL.effect Z ?_
 obtain ⟨x8, hx9, hm10⟩ := bd_some hm6; clear hm6
 refine EV.of (C' := Own noM w [kn noM w.heap.size w w, blk b7 x4.cells 81, blk b3 o.cells 75, blk b2 [.int .i64 k_.pace, .int .i64 k_.stages, v_k__ops] 31, blk b1 t.cells 28]) (fun w hw => hw.pick [4, 0, 1, 2, 3] (by decide)) ?_
 refine (EV.callR (X := Value × World) (R := []) (fun X => X.1) (fun X => []) (fun X => X.2) (fun X => Arr X.2 X.1 2 (x8.map Rf.cells)) hk (fun _ h => by cases h; decide) en66 (EvAll.cons Z Z EvAll.nil) (fun M w h1 h2 => have h := loop_Uses_w hx9  M w h1 h2; h) (fun X11 hF11 hle11 => ?_))
 refine wq Z (QV.lenS Try.underlying76 Z Z hF11.lenMap) ?_
 refine WL.effect Z ?_
 refine (EV.alloc (by decide) ze3 (fun b12 => ?_))
 refine WL.effect Z ?_
 refine (EV.store 0 Z Z Z Z Z Z (vs := [.int .i64 (ln x8)]) (show Value.cells _ = List.toArray _ from Z) sz3 (Nat.le_of_ble_eq_true Z) (one_cons Z one_nil) ?_)
 refine ns ?_
 refine wq Z (QV.makeFunc (EvAll.cons Z Z (EvAll.cons Z Z EvAll.nil))) ?_
 refine wa Z ?_
 refine nt (WC.seq (sr ?_))
 refine wl pl3 Z (Own.cell 0 Z Z) ?_
 refine wq Z (QV.gtr Z Z Z Z) ?_
 refine nt ?_
 obtain ⟨o13, hj14, hm15⟩ := bd_some hm10; clear hm10
 refine WC.joint4 (H2 := [blk b12 [.int .i64 (ln x8)] 3, kn noM w.heap.size w X11.2, blk b3 o.cells 75, blk b2 [.int .i64 k_.pace, .int .i64 k_.stages, v_k__ops] 31, blk b1 t.cells 28]) (τ := [(3, (true, _)), (4, (true, _)), (5, (true, _)), (6, (true, _)), (9, (true, _)), (11, (true, _))]) (fun (b7c1_1 : Int) (b7c2_1 : Int) (b7c3_1 : Int) (b7c4_1 : Int) => []) (fun b7c1_1 b7c2_1 b7c3_1 b7c4_1 => [blk b7 [.int .i64 x4.op, .int .i64 b7c1_1, .int .i64 b7c2_1, .int .i64 b7c3_1, .int .i64 b7c4_1, .int .i64 x4.ar, .int .i64 x4.sp, .int .i64 x4.pl, .int .i64 x4.n] 81]) (fun b7c1_1 b7c2_1 b7c3_1 b7c4_1 => o13 = .go (b7c1_1, b7c2_1, b7c3_1, b7c4_1)) ⟨Z, Z, Z, Z, Z, Z, trivial⟩ (fun w hw => hw.pick [0, 1, 3, 4, 5] (by decide)) ?_ ?_
 ·skip
  rintro b7c1_1 b7c2_1 b7c3_1 b7c4_1 rfl
  refine sr ?_
  refine wm Z ?_
  refine wq Z (QV.build (ps := [(0, .const (.int .i64 1))]) (cells := [.int .i64 1, .int .i64 0, .int .i64 0, .int .i64 0, .int .i64 0, .int .i64 0, .int .i64 0, .int .i64 0, .int .i64 0]) (EvAll.cons Z Z EvAll.nil) (by kernel_rfl)) ?_
  refine wq Z (QV.loadAgg ag81 Z Z Z (Own.cellsBlk 0 Z)) ?_
  refine WL.effect Z ?_
  refine (EV.buildSlice (by decide) sz_23 (by decide) (by decide) (ps := [(0, .tmp 27), (1, .tmp 28)]) (cells := [.int .i64 1, .int .i64 0, .int .i64 0, .int .i64 0, .int .i64 0, .int .i64 0, .int .i64 0, .int .i64 0, .int .i64 0, .int .i64 x4.op, .int .i64 b7c1_1, .int .i64 b7c2_1, .int .i64 b7c3_1, .int .i64 b7c4_1, .int .i64 x4.ar, .int .i64 x4.sp, .int .i64 x4.pl, .int .i64 x4.n]) (EvAll.cons Z Z (EvAll.cons Z Z EvAll.nil)) (by kernel_rfl) (fun b16 => ?_))
  refine wq Z (QV.buildS (ps := [(0, .tmp 26), (1, .tmp 29)]) (cells := [v_logs, (blkSlice b16 2 2), .slice none 0 0]) (css := [[v_logs], [(blkSlice b16 2 2)]]) (EvAll.cons Z Z (EvAll.cons Z Z EvAll.nil)) (CellsAll.cons (SliceLen.cells (h_logs.le hle11).lenMap) (CellsAll.cons (SliceLen.cells SliceLen.blk) CellsAll.nil)) (by kernel_rfl)) ?_
  refine WL.effect Z ?_
  refine (EV.alloc (by decide) ze25 (fun b17 => ?_))
  refine WL.effect Z ?_
  refine (EV.store 0 Z Z Z Z Z Z (vs := [v_logs, (blkSlice b16 2 2), .slice none 0 0]) (show Value.cells _ = List.toArray _ from Z) sz25 (Nat.le_of_ble_eq_true Z) (one_cons (SliceLen.one (h_logs.le hle11).lenMap) (one_cons (SliceLen.one SliceLen.blk) (one_cons Z one_nil))) ?_)
  refine ns ?_
  refine wf fd75_0 Z ?_
  refine wl pl3 Z (Own.cell 5 Z Z) ?_
  refine wq Z (QV.geq Z Z Z Z) ?_
  refine wm Z ?_
  refine gp Z (fun hG => QV.fieldAddr fd75_0 Z Z) ?_
  refine gp Z (fun hG => QV.load pl3 Z hG (Own.cell 5 Z Z)) ?_
  refine gp Z (fun hG => QV.fieldAddr fd31_0 Z Z) ?_
  refine gp Z (fun hG => QV.load pl3 Z hG (Own.cell 6 Z Z)) ?_
  refine gp Z (fun hG => QV.lss Z hG Z hG) ?_
  refine wq Z (QV.pickAnd Z Z Z (fun h => h)) ?_
  refine wm Z ?_
  refine gp Z (fun hG => QV.fieldAddr fd75_1 Z Z) ?_
  refine gp Z (fun hG => QV.load pl3 Z hG (Own.cell 5 Z Z)) ?_
  refine gp Z (fun hG => QV.geq Z hG Z Z) ?_
  refine wq Z (QV.pickAnd Z Z Z (fun h => h)) ?_
  refine wm Z ?_
  refine gp Z (fun hG => QV.fieldAddr fd75_1 Z Z) ?_
  refine gp Z (fun hG => QV.load pl3 Z hG (Own.cell 5 Z Z)) ?_
  refine gp Z (fun hG => QV.fieldAddr fd31_1 Z Z) ?_
  refine gp Z (fun hG => QV.load pl3 Z hG (Own.cell 6 Z Z)) ?_
  refine gp Z (fun hG => QV.lss Z hG Z hG) ?_
  refine wq Z (QV.pickAnd Z Z Z (fun h => h)) ?_
  refine wm Z ?_
  refine gp Z (fun hG => QV.loadAgg ag31 Z Z Z (Own.cellsBlk 6 Z)) ?_
  refine gp Z (fun hG => QV.loadAgg ag75 Z Z Z (Own.cellsBlk 5 Z)) ?_
  obtain ⟨x18, hx19, hm20⟩ := bdG_some hm15; clear hm15
  refine gp Z (fun hG => QV.call en96 (EvAll.cons Z hG (EvAll.cons Z hG EvAll.nil)) (fun w hw => have h := kernel_Time_w w (hx19 hG) ((Own.karr 4 Z hk (h_k__ops.le hle11)) w hw); h)) ?_
  refine gp Z (fun hG => QV.leq Z hG Z Z) ?_
  refine wq Z (QV.pickAnd Z Z Z (fun h => h)) ?_
  refine wa Z ?_
  refine ns ?_
  refine wm Z ?_
  refine wm Z ?_
  refine gp Z (fun hG => QV.loadAgg ag25 Z Z Z (Own.cellsBlk 0 Z)) ?_
  obtain ⟨x21, hx22, hm23⟩ := bdG_some hm20; clear hm20
  refine gp Z (fun hG => QV.call en38 (EvAll.cons Z hG EvAll.nil) (fun w hw => have h := loop_May_w w (hx22 hG) ((Own.karr 4 Z hk (h_logs.le hle11)) w hw) ((Own.blkArr 1 (rows := [(Stm.mk 1 (Rf.mk 0 0) (Rf.mk 0 0) 0 0 0 0), (Stm.mk x4.op (Rf.mk b7c1_1 b7c2_1) (Rf.mk b7c3_1 b7c4_1) x4.ar x4.sp x4.pl x4.n)].map Stm.cells) Z Z (rows_len Stm.cells_len)) w hw) Arr.nil; h)) ?_
  refine wq Z (QV.pickAnd Z Z Z (fun h => h)) ?_
  refine wm Z ?_
  refine gp Z (fun hG => QV.fieldAddr fd75_3 Z Z) ?_
  refine gp Z (fun hG => QV.load pl3 Z hG (Own.cell 5 Z Z)) ?_
  refine gp Z (fun hG => QV.geq Z hG Z Z) ?_
  refine wq Z (QV.pickAnd Z Z Z (fun h => h)) ?_
  refine wm Z ?_
  refine gp Z (fun hG => QV.fieldAddr fd75_3 Z Z) ?_
  refine gp Z (fun hG => QV.load pl3 Z hG (Own.cell 5 Z Z)) ?_
  refine gp Z (fun hG => QV.fieldAddr fd28_2 Z Z) ?_
  refine gp Z (fun hG => QV.load pl3 Z hG (Own.cell 7 Z Z)) ?_
  refine gp Z (fun hG => QV.lss Z hG Z hG) ?_
  refine wq Z (QV.pickAnd Z Z Z (fun h => h)) ?_
  refine wm Z ?_
  refine gp Z (fun hG => QV.move Z Z) ?_
  refine gp Z (fun hG => QV.fieldAddr fd75_4 Z Z) ?_
  refine gp Z (fun hG => QV.load pl3 Z hG (Own.cell 5 Z Z)) ?_
  obtain ⟨x24, hx25, hm26⟩ := bdG_some hm23; clear hm23
  refine gp Z (fun hG => QV.callV en118 Z hG (EvAll.cons Z hG (EvAll.cons Z Z EvAll.nil)) (fun w hw => have h := kernel_op_c1_w w (hx25 hG) (Own.cellsBlk 3 Z w hw) (Own.cellsBlk 7 Z w hw); h)) ?_
  refine wq Z (QV.pickAnd Z Z Z (fun h => h)) ?_
  refine wm Z ?_
  refine gp Z (fun hG => QV.move Z Z) ?_
  refine gp Z (fun hG => QV.fieldAddr fd75_5 Z Z) ?_
  refine gp Z (fun hG => QV.load pl3 Z hG (Own.cell 5 Z Z)) ?_
  obtain ⟨x27, hx28, hm29⟩ := bdG_some hm26; clear hm26
  refine gp Z (fun hG => QV.callV en118 Z hG (EvAll.cons Z hG (EvAll.cons Z Z EvAll.nil)) (fun w hw => have h := kernel_op_c1_w w (hx28 hG) (Own.cellsBlk 3 Z w hw) (Own.cellsBlk 7 Z w hw); h)) ?_
  refine wq Z (QV.pickAnd Z Z Z (fun h => h)) ?_
  refine wa Z ?_
  refine nt (WC.ret ?_)
  obtain rfl := (eq_of_some hm29).symm
  refine WQ.ret1 Z Z (fun w hw => ?_)
  exact ⟨Z, Own.kgrow (fun _ x => x) hw⟩
 refine WC.cond Z (fun h30 => ?_) (fun h30 => ?_)
 ·skip
  have hm31 := br_t h30 hj14; clear hj14
  refine WC.region ?_
  refine wq Z (QV.build (ps := []) (cells := [.int .i64 0, .int .i64 0]) EvAll.nil (by kernel_rfl)) ?_
  refine wq Z (QV.build (ps := []) (cells := [.int .i64 0, .int .i64 0]) EvAll.nil (by kernel_rfl)) ?_
  refine wf fd81_1 Z ?_
  refine WL.effect Z ?_
  refine (EV.store 2 Z Z Z Z Z Z (vs := [.int .i64 0, .int .i64 0]) (show Value.cells _ = List.toArray _ from Z) sz79 (Nat.le_of_ble_eq_true Z) (one_cons Z (one_cons Z one_nil)) ?_)
  refine wf fd81_2 Z ?_
  refine WL.effect Z ?_
  refine (EV.store 2 Z Z Z Z Z Z (vs := [.int .i64 0, .int .i64 0]) (show Value.cells _ = List.toArray _ from Z) sz79 (Nat.le_of_ble_eq_true Z) (one_cons Z (one_cons Z one_nil)) ?_)
  refine WL.nil ?_
  exact WQ.out4 0 0 0 0 (eq_of_some hm31) ⟨Z, Z, Z, Z, Z, Z, trivial⟩ (fun w hw => hw.pick [2, 0, 1, 3, 4, 5] (by decide))
 have hm32 := br_f h30 hj14; clear hj14
 refine sk ?_
 exact WQ.out4 x4.a.st x4.a.bk x4.b.st x4.b.bk (eq_of_some hm32) ⟨Z, Z, Z, Z, Z, Z, trivial⟩ (fun w hw => hw.pick [2, 0, 1, 3, 4, 5] (by decide))
theorem kernel_May_w {v_k__ops : Value} {v_logs : Value} {t : Tgt} {k_ : Krn} {logs : List Int} {r : Bool} (w : World) (hm : kernel_May_m t k_ logs = some r) (h_k__ops : Arr w v_k__ops 10 (k_.ops.map Opr.cells)) (h_logs : Arr w v_logs 1 (logs.map icell)) : Calls Try.prog 56 #[.agg #[.int .i64 t.u0, .int .i64 t.u1, .int .i64 t.u2, .int .i64 t.w0, .int .i64 t.w1, .int .i64 t.w2, .int .i64 t.regs], .agg #[.int .i64 k_.pace, .int .i64 k_.stages, v_k__ops], v_logs] w (fun e w' => e = .returned (.bool r) ∧ Grow w w') := by
 unfold kernel_May_m at hm
 have hk := Base.rfl (w := w)
 refine calls_of_WC (n := 82) (args := [.agg #[.int .i64 t.u0, .int .i64 t.u1, .int .i64 t.u2, .int .i64 t.w0, .int .i64 t.w1, .int .i64 t.w2, .int .i64 t.regs], .agg #[.int .i64 k_.pace, .int .i64 k_.stages, v_k__ops], v_logs]) Try.func56 Z Z (Nat.le_of_ble_eq_true Z) ?_ (Own.startK hk (Own.start w))
 refine sr ?_
 refine WL.effect Z ?_
 refine (EV.boxAgg (by decide) Z Z (fun b1 => ?_))
 refine WL.effect Z ?_
 refine (EV.boxAgg (by decide) Z Z (fun b2 => ?_))
 refine wa Z ?_
 refine nt (WC.seq (sr ?_))
 refine wq Z (QV.loadAgg ag28 Z Z Z (Own.cellsBlk 1 Z)) ?_
 obtain ⟨x3, hx4, hm5⟩ := bd_some hm; clear hm
 refine wq Z (QV.call en39 (EvAll.cons Z Z EvAll.nil) (fun w hw => have h := target_May_w w hx4 ; h)) ?_
 refine wq Z (QV.not Z Z) ?_
 refine wm Z ?_
 refine gn Z (fun hG => QV.fieldAddr fd31_0 Z Z) ?_
 refine gn Z (fun hG => QV.load pl3 Z hG (Own.cell 0 Z Z)) ?_
 refine gn Z (fun hG => QV.lss Z hG Z Z) ?_
 refine wq Z (QV.pickOr Z Z Z (fun h => notF h)) ?_
 refine wm Z ?_
 refine gn Z (fun hG => QV.fieldAddr fd31_0 Z Z) ?_
 refine gn Z (fun hG => QV.load pl3 Z hG (Own.cell 0 Z Z)) ?_
 refine gn Z (fun hG => QV.gtr Z hG Z Z) ?_
 refine wq Z (QV.pickOr Z Z Z (fun h => notF h)) ?_
 refine wm Z ?_
 refine gn Z (fun hG => QV.fieldAddr fd31_1 Z Z) ?_
 refine gn Z (fun hG => QV.load pl3 Z hG (Own.cell 0 Z Z)) ?_
 refine gn Z (fun hG => QV.lss Z hG Z Z) ?_
 refine wq Z (QV.pickOr Z Z Z (fun h => notF h)) ?_
 refine wm Z ?_
 refine gn Z (fun hG => QV.fieldAddr fd31_1 Z Z) ?_
 refine gn Z (fun hG => QV.load pl3 Z hG (Own.cell 0 Z Z)) ?_
 refine gn Z (fun hG => QV.gtr Z hG Z Z) ?_
 refine wq Z (QV.pickOr Z Z Z (fun h => notF h)) ?_
 refine wm Z ?_
 refine gn Z (fun hG => QV.fieldAddr fd31_2 Z Z) ?_
 refine gn Z (fun hG => QV.load pl29 Z hG (Own.cell 0 Z Z)) ?_
 refine gn Z (fun hG => QV.lenS Try.underlying29 Z hG h_k__ops.lenMap) ?_
 refine gn Z (fun hG => QV.lss Z hG Z Z) ?_
 refine wq Z (QV.pickOr Z Z Z (fun h => notF h)) ?_
 refine wm Z ?_
 refine gn Z (fun hG => QV.fieldAddr fd31_2 Z Z) ?_
 refine gn Z (fun hG => QV.load pl29 Z hG (Own.cell 0 Z Z)) ?_
 refine gn Z (fun hG => QV.lenS Try.underlying29 Z hG h_k__ops.lenMap) ?_
 refine gn Z (fun hG => QV.gtr Z hG Z Z) ?_
 refine wq Z (QV.pickOr Z Z Z (fun h => notF h)) ?_
 refine nt ?_
 refine WC.cond Z (fun h6 => ?_) (fun h6 => ?_)
 ·skip
  have hm7 := br_t h6 hm5; clear hm5
  refine sr ?_
  refine wa Z ?_
  refine nt (WC.ret (tr ?_))
  obtain rfl := (eq_of_some hm7).symm
  refine WQ.ret1 Z Z (fun w hw => ?_)
  exact ⟨Z, Own.kgrow (fun _ x => x) hw⟩
 have hm8 := br_f h6 hm5; clear hm5
 refine sk (WQ.then (sr ?_))
 refine WL.effect Z ?_
 refine (EV.makeMap (ke := kP) (ve := i64v) (by decide) (fun b9 => ?_))
 refine wa Z ?_
 refine nt (WC.seq (sr ?_))
 refine wf fd31_2 Z ?_
 refine wl pl29 Z (Own.cell 1 Z Z) ?_
 refine wq Z (QV.lenS Try.underlying29 Z Z h_k__ops.lenMap) ?_
 refine wm Z ?_
 refine nt ?_
 obtain ⟨o10, ho11, hm12⟩ := bd_some hm8; clear hm8; obtain ⟨n13, ho14⟩ := lp_some ho11
 refine WC.bloop2 (H2 := [blk b2 [.int .i64 k_.pace, .int .i64 k_.stages, v_k__ops] 31, blk b1 t.cells 28, kn noM w.heap.size w w]) (τ := [(2, (true, _)), (3, (true, _)), (4, (true, _)), (7, (true, _)), (48, (true, _)), (49, (true, _))]) (fun (m9n_1 : List ((Int × Int) × Int)) (x50_1 : Int) => [(50, (true, .int .i64 x50_1))]) (fun m9n_1 x50_1 => [mapR b9 kP i64v m9n_1]) (fun m9n_1 x50_1 m => iter (kernel_May_L0 t k_ logs) m (m9n_1, x50_1) = some o10) (fun m9n_1 x50_1 => o10 = .go (m9n_1, x50_1)) ([] : List ((Int × Int) × Int)) 0 n13 ho14 ⟨Z, Z, Z, Z, Z, Z, Z, trivial⟩ (fun w hw => hw.pick [0, 1, 2, 3] (by decide)) ?_ ?_
 ·skip
  rintro m9n_1 x50_1 rfl
  refine WQ.then (sr ?_)
  refine wa Z ?_
  refine nt (WC.ret ?_)
  obtain rfl := (eq_of_some hm12).symm
  refine WQ.ret1 Z Z (fun w hw => ?_)
  exact ⟨Z, Own.kgrow (fun _ x => x) hw⟩
 rintro m9n_1 x50_1 m15 hI16
 obtain ⟨m17, s18, rfl, hm19, hn20⟩ := iter_step hI16; clear hI16; unfold kernel_May_L0 at hm19; simp only at hm19
 refine sr ?_
 refine wq Z (QV.lss Z Z Z Z) ?_
 refine nt (WC.seq ?_)
 refine WC.cond Z (fun h21 => ?_) (fun h21 => ?_)
 ·skip
  have hm22 := br_t h21 hm19; clear hm19
  refine sk (WQ.then (WC.seq (WC.block (sr ?_))))
  obtain ⟨c23, hm24⟩ := cs hm22; clear hm22
  obtain ⟨p25, hp26⟩ := h_k__ops.lenMap.ix (sz := 10) ln_len c23
  refine wq Z (QV.indexSlice sl29 Z Z Z Z hp26) ?_
  refine wq Z (QV.loadAgg ag75 Z Z Z (fun w hw => ((Own.karr 3 Z hk h_k__ops) w hw).ele hp26 c23)) ?_
  refine WL.effect Z ?_
  refine (EV.alloc (by decide) ze75 (fun b27 => ?_))
  refine WL.effect Z ?_
  refine (EV.store 0 Z Z Z Z Z Z (vs := (Opr.cells (ele k_.ops x50_1))) (show Value.cells _ = List.toArray _ from Z) sz75 (Nat.le_of_ble_eq_true Z) (one_cons Z (one_cons Z (one_cons Z (one_cons Z (one_cons Z (one_cons Z (one_cons Z (one_cons Z (one_cons Z (one_cons Z one_nil)))))))))) ?_)
  refine nt (WC.seq (sr ?_))
  refine wq Z (QV.loadAgg ag28 Z Z Z (Own.cellsBlk 3 Z)) ?_
  refine wq Z (QV.loadAgg ag31 Z Z Z (Own.cellsBlk 2 Z)) ?_
  refine wq Z (QV.loadAgg ag75 Z Z Z (Own.cellsBlk 0 Z)) ?_
  refine wm Z ?_
  obtain ⟨x28, hx29, hm30⟩ := bd_some hm24; clear hm24
  refine wq Z (QV.call en88 (EvAll.cons Z Z (EvAll.cons Z Z (EvAll.cons Z Z (EvAll.cons Z Z EvAll.nil)))) (fun w hw => have h := kernel_op_w w hx29 ((Own.karr 4 Z hk h_k__ops) w hw) ((Own.karr 4 Z hk h_logs) w hw); h)) ?_
  refine wq Z (QV.not Z Z) ?_
  refine nt ?_
  refine WC.cond Z (fun h31 => ?_) (fun h31 => ?_)
  ·skip
   have hm32 := br_t h31 hm30; clear hm30
   refine sr ?_
   refine wa Z ?_
   refine nt (WC.ret (tr (kr (tr (tr (kr (tr (tr ?_))))))))
   obtain rfl := up_ret hm32 hn20
   obtain rfl := (eq_of_some hm12).symm
   refine WQ.ret1 Z Z (fun w hw => ?_)
   exact ⟨Z, Own.kgrow (fun _ x => x) hw⟩
  have hm33 := br_f h31 hm30; clear hm30
  refine sk (WQ.then (WC.seq ?_))
  refine WC.dr (m := 8) (S := Own noM w [kn noM w.heap.size w w, blk b27 (Opr.cells (ele k_.ops x50_1)) 75, mapR b9 kP i64v m9n_1, blk b2 [.int .i64 k_.pace, .int .i64 k_.stages, v_k__ops] 31, blk b1 t.cells 28]) (by kernel_rfl) (by kernel_rfl) (fun w hw => hw.pick [4, 0, 1, 2, 3] (by decide)) ?_
  refine wz 0 Z Z (QV.fieldAddr fd75_0 Z Z) ?_
  refine wz 1 Z Z (QV.load pl3 Z Z (Own.cell 1 Z Z)) ?_
  refine wz 2 Z Z (QV.fieldAddr fd75_2 Z Z) ?_
  refine wz 3 Z Z (QV.load pl3 Z Z (Own.cell 1 Z Z)) ?_
  obtain ⟨x34, hx35, hm36⟩ := bd_some hm33; clear hm33
  refine wz 4 Z Z (QV.call en89 (EvAll.cons Z Z EvAll.nil) (fun w hw => have h := num_Class_w w hx35 ; h)) ?_
  refine wz 5 Z Z (QV.build (ps := [(0, .tmp 61), (1, .tmp 64)]) (cells := [.int .i64 ((ele k_.ops x50_1).slot), .int .i64 x34]) (EvAll.cons Z Z (EvAll.cons Z Z EvAll.nil)) (by kernel_rfl)) ?_
  refine WD.o 6 Z (by kernel_rfl) Z ?_
  refine (EV.alloc (by decide) ze146 (fun b37 => ?_))
  refine WD.b (H' := [kn noM w.heap.size w w, blk b37 [.int .i64 0, .int .i64 0] 146, blk b27 (Opr.cells (ele k_.ops x50_1)) 75, mapR b9 kP i64v m9n_1, blk b2 [.int .i64 k_.pace, .int .i64 k_.stages, v_k__ops] 31, blk b1 t.cells 28]) (fun w hw => hw.pick [5, 0, 1, 2, 3, 4] (by decide)) (fun w hw => hw.pick [0, 2, 3, 4, 5] (by decide)) ?_
  refine WD.l 7 Z (by kernel_rfl) Z ?_
  refine (EV.store 0 Z Z Z Z Z Z (vs := [.int .i64 ((ele k_.ops x50_1).slot), .int .i64 x34]) (show Value.cells _ = List.toArray _ from Z) sz146 (Nat.le_of_ble_eq_true Z) (one_cons Z (one_cons Z one_nil)) ?_)
  refine WQ.then (WC.seq ?_)
  refine WC.dr (m := 7) (S := Own noM w [kn noM w.heap.size w w, blk b37 [.int .i64 ((ele k_.ops x50_1).slot), .int .i64 x34] 146, blk b27 (Opr.cells (ele k_.ops x50_1)) 75, mapW b9 kP i64v 0 m9n_1, blk b2 [.int .i64 k_.pace, .int .i64 k_.stages, v_k__ops] 31, blk b1 t.cells 28]) (by kernel_rfl) (by kernel_rfl) (fun w hw => Own.mapWeak 3 0 Z (hw.pick [5, 0, 1, 2, 3, 4] (by decide))) ?_
  refine wz 0 Z Z (QV.move Z Z) ?_
  refine wz 1 Z Z (QV.loadAgg ag146 Z Z Z (Own.cellsBlk 1 Z)) ?_
  refine wz 2 Z Z (QV.lookupW (k := ((ele k_.ops x50_1).slot, x34)) 3 0 mt145 kt146 zv3i64v Z Z Z Z Z) ?_
  obtain ⟨c38, hm39⟩ := cs hm36; clear hm36
  refine wz 3 Z Z (QV.add Z Z Z Z c38) ?_
  refine WD.o 4 Z (by kernel_rfl) Z ?_
  refine (EV.mapEntry (by decide) ((ele k_.ops x50_1).slot, x34) 2 0 mt145 kt146 zv3i64v Z Z Z Z Z (fun s40 => ?_))
  refine WD.b (H' := [kn noM w.heap.size w w, blk b37 [.int .i64 ((ele k_.ops x50_1).slot), .int .i64 x34] 146, blk b27 (Opr.cells (ele k_.ops x50_1)) 75, mapW b9 kP i64v 0 m9n_1, blk b2 [.int .i64 k_.pace, .int .i64 k_.stages, v_k__ops] 31, blk b1 t.cells 28]) (fun w hw => Own.midWeak 3 Z (hw.pick [5, 0, 1, 2, 3, 4] (by decide))) (fun w hw => hw.pick [0, 1, 2, 3, 4, 5] (by decide)) ?_
  refine wz 5 Z Z (QV.extract Z Z Z) ?_
  refine WD.l 6 Z (by kernel_rfl) Z ?_
  refine (EV.entryStore (ke := kP) (ve := i64v) ((ele k_.ops x50_1).slot, x34) 2 ((mget m9n_1 ((ele k_.ops x50_1).slot, x34) 0) + 1) s40 Z Z Z Z Z Z Z ?_)
  refine WQ.then (WC.seq ?_)
  refine WC.dr (m := 9) (S := Own noM w [kn noM w.heap.size w w, blk b37 [.int .i64 ((ele k_.ops x50_1).slot), .int .i64 x34] 146, blk b27 (Opr.cells (ele k_.ops x50_1)) 75, mapR b9 kP i64v (mput m9n_1 ((ele k_.ops x50_1).slot, x34) ((mget m9n_1 ((ele k_.ops x50_1).slot, x34) 0) + 1)), blk b2 [.int .i64 k_.pace, .int .i64 k_.stages, v_k__ops] 31, blk b1 t.cells 28]) (by kernel_rfl) (by kernel_rfl) (fun w hw => hw.pick [5, 0, 1, 2, 3, 4] (by decide)) ?_
  refine wz 0 Z Z (QV.move Z Z) ?_
  refine wz 1 Z Z (QV.loadAgg ag146 Z Z Z (Own.cellsBlk 1 Z)) ?_
  refine wz 2 Z Z (QV.lookup (k := ((ele k_.ops x50_1).slot, x34)) 3 0 mt145 kt146 zv3i64v Z Z Z Z Z) ?_
  refine wz 3 Z Z (QV.indexArray ar146 Z Z Z Z (by decide) (by decide)) ?_
  refine wz 4 Z Z (QV.load pl3 Z Z (Own.cell 1 Z Z)) ?_
  refine wz 5 Z Z (QV.fieldAddr fd28_0 Z Z) ?_
  obtain ⟨c41, hm42⟩ := cs hm39; clear hm39
  refine wz 6 Z Z (QV.indexArray ar26 Z Z Z Z c41.1 c41.2) ?_
  refine wz 7 Z Z (QV.load pl3 Z Z (Own.cellSym 5 Z (sel3_get (off := 0) (i := x34) c41.1 c41.2 Z Z Z) (addr_sym _ _ _))) ?_
  refine wz 8 Z Z (QV.gtr Z Z Z Z) ?_
  refine WD.e (by kernel_rfl) ?_
  refine WQ.then ?_
  refine WC.cond Z (fun h43 => ?_) (fun h43 => ?_)
  ·skip
   have hm44 := br_t h43 hm42; clear hm42
   refine sr ?_
   refine wa Z ?_
   refine nt (WC.ret (kr (tr (tr (kr (tr (tr ?_)))))))
   obtain rfl := up_ret hm44 hn20
   obtain rfl := (eq_of_some hm12).symm
   refine WQ.ret1 Z Z (fun w hw => ?_)
   exact ⟨Z, Own.kgrow (fun _ x => x) hw⟩
  have hm45 := br_f h43 hm42; clear hm42
  refine sk (WQ.block (WQ.then (WC.region ?_)))
  obtain ⟨c46, hm47⟩ := cs hm45; clear hm45
  refine wq Z (QV.add Z Z Z Z c46) ?_
  refine wm Z ?_
  refine WL.nil ?_
  exact WQ.again2 (mput m9n_1 ((ele k_.ops x50_1).slot, x34) ((mget m9n_1 ((ele k_.ops x50_1).slot, x34) 0) + 1)) (x50_1 + 1) m17 (up_next hm47 hn20) (Nat.lt_succ_self _) ⟨Z, Z, Z, Z, Z, Z, Z, trivial⟩ (fun w hw => hw.pick [2, 3, 4, 5] (by decide))
 have hm48 := br_f h21 hm19; clear hm19
 refine WC.exit (te (te (WQ.block_exit ?_)))
 exact WQ.out2 m9n_1 x50_1 (up_brk hm48 hn20) ⟨Z, Z, Z, Z, Z, Z, Z, trivial⟩ (fun w hw => hw.pick [0, 1, 2, 3] (by decide))
end Go.Proofs.Ytaimbkndebaaiac
end
section
namespace Go.Proofs.Ytaimbkndebaaiac
open Go.Rd
open TNum TLoop TKern
namespace TKeep
theorem ag185 : AggT Try.prog 185 2 := ⟨_, Try.underlying185, rfl, by kernel_rfl⟩
theorem en101 : Go.Rd.Enters Try.prog 101 := ⟨Try.f101, Try.func101, by kernel_rfl, by kernel_rfl⟩
theorem en102 : Go.Rd.Enters Try.prog 102 := ⟨Try.f102, Try.func102, by kernel_rfl, by kernel_rfl⟩
theorem en125 : Go.Rd.Enters Try.prog 125 := ⟨Try.f125, Try.func125, by kernel_rfl, by kernel_rfl⟩
theorem en138 : Go.Rd.Enters Try.prog 138 := ⟨Try.f138, Try.func138, by kernel_rfl, by kernel_rfl⟩
theorem en36 : Go.Rd.Enters Try.prog 36 := ⟨Try.f36, Try.func36, by kernel_rfl, by kernel_rfl⟩
theorem fd185_0 : FieldT Try.prog 185 0 0 := ⟨_, _, 0, Try.underlying185, rfl, rfl, by kernel_rfl⟩
theorem fd185_1 : FieldT Try.prog 185 1 1 := ⟨_, _, 0, Try.underlying185, rfl, rfl, by kernel_rfl⟩
theorem fd87_0 : FieldT Try.prog 87 0 0 := ⟨_, _, 2, Try.underlying87, rfl, rfl, by kernel_rfl⟩
theorem fd87_1 : FieldT Try.prog 87 1 3 := ⟨_, _, 0, Try.underlying87, rfl, rfl, by kernel_rfl⟩
theorem fd87_2 : FieldT Try.prog 87 2 4 := ⟨_, _, 0, Try.underlying87, rfl, rfl, by kernel_rfl⟩
theorem fd87_3 : FieldT Try.prog 87 3 5 := ⟨_, _, 0, Try.underlying87, rfl, rfl, by kernel_rfl⟩
theorem fd87_4 : FieldT Try.prog 87 4 6 := ⟨_, _, 0, Try.underlying87, rfl, rfl, by kernel_rfl⟩
theorem fd87_5 : FieldT Try.prog 87 5 7 := ⟨_, _, 0, Try.underlying87, rfl, rfl, by kernel_rfl⟩
theorem kt3 : KeyT Try.prog 3 kI := KeyT.int Try.underlying3
theorem mt154 : MapT Try.prog 154 3 4 := Try.underlying154
theorem pl4 : Plain Try.prog 4 := ⟨_, Try.underlying4, rfl⟩
theorem sl162 : SliceT Try.prog 162 185 2 := ⟨Try.underlying162, by kernel_rfl⟩
theorem sz185 : SizeT Try.prog 185 2 := by unfold SizeT; kernel_rfl
theorem sz_162 : SliceZ Try.prog 162 185 2 [.int .i64 0, .bool false] := ⟨Try.underlying162, by kernel_rfl⟩
theorem ve162 : VecT Try.prog 162 185 2 16 := ⟨Try.underlying162, by kernel_rfl, by decide⟩
theorem ze185 : ZeroT Try.prog 185 [.int .i64 0, .bool false] := by unfold ZeroT; kernel_rfl
theorem zv4bv : ZVal Try.prog 4 (bv false) := by unfold ZVal; kernel_rfl
end TKeep
open TKeep
theorem keep_Far_w {v_l_logs : Value} {v_l_body : Value} {v_l_outs : Value} {l : Lp} {a : Int} {r : Int} (w : World) (hm : keep_Far_m l a = some r) (h_l_logs : Arr w v_l_logs 1 (l.logs.map icell)) (h_l_body : Arr w v_l_body 9 (l.body.map Stm.cells)) (h_l_outs : Arr w v_l_outs 1 (l.outs.map icell)) : Calls Try.prog 36 #[.agg #[v_l_logs, v_l_body, v_l_outs], .int .i64 a] w (fun e w' => e = .returned (.int .i64 r) ∧ Grow w w') := by
 unfold keep_Far_m at hm
 have hk := Base.rfl (w := w)
 refine calls_of_WC (n := 35) (args := [.agg #[v_l_logs, v_l_body, v_l_outs], .int .i64 a]) Try.func36 Z Z (Nat.le_of_ble_eq_true Z) ?_ (Own.startK hk (Own.start w))
 refine sr ?_
 refine WL.effect Z ?_
 refine (EV.boxAgg (by decide) Z Z (fun b1 => ?_))
 refine wa Z ?_
 refine ns ?_
 refine wa Z ?_
 refine nt (WC.seq (sr ?_))
 refine wf fd25_1 Z ?_
 refine wl pl23 Z (Own.cell 0 Z Z) ?_
 refine wq Z (QV.lenS Try.underlying23 Z Z h_l_body.lenMap) ?_
 refine wm Z ?_
 refine nt ?_
 obtain ⟨o2, ho3, hm4⟩ := bd_some hm; clear hm; obtain ⟨n5, ho6⟩ := lp_some ho3
 refine WC.bloop3 (H2 := [blk b1 [v_l_logs, v_l_body, v_l_outs] 25]) (τ := [(1, (true, _)), (11, (true, _)), (12, (true, _))]) (fun (far5_3 : Int) (x13_3 : Int) (k_3 : World) => [(5, (true, .int .i64 far5_3)), (13, (true, .int .i64 x13_3))]) (fun far5_3 x13_3 k_3 => [kn noM w.heap.size w k_3]) (fun far5_3 x13_3 k_3 m => iter (keep_Far_L0 l a) m (far5_3, x13_3) = some o2 ∧ Le w k_3) (fun far5_3 x13_3 k_3 => o2 = .go (far5_3, x13_3) ∧ Le w k_3) 0 0 w n5 ⟨ho6, (Le.refl _)⟩ ⟨Z, Z, Z, Z, Z, trivial⟩ (fun w hw => hw.pick [1, 0] (by decide)) ?_ ?_
 ·skip
  rintro far5_3 x13_3 k_3 ⟨rfl, hle_3⟩
  refine WQ.then (sr ?_)
  refine wm Z ?_
  refine wa Z ?_
  refine nt (WC.ret ?_)
  obtain rfl := (eq_of_some hm4).symm
  refine WQ.ret1 Z Z (fun w hw => ?_)
  exact ⟨Z, Own.kgrow (fun _ x => x) hw⟩
 rintro far5_3 x13_3 k_3 m7 ⟨hI8, hle_3⟩
 obtain ⟨m9, s10, rfl, hm11, hn12⟩ := iter_step hI8; clear hI8; unfold keep_Far_L0 at hm11; simp only at hm11
 refine sr ?_
 refine wq Z (QV.lss Z Z Z Z) ?_
 refine nt (WC.seq ?_)
 refine WC.cond Z (fun h13 => ?_) (fun h13 => ?_)
 ·skip
  have hm14 := br_t h13 hm11; clear hm11
  refine sk (WQ.then (WC.seq (WC.block (sr ?_))))
  obtain ⟨c15, hm16⟩ := cs hm14; clear hm14
  obtain ⟨p17, hp18⟩ := (h_l_body.le hle_3).lenMap.ix (sz := 9) ln_len c15
  refine wq Z (QV.indexSlice sl23 Z Z Z Z hp18) ?_
  refine wq Z (QV.loadAgg ag81 Z Z Z (fun w hw => ((Own.karr 0 Z hk (h_l_body.le hle_3)) w hw).ele hp18 c15)) ?_
  refine WL.effect Z ?_
  refine (EV.alloc (by decide) ze81 (fun b19 => ?_))
  refine WL.effect Z ?_
  refine (EV.store 0 Z Z Z Z Z Z (vs := (Stm.cells (ele l.body x13_3))) (show Value.cells _ = List.toArray _ from Z) sz81 (Nat.le_of_ble_eq_true Z) (one_cons Z (one_cons Z (one_cons Z (one_cons Z (one_cons Z (one_cons Z (one_cons Z (one_cons Z (one_cons Z one_nil))))))))) ?_)
  refine ns ?_
  refine wq Z (QV.loadAgg ag81 Z Z Z (Own.cellsBlk 0 Z)) ?_
  refine WL.effect Z ?_
  obtain ⟨x20, hx21, hm22⟩ := bd_some hm16; clear hm16
  refine EV.of (C' := Own noM w [kn noM w.heap.size w k_3, blk b19 (Stm.cells (ele l.body x13_3)) 81, blk b1 [v_l_logs, v_l_body, v_l_outs] 25]) (fun w hw => hw.pick [1, 0, 2] (by decide)) ?_
  refine (EV.callR (X := Value × World) (R := []) (fun X => X.1) (fun X => []) (fun X => X.2) (fun X => Arr X.2 X.1 2 (x20.map Rf.cells)) hk (fun _ h => by cases h; decide) en66 (EvAll.cons Z Z EvAll.nil) (fun M w h1 h2 => have h := loop_Uses_w hx21  M w h1 h2; h) (fun X23 hF23 hle23 => ?_))
  refine wq Z (QV.lenS Try.underlying76 Z Z hF23.lenMap) ?_
  refine wm Z ?_
  refine nt ?_
  obtain ⟨o24, ho25, hm26⟩ := bd_some hm22; clear hm22; obtain ⟨n27, ho28⟩ := lp_some ho25
  refine WC.bloop2 (H2 := [kn noM w.heap.size w X23.2, blk b19 (Stm.cells (ele l.body x13_3)) 81, blk b1 [v_l_logs, v_l_body, v_l_outs] 25]) (τ := [(1, (true, _)), (11, (true, _)), (12, (true, _)), (13, (true, _)), (18, (true, _)), (19, (true, _))]) (fun (far5_4 : Int) (x20_4 : Int) => [(5, (true, .int .i64 far5_4)), (20, (true, .int .i64 x20_4))]) (fun far5_4 x20_4 => []) (fun far5_4 x20_4 m => iter (keep_Far_L2 a x20) m (far5_4, x20_4) = some o24) (fun far5_4 x20_4 => o24 = .go (far5_4, x20_4)) far5_3 0 n27 ho28 ⟨Z, Z, Z, Z, Z, Z, Z, Z, trivial⟩ (fun w hw => hw.pick [0, 1, 2] (by decide)) ?_ ?_
  ·skip
   rintro far5_4 x20_4 rfl
   refine WQ.block (WQ.then (WC.region ?_))
   obtain ⟨c29, hm30⟩ := cs hm26; clear hm26
   refine wq Z (QV.add Z Z Z Z c29) ?_
   refine wm Z ?_
   refine WL.nil ?_
   exact WQ.again3 far5_4 (x13_3 + 1) X23.2 m9 ⟨up_next hm30 hn12, (hle_3.trans hle23)⟩ (Nat.lt_succ_self _) ⟨Z, Z, Z, Z, Z, trivial⟩ (fun w hw => hw.pick [0, 2] (by decide))
  rintro far5_4 x20_4 m31 hI32
  obtain ⟨m33, s34, rfl, hm35, hn36⟩ := iter_step hI32; clear hI32; unfold keep_Far_L2 at hm35; simp only at hm35
  refine sr ?_
  refine wq Z (QV.lss Z Z Z Z) ?_
  refine nt (WC.seq ?_)
  refine WC.cond Z (fun h37 => ?_) (fun h37 => ?_)
  ·skip
   have hm38 := br_t h37 hm35; clear hm35
   refine sk (WQ.then (WC.seq (WC.block (sr ?_))))
   obtain ⟨c39, hm40⟩ := cs hm38; clear hm38
   obtain ⟨p41, hp42⟩ := hF23.lenMap.ix (sz := 2) ln_len c39
   refine wq Z (QV.indexSlice sl76 Z Z Z Z hp42) ?_
   refine wq Z (QV.loadAgg ag79 Z Z Z (fun w hw => ((Own.karr 0 Z hk hF23) w hw).ele hp42 c39)) ?_
   refine WL.effect Z ?_
   refine (EV.alloc (by decide) ze79 (fun b43 => ?_))
   refine WL.effect Z ?_
   refine (EV.store 0 Z Z Z Z Z Z (vs := [.int .i64 ((ele x20 x20_4).st), .int .i64 ((ele x20 x20_4).bk)]) (show Value.cells _ = List.toArray _ from Z) sz79 (Nat.le_of_ble_eq_true Z) (one_cons Z (one_cons Z one_nil)) ?_)
   refine ns ?_
   refine wf fd79_0 Z ?_
   refine wl pl3 Z (Own.cell 0 Z Z) ?_
   refine wm Z ?_
   refine wq Z (QV.eql Z Z Z Z) ?_
   refine nt ?_
   refine WC.cond Z (fun h44 => ?_) (fun h44 => ?_)
   ·skip
    have hm45 := br_t h44 hm40; clear hm40
    refine WC.region ?_
    refine wm Z ?_
    refine wf fd79_1 Z ?_
    refine wl pl3 Z (Own.cell 0 Z Z) ?_
    refine wq Z (QV.max2 Z Z Z Z) ?_
    refine wa Z ?_
    refine WL.nil (WQ.block (WQ.then (WC.region ?_)))
    obtain ⟨c46, hm47⟩ := cs hm45; clear hm45
    refine wq Z (QV.add Z Z Z Z c46) ?_
    refine wm Z ?_
    refine WL.nil ?_
    exact WQ.again2 (max far5_4 ((ele x20 x20_4).bk)) (x20_4 + 1) m33 (up_next hm47 hn36) (Nat.lt_succ_self _) ⟨Z, Z, Z, Z, Z, Z, Z, Z, trivial⟩ (fun w hw => hw.pick [1, 2, 3] (by decide))
   have hm48 := br_f h44 hm40; clear hm40
   refine sk (WQ.block (WQ.then (WC.region ?_)))
   obtain ⟨c49, hm50⟩ := cs hm48; clear hm48
   refine wq Z (QV.add Z Z Z Z c49) ?_
   refine wm Z ?_
   refine WL.nil ?_
   exact WQ.again2 far5_4 (x20_4 + 1) m33 (up_next hm50 hn36) (Nat.lt_succ_self _) ⟨Z, Z, Z, Z, Z, Z, Z, Z, trivial⟩ (fun w hw => hw.pick [1, 2, 3] (by decide))
  have hm51 := br_f h37 hm35; clear hm35
  refine WC.exit (te (te (WQ.block_exit ?_)))
  exact WQ.out2 far5_4 x20_4 (up_brk hm51 hn36) ⟨Z, Z, Z, Z, Z, Z, Z, Z, trivial⟩ (fun w hw => hw.pick [0, 1, 2] (by decide))
 have hm52 := br_f h13 hm11; clear hm11
 refine WC.exit (te (te (WQ.block_exit ?_)))
 exact WQ.out3 far5_3 x13_3 k_3 ⟨up_brk hm52 hn12, hle_3⟩ ⟨Z, Z, Z, Z, Z, trivial⟩ (fun w hw => hw.pick [0, 1] (by decide))
theorem slices_Index___int_int__w {v_s : Value} {s : List Int} {v : Int} {r : Int} (w : World) (hm : slices_Index___int_int__m s v = some r) (h_s : Arr w v_s 1 (s.map icell)) : Calls Try.prog 138 #[v_s, .int .i64 v] w (fun e w' => e = .returned (.int .i64 r) ∧ Grow w w') := by
 unfold slices_Index___int_int__m at hm
 have hk := Base.rfl (w := w)
 refine calls_of_WC (n := 19) (args := [v_s, .int .i64 v]) Try.func138 Z Z (Nat.le_of_ble_eq_true Z) ?_ (Own.startK hk (Own.start w))
 refine sr ?_
 refine wa Z ?_
 refine nt (WC.seq (sr ?_))
 refine wm Z ?_
 refine wq Z (QV.lenS Try.underlying22 Z Z h_s.lenMap) ?_
 refine wm Z ?_
 refine nt ?_
 obtain ⟨o1, ho2, hm3⟩ := bd_some hm; clear hm; obtain ⟨n4, ho5⟩ := lp_some ho2
 refine WC.bloop1 (H2 := [kn noM w.heap.size w w]) (τ := [(0, (true, _)), (1, (true, _)), (7, (true, _))]) (fun (x8_1 : Int) => [(8, (true, .int .i64 x8_1))]) (fun x8_1 => []) (fun x8_1 m => iter (slices_Index___int_int__L0 s v) m x8_1 = some o1) (fun x8_1 => o1 = .go x8_1) 0 n4 ho5 ⟨Z, Z, Z, Z, trivial⟩ (fun w hw => hw.pick [0] (by decide)) ?_ ?_
 ·skip
  rintro x8_1 rfl
  refine WQ.then (sr ?_)
  refine wa Z ?_
  refine nt (WC.ret ?_)
  obtain rfl := (eq_of_some hm3).symm
  refine WQ.ret1 Z Z (fun w hw => ?_)
  exact ⟨Z, Own.kgrow (fun _ x => x) hw⟩
 rintro x8_1 m6 hI7
 obtain ⟨m8, s9, rfl, hm10, hn11⟩ := iter_step hI7; clear hI7; unfold slices_Index___int_int__L0 at hm10
 refine sr ?_
 refine wq Z (QV.lss Z Z Z Z) ?_
 refine nt (WC.seq ?_)
 refine WC.cond Z (fun h12 => ?_) (fun h12 => ?_)
 ·skip
  have hm13 := br_t h12 hm10; clear hm10
  refine sk (WQ.then (WC.seq (WC.block (sr ?_))))
  refine wm Z ?_
  refine wa Z ?_
  refine ns ?_
  refine wm Z ?_
  refine wm Z ?_
  refine wm Z ?_
  obtain ⟨c14, hm15⟩ := cs hm13; clear hm13
  obtain ⟨p16, hp17⟩ := h_s.lenMap.ix (sz := 1) ln_len c14
  refine wq Z (QV.indexSlice sl22 Z Z Z Z hp17) ?_
  refine wl pl3 Z (fun w hw => CellsAt.one 0 (((Own.karr 0 Z hk h_s) w hw).ele hp17 c14) Z) ?_
  refine wq Z (QV.eql Z Z Z Z) ?_
  refine nt ?_
  refine WC.cond Z (fun h18 => ?_) (fun h18 => ?_)
  ·skip
   have hm19 := br_t h18 hm15; clear hm15
   refine sr ?_
   refine wm Z ?_
   refine wa Z ?_
   refine nt (WC.ret (kr (tr (tr (kr (tr (tr ?_)))))))
   obtain rfl := up_ret hm19 hn11
   obtain rfl := (eq_of_some hm3).symm
   refine WQ.ret1 Z Z (fun w hw => ?_)
   exact ⟨Z, Own.kgrow (fun _ x => x) hw⟩
  have hm20 := br_f h18 hm15; clear hm15
  refine sk (WQ.block (WQ.then (WC.region ?_)))
  obtain ⟨c21, hm22⟩ := cs hm20; clear hm20
  refine wq Z (QV.add Z Z Z Z c21) ?_
  refine wm Z ?_
  refine WL.nil ?_
  exact WQ.again1 (x8_1 + 1) m8 (up_next hm22 hn11) (Nat.lt_succ_self _) ⟨Z, Z, Z, Z, trivial⟩ (fun w hw => hw.pick [0] (by decide))
 have hm23 := br_f h12 hm10; clear hm10
 refine WC.exit (te (te (WQ.block_exit ?_)))
 exact WQ.out1 x8_1 (up_brk hm23 hn11) ⟨Z, Z, Z, Z, trivial⟩ (fun w hw => hw.pick [0] (by decide))
theorem slices_Contains___int_int__w {v_s : Value} {s : List Int} {v : Int} {r : Bool} (w : World) (hm : slices_Contains___int_int__m s v = some r) (h_s : Arr w v_s 1 (s.map icell)) : Calls Try.prog 125 #[v_s, .int .i64 v] w (fun e w' => e = .returned (.bool r) ∧ Grow w w') := by
 unfold slices_Contains___int_int__m at hm
 have hk := Base.rfl (w := w)
 refine calls_of_WC (n := 9) (args := [v_s, .int .i64 v]) Try.func125 Z Z (Nat.le_of_ble_eq_true Z) ?_ (Own.startK hk (Own.start w))
 refine sr ?_
 refine wa Z ?_
 refine ns ?_
 refine wm Z ?_
 refine wm Z ?_
 obtain ⟨x1, hx2, hm3⟩ := bd_some hm; clear hm
 refine wq Z (QV.call en138 (EvAll.cons Z Z (EvAll.cons Z Z EvAll.nil)) (fun w hw => have h := slices_Index___int_int__w w hx2 ((Own.karr 0 Z hk h_s) w hw); h)) ?_
 refine wq Z (QV.geq Z Z Z Z) ?_
 refine wa Z ?_
 refine nt (WC.ret ?_)
 obtain rfl := (eq_of_some hm3).symm
 refine WQ.ret1 Z Z (fun w hw => ?_)
 exact ⟨Z, Own.kgrow (fun _ x => x) hw⟩
theorem keep_Layout_uses_w {p_y : Addr} {v_y_Loop_Logs : Value} {v_y_Loop_Body : Value} {v_y_Loop_Outs : Value} {v_y_Time : Value} {v_y_Ready : Value} {v_y_Places : Value} {y_Loop_Body : List Stm} {y_Pace : Int} {y_Regs : Int} {y_Time : List Int} {a : Int} {r : List Use} {K0 : World} (hm : keep_Layout_uses_m y_Loop_Body y_Pace y_Regs y_Time a = some r) (h_y_Loop_Body : Arr K0 v_y_Loop_Body 9 (y_Loop_Body.map Stm.cells)) (h_y_Time : Arr K0 v_y_Time 1 (y_Time.map icell)) (hp_y : CellsAt K0 p_y [v_y_Loop_Logs, v_y_Loop_Body, v_y_Loop_Outs, .int .i64 y_Pace, .int .i64 y_Regs, v_y_Time, v_y_Ready, v_y_Places] 0) (M : Nat → Prop) (w : World) (hk : Base M K0 w) (hw0 : Own M w [] w) : Calls Try.prog 101 #[.pointer (some p_y), .int .i64 a] w (fun e w' => ∃ X : Value × World, e = .returned (X.1) ∧ Own M w (kn M w.heap.size K0 X.2 :: []) w' ∧ Arr X.2 X.1 2 (r.map Use.cells)) := by
 unfold keep_Layout_uses_m at hm
 refine calls_of_WC (n := 57) (args := [.pointer (some p_y), .int .i64 a]) Try.func101 Z Z (Nat.le_of_ble_eq_true Z) ?_ (Own.startK hk hw0)
 refine sr ?_
 refine wa Z ?_
 refine ns ?_
 refine wa Z ?_
 refine nt (WC.seq (sr ?_))
 refine wm Z ?_
 refine wq Z (QV.nilCheck Z Z) ?_
 refine wf fd87_0 Z ?_
 refine wf fd25_1 Z ?_
 refine wl pl23 Z (fun w hw => CellsAt.one 1 ((Own.kcells 0 Z hk hp_y) w hw) Z) ?_
 refine wq Z (QV.lenS Try.underlying23 Z Z h_y_Loop_Body.lenMap) ?_
 refine wm Z ?_
 refine nt ?_
 refine WK.of (fun w hw => hw.vecNil (E := 185) (sz := 2) (enc := Use.cells)) ?_
 obtain ⟨o2, ho3, hm4⟩ := bd_some hm; clear hm; obtain ⟨n5, ho6⟩ := lp_some ho3
 refine WC.bloop4 (H2 := []) (τ := [(0, (true, _)), (1, (true, _)), (14, (true, _)), (15, (true, _))]) (fun (v1_4 : List Use) (x16_4 : Int) (uv1_4 : Value) (k_4 : World) => [(5, (true, uv1_4)), (16, (true, .int .i64 x16_4))]) (fun v1_4 x16_4 uv1_4 k_4 => [vec uv1_4 185 2 (List.map Use.cells v1_4), kn M w.heap.size K0 k_4]) (fun v1_4 x16_4 uv1_4 k_4 m => iter (keep_Layout_uses_L0 y_Loop_Body y_Pace y_Time a) m (v1_4, x16_4) = some o2 ∧ SliceLen uv1_4 v1_4.length ∧ Le K0 k_4) (fun v1_4 x16_4 uv1_4 k_4 => o2 = .go (v1_4, x16_4) ∧ SliceLen uv1_4 v1_4.length ∧ Le K0 k_4) [] 0 (.slice none 0 0) K0 n5 ⟨ho6, SliceLen.nil, (Le.refl _)⟩ ⟨Z, Z, Z, Z, Z, Z, trivial⟩ (fun w hw => hw.pick [0, 1] (by decide)) ?_ ?_
 ·skip
  rintro v1_4 x16_4 uv1_4 k_4 ⟨rfl, hlv1_4, hle_4⟩
  refine WQ.then (sr ?_)
  refine wm Z ?_
  refine wa Z ?_
  refine nt (WC.ret ?_)
  obtain rfl := (eq_of_some hm4).symm
  refine WK.of (C' := Own M w [kn M w.heap.size K0 k_4, vec uv1_4 185 2 (List.map Use.cells v1_4)]) (fun w hw => hw.pick [1, 0] (by decide)) ?_
  refine WK.freeze hk (fun k7 hle7 hr7 => ?_)
  have hA7 := vec_arr hr7
  refine WQ.ret1 Z Z (fun w hw => ?_)
  exact ⟨(uv1_4, k7), Z, hw.pick [0] (by decide), hA7⟩
 rintro v1_4 x16_4 uv1_4 k_4 m8 ⟨hI9, hlv1_4, hle_4⟩
 obtain ⟨m10, s11, rfl, hm12, hn13⟩ := iter_step hI9; clear hI9; unfold keep_Layout_uses_L0 at hm12; simp only at hm12
 refine sr ?_
 refine wq Z (QV.lss Z Z Z Z) ?_
 refine nt (WC.seq ?_)
 refine WC.cond Z (fun h14 => ?_) (fun h14 => ?_)
 ·skip
  have hm15 := br_t h14 hm12; clear hm12
  refine sk (WQ.then (WC.seq (WC.block (sr ?_))))
  refine wm Z ?_
  obtain ⟨c16, hm17⟩ := cs hm15; clear hm15
  obtain ⟨p18, hp19⟩ := (h_y_Loop_Body.le hle_4).lenMap.ix (sz := 9) ln_len c16
  refine wq Z (QV.indexSlice sl23 Z Z Z Z hp19) ?_
  refine wq Z (QV.loadAgg ag81 Z Z Z (fun w hw => ((Own.karr 1 Z hk (h_y_Loop_Body.le hle_4)) w hw).ele hp19 c16)) ?_
  refine WL.effect Z ?_
  refine (EV.alloc (by decide) ze81 (fun b20 => ?_))
  refine wa Z ?_
  refine WL.effect Z ?_
  refine (EV.store 0 Z Z Z Z Z Z (vs := (Stm.cells (ele y_Loop_Body x16_4))) (show Value.cells _ = List.toArray _ from Z) sz81 (Nat.le_of_ble_eq_true Z) (one_cons Z (one_cons Z (one_cons Z (one_cons Z (one_cons Z (one_cons Z (one_cons Z (one_cons Z (one_cons Z one_nil))))))))) ?_)
  refine ns ?_
  refine wq Z (QV.loadAgg ag81 Z Z Z (Own.cellsBlk 0 Z)) ?_
  refine WL.effect Z ?_
  obtain ⟨x21, hx22, hm23⟩ := bd_some hm17; clear hm17
  refine EV.of (C' := Own M w [kn M w.heap.size K0 k_4, blk b20 (Stm.cells (ele y_Loop_Body x16_4)) 81, vec uv1_4 185 2 (List.map Use.cells v1_4)]) (fun w hw => hw.pick [2, 0, 1] (by decide)) ?_
  refine (EV.callR (X := Value × World) (R := []) (fun X => X.1) (fun X => []) (fun X => X.2) (fun X => Arr X.2 X.1 2 (x21.map Rf.cells)) hk (fun _ h => by cases h; decide) en66 (EvAll.cons Z Z EvAll.nil) (fun M w h1 h2 => have h := loop_Uses_w hx22  M w h1 h2; h) (fun X24 hF24 hle24 => ?_))
  refine wq Z (QV.lenS Try.underlying76 Z Z hF24.lenMap) ?_
  refine wm Z ?_
  refine nt ?_
  obtain ⟨o25, ho26, hm27⟩ := bd_some hm23; clear hm23; obtain ⟨n28, ho29⟩ := lp_some ho26
  refine WC.bloop3 (H2 := [kn M w.heap.size K0 X24.2, blk b20 (Stm.cells (ele y_Loop_Body x16_4)) 81]) (τ := [(0, (true, _)), (1, (true, _)), (6, (true, _)), (14, (true, _)), (15, (true, _)), (16, (true, _)), (22, (true, _)), (23, (true, _))]) (fun (v1_5 : List Use) (x24_5 : Int) (uv1_5 : Value) => [(5, (true, uv1_5)), (24, (true, .int .i64 x24_5))]) (fun v1_5 x24_5 uv1_5 => [vec uv1_5 185 2 (List.map Use.cells v1_5)]) (fun v1_5 x24_5 uv1_5 m => iter (keep_Layout_uses_L2 y_Pace y_Time a x16_4 x21) m (v1_5, x24_5) = some o25 ∧ SliceLen uv1_5 v1_5.length) (fun v1_5 x24_5 uv1_5 => o25 = .go (v1_5, x24_5) ∧ SliceLen uv1_5 v1_5.length) v1_4 0 uv1_4 n28 ⟨ho29, hlv1_4⟩ ⟨Z, Z, Z, Z, Z, Z, Z, Z, Z, Z, trivial⟩ (fun w hw => hw.pick [2, 0, 1] (by decide)) ?_ ?_
  ·skip
   rintro v1_5 x24_5 uv1_5 ⟨rfl, hlv1_5⟩
   refine WQ.block (WQ.then (WC.region ?_))
   obtain ⟨c30, hm31⟩ := cs hm27; clear hm27
   refine wq Z (QV.add Z Z Z Z c30) ?_
   refine wm Z ?_
   refine WL.nil ?_
   exact WQ.again4 v1_5 (x16_4 + 1) uv1_5 X24.2 m10 ⟨up_next hm31 hn13, hlv1_5, (hle_4.trans hle24)⟩ (Nat.lt_succ_self _) ⟨Z, Z, Z, Z, Z, Z, trivial⟩ (fun w hw => hw.pick [0, 1] (by decide))
  rintro v1_5 x24_5 uv1_5 m32 ⟨hI33, hlv1_5⟩
  obtain ⟨m34, s35, rfl, hm36, hn37⟩ := iter_step hI33; clear hI33; unfold keep_Layout_uses_L2 at hm36; simp only at hm36
  refine sr ?_
  refine wq Z (QV.lss Z Z Z Z) ?_
  refine nt (WC.seq ?_)
  refine WC.cond Z (fun h38 => ?_) (fun h38 => ?_)
  ·skip
   have hm39 := br_t h38 hm36; clear hm36
   refine sk (WQ.then (WC.seq (WC.block (sr ?_))))
   obtain ⟨c40, hm41⟩ := cs hm39; clear hm39
   obtain ⟨p42, hp43⟩ := hF24.lenMap.ix (sz := 2) ln_len c40
   refine wq Z (QV.indexSlice sl76 Z Z Z Z hp43) ?_
   refine wq Z (QV.loadAgg ag79 Z Z Z (fun w hw => ((Own.karr 1 Z hk hF24) w hw).ele hp43 c40)) ?_
   refine WL.effect Z ?_
   refine (EV.alloc (by decide) ze79 (fun b44 => ?_))
   refine WL.effect Z ?_
   refine (EV.store 0 Z Z Z Z Z Z (vs := [.int .i64 ((ele x21 x24_5).st), .int .i64 ((ele x21 x24_5).bk)]) (show Value.cells _ = List.toArray _ from Z) sz79 (Nat.le_of_ble_eq_true Z) (one_cons Z (one_cons Z one_nil)) ?_)
   refine ns ?_
   refine wf fd79_0 Z ?_
   refine wl pl3 Z (Own.cell 0 Z Z) ?_
   refine wm Z ?_
   refine wq Z (QV.eql Z Z Z Z) ?_
   refine nt ?_
   refine WC.cond Z (fun h45 => ?_) (fun h45 => ?_)
   ·skip
    have hm46 := br_t h45 hm41; clear hm41
    refine WC.dr (m := 23) (S := Own M w [kn M w.heap.size K0 X24.2, blk b44 [.int .i64 ((ele x21 x24_5).st), .int .i64 ((ele x21 x24_5).bk)] 79, blk b20 (Stm.cells (ele y_Loop_Body x16_4)) 81]) (by kernel_rfl) (by kernel_rfl) (fun w hw => hw.pick [2, 0, 3] (by decide)) ?_
    refine wz 0 Z Z (QV.move Z Z) ?_
    refine wz 1 Z Z (QV.move Z Z) ?_
    refine wz 2 Z Z (QV.nilCheck Z Z) ?_
    refine wz 3 Z Z (QV.fieldAddr fd87_3 Z Z) ?_
    refine wz 4 Z Z (QV.load pl22 Z Z (fun w hw => CellsAt.one 5 ((Own.kcells 0 Z hk (hp_y.le (hle_4.trans hle24))) w hw) Z)) ?_
    refine wz 5 Z Z (QV.move Z Z) ?_
    obtain ⟨c47, hm48⟩ := cs hm46; clear hm46
    obtain ⟨p49, hp50⟩ := (h_y_Time.le (hle_4.trans hle24)).lenMap.ix (sz := 1) ln_len c47
    refine wz 6 Z Z (QV.indexSlice sl22 Z Z Z Z hp50) ?_
    refine wz 7 Z Z (QV.load pl3 Z Z (fun w hw => CellsAt.one 0 (((Own.karr 0 Z hk (h_y_Time.le (hle_4.trans hle24))) w hw).ele hp50 c47) Z)) ?_
    refine wz 8 Z Z (QV.fieldAddr fd79_1 Z Z) ?_
    refine wz 9 Z Z (QV.load pl3 Z Z (Own.cell 1 Z Z)) ?_
    refine wz 10 Z Z (QV.move Z Z) ?_
    refine wz 11 Z Z (QV.nilCheck Z Z) ?_
    refine wz 12 Z Z (QV.fieldAddr fd87_1 Z Z) ?_
    refine wz 13 Z Z (QV.load pl3 Z Z (fun w hw => CellsAt.one 3 ((Own.kcells 0 Z hk (hp_y.le (hle_4.trans hle24))) w hw) Z)) ?_
    obtain ⟨c51, hm52⟩ := cs hm48; clear hm48
    refine wz 14 Z Z (QV.mul Z Z Z Z c51) ?_
    obtain ⟨c53, hm54⟩ := cs hm52; clear hm52
    refine wz 15 Z Z (QV.add Z Z Z Z c53) ?_
    refine wz 16 Z Z (QV.fieldAddr fd79_1 Z Z) ?_
    refine wz 17 Z Z (QV.load pl3 Z Z (Own.cell 1 Z Z)) ?_
    refine wz 18 Z Z (QV.gtr Z Z Z Z) ?_
    refine wz 19 Z Z (QV.build (ps := [(0, .tmp 47), (1, .tmp 50)]) (cells := [.int .i64 ((ele y_Time x16_4) + ((ele x21 x24_5).bk * y_Pace)), .bool (decide ((ele x21 x24_5).bk > 0))]) (EvAll.cons Z Z (EvAll.cons Z Z EvAll.nil)) (by kernel_rfl)) ?_
    refine WD.o 20 Z (by kernel_rfl) Z ?_
    refine (EV.buildSlice (by decide) sz_162 (by decide) (by decide) (ps := [(0, .tmp 51)]) (cells := [.int .i64 ((ele y_Time x16_4) + ((ele x21 x24_5).bk * y_Pace)), .bool (decide ((ele x21 x24_5).bk > 0))]) (EvAll.cons Z Z EvAll.nil) (by kernel_rfl) (fun b55 => ?_))
    refine WD.b (H' := [kn M w.heap.size K0 X24.2, blk b55 [.int .i64 ((ele y_Time x16_4) + ((ele x21 x24_5).bk * y_Pace)), .bool (decide ((ele x21 x24_5).bk > 0))] 185, blk b44 [.int .i64 ((ele x21 x24_5).st), .int .i64 ((ele x21 x24_5).bk)] 79, blk b20 (Stm.cells (ele y_Loop_Body x16_4)) 81]) (fun w hw => hw.pick [3, 0, 1, 4] (by decide)) (fun w hw => hw.pick [0, 2, 3] (by decide)) ?_
    refine WD.o 21 Z (by kernel_rfl) Z ?_
    obtain ⟨c56, hm57⟩ := cs hm54; clear hm54
    refine (EV.appendL (enc := Use.cells) (xs := v1_5) (ys := [(Use.mk ((ele y_Time x16_4) + ((ele x21 x24_5).bk * y_Pace)) (decide ((ele x21 x24_5).bk > 0)))]) ((v1_5 ++ [(Use.mk ((ele y_Time x16_4) + ((ele x21 x24_5).bk * y_Pace)) (decide ((ele x21 x24_5).bk > 0)))])) 2 (by decide) ve162 Z Z Z Z Z (Own.blkArr 0 (rows := [(Use.mk ((ele y_Time x16_4) + ((ele x21 x24_5).bk * y_Pace)) (decide ((ele x21 x24_5).bk > 0)))].map Use.cells) Z Z (rows_len Use.cells_len)) Use.cells_len (Use.cells_one _) Z c56.1 c56.2 (fun u58 hu59 => ?_))
    refine WD.b (H' := [kn M w.heap.size K0 X24.2, blk b55 [.int .i64 ((ele y_Time x16_4) + ((ele x21 x24_5).bk * y_Pace)), .bool (decide ((ele x21 x24_5).bk > 0))] 185, blk b44 [.int .i64 ((ele x21 x24_5).st), .int .i64 ((ele x21 x24_5).bk)] 79, vec u58 185 2 (List.map Use.cells (v1_5 ++ [(Use.mk ((ele y_Time x16_4) + ((ele x21 x24_5).bk * y_Pace)) (decide ((ele x21 x24_5).bk > 0)))])), blk b20 (Stm.cells (ele y_Loop_Body x16_4)) 81]) (fun w hw => hw.pick [3, 0, 1, 2, 4] (by decide)) (fun w hw => hw.pick [0, 1, 2, 4] (by decide)) ?_
    refine wz 22 Z Z (QV.assign Z Z) ?_
    refine WD.e (by kernel_rfl) ?_
    refine WQ.block (WQ.then (WC.region ?_))
    obtain ⟨c60, hm61⟩ := cs hm57; clear hm57
    refine wq Z (QV.add Z Z Z Z c60) ?_
    refine wm Z ?_
    refine WL.nil ?_
    exact WQ.again3 (v1_5 ++ [(Use.mk ((ele y_Time x16_4) + ((ele x21 x24_5).bk * y_Pace)) (decide ((ele x21 x24_5).bk > 0)))]) (x24_5 + 1) u58 m34 ⟨up_next hm61 hn37, hu59⟩ (Nat.lt_succ_self _) ⟨Z, Z, Z, Z, Z, Z, Z, Z, Z, Z, trivial⟩ (fun w hw => hw.pick [2, 3, 4] (by decide))
   have hm62 := br_f h45 hm41; clear hm41
   refine sk (WQ.block (WQ.then (WC.region ?_)))
   obtain ⟨c63, hm64⟩ := cs hm62; clear hm62
   refine wq Z (QV.add Z Z Z Z c63) ?_
   refine wm Z ?_
   refine WL.nil ?_
   exact WQ.again3 v1_5 (x24_5 + 1) uv1_5 m34 ⟨up_next hm64 hn37, hlv1_5⟩ (Nat.lt_succ_self _) ⟨Z, Z, Z, Z, Z, Z, Z, Z, Z, Z, trivial⟩ (fun w hw => hw.pick [1, 2, 3] (by decide))
  have hm65 := br_f h38 hm36; clear hm36
  refine WC.exit (te (te (WQ.block_exit ?_)))
  exact WQ.out3 v1_5 x24_5 uv1_5 ⟨up_brk hm65 hn37, hlv1_5⟩ ⟨Z, Z, Z, Z, Z, Z, Z, Z, Z, Z, trivial⟩ (fun w hw => hw.pick [0, 1, 2] (by decide))
 have hm66 := br_f h14 hm12; clear hm12
 refine WC.exit (te (te (WQ.block_exit ?_)))
 exact WQ.out4 v1_4 x16_4 uv1_4 k_4 ⟨up_brk hm66 hn13, hlv1_4, hle_4⟩ ⟨Z, Z, Z, Z, Z, Z, trivial⟩ (fun w hw => hw.pick [0, 1] (by decide))
theorem keep_Layout_bad_w {p_y : Addr} {v_y_Loop_Logs : Value} {v_y_Loop_Body : Value} {v_y_Loop_Outs : Value} {v_y_Time : Value} {v_y_Ready : Value} {v_y_Places : Value} {v_uses : Value} {y_Loop_Outs : List Int} {y_Pace : Int} {y_Regs : Int} {y_Ready : List Int} {a : Int} {m_ : Int} {j : Int} {uses : List Use} {r : Bool} (w : World) (hm : keep_Layout_bad_m y_Loop_Outs y_Pace y_Regs y_Ready a m_ j uses = some r) (h_y_Loop_Outs : Arr w v_y_Loop_Outs 1 (y_Loop_Outs.map icell)) (h_y_Ready : Arr w v_y_Ready 1 (y_Ready.map icell)) (hp_y : CellsAt w p_y [v_y_Loop_Logs, v_y_Loop_Body, v_y_Loop_Outs, .int .i64 y_Pace, .int .i64 y_Regs, v_y_Time, v_y_Ready, v_y_Places] 0) (h_uses : Arr w v_uses 2 (uses.map Use.cells)) : Calls Try.prog 102 #[.pointer (some p_y), .int .i64 a, .int .i64 m_, .int .i64 j, v_uses] w (fun e w' => e = .returned (.bool r) ∧ Grow w w') := by
 unfold keep_Layout_bad_m at hm
 have hk := Base.rfl (w := w)
 refine calls_of_WC (n := 86) (args := [.pointer (some p_y), .int .i64 a, .int .i64 m_, .int .i64 j, v_uses]) Try.func102 Z Z (Nat.le_of_ble_eq_true Z) ?_ (Own.startK hk (Own.start w))
 refine sr ?_
 refine wa Z ?_
 refine nt (WC.seq ?_)
 refine WC.dr (m := 15) (by kernel_rfl) (by kernel_rfl) (fun w hw => hw) ?_
 refine wz 0 Z Z (QV.move Z Z) ?_
 refine wz 1 Z Z (QV.nilCheck Z Z) ?_
 refine wz 2 Z Z (QV.fieldAddr fd87_4 Z Z) ?_
 refine wz 3 Z Z (QV.load pl22 Z Z (fun w hw => CellsAt.one 6 ((Own.kcells 0 Z hk hp_y) w hw) Z)) ?_
 refine wz 4 Z Z (QV.move Z Z) ?_
 obtain ⟨c1, hm2⟩ := cs hm; clear hm
 obtain ⟨p3, hp4⟩ := h_y_Ready.lenMap.ix (sz := 1) ln_len c1
 refine wz 5 Z Z (QV.indexSlice sl22 Z Z Z Z hp4) ?_
 refine wz 6 Z Z (QV.load pl3 Z Z (fun w hw => CellsAt.one 0 (((Own.karr 0 Z hk h_y_Ready) w hw).ele hp4 c1) Z)) ?_
 refine wz 7 Z Z (QV.move Z Z) ?_
 refine wz 8 Z Z (QV.move Z Z) ?_
 refine wz 9 Z Z (QV.nilCheck Z Z) ?_
 refine wz 10 Z Z (QV.fieldAddr fd87_1 Z Z) ?_
 refine wz 11 Z Z (QV.load pl3 Z Z (fun w hw => CellsAt.one 3 ((Own.kcells 0 Z hk hp_y) w hw) Z)) ?_
 obtain ⟨c5, hm6⟩ := cs hm2; clear hm2
 refine wz 12 Z Z (QV.mul Z Z Z Z c5) ?_
 obtain ⟨c7, hm8⟩ := cs hm6; clear hm6
 refine wz 13 Z Z (QV.add Z Z Z Z c7) ?_
 refine wz 14 Z Z (QV.assign Z Z) ?_
 refine WD.e (by kernel_rfl) ?_
 refine WQ.then (WC.seq (sr ?_))
 refine wm Z ?_
 refine wq Z (QV.lenS Try.underlying162 Z Z h_uses.lenMap) ?_
 refine wm Z ?_
 refine nt ?_
 obtain ⟨o9, ho10, hm11⟩ := bd_some hm8; clear hm8; obtain ⟨n12, ho13⟩ := lp_some ho10
 refine WC.bloop1 (H2 := [kn noM w.heap.size w w]) (τ := [(0, (true, _)), (1, (true, _)), (3, (true, _)), (11, (true, _)), (28, (true, _)), (29, (true, _))]) (fun (x30_1 : Int) => [(30, (true, .int .i64 x30_1))]) (fun x30_1 => []) (fun x30_1 m => iter (keep_Layout_bad_L0 y_Pace y_Ready a m_ j uses) m x30_1 = some o9) (fun x30_1 => o9 = .go x30_1) 0 n12 ho13 ⟨Z, Z, Z, Z, Z, Z, Z, trivial⟩ (fun w hw => hw.pick [0] (by decide)) ?_ ?_
 ·skip
  rintro x30_1 rfl
  refine WQ.then (sr ?_)
  refine wm Z ?_
  refine wq Z (QV.leq Z Z Z Z) ?_
  refine wm Z ?_
  refine gp Z (fun hG => QV.move Z Z) ?_
  refine gp Z (fun hG => QV.move Z Z) ?_
  refine gp Z (fun hG => QV.nilCheck Z hG) ?_
  refine gp Z (fun hG => QV.fieldAddr fd87_4 Z hG) ?_
  refine gp Z (fun hG => QV.load pl22 Z hG (fun w hw => CellsAt.one 6 ((Own.kcells 0 Z hk hp_y) w hw) Z)) ?_
  refine gp Z (fun hG => QV.move Z Z) ?_
  obtain ⟨c14, hm15⟩ := cs hm11; clear hm11
  obtain ⟨p16, hp17⟩ := h_y_Ready.lenMap.ixG (sz := 1) ln_len c14
  refine gp Z (fun hG => QV.indexSlice sl22 Z hG Z hG (hp17 hG)) ?_
  refine gp Z (fun hG => QV.load pl3 Z hG (fun w hw => CellsAt.one 0 (((Own.karr 0 Z hk h_y_Ready) w hw).ele (hp17 hG) (c14 hG)) Z)) ?_
  refine gp Z (fun hG => QV.geq Z hG Z hG) ?_
  refine wq Z (QV.pickAnd Z Z Z (fun h => h)) ?_
  refine wm Z ?_
  refine gp Z (fun hG => QV.move Z Z) ?_
  refine gp Z (fun hG => QV.nilCheck Z hG) ?_
  refine gp Z (fun hG => QV.fieldAddr fd87_0 Z hG) ?_
  refine gp Z (fun hG => QV.fieldAddr fd25_2 Z hG) ?_
  refine gp Z (fun hG => QV.load pl22 Z hG (fun w hw => CellsAt.one 2 ((Own.kcells 0 Z hk hp_y) w hw) Z)) ?_
  refine gp Z (fun hG => QV.move Z Z) ?_
  obtain ⟨x18, hx19, hm20⟩ := bdG_some hm15; clear hm15
  refine gp Z (fun hG => QV.call en125 (EvAll.cons Z hG (EvAll.cons Z hG EvAll.nil)) (fun w hw => have h := slices_Contains___int_int__w w (hx19 hG) ((Own.karr 0 Z hk h_y_Loop_Outs) w hw); h)) ?_
  refine wq Z (QV.pickAnd Z Z Z (fun h => h)) ?_
  refine wa Z ?_
  refine nt (WC.ret ?_)
  obtain rfl := (eq_of_some hm20).symm
  refine WQ.ret1 Z Z (fun w hw => ?_)
  exact ⟨Z, Own.kgrow (fun _ x => x) hw⟩
 rintro x30_1 m21 hI22
 obtain ⟨m23, s24, rfl, hm25, hn26⟩ := iter_step hI22; clear hI22; unfold keep_Layout_bad_L0 at hm25
 refine sr ?_
 refine wq Z (QV.lss Z Z Z Z) ?_
 refine nt (WC.seq ?_)
 refine WC.cond Z (fun h27 => ?_) (fun h27 => ?_)
 ·skip
  have hm28 := br_t h27 hm25; clear hm25
  refine sk (WQ.then (WC.seq (WC.block (sr ?_))))
  obtain ⟨c29, hm30⟩ := cs hm28; clear hm28
  obtain ⟨p31, hp32⟩ := h_uses.lenMap.ix (sz := 2) ln_len c29
  refine wq Z (QV.indexSlice sl162 Z Z Z Z hp32) ?_
  refine wq Z (QV.loadAgg ag185 Z Z Z (fun w hw => ((Own.karr 0 Z hk h_uses) w hw).ele hp32 c29)) ?_
  refine WL.effect Z ?_
  refine (EV.alloc (by decide) ze185 (fun b33 => ?_))
  refine WL.effect Z ?_
  refine (EV.store 0 Z Z Z Z Z Z (vs := [.int .i64 ((ele uses x30_1).til), .bool ((ele uses x30_1).later)]) (show Value.cells _ = List.toArray _ from Z) sz185 (Nat.le_of_ble_eq_true Z) (one_cons Z (one_cons Z one_nil)) ?_)
  refine ns ?_
  refine wm Z ?_
  refine wm Z ?_
  refine wq Z (QV.nilCheck Z Z) ?_
  refine wf fd87_4 Z ?_
  refine wl pl22 Z (fun w hw => CellsAt.one 6 ((Own.kcells 1 Z hk hp_y) w hw) Z) ?_
  refine wm Z ?_
  obtain ⟨c34, hm35⟩ := cs hm30; clear hm30
  obtain ⟨p36, hp37⟩ := h_y_Ready.lenMap.ix (sz := 1) ln_len c34
  refine wq Z (QV.indexSlice sl22 Z Z Z Z hp37) ?_
  refine wl pl3 Z (fun w hw => CellsAt.one 0 (((Own.karr 1 Z hk h_y_Ready) w hw).ele hp37 c34) Z) ?_
  refine wq Z (QV.geq Z Z Z Z) ?_
  refine wm Z ?_
  refine gp Z (fun hG => QV.move Z Z) ?_
  refine gp Z (fun hG => QV.fieldAddr fd185_0 Z Z) ?_
  refine gp Z (fun hG => QV.load pl3 Z hG (Own.cell 0 Z Z)) ?_
  refine gp Z (fun hG => QV.leq Z hG Z hG) ?_
  refine wq Z (QV.pickAnd Z Z Z (fun h => h)) ?_
  refine wm Z ?_
  refine gn Z (fun hG => QV.fieldAddr fd185_1 Z Z) ?_
  refine gn Z (fun hG => QV.load pl4 Z hG (Own.cell 0 Z Z)) ?_
  refine gn Z (fun hG => QV.move Z hG) ?_
  refine WL.g Z Z (GuardIs.posC Z Z) (fun hG => QV.move Z Z) ?_
  refine WL.g Z Z (GuardIs.posC Z Z) (fun hG => QV.gtr Z hG Z Z) ?_
  refine gn Z (fun hG => QV.pickAnd Z hG Z (fun h => andT hG h)) ?_
  refine gn Z (fun hG => QV.move Z hG) ?_
  refine WL.g Z Z (GuardIs.posC Z Z) (fun hG => QV.move Z Z) ?_
  refine WL.g Z Z (GuardIs.posC Z Z) (fun hG => QV.fieldAddr fd185_0 Z Z) ?_
  refine WL.g Z Z (GuardIs.posC Z Z) (fun hG => QV.load pl3 Z hG (Own.cell 0 Z Z)) ?_
  refine WL.g Z Z (GuardIs.posC Z Z) (fun hG => QV.leq Z hG Z hG) ?_
  refine gn Z (fun hG => QV.pickAnd Z hG Z (fun h => andT hG h)) ?_
  refine wq Z (QV.pickOr Z Z Z (fun h => notF h)) ?_
  refine nt ?_
  refine WC.cond Z (fun h38 => ?_) (fun h38 => ?_)
  ·skip
   have hm39 := br_t h38 hm35; clear hm35
   refine sr ?_
   refine wa Z ?_
   refine nt (WC.ret (kr (tr (tr (kr (tr (tr ?_)))))))
   obtain rfl := up_ret hm39 hn26
   obtain rfl := (eq_of_some hm11).symm
   refine WQ.ret1 Z Z (fun w hw => ?_)
   exact ⟨Z, Own.kgrow (fun _ x => x) hw⟩
  have hm40 := br_f h38 hm35; clear hm35
  refine sk (WQ.block (WQ.then (WC.region ?_)))
  obtain ⟨c41, hm42⟩ := cs hm40; clear hm40
  refine wq Z (QV.add Z Z Z Z c41) ?_
  refine wm Z ?_
  refine WL.nil ?_
  exact WQ.again1 (x30_1 + 1) m23 (up_next hm42 hn26) (Nat.lt_succ_self _) ⟨Z, Z, Z, Z, Z, Z, Z, trivial⟩ (fun w hw => hw.pick [1] (by decide))
 have hm43 := br_f h27 hm25; clear hm25
 refine WC.exit (te (te (WQ.block_exit ?_)))
 exact WQ.out1 x30_1 (up_brk hm43 hn26) ⟨Z, Z, Z, Z, Z, Z, Z, trivial⟩ (fun w hw => hw.pick [0] (by decide))
theorem keep_Layout_Apart_w {p_y : Addr} {v_y_Loop_Logs : Value} {v_y_Loop_Body : Value} {v_y_Loop_Outs : Value} {v_y_Time : Value} {v_y_Ready : Value} {v_y_Places : Value} {y_Loop_Body : List Stm} {y_Loop_Outs : List Int} {y_Pace : Int} {y_Regs : Int} {y_Time : List Int} {y_Ready : List Int} {y_Places : List Int} {a : Int} {m_ : Int} {r : Bool} (w : World) (hm : keep_Layout_Apart_m y_Loop_Body y_Loop_Outs y_Pace y_Regs y_Time y_Ready y_Places a m_ = some r) (h_y_Loop_Body : Arr w v_y_Loop_Body 9 (y_Loop_Body.map Stm.cells)) (h_y_Loop_Outs : Arr w v_y_Loop_Outs 1 (y_Loop_Outs.map icell)) (h_y_Time : Arr w v_y_Time 1 (y_Time.map icell)) (h_y_Ready : Arr w v_y_Ready 1 (y_Ready.map icell)) (h_y_Places : Arr w v_y_Places 1 (y_Places.map icell)) (hp_y : CellsAt w p_y [v_y_Loop_Logs, v_y_Loop_Body, v_y_Loop_Outs, .int .i64 y_Pace, .int .i64 y_Regs, v_y_Time, v_y_Ready, v_y_Places] 0) : Calls Try.prog 63 #[.pointer (some p_y), .int .i64 a, .int .i64 m_] w (fun e w' => e = .returned (.bool r) ∧ Grow w w') := by
 unfold keep_Layout_Apart_m at hm
 have hk := Base.rfl (w := w)
 refine calls_of_WC (n := 88) (args := [.pointer (some p_y), .int .i64 a, .int .i64 m_]) Try.func63 Z Z (Nat.le_of_ble_eq_true Z) ?_ (Own.startK hk (Own.start w))
 refine sr ?_
 refine wa Z ?_
 refine ns ?_
 refine wm Z ?_
 refine wm Z ?_
 refine WL.effect Z ?_
 obtain ⟨x1, hx2, hm3⟩ := bd_some hm; clear hm
 refine (EV.callR (X := Value × World) (R := []) (fun X => X.1) (fun X => []) (fun X => X.2) (fun X => Arr X.2 X.1 2 (x1.map Use.cells)) hk (fun _ h => by cases h; decide) en101 (EvAll.cons Z Z (EvAll.cons Z Z EvAll.nil)) (fun M w h1 h2 => have h := keep_Layout_uses_w hx2 h_y_Loop_Body h_y_Time hp_y M w h1 h2; h) (fun X4 hF4 hle4 => ?_))
 refine wa Z ?_
 refine nt (WC.seq ?_)
 refine WC.dr (m := 31) (by kernel_rfl) (by kernel_rfl) (fun w hw => hw) ?_
 refine wz 0 Z Z (QV.move Z Z) ?_
 refine wz 1 Z Z (QV.nilCheck Z Z) ?_
 refine wz 2 Z Z (QV.fieldAddr fd87_5 Z Z) ?_
 refine wz 3 Z Z (QV.load pl22 Z Z (fun w hw => CellsAt.one 7 ((Own.kcells 0 Z hk (hp_y.le hle4)) w hw) Z)) ?_
 refine wz 4 Z Z (QV.move Z Z) ?_
 obtain ⟨c5, hm6⟩ := cs hm3; clear hm3
 obtain ⟨p7, hp8⟩ := (h_y_Places.le hle4).lenMap.ix (sz := 1) ln_len c5
 refine wz 5 Z Z (QV.indexSlice sl22 Z Z Z Z hp8) ?_
 refine wz 6 Z Z (QV.load pl3 Z Z (fun w hw => CellsAt.one 0 (((Own.karr 0 Z hk (h_y_Places.le hle4)) w hw).ele hp8 c5) Z)) ?_
 refine wz 7 Z Z (QV.move Z Z) ?_
 refine wz 8 Z Z (QV.nilCheck Z Z) ?_
 refine wz 9 Z Z (QV.fieldAddr fd87_5 Z Z) ?_
 refine wz 10 Z Z (QV.load pl22 Z Z (fun w hw => CellsAt.one 7 ((Own.kcells 0 Z hk (hp_y.le hle4)) w hw) Z)) ?_
 refine wz 11 Z Z (QV.move Z Z) ?_
 obtain ⟨c9, hm10⟩ := cs hm6; clear hm6
 obtain ⟨p11, hp12⟩ := (h_y_Places.le hle4).lenMap.ix (sz := 1) ln_len c9
 refine wz 12 Z Z (QV.indexSlice sl22 Z Z Z Z hp12) ?_
 refine wz 13 Z Z (QV.load pl3 Z Z (fun w hw => CellsAt.one 0 (((Own.karr 0 Z hk (h_y_Places.le hle4)) w hw).ele hp12 c9) Z)) ?_
 obtain ⟨c13, hm14⟩ := cs hm10; clear hm10
 refine wz 14 Z Z (QV.sub Z Z Z Z c13) ?_
 refine wz 15 Z Z (QV.move Z Z) ?_
 refine wz 16 Z Z (QV.nilCheck Z Z) ?_
 refine wz 17 Z Z (QV.fieldAddr fd87_2 Z Z) ?_
 refine wz 18 Z Z (QV.load pl3 Z Z (fun w hw => CellsAt.one 4 ((Own.kcells 0 Z hk (hp_y.le hle4)) w hw) Z)) ?_
 obtain ⟨c15, hm16⟩ := cs hm14; clear hm14
 refine wz 19 Z Z (QV.rem Z Z Z Z c15) ?_
 refine wz 20 Z Z (QV.move Z Z) ?_
 refine wz 21 Z Z (QV.nilCheck Z Z) ?_
 refine wz 22 Z Z (QV.fieldAddr fd87_2 Z Z) ?_
 refine wz 23 Z Z (QV.load pl3 Z Z (fun w hw => CellsAt.one 4 ((Own.kcells 0 Z hk (hp_y.le hle4)) w hw) Z)) ?_
 obtain ⟨c17, hm18⟩ := cs hm16; clear hm16
 refine wz 24 Z Z (QV.add Z Z Z Z c17) ?_
 refine wz 25 Z Z (QV.move Z Z) ?_
 refine wz 26 Z Z (QV.nilCheck Z Z) ?_
 refine wz 27 Z Z (QV.fieldAddr fd87_2 Z Z) ?_
 refine wz 28 Z Z (QV.load pl3 Z Z (fun w hw => CellsAt.one 4 ((Own.kcells 0 Z hk (hp_y.le hle4)) w hw) Z)) ?_
 obtain ⟨c19, hm20⟩ := cs hm18; clear hm18
 refine wz 29 Z Z (QV.rem Z Z Z Z c19) ?_
 refine wz 30 Z Z (QV.assign Z Z) ?_
 refine WD.e (by kernel_rfl) ?_
 refine WQ.then (sr ?_)
 refine wm Z ?_
 refine wq Z (QV.nilCheck Z Z) ?_
 refine wf fd87_1 Z ?_
 refine wl pl3 Z (fun w hw => CellsAt.one 3 ((Own.kcells 0 Z hk (hp_y.le hle4)) w hw) Z) ?_
 obtain ⟨c21, hm22⟩ := cs hm20; clear hm20
 obtain ⟨c23, hm24⟩ := cs hm22; clear hm22
 refine wq Z (QV.quo Z Z Z Z c21 c23) ?_
 obtain ⟨c25, hm26⟩ := cs hm24; clear hm24
 refine wq Z (QV.add Z Z Z Z c25) ?_
 refine wa Z ?_
 refine nt (WC.seq (WC.seq ?_))
 refine WC.dr (m := 15) (by kernel_rfl) (by kernel_rfl) (fun w hw => hw) ?_
 refine wz 0 Z Z (QV.move Z Z) ?_
 refine wz 1 Z Z (QV.move Z Z) ?_
 refine wz 2 Z Z (QV.move Z Z) ?_
 refine wz 3 Z Z (QV.nilCheck Z Z) ?_
 refine wz 4 Z Z (QV.fieldAddr fd87_2 Z Z) ?_
 refine wz 5 Z Z (QV.load pl3 Z Z (fun w hw => CellsAt.one 4 ((Own.kcells 0 Z hk (hp_y.le hle4)) w hw) Z)) ?_
 obtain ⟨c27, hm28⟩ := cs hm26; clear hm26
 obtain ⟨c29, hm30⟩ := cs hm28; clear hm28
 refine wz 6 Z Z (QV.quo Z Z Z Z c27 c29) ?_
 obtain ⟨c31, hm32⟩ := cs hm30; clear hm30
 refine wz 7 Z Z (QV.add Z Z Z Z c31) ?_
 refine wz 8 Z Z (QV.move Z Z) ?_
 refine wz 9 Z Z (QV.nilCheck Z Z) ?_
 refine wz 10 Z Z (QV.fieldAddr fd87_2 Z Z) ?_
 refine wz 11 Z Z (QV.load pl3 Z Z (fun w hw => CellsAt.one 4 ((Own.kcells 0 Z hk (hp_y.le hle4)) w hw) Z)) ?_
 obtain ⟨c33, hm34⟩ := cs hm32; clear hm32
 refine wz 12 Z Z (QV.mul Z Z Z Z c33) ?_
 obtain ⟨c35, hm36⟩ := cs hm34; clear hm34
 refine wz 13 Z Z (QV.sub Z Z Z Z c35) ?_
 refine wz 14 Z Z (QV.assign Z Z) ?_
 refine WD.e (by kernel_rfl) ?_
 refine WQ.then ?_
 obtain ⟨o37, ho38, hm39⟩ := bd_some hm36; clear hm36; obtain ⟨n40, ho41⟩ := lp_some ho38
 refine WC.bloop1 (H2 := [kn noM w.heap.size w X4.2]) (τ := [(0, (true, _)), (1, (true, _)), (2, (true, _)), (7, (true, _)), (9, (true, _))]) (fun (j10_1 : Int) => [(10, (true, .int .i64 j10_1))]) (fun j10_1 => []) (fun j10_1 m => iter (keep_Layout_Apart_L0 y_Loop_Outs y_Pace y_Regs y_Ready a m_ x1) m j10_1 = some o37) (fun j10_1 => o37 = .go j10_1) ((Int.tmod ((Int.tmod ((ele y_Places a) - (ele y_Places m_)) y_Regs) + y_Regs) y_Regs) - (((Int.tdiv ((Int.tdiv 4000 y_Pace) + 1) y_Regs) + 2) * y_Regs)) n40 ho41 ⟨Z, Z, Z, Z, Z, Z, trivial⟩ (fun w hw => hw.pick [0] (by decide)) ?_ ?_
 ·skip
  rintro j10_1 rfl
  refine WQ.then (sr ?_)
  refine wa Z ?_
  refine nt (WC.ret ?_)
  obtain rfl := (eq_of_some hm39).symm
  refine WQ.ret1 Z Z (fun w hw => ?_)
  exact ⟨Z, Own.kgrow (fun _ x => x) hw⟩
 rintro j10_1 m42 hI43
 obtain ⟨m44, s45, rfl, hm46, hn47⟩ := iter_step hI43; clear hI43; unfold keep_Layout_Apart_L0 at hm46
 refine WC.seq (sr ?_)
 refine wm Z ?_
 refine wm Z ?_
 refine wq Z (QV.leq Z Z Z Z) ?_
 refine nt ?_
 refine WC.cond Z (fun h48 => ?_) (fun h48 => ?_)
 ·skip
  have hm49 := br_t h48 hm46; clear hm46
  refine sk (WQ.then (WC.seq (WC.block (sr ?_))))
  refine wm Z ?_
  refine wm Z ?_
  refine wq Z (QV.neq Z Z Z Z) ?_
  refine wm Z ?_
  refine gn Z (fun hG => QV.move Z Z) ?_
  refine gn Z (fun hG => QV.neq Z hG Z Z) ?_
  refine wq Z (QV.pickOr Z Z Z (fun h => notF h)) ?_
  refine wm Z ?_
  refine gp Z (fun hG => QV.move Z Z) ?_
  refine gp Z (fun hG => QV.move Z Z) ?_
  refine gp Z (fun hG => QV.move Z Z) ?_
  refine gp Z (fun hG => QV.move Z Z) ?_
  refine gp Z (fun hG => QV.move Z Z) ?_
  obtain ⟨x50, hx51, hm52⟩ := bdG_some hm49; clear hm49
  refine gp Z (fun hG => QV.call en102 (EvAll.cons Z hG (EvAll.cons Z hG (EvAll.cons Z hG (EvAll.cons Z hG (EvAll.cons Z hG EvAll.nil))))) (fun w hw => have h := keep_Layout_bad_w w (hx51 hG) ((Own.karr 0 Z hk (h_y_Loop_Outs.le hle4)) w hw) ((Own.karr 0 Z hk (h_y_Ready.le hle4)) w hw) (Own.kcells 0 Z hk (hp_y.le hle4) w hw) ((Own.karr 0 Z hk hF4) w hw); h)) ?_
  refine wq Z (QV.pickAnd Z Z Z (fun h => h)) ?_
  refine nt ?_
  refine WC.cond Z (fun h53 => ?_) (fun h53 => ?_)
  ·skip
   have hm54 := br_t h53 hm52; clear hm52
   refine sr ?_
   refine wa Z ?_
   refine nt (WC.ret (kr (tr (tr (kr (tr (tr ?_)))))))
   obtain rfl := up_ret hm54 hn47
   obtain rfl := (eq_of_some hm39).symm
   refine WQ.ret1 Z Z (fun w hw => ?_)
   exact ⟨Z, Own.kgrow (fun _ x => x) hw⟩
  have hm55 := br_f h53 hm52; clear hm52
  refine sk (WQ.block (WQ.then (WC.region ?_)))
  refine wm Z ?_
  refine wm Z ?_
  refine wq Z (QV.nilCheck Z Z) ?_
  refine wf fd87_2 Z ?_
  refine wl pl3 Z (fun w hw => CellsAt.one 4 ((Own.kcells 0 Z hk (hp_y.le hle4)) w hw) Z) ?_
  obtain ⟨c56, hm57⟩ := cs hm55; clear hm55
  refine wq Z (QV.add Z Z Z Z c56) ?_
  refine wa Z ?_
  refine WL.nil ?_
  exact WQ.again1 (j10_1 + y_Regs) m44 (up_next hm57 hn47) (Nat.lt_succ_self _) ⟨Z, Z, Z, Z, Z, Z, trivial⟩ (fun w hw => hw.pick [0] (by decide))
 have hm58 := br_f h48 hm46; clear hm46
 refine WC.exit (te (te (WQ.block_exit ?_)))
 exact WQ.out1 j10_1 (up_brk hm58 hn47) ⟨Z, Z, Z, Z, Z, Z, trivial⟩ (fun w hw => hw.pick [0] (by decide))
theorem keep_Layout_Firsts_w {p_y : Addr} {v_y_Loop_Logs : Value} {v_y_Loop_Body : Value} {v_y_Loop_Outs : Value} {v_y_Time : Value} {v_y_Ready : Value} {v_y_Places : Value} {v_l : Value} {y_Loop_Logs : List Int} {y_Loop_Body : List Stm} {y_Loop_Outs : List Int} {y_Pace : Int} {y_Regs : Int} {y_Places : List Int} {l : List Int} {r : Bool} (w : World) (hm : keep_Layout_Firsts_m y_Loop_Logs y_Loop_Body y_Loop_Outs y_Pace y_Regs y_Places l = some r) (h_y_Loop_Logs : Arr w v_y_Loop_Logs 1 (y_Loop_Logs.map icell)) (h_y_Loop_Body : Arr w v_y_Loop_Body 9 (y_Loop_Body.map Stm.cells)) (h_y_Loop_Outs : Arr w v_y_Loop_Outs 1 (y_Loop_Outs.map icell)) (h_y_Places : Arr w v_y_Places 1 (y_Places.map icell)) (hp_y : CellsAt w p_y [v_y_Loop_Logs, v_y_Loop_Body, v_y_Loop_Outs, .int .i64 y_Pace, .int .i64 y_Regs, v_y_Time, v_y_Ready, v_y_Places] 0) (h_l : Arr w v_l 1 (l.map icell)) : Calls Try.prog 64 #[.pointer (some p_y), v_l] w (fun e w' => e = .returned (.bool r) ∧ Grow w w') := by
 unfold keep_Layout_Firsts_m at hm
 have hk := Base.rfl (w := w)
 refine calls_of_WC (n := 58) (args := [.pointer (some p_y), v_l]) Try.func64 Z Z (Nat.le_of_ble_eq_true Z) ?_ (Own.startK hk (Own.start w))
 refine sr ?_
 refine wa Z ?_
 refine ns ?_
 refine WL.effect Z ?_
 refine (EV.makeMap (ke := kI) (ve := bv) (by decide) (fun b1 => ?_))
 refine wa Z ?_
 refine nt (WC.seq (sr ?_))
 refine wm Z ?_
 refine wq Z (QV.lenS Try.underlying22 Z Z h_l.lenMap) ?_
 refine wm Z ?_
 refine nt ?_
 obtain ⟨o2, ho3, hm4⟩ := bd_some hm; clear hm; obtain ⟨n5, ho6⟩ := lp_some ho3
 refine WC.bloop2 (H2 := [kn noM w.heap.size w w]) (τ := [(0, (true, _)), (5, (true, _)), (11, (true, _)), (12, (true, _))]) (fun (m1n_3 : List (Int × Bool)) (x13_3 : Int) => [(13, (true, .int .i64 x13_3))]) (fun m1n_3 x13_3 => [mapR b1 kI bv m1n_3]) (fun m1n_3 x13_3 m => iter (keep_Layout_Firsts_L0 y_Loop_Logs y_Loop_Body y_Loop_Outs y_Regs y_Places l) m (m1n_3, x13_3) = some o2) (fun m1n_3 x13_3 => o2 = .go (m1n_3, x13_3)) ([] : List (Int × Bool)) 0 n5 ho6 ⟨Z, Z, Z, Z, Z, trivial⟩ (fun w hw => hw.pick [0, 1] (by decide)) ?_ ?_
 ·skip
  rintro m1n_3 x13_3 rfl
  refine WQ.then (sr ?_)
  refine wa Z ?_
  refine nt (WC.ret ?_)
  obtain rfl := (eq_of_some hm4).symm
  refine WQ.ret1 Z Z (fun w hw => ?_)
  exact ⟨Z, Own.kgrow (fun _ x => x) hw⟩
 rintro m1n_3 x13_3 m7 hI8
 obtain ⟨m9, s10, rfl, hm11, hn12⟩ := iter_step hI8; clear hI8; unfold keep_Layout_Firsts_L0 at hm11; simp only at hm11
 refine sr ?_
 refine wq Z (QV.lss Z Z Z Z) ?_
 refine nt (WC.seq ?_)
 refine WC.cond Z (fun h13 => ?_) (fun h13 => ?_)
 ·skip
  have hm14 := br_t h13 hm11; clear hm11
  refine sk (WQ.then (WC.seq (WC.block (sr ?_))))
  obtain ⟨c15, hm16⟩ := cs hm14; clear hm14
  obtain ⟨p17, hp18⟩ := h_l.lenMap.ix (sz := 1) ln_len c15
  refine wq Z (QV.indexSlice sl22 Z Z Z Z hp18) ?_
  refine wl pl3 Z (fun w hw => CellsAt.one 0 (((Own.karr 1 Z hk h_l) w hw).ele hp18 c15) Z) ?_
  refine wa Z ?_
  refine ns ?_
  refine wm Z ?_
  refine wq Z (QV.nilCheck Z Z) ?_
  refine wf fd87_0 Z ?_
  refine wq Z (QV.loadAgg ag25 Z Z Z (fun w hw => CellsAt.sub 0 3 ((Own.kcells 1 Z hk hp_y) w hw) Z)) ?_
  refine wm Z ?_
  obtain ⟨x19, hx20, hm21⟩ := bd_some hm16; clear hm16
  refine wq Z (QV.call en36 (EvAll.cons Z Z (EvAll.cons Z Z EvAll.nil)) (fun w hw => have h := keep_Far_w w hx20 ((Own.karr 1 Z hk h_y_Loop_Logs) w hw) ((Own.karr 1 Z hk h_y_Loop_Body) w hw) ((Own.karr 1 Z hk h_y_Loop_Outs) w hw); h)) ?_
  refine wm Z ?_
  refine nt ?_
  obtain ⟨o22, ho23, hm24⟩ := bd_some hm21; clear hm21; obtain ⟨n25, ho26⟩ := lp_some ho23
  refine WC.bloop2 (H2 := [kn noM w.heap.size w w]) (τ := [(0, (true, _)), (5, (true, _)), (7, (true, _)), (11, (true, _)), (12, (true, _)), (13, (true, _)), (22, (true, _))]) (fun (m1n_4 : List (Int × Bool)) (x23_4 : Int) => [(23, (true, .int .i64 x23_4))]) (fun m1n_4 x23_4 => [mapR b1 kI bv m1n_4]) (fun m1n_4 x23_4 m => iter (keep_Layout_Firsts_L2 y_Regs y_Places l x13_3 x19) m (m1n_4, x23_4) = some o22) (fun m1n_4 x23_4 => o22 = .go (m1n_4, x23_4)) m1n_3 0 n25 ho26 ⟨Z, Z, Z, Z, Z, Z, Z, Z, trivial⟩ (fun w hw => hw.pick [0, 1] (by decide)) ?_ ?_
  ·skip
   rintro m1n_4 x23_4 rfl
   refine WQ.block (WQ.then (WC.region ?_))
   obtain ⟨c27, hm28⟩ := cs hm24; clear hm24
   refine wq Z (QV.add Z Z Z Z c27) ?_
   refine wm Z ?_
   refine WL.nil ?_
   exact WQ.again2 m1n_4 (x13_3 + 1) m9 (up_next hm28 hn12) (Nat.lt_succ_self _) ⟨Z, Z, Z, Z, Z, trivial⟩ (fun w hw => hw.pick [0, 1] (by decide))
  rintro m1n_4 x23_4 m29 hI30
  obtain ⟨m31, s32, rfl, hm33, hn34⟩ := iter_step hI30; clear hI30; unfold keep_Layout_Firsts_L2 at hm33; simp only at hm33
  refine sr ?_
  refine wq Z (QV.lss Z Z Z Z) ?_
  refine nt (WC.seq ?_)
  refine WC.cond Z (fun h35 => ?_) (fun h35 => ?_)
  ·skip
   have hm36 := br_t h35 hm33; clear hm33
   refine sk (WQ.then (WC.seq (WC.block (sr ?_))))
   refine wm Z ?_
   refine wa Z ?_
   refine nt (WC.seq ?_)
   refine WC.dr (m := 26) (S := Own noM w [kn noM w.heap.size w w, mapR b1 kI bv m1n_4]) (by kernel_rfl) (by kernel_rfl) (fun w hw => hw.pick [1, 0] (by decide)) ?_
   refine wz 0 Z Z (QV.move Z Z) ?_
   refine wz 1 Z Z (QV.nilCheck Z Z) ?_
   refine wz 2 Z Z (QV.fieldAddr fd87_5 Z Z) ?_
   refine wz 3 Z Z (QV.load pl22 Z Z (fun w hw => CellsAt.one 7 ((Own.kcells 0 Z hk hp_y) w hw) Z)) ?_
   refine wz 4 Z Z (QV.move Z Z) ?_
   obtain ⟨c37, hm38⟩ := cs hm36; clear hm36
   obtain ⟨p39, hp40⟩ := h_y_Places.lenMap.ix (sz := 1) ln_len c37
   refine wz 5 Z Z (QV.indexSlice sl22 Z Z Z Z hp40) ?_
   refine wz 6 Z Z (QV.load pl3 Z Z (fun w hw => CellsAt.one 0 (((Own.karr 0 Z hk h_y_Places) w hw).ele hp40 c37) Z)) ?_
   refine wz 7 Z Z (QV.move Z Z) ?_
   obtain ⟨c41, hm42⟩ := cs hm38; clear hm38
   refine wz 8 Z Z (QV.sub Z Z Z Z c41) ?_
   obtain ⟨c43, hm44⟩ := cs hm42; clear hm42
   refine wz 9 Z Z (QV.sub Z Z Z Z c43) ?_
   refine wz 10 Z Z (QV.move Z Z) ?_
   refine wz 11 Z Z (QV.nilCheck Z Z) ?_
   refine wz 12 Z Z (QV.fieldAddr fd87_2 Z Z) ?_
   refine wz 13 Z Z (QV.load pl3 Z Z (fun w hw => CellsAt.one 4 ((Own.kcells 0 Z hk hp_y) w hw) Z)) ?_
   obtain ⟨c45, hm46⟩ := cs hm44; clear hm44
   refine wz 14 Z Z (QV.rem Z Z Z Z c45) ?_
   refine wz 15 Z Z (QV.move Z Z) ?_
   refine wz 16 Z Z (QV.nilCheck Z Z) ?_
   refine wz 17 Z Z (QV.fieldAddr fd87_2 Z Z) ?_
   refine wz 18 Z Z (QV.load pl3 Z Z (fun w hw => CellsAt.one 4 ((Own.kcells 0 Z hk hp_y) w hw) Z)) ?_
   obtain ⟨c47, hm48⟩ := cs hm46; clear hm46
   refine wz 19 Z Z (QV.add Z Z Z Z c47) ?_
   refine wz 20 Z Z (QV.move Z Z) ?_
   refine wz 21 Z Z (QV.nilCheck Z Z) ?_
   refine wz 22 Z Z (QV.fieldAddr fd87_2 Z Z) ?_
   refine wz 23 Z Z (QV.load pl3 Z Z (fun w hw => CellsAt.one 4 ((Own.kcells 0 Z hk hp_y) w hw) Z)) ?_
   obtain ⟨c49, hm50⟩ := cs hm48; clear hm48
   refine wz 24 Z Z (QV.rem Z Z Z Z c49) ?_
   refine wz 25 Z Z (QV.assign Z Z) ?_
   refine WD.e (by kernel_rfl) ?_
   refine WQ.then (WC.seq (sr ?_))
   refine wm Z ?_
   refine wm Z ?_
   refine wq Z (QV.lookup (k := (Int.tmod ((Int.tmod (((ele y_Places (ele l x13_3)) - x23_4) - 1) y_Regs) + y_Regs) y_Regs)) 0 false mt154 kt3 zv4bv Z Z Z Z Z) ?_
   refine nt ?_
   refine WC.cond Z (fun h51 => ?_) (fun h51 => ?_)
   ·skip
    have hm52 := br_t h51 hm50; clear hm50
    refine sr ?_
    refine wa Z ?_
    refine nt (WC.ret (tr (kr (tr (tr (kr (tr (kr (tr (tr (kr (tr (tr ?_)))))))))))))
    obtain rfl := up_ret hm52 hn34
    obtain rfl := up_ret hm24 hn12
    obtain rfl := (eq_of_some hm4).symm
    refine WQ.ret1 Z Z (fun w hw => ?_)
    exact ⟨Z, Own.kgrow (fun _ x => x) hw⟩
   have hm53 := br_f h51 hm50; clear hm50
   refine sk (WQ.then (WC.region ?_))
   refine wm Z ?_
   refine wm Z ?_
   refine WL.effect Z ?_
   refine (EV.mapUpdate (ke := kI) (ve := bv) (Int.tmod ((Int.tmod (((ele y_Places (ele l x13_3)) - x23_4) - 1) y_Regs) + y_Regs) y_Regs) 0 true mt154 kt3 Z Z Z Z Z Z Z ?_)
   refine WL.nil (WQ.block (WQ.then (WC.region ?_)))
   obtain ⟨c54, hm55⟩ := cs hm53; clear hm53
   refine wq Z (QV.add Z Z Z Z c54) ?_
   refine wm Z ?_
   refine WL.nil ?_
   exact WQ.again2 (mput m1n_4 (Int.tmod ((Int.tmod (((ele y_Places (ele l x13_3)) - x23_4) - 1) y_Regs) + y_Regs) y_Regs) true) (x23_4 + 1) m31 (up_next hm55 hn34) (Nat.lt_succ_self _) ⟨Z, Z, Z, Z, Z, Z, Z, Z, trivial⟩ (fun w hw => hw.pick [0, 1] (by decide))
  have hm56 := br_f h35 hm33; clear hm33
  refine WC.exit (te (te (WQ.block_exit ?_)))
  exact WQ.out2 m1n_4 x23_4 (up_brk hm56 hn34) ⟨Z, Z, Z, Z, Z, Z, Z, Z, trivial⟩ (fun w hw => hw.pick [0, 1] (by decide))
 have hm57 := br_f h13 hm11; clear hm11
 refine WC.exit (te (te (WQ.block_exit ?_)))
 exact WQ.out2 m1n_3 x13_3 (up_brk hm57 hn12) ⟨Z, Z, Z, Z, Z, trivial⟩ (fun w hw => hw.pick [0, 1] (by decide))
end Go.Proofs.Ytaimbkndebaaiac
end