/- All edges: both sides tell the same list. -/
import Derived.Test.YtaimbkndebaaiabSDep
import Derived.Test.YtaimbkndebaaiabSOrd
import Derived.Test.YtaimbkndebaaiabMCpt
namespace Go.Rd
set_option linter.unusedVariables false
set_option linter.unusedSimpArgs false
def Lt (a b : Edg) : Prop := ordV a b < 0
theorem Lt.trans {a b c : Edg} (h : Lt a b) (h' : Lt b c) : Lt a c := by unfold Lt at *; rw [ordV_neg] at *; omega
theorem Lt.irrefl {a : Edg} : ¬ Lt a a := by unfold Lt; rw [ordV_neg]; omega
theorem Lt.asymm {a b : Edg} (h : Lt a b) : ¬ Lt b a := fun h' => Lt.irrefl (h.trans h')
theorem Lt.tri {a b : Edg} (h1 : ¬ Lt a b) (h2 : ¬ Lt b a) : a = b := by
  unfold Lt at *; rw [ordV_neg] at *
  cases a; cases b; simp only [Edg.mk.injEq] at *; omega
def Strict (l : List Edg) : Prop := l.Pairwise Lt
theorem strict_ext : ∀ {a b : List Edg}, Strict a → Strict b → (∀ e, e ∈ a ↔ e ∈ b) → a = b
  | [], [], _, _, _ => rfl
  | [], y :: b, _, _, h => by have := (h y).2 (by simp); cases this
  | x :: a, [], _, _, h => by have := (h x).1 (by simp); cases this
  | x :: a, y :: b, ha, hb, h => by
    obtain ⟨a1, a2⟩ := List.pairwise_cons.1 ha
    obtain ⟨b1, b2⟩ := List.pairwise_cons.1 hb
    have hxy : x = y := by
      rcases List.mem_cons.1 ((h x).1 (by simp)) with h1 | h1
      · exact h1
      · rcases List.mem_cons.1 ((h y).2 (by simp)) with h2 | h2
        · exact h2.symm
        · exact absurd (b1 x h1) (a1 y h2).asymm
    subst hxy
    congr 1
    refine strict_ext a2 b2 fun e => ⟨fun he => ?_, fun he => ?_⟩
    · rcases List.mem_cons.1 ((h e).1 (by simp [he])) with h1 | h1
      · subst h1; exact absurd (a1 e he) Lt.irrefl
      · exact h1
    · rcases List.mem_cons.1 ((h e).2 (by simp [he])) with h1 | h1
      · subst h1; exact absurd (b1 e he) Lt.irrefl
      · exact h1
theorem strict_snoc {l : List Edg} {x : Edg} (h : Strict l) (hx : ∀ e ∈ l, Lt e x) : Strict (l ++ [x]) := by
  unfold Strict
  rw [List.pairwise_append]
  exact ⟨h, List.pairwise_singleton _ _, fun a ha b hb => by simp only [List.mem_singleton] at hb; subst hb; exact hx a ha⟩
theorem edg_beq (a b : Edg) : ([a.fr, a.to, a.bk, a.wt] == [b.fr, b.to, b.bk, b.wt]) = tb (a = b) := by
  refine tb_eq ?_
  cases a; cases b
  simp
/-! ### Compact -/
def Srt (l : List Edg) : Prop := l.Pairwise fun a b => ¬ Lt b a
theorem Srt.at {l : List Edg} (h : Srt l) {i j : Nat} (hij : i < j) (hj : j < l.length) : ¬ Lt (ele l (j : Int)) (ele l (i : Int)) := by
  have := List.pairwise_iff_getElem.1 h i j (by omega) hj hij
  simpa [ele_nat, List.getD_eq_getElem?_getD, hj, show i < l.length from by omega] using this
theorem mem_take {l : List Edg} {n : Nat} {e : Edg} : e ∈ l.take n ↔ ∃ i : Nat, i < n ∧ i < l.length ∧ ele l (i : Int) = e := by
  constructor
  · intro h
    obtain ⟨i, hi, rfl⟩ := List.getElem_of_mem h
    rw [List.length_take] at hi
    exact ⟨i, by omega, by omega, by simp [ele_nat, List.getD_eq_getElem?_getD, show i < l.length from by omega]⟩
  · rintro ⟨i, h1, h2, rfl⟩
    rw [ele_nat, List.getD_eq_getElem?_getD, List.getElem?_eq_getElem h2]
    exact List.mem_of_getElem? (by rw [List.getElem?_take, if_pos h1, List.getElem?_eq_getElem h2]; rfl)
theorem upd_take {l : List Edg} {k : Nat} {x : Edg} (h : k < l.length) : (upd l (k : Int) x).take (k + 1) = l.take k ++ [x] := by
  unfold upd
  rw [Int.toNat_natCast, List.take_add_one, List.take_set_of_le (Nat.le_refl _), List.getElem?_set_self h]
  rfl
theorem sub_at {l : List Edg} {k i : Nat} (h : k + i < l.length) : ele (sub l (k : Int) (ln l)) (i : Int) = ele l ((k + i : Nat) : Int) := by
  unfold sub ln
  rw [ele_nat, ele_nat, List.getD_eq_getElem?_getD, List.getElem?_take, if_pos (by omega), List.getElem?_drop, Int.toNat_natCast, List.getD_eq_getElem?_getD]
structure CptI (s : List Edg) (k0 : Nat) (ows : List Edg) (k j : Nat) : Prop where
  len : ows.length = s.length
  kp : 1 ≤ k0
  j1 : 1 ≤ j
  jn : k0 + j ≤ s.length
  kk : k0 ≤ k
  kj : k + 1 ≤ k0 + j
  st : Strict (ows.take k)
  mem : ∀ e, e ∈ ows.take k ↔ e ∈ s.take (k0 + j)
  last : ele ows ((k - 1 : Nat) : Int) = ele s ((k0 + j - 1 : Nat) : Int)
  rest : ∀ p : Nat, k0 + j - 1 ≤ p → p < s.length → ele ows (p : Int) = ele s (p : Int)
theorem last_max {l : List Edg} (h : Strict l) (h0 : 0 < l.length) : ∀ e ∈ l, e = ele l ((l.length - 1 : Nat) : Int) ∨ Lt e (ele l ((l.length - 1 : Nat) : Int)) := fun e he => by
  obtain ⟨i, hi, rfl⟩ := List.getElem_of_mem he
  have hl : ele l ((l.length - 1 : Nat) : Int) = l[l.length - 1] := by simp [ele_nat, List.getD_eq_getElem?_getD, show l.length - 1 < l.length from by omega]
  rw [hl]
  by_cases h1 : i = l.length - 1
  · left; congr 1
  · right; exact List.pairwise_iff_getElem.1 h i (l.length - 1) hi (by omega) (by omega)
theorem ele_take {l : List Edg} {k i : Nat} (h : i < k) : ele (l.take k) (i : Int) = ele l (i : Int) := by
  rw [ele_nat, ele_nat, List.getD_eq_getElem?_getD, List.getElem?_take, if_pos h, List.getD_eq_getElem?_getD]
theorem cpt_step {s : List Edg} (hs : Srt s) (hb : s.length ≤ 4611686018427387904) {k0 : Nat} {ows : List Edg} {k j : Nat} (h : CptI s k0 ows k j) (hj : k0 + j < s.length) :
    (∃ ows' k', slices_Compact___api_Edge_api_Edge__L2 s k0 (ows, (k : Int), (j : Int)) = some (.next (ows', ((k' : Nat) : Int), ((j + 1 : Nat) : Int))) ∧ CptI s k0 ows' k' (j + 1)) := by
  have hl := h.len; have hj1 := h.j1; have hkj := h.kj; have hk0 := h.kp; have hkk := h.kk
  have hln : ln s = ln ows := by unfold ln; rw [hl]
  have hsub : ln (sub ows (k0 : Int) (ln ows)) = ((s.length - k0 : Nat) : Int) := by
    have := sub_len (xs := ows) (i := (k0 : Int)) (j := ln ows) ⟨by omega, by unfold ln; omega, Int.le_refl _⟩
    unfold ln at this ⊢
    rw [this]; omega
  have hx : ele (sub ows (k0 : Int) (ln ows)) (j : Int) = ele s ((k0 + j : Nat) : Int) := by rw [sub_at (by omega), h.rest _ (by omega) hj]
  have hy : ele (sub ows (k0 : Int) (ln ows)) ((j : Int) - 1) = ele s ((k0 + j - 1 : Nat) : Int) := by
    rw [show (j : Int) - 1 = ((j - 1 : Nat) : Int) from by omega, sub_at (by omega), h.rest _ (by omega) (by omega), show k0 + (j - 1) = k0 + j - 1 from by omega]
  have hsc : ((j + 1 : Nat) : Int) = (j : Int) + 1 := rfl
  have hmem : ∀ e, e ∈ s.take (k0 + (j + 1)) ↔ e ∈ s.take (k0 + j) ∨ e = ele s ((k0 + j : Nat) : Int) := fun e => by
    rw [show k0 + (j + 1) = (k0 + j) + 1 from rfl, take_next hj, List.mem_append, List.mem_singleton]
  unfold slices_Compact___api_Edge_api_Edge__L2
  simp only
  rw [hln, ck_SX (by omega) (by unfold ln; omega) (Int.le_refl _), hsub, br_T (by omega), ck_IX (by omega) (by omega), ck_IR (by omega) (by omega), ck_IX (by omega) (by omega), hx, hy, edg_beq]
  by_cases he : ele s ((k0 + j : Nat) : Int) = ele s ((k0 + j - 1 : Nat) : Int)
  · rw [tb_t he, Bool.not_true, br_false, ck_IR (by omega) (by omega), ← hsc]
    refine ⟨ows, k, rfl, ⟨hl, hk0, by omega, by omega, hkk, by omega, h.st, fun e => ?_, ?_, fun p h1 h2 => h.rest p (by omega) h2⟩⟩
    · rw [h.mem, hmem]
      refine ⟨.inl, fun h' => h'.elim id fun h' => ?_⟩
      rw [h', he, mem_take]
      exact ⟨k0 + j - 1, by omega, by omega, rfl⟩
    · rw [h.last, show k0 + (j + 1) - 1 = k0 + j from by omega, he]
  · rw [tb_f he, Bool.not_false, br_true, ck_IX (by omega) (by omega), ck_IX (by omega) (by unfold ln; omega), ck_IR (by omega) (by omega), ck_IR (by omega) (by omega), ← hsc]
    refine ⟨_, k + 1, rfl, ⟨by rw [upd_length]; exact hl, hk0, by omega, by omega, by omega, by omega, ?_, fun e => ?_, ?_, fun p h1 h2 => ?_⟩⟩
    · rw [upd_take (by omega)]
      refine strict_snoc h.st fun e hm => ?_
      have hlt : (ows.take k).length = k := by rw [List.length_take]; omega
      have hmx := last_max h.st (by omega) e hm
      rw [hlt, ele_take (by omega), h.last] at hmx
      have hnot := hs.at (i := k0 + j - 1) (j := k0 + j) (by omega) hj
      have hlt2 : Lt (ele s ((k0 + j - 1 : Nat) : Int)) (ele s ((k0 + j : Nat) : Int)) := by
        by_cases hh : Lt (ele s ((k0 + j - 1 : Nat) : Int)) (ele s ((k0 + j : Nat) : Int))
        · exact hh
        · exact absurd (Lt.tri hnot hh) he
      rcases hmx with h' | h'
      · rw [h']; exact hlt2
      · exact h'.trans hlt2
    · rw [upd_take (by omega), List.mem_append, List.mem_singleton, h.mem, hmem]
    · rw [show k + 1 - 1 = k from rfl, ele_upd ⟨by omega, by unfold ln; omega⟩, show k0 + (j + 1) - 1 = k0 + j from by omega]
    · rw [ele_upd_ne (by omega)]
      exact h.rest p (by omega) h2
theorem cpt_loop {s : List Edg} (hs : Srt s) (hb : s.length ≤ 4611686018427387904) {k0 : Nat} : ∀ (m j k : Nat) (ows : List Edg), k0 + j + m = s.length → CptI s k0 ows k j → ∃ ows' k', lp (slices_Compact___api_Edge_api_Edge__L2 s k0) (ows, (k : Int), (j : Int)) = some (.go (ows', ((k' : Nat) : Int), ((s.length - k0 : Nat) : Int))) ∧ CptI s k0 ows' k' (s.length - k0)
  | 0, j, k, ows, hm, h => by
    have hj : j = s.length - k0 := by have := h.kk; omega
    subst hj
    refine ⟨ows, k, lp_brk ?_, h⟩
    have hl := h.len
    have hln : ln s = ln ows := by unfold ln; rw [hl]
    have hsub : ln (sub ows (k0 : Int) (ln ows)) = ((s.length - k0 : Nat) : Int) := by
      have := sub_len (xs := ows) (i := (k0 : Int)) (j := ln ows) ⟨by omega, by unfold ln; omega, Int.le_refl _⟩
      unfold ln at this ⊢
      rw [this]; omega
    unfold slices_Compact___api_Edge_api_Edge__L2
    simp only
    rw [hln, ck_SX (by omega) (by unfold ln; omega) (Int.le_refl _), hsub, br_F (by omega)]
  | m + 1, j, k, ows, hm, h => by
    obtain ⟨ows', k', h1, h2⟩ := cpt_step hs hb h (by omega)
    obtain ⟨o2, k2, h3, h4⟩ := cpt_loop hs hb m (j + 1) k' ows' (by omega) h2
    exact ⟨o2, k2, lp_step h1 h3, h4⟩
theorem Compact_s {s : List Edg} (hs : Srt s) (hb : s.length ≤ 4611686018427387904) : ∃ ys, slices_Compact___api_Edge_api_Edge__m s = some ys ∧ Strict ys ∧ ∀ e, e ∈ ys ↔ e ∈ s := by
  unfold slices_Compact___api_Edge_api_Edge__m
  by_cases h2 : s.length < 2
  · rw [br_T (by unfold ln; omega)]
    refine ⟨s, rfl, ?_, fun e => Iff.rfl⟩
    match s, h2 with
    | [], _ => exact List.Pairwise.nil
    | [x], _ => exact List.pairwise_singleton _ _
  · rw [br_F (by unfold ln; omega)]
    have key : ∀ m k : Nat, 1 ≤ k → k + m = s.length → Strict (s.take k) → (Strict s ∧ lp slices_Compact___api_Edge_api_Edge__L0 (s, (k : Int)) = some (.go (s, (s.length : Int)))) ∨ (∃ ys, lp slices_Compact___api_Edge_api_Edge__L0 (s, (k : Int)) = some (.ret ys) ∧ Strict ys ∧ ∀ e, e ∈ ys ↔ e ∈ s) := by
      intro m
      induction m with
      | zero =>
        intro k h1 hk hst
        have : k = s.length := by omega
        subst this
        rw [List.take_length] at hst
        refine .inl ⟨hst, lp_brk ?_⟩
        unfold slices_Compact___api_Edge_api_Edge__L0
        exact br_F (by unfold ln; omega)
      | succ m ih =>
        intro k h1 hk hst
        have e : slices_Compact___api_Edge_api_Edge__L0 (s, (k : Int)) = br (tb (ele s (k : Int) = ele s ((k - 1 : Nat) : Int))) (ck (SX (k : Int) (ln s) (ln s)) <| bd (lp (slices_Compact___api_Edge_api_Edge__L2 s k) (s, (k : Int), 1)) fun o26 => o26.on (fun (ows0_4, k3_4, k25_4) =>
            ck (SX k3_4 (ln ows0_4) (ln ows0_4)) <| ck (SX 0 k3_4 (ln (clr ows0_4 k3_4 (Edg.mk 0 0 0 0)))) <| some (.ret (sub (clr ows0_4 k3_4 (Edg.mk 0 0 0 0)) 0 k3_4))) (fun r => r.elim)) (some (.next (s, ((k + 1 : Nat) : Int)))) := by
          unfold slices_Compact___api_Edge_api_Edge__L0
          simp only
          rw [br_T (by unfold ln; omega), ck_IX (by omega) (by unfold ln; omega), ck_IR (by omega) (by omega), show (k : Int) - 1 = ((k - 1 : Nat) : Int) from by omega, ck_IX (by omega) (by unfold ln; omega), edg_beq, ck_IR (by omega) (by omega)]
          rfl
        by_cases he : ele s (k : Int) = ele s ((k - 1 : Nat) : Int)
        · rw [tb_t he, br_true, ck_SX (by omega) (by unfold ln; omega) (Int.le_refl _)] at e
          have hI : CptI s k s k 1 := ⟨rfl, h1, Nat.le_refl _, by omega, Nat.le_refl _, Nat.le_refl _, hst, fun x => by
              rw [take_next (by omega), List.mem_append, List.mem_singleton]
              refine ⟨.inl, fun h' => h'.elim id fun h' => ?_⟩
              rw [h', he, mem_take]
              exact ⟨k - 1, by omega, by omega, rfl⟩, he.symm, fun _ _ _ => rfl⟩
          obtain ⟨o2, k2, h3, h4⟩ := cpt_loop hs hb m 1 k s (by omega) hI
          rw [show ((1 : Nat) : Int) = 1 from rfl] at h3
          rw [h3, bd_ret, Out.on_go] at e
          simp only at e
          have hl := h4.len; have hk1 := h4.kk; have hk2 := h4.kj
          have hcl := clr_len (xs := o2) (i := (k2 : Int)) (z := Edg.mk 0 0 0 0) (by unfold ln; omega)
          rw [ck_SX (by omega) (by unfold ln; omega) (Int.le_refl _), ck_SX (by omega) (by omega) (by unfold ln; rw [hcl]; omega)] at e
          have hsub : sub (clr o2 (k2 : Int) (Edg.mk 0 0 0 0)) 0 (k2 : Int) = o2.take k2 := by
            unfold sub clr
            have h0 : (0 : Int).toNat = 0 := rfl
            rw [h0, List.drop_zero, Int.sub_zero, Int.toNat_natCast, List.take_append_of_le_length (by rw [List.length_take]; omega), List.take_take, Nat.min_self]
          rw [hsub] at e
          refine .inr ⟨_, lp_ret e, h4.st, fun x => ?_⟩
          rw [h4.mem, show k + (s.length - k) = s.length from by omega, List.take_length]
        · rw [tb_f he, br_false] at e
          have hst' : Strict (s.take (k + 1)) := by
            rw [take_next (by omega)]
            refine strict_snoc hst fun x hx => ?_
            have hlen : (s.take k).length = k := by rw [List.length_take]; omega
            have hmx := last_max hst (by omega) x hx
            rw [hlen, ele_take (by omega)] at hmx
            have hnot := hs.at (i := k - 1) (j := k) (by omega) (by omega)
            have hlt : Lt (ele s ((k - 1 : Nat) : Int)) (ele s (k : Int)) := by
              by_cases hh : Lt (ele s ((k - 1 : Nat) : Int)) (ele s (k : Int))
              · exact hh
              · exact absurd (Lt.tri hnot hh) he
            rcases hmx with h' | h'
            · rw [h']; exact hlt
            · exact h'.trans hlt
          rcases ih (k + 1) (by omega) (by omega) hst' with ⟨a, b⟩ | ⟨ys, a, b⟩
          · exact .inl ⟨a, (lp_next e).trans b⟩
          · exact .inr ⟨ys, (lp_next e).trans a, b⟩
    have h1 : Strict (s.take 1) := by
      match s with
      | [] => exact List.Pairwise.nil
      | x :: _ => exact List.pairwise_singleton _ _
    rcases key (s.length - 1) 1 (Nat.le_refl _) (by omega) h1 with ⟨a, b⟩ | ⟨ys, a, b, c⟩
    · rw [show ((1 : Nat) : Int) = 1 from rfl] at b
      rw [b, bd_ret, Out.on_go]
      exact ⟨s, rfl, a, fun e => Iff.rfl⟩
    · rw [show ((1 : Nat) : Int) = 1 from rfl] at a
      rw [a, bd_ret, Out.on_ret]
      exact ⟨ys, rfl, b, c⟩
theorem sort_srt (l : List Edg) : Srt (sortE l) ∧ (∀ e, e ∈ sortE l ↔ e ∈ l) ∧ (sortE l).length = l.length := by
  refine ⟨?_, fun e => List.mem_mergeSort, List.length_mergeSort ..⟩
  have := List.pairwise_mergeSort (le := fun x y => !decide (ordV y x < 0)) (fun a b c h1 h2 => ?_) (fun a b => ?_) l
  · refine this.imp fun {a b} h => ?_
    unfold Lt
    simpa using h
  · simp only [Bool.not_eq_true', decide_eq_false_iff_not] at *
    rw [ordV_neg] at *
    omega
  · simp only [Bool.or_eq_true, Bool.not_eq_true', decide_eq_false_iff_not]
    rw [ordV_neg, ordV_neg]
    omega
end Go.Rd
