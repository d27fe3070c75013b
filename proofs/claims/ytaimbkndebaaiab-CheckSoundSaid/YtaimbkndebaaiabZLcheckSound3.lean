/- Texts that the law stands on: part 3. -/
import Derived.Test.YtaimbkndebaaiabZLcheckSound2
section
namespace Go.Rd
set_option linter.unusedVariables false
set_option linter.unusedSimpArgs false
def Lt (a b : Edg) : Prop := ordV a b < 0
theorem Lt.trans {a b c : Edg} (h : Lt a b) (h' : Lt b c) : Lt a c := by unfold Lt at *; rw [ordV_neg] at *; omega
theorem Lt.irrefl {a : Edg} : ¬ Lt a a := by unfold Lt; rw [ordV_neg]; omega
theorem Lt.asymm {a b : Edg} (h : Lt a b) : ¬ Lt b a := fun h' => Lt.irrefl (h.trans h')
theorem Lt.tri {a b : Edg} (h1 : ¬ Lt a b) (h2 : ¬ Lt b a) : a = b := by
  unfold Lt at *; rw [ordV_neg] at *
  cases a; cases b; simp only [Edg.mk.injEq] at *; omega
def Strict (l : List Edg) : Prop := l.Pairwise Lt
theorem strict_ext : ∀ {a b : List Edg}, Strict a → Strict b → (∀ e, e ∈ a ↔ e ∈ b) → a = b
  | [], [], _, _, _ => rfl
  | [], y :: b, _, _, h => by have := (h y).2 (by simp); cases this
  | x :: a, [], _, _, h => by have := (h x).1 (by simp); cases this
  | x :: a, y :: b, ha, hb, h => by
    obtain ⟨a1, a2⟩ := List.pairwise_cons.1 ha
    obtain ⟨b1, b2⟩ := List.pairwise_cons.1 hb
    have hxy : x = y := by
      rcases List.mem_cons.1 ((h x).1 (by simp)) with h1 | h1
      · exact h1
      · rcases List.mem_cons.1 ((h y).2 (by simp)) with h2 | h2
        · exact h2.symm
        · exact absurd (b1 x h1) (a1 y h2).asymm
    subst hxy
    congr 1
    refine strict_ext a2 b2 fun e => ⟨fun he => ?_, fun he => ?_⟩
    · rcases List.mem_cons.1 ((h e).1 (by simp [he])) with h1 | h1
      · subst h1; exact absurd (a1 e he) Lt.irrefl
      · exact h1
    · rcases List.mem_cons.1 ((h e).2 (by simp [he])) with h1 | h1
      · subst h1; exact absurd (b1 e he) Lt.irrefl
      · exact h1
theorem strict_snoc {l : List Edg} {x : Edg} (h : Strict l) (hx : ∀ e ∈ l, Lt e x) : Strict (l ++ [x]) := by
  unfold Strict
  rw [List.pairwise_append]
  exact ⟨h, List.pairwise_singleton _ _, fun a ha b hb => by simp only [List.mem_singleton] at hb; subst hb; exact hx a ha⟩
theorem edg_beq (a b : Edg) : ([a.fr, a.to, a.bk, a.wt] == [b.fr, b.to, b.bk, b.wt]) = tb (a = b) := by
  refine tb_eq ?_
  cases a; cases b
  simp
def Srt (l : List Edg) : Prop := l.Pairwise fun a b => ¬ Lt b a
theorem Srt.at {l : List Edg} (h : Srt l) {i j : Nat} (hij : i < j) (hj : j < l.length) : ¬ Lt (ele l (j : Int)) (ele l (i : Int)) := by
  have := List.pairwise_iff_getElem.1 h i j (by omega) hj hij
  simpa [ele_nat, List.getD_eq_getElem?_getD, hj, show i < l.length from by omega] using this
theorem mem_take {l : List Edg} {n : Nat} {e : Edg} : e ∈ l.take n ↔ ∃ i : Nat, i < n ∧ i < l.length ∧ ele l (i : Int) = e := by
  constructor
  · intro h
    obtain ⟨i, hi, rfl⟩ := List.getElem_of_mem h
    rw [List.length_take] at hi
    exact ⟨i, by omega, by omega, by simp [ele_nat, List.getD_eq_getElem?_getD, show i < l.length from by omega]⟩
  · rintro ⟨i, h1, h2, rfl⟩
    rw [ele_nat, List.getD_eq_getElem?_getD, List.getElem?_eq_getElem h2]
    exact List.mem_of_getElem? (by rw [List.getElem?_take, if_pos h1, List.getElem?_eq_getElem h2]; rfl)
theorem upd_take {l : List Edg} {k : Nat} {x : Edg} (h : k < l.length) : (upd l (k : Int) x).take (k + 1) = l.take k ++ [x] := by
  unfold upd
  rw [Int.toNat_natCast, List.take_add_one, List.take_set_of_le (Nat.le_refl _), List.getElem?_set_self h]
  rfl
theorem sub_at {l : List Edg} {k i : Nat} (h : k + i < l.length) : ele (sub l (k : Int) (ln l)) (i : Int) = ele l ((k + i : Nat) : Int) := by
  unfold sub ln
  rw [ele_nat, ele_nat, List.getD_eq_getElem?_getD, List.getElem?_take, if_pos (by omega), List.getElem?_drop, Int.toNat_natCast, List.getD_eq_getElem?_getD]
structure CptI (s : List Edg) (k0 : Nat) (ows : List Edg) (k j : Nat) : Prop where
  len : ows.length = s.length
  kp : 1 ≤ k0
  j1 : 1 ≤ j
  jn : k0 + j ≤ s.length
  kk : k0 ≤ k
  kj : k + 1 ≤ k0 + j
  st : Strict (ows.take k)
  mem : ∀ e, e ∈ ows.take k ↔ e ∈ s.take (k0 + j)
  last : ele ows ((k - 1 : Nat) : Int) = ele s ((k0 + j - 1 : Nat) : Int)
  rest : ∀ p : Nat, k0 + j - 1 ≤ p → p < s.length → ele ows (p : Int) = ele s (p : Int)
theorem last_max {l : List Edg} (h : Strict l) (h0 : 0 < l.length) : ∀ e ∈ l, e = ele l ((l.length - 1 : Nat) : Int) ∨ Lt e (ele l ((l.length - 1 : Nat) : Int)) := fun e he => by
  obtain ⟨i, hi, rfl⟩ := List.getElem_of_mem he
  have hl : ele l ((l.length - 1 : Nat) : Int) = l[l.length - 1] := by simp [ele_nat, List.getD_eq_getElem?_getD, show l.length - 1 < l.length from by omega]
  rw [hl]
  by_cases h1 : i = l.length - 1
  · left; congr 1
  · right; exact List.pairwise_iff_getElem.1 h i (l.length - 1) hi (by omega) (by omega)
theorem ele_take {l : List Edg} {k i : Nat} (h : i < k) : ele (l.take k) (i : Int) = ele l (i : Int) := by
  rw [ele_nat, ele_nat, List.getD_eq_getElem?_getD, List.getElem?_take, if_pos h, List.getD_eq_getElem?_getD]
theorem cpt_step {s : List Edg} (hs : Srt s) (hb : s.length ≤ 4611686018427387904) {k0 : Nat} {ows : List Edg} {k j : Nat} (h : CptI s k0 ows k j) (hj : k0 + j < s.length) :
    (∃ ows' k', slices_Compact___api_Edge_api_Edge__L2 s k0 (ows, (k : Int), (j : Int)) = some (.next (ows', ((k' : Nat) : Int), ((j + 1 : Nat) : Int))) ∧ CptI s k0 ows' k' (j + 1)) := by
  have hl := h.len; have hj1 := h.j1; have hkj := h.kj; have hk0 := h.kp; have hkk := h.kk
  have hln : ln s = ln ows := by unfold ln; rw [hl]
  have hsub : ln (sub ows (k0 : Int) (ln ows)) = ((s.length - k0 : Nat) : Int) := by
    have := sub_len (xs := ows) (i := (k0 : Int)) (j := ln ows) ⟨by omega, by unfold ln; omega, Int.le_refl _⟩
    unfold ln at this ⊢
    rw [this]; omega
  have hx : ele (sub ows (k0 : Int) (ln ows)) (j : Int) = ele s ((k0 + j : Nat) : Int) := by rw [sub_at (by omega), h.rest _ (by omega) hj]
  have hy : ele (sub ows (k0 : Int) (ln ows)) ((j : Int) - 1) = ele s ((k0 + j - 1 : Nat) : Int) := by
    rw [show (j : Int) - 1 = ((j - 1 : Nat) : Int) from by omega, sub_at (by omega), h.rest _ (by omega) (by omega), show k0 + (j - 1) = k0 + j - 1 from by omega]
  have hsc : ((j + 1 : Nat) : Int) = (j : Int) + 1 := rfl
  have hmem : ∀ e, e ∈ s.take (k0 + (j + 1)) ↔ e ∈ s.take (k0 + j) ∨ e = ele s ((k0 + j : Nat) : Int) := fun e => by
    rw [show k0 + (j + 1) = (k0 + j) + 1 from rfl, take_next hj, List.mem_append, List.mem_singleton]
  unfold slices_Compact___api_Edge_api_Edge__L2
  simp only
  rw [hln, ck_SX (by omega) (by unfold ln; omega) (Int.le_refl _), hsub, br_T (by omega), ck_IX (by omega) (by omega), ck_IR (by omega) (by omega), ck_IX (by omega) (by omega), hx, hy, edg_beq]
  by_cases he : ele s ((k0 + j : Nat) : Int) = ele s ((k0 + j - 1 : Nat) : Int)
  · rw [tb_t he, Bool.not_true, br_false, ck_IR (by omega) (by omega), ← hsc]
    refine ⟨ows, k, rfl, ⟨hl, hk0, by omega, by omega, hkk, by omega, h.st, fun e => ?_, ?_, fun p h1 h2 => h.rest p (by omega) h2⟩⟩
    · rw [h.mem, hmem]
      refine ⟨.inl, fun h' => h'.elim id fun h' => ?_⟩
      rw [h', he, mem_take]
      exact ⟨k0 + j - 1, by omega, by omega, rfl⟩
    · rw [h.last, show k0 + (j + 1) - 1 = k0 + j from by omega, he]
  · rw [tb_f he, Bool.not_false, br_true, ck_IX (by omega) (by omega), ck_IX (by omega) (by unfold ln; omega), ck_IR (by omega) (by omega), ck_IR (by omega) (by omega), ← hsc]
    refine ⟨_, k + 1, rfl, ⟨by rw [upd_length]; exact hl, hk0, by omega, by omega, by omega, by omega, ?_, fun e => ?_, ?_, fun p h1 h2 => ?_⟩⟩
    · rw [upd_take (by omega)]
      refine strict_snoc h.st fun e hm => ?_
      have hlt : (ows.take k).length = k := by rw [List.length_take]; omega
      have hmx := last_max h.st (by omega) e hm
      rw [hlt, ele_take (by omega), h.last] at hmx
      have hnot := hs.at (i := k0 + j - 1) (j := k0 + j) (by omega) hj
      have hlt2 : Lt (ele s ((k0 + j - 1 : Nat) : Int)) (ele s ((k0 + j : Nat) : Int)) := by
        by_cases hh : Lt (ele s ((k0 + j - 1 : Nat) : Int)) (ele s ((k0 + j : Nat) : Int))
        · exact hh
        · exact absurd (Lt.tri hnot hh) he
      rcases hmx with h' | h'
      · rw [h']; exact hlt2
      · exact h'.trans hlt2
    · rw [upd_take (by omega), List.mem_append, List.mem_singleton, h.mem, hmem]
    · rw [show k + 1 - 1 = k from rfl, ele_upd ⟨by omega, by unfold ln; omega⟩, show k0 + (j + 1) - 1 = k0 + j from by omega]
    · rw [ele_upd_ne (by omega)]
      exact h.rest p (by omega) h2
theorem cpt_loop {s : List Edg} (hs : Srt s) (hb : s.length ≤ 4611686018427387904) {k0 : Nat} : ∀ (m j k : Nat) (ows : List Edg), k0 + j + m = s.length → CptI s k0 ows k j → ∃ ows' k', lp (slices_Compact___api_Edge_api_Edge__L2 s k0) (ows, (k : Int), (j : Int)) = some (.go (ows', ((k' : Nat) : Int), ((s.length - k0 : Nat) : Int))) ∧ CptI s k0 ows' k' (s.length - k0)
  | 0, j, k, ows, hm, h => by
    have hj : j = s.length - k0 := by have := h.kk; omega
    subst hj
    refine ⟨ows, k, lp_brk ?_, h⟩
    have hl := h.len
    have hln : ln s = ln ows := by unfold ln; rw [hl]
    have hsub : ln (sub ows (k0 : Int) (ln ows)) = ((s.length - k0 : Nat) : Int) := by
      have := sub_len (xs := ows) (i := (k0 : Int)) (j := ln ows) ⟨by omega, by unfold ln; omega, Int.le_refl _⟩
      unfold ln at this ⊢
      rw [this]; omega
    unfold slices_Compact___api_Edge_api_Edge__L2
    simp only
    rw [hln, ck_SX (by omega) (by unfold ln; omega) (Int.le_refl _), hsub, br_F (by omega)]
  | m + 1, j, k, ows, hm, h => by
    obtain ⟨ows', k', h1, h2⟩ := cpt_step hs hb h (by omega)
    obtain ⟨o2, k2, h3, h4⟩ := cpt_loop hs hb m (j + 1) k' ows' (by omega) h2
    exact ⟨o2, k2, lp_step h1 h3, h4⟩
theorem Compact_s {s : List Edg} (hs : Srt s) (hb : s.length ≤ 4611686018427387904) : ∃ ys, slices_Compact___api_Edge_api_Edge__m s = some ys ∧ Strict ys ∧ ∀ e, e ∈ ys ↔ e ∈ s := by
  unfold slices_Compact___api_Edge_api_Edge__m
  by_cases h2 : s.length < 2
  · rw [br_T (by unfold ln; omega)]
    refine ⟨s, rfl, ?_, fun e => Iff.rfl⟩
    match s, h2 with
    | [], _ => exact List.Pairwise.nil
    | [x], _ => exact List.pairwise_singleton _ _
  · rw [br_F (by unfold ln; omega)]
    have key : ∀ m k : Nat, 1 ≤ k → k + m = s.length → Strict (s.take k) → (Strict s ∧ lp slices_Compact___api_Edge_api_Edge__L0 (s, (k : Int)) = some (.go (s, (s.length : Int)))) ∨ (∃ ys, lp slices_Compact___api_Edge_api_Edge__L0 (s, (k : Int)) = some (.ret ys) ∧ Strict ys ∧ ∀ e, e ∈ ys ↔ e ∈ s) := by
      intro m
      induction m with
      | zero =>
        intro k h1 hk hst
        have : k = s.length := by omega
        subst this
        rw [List.take_length] at hst
        refine .inl ⟨hst, lp_brk ?_⟩
        unfold slices_Compact___api_Edge_api_Edge__L0
        exact br_F (by unfold ln; omega)
      | succ m ih =>
        intro k h1 hk hst
        have e : slices_Compact___api_Edge_api_Edge__L0 (s, (k : Int)) = br (tb (ele s (k : Int) = ele s ((k - 1 : Nat) : Int))) (ck (SX (k : Int) (ln s) (ln s)) <| bd (lp (slices_Compact___api_Edge_api_Edge__L2 s k) (s, (k : Int), 1)) fun o26 => o26.on (fun (ows0_4, k3_4, k25_4) =>
            ck (SX k3_4 (ln ows0_4) (ln ows0_4)) <| ck (SX 0 k3_4 (ln (clr ows0_4 k3_4 (Edg.mk 0 0 0 0)))) <| some (.ret (sub (clr ows0_4 k3_4 (Edg.mk 0 0 0 0)) 0 k3_4))) (fun r => r.elim)) (some (.next (s, ((k + 1 : Nat) : Int)))) := by
          unfold slices_Compact___api_Edge_api_Edge__L0
          simp only
          rw [br_T (by unfold ln; omega), ck_IX (by omega) (by unfold ln; omega), ck_IR (by omega) (by omega), show (k : Int) - 1 = ((k - 1 : Nat) : Int) from by omega, ck_IX (by omega) (by unfold ln; omega), edg_beq, ck_IR (by omega) (by omega)]
          rfl
        by_cases he : ele s (k : Int) = ele s ((k - 1 : Nat) : Int)
        · rw [tb_t he, br_true, ck_SX (by omega) (by unfold ln; omega) (Int.le_refl _)] at e
          have hI : CptI s k s k 1 := ⟨rfl, h1, Nat.le_refl _, by omega, Nat.le_refl _, Nat.le_refl _, hst, fun x => by
              rw [take_next (by omega), List.mem_append, List.mem_singleton]
              refine ⟨.inl, fun h' => h'.elim id fun h' => ?_⟩
              rw [h', he, mem_take]
              exact ⟨k - 1, by omega, by omega, rfl⟩, he.symm, fun _ _ _ => rfl⟩
          obtain ⟨o2, k2, h3, h4⟩ := cpt_loop hs hb m 1 k s (by omega) hI
          rw [show ((1 : Nat) : Int) = 1 from rfl] at h3
          rw [h3, bd_ret, Out.on_go] at e
          simp only at e
          have hl := h4.len; have hk1 := h4.kk; have hk2 := h4.kj
          have hcl := clr_len (xs := o2) (i := (k2 : Int)) (z := Edg.mk 0 0 0 0) (by unfold ln; omega)
          rw [ck_SX (by omega) (by unfold ln; omega) (Int.le_refl _), ck_SX (by omega) (by omega) (by unfold ln; rw [hcl]; omega)] at e
          have hsub : sub (clr o2 (k2 : Int) (Edg.mk 0 0 0 0)) 0 (k2 : Int) = o2.take k2 := by
            unfold sub clr
            have h0 : (0 : Int).toNat = 0 := rfl
            rw [h0, List.drop_zero, Int.sub_zero, Int.toNat_natCast, List.take_append_of_le_length (by rw [List.length_take]; omega), List.take_take, Nat.min_self]
          rw [hsub] at e
          refine .inr ⟨_, lp_ret e, h4.st, fun x => ?_⟩
          rw [h4.mem, show k + (s.length - k) = s.length from by omega, List.take_length]
        · rw [tb_f he, br_false] at e
          have hst' : Strict (s.take (k + 1)) := by
            rw [take_next (by omega)]
            refine strict_snoc hst fun x hx => ?_
            have hlen : (s.take k).length = k := by rw [List.length_take]; omega
            have hmx := last_max hst (by omega) x hx
            rw [hlen, ele_take (by omega)] at hmx
            have hnot := hs.at (i := k - 1) (j := k) (by omega) (by omega)
            have hlt : Lt (ele s ((k - 1 : Nat) : Int)) (ele s (k : Int)) := by
              by_cases hh : Lt (ele s ((k - 1 : Nat) : Int)) (ele s (k : Int))
              · exact hh
              · exact absurd (Lt.tri hnot hh) he
            rcases hmx with h' | h'
            · rw [h']; exact hlt
            · exact h'.trans hlt
          rcases ih (k + 1) (by omega) (by omega) hst' with ⟨a, b⟩ | ⟨ys, a, b⟩
          · exact .inl ⟨a, (lp_next e).trans b⟩
          · exact .inr ⟨ys, (lp_next e).trans a, b⟩
    have h1 : Strict (s.take 1) := by
      match s with
      | [] => exact List.Pairwise.nil
      | x :: _ => exact List.pairwise_singleton _ _
    rcases key (s.length - 1) 1 (Nat.le_refl _) (by omega) h1 with ⟨a, b⟩ | ⟨ys, a, b, c⟩
    · rw [show ((1 : Nat) : Int) = 1 from rfl] at b
      rw [b, bd_ret, Out.on_go]
      exact ⟨s, rfl, a, fun e => Iff.rfl⟩
    · rw [show ((1 : Nat) : Int) = 1 from rfl] at a
      rw [a, bd_ret, Out.on_ret]
      exact ⟨ys, rfl, b, c⟩
theorem sort_srt (l : List Edg) : Srt (sortE l) ∧ (∀ e, e ∈ sortE l ↔ e ∈ l) ∧ (sortE l).length = l.length := by
  refine ⟨?_, fun e => List.mem_mergeSort, List.length_mergeSort ..⟩
  have := List.pairwise_mergeSort (le := fun x y => !decide (ordV y x < 0)) (fun a b c h1 h2 => ?_) (fun a b => ?_) l
  · refine this.imp fun {a b} h => ?_
    unfold Lt
    simpa using h
  · simp only [Bool.not_eq_true', decide_eq_false_iff_not] at *
    rw [ordV_neg] at *
    omega
  · simp only [Bool.or_eq_true, Bool.not_eq_true', decide_eq_false_iff_not]
    rw [ordV_neg, ordV_neg]
    omega
end Go.Rd
end

section
namespace Go.Rd
set_option linter.unusedVariables false
theorem EdgeP_iff {l : Lp} {t : Tgt} {e : Edg} {fr to : Nat} (hf : fr < l.body.length) (hn : to < l.body.length) (h1 : e.fr = fr) (h2 : e.to = to) (hl : LoopOk l) : EdgeP l t e ↔ (UseE l t to e ∨ MemE l fr to e) := by
  constructor
  · rintro ⟨u, hu, h | ⟨f, hf', h⟩⟩
    · have : (u : Int) = to := by
        obtain ⟨r, hr, rfl⟩ := h
        exact h2
      rw [this] at h; exact .inl h
    · have e1 : (u : Int) = to := by rw [← h2, h.to]
      have e2 : (f : Int) = fr := by rw [← h1, h.fr]
      rw [e1, e2] at h; exact .inr h
  · rintro (h | h)
    · exact ⟨to, hn, .inl h⟩
    · exact ⟨to, hn, .inr ⟨fr, hf, h⟩⟩
theorem bdG_any {α β : Type} [Inhabited α] {c : Bool} {x : α} {k : α → Option β} : bdG c (some x) k = k (if c = true then x else default) := by cases c <;> rfl
theorem bool_uses {A B : Bool} {x y d : Int} : ((A && B) && (x == if (A && B) = true then y else d)) = ((A && B) && (x == y)) := by cases A <;> cases B <;> rfl
theorem tb_or {p q : Prop} : tb (p ∨ q) = (tb p || tb q) := by
  by_cases h1 : p
  · rw [tb_t (.inl h1), tb_t h1]; rfl
  · by_cases h2 : q
    · rw [tb_t (.inr h2), tb_f h1, tb_t h2]; rfl
    · rw [tb_f (fun h => h.elim h1 h2), tb_f h1, tb_f h2]; rfl
theorem is_edge_s {l : Lp} (hl : LoopOk l) (t : Tgt) {fr to : Nat} (h1 : fr < l.body.length) (h2 : to < l.body.length) {bk wt : Int} (h3 : 0 ≤ bk) (h4 : bk ≤ 32) : roundelayref6_is_m l t ⟨fr, to, bk, wt⟩ = some (tb (UseE l t to ⟨fr, to, bk, wt⟩ ∨ MemE l fr to ⟨fr, to, bk, wt⟩)) := by
  have hul := usesL_len (ele l.body (to : Int))
  unfold roundelayref6_is_m
  simp only
  rw [ck_IX (by omega) (by unfold ln; omega), ref_Uses_s, bd_ret]
  have step : ∀ i : Nat, 0 ≤ i → i < (usesL (ele l.body (to : Int))).length → (¬ ((ele (usesL (ele l.body (to : Int))) (i : Int)).st = fr ∧ (ele (usesL (ele l.body (to : Int))) (i : Int)).bk = bk ∧ wt = waitV t (ele l.body (fr : Int)).op) → roundelayref6_is_L0 l t ⟨fr, to, bk, wt⟩ (usesL (ele l.body (to : Int))) i = some (.next ((i : Int) + 1))) ∧
      (¬ ¬ ((ele (usesL (ele l.body (to : Int))) (i : Int)).st = fr ∧ (ele (usesL (ele l.body (to : Int))) (i : Int)).bk = bk ∧ wt = waitV t (ele l.body (fr : Int)).op) → roundelayref6_is_L0 l t ⟨fr, to, bk, wt⟩ (usesL (ele l.body (to : Int))) i = some (.ret true)) := fun i _ hi => by
    have hix : IX (i : Int) (ln (usesL (ele l.body (to : Int)))) := ⟨by omega, by unfold ln; omega⟩
    have e : roundelayref6_is_L0 l t ⟨fr, to, bk, wt⟩ (usesL (ele l.body (to : Int))) i = br (tb ((ele (usesL (ele l.body (to : Int))) (i : Int)).st = fr ∧ (ele (usesL (ele l.body (to : Int))) (i : Int)).bk = bk ∧ wt = waitV t (ele l.body (fr : Int)).op)) (some (.ret true)) (some (.next ((i : Int) + 1))) := by
      unfold roundelayref6_is_L0
      simp only
      rw [br_T (by unfold ln; omega), ck_yes hix, ck_imp (fun _ => hix), ck_imp (fun _ => ⟨by omega, by unfold ln; omega⟩), ref_Wait_s]
      rw [bdG_any, bool_uses, ck_IR (by omega) (by omega)]
      have hb : ∀ (x y z : Bool) (p q r : Prop), (x = true ↔ p) → (y = true ↔ q) → (z = true ↔ r) → ((x && y) && z) = tb (p ∧ q ∧ r) := fun x y z p q r h1 h2 h3 => tb_eq (by rw [Bool.and_eq_true, Bool.and_eq_true, h1, h2, h3, and_assoc])
      rw [hb _ _ _ _ _ _ beq_iff_eq beq_iff_eq beq_iff_eq]
    rw [e]
    exact ⟨fun h => by rw [tb_f h]; rfl, fun h => by rw [tb_t (Classical.not_not.1 h)]; rfl⟩
  have huse : UseE l t to ⟨fr, to, bk, wt⟩ ↔ ∃ i : Nat, i < (usesL (ele l.body (to : Int))).length ∧ ((ele (usesL (ele l.body (to : Int))) (i : Int)).st = fr ∧ (ele (usesL (ele l.body (to : Int))) (i : Int)).bk = bk ∧ wt = waitV t (ele l.body (fr : Int)).op) := by
    constructor
    · rintro ⟨r, hr, he⟩
      obtain ⟨i, hi, rfl⟩ := mem_ele hr
      simp only [Edg.mk.injEq] at he
      obtain ⟨a1, a2, a3, a4⟩ := he
      exact ⟨i, hi, a1.symm, a3.symm, by rw [a4, ← a1]⟩
    · rintro ⟨i, hi, a1, a2, a3⟩
      exact ⟨_, ele_mem' hi, by rw [a1, a2, a3]⟩
  rcases lp_scan (f := roundelayref6_is_L0 l t ⟨fr, to, bk, wt⟩ (usesL (ele l.body (to : Int)))) (n := (usesL (ele l.body (to : Int))).length) (fun _ => true) (usesL (ele l.body (to : Int))).length 0 (by omega) step (by unfold roundelayref6_is_L0; exact br_F (by unfold ln; omega)) with ⟨h, e⟩ | ⟨i, _, hi, hh, _, e⟩
  · rw [show (((0 : Nat)) : Int) = 0 from rfl] at e
    have hnu : ¬ UseE l t to ⟨fr, to, bk, wt⟩ := fun hu => by
      obtain ⟨i, hi, hc⟩ := huse.1 hu
      exact h i (by omega) hi hc
    rw [e, bd_ret, Out.on_go, tb_or, tb_f hnu, Bool.false_or, ck_IX (by omega) (by unfold ln; omega), ck_IX (by omega) (by unfold ln; omega), br_go, bd_ret, Out.on_go]
    unfold roundelayref6_Memory_m
    rw [bd_ret]
    have hC : (((((ele l.body (fr : Int)).op == 3 || (ele l.body (fr : Int)).op == 4) && ((ele l.body (to : Int)).op == 3 || (ele l.body (to : Int)).op == 4)) && ((ele l.body (fr : Int)).ar == (ele l.body (to : Int)).ar)) && ((ele l.body (fr : Int)).op == 4 || (ele l.body (to : Int)).op == 4)) = tb (memC l fr to) := by
      unfold memC
      refine tb_eq ?_
      unfold wordS
      simp [and_assoc]
    rw [hC]
    have hwt : (if ((ele l.body (fr : Int)).op == 4) = true then (1 : Int) else 0) = if (ele l.body (fr : Int)).op = 4 then 1 else 0 := by simp
    rw [hwt]
    by_cases hc : memC l fr to
    · rw [tb_t hc, Bool.not_true, Bool.false_or]
      by_cases hw : wt = if (ele l.body (fr : Int)).op = 4 then 1 else 0
      · obtain ⟨n1, x1, g1, g2⟩ := word_near hl h1 hc.1
        obtain ⟨n2, _, _, _⟩ := word_near hl h2 hc.2.1
        have hk : (ele l.logs (ele l.body (fr : Int)).ar).toNat ≤ 5 := by omega
        obtain ⟨p1, p2, p3⟩ := pow2 hk
        have hS : sizeV l (ele l.body (fr : Int)) = 2 ^ (ele l.logs (ele l.body (fr : Int)).ar).toNat := rfl
        have hle : (if decide ((fr : Int) ≥ to) = true then (1 : Int) else 0) = leastV fr to := by unfold leastV; simp
        have hlb := leastV_bd fr to
        rw [show (wt != if (ele l.body (fr : Int)).op = 4 then 1 else 0) = false from by rw [← hw]; exact bne_self_eq_false _, br_false, ck_yes x1, Size_s _ g2, bd_ret, br_go, bd_ret, Out.on_go, hle]
        rw [← hS]
        have hm : ∀ k : Int, 0 ≤ k → k ≤ 32 → roundelayref6_Meets_m (ele l.body (fr : Int)) (ele l.body (to : Int)) k (sizeV l (ele l.body (fr : Int))) = some (tb (MeetP (ele l.body (fr : Int)) (ele l.body (to : Int)) k (sizeV l (ele l.body (fr : Int))))) := fun k a b => rmeet_s n1 n2 a b hk
        rw [hm bk h3 h4, bdG_some']
        by_cases hr : leastV fr to ≤ bk ∧ bk ≤ sizeV l (ele l.body (fr : Int))
        · rw [show (decide (bk < leastV fr to) || decide (bk > sizeV l (ele l.body (fr : Int)))) = false from by simp; omega]
          simp only [Bool.not_false, if_true, Bool.false_or]
          by_cases hme : MeetP (ele l.body (fr : Int)) (ele l.body (to : Int)) bk (sizeV l (ele l.body (fr : Int)))
          · rw [tb_t hme, Bool.not_true, br_false]
            have hbk : ((bk.toNat : Nat) : Int) = bk := by omega
            have hlk : (((leastV fr to).toNat : Nat) : Int) = leastV fr to := by omega
            have st2 : ∀ i : Nat, (leastV fr to).toNat ≤ i → i < bk.toNat → (¬ MeetP (ele l.body (fr : Int)) (ele l.body (to : Int)) i (sizeV l (ele l.body (fr : Int))) → roundelayref6_is_L2 l ⟨fr, to, bk, wt⟩ (sizeV l (ele l.body (fr : Int))) i = some (.next ((i : Int) + 1))) ∧ (¬ ¬ MeetP (ele l.body (fr : Int)) (ele l.body (to : Int)) i (sizeV l (ele l.body (fr : Int))) → roundelayref6_is_L2 l ⟨fr, to, bk, wt⟩ (sizeV l (ele l.body (fr : Int))) i = some (.ret false)) := fun i _ hi => by
              have e : roundelayref6_is_L2 l ⟨fr, to, bk, wt⟩ (sizeV l (ele l.body (fr : Int))) i = br (tb (MeetP (ele l.body (fr : Int)) (ele l.body (to : Int)) i (sizeV l (ele l.body (fr : Int))))) (some (.ret false)) (some (.next ((i : Int) + 1))) := by
                unfold roundelayref6_is_L2
                simp only
                rw [br_T (by omega), hm i (by omega) (by omega), bd_ret, ck_IR (by omega) (by omega)]
              rw [e]
              exact ⟨fun h => by rw [tb_f h]; rfl, fun h => by rw [tb_t (Classical.not_not.1 h)]; rfl⟩
            rcases lp_scan (f := roundelayref6_is_L2 l ⟨fr, to, bk, wt⟩ (sizeV l (ele l.body (fr : Int)))) (n := bk.toNat) (fun _ => false) (bk.toNat - (leastV fr to).toNat) (leastV fr to).toNat (by omega) st2 (by unfold roundelayref6_is_L2; exact br_F (by show ¬ ((bk.toNat : Int) < bk); omega)) with ⟨ha, e2⟩ | ⟨i, hi0, hi1, hi2, _, e2⟩
            · rw [hlk] at e2
              rw [e2, bd_ret, Out.on_go, tb_t]
              refine ⟨hc, rfl, rfl, hw, hr.1, hr.2, hme, fun k hk1 hk2 => ?_⟩
              have hk2' : k < bk := hk2
              have hkk : ((k.toNat : Nat) : Int) = k := by omega
              have := ha k.toNat (by omega) (by omega)
              rwa [hkk] at this
            · rw [hlk] at e2
              rw [e2, bd_ret, Out.on_ret, tb_f]
              exact fun h => hi2 (h.first i (by omega) (by show (i : Int) < bk; omega))
          · rw [tb_f hme, Bool.not_false, br_true, tb_f fun h => hme h.meet]
        · rw [show (decide (bk < leastV fr to) || decide (bk > sizeV l (ele l.body (fr : Int)))) = true from by simp; omega]
          simp only [Bool.true_or, br_true]
          rw [tb_f fun h => hr ⟨h.lo, h.hi⟩]
      · rw [show (wt != if (ele l.body (fr : Int)).op = 4 then 1 else 0) = true from by simpa using hw, br_true, tb_f fun h => hw h.wt]
    · rw [tb_f hc, Bool.not_false, Bool.true_or, br_true, tb_f fun h => hc h.c]
  · rw [show (((0 : Nat)) : Int) = 0 from rfl] at e
    rw [e, bd_ret, Out.on_ret, tb_t (.inl (huse.2 ⟨i, hi, Classical.not_not.1 hh⟩))]
structure UpTo (l : Lp) (t : Tgt) (p : Edg) (b : Int) (v : List Edg) : Prop where
  st : Strict v
  mem : ∀ e, e ∈ v ↔ EdgeP l t e ∧ Lt e p
  len : (v.length : Int) ≤ b
theorem AL32 {n : Nat} (h : n ≤ 100000) : AL n 32 := ⟨by rw [maxLen_eq]; omega, by omega⟩
theorem upto_next {l : Lp} {t : Tgt} {p p' : Edg} {b b' : Int} {v : List Edg} (h : UpTo l t p b v) (hb : b ≤ b') (hp : ∀ e, EdgeP l t e → (Lt e p ↔ Lt e p')) : UpTo l t p' b' v :=
  ⟨h.st, fun e => by rw [h.mem]; exact ⟨fun ⟨a, c⟩ => ⟨a, (hp e a).1 c⟩, fun ⟨a, c⟩ => ⟨a, (hp e a).2 c⟩⟩, Int.le_trans h.len hb⟩
theorem rEdges_s {l : Lp} (hl : LoopOk l) (t : Tgt) : ∃ E, roundelayref6_Edges_m l t = some E ∧ Strict E ∧ (∀ e, e ∈ E ↔ EdgeP l t e) ∧ E.length ≤ 60000 := by
  have hn16 := hl.2.2.1
  have hin : ∀ e, EdgeP l t e → EdgeIn l.body.length e := fun e h => h.in hl
  unfold roundelayref6_Edges_m
  have XE := lp_inv (f := roundelayref6_Edges_L0 l t) (n := l.body.length) (fun k v => UpTo l t ⟨k, 0, 0, 0⟩ (k * 3696) v) (fun fr v hfr hv => ?_) (fun g => by unfold roundelayref6_Edges_L0; exact br_F (by unfold ln; omega)) [] ⟨List.Pairwise.nil, fun e => ⟨fun h => (by cases h), fun ⟨h1, h2⟩ => by
    have := hin e h1; have := this.fr; unfold Lt at h2; rw [ordV_neg] at h2; have := (hin e h1).to; have := (hin e h1).bk; have := (hin e h1).wt; simp only at h2; omega⟩, by simp⟩
  · obtain ⟨E, e0, hE⟩ := XE
    rw [e0, bd_ret, Out.on_go]
    refine ⟨E, rfl, hE.st, fun e => ?_, by have := hE.len; omega⟩
    rw [hE.mem]
    refine ⟨fun h => h.1, fun h => ⟨h, ?_⟩⟩
    have := (hin e h).fr
    unfold Lt; rw [ordV_neg]; left; exact this.2
  · have Xv1 := lp_inv (f := roundelayref6_Edges_L2 l t fr) (n := l.body.length) (fun k v => UpTo l t ⟨fr, k, 0, 0⟩ ((fr : Int) * 3696 + k * 231) v) (fun to v hto hv => ?_) (fun g => by unfold roundelayref6_Edges_L2; exact br_F (by unfold ln; omega)) v (upto_next hv (by omega) fun e he => Iff.rfl)
    · obtain ⟨v1, e1, hv1⟩ := Xv1
      refine ⟨v1, ?_, upto_next hv1 (by omega) fun e he => ?_⟩
      · unfold roundelayref6_Edges_L0
        simp only
        rw [br_T (by unfold ln; omega), e1, bd_ret, Out.on_go]
        simp only
        rw [ck_IR (by omega) (by omega)]
      · have h1 := (hin e he).to; have h2 := (hin e he).bk; have h3 := (hin e he).wt
        unfold Lt; rw [ordV_neg, ordV_neg]; simp only; omega
    · have Xv2 := lp_inv (f := roundelayref6_Edges_L4 l t fr to) (n := 33) (fun k v => UpTo l t ⟨fr, to, k, 0⟩ ((fr : Int) * 3696 + to * 231 + k * 7) v) (fun bk v hbk hv => ?_) (fun g => by unfold roundelayref6_Edges_L4; exact br_F (by omega)) v (upto_next hv (by omega) fun e he => Iff.rfl)
      · obtain ⟨v2, e2, hv2⟩ := Xv2
        refine ⟨v2, ?_, upto_next hv2 (by omega) fun e he => ?_⟩
        · unfold roundelayref6_Edges_L2
          simp only
          rw [br_T (by unfold ln; omega), e2, bd_ret, Out.on_go]
          simp only
          rw [ck_IR (by omega) (by omega)]
        · have h2 := (hin e he).bk; have h3 := (hin e he).wt
          unfold Lt; rw [ordV_neg, ordV_neg]; simp only; omega
      · have Xv3 := lp_inv (f := roundelayref6_Edges_L6 l t fr to bk) (n := 7) (fun k v => UpTo l t ⟨fr, to, bk, k⟩ ((fr : Int) * 3696 + to * 231 + bk * 7 + k) v) (fun wt v hwt hv => ?_) (fun g => by unfold roundelayref6_Edges_L6; exact br_F (by omega)) v (upto_next hv (by omega) fun e he => Iff.rfl)
        · obtain ⟨v3, e3, hv3⟩ := Xv3
          refine ⟨v3, ?_, upto_next hv3 (by omega) fun e he => ?_⟩
          · unfold roundelayref6_Edges_L4
            simp only
            rw [br_T (by omega), e3, bd_ret, Out.on_go]
            simp only
            rw [ck_IR (by omega) (by omega)]
          · have h3 := (hin e he).wt
            unfold Lt; rw [ordV_neg, ordV_neg]; simp only; omega
        · have hlen := hv.len
          have hiff := EdgeP_iff (t := t) (e := ⟨fr, to, bk, wt⟩) hfr hto rfl rfl hl
          unfold roundelayref6_Edges_L6
          simp only
          rw [br_T (by omega), is_edge_s hl t hfr hto (by omega) (by omega), bd_ret, ck_IR (by omega) (by omega)]
          by_cases hE : UseE l t to ⟨fr, to, bk, wt⟩ ∨ MemE l fr to ⟨fr, to, bk, wt⟩
          · rw [tb_t hE, br_true, ck_yes (AL32 (by rw [List.length_append, List.length_singleton]; omega))]
            refine ⟨_, rfl, strict_snoc hv.st fun e he => ((hv.mem e).1 he).2, fun e => ?_, by rw [List.length_append, List.length_singleton]; omega⟩
            rw [List.mem_append, List.mem_singleton, hv.mem]
            constructor
            · rintro (⟨a, b⟩ | rfl)
              · refine ⟨a, ?_⟩
                unfold Lt at b ⊢; rw [ordV_neg] at b ⊢; simp only at b ⊢; omega
              · exact ⟨hiff.2 hE, by unfold Lt; rw [ordV_neg]; exact .inr ⟨rfl, .inr ⟨rfl, .inr ⟨rfl, by show (wt : Int) < ((wt + 1 : Nat) : Int); omega⟩⟩⟩⟩
            · rintro ⟨a, b⟩
              unfold Lt at b; rw [ordV_neg] at b; simp only at b
              by_cases hq : e = ⟨fr, to, bk, wt⟩
              · exact .inr hq
              · refine .inl ⟨a, ?_⟩
                unfold Lt; rw [ordV_neg]; simp only
                have : ¬ (e.fr = fr ∧ e.to = to ∧ e.bk = bk ∧ e.wt = wt) := fun ⟨x1, x2, x3, x4⟩ => hq (by cases e; simp only [Edg.mk.injEq] at *; exact ⟨x1, x2, x3, x4⟩)
                omega
          · rw [tb_f hE, br_false, ck_IR (by omega) (by omega)]
            refine ⟨v, rfl, hv.st, fun e => ?_, by omega⟩
            rw [hv.mem]
            constructor
            · rintro ⟨a, b⟩
              refine ⟨a, ?_⟩
              unfold Lt at b ⊢; rw [ordV_neg] at b ⊢; simp only at b ⊢; omega
            · rintro ⟨a, b⟩
              refine ⟨a, ?_⟩
              unfold Lt at b ⊢; rw [ordV_neg] at b ⊢; simp only at b ⊢
              have : ¬ (e.fr = fr ∧ e.to = to ∧ e.bk = bk ∧ e.wt = wt) := fun ⟨x1, x2, x3, x4⟩ => hE (hiff.1 (by
                have : e = ⟨fr, to, bk, wt⟩ := by cases e; simp only [Edg.mk.injEq] at *; exact ⟨x1, x2, x3, x4⟩
                rw [← this]; exact a))
              omega
structure Cnt (P : Edg → Prop) (b : Nat) (v : List Edg) : Prop where
  mem : ∀ e, e ∈ v ↔ P e
  len : v.length ≤ b
theorem Edges_s {l : Lp} (hl : LoopOk l) (hf : l.Fine) {t : Tgt} (ht : tgtOk t = true) : ∃ E, dep_Edges_m l t = some (E, 0) ∧ Strict E ∧ (∀ e, e ∈ E ↔ EdgeP l t e) := by
  have hn16 := hl.2.2.1
  unfold dep_Edges_m
  rw [May_s l hf, bd_ret, target_May_s, tb_t hl, ht]
  simp only [Bool.not_true, Bool.not_false, bdG_t, bd_ret, Bool.or_self, br_false]
  have Xv := lp_inv (f := dep_Edges_L0 l t) (n := l.body.length) (fun k v => Cnt (fun e => ∃ to : Nat, to < k ∧ (UseE l t to e ∨ ∃ fr : Nat, fr < l.body.length ∧ MemE l fr to e)) (k * 18) v) (fun to v hto hv => ?_) (fun g => by unfold dep_Edges_L0; exact br_F (by unfold ln; omega)) [] ⟨fun e => ⟨fun h => (by cases h), fun ⟨_, h, _⟩ => (by omega)⟩, Nat.zero_le _⟩
  · obtain ⟨v, e0, hv⟩ := Xv
    rw [e0, bd_ret, Out.on_go]
    simp only
    obtain ⟨s1, s2, s3⟩ := sort_srt v
    have hlen := hv.len
    unfold SortFunc_m
    rw [ck_yes (by omega), bd_ret]
    obtain ⟨ys, c1, c2, c3⟩ := Compact_s s1 (by omega)
    rw [c1, bd_ret]
    exact ⟨ys, rfl, c2, fun e => by rw [c3, s2, hv.mem]; rfl⟩
  · have hul := usesL_len (ele l.body (to : Int))
    have hlen := hv.len
    have Xv1 := lp_inv (f := dep_Edges_L2 l t to (usesL (ele l.body (to : Int)))) (n := (usesL (ele l.body (to : Int))).length) (fun k w => Cnt (fun e => e ∈ v ∨ ∃ j : Nat, j < k ∧ e = ⟨(ele (usesL (ele l.body (to : Int))) (j : Int)).st, to, (ele (usesL (ele l.body (to : Int))) (j : Int)).bk, waitV t (ele l.body (ele (usesL (ele l.body (to : Int))) (j : Int)).st).op⟩) (to * 18 + k) w) (fun i w hi hw => ?_) (fun g => by unfold dep_Edges_L2; exact br_F (by unfold ln; omega)) v ⟨fun e => ⟨.inl, fun h => h.elim id fun ⟨_, h, _⟩ => (by omega)⟩, by omega⟩
    · obtain ⟨v1, e1, hv1⟩ := Xv1
      have Xv2 := lp_inv (f := dep_Edges_L4 l to) (n := l.body.length) (fun k w => Cnt (fun e => e ∈ v1 ∨ ∃ fr : Nat, fr < k ∧ MemE l fr to e) (to * 18 + 2 + k) w) (fun i w hi hw => ?_) (fun g => by unfold dep_Edges_L4; exact br_F (by unfold ln; omega)) v1 ⟨fun e => ⟨.inl, fun h => h.elim id fun ⟨_, h, _⟩ => (by omega)⟩, by have := hv1.len; omega⟩
      · obtain ⟨v2, e2, hv2⟩ := Xv2
        refine ⟨v2, ?_, fun e => ?_, by have := hv2.len; omega⟩
        · unfold dep_Edges_L0
          simp only
          rw [br_T (by unfold ln; omega), ck_IX (by omega) (by unfold ln; omega), Uses_s, bd_ret, e1, bd_ret, Out.on_go]
          simp only
          rw [e2, bd_ret, Out.on_go]
          simp only
          rw [ck_IR (by omega) (by omega)]
        · rw [hv2.mem, hv1.mem, hv.mem]
          constructor
          · rintro ((⟨u, h1, h2⟩ | ⟨j, h1, rfl⟩) | ⟨fr, h1, h2⟩)
            · exact ⟨u, by omega, h2⟩
            · exact ⟨to, by omega, .inl ⟨_, ele_mem' h1, rfl⟩⟩
            · exact ⟨to, by omega, .inr ⟨fr, h1, h2⟩⟩
          · rintro ⟨u, h1, h2⟩
            by_cases hu : u = to
            · subst hu
              rcases h2 with ⟨r, hr, rfl⟩ | ⟨fr, h3, h4⟩
              · obtain ⟨j, hj, rfl⟩ := mem_ele hr
                exact .inl (.inr ⟨j, hj, rfl⟩)
              · exact .inr ⟨fr, h3, h4⟩
            · exact .inl (.inl ⟨u, by omega, h2⟩)
      · obtain ⟨r, q1, q2⟩ := memory_s hl hi hto
        have hwl := hw.len
        unfold dep_Edges_L4
        simp only
        rw [br_T (by unfold ln; omega), q1, bd_ret, ck_IR (by omega) (by omega)]
        rcases q2 with ⟨q2, q3⟩ | ⟨q2, q3⟩
        · rw [q2, br_true, ck_yes (AL32 (by rw [List.length_append, List.length_singleton]; omega))]
          refine ⟨_, rfl, fun e => ?_, by rw [List.length_append, List.length_singleton]; omega⟩
          rw [List.mem_append, List.mem_singleton, hw.mem]
          constructor
          · rintro ((h | ⟨f, h1, h2⟩) | rfl)
            · exact .inl h
            · exact .inr ⟨f, by omega, h2⟩
            · exact .inr ⟨i, by omega, q3⟩
          · rintro (h | ⟨f, h1, h2⟩)
            · exact .inl (.inl h)
            · by_cases hu : f = i
              · subst hu; exact .inr (h2.one q3)
              · exact .inl (.inr ⟨f, by omega, h2⟩)
        · rw [q2, br_false, ck_IR (by omega) (by omega)]
          refine ⟨w, rfl, fun e => ?_, by omega⟩
          rw [hw.mem]
          constructor
          · rintro (h | ⟨f, h1, h2⟩)
            · exact .inl h
            · exact .inr ⟨f, by omega, h2⟩
          · rintro (h | ⟨f, h1, h2⟩)
            · exact .inl h
            · by_cases hu : f = i
              · subst hu; exact absurd h2 (q3 e)
              · exact .inr ⟨f, by omega, h2⟩
    · have hwl := hw.len
      have hst := (uses_ok hl hto (ele_mem' hi)).st (by omega)
      unfold dep_Edges_L2
      simp only
      rw [br_T (by unfold ln; omega), ck_IX (by omega) (by unfold ln; omega), ck_IX hst.1 (by unfold ln; omega), target_Wait_s, bd_ret, ck_yes (AL32 (by rw [List.length_append, List.length_singleton]; omega)), ck_IR (by omega) (by omega)]
      refine ⟨_, rfl, fun e => ?_, by rw [List.length_append, List.length_singleton]; omega⟩
      rw [List.mem_append, List.mem_singleton, hw.mem]
      constructor
      · rintro ((h | ⟨j, h1, h2⟩) | rfl)
        · exact .inl h
        · exact .inr ⟨j, by omega, h2⟩
        · exact .inr ⟨i, by omega, rfl⟩
      · rintro (h | ⟨j, h1, h2⟩)
        · exact .inl (.inl h)
        · by_cases hu : j = i
          · subst hu; exact .inr h2
          · exact .inl (.inr ⟨j, by omega, h2⟩)
theorem edges_both {l : Lp} (hl : LoopOk l) (hf : l.Fine) {t : Tgt} (ht : tgtOk t = true) : ∃ E, dep_Edges_m l t = some (E, 0) ∧ roundelayref6_Edges_m l t = some E ∧ Strict E ∧ (∀ e, e ∈ E ↔ EdgeP l t e) ∧ E.length ≤ 60000 := by
  obtain ⟨E, e1, e2, e3⟩ := Edges_s hl hf ht
  obtain ⟨F, f1, f2, f3, f4⟩ := rEdges_s hl t
  have : E = F := strict_ext e2 f2 fun e => by rw [e3, f3]
  subst this
  exact ⟨E, e1, f1, e2, e3, f4⟩
theorem rMay_s {l : Lp} (hf : l.Fine) (t : Tgt) : roundelayref6_May_m l t = some (tb (LoopOk l ∧ tgtOk t = true)) := by
  unfold roundelayref6_May_m
  rw [ref_May_s l hf, bd_ret, ref_tMay_s]
  simp only [bdG_some']
  congr 1
  refine tb_eq ?_
  by_cases h : LoopOk l
  · rw [tb_t h]; simp [h]
  · rw [tb_f h]; simp [h]
end Go.Rd
end

section
namespace Go.Rd
set_option linter.unusedVariables false
end Go.Rd
end

section
namespace Go.Rd
set_option linter.unusedVariables false
end Go.Rd
end

section
namespace Go.Rd
set_option linter.unusedVariables false
def keyK (l : Lp) (p : Pln) (i : Nat) : Int × Int := (Int.tmod (ele p.times (i : Int)) p.pace, clsV (ele l.body (i : Int)).op)
def cntK (l : Lp) (p : Pln) (k : Nat) (κ : Int × Int) : Nat := (List.range k).countP fun j => decide (keyK l p j = κ)
def unitsV (t : Tgt) (c : Int) : Int := sel3 t.u0 t.u1 t.u2 c
theorem units_bd {t : Tgt} (ht : tgtOk t = true) (c : Int) : 1 ≤ unitsV t c ∧ unitsV t c ≤ 4 := by
  rw [tgtOk_iff] at ht
  exact sel3_bd ⟨ht.1.1, ht.1.2.1⟩ ⟨ht.2.1.1, ht.2.1.2.1⟩ ⟨ht.2.2.1.1, ht.2.2.1.2.1⟩
def RngP (p : Pln) (i : Nat) : Prop := 0 ≤ ele p.times (i : Int) ∧ ele p.times (i : Int) ≤ 1000
def EdgOk (p : Pln) (e : Edg) : Prop := ele p.times e.fr + e.wt ≤ ele p.times e.to + e.bk * p.pace
structure LegalP (l : Lp) (t : Tgt) (p : Pln) : Prop where
  loop : LoopOk l
  tgt : tgtOk t = true
  pace : 1 ≤ p.pace ∧ p.pace ≤ 200
  len : p.times.length = l.body.length
  rng : ∀ i, i < l.body.length → RngP p i
  units : ∀ i, i < l.body.length → (cntK l p l.body.length (keyK l p i) : Int) ≤ unitsV t (keyK l p i).2
  edge : ∀ e, EdgeP l t e → EdgOk p e
theorem all_edges {l : Lp} {t : Tgt} {E : List Edg} (hE : ∀ e, e ∈ E ↔ EdgeP l t e) {q : Edg → Prop} : (∀ i : Nat, i < E.length → q (ele E (i : Int))) ↔ ∀ e, EdgeP l t e → q e := by
  constructor
  · intro h e he
    obtain ⟨i, hi, rfl⟩ := mem_ele ((hE e).2 he)
    exact h i hi
  · exact fun h i hi => h _ ((hE _).1 (ele_mem' hi))
end Go.Rd
end

section
namespace Go.Rd
set_option linter.unusedVariables false
theorem lp_det {γ ρ : Type} {f : γ → Option (Stp γ ρ)} (st : Nat → γ) (n : Nat) (step : ∀ i, i < n → f (st i) = some (.next (st (i + 1)))) (hend : f (st n) = some (.brk (st n))) : lp f (st 0) = some (.go (st n)) := by
  have key : ∀ m i : Nat, i + m = n → lp f (st i) = some (.go (st n)) := by
    intro m
    induction m with
    | zero =>
      intro i hi
      have : i = n := by omega
      subst this
      exact lp_brk hend
    | succ m ih => exact fun i hi => lp_step (step i (by omega)) (ih (i + 1) (by omega))
  exact key n 0 (by omega)
theorem lp_det2 {γ ρ : Type} {f : γ → Option (Stp γ ρ)} (st : Nat → γ) (n : Nat) (p : Nat → Prop) (q : Nat → ρ) (step : ∀ i, i < n → (∀ j, j < i → p j) → (p i → f (st i) = some (.next (st (i + 1)))) ∧ (¬ p i → f (st i) = some (.ret (q i)))) (hend : f (st n) = some (.brk (st n))) :
    ((∀ i, i < n → p i) ∧ lp f (st 0) = some (.go (st n))) ∨ (∃ i, i < n ∧ ¬ p i ∧ (∀ j, j < i → p j) ∧ lp f (st 0) = some (.ret (q i))) := by
  have key : ∀ m i : Nat, i + m = n → (∀ j, j < i → p j) → ((∀ i, i < n → p i) ∧ lp f (st i) = some (.go (st n))) ∨ (∃ k, k < n ∧ ¬ p k ∧ (∀ j, j < k → p j) ∧ lp f (st i) = some (.ret (q k))) := by
    intro m
    induction m with
    | zero =>
      intro i hi hp
      have : i = n := by omega
      subst this
      exact .inl ⟨hp, lp_brk hend⟩
    | succ m ih =>
      intro i hi hp
      obtain ⟨h1, h2⟩ := step i (by omega) hp
      by_cases hpi : p i
      · have hp' : ∀ j, j < i + 1 → p j := fun j hj => by
          by_cases e : j = i
          · subst e; exact hpi
          · exact hp j (by omega)
        rcases ih (i + 1) (by omega) hp' with ⟨a, b⟩ | ⟨k, a, b, c, d⟩
        · exact .inl ⟨a, lp_step (h1 hpi) b⟩
        · exact .inr ⟨k, a, b, c, lp_step (h1 hpi) d⟩
      · exact .inr ⟨i, by omega, hpi, hp, lp_ret (h2 hpi)⟩
  exact key n 0 (by omega) (fun j hj => absurd hj (Nat.not_lt_zero _))
theorem lp_invM {α γ ρ : Type} {f : γ → Option (Stp γ ρ)} (mk : α → Int → γ) {n : Nat} (Inv : Nat → α → Prop) (step : ∀ (i : Nat) g, i < n → Inv i g → ∃ g', f (mk g (i : Int)) = some (.next (mk g' ((i : Int) + 1))) ∧ Inv (i + 1) g') (hend : ∀ g, f (mk g (n : Int)) = some (.brk (mk g (n : Int)))) (g0 : α) (h0 : Inv 0 g0) :
    ∃ g, lp f (mk g0 0) = some (.go (mk g (n : Int))) ∧ Inv n g := by
  have key : ∀ m i : Nat, i + m = n → ∀ g, Inv i g → ∃ g', lp f (mk g (i : Int)) = some (.go (mk g' (n : Int))) ∧ Inv n g' := by
    intro m
    induction m with
    | zero =>
      intro i hi g hg
      have : i = n := by omega
      subst this
      exact ⟨g, lp_brk (hend g), hg⟩
    | succ m ih =>
      intro i hi g hg
      obtain ⟨g', h1, h2⟩ := step i g (by omega) hg
      obtain ⟨g2, h3, h4⟩ := ih (i + 1) (by omega) g' h2
      exact ⟨g2, lp_step h1 h3, h4⟩
  exact key n 0 (by omega) g0 h0
theorem ele_rm {α : Type} [Inhabited α] {n : Nat} {g : Nat → α} {i : Nat} (h : i < n) : ele ((List.range n).map g) (i : Int) = g i := by
  rw [ele_nat, List.getD_eq_getElem?_getD, List.getElem?_map, List.getElem?_range h]; rfl
theorem ln_rm {α : Type} {n : Nat} {g : Nat → α} : ln ((List.range n).map g) = n := by unfold ln; simp
theorem rm_succ {α : Type} {n : Nat} {g : Nat → α} : (List.range n).map g ++ [g n] = (List.range (n + 1)).map g := by rw [List.range_succ, List.map_append]; rfl
end Go.Rd
end

section
namespace Go.Rd
set_option linter.unusedVariables false
noncomputable def emit_Rest_m (a : Int) (b : Int) : Option (Int) :=
 ck (b ≠ 0) <|
 ck (IR ((Int.tmod a b) + b)) <|
 ck (b ≠ 0) <|
 some (Int.tmod ((Int.tmod a b) + b) b)

end Go.Rd
end

section
namespace Go.Rd
set_option linter.unusedVariables false
end Go.Rd
end

section
namespace Go.Rd
set_option linter.unusedVariables false
end Go.Rd
end

section
namespace Go.Rd
set_option linter.unusedVariables false
theorem eRest_s {a b : Int} (hb : 1 ≤ b) (hB : b ≤ 128) : emit_Rest_m a b = some (a % b) := by
  have ht := tmod_lt' a (show 0 < b by omega)
  unfold emit_Rest_m
  rw [ck_yes (by omega), ck_IR (by omega) (by omega), ck_yes (by omega)]
  congr 1
  rw [Int.tmod_eq_emod_of_nonneg (by omega), Int.add_emod_right]
  have h := Int.tmod_add_mul_tdiv a b
  rw [show Int.tmod a b = a - b * Int.tdiv a b from by omega, Int.sub_mul_emod_self_left]
theorem upd_len {α : Type} {v : List α} {i : Int} {x : α} : (upd v i x).length = v.length := List.length_set
end Go.Rd
end

section
namespace Go.Rd
set_option linter.unusedVariables false
noncomputable def keep_Far_L2 (a : Int) (x14 : List Rf) : (Int × Int) → Option (Stp (Int × Int) (Empty)) := fun (far5_4, x20_4) =>
 br (decide (x20_4 < (ln x14))) (
 ck (IX x20_4 (ln x14)) <|
 br ((ele x14 x20_4).st == a) (
 ck (IR (x20_4 + 1)) <|
 some (.next ((max far5_4 ((ele x14 x20_4).bk)), (x20_4 + 1)))) (
 ck (IR (x20_4 + 1)) <|
 some (.next (far5_4, (x20_4 + 1))))) (
 some (.brk (far5_4, x20_4)))
noncomputable def keep_Far_L0 (l : Lp) (a : Int) : (Int × Int) → Option (Stp (Int × Int) (Empty)) := fun (far5_3, x13_3) =>
 br (decide (x13_3 < (ln l.body))) (
 ck (IX x13_3 (ln l.body)) <|
 bd (loop_Uses_m (Stm.mk ((ele l.body x13_3).op) ((ele l.body x13_3).a) ((ele l.body x13_3).b) ((ele l.body x13_3).ar) ((ele l.body x13_3).sp) ((ele l.body x13_3).pl) ((ele l.body x13_3).n))) fun x14 =>
 bd (lp (keep_Far_L2 a x14) (far5_3, 0)) fun o18 => o18.on (fun (far5_4, x20_4) =>
 ck (IR (x13_3 + 1)) <|
 some (.next (far5_4, (x13_3 + 1)))) (fun r => r.elim)) (
 some (.brk (far5_3, x13_3)))
noncomputable def keep_Far_m (l : Lp) (a : Int) : Option (Int) :=
 bd (lp (keep_Far_L0 l a) (0, 0)) fun o2 => o2.on (fun (far5_3, x13_3) =>
 some far5_3) (fun r => r.elim)

noncomputable def slices_Index___int_int__L0 (s : List Int) (v : Int) : Int → Option (Stp (Int) (Int)) := fun x8_1 =>
 br (decide (x8_1 < (ln s))) (
 ck (IX x8_1 (ln s)) <|
 br (v == (ele s x8_1)) (
 some (.ret x8_1)) (
 ck (IR (x8_1 + 1)) <|
 some (.next (x8_1 + 1)))) (
 some (.brk x8_1))
noncomputable def slices_Index___int_int__m (s : List Int) (v : Int) : Option (Int) :=
 bd (lp (slices_Index___int_int__L0 s v) 0) fun o1 => o1.on (fun x8_1 =>
 some (-1)) (fun r => some r)

noncomputable def slices_Contains___int_int__m (s : List Int) (v : Int) : Option (Bool) :=
 bd (slices_Index___int_int__m s v) fun x1 =>
 some (decide (x1 ≥ 0))

noncomputable def keep_Layout_uses_L2 (y_Pace : Int) (y_Time : List Int) (a : Int) (x16_4 : Int) (x14 : List Rf) : ((List Use) × Int) → Option (Stp ((List Use) × Int) (Empty)) := fun (v1_5, x24_5) =>
 br (decide (x24_5 < (ln x14))) (
 ck (IX x24_5 (ln x14)) <|
 br ((ele x14 x24_5).st == a) (
 ck (IX x16_4 (ln y_Time)) <|
 ck (IR ((ele x14 x24_5).bk * y_Pace)) <|
 ck (IR ((ele y_Time x16_4) + ((ele x14 x24_5).bk * y_Pace))) <|
 ck (AL (v1_5 ++ [(Use.mk ((ele y_Time x16_4) + ((ele x14 x24_5).bk * y_Pace)) (decide ((ele x14 x24_5).bk > 0)))]).length 16) <|
 ck (IR (x24_5 + 1)) <|
 some (.next ((v1_5 ++ [(Use.mk ((ele y_Time x16_4) + ((ele x14 x24_5).bk * y_Pace)) (decide ((ele x14 x24_5).bk > 0)))]), (x24_5 + 1)))) (
 ck (IR (x24_5 + 1)) <|
 some (.next (v1_5, (x24_5 + 1))))) (
 some (.brk (v1_5, x24_5)))
noncomputable def keep_Layout_uses_L0 (y_Loop_Body : List Stm) (y_Pace : Int) (y_Time : List Int) (a : Int) : ((List Use) × Int) → Option (Stp ((List Use) × Int) (Empty)) := fun (v1_4, x16_4) =>
 br (decide (x16_4 < (ln y_Loop_Body))) (
 ck (IX x16_4 (ln y_Loop_Body)) <|
 bd (loop_Uses_m (Stm.mk ((ele y_Loop_Body x16_4).op) ((ele y_Loop_Body x16_4).a) ((ele y_Loop_Body x16_4).b) ((ele y_Loop_Body x16_4).ar) ((ele y_Loop_Body x16_4).sp) ((ele y_Loop_Body x16_4).pl) ((ele y_Loop_Body x16_4).n))) fun x14 =>
 bd (lp (keep_Layout_uses_L2 y_Pace y_Time a x16_4 x14) (v1_4, 0)) fun o18 => o18.on (fun (v1_5, x24_5) =>
 ck (IR (x16_4 + 1)) <|
 some (.next (v1_5, (x16_4 + 1)))) (fun r => r.elim)) (
 some (.brk (v1_4, x16_4)))
noncomputable def keep_Layout_uses_m (y_Loop_Body : List Stm) (y_Pace : Int) (y_Regs : Int) (y_Time : List Int) (a : Int) : Option (List Use) :=
 bd (lp (keep_Layout_uses_L0 y_Loop_Body y_Pace y_Time a) ([], 0)) fun o2 => o2.on (fun (v1_4, x16_4) =>
 some v1_4) (fun r => r.elim)

noncomputable def keep_Layout_bad_L0 (y_Pace : Int) (y_Ready : List Int) (a : Int) (m_ : Int) (j : Int) (uses : List Use) : Int → Option (Stp (Int) (Bool)) := fun x30_1 =>
 br (decide (x30_1 < (ln uses))) (
 ck (IX x30_1 (ln uses)) <|
 ck (IX a (ln y_Ready)) <|
 br (((decide (((ele y_Ready m_) + (j * y_Pace)) ≥ (ele y_Ready a))) && (decide (((ele y_Ready m_) + (j * y_Pace)) ≤ (ele uses x30_1).til))) || (((ele uses x30_1).later && (decide (j > 0))) && (decide (((ele y_Ready m_) + (j * y_Pace)) ≤ (ele uses x30_1).til)))) (
 some (.ret true)) (
 ck (IR (x30_1 + 1)) <|
 some (.next (x30_1 + 1)))) (
 some (.brk x30_1))
noncomputable def keep_Layout_bad_m (y_Loop_Outs : List Int) (y_Pace : Int) (y_Regs : Int) (y_Ready : List Int) (a : Int) (m_ : Int) (j : Int) (uses : List Use) : Option (Bool) :=
 ck (IX m_ (ln y_Ready)) <|
 ck (IR (j * y_Pace)) <|
 ck (IR ((ele y_Ready m_) + (j * y_Pace))) <|
 bd (lp (keep_Layout_bad_L0 y_Pace y_Ready a m_ j uses) 0) fun o9 => o9.on (fun x30_1 =>
 ck ((decide (j ≤ 0)) = true → IX a (ln y_Ready)) <|
 bdG ((decide (j ≤ 0)) && (decide (((ele y_Ready m_) + (j * y_Pace)) ≥ (ele y_Ready a)))) (slices_Contains___int_int__m y_Loop_Outs a) fun x18 =>
 some (((decide (j ≤ 0)) && (decide (((ele y_Ready m_) + (j * y_Pace)) ≥ (ele y_Ready a)))) && x18)) (fun r => some r)

noncomputable def keep_Layout_Apart_L0 (y_Loop_Outs : List Int) (y_Pace : Int) (y_Regs : Int) (y_Ready : List Int) (a : Int) (m_ : Int) (x1 : List Use) : Int → Option (Stp (Int) (Bool)) := fun j10_1 =>
 br (decide (j10_1 ≤ ((Int.tdiv 4000 y_Pace) + 1))) (
 bdG ((m_ != a) || (j10_1 != 0)) (keep_Layout_bad_m y_Loop_Outs y_Pace y_Regs y_Ready a m_ j10_1 x1) fun x44 =>
 br (((m_ != a) || (j10_1 != 0)) && x44) (
 some (.ret false)) (
 ck (IR (j10_1 + y_Regs)) <|
 some (.next (j10_1 + y_Regs)))) (
 some (.brk j10_1))
noncomputable def keep_Layout_Apart_m (y_Loop_Body : List Stm) (y_Loop_Outs : List Int) (y_Pace : Int) (y_Regs : Int) (y_Time : List Int) (y_Ready : List Int) (y_Places : List Int) (a : Int) (m_ : Int) : Option (Bool) :=
 bd (keep_Layout_uses_m y_Loop_Body y_Pace y_Regs y_Time a) fun x1 =>
 ck (IX a (ln y_Places)) <|
 ck (IX m_ (ln y_Places)) <|
 ck (IR ((ele y_Places a) - (ele y_Places m_))) <|
 ck (y_Regs ≠ 0) <|
 ck (IR ((Int.tmod ((ele y_Places a) - (ele y_Places m_)) y_Regs) + y_Regs)) <|
 ck (y_Regs ≠ 0) <|
 ck (y_Pace ≠ 0) <|
 ck (IR (Int.tdiv 4000 y_Pace)) <|
 ck (IR ((Int.tdiv 4000 y_Pace) + 1)) <|
 ck (y_Regs ≠ 0) <|
 ck (IR (Int.tdiv ((Int.tdiv 4000 y_Pace) + 1) y_Regs)) <|
 ck (IR ((Int.tdiv ((Int.tdiv 4000 y_Pace) + 1) y_Regs) + 2)) <|
 ck (IR (((Int.tdiv ((Int.tdiv 4000 y_Pace) + 1) y_Regs) + 2) * y_Regs)) <|
 ck (IR ((Int.tmod ((Int.tmod ((ele y_Places a) - (ele y_Places m_)) y_Regs) + y_Regs) y_Regs) - (((Int.tdiv ((Int.tdiv 4000 y_Pace) + 1) y_Regs) + 2) * y_Regs))) <|
 bd (lp (keep_Layout_Apart_L0 y_Loop_Outs y_Pace y_Regs y_Ready a m_ x1) ((Int.tmod ((Int.tmod ((ele y_Places a) - (ele y_Places m_)) y_Regs) + y_Regs) y_Regs) - (((Int.tdiv ((Int.tdiv 4000 y_Pace) + 1) y_Regs) + 2) * y_Regs))) fun o37 => o37.on (fun j10_1 =>
 some true) (fun r => some r)

noncomputable def keep_Layout_Firsts_L2 (y_Regs : Int) (y_Places : List Int) (l : List Int) (x13_3 : Int) (x13 : Int) : ((List (Int × Bool)) × Int) → Option (Stp ((List (Int × Bool)) × Int) (Bool)) := fun (m1n_4, x23_4) =>
 br (decide (x23_4 < x13)) (
 ck (IX (ele l x13_3) (ln y_Places)) <|
 ck (IR ((ele y_Places (ele l x13_3)) - x23_4)) <|
 ck (IR (((ele y_Places (ele l x13_3)) - x23_4) - 1)) <|
 ck (y_Regs ≠ 0) <|
 ck (IR ((Int.tmod (((ele y_Places (ele l x13_3)) - x23_4) - 1) y_Regs) + y_Regs)) <|
 ck (y_Regs ≠ 0) <|
 br (mget m1n_4 (Int.tmod ((Int.tmod (((ele y_Places (ele l x13_3)) - x23_4) - 1) y_Regs) + y_Regs) y_Regs) false) (
 some (.ret false)) (
 ck (IR (x23_4 + 1)) <|
 some (.next ((mput m1n_4 (Int.tmod ((Int.tmod (((ele y_Places (ele l x13_3)) - x23_4) - 1) y_Regs) + y_Regs) y_Regs) true), (x23_4 + 1))))) (
 some (.brk (m1n_4, x23_4)))
noncomputable def keep_Layout_Firsts_L0 (y_Loop_Logs : List Int) (y_Loop_Body : List Stm) (y_Loop_Outs : List Int) (y_Regs : Int) (y_Places : List Int) (l : List Int) : ((List (Int × Bool)) × Int) → Option (Stp ((List (Int × Bool)) × Int) (Bool)) := fun (m1n_3, x13_3) =>
 br (decide (x13_3 < (ln l))) (
 ck (IX x13_3 (ln l)) <|
 bd (keep_Far_m (Lp.mk y_Loop_Logs y_Loop_Body y_Loop_Outs) (ele l x13_3)) fun x13 =>
 bd (lp (keep_Layout_Firsts_L2 y_Regs y_Places l x13_3 x13) (m1n_3, 0)) fun o16 => o16.on (fun (m1n_4, x23_4) =>
 ck (IR (x13_3 + 1)) <|
 some (.next (m1n_4, (x13_3 + 1)))) (fun r => some (.ret r))) (
 some (.brk (m1n_3, x13_3)))
noncomputable def keep_Layout_Firsts_m (y_Loop_Logs : List Int) (y_Loop_Body : List Stm) (y_Loop_Outs : List Int) (y_Pace : Int) (y_Regs : Int) (y_Places : List Int) (l : List Int) : Option (Bool) :=
 bd (lp (keep_Layout_Firsts_L0 y_Loop_Logs y_Loop_Body y_Loop_Outs y_Regs y_Places l) (([] : List (Int × Bool)), 0)) fun o2 => o2.on (fun (m1n_3, x13_3) =>
 some true) (fun r => some r)
end Go.Rd
end

section
namespace Go.Rd
set_option linter.unusedVariables false
structure LayD where
  (logs : List Int)
  (body : List Stm)
  (outs : List Int)
  (pace regs : Int)
  (time ready places : List Int)
structure LayD.Ok (y : LayD) : Prop where
  n : 1 ≤ y.body.length ∧ y.body.length ≤ 16
  lt : y.time.length = y.body.length
  lr : y.ready.length = y.body.length
  lp : y.places.length = y.body.length
  lo : y.outs.length ≤ 100000
  pace : 1 ≤ y.pace ∧ y.pace ≤ 200
  regs : 1 ≤ y.regs ∧ y.regs ≤ 128
  tm : ∀ i : Nat, i < y.body.length → 0 ≤ ele y.time (i : Int) ∧ ele y.time (i : Int) ≤ 1000
  rd : ∀ i : Nat, i < y.body.length → 0 ≤ ele y.ready (i : Int) ∧ ele y.ready (i : Int) ≤ 1006
  pl : ∀ i : Nat, i < y.body.length → -100000 ≤ ele y.places (i : Int) ∧ ele y.places (i : Int) ≤ 100000
  us : ∀ i : Nat, i < y.body.length → ∀ r ∈ usesL (ele y.body (i : Int)), 0 ≤ r.st ∧ r.st < y.body.length ∧ 0 ≤ r.bk ∧ r.bk ≤ 3
def farU (a : Int) : List Rf → Int → Int
  | [], f => f
  | r :: us, f => farU a us (if r.st = a then max f r.bk else f)
def farN (body : List Stm) (a : Int) : Nat → Int
  | 0 => 0
  | k + 1 => farU a (usesL (ele body (k : Int))) (farN body a k)
def farV (body : List Stm) (a : Int) : Int := farN body a body.length
theorem farU_app (a : Int) : ∀ (u v : List Rf) (f : Int), farU a (u ++ v) f = farU a v (farU a u f)
  | [], _, _ => rfl
  | r :: u, v, f => farU_app a u v _
theorem farU_ge (a : Int) : ∀ (u : List Rf) (f : Int), f ≤ farU a u f ∧ ∀ r ∈ u, r.st = a → r.bk ≤ farU a u f
  | [], f => ⟨Int.le_refl _, fun r h => by cases h⟩
  | r :: u, f => by
    have h := farU_ge a u (if r.st = a then max f r.bk else f)
    refine ⟨Int.le_trans ?_ h.1, fun x hx hs => ?_⟩
    · split <;> omega
    · rcases List.mem_cons.1 hx with rfl | hx
      · refine Int.le_trans ?_ h.1
        rw [if_pos hs]; omega
      · exact h.2 x hx hs
theorem farU_le (a : Int) {B : Int} : ∀ (u : List Rf) (f : Int), f ≤ B → (∀ r ∈ u, r.bk ≤ B) → farU a u f ≤ B
  | [], _, h, _ => h
  | r :: u, f, h, hu => farU_le a u _ (by have := hu r (by simp); split <;> omega) fun x hx => hu x (by simp [hx])
theorem farN_bd {body : List Stm} (hu : ∀ i : Nat, i < body.length → ∀ r ∈ usesL (ele body (i : Int)), 0 ≤ r.bk ∧ r.bk ≤ 3) (a : Int) : ∀ k, k ≤ body.length → 0 ≤ farN body a k ∧ farN body a k ≤ 3
  | 0, _ => by show 0 ≤ (0 : Int) ∧ (0 : Int) ≤ 3; omega
  | k + 1, h => by
    have ih := farN_bd hu a k (by omega)
    have h1 := farU_ge a (usesL (ele body (k : Int))) (farN body a k)
    exact ⟨Int.le_trans ih.1 h1.1, farU_le a _ _ ih.2 fun r hr => (hu k (by omega) r hr).2⟩
theorem farN_ge {body : List Stm} (a : Int) : ∀ k i : Nat, i < k → ∀ r ∈ usesL (ele body (i : Int)), r.st = a → r.bk ≤ farN body a k
  | k + 1, i, h, r, hr, hs => by
    have h1 := farU_ge a (usesL (ele body (k : Int))) (farN body a k)
    by_cases e : i = k
    · subst e; exact h1.2 r hr hs
    · exact Int.le_trans (farN_ge a k i (by omega) r hr hs) h1.1
theorem far_s {l : Lp} (hn : l.body.length ≤ 16) (hu : ∀ i : Nat, i < l.body.length → ∀ r ∈ usesL (ele l.body (i : Int)), 0 ≤ r.bk ∧ r.bk ≤ 3) (a : Int) : keep_Far_m l a = some (farV l.body a) := by
  have X := lp_det (f := keep_Far_L0 l a) (ρ := Empty) (fun k => (farN l.body a k, (k : Int))) l.body.length (fun k hk => by
    have h2 := usesL_len (ele l.body (k : Int))
    have Y := lp_det (f := keep_Far_L2 a (usesL (ele l.body (k : Int)))) (ρ := Empty) (fun j => (farU a ((usesL (ele l.body (k : Int))).take j) (farN l.body a k), (j : Int))) (usesL (ele l.body (k : Int))).length (fun j hj => by
      unfold keep_Far_L2
      simp only
      rw [br_T (by unfold ln; omega), ck_IX (by omega) (by unfold ln; omega), take_next hj, farU_app]
      by_cases e : (ele (usesL (ele l.body (k : Int))) (j : Int)).st = a
      · rw [show ((ele (usesL (ele l.body (k : Int))) (j : Int)).st == a) = true from by simp [e], br_true, ck_IR (by omega) (by omega)]
        show _ = some (Stp.next (if _ then _ else _, _))
        rw [if_pos e]; rfl
      · rw [show ((ele (usesL (ele l.body (k : Int))) (j : Int)).st == a) = false from by simp [e], br_false, ck_IR (by omega) (by omega)]
        show _ = some (Stp.next (if _ then _ else _, _))
        rw [if_neg e]; rfl) (by unfold keep_Far_L2; exact br_F (by unfold ln; omega))
    rw [List.take_length] at Y
    unfold keep_Far_L0
    simp only
    rw [br_T (by unfold ln; omega), ck_IX (by omega) (by unfold ln; omega), show loop_Uses_m (Stm.mk ((ele l.body (k : Int)).op) ((ele l.body (k : Int)).a) ((ele l.body (k : Int)).b) ((ele l.body (k : Int)).ar) ((ele l.body (k : Int)).sp) ((ele l.body (k : Int)).pl) ((ele l.body (k : Int)).n)) = some (usesL (ele l.body (k : Int))) from Uses_s _, bd_ret,
      show lp (keep_Far_L2 a (usesL (ele l.body (k : Int)))) (farN l.body a k, 0) = _ from Y, bd_ret, Out.on_go, ck_IR (by omega) (by omega)]
    rfl) (by unfold keep_Far_L0; exact br_F (by unfold ln; omega))
  unfold keep_Far_m
  rw [show lp (keep_Far_L0 l a) (0, 0) = _ from X, bd_ret, Out.on_go]
  rfl
def UseOf (y : LayD) (a : Int) (k : Nat) (r : Rf) (x : Use) : Prop := r.st = a ∧ x = ⟨ele y.time (k : Int) + r.bk * y.pace, decide (r.bk > 0)⟩
theorem uses_in {y : LayD} (hy : y.Ok) (a : Int) {k : Nat} (hk : k < y.body.length) {g0 : List Use} (hg : g0.length ≤ 1000) : ∃ g, lp (keep_Layout_uses_L2 y.pace y.time a k (usesL (ele y.body (k : Int)))) (g0, 0) = some (.go (g, ((usesL (ele y.body (k : Int))).length : Int))) ∧ ((∀ x, x ∈ g ↔ x ∈ g0 ∨ ∃ r ∈ usesL (ele y.body (k : Int)), UseOf y a k r x) ∧ g.length ≤ g0.length + 2) := by
  have h2 := usesL_len (ele y.body (k : Int))
  have X := lp_inv (f := keep_Layout_uses_L2 y.pace y.time a k (usesL (ele y.body (k : Int)))) (ρ := Empty) (n := (usesL (ele y.body (k : Int))).length) (fun j g => (∀ x, x ∈ g ↔ x ∈ g0 ∨ ∃ r ∈ (usesL (ele y.body (k : Int))).take j, UseOf y a k r x) ∧ g.length ≤ g0.length + j) (fun j g hj hg2 => by
    obtain ⟨q1, q2⟩ := hg2
    have hu := hy.us k hk _ (ele_mem' hj)
    have ht := hy.tm k hk
    have hpc := hy.pace
    have m1 := mul_le (a := (ele (usesL (ele y.body (k : Int))) (j : Int)).bk) (A := 3) (b := y.pace) (B := 200) (by omega) (by omega) (by omega) (by omega)
    have hl := hy.lt
    unfold keep_Layout_uses_L2
    simp only
    rw [br_T (by unfold ln; omega), ck_IX (by omega) (by unfold ln; omega), take_next hj]
    by_cases e : (ele (usesL (ele y.body (k : Int))) (j : Int)).st = a
    · rw [show ((ele (usesL (ele y.body (k : Int))) (j : Int)).st == a) = true from by simp [e], br_true, ck_IX (by omega) (by unfold ln; omega), ck_IR (by omega) (by omega), ck_IR (by omega) (by omega), ck_yes ⟨by show _ ≤ 9223372036854775807; simp; omega, by simp; omega⟩, ck_IR (by omega) (by omega)]
      refine ⟨_, rfl, fun x => ?_, by simp; omega⟩
      rw [List.mem_append, List.mem_singleton, q1]
      constructor
      · rintro ((h | ⟨r, h, h'⟩) | h)
        · exact .inl h
        · exact .inr ⟨r, by simp [h], h'⟩
        · exact .inr ⟨_, by simp, e, h⟩
      · rintro (h | ⟨r, h, h'⟩)
        · exact .inl (.inl h)
        · rcases List.mem_append.1 h with h | h
          · exact .inl (.inr ⟨r, h, h'⟩)
          · rw [List.mem_singleton] at h
            subst h
            exact .inr h'.2
    · rw [show ((ele (usesL (ele y.body (k : Int))) (j : Int)).st == a) = false from by simp [e], br_false, ck_IR (by omega) (by omega)]
      refine ⟨_, rfl, fun x => ?_, by omega⟩
      rw [q1]
      constructor
      · rintro (h | ⟨r, h, h'⟩)
        · exact .inl h
        · exact .inr ⟨r, by simp [h], h'⟩
      · rintro (h | ⟨r, h, h'⟩)
        · exact .inl h
        · rcases List.mem_append.1 h with h | h
          · exact .inr ⟨r, h, h'⟩
          · rw [List.mem_singleton] at h
            subst h
            exact absurd h'.1 e) (fun g => by unfold keep_Layout_uses_L2; exact br_F (by unfold ln; omega)) g0 ⟨fun x => ⟨.inl, fun h => by
              rcases h with h | ⟨r, h, _⟩
              · exact h
              · simp at h⟩, by omega⟩
  obtain ⟨g, e, q1, q2⟩ := X
  rw [List.take_length] at q1
  exact ⟨g, e, q1, by omega⟩
theorem uses_l {y : LayD} (hy : y.Ok) (a : Int) : ∃ us, keep_Layout_uses_m y.body y.pace y.regs y.time a = some us ∧ (∀ x, x ∈ us ↔ ∃ k, k < y.body.length ∧ ∃ r ∈ usesL (ele y.body (k : Int)), UseOf y a k r x) ∧ us.length ≤ 32 := by
  have hn := hy.n
  have X := lp_inv (f := keep_Layout_uses_L0 y.body y.pace y.time a) (ρ := Empty) (n := y.body.length) (fun i g => (∀ x, x ∈ g ↔ ∃ k, k < i ∧ ∃ r ∈ usesL (ele y.body (k : Int)), UseOf y a k r x) ∧ g.length ≤ 2 * i) (fun i g hi hg => by
    obtain ⟨q1, q2⟩ := hg
    obtain ⟨g', e1, e2, e3⟩ := uses_in hy a hi (g0 := g) (by omega)
    unfold keep_Layout_uses_L0
    simp only
    rw [br_T (by unfold ln; omega), ck_IX (by omega) (by unfold ln; omega), show loop_Uses_m (Stm.mk ((ele y.body (i : Int)).op) ((ele y.body (i : Int)).a) ((ele y.body (i : Int)).b) ((ele y.body (i : Int)).ar) ((ele y.body (i : Int)).sp) ((ele y.body (i : Int)).pl) ((ele y.body (i : Int)).n)) = some (usesL (ele y.body (i : Int))) from Uses_s _, bd_ret, e1, bd_ret, Out.on_go, ck_IR (by omega) (by omega)]
    refine ⟨_, rfl, fun x => ?_, by show g'.length ≤ _; omega⟩
    rw [e2, q1]
    constructor
    · rintro (⟨k, h1, h2⟩ | h)
      · exact ⟨k, by omega, h2⟩
      · exact ⟨i, by omega, h⟩
    · rintro ⟨k, h1, h2⟩
      by_cases e : k = i
      · subst e; exact .inr h2
      · exact .inl ⟨k, by omega, h2⟩) (fun g => by unfold keep_Layout_uses_L0; exact br_F (by unfold ln; omega)) [] ⟨fun x => ⟨fun h => (by cases h), fun ⟨k, h, _⟩ => absurd h (Nat.not_lt_zero _)⟩, by simp⟩
  obtain ⟨g, e, q1, q2⟩ := X
  unfold keep_Layout_uses_m
  rw [e, bd_ret, Out.on_go]
  exact ⟨g, rfl, q1, by omega⟩
structure LookP (y : LayD) (a m j : Int) (k : Nat) (r : Rf) : Prop where
  kn : k < y.body.length
  mem : r ∈ usesL (ele y.body (k : Int))
  st : r.st = a
  near : (ele y.ready a ≤ ele y.ready m + j * y.pace ∧ ele y.ready m + j * y.pace ≤ ele y.time (k : Int) + r.bk * y.pace) ∨ (0 < r.bk ∧ 0 < j ∧ ele y.ready m + j * y.pace ≤ ele y.time (k : Int) + r.bk * y.pace)
def OutP (y : LayD) (a m j : Int) : Prop := j ≤ 0 ∧ ele y.ready a ≤ ele y.ready m + j * y.pace ∧ a ∈ y.outs
def BadP (y : LayD) (a m j : Int) : Prop := (∃ k r, LookP y a m j k r) ∨ OutP y a m j
def ApartP (y : LayD) (a m : Int) : Prop := ∀ j : Int, (m ≠ a ∨ j ≠ 0) → (ele y.places m + j - ele y.places a) % y.regs = 0 → ¬ BadP y a m j
theorem contains_s (s : List Int) (hs : s.length ≤ 100000) (v : Int) : slices_Contains___int_int__m s v = some (tb (v ∈ s)) := by
  unfold slices_Contains___int_int__m slices_Index___int_int__m
  rcases lp_det2 (f := slices_Index___int_int__L0 s v) (fun i => (i : Int)) s.length (fun i => ¬ (v = ele s (i : Int))) (fun i => (i : Int)) (fun i hi _ => by
      unfold slices_Index___int_int__L0
      rw [br_T (by unfold ln; omega), ck_IX (by omega) (by unfold ln; omega)]
      exact ⟨fun h => by rw [show (v == ele s (i : Int)) = false from by simp [h], br_false, ck_IR (by omega) (by omega)]; rfl, fun h => by rw [show (v == ele s (i : Int)) = true from by simpa using h, br_true]⟩) (by unfold slices_Index___int_int__L0; exact br_F (by unfold ln; omega)) with ⟨h1, e⟩ | ⟨i, h1, h2, _, e⟩
  · rw [show (0 : Int) = ((0 : Nat) : Int) from rfl, e, bd_ret, Out.on_go, bd_ret, tb_f]
    · rfl
    · intro h
      obtain ⟨i, hi, he⟩ := mem_ele h
      exact h1 i hi he.symm
  · rw [show (0 : Int) = ((0 : Nat) : Int) from rfl, e, bd_ret, Out.on_ret, bd_ret, tb_t (by rw [Classical.not_not.1 h2]; exact ele_mem' h1), decide_eq_true (by omega)]
theorem bad_s {y : LayD} (hy : y.Ok) {a m : Nat} (ha : a < y.body.length) (hm : m < y.body.length) {j : Int} (h1 : -10000 ≤ j) (h2 : j ≤ 10000) {us : List Use} (hus : ∀ x, x ∈ us ↔ ∃ k, k < y.body.length ∧ ∃ r ∈ usesL (ele y.body (k : Int)), UseOf y a k r x) (hul : us.length ≤ 32) :
    keep_Layout_bad_m y.outs y.pace y.regs y.ready a m j us = some (tb (BadP y a m j)) := by
  have hpc := hy.pace
  have hlr := hy.lr
  have r1 := hy.rd a ha; have r2 := hy.rd m hm
  have m1 := mul_le (a := j) (A := 10000) (b := y.pace) (B := 200) (by omega) (by omega) (by omega) (by omega)
  unfold keep_Layout_bad_m
  rw [ck_IX (by omega) (by unfold ln; omega), ck_IR (by omega) (by omega), ck_IR (by omega) (by omega)]
  rcases lp_det2 (f := keep_Layout_bad_L0 y.pace y.ready a m j us) (fun i => (i : Int)) us.length (fun i => ¬ ((ele y.ready a ≤ ele y.ready m + j * y.pace ∧ ele y.ready m + j * y.pace ≤ (ele us (i : Int)).til) ∨ ((ele us (i : Int)).later = true ∧ 0 < j ∧ ele y.ready m + j * y.pace ≤ (ele us (i : Int)).til))) (fun i => true) (fun i hi _ => by
      unfold keep_Layout_bad_L0
      rw [br_T (by unfold ln; omega), ck_IX (by omega) (by unfold ln; omega), ck_IX (by omega) (by unfold ln; omega)]
      have hb : (((decide (((ele y.ready m) + (j * y.pace)) ≥ (ele y.ready a))) && (decide (((ele y.ready m) + (j * y.pace)) ≤ (ele us (i : Int)).til))) || (((ele us (i : Int)).later && (decide (j > 0))) && (decide (((ele y.ready m) + (j * y.pace)) ≤ (ele us (i : Int)).til)))) = tb ((ele y.ready a ≤ ele y.ready m + j * y.pace ∧ ele y.ready m + j * y.pace ≤ (ele us (i : Int)).til) ∨ ((ele us (i : Int)).later = true ∧ 0 < j ∧ ele y.ready m + j * y.pace ≤ (ele us (i : Int)).til)) := tb_eq (by simp [and_assoc])
      rw [hb]
      exact ⟨fun h => by rw [tb_f h, br_false, ck_IR (by omega) (by omega)]; rfl, fun h => by rw [tb_t (Classical.not_not.1 h), br_true]⟩) (by unfold keep_Layout_bad_L0; exact br_F (by unfold ln; omega)) with ⟨q1, e⟩ | ⟨i, q1, q2, _, e⟩
  · rw [show lp (keep_Layout_bad_L0 y.pace y.ready a m j us) 0 = _ from e, bd_ret, Out.on_go, ck_imp (fun _ => ⟨by omega, by unfold ln; omega⟩), contains_s _ hy.lo, bdG_some']
    congr 1
    refine tb_eq ?_
    have hno : ¬ ∃ k r, LookP y a m j k r := by
      rintro ⟨k, r, hk, hr, hs, hn⟩
      obtain ⟨i, hi, he⟩ := mem_ele ((hus _).2 ⟨k, hk, r, hr, hs, rfl⟩)
      refine q1 i hi ?_
      rw [he]
      simpa using hn
    unfold BadP OutP
    constructor
    · intro h
      by_cases c : j ≤ 0 <;> by_cases d : ele y.ready a ≤ ele y.ready m + j * y.pace <;> by_cases f : (a : Int) ∈ y.outs <;> simp [c, d, f, tb_t, tb_f] at h ⊢
    · rintro (h | ⟨c, d, f⟩)
      · exact absurd h hno
      · have d' : ele y.ready m + j * y.pace ≥ ele y.ready a := d
        rw [tb_t f, decide_eq_true c, decide_eq_true d']
        rfl
  · rw [show lp (keep_Layout_bad_L0 y.pace y.ready a m j us) 0 = _ from e, bd_ret, Out.on_ret, tb_t]
    obtain ⟨k, hk, r, hr, hs, he⟩ := (hus _).1 (ele_mem' q1)
    have q3 := Classical.not_not.1 q2
    rw [he] at q3
    exact .inl ⟨k, r, hk, hr, hs, by simpa using q3⟩
end Go.Rd
end

section
namespace Go.Rd
set_option linter.unusedVariables false
def farJ (y : LayD) : Int := 4000 / y.pace + 1
theorem bad_near {y : LayD} (hy : y.Ok) {a m : Nat} (ha : a < y.body.length) (hm : m < y.body.length) {j : Int} (h : BadP y a m j) : -(4000 / y.pace) - 2 ≤ j ∧ j ≤ farJ y ∧ -1006 ≤ j ∧ j ≤ 1003 ∧ -1006 ≤ j * y.pace := by
  have hp := hy.pace
  have r1 := hy.rd a ha; have r2 := hy.rd m hm
  have hlow : -1006 ≤ j * y.pace → -(4000 / y.pace) - 2 ≤ j := fun hl => by
    have h1 : -j ≤ 4000 / y.pace := Int.le_ediv_of_mul_le (by omega) (by rw [Int.neg_mul]; omega)
    omega
  have hup : j * y.pace ≤ 1000 + 3 * y.pace → j ≤ farJ y ∧ j ≤ 1003 := fun hu => by
    have h1 : j - 3 ≤ 1000 / y.pace := Int.le_ediv_of_mul_le (by omega) (by rw [Int.sub_mul]; omega)
    have h2 : 1000 / y.pace + 2 ≤ 4000 / y.pace := Int.le_ediv_of_mul_le (by omega) (by
      have := Int.ediv_mul_le 1000 (show y.pace ≠ 0 by omega)
      rw [Int.add_mul]; omega)
    have h3 : 1000 / y.pace ≤ 1000 := Int.ediv_le_self _ (by omega)
    unfold farJ
    omega
  have hj : ∀ hl : -1006 ≤ j * y.pace, -1006 ≤ j := fun hl => by
    by_cases c : j < 0
    · have := Int.mul_le_mul_of_nonneg_left (show (1 : Int) ≤ y.pace by omega) (show 0 ≤ -j by omega)
      rw [Int.neg_mul j y.pace] at this
      omega
    · omega
  have hpos : 0 < j → 0 ≤ j * y.pace := fun h0 => Int.mul_nonneg (by omega) (by omega)
  have hnp : j ≤ 0 → j * y.pace ≤ 0 := fun h0 => by
    have := Int.mul_le_mul_of_nonneg_right h0 (show 0 ≤ y.pace by omega)
    omega
  rcases h with ⟨k, r, q⟩ | ⟨q1, q2, q3⟩
  · have hk := hy.tm k q.kn
    have hu := hy.us k q.kn r q.mem
    have m1 := Int.mul_le_mul_of_nonneg_right (show r.bk ≤ 3 by omega) (show 0 ≤ y.pace by omega)
    have hl : -1006 ≤ j * y.pace := by
      rcases q.near with ⟨n1, n2⟩ | ⟨n1, n2, n3⟩
      · omega
      · have := hpos n2; omega
    have hh : j * y.pace ≤ 1000 + 3 * y.pace := by
      rcases q.near with ⟨n1, n2⟩ | ⟨n1, n2, n3⟩ <;> omega
    have := hup hh
    exact ⟨hlow hl, this.1, hj hl, this.2, hl⟩
  · have hl : -1006 ≤ j * y.pace := by omega
    have := hup (by have := hnp q1; omega)
    exact ⟨hlow hl, this.1, hj hl, this.2, hl⟩
theorem tm2 {d R : Int} (hR : 1 ≤ R) (hR2 : R ≤ 128) : Int.tmod (Int.tmod d R + R) R = d % R := by
  have ht := tmod_lt' d (show 0 < R by omega)
  rw [Int.tmod_eq_emod_of_nonneg (by omega), Int.add_emod_right]
  have h := Int.tmod_add_mul_tdiv d R
  rw [show Int.tmod d R = d - R * Int.tdiv d R from by omega, Int.sub_mul_emod_self_left]
theorem apart_s {y : LayD} (hy : y.Ok) {a m : Nat} (ha : a < y.body.length) (hm : m < y.body.length) : keep_Layout_Apart_m y.body y.outs y.pace y.regs y.time y.ready y.places a m = some (tb (ApartP y a m)) := by
  obtain ⟨us, u1, u2, u3⟩ := uses_l hy a
  have hp := hy.pace; have hR := hy.regs
  have p1 := hy.pl a ha; have p2 := hy.pl m hm
  have hlp := hy.lp
  have ht := tmod_lt' (ele y.places (a : Int) - ele y.places (m : Int)) (show 0 < y.regs by omega)
  have hf : Int.tdiv 4000 y.pace = 4000 / y.pace := Int.tdiv_eq_ediv_of_nonneg (by omega)
  have hf0 : 0 ≤ 4000 / y.pace := Int.ediv_nonneg (by omega) (by omega)
  have hf1 : 4000 / y.pace ≤ 4000 := Int.ediv_le_self _ (by omega)
  have hq : Int.tdiv (4000 / y.pace + 1) y.regs = (4000 / y.pace + 1) / y.regs := Int.tdiv_eq_ediv_of_nonneg (by omega)
  have hq0 : 0 ≤ (4000 / y.pace + 1) / y.regs := Int.ediv_nonneg (by omega) (by omega)
  have hq1 : (4000 / y.pace + 1) / y.regs ≤ 4001 := Int.le_trans (Int.ediv_le_self _ (by omega)) (by omega)
  have hq2 := Int.ediv_mul_le (4000 / y.pace + 1) (show y.regs ≠ 0 by omega)
  have hq3 := Int.lt_ediv_add_one_mul_self (4000 / y.pace + 1) (show 0 < y.regs by omega)
  have hd0 := Int.emod_nonneg (ele y.places (a : Int) - ele y.places (m : Int)) (show y.regs ≠ 0 by omega)
  have hd1 := Int.emod_lt_of_pos (ele y.places (a : Int) - ele y.places (m : Int)) (show 0 < y.regs by omega)
  unfold keep_Layout_Apart_m
  rw [u1, bd_ret, ck_IX (by omega) (by unfold ln; omega), ck_IX (by omega) (by unfold ln; omega), ck_IR (by omega) (by omega), ck_yes (by omega), ck_IR (by omega) (by omega), ck_yes (by omega), ck_yes (by omega), hf, ck_IR (by omega) (by omega), ck_IR (by omega) (by omega), ck_yes (by omega), hq, ck_IR (by omega) (by omega), ck_IR (by omega) (by omega)]
  rw [Int.add_mul] at hq3
  have e2 : ((4000 / y.pace + 1) / y.regs + 2) * y.regs = (4000 / y.pace + 1) / y.regs * y.regs + 2 * y.regs := Int.add_mul ..
  rw [tm2 hR.1 hR.2, e2, ck_IR (by omega) (by omega), ck_IR (by omega) (by omega)]
  generalize hlo : (ele y.places (a : Int) - ele y.places (m : Int)) % y.regs - ((4000 / y.pace + 1) / y.regs * y.regs + 2 * y.regs) = lo
  have hfar : farJ y = 4000 / y.pace + 1 := rfl
  have hlob : lo < -(4000 / y.pace) - 1 ∧ -10000 ≤ lo := by omega
  have hN0 : 0 ≤ (farJ y - lo) / y.regs := Int.ediv_nonneg (by omega) (by omega)
  obtain ⟨N, hN⟩ := Int.eq_ofNat_of_zero_le (show 0 ≤ (farJ y - lo) / y.regs + 1 by omega)
  have hN1 := Int.ediv_mul_le (farJ y - lo) (show y.regs ≠ 0 by omega)
  have hN2 := Int.lt_ediv_add_one_mul_self (farJ y - lo) (show 0 < y.regs by omega)
  rw [hN] at hN2
  have hst : ∀ i : Nat, i < N → lo + (i : Int) * y.regs ≤ farJ y ∧ lo ≤ lo + (i : Int) * y.regs := fun i hi => by
    have h1 := Int.mul_le_mul_of_nonneg_right (show (i : Int) ≤ (farJ y - lo) / y.regs by omega) (show 0 ≤ y.regs by omega)
    have h2 := Int.mul_nonneg (show 0 ≤ (i : Int) by omega) (show 0 ≤ y.regs by omega)
    omega
  have hcong : ∀ i : Int, (ele y.places (m : Int) + (lo + i * y.regs) - ele y.places (a : Int)) % y.regs = 0 := fun i => by
    have h1 := Int.emod_add_mul_ediv (ele y.places (a : Int) - ele y.places (m : Int)) y.regs
    have e : ele y.places (m : Int) + (lo + i * y.regs) - ele y.places (a : Int) = (i - (ele y.places (a : Int) - ele y.places (m : Int)) / y.regs - ((4000 / y.pace + 1) / y.regs + 2)) * y.regs := by
      rw [Int.sub_mul, Int.sub_mul, e2, Int.mul_comm ((ele y.places (a : Int) - ele y.places (m : Int)) / y.regs)]
      omega
    rw [e, Int.mul_emod_left]
  have X := lp_det2 (f := keep_Layout_Apart_L0 y.outs y.pace y.regs y.ready a m us) (ρ := Bool) (fun i => lo + (i : Int) * y.regs) N (fun i => ¬ (((m : Int) ≠ a ∨ lo + (i : Int) * y.regs ≠ 0) ∧ BadP y a m (lo + (i : Int) * y.regs))) (fun _ => false) (fun i hi _ => by
    have h1 := hst i hi
    unfold keep_Layout_Apart_L0
    rw [hf, br_T (by omega), bad_s hy ha hm (by omega) (by omega) u2 u3, bdG_some']
    have hb : ((((m : Int) != a) || (lo + (i : Int) * y.regs != 0)) && (if (((m : Int) != a) || (lo + (i : Int) * y.regs != 0)) = true then tb (BadP y a m (lo + (i : Int) * y.regs)) else false)) = tb (((m : Int) ≠ a ∨ lo + (i : Int) * y.regs ≠ 0) ∧ BadP y a m (lo + (i : Int) * y.regs)) := by
      rw [show (((m : Int) != a) || (lo + (i : Int) * y.regs != 0)) = tb ((m : Int) ≠ a ∨ lo + (i : Int) * y.regs ≠ 0) from tb_eq (by simp)]
      by_cases c : ((m : Int) ≠ a ∨ lo + (i : Int) * y.regs ≠ 0)
      · rw [tb_t c, if_pos rfl, Bool.true_and]; exact tb_congr ⟨fun h => ⟨c, h⟩, fun h => h.2⟩
      · rw [tb_f c, Bool.false_and, tb_f fun h => c h.1]
    rw [hb]
    exact ⟨fun h => by rw [tb_f h, br_false, ck_IR (by omega) (by omega)]; refine congrArg some (congrArg Stp.next ?_); rw [show ((i + 1 : Nat) : Int) = (i : Int) + 1 from by omega, Int.add_mul]; omega, fun h => by rw [tb_t (Classical.not_not.1 h), br_true]⟩) (by
    unfold keep_Layout_Apart_L0
    rw [hf]
    exact br_F (by omega))
  rw [show lo + ((0 : Nat) : Int) * y.regs = lo from by rw [show ((0 : Nat) : Int) = 0 from rfl, Int.zero_mul]; omega] at X
  rcases X with ⟨h1, e⟩ | ⟨i, h1, h2, _, e⟩
  · rw [e, bd_ret, Out.on_go, tb_t]
    intro j hj hz hbad
    have hb := bad_near hy ha hm hbad
    obtain ⟨z, hz⟩ := Int.dvd_of_emod_eq_zero hz
    have h3 := Int.emod_add_mul_ediv (ele y.places (a : Int) - ele y.places (m : Int)) y.regs
    have e3 : j - lo = y.regs * (z + (ele y.places (a : Int) - ele y.places (m : Int)) / y.regs + ((4000 / y.pace + 1) / y.regs + 2)) := by
      rw [Int.mul_add, Int.mul_add, ← hz, Int.mul_comm y.regs ((4000 / y.pace + 1) / y.regs + 2), e2]
      omega
    generalize z + (ele y.places (a : Int) - ele y.places (m : Int)) / y.regs + ((4000 / y.pace + 1) / y.regs + 2) = i at e3
    have hi0 : 0 ≤ i := by
      by_cases c : i < 0
      · have := Int.mul_le_mul_of_nonneg_left (show i ≤ -1 by omega) (show 0 ≤ y.regs by omega)
        omega
      · omega
    have hi1 : i ≤ (farJ y - lo) / y.regs := Int.le_ediv_of_mul_le (by omega) (by rw [Int.mul_comm]; omega)
    obtain ⟨i', rfl⟩ := Int.eq_ofNat_of_zero_le hi0
    have hj' : lo + (i' : Int) * y.regs = j := by rw [Int.mul_comm]; omega
    have := h1 i' (by omega)
    rw [hj'] at this
    exact this ⟨hj, hbad⟩
  · rw [e, bd_ret, Out.on_ret, tb_f]
    intro h
    have h3 := Classical.not_not.1 h2
    exact h _ h3.1 (hcong i) h3.2
end Go.Rd
end

section
namespace Go.Rd
set_option linter.unusedVariables false
noncomputable def roundelayref5_Uses_m (op : Int) : Option (Int) :=
 br (op == 4) (
 some 1) (
 br (decide (op > 10)) (
 some 2) (
 some 0))

noncomputable def roundelayref5_one_m (t : Tgt) (k_ : Krn) (o : Opr) (logs : List Int) : Option (Bool) :=
 ck ((!((((decide (o.slot < 0)) || (decide (o.slot ≥ k_.pace))) || (decide (o.stage < 0))) || (decide (o.stage ≥ k_.stages)))) = true → IR (o.stage * k_.pace)) <|
 ck ((!((((decide (o.slot < 0)) || (decide (o.slot ≥ k_.pace))) || (decide (o.stage < 0))) || (decide (o.stage ≥ k_.stages)))) = true → IR ((o.stage * k_.pace) + o.slot)) <|
 br (((((decide (o.slot < 0)) || (decide (o.slot ≥ k_.pace))) || (decide (o.stage < 0))) || (decide (o.stage ≥ k_.stages))) || (decide (((o.stage * k_.pace) + o.slot) > 1000))) (
 some false) (
 bd (roundelayref5_Uses_m o.op) fun x11 =>
 br ((((((((decide (o.dest < 0)) || (decide (o.dest ≥ t.regs))) || (decide (o.a < 0))) || (decide (o.b < 0))) || (decide (o.a ≥ t.regs))) || (decide (o.b ≥ t.regs))) || ((decide (x11 < 1)) && (o.a != 0))) || ((decide (x11 < 2)) && (o.b != 0))) (
 some false) (
 bd (roundelayref2_May_m (Lp.mk logs [(Stm.mk 2 (Rf.mk 0 0) (Rf.mk 0 0) 0 0 0 0), (Stm.mk o.op (Rf.mk 0 0) (Rf.mk 0 0) o.ar o.sp o.pl o.n)] [])) fun x19 =>
 some x19))

noncomputable def roundelayref5_May_L2 (k_ : Krn) (i7_2 : Int) (x39 : Int) : (Int × Int) → Option (Stp (Int × Int) (Empty)) := fun (many9_3, j10_3) =>
 br (decide (j10_3 < (ln k_.ops))) (
 ck (IX j10_3 (ln k_.ops)) <|
 ck (IX i7_2 (ln k_.ops)) <|
 ck (((ele k_.ops j10_3).slot == (ele k_.ops i7_2).slot) = true → IX j10_3 (ln k_.ops)) <|
 bdG ((ele k_.ops j10_3).slot == (ele k_.ops i7_2).slot) (roundelayref1_Class_m ((ele k_.ops j10_3).op)) fun x61 =>
 br (((ele k_.ops j10_3).slot == (ele k_.ops i7_2).slot) && (x61 == x39)) (
 ck (IR (many9_3 + 1)) <|
 ck (IR (j10_3 + 1)) <|
 some (.next ((many9_3 + 1), (j10_3 + 1)))) (
 ck (IR (j10_3 + 1)) <|
 some (.next (many9_3, (j10_3 + 1))))) (
 some (.brk (many9_3, j10_3)))
noncomputable def roundelayref5_May_L0 (t : Tgt) (k_ : Krn) (logs : List Int) : Int → Option (Stp (Int) (Bool)) := fun i7_2 =>
 br (decide (i7_2 < (ln k_.ops))) (
 ck (IX i7_2 (ln k_.ops)) <|
 bd (roundelayref5_one_m t k_ (ele k_.ops i7_2) logs) fun x29 =>
 br (!x29) (
 some (.ret false)) (
 ck (IX i7_2 (ln k_.ops)) <|
 bd (roundelayref1_Class_m ((ele k_.ops i7_2).op)) fun x39 =>
 bd (lp (roundelayref5_May_L2 k_ i7_2 x39) (0, 0)) fun o42 => o42.on (fun (many9_3, j10_3) =>
 ck (IX x39 3) <|
 br (decide (many9_3 > (sel3 t.u0 t.u1 t.u2 x39))) (
 some (.ret false)) (
 ck (IR (i7_2 + 1)) <|
 some (.next (i7_2 + 1)))) (fun r => r.elim))) (
 some (.brk i7_2))
noncomputable def roundelayref5_May_m (t : Tgt) (k_ : Krn) (logs : List Int) : Option (Bool) :=
 bd (roundelayref4_May_m t) fun x3 =>
 bdG (!(!x3)) (roundelayref2_Within_m k_.pace 1 200) fun x6 =>
 bdG (!((!x3) || (!x6))) (roundelayref2_Within_m k_.stages 1 1001) fun x9 =>
 bdG (!(((!x3) || (!x6)) || (!x9))) (roundelayref2_Within_m (ln k_.ops) 1 16) fun x12 =>
 br ((((!x3) || (!x6)) || (!x9)) || (!x12)) (
 some false) (
 bd (lp (roundelayref5_May_L0 t k_ logs) 0) fun o18 => o18.on (fun i7_2 =>
 some true) (fun r => some r))

noncomputable def roundelayref10_Layout_L2 (order : List Int) (s12_4 : Int) : Int → Option (Stp (Int) (List Off × Bool)) := fun i13_5 =>
 br (decide (i13_5 < s12_4)) (
 ck (IX i13_5 (ln order)) <|
 ck (IX s12_4 (ln order)) <|
 br ((ele order i13_5) == (ele order s12_4)) (
 some (.ret ([], false))) (
 ck (IR (i13_5 + 1)) <|
 some (.next (i13_5 + 1)))) (
 some (.brk i13_5))
noncomputable def roundelayref10_Layout_L0 (l : Lp) (t : Tgt) (k_ : Krn) (order : List Int) : ((List Off) × Int) → Option (Stp ((List Off) × Int) (List Off × Bool)) := fun (v13_4, s12_4) =>
 br (decide (s12_4 < (ln l.body))) (
 ck (IX s12_4 (ln order)) <|
 ck ((!(decide ((ele order s12_4) < 0))) = true → IX s12_4 (ln order)) <|
 br ((decide ((ele order s12_4) < 0)) || (decide ((ele order s12_4) ≥ (ln l.body)))) (
 some (.ret ([], false))) (
 bd (lp (roundelayref10_Layout_L2 order s12_4) 0) fun o32 => o32.on (fun i13_5 =>
 ck (IX s12_4 (ln order)) <|
 ck (IX (ele order s12_4) (ln k_.ops)) <|
 ck (IX s12_4 (ln l.body)) <|
 br ((((((ele k_.ops (ele order s12_4)).op != (ele l.body s12_4).op) || ((ele k_.ops (ele order s12_4)).ar != (ele l.body s12_4).ar)) || ((ele k_.ops (ele order s12_4)).sp != (ele l.body s12_4).sp)) || ((ele k_.ops (ele order s12_4)).pl != (ele l.body s12_4).pl)) || ((ele k_.ops (ele order s12_4)).n != (ele l.body s12_4).n)) (
 some (.ret ([], false))) (
 ck (IR (k_.pace * (ele k_.ops (ele order s12_4)).stage)) <|
 ck (IR ((ele k_.ops (ele order s12_4)).slot + (k_.pace * (ele k_.ops (ele order s12_4)).stage))) <|
 bd (roundelayref4_Wait_m t ((ele k_.ops (ele order s12_4)).op)) fun x58 =>
 ck (IR (((ele k_.ops (ele order s12_4)).slot + (k_.pace * (ele k_.ops (ele order s12_4)).stage)) + x58)) <|
 ck (IR ((ele k_.ops (ele order s12_4)).dest + (ele k_.ops (ele order s12_4)).stage)) <|
 ck (AL (v13_4 ++ [(Off.mk ((ele k_.ops (ele order s12_4)).slot + (k_.pace * (ele k_.ops (ele order s12_4)).stage)) (((ele k_.ops (ele order s12_4)).slot + (k_.pace * (ele k_.ops (ele order s12_4)).stage)) + x58) ((ele k_.ops (ele order s12_4)).dest + (ele k_.ops (ele order s12_4)).stage))]).length 24) <|
 ck (IR (s12_4 + 1)) <|
 some (.next ((v13_4 ++ [(Off.mk ((ele k_.ops (ele order s12_4)).slot + (k_.pace * (ele k_.ops (ele order s12_4)).stage)) (((ele k_.ops (ele order s12_4)).slot + (k_.pace * (ele k_.ops (ele order s12_4)).stage)) + x58) ((ele k_.ops (ele order s12_4)).dest + (ele k_.ops (ele order s12_4)).stage))]), (s12_4 + 1))))) (fun r => some (.ret r)))) (
 some (.brk (v13_4, s12_4)))
noncomputable def roundelayref10_Layout_m (l : Lp) (t : Tgt) (k_ : Krn) (order : List Int) : Option (List Off × Bool) :=
 bd (roundelayref6_May_m l t) fun x4 =>
 bdG (!(!x4)) (roundelayref5_May_m t k_ l.logs) fun x7 =>
 br ((((!x4) || (!x7)) || ((ln k_.ops) != (ln l.body))) || ((ln order) != (ln l.body))) (
 some ([], false)) (
 bd (lp (roundelayref10_Layout_L0 l t k_ order) ([], 0)) fun o14 => o14.on (fun (v13_4, s12_4) =>
 some (v13_4, true)) (fun r => some r))

noncomputable def roundelayref10_Far_L2 (a : Int) (x13 : List Rf) : (Int × Int) → Option (Stp (Int × Int) (Empty)) := fun (far5_4, k8_4) =>
 br (decide (k8_4 < (ln x13))) (
 ck (IX k8_4 (ln x13)) <|
 ck (((ele x13 k8_4).st == a) = true → IX k8_4 (ln x13)) <|
 br (((ele x13 k8_4).st == a) && (decide ((ele x13 k8_4).bk > far5_4))) (
 ck (IX k8_4 (ln x13)) <|
 ck (IR (k8_4 + 1)) <|
 some (.next ((ele x13 k8_4).bk, (k8_4 + 1)))) (
 ck (IR (k8_4 + 1)) <|
 some (.next (far5_4, (k8_4 + 1))))) (
 some (.brk (far5_4, k8_4)))
noncomputable def roundelayref10_Far_L0 (l : Lp) (a : Int) : (Int × Int) → Option (Stp (Int × Int) (Empty)) := fun (far5_3, i6_3) =>
 br (decide (i6_3 < (ln l.body))) (
 ck (IX i6_3 (ln l.body)) <|
 bd (roundelayref2_Uses_m (ele l.body i6_3)) fun x13 =>
 bd (lp (roundelayref10_Far_L2 a x13) (far5_3, 0)) fun o17 => o17.on (fun (far5_4, k8_4) =>
 ck (IR (i6_3 + 1)) <|
 some (.next (far5_4, (i6_3 + 1)))) (fun r => r.elim)) (
 some (.brk (far5_3, i6_3)))
noncomputable def roundelayref10_Far_m (l : Lp) (a : Int) : Option (Int) :=
 bd (lp (roundelayref10_Far_L0 l a) (0, 0)) fun o2 => o2.on (fun (far5_3, i6_3) =>
 some far5_3) (fun r => r.elim)

end Go.Rd
end

section
namespace Go.Rd
set_option linter.unusedVariables false
def usesN (op : Int) : Int := if op = 4 then 1 else if op > 10 then 2 else 0
def turnS : Stm := ⟨2, ⟨0, 0⟩, ⟨0, 0⟩, 0, 0, 0, 0⟩
def stmO (o : Opr) : Stm := ⟨o.op, ⟨0, 0⟩, ⟨0, 0⟩, o.ar, o.sp, o.pl, o.n⟩
def lpO (logs : List Int) (o : Opr) : Lp := ⟨logs, [turnS, stmO o], []⟩
def SlotP (k : Krn) (o : Opr) : Prop := 0 ≤ o.slot ∧ o.slot < k.pace ∧ 0 ≤ o.stage ∧ o.stage < k.stages ∧ o.stage * k.pace + o.slot ≤ 1000
def NamesP (t : Tgt) (o : Opr) : Prop := 0 ≤ o.dest ∧ o.dest < t.regs ∧ 0 ≤ o.a ∧ o.a < t.regs ∧ 0 ≤ o.b ∧ o.b < t.regs ∧ (usesN o.op < 1 → o.a = 0) ∧ (usesN o.op < 2 → o.b = 0)
def OneP (t : Tgt) (k : Krn) (o : Opr) (logs : List Int) : Prop := SlotP k o ∧ NamesP t o ∧ LoopOk (lpO logs o)
theorem rUses_s (op : Int) : roundelayref5_Uses_m op = some (usesN op) := by
  unfold roundelayref5_Uses_m usesN
  by_cases h : op = 4
  · simp [h, br]
  · by_cases h2 : op > 10
    · have h3 : (op == 4) = false := by simp [h]
      simp [h, h2, h3, br]
    · have h3 : (op == 4) = false := by simp [h]
      simp [h, h2, h3, br]
theorem one_s {t : Tgt} {k : Krn} {o : Opr} {logs : List Int} (hp : 1 ≤ k.pace ∧ k.pace ≤ 200) (hs : 1 ≤ k.stages ∧ k.stages ≤ 1001) (hf : (lpO logs o).Fine) : roundelayref5_one_m t k o logs = some (tb (OneP t k o logs)) := by
  unfold roundelayref5_one_m
  have hir : (!((((decide (o.slot < 0)) || (decide (o.slot ≥ k.pace))) || (decide (o.stage < 0))) || (decide (o.stage ≥ k.stages)))) = true → (0 ≤ o.stage * k.pace ∧ o.stage * k.pace ≤ 1001 * 200 ∧ 0 ≤ o.slot ∧ o.slot < 200) := fun h => by
    simp only [Bool.not_eq_true', Bool.or_eq_false_iff, decide_eq_false_iff_not] at h
    have m1 := mul_le (a := o.stage) (A := 1001) (b := k.pace) (B := 200) (by omega) (by omega) (by omega) (by omega)
    have m2 := Int.mul_nonneg (show 0 ≤ o.stage by omega) (show 0 ≤ k.pace by omega)
    omega
  rw [ck_imp (fun h => by have := hir h; exact ⟨by omega, by omega⟩), ck_imp (fun h => by have := hir h; exact ⟨by omega, by omega⟩)]
  have hb : (((((decide (o.slot < 0)) || (decide (o.slot ≥ k.pace))) || (decide (o.stage < 0))) || (decide (o.stage ≥ k.stages))) || (decide (((o.stage * k.pace) + o.slot) > 1000))) = !tb (SlotP k o) := by
    rw [show tb (SlotP k o) = !(((((decide (o.slot < 0)) || (decide (o.slot ≥ k.pace))) || (decide (o.stage < 0))) || (decide (o.stage ≥ k.stages))) || (decide (((o.stage * k.pace) + o.slot) > 1000))) from (tb_eq (by unfold SlotP; simp [and_assoc])).symm, Bool.not_not]
  rw [hb, rUses_s, bd_ret]
  have hc : ((((((((decide (o.dest < 0)) || (decide (o.dest ≥ t.regs))) || (decide (o.a < 0))) || (decide (o.b < 0))) || (decide (o.a ≥ t.regs))) || (decide (o.b ≥ t.regs))) || ((decide (usesN o.op < 1)) && (o.a != 0))) || ((decide (usesN o.op < 2)) && (o.b != 0))) = !tb (NamesP t o) := by
    rw [show tb (NamesP t o) = !((((((((decide (o.dest < 0)) || (decide (o.dest ≥ t.regs))) || (decide (o.a < 0))) || (decide (o.b < 0))) || (decide (o.a ≥ t.regs))) || (decide (o.b ≥ t.regs))) || ((decide (usesN o.op < 1)) && (o.a != 0))) || ((decide (usesN o.op < 2)) && (o.b != 0))) from (tb_eq (by
      unfold NamesP
      simp only [Bool.not_eq_true', Bool.or_eq_false_iff, decide_eq_false_iff_not, Bool.and_eq_false_iff, bne_eq_false_iff_eq, Int.not_lt, Int.not_le, ge_iff_le]
      constructor
      · rintro ⟨⟨⟨⟨⟨⟨⟨a1, a2⟩, a3⟩, a4⟩, a5⟩, a6⟩, a7⟩, a8⟩
        exact ⟨a1, a2, a3, a5, a4, a6, fun h => a7.resolve_left (by omega), fun h => a8.resolve_left (by omega)⟩
      · rintro ⟨a1, a2, a3, a5, a4, a6, a7, a8⟩
        refine ⟨⟨⟨⟨⟨⟨⟨a1, a2⟩, a3⟩, a4⟩, a5⟩, a6⟩, ?_⟩, ?_⟩
        · by_cases h : usesN o.op < 1
          · exact .inr (a7 h)
          · exact .inl (by omega)
        · by_cases h : usesN o.op < 2
          · exact .inr (a8 h)
          · exact .inl (by omega))).symm, Bool.not_not]
  rw [hc, show roundelayref2_May_m (Lp.mk logs [(Stm.mk 2 (Rf.mk 0 0) (Rf.mk 0 0) 0 0 0 0), (Stm.mk o.op (Rf.mk 0 0) (Rf.mk 0 0) o.ar o.sp o.pl o.n)] []) = _ from ref_May_s (lpO logs o) hf, bd_ret]
  by_cases h1 : SlotP k o
  · by_cases h2 : NamesP t o
    · rw [tb_t h1, tb_t h2]
      show some _ = some _
      congr 1
      exact tb_congr ⟨fun h => ⟨h1, h2, h⟩, fun h => h.2.2⟩
    · rw [tb_t h1, tb_f h2, tb_f fun h : OneP t k o logs => h2 h.2.1]; rfl
  · rw [tb_f h1, tb_f fun h : OneP t k o logs => h1 h.1]; rfl
def keyO (k : Krn) (i : Nat) : Int × Int := ((ele k.ops (i : Int)).slot, clsV (ele k.ops (i : Int)).op)
def cntO (k : Krn) (n : Nat) (κ : Int × Int) : Nat := (List.range n).countP fun j => decide (keyO k j = κ)
theorem cntO_succ (k : Krn) (n : Nat) (κ : Int × Int) : cntO k (n + 1) κ = cntO k n κ + if keyO k n = κ then 1 else 0 := by
  unfold cntO
  rw [List.range_succ, List.countP_append, List.countP_singleton]
  by_cases h : keyO k n = κ <;> simp [h]
theorem cntO_le (k : Krn) (κ : Int × Int) : ∀ n, cntO k n κ ≤ n
  | 0 => Nat.le_refl _
  | n + 1 => by rw [cntO_succ]; have := cntO_le k κ n; split <;> omega
structure KMayP (t : Tgt) (k : Krn) (logs : List Int) : Prop where
  tgt : tgtOk t = true
  pace : 1 ≤ k.pace ∧ k.pace ≤ 200
  stages : 1 ≤ k.stages ∧ k.stages ≤ 1001
  n : 1 ≤ k.ops.length ∧ k.ops.length ≤ 16
  one : ∀ i : Nat, i < k.ops.length → OneP t k (ele k.ops (i : Int)) logs
  units : ∀ i : Nat, i < k.ops.length → (cntO k k.ops.length (keyO k i) : Int) ≤ unitsV t (keyO k i).2
theorem within_s (n a b : Int) : roundelayref2_Within_m n a b = some (tb (a ≤ n ∧ n ≤ b)) := by
  unfold roundelayref2_Within_m
  congr 1
  exact tb_eq (by simp)
theorem kMay_s {t : Tgt} {k : Krn} {logs : List Int} (hf : ∀ i : Nat, i < k.ops.length → (lpO logs (ele k.ops (i : Int))).Fine) : roundelayref5_May_m t k logs = some (tb (KMayP t k logs)) := by
  unfold roundelayref5_May_m
  rw [ref_tMay_s, bd_ret, within_s, bdG_some', within_s, bdG_some', within_s, bdG_some']
  by_cases h : (tgtOk t = true ∧ (1 ≤ k.pace ∧ k.pace ≤ 200)) ∧ (1 ≤ k.stages ∧ k.stages ≤ 1001) ∧ (1 ≤ k.ops.length ∧ k.ops.length ≤ 16)
  · obtain ⟨⟨h1, h2⟩, h3, h4⟩ := h
    rw [h1, tb_t h2, tb_t h3, tb_t (p := 1 ≤ ln k.ops ∧ ln k.ops ≤ 16) ⟨by unfold ln; omega, by unfold ln; omega⟩]
    simp only [Bool.not_true, Bool.or_self, Bool.not_false, if_true, br_false]
    have X := lp_det2 (f := roundelayref5_May_L0 t k logs) (ρ := Bool) (fun i => (i : Int)) k.ops.length (fun i => OneP t k (ele k.ops (i : Int)) logs ∧ (cntO k k.ops.length (keyO k i) : Int) ≤ unitsV t (keyO k i).2) (fun _ => false) (fun i hi _ => by
      have hc := clsV_range (ele k.ops (i : Int)).op
      have Y := lp_det (f := roundelayref5_May_L2 k i (clsV (ele k.ops (i : Int)).op)) (ρ := Empty) (fun j => ((cntO k j (keyO k i) : Int), (j : Int))) k.ops.length (fun j hj => by
        have hcl := cntO_le k (keyO k i) j
        unfold roundelayref5_May_L2
        simp only
        rw [br_T (by unfold ln; omega), ck_IX (by omega) (by unfold ln; omega), ck_IX (by omega) (by unfold ln; omega), ck_imp (fun _ => ⟨by omega, by unfold ln; omega⟩), ref_Class_s, bdG_any, cntO_succ]
        have hb : (((ele k.ops (j : Int)).slot == (ele k.ops (i : Int)).slot) && ((if ((ele k.ops (j : Int)).slot == (ele k.ops (i : Int)).slot) = true then clsV (ele k.ops (j : Int)).op else default) == clsV (ele k.ops (i : Int)).op)) = tb (keyO k j = keyO k i) := by
          refine tb_eq ?_
          unfold keyO
          by_cases hq : (ele k.ops (j : Int)).slot = (ele k.ops (i : Int)).slot
          · simp [hq]
          · simp [hq]
        rw [hb]
        by_cases hq : keyO k j = keyO k i
        · rw [tb_t hq, br_true, ck_IR (by omega) (by omega), ck_IR (by omega) (by omega), if_pos hq]; rfl
        · rw [tb_f hq, br_false, ck_IR (by omega) (by omega), if_neg hq]; rfl) (by unfold roundelayref5_May_L2; exact br_F (by unfold ln; omega))
      unfold roundelayref5_May_L0
      rw [br_T (by unfold ln; omega), ck_IX (by omega) (by unfold ln; omega), one_s h2 h3 (hf i hi), bd_ret]
      by_cases h5 : OneP t k (ele k.ops (i : Int)) logs
      · rw [tb_t h5, Bool.not_true, br_false, ck_IX (by omega) (by unfold ln; omega), ref_Class_s, bd_ret, show lp (roundelayref5_May_L2 k i (clsV (ele k.ops (i : Int)).op)) (0, 0) = _ from Y, bd_ret, Out.on_go]
        simp only
        rw [ck_IX hc.1 hc.2]
        have he : sel3 t.u0 t.u1 t.u2 (clsV (ele k.ops (i : Int)).op) = unitsV t (keyO k i).2 := rfl
        rw [he]
        exact ⟨fun h => by rw [br_F (by omega), ck_IR (by omega) (by omega)]; rfl, fun h => by rw [br_T (by have : ¬ (cntO k k.ops.length (keyO k i) : Int) ≤ unitsV t (keyO k i).2 := fun h' => h ⟨h5, h'⟩; omega)]⟩
      · rw [tb_f h5]
        exact ⟨fun h => absurd h.1 h5, fun _ => rfl⟩) (by unfold roundelayref5_May_L0; exact br_F (by unfold ln; omega))
    rcases X with ⟨q1, e⟩ | ⟨i, q1, q2, _, e⟩
    · rw [show lp (roundelayref5_May_L0 t k logs) 0 = _ from e, bd_ret, Out.on_go, tb_t (p := KMayP t k logs) ⟨h1, h2, h3, h4, fun i hi => (q1 i hi).1, fun i hi => (q1 i hi).2⟩]
    · rw [show lp (roundelayref5_May_L0 t k logs) 0 = _ from e, bd_ret, Out.on_ret, tb_f fun h : KMayP t k logs => q2 ⟨h.one i q1, h.units i q1⟩]
  · rw [tb_f fun hk : KMayP t k logs => h ⟨⟨hk.tgt, hk.pace⟩, hk.stages, hk.n⟩]
    by_cases h1 : tgtOk t = true
    · by_cases h2 : 1 ≤ k.pace ∧ k.pace ≤ 200
      · by_cases h3 : 1 ≤ k.stages ∧ k.stages ≤ 1001
        · have h4 : ¬ (1 ≤ ln k.ops ∧ ln k.ops ≤ 16) := fun hh => h ⟨⟨h1, h2⟩, h3, by unfold ln at hh; omega⟩
          rw [h1, tb_t h2, tb_t h3, tb_f h4]; rfl
        · rw [h1, tb_t h2, tb_f h3]; rfl
      · rw [h1, tb_f h2]; rfl
    · rw [show tgtOk t = false from by cases hh : tgtOk t with | true => exact absurd hh h1 | false => rfl]; rfl
end Go.Rd
end

section
namespace Go.Rd
set_option linter.unusedVariables false
def regF (y : LayD) (a : Int) (q : Nat) : Int := (ele y.places a - q - 1) % y.regs
def frA (y : LayD) (a : Int) (n : Nat) : List Int := (List.range n).map (regF y a)
def fregs (y : LayD) (L : List Int) : List Int := L.flatMap fun a => frA y a (farV y.body a).toNat
def FirstsP (y : LayD) (L : List Int) : Prop := (fregs y L).Nodup
theorem nodup_snoc {l : List Int} {x : Int} : (l ++ [x]).Nodup ↔ l.Nodup ∧ x ∉ l := by
  rw [List.nodup_append]
  constructor
  · rintro ⟨h1, _, h3⟩
    exact ⟨h1, fun h => h3 x h x (by simp) rfl⟩
  · rintro ⟨h1, h2⟩
    exact ⟨h1, by simp, fun a ha b hb e => by
      rw [List.mem_singleton] at hb
      subst hb; subst e
      exact h2 ha⟩
theorem frA_succ (y : LayD) (a : Int) (n : Nat) : frA y a (n + 1) = frA y a n ++ [regF y a n] := rm_succ.symm
theorem nodup_frA {y : LayD} {a : Int} {F : List Int} : ∀ n, (F ++ frA y a n).Nodup ↔ F.Nodup ∧ ∀ i, i < n → regF y a i ∉ F ++ frA y a i
  | 0 => by
    show (F ++ []).Nodup ↔ _
    rw [List.append_nil]
    exact ⟨fun h => ⟨h, fun i hi => absurd hi (Nat.not_lt_zero _)⟩, fun h => h.1⟩
  | n + 1 => by
    rw [frA_succ, ← List.append_assoc, nodup_snoc, nodup_frA n]
    constructor
    · rintro ⟨⟨h1, h2⟩, h3⟩
      refine ⟨h1, fun i hi => ?_⟩
      by_cases e : i = n
      · subst e; exact h3
      · exact h2 i (by omega)
    · rintro ⟨h1, h2⟩
      exact ⟨⟨h1, fun i hi => h2 i (by omega)⟩, h2 n (by omega)⟩
theorem LayD.Ok.bk {y : LayD} (hy : y.Ok) : ∀ i : Nat, i < y.body.length → ∀ r ∈ usesL (ele y.body (i : Int)), 0 ≤ r.bk ∧ r.bk ≤ 3 := fun i hi r hr => (hy.us i hi r hr).2.2
theorem far_bd {y : LayD} (hy : y.Ok) (a : Int) : 0 ≤ farV y.body a ∧ farV y.body a ≤ 3 := farN_bd hy.bk a _ (Nat.le_refl _)
theorem first_in {y : LayD} (hy : y.Ok) {L : List Int} {i : Nat} (hi : i < L.length) (hL : ∀ x ∈ L, 0 ≤ x ∧ x < y.body.length) {n : Nat} (hn : n ≤ 3) {F : List Int} {m : List (Int × Bool)} (hm : ∀ v, mget m v false = true ↔ v ∈ F) :
    ((∀ q, q < n → regF y (ele L (i : Int)) q ∉ F ++ frA y (ele L (i : Int)) q) ∧ ∃ m', lp (keep_Layout_Firsts_L2 y.regs y.places L i n) (m, 0) = some (.go (m', (n : Int))) ∧ ∀ v, mget m' v false = true ↔ v ∈ F ++ frA y (ele L (i : Int)) n) ∨ (¬ (∀ q, q < n → regF y (ele L (i : Int)) q ∉ F ++ frA y (ele L (i : Int)) q) ∧ lp (keep_Layout_Firsts_L2 y.regs y.places L i n) (m, 0) = some (.ret false)) := by
  have hR := hy.regs
  have ha := hL _ (ele_mem' hi)
  obtain ⟨a, haa⟩ := Int.eq_ofNat_of_zero_le ha.1
  have hp := hy.pl a (by omega)
  have hlp := hy.lp
  rw [← haa] at hp
  refine lp_chk (f := keep_Layout_Firsts_L2 y.regs y.places L i n) (n := n) (r0 := false) (fun q => regF y (ele L (i : Int)) q ∉ F ++ frA y (ele L (i : Int)) q) (fun q m => ∀ v, mget m v false = true ↔ v ∈ F ++ frA y (ele L (i : Int)) q) (fun q g hq hg => ?_) (fun g => by unfold keep_Layout_Firsts_L2; exact br_F (by omega)) m (fun v => by rw [hm]; show _ ↔ v ∈ F ++ []; rw [List.append_nil])
  have ht := tmod_lt' (ele y.places (ele L (i : Int)) - (q : Int) - 1) (show 0 < y.regs by omega)
  have he : (ele y.places (ele L (i : Int)) - (q : Int) - 1) % y.regs = regF y (ele L (i : Int)) q := rfl
  unfold keep_Layout_Firsts_L2
  simp only
  rw [br_T (by omega), ck_IX (by omega) (by unfold ln; omega), ck_IR (by omega) (by omega), ck_IR (by omega) (by omega), ck_yes (by omega), ck_IR (by omega) (by omega), ck_yes (by omega), tm2 hR.1 hR.2, he]
  by_cases h : regF y (ele L (i : Int)) q ∈ F ++ frA y (ele L (i : Int)) q
  · rw [(hg _).2 h, br_true]
    exact .inr ⟨fun h' => h' h, rfl⟩
  · have hf : mget g (regF y (ele L (i : Int)) q) false = false := by
      cases hh : mget g (regF y (ele L (i : Int)) q) false with
      | false => rfl
      | true => exact absurd ((hg _).1 hh) h
    rw [hf, br_false, ck_IR (by omega) (by omega)]
    refine .inl ⟨h, _, rfl, fun v => ?_⟩
    rw [mget_mput, frA_succ, ← List.append_assoc, List.mem_append, List.mem_singleton, ← hg]
    by_cases e : regF y (ele L (i : Int)) q = v
    · rw [if_pos e]; simp [e]
    · rw [if_neg e]
      exact ⟨.inl, fun h => h.resolve_right fun h => e h.symm⟩
theorem fregs_take {y : LayD} {L : List Int} {i : Nat} (hi : i < L.length) : fregs y (L.take (i + 1)) = fregs y (L.take i) ++ frA y (ele L (i : Int)) (farV y.body (ele L (i : Int))).toNat := by
  rw [take_next hi]
  unfold fregs
  rw [List.flatMap_append]
  simp
theorem nodup_take {y : LayD} {L : List Int} : ∀ n, n ≤ L.length → ((fregs y (L.take n)).Nodup ↔ ∀ i, i < n → ∀ q, q < (farV y.body (ele L (i : Int))).toNat → regF y (ele L (i : Int)) q ∉ fregs y (L.take i) ++ frA y (ele L (i : Int)) q)
  | 0, _ => by simp [fregs]
  | n + 1, h => by
    rw [fregs_take (by omega), nodup_frA, nodup_take n (by omega)]
    constructor
    · rintro ⟨h1, h2⟩ i hi
      by_cases e : i = n
      · subst e; exact h2
      · exact h1 i (by omega)
    · intro h1
      exact ⟨fun i hi => h1 i (by omega), h1 n (by omega)⟩
theorem firsts_s {y : LayD} (hy : y.Ok) {L : List Int} (hL : ∀ x ∈ L, 0 ≤ x ∧ x < y.body.length) (hl : L.length ≤ 100000) : keep_Layout_Firsts_m y.logs y.body y.outs y.pace y.regs y.places L = some (tb (FirstsP y L)) := by
  have hn := hy.n
  unfold keep_Layout_Firsts_m
  have X := lp_chk (f := keep_Layout_Firsts_L0 y.logs y.body y.outs y.regs y.places L) (n := L.length) (r0 := false) (fun i => ∀ q, q < (farV y.body (ele L (i : Int))).toNat → regF y (ele L (i : Int)) q ∉ fregs y (L.take i) ++ frA y (ele L (i : Int)) q) (fun i m => ∀ v, mget m v false = true ↔ v ∈ fregs y (L.take i)) (fun i g hi hg => by
    have hf := far_bd hy (ele L (i : Int))
    obtain ⟨n, hn'⟩ := Int.eq_ofNat_of_zero_le hf.1
    unfold keep_Layout_Firsts_L0
    simp only
    rw [br_T (by unfold ln; omega), ck_IX (by omega) (by unfold ln; omega), far_s (l := ⟨y.logs, y.body, y.outs⟩) hn.2 hy.bk, bd_ret, show farV (Lp.mk y.logs y.body y.outs).body (ele L (i : Int)) = farV y.body (ele L (i : Int)) from rfl, hn', Int.toNat_natCast]
    rcases first_in hy hi hL (n := n) (by omega) hg with ⟨h1, m', h2, h3⟩ | ⟨h1, h2⟩
    · refine .inl ⟨h1, m', ?_, fun v => ?_⟩
      · rw [h2, bd_ret, Out.on_go, ck_IR (by omega) (by omega)]
      · rw [h3, fregs_take hi, hn', Int.toNat_natCast]
    · exact .inr ⟨h1, by rw [h2, bd_ret, Out.on_ret]⟩) (fun g => by unfold keep_Layout_Firsts_L0; exact br_F (by unfold ln; omega)) [] (fun v => by simp [fregs, mget_nil])
  have hN := nodup_take (y := y) (L := L) L.length (Nat.le_refl _)
  rw [List.take_length] at hN
  rcases X with ⟨h1, m, e, _⟩ | ⟨h1, e⟩
  · rw [e, bd_ret, Out.on_go, tb_t (p := FirstsP y L) (hN.2 h1)]
  · rw [e, bd_ret, Out.on_ret, tb_f fun h : FirstsP y L => h1 (hN.1 h)]
end Go.Rd
end

section
namespace Go.Rd
set_option linter.unusedVariables false
end Go.Rd
end

section
namespace Go.Rd
set_option linter.unusedVariables false
def natL (n : Nat) : List Int := (List.range n).map fun i : Nat => (i : Int)
theorem natL_mem {n : Nat} {x : Int} (h : x ∈ natL n) : 0 ≤ x ∧ x < n := by
  unfold natL at h
  rw [List.mem_map] at h
  obtain ⟨i, hi, rfl⟩ := h
  have := List.mem_range.1 hi
  omega
theorem natL_len (n : Nat) : (natL n).length = n := by unfold natL; simp
def LayD.wp (y : LayD) (v : List Int) : LayD := { y with places := v }
structure PlOk (y : LayD) (v : List Int) : Prop where
  len : v.length = y.body.length
  bd : ∀ i : Nat, i < y.body.length → 0 ≤ ele v (i : Int) ∧ ele v (i : Int) ≤ 128
theorem LayD.Ok.wp {y : LayD} (hy : y.Ok) {v : List Int} (hv : PlOk y v) : (y.wp v).Ok :=
  ⟨hy.n, hy.lt, hy.lr, hv.len, hy.lo, hy.pace, hy.regs, hy.tm, hy.rd, fun i hi => by have := hv.bd i hi; exact ⟨by show -100000 ≤ ele v _; omega, by show ele v _ ≤ 100000; omega⟩, hy.us⟩
end Go.Rd
end

section
namespace Go.Rd
set_option linter.unusedVariables false
theorem rfar_s {l : Lp} (hn : l.body.length ≤ 16) (hu : ∀ i : Nat, i < l.body.length → ∀ r ∈ usesL (ele l.body (i : Int)), 0 ≤ r.bk ∧ r.bk ≤ 3) (a : Int) : roundelayref10_Far_m l a = some (farV l.body a) := by
  have X := lp_det (f := roundelayref10_Far_L0 l a) (ρ := Empty) (fun k => (farN l.body a k, (k : Int))) l.body.length (fun k hk => by
    have h2 := usesL_len (ele l.body (k : Int))
    have Y := lp_det (f := roundelayref10_Far_L2 a (usesL (ele l.body (k : Int)))) (ρ := Empty) (fun j => (farU a ((usesL (ele l.body (k : Int))).take j) (farN l.body a k), (j : Int))) (usesL (ele l.body (k : Int))).length (fun j hj => by
      unfold roundelayref10_Far_L2
      simp only
      rw [br_T (by unfold ln; omega), ck_IX (by omega) (by unfold ln; omega), ck_imp (fun _ => ⟨by omega, by unfold ln; omega⟩), take_next hj, farU_app]
      generalize farU a ((usesL (ele l.body (k : Int))).take j) (farN l.body a k) = f
      show _ = some (Stp.next (if (ele (usesL (ele l.body (k : Int))) (j : Int)).st = a then max f (ele (usesL (ele l.body (k : Int))) (j : Int)).bk else f, _))
      by_cases e : (ele (usesL (ele l.body (k : Int))) (j : Int)).st = a
      · by_cases e2 : (ele (usesL (ele l.body (k : Int))) (j : Int)).bk > f
        · rw [show (((ele (usesL (ele l.body (k : Int))) (j : Int)).st == a) && decide ((ele (usesL (ele l.body (k : Int))) (j : Int)).bk > f)) = true from by simp [e, e2], br_true, ck_IX (by omega) (by unfold ln; omega), ck_IR (by omega) (by omega), if_pos e, show max f (ele (usesL (ele l.body (k : Int))) (j : Int)).bk = (ele (usesL (ele l.body (k : Int))) (j : Int)).bk from by omega]; rfl
        · rw [show (((ele (usesL (ele l.body (k : Int))) (j : Int)).st == a) && decide ((ele (usesL (ele l.body (k : Int))) (j : Int)).bk > f)) = false from by simp [e2], br_false, ck_IR (by omega) (by omega), if_pos e, show max f (ele (usesL (ele l.body (k : Int))) (j : Int)).bk = f from by omega]; rfl
      · rw [show (((ele (usesL (ele l.body (k : Int))) (j : Int)).st == a) && decide ((ele (usesL (ele l.body (k : Int))) (j : Int)).bk > f)) = false from by simp [e], br_false, ck_IR (by omega) (by omega), if_neg e]; rfl) (by unfold roundelayref10_Far_L2; exact br_F (by unfold ln; omega))
    rw [List.take_length] at Y
    unfold roundelayref10_Far_L0
    simp only
    rw [br_T (by unfold ln; omega), ck_IX (by omega) (by unfold ln; omega), ref_Uses_s, bd_ret,
      show lp (roundelayref10_Far_L2 a (usesL (ele l.body (k : Int)))) (farN l.body a k, 0) = _ from Y, bd_ret, Out.on_go, ck_IR (by omega) (by omega)]
    rfl) (by unfold roundelayref10_Far_L0; exact br_F (by unfold ln; omega))
  unfold roundelayref10_Far_m
  rw [show lp (roundelayref10_Far_L0 l a) (0, 0) = _ from X, bd_ret, Out.on_go]
  rfl
def oprAt (k : Krn) (order : List Int) (s : Nat) : Opr := ele k.ops (ele order (s : Int))
def timeK (k : Krn) (o : Opr) : Int := o.slot + k.pace * o.stage
def offK (t : Tgt) (k : Krn) (order : List Int) (s : Nat) : Off := ⟨timeK k (oprAt k order s), timeK k (oprAt k order s) + waitV t (oprAt k order s).op, (oprAt k order s).dest + (oprAt k order s).stage⟩
def layK (l : Lp) (t : Tgt) (k : Krn) (order : List Int) : LayD :=
  ⟨l.logs, l.body, l.outs, k.pace, t.regs, (List.range l.body.length).map fun s => (offK t k order s).time, (List.range l.body.length).map fun s => (offK t k order s).ready, (List.range l.body.length).map fun s => (offK t k order s).place⟩
def SameO (o : Opr) (x : Stm) : Prop := o.op = x.op ∧ o.ar = x.ar ∧ o.sp = x.sp ∧ o.pl = x.pl ∧ o.n = x.n
def OrdP (l : Lp) (k : Krn) (order : List Int) (s : Nat) : Prop := (0 ≤ ele order (s : Int) ∧ ele order (s : Int) < l.body.length) ∧ (∀ i, i < s → ele order (i : Int) ≠ ele order (s : Int)) ∧ SameO (oprAt k order s) (ele l.body (s : Int))
structure LayP (l : Lp) (t : Tgt) (k : Krn) (order : List Int) : Prop where
  loop : LoopOk l
  tgt : tgtOk t = true
  may : KMayP t k l.logs
  n : k.ops.length = l.body.length
  no : order.length = l.body.length
  ord : ∀ s, s < l.body.length → OrdP l k order s
def KFine (l : Lp) (k : Krn) : Prop := ∀ i : Nat, i < k.ops.length → (lpO l.logs (ele k.ops (i : Int))).Fine
theorem LayP.opr {l : Lp} {t : Tgt} {k : Krn} {order : List Int} (hm : KMayP t k l.logs) (hn : k.ops.length = l.body.length) {s : Nat} (h : 0 ≤ ele order (s : Int) ∧ ele order (s : Int) < l.body.length) : OneP t k (oprAt k order s) l.logs := by
  obtain ⟨i, hi⟩ := Int.eq_ofNat_of_zero_le h.1
  unfold oprAt
  rw [hi]
  exact hm.one i (by omega)
theorem opr_bd {t : Tgt} {k : Krn} {o : Opr} {logs : List Int} (hm : KMayP t k logs) (h : OneP t k o logs) : (0 ≤ timeK k o ∧ timeK k o ≤ 1000) ∧ (0 ≤ k.pace * o.stage ∧ k.pace * o.stage ≤ 1000) ∧ (0 ≤ o.dest ∧ o.dest < 128) ∧ (0 ≤ o.stage ∧ o.stage ≤ 1000) := by
  obtain ⟨⟨a1, a2, a3, a4, a5⟩, ⟨b1, b2, _⟩, _⟩ := h
  have ht := hm.tgt
  rw [tgtOk_iff] at ht
  have hp := hm.pace; have hs := hm.stages
  have h0 := Int.mul_nonneg (show 0 ≤ k.pace by omega) a3
  have e := Int.mul_comm o.stage k.pace
  unfold timeK
  omega
theorem Layout_s {l : Lp} (hf : l.Fine) {t : Tgt} {k : Krn} {order : List Int} (hk : KFine l k) (ho : order.length ≤ 9223372036854775807) : roundelayref10_Layout_m l t k order = some (if tb (LayP l t k order) = true then ((List.range l.body.length).map (offK t k order), true) else ([], false)) := by
  unfold roundelayref10_Layout_m
  rw [rMay_s hf, bd_ret, kMay_s hk, bdG_some']
  by_cases h : (LoopOk l ∧ tgtOk t = true) ∧ KMayP t k l.logs ∧ k.ops.length = l.body.length ∧ order.length = l.body.length
  · obtain ⟨h1, h2, h3, h4⟩ := h
    have hn := h1.1.2.2.1
    rw [tb_t h1, tb_t h2, show ((((!true) || (!(if (!(!true)) = true then true else false))) || ((ln k.ops) != (ln l.body))) || ((ln order) != (ln l.body))) = false from by unfold ln; simp [h3, h4], br_false]
    have X := lp_det2 (f := roundelayref10_Layout_L0 l t k order) (ρ := List Off × Bool) (fun s => ((List.range s).map (offK t k order), (s : Int))) l.body.length (fun s => OrdP l k order s) (fun _ => ([], false)) (fun s hs _ => by
      unfold roundelayref10_Layout_L0
      simp only
      have hix : IX (s : Int) (ln order) := ⟨by omega, by unfold ln; omega⟩
      rw [br_T (by unfold ln; omega), ck_yes hix, ck_imp (fun _ => hix)]
      by_cases c1 : 0 ≤ ele order (s : Int) ∧ ele order (s : Int) < l.body.length
      · rw [show (decide (ele order (s : Int) < 0) || decide (ele order (s : Int) ≥ ln l.body)) = false from by unfold ln; simp; omega, br_false]
        rcases lp_det2 (f := roundelayref10_Layout_L2 order s) (ρ := List Off × Bool) (fun i => (i : Int)) s (fun i => ele order (i : Int) ≠ ele order (s : Int)) (fun _ => ([], false)) (fun i hi _ => by
            unfold roundelayref10_Layout_L2
            rw [br_T (by omega), ck_IX (by omega) (by unfold ln; omega), ck_yes hix]
            exact ⟨fun h => by rw [show (ele order (i : Int) == ele order (s : Int)) = false from by simp [h], br_false, ck_IR (by omega) (by omega)]; rfl, fun h => by rw [show (ele order (i : Int) == ele order (s : Int)) = true from by simpa using h, br_true]⟩) (by unfold roundelayref10_Layout_L2; exact br_F (by omega)) with ⟨q1, e⟩ | ⟨i, q1, q2, _, e⟩
        · have ho := LayP.opr h2 h3 c1
          have hob := opr_bd h2 ho
          have hw := waitV_bd t (oprAt k order s).op
          rw [show lp (roundelayref10_Layout_L2 order s) 0 = _ from e, bd_ret, Out.on_go, ck_yes hix, ck_IX (by omega) (by unfold ln; omega), ck_IX (by omega) (by unfold ln; omega)]
          rw [show ele k.ops (ele order (s : Int)) = oprAt k order s from rfl]
          have hb : ((((((oprAt k order s).op != (ele l.body (s : Int)).op) || ((oprAt k order s).ar != (ele l.body (s : Int)).ar)) || ((oprAt k order s).sp != (ele l.body (s : Int)).sp)) || ((oprAt k order s).pl != (ele l.body (s : Int)).pl)) || ((oprAt k order s).n != (ele l.body (s : Int)).n)) = !tb (SameO (oprAt k order s) (ele l.body (s : Int))) := by
            rw [show tb (SameO (oprAt k order s) (ele l.body (s : Int))) = !((((((oprAt k order s).op != (ele l.body (s : Int)).op) || ((oprAt k order s).ar != (ele l.body (s : Int)).ar)) || ((oprAt k order s).sp != (ele l.body (s : Int)).sp)) || ((oprAt k order s).pl != (ele l.body (s : Int)).pl)) || ((oprAt k order s).n != (ele l.body (s : Int)).n)) from (tb_eq (by unfold SameO; simp [and_assoc])).symm, Bool.not_not]
          rw [hb]
          by_cases c2 : SameO (oprAt k order s) (ele l.body (s : Int))
          · rw [tb_t c2, Bool.not_true, br_false]
            unfold timeK at hob
            rw [ck_IR (by omega) (by omega), ck_IR (by omega) (by omega), ref_Wait_s, bd_ret, ck_IR (by omega) (by omega), ck_IR (by omega) (by omega), ck_yes ⟨by show _ ≤ 9223372036854775807; simp; omega, by simp; omega⟩, ck_IR (by omega) (by omega)]
            refine ⟨fun _ => ?_, fun h => absurd ⟨c1, q1, c2⟩ h⟩
            show some (Stp.next ((List.range s).map (offK t k order) ++ [offK t k order s], _)) = _
            rw [rm_succ]; rfl
          · rw [tb_f c2]
            exact ⟨fun h => absurd h.2.2 c2, fun _ => rfl⟩
        · rw [show lp (roundelayref10_Layout_L2 order s) 0 = _ from e, bd_ret, Out.on_ret]
          exact ⟨fun h => absurd (h.2.1 i q1) q2, fun _ => rfl⟩
      · rw [show (decide (ele order (s : Int) < 0) || decide (ele order (s : Int) ≥ ln l.body)) = true from by
          unfold ln
          rw [Bool.or_eq_true, decide_eq_true_eq, decide_eq_true_eq]; omega, br_true]
        exact ⟨fun h => absurd h.1 c1, fun _ => rfl⟩) (by unfold roundelayref10_Layout_L0; exact br_F (by unfold ln; omega))
    rcases X with ⟨q1, e⟩ | ⟨s, q1, q2, _, e⟩
    · rw [show lp (roundelayref10_Layout_L0 l t k order) ([], 0) = _ from e, bd_ret, Out.on_go, tb_t (p := LayP l t k order) ⟨h1.1, h1.2, h2, h3, h4, q1⟩]
      rfl
    · rw [show lp (roundelayref10_Layout_L0 l t k order) ([], 0) = _ from e, bd_ret, Out.on_ret, tb_f fun h : LayP l t k order => q2 (h.ord s q1)]
      rfl
  · rw [tb_f fun hl : LayP l t k order => h ⟨⟨hl.loop, hl.tgt⟩, hl.may, hl.n, hl.no⟩]
    by_cases h1 : LoopOk l ∧ tgtOk t = true
    · by_cases h2 : KMayP t k l.logs
      · rw [tb_t h1, tb_t h2, show ((((!true) || (!(if (!(!true)) = true then true else false))) || ((ln k.ops) != (ln l.body))) || ((ln order) != (ln l.body))) = true from by
          unfold ln
          by_cases h3 : k.ops.length = l.body.length
          · have h4 : ¬ order.length = l.body.length := fun h4 => h ⟨h1, h2, h3, h4⟩
            simp; omega
          · simp; omega, br_true]
        rfl
      · rw [tb_t h1, tb_f h2]; rfl
    · rw [tb_f h1]; rfl
theorem layK_ok {l : Lp} {t : Tgt} {k : Krn} {order : List Int} (h : LayP l t k order) : (layK l t k order).Ok := by
  have ht := h.tgt
  rw [tgtOk_iff] at ht
  refine ⟨⟨h.loop.2.1, h.loop.2.2.1⟩, by unfold layK; simp, by unfold layK; simp, by unfold layK; simp, by have := outs_len h.loop; show l.outs.length ≤ _; omega, h.may.pace, ht.2.2.2, fun i hi => ?_, fun i hi => ?_, fun i hi => ?_, fun i hi r hr => ?_⟩
  all_goals have hi' : i < l.body.length := hi
  · have ho := opr_bd h.may (LayP.opr h.may h.n (h.ord i hi').1)
    rw [show ele (layK l t k order).time (i : Int) = (offK t k order i).time from ele_rm hi']
    exact ho.1
  · have ho := opr_bd h.may (LayP.opr h.may h.n (h.ord i hi').1)
    have hw := waitV_bd t (oprAt k order i).op
    rw [show ele (layK l t k order).ready (i : Int) = (offK t k order i).ready from ele_rm hi']
    show 0 ≤ timeK k (oprAt k order i) + waitV t (oprAt k order i).op ∧ timeK k (oprAt k order i) + waitV t (oprAt k order i).op ≤ 1006
    omega
  · have ho := opr_bd h.may (LayP.opr h.may h.n (h.ord i hi').1)
    rw [show ele (layK l t k order).places (i : Int) = (offK t k order i).place from ele_rm hi']
    show -100000 ≤ (oprAt k order i).dest + (oprAt k order i).stage ∧ (oprAt k order i).dest + (oprAt k order i).stage ≤ 100000
    omega
  · have h1 := uses_ok h.loop hi' hr
    have h2 := h1.st (by omega)
    exact ⟨h2.1, h2.2, h1.1, h1.2.1⟩
end Go.Rd
end

section
namespace Go.Rd
set_option linter.unusedVariables false
def offsK (l : Lp) (t : Tgt) (k : Krn) (order : List Int) : List Off := (List.range l.body.length).map (offK t k order)
section
variable {l : Lp} {t : Tgt} {k : Krn} {order : List Int}
theorem offs_ln : ln (offsK l t k order) = l.body.length := ln_rm
theorem offs_at {i : Nat} (hi : i < l.body.length) : (ele (offsK l t k order) (i : Int)).time = ele (layK l t k order).time (i : Int) ∧ (ele (offsK l t k order) (i : Int)).ready = ele (layK l t k order).ready (i : Int) ∧ (ele (offsK l t k order) (i : Int)).place = ele (layK l t k order).places (i : Int) := by
  unfold offsK layK
  rw [ele_rm hi, ele_rm hi, ele_rm hi, ele_rm hi]
  exact ⟨rfl, rfl, rfl⟩
end
end Go.Rd
end

section
namespace Go.Rd
set_option linter.unusedVariables false
def nameO (o : Opr) (i : Nat) : Int := if i = 1 then o.b else o.a
def NameP (l : Lp) (t : Tgt) (k : Krn) (order : List Int) (s i : Nat) : Prop := nameO (oprAt k order s) i = (ele (layK l t k order).places (ele (usesL (ele l.body (s : Int))) (i : Int)).st - (ele (usesL (ele l.body (s : Int))) (i : Int)).bk - (oprAt k order s).stage) % t.regs
def TEdgeP (y : LayD) (e : Edg) : Prop := ele y.time e.fr + e.wt ≤ ele y.time e.to + e.bk * y.pace
structure TakesP (l : Lp) (t : Tgt) (k : Krn) (order : List Int) : Prop where
  lay : LayP l t k order
  edge : ∀ e, EdgeP l t e → TEdgeP (layK l t k order) e
  name : ∀ s, s < l.body.length → ∀ i, i < (usesL (ele l.body (s : Int))).length → NameP l t k order s i
  apart : ∀ a m : Nat, a < l.body.length → m < l.body.length → ApartP (layK l t k order) a m
  firsts : FirstsP (layK l t k order) (natL l.body.length)
theorem layK_us {l : Lp} {t : Tgt} {k : Krn} {order : List Int} (h : LayP l t k order) : ∀ s : Nat, s < l.body.length → ∀ r ∈ usesL (ele l.body (s : Int)), 0 ≤ r.st ∧ r.st < l.body.length ∧ 0 ≤ r.bk ∧ r.bk ≤ 3 := fun s hs r hr => (layK_ok h).us s hs r hr
theorem natL_take {n i : Nat} (h : i ≤ n) : (natL n).take i = natL i := by
  unfold natL
  rw [← List.map_take, List.take_range, Nat.min_eq_left h]
theorem natL_ele {n i : Nat} (h : i < n) : ele (natL n) (i : Int) = i := ele_rm h
theorem firsts_iff {y : LayD} (n : Nat) : FirstsP y (natL n) ↔ ∀ s, s < n → ∀ q, q < (farV y.body s).toNat → regF y s q ∉ fregs y (natL s) ++ frA y s q := by
  have h := nodup_take (y := y) (L := natL n) n (by rw [natL_len]; exact Nat.le_refl _)
  rw [natL_take (Nat.le_refl _)] at h
  unfold FirstsP
  rw [h]
  constructor
  · intro h1 s hs
    have := h1 s hs
    rw [natL_ele hs, natL_take (by omega)] at this
    exact this
  · intro h1 s hs
    rw [natL_ele hs, natL_take (by omega)]
    exact h1 s hs
section
variable {l : Lp} {t : Tgt} {k : Krn} {order : List Int}
end
end Go.Rd
end

section
namespace Go.Rd
set_option linter.unusedVariables false
end Go.Rd
end

section
namespace Go.Rd
set_option linter.unusedVariables false
noncomputable def roundelayref10_Enter_L2 (l : Lp) (t : Tgt) (before : List (List Int)) (x4 : List Off × Bool) (s14_3 : Int) : ((List Int) × Int) → Option (Stp ((List Int) × Int) (Empty)) := fun (v14_4, q15_4) =>
 bd (roundelayref10_Far_m l s14_3) fun x27 =>
 br (decide (q15_4 ≤ x27)) (
 ck (IX s14_3 (ln x4.1)) <|
 ck (IR ((ele x4.1 s14_3).place - q15_4)) <|
 bd (roundelayref1_Rest_m ((ele x4.1 s14_3).place - q15_4) t.regs) fun x38 =>
 ck (IX s14_3 (ln before)) <|
 ck (IR (q15_4 - 1)) <|
 ck (IX (q15_4 - 1) (ln (ele before s14_3))) <|
 ck (IX x38 (ln v14_4)) <|
 ck (IR (q15_4 + 1)) <|
 some (.next ((upd v14_4 x38 (ele (ele before s14_3) (q15_4 - 1))), (q15_4 + 1)))) (
 some (.brk (v14_4, q15_4)))
noncomputable def roundelayref10_Enter_L0 (l : Lp) (t : Tgt) (before : List (List Int)) (x4 : List Off × Bool) : ((List Int) × Int) → Option (Stp ((List Int) × Int) (Empty)) := fun (v14_3, s14_3) =>
 br (decide (s14_3 < (ln x4.1))) (
 bd (lp (roundelayref10_Enter_L2 l t before x4 s14_3) (v14_3, 1)) fun o22 => o22.on (fun (v14_4, q15_4) =>
 ck (IR (s14_3 + 1)) <|
 some (.next (v14_4, (s14_3 + 1)))) (fun r => r.elim)) (
 some (.brk (v14_3, s14_3)))
noncomputable def roundelayref10_Enter_m (l : Lp) (t : Tgt) (k_ : Krn) (order : List Int) (before : List (List Int)) : Option (List Int) :=
 bd (roundelayref10_Layout_m l t k_ order) fun x4 =>
 ck (0 ≤ t.regs) <|
 ck (AL t.regs.toNat 8) <|
 bd (lp (roundelayref10_Enter_L0 l t before x4) ((List.replicate t.regs.toNat (0 : Int)), 0)) fun o15 => o15.on (fun (v14_3, s14_3) =>
 some v14_3) (fun r => r.elim)

noncomputable def roundelayref10_Leave_L0 (l : Lp) (t : Tgt) (before : List (List Int)) (regs : List Int) (turns : Int) (x4 : List Off × Bool) : ((List Int) × Int) → Option (Stp ((List Int) × Int) (Empty)) := fun (v8_1, i18_1) =>
 br (decide (i18_1 < (ln l.outs))) (
 ck (IX i18_1 (ln l.outs)) <|
 ck (IX (ele l.outs i18_1) (ln before)) <|
 ck (IX 0 (ln (ele before (ele l.outs i18_1)))) <|
 br (decide (turns > 0)) (
 ck (IX i18_1 (ln l.outs)) <|
 ck (IX (ele l.outs i18_1) (ln x4.1)) <|
 ck (IR ((ele x4.1 (ele l.outs i18_1)).place + turns)) <|
 ck (IR (((ele x4.1 (ele l.outs i18_1)).place + turns) - 1)) <|
 bd (roundelayref1_Rest_m (((ele x4.1 (ele l.outs i18_1)).place + turns) - 1) t.regs) fun x45 =>
 ck (IX x45 (ln regs)) <|
 ck (AL (v8_1 ++ [(ele regs x45)]).length 8) <|
 ck (IR (i18_1 + 1)) <|
 some (.next ((v8_1 ++ [(ele regs x45)]), (i18_1 + 1)))) (
 ck (AL (v8_1 ++ [(ele (ele before (ele l.outs i18_1)) 0)]).length 8) <|
 ck (IR (i18_1 + 1)) <|
 some (.next ((v8_1 ++ [(ele (ele before (ele l.outs i18_1)) 0)]), (i18_1 + 1))))) (
 some (.brk (v8_1, i18_1)))
noncomputable def roundelayref10_Leave_m (l : Lp) (t : Tgt) (k_ : Krn) (order : List Int) (before : List (List Int)) (regs : List Int) (turns : Int) : Option (List Int) :=
 bd (roundelayref10_Layout_m l t k_ order) fun x4 =>
 bd (lp (roundelayref10_Leave_L0 l t before regs turns x4) ([], 0)) fun o9 => o9.on (fun (v8_1, i18_1) =>
 some v8_1) (fun r => r.elim)
end Go.Rd
end

section
namespace Go.Rd
set_option linter.unusedVariables false
def BefP (l : Lp) (b : List (List Int)) : Prop := b.length = l.body.length ∧ ∀ i : Nat, i < b.length → (ele b (i : Int)).length = 3
section
variable {l : Lp} {t : Tgt} {k : Krn} {order : List Int} {b : List (List Int)}
def entQ (y : LayD) (b : List (List Int)) (s : Nat) (R : List Int) : Nat → List Int
  | 0 => R
  | q + 1 => upd (entQ y b s R q) (regF y s q) (ele (ele b (s : Int)) (q : Int))
def entS (y : LayD) (b : List (List Int)) (n : Nat) : Nat → List Int
  | 0 => List.replicate n 0
  | s + 1 => entQ y b s (entS y b n s) (farV y.body s).toNat
theorem entQ_len {y : LayD} {s : Nat} {R : List Int} : ∀ q, (entQ y b s R q).length = R.length
  | 0 => rfl
  | q + 1 => by show (upd _ _ _).length = _; rw [upd_len, entQ_len q]
theorem entS_len {y : LayD} {n : Nat} : ∀ s, (entS y b n s).length = n
  | 0 => by show (List.replicate n 0).length = n; simp
  | s + 1 => by show (entQ _ _ _ _ _).length = n; rw [entQ_len, entS_len s]
theorem reg_bd {y : LayD} (hy : y.Ok) (s : Int) (q : Nat) : 0 ≤ regF y s q ∧ regF y s q < y.regs := by
  have hR := hy.regs
  exact ⟨Int.emod_nonneg _ (by omega), Int.emod_lt_of_pos _ (by omega)⟩
theorem enter_r (h : LayP l t k order) (hb : BefP l b) : lp (roundelayref10_Enter_L0 l t b (offsK l t k order, true)) (List.replicate t.regs.toNat 0, 0) = some (.go (entS (layK l t k order) b t.regs.toNat l.body.length, (l.body.length : Int))) := by
  have hy := layK_ok h
  have hn := h.loop.2.2.1
  have hR := hy.regs
  have hrr : (layK l t k order).regs = t.regs := rfl
  refine lp_det (f := roundelayref10_Enter_L0 l t b (offsK l t k order, true)) (fun s => (entS (layK l t k order) b t.regs.toNat s, (s : Int))) l.body.length (fun s hs => ?_) (by unfold roundelayref10_Enter_L0; exact br_F (by rw [offs_ln]; omega))
  have hf := far_bd hy (s : Int)
  have hfe : farV (layK l t k order).body (s : Int) = farV l.body s := rfl
  have hp := hy.pl s hs
  have hbs := hb.2 s (by have := hb.1; omega)
  have hel := entS_len (b := b) (y := layK l t k order) (n := t.regs.toNat) s
  have hfar : roundelayref10_Far_m l (s : Int) = some (farV l.body s) := rfar_s hn hy.bk s
  obtain ⟨s1, s2, s3⟩ := offs_at (t := t) (k := k) (order := order) hs
  have Y := lp_det (f := roundelayref10_Enter_L2 l t b (offsK l t k order, true) s) (ρ := Empty) (fun q => (entQ (layK l t k order) b s (entS (layK l t k order) b t.regs.toNat s) q, (q : Int) + 1)) (farV l.body s).toNat (fun q hq => by
    have hr := reg_bd hy (s : Int) q
    have hl2 := entQ_len (b := b) (y := layK l t k order) (s := s) (R := entS (layK l t k order) b t.regs.toNat s) q
    have hbl2 := hb.1
    have hreg : (ele (layK l t k order).places (s : Int) - ((q : Int) + 1)) % t.regs = regF (layK l t k order) s q := by
      unfold regF
      rw [show ele (layK l t k order).places (s : Int) - (q : Int) - 1 = ele (layK l t k order).places (s : Int) - ((q : Int) + 1) from by omega]
      rfl
    unfold roundelayref10_Enter_L2
    simp only
    rw [hfar, bd_ret, br_T (by omega), ck_IX (by omega) (by rw [offs_ln]; omega), s3, ck_IR (by omega) (by omega), Rest_s _ _ (by omega) (by omega), bd_ret, hreg, ck_IX (by omega) (by unfold ln; omega), ck_IR (by omega) (by omega), show (q : Int) + 1 - 1 = q from by omega, ck_IX (by omega) (by unfold ln; omega), ck_IX hr.1 (by unfold ln; omega), ck_IR (by omega) (by omega)]
    rfl) (by
    unfold roundelayref10_Enter_L2
    simp only
    rw [hfar, bd_ret]
    exact br_F (by omega))
  unfold roundelayref10_Enter_L0
  simp only
  rw [br_T (by rw [offs_ln]; omega), show lp (roundelayref10_Enter_L2 l t b (offsK l t k order, true) s) (entS (layK l t k order) b t.regs.toNat s, 1) = _ from Y, bd_ret, Out.on_go, ck_IR (by omega) (by omega)]
  rfl
def leaveV (l : Lp) (t : Tgt) (y : LayD) (b : List (List Int)) (regs : List Int) (turns : Int) (i : Nat) : Int :=
  if turns = 0 then ele (ele b (ele l.outs (i : Int))) 0 else ele regs ((ele y.places (ele l.outs (i : Int)) + turns - 1) % t.regs)
theorem leave_r (h : LayP l t k order) (hb : BefP l b) {regs : List Int} (hr : (regs.length : Int) = t.regs) {turns : Int} (ht : 0 ≤ turns ∧ turns ≤ 200) : lp (roundelayref10_Leave_L0 l t b regs turns (offsK l t k order, true)) ([], 0) = some (.go ((List.range l.outs.length).map (leaveV l t (layK l t k order) b regs turns), (l.outs.length : Int))) := by
  have hy := layK_ok h
  have hn := h.loop.2.2.1
  have hR := hy.regs
  have hrr : (layK l t k order).regs = t.regs := rfl
  have hol := outs_len h.loop
  refine lp_det (f := roundelayref10_Leave_L0 l t b regs turns (offsK l t k order, true)) (fun i => ((List.range i).map (leaveV l t (layK l t k order) b regs turns), (i : Int))) l.outs.length (fun i hi => ?_) (by unfold roundelayref10_Leave_L0; exact br_F (by unfold ln; omega))
  have ho := h.loop.out i hi
  rw [show l.outs.getD i 0 = ele l.outs (i : Int) from rfl] at ho
  obtain ⟨a, ha⟩ := Int.eq_ofNat_of_zero_le ho.1
  have ha' : a < l.body.length := by omega
  have hp := hy.pl a ha'
  have hbs := hb.2 a (by have := hb.1; omega)
  have hbl2 := hb.1
  obtain ⟨s1, s2, s3⟩ := offs_at (t := t) (k := k) (order := order) ha'
  have h0 := Int.emod_nonneg (ele (layK l t k order).places (a : Int) + turns - 1) (show t.regs ≠ 0 by omega)
  have h1 := Int.emod_lt_of_pos (ele (layK l t k order).places (a : Int) + turns - 1) (show 0 < t.regs by omega)
  have hlv : leaveV l t (layK l t k order) b regs turns i = if turns = 0 then ele (ele b (a : Int)) 0 else ele regs ((ele (layK l t k order).places (a : Int) + turns - 1) % t.regs) := by unfold leaveV; rw [ha]
  unfold roundelayref10_Leave_L0
  simp only
  rw [br_T (by unfold ln; omega), ck_IX (by omega) (by unfold ln; omega), ha, ck_IX (by omega) (by unfold ln; omega), ck_IX (by omega) (by unfold ln; omega)]
  by_cases c : turns = 0
  · rw [br_F (show ¬ turns > 0 by omega), ck_yes (AL8 (by simp; omega)), ck_IR (by omega) (by omega)]
    rw [if_pos c] at hlv
    rw [← hlv, rm_succ]; rfl
  · rw [br_T (show turns > 0 by omega), ck_IX (by omega) (by unfold ln; omega), ck_IX (by omega) (by rw [offs_ln]; omega), s3, ck_IR (by omega) (by omega), ck_IR (by omega) (by omega), Rest_s _ _ (by omega) (by omega), bd_ret, ck_IX h0 (by unfold ln; omega), ck_yes (AL8 (by simp; omega)), ck_IR (by omega) (by omega)]
    rw [if_neg c] at hlv
    rw [← hlv, rm_succ]; rfl
theorem rEnter_s (hf : l.Fine) (hk : KFine l k) (ho : order.length ≤ 9223372036854775807) (h : LayP l t k order) (hb : BefP l b) : roundelayref10_Enter_m l t k order b = some (entS (layK l t k order) b t.regs.toNat l.body.length) := by
  have hR := (layK_ok h).regs
  have hrr : (layK l t k order).regs = t.regs := rfl
  unfold roundelayref10_Enter_m
  rw [Layout_s hf hk ho, bd_ret, tb_t h, if_pos rfl, ck_yes (by omega), ck_yes (AL8 (by omega)), show ((List.range l.body.length).map (offK t k order), true) = (offsK l t k order, true) from rfl, enter_r h hb, bd_ret, Out.on_go]
theorem rLeave_s (hf : l.Fine) (hk : KFine l k) (ho : order.length ≤ 9223372036854775807) (h : LayP l t k order) (hb : BefP l b) {regs : List Int} (hr : (regs.length : Int) = t.regs) {turns : Int} (ht : 0 ≤ turns ∧ turns ≤ 200) : roundelayref10_Leave_m l t k order b regs turns = some ((List.range l.outs.length).map (leaveV l t (layK l t k order) b regs turns)) := by
  unfold roundelayref10_Leave_m
  rw [Layout_s hf hk ho, bd_ret, tb_t h, if_pos rfl, show ((List.range l.body.length).map (offK t k order), true) = (offsK l t k order, true) from rfl, leave_r h hb hr ht, bd_ret, Out.on_go]
end
end Go.Rd
end

section
namespace Go.Rd
set_option linter.unusedVariables false
theorem snoc_old {α : Type} [Inhabited α] {v : List α} {x : α} {j : Nat} (h : j < v.length) : ele (v ++ [x]) (j : Int) = ele v (j : Int) := by
  rw [ele_nat, ele_nat, List.getD_eq_getElem?_getD, List.getD_eq_getElem?_getD, List.getElem?_append_left h]
theorem snoc_new {α : Type} [Inhabited α] {v : List α} {x : α} : ele (v ++ [x]) (v.length : Int) = x := by
  rw [ele_nat, List.getD_eq_getElem?_getD, List.getElem?_append_right (Nat.le_refl _), Nat.sub_self]; rfl
def stepX (logs : List Int) (past : List (List Int)) (t : Int) (p : List Int × List (List Int)) (s : Stm) : Int :=
  if s.op = 1 then s.n else if s.op = 2 then t else if s.op = 3 then ele (ele p.2 s.ar) (idx s.sp s.pl t (ele logs s.ar)) else if s.op = 4 then refV past p.1 s.a else opV (s.op - 10) (refV past p.1 s.a) (refV past p.1 s.b)
theorem stepV_eq (logs : List Int) (past : List (List Int)) (t : Int) (p : List Int × List (List Int)) (s : Stm) :
    stepV logs past t p s = (p.1 ++ [stepX logs past t p s], if s.op = 4 then updG p.2 s.ar (idx s.sp s.pl t (ele logs s.ar)) (stepX logs past t p s) else p.2) := by
  unfold stepV stepX
  by_cases h1 : s.op = 1
  · rw [if_pos h1, if_pos h1, if_neg (by omega)]
  rw [if_neg h1, if_neg h1]
  by_cases h2 : s.op = 2
  · rw [if_pos h2, if_pos h2, if_neg (by omega)]
  rw [if_neg h2, if_neg h2]
  by_cases h3 : s.op = 3
  · rw [if_pos h3, if_pos h3, if_neg (by omega)]
  rw [if_neg h3, if_neg h3]
  by_cases h4 : s.op = 4
  · rw [if_pos h4, if_pos h4, if_pos h4]
  · rw [if_neg h4, if_neg h4, if_neg h4]
theorem part_len {l : Lp} {past mem : List (List Int)} {t : Int} : ∀ i, i ≤ l.body.length → (partV l past mem t i).1.length = i
  | 0, _ => rfl
  | i + 1, h => by rw [partV_next (by omega), stepV_eq, List.length_append, part_len i (by omega)]; rfl
theorem part_pre {l : Lp} {past mem : List (List Int)} {t : Int} {i j : Nat} (hj : j < i) : ∀ d, i + d ≤ l.body.length → ele (partV l past mem t (i + d)).1 (j : Int) = ele (partV l past mem t i).1 (j : Int)
  | 0, _ => rfl
  | d + 1, h => by
    rw [← Nat.add_assoc, partV_next (by omega), stepV_eq]
    show ele (_ ++ [_]) _ = _
    rw [snoc_old (by rw [part_len _ (by omega)]; omega), part_pre hj d (by omega)]
def valS (l : Lp) (s : Sta) (σ m : Nat) : Int := ele (rowV l s σ) (m : Int)
def valZ (l : Lp) (s : Sta) (z a : Int) : Int := if 0 ≤ z then ele (rowV l s z.toNat) a else ele (ele s.bef a) (-z - 1)
def prt (l : Lp) (s : Sta) (σ m : Nat) : List Int × List (List Int) := partV l (runV l s σ).1 (runV l s σ).2 (σ : Int) m
def memS (l : Lp) (s : Sta) (σ m : Nat) : List (List Int) := (prt l s σ m).2
section
variable {l : Lp} {s : Sta}
theorem valS_part {σ i j : Nat} (hj : j < i) (hi : i ≤ l.body.length) : ele (prt l s σ i).1 (j : Int) = valS l s σ j := by
  unfold valS rowV
  rw [turnV_part]
  have := part_pre (l := l) (past := (runV l s σ).1) (mem := (runV l s σ).2) (t := (σ : Int)) hj (l.body.length - i) (by omega)
  rw [show i + (l.body.length - i) = l.body.length from by omega] at this
  exact this.symm
theorem refV_val (h : StaOk l s) {σ j : Nat} (hj : j ≤ l.body.length) {x : Rf} (hx : RefOk l.body.length j x) : refV (runV l s σ).1 (prt l s σ j).1 x = valZ l s (σ - x.bk) x.st := by
  obtain ⟨a1, a2, a3, a4, a5⟩ := hx
  have hst : ((x.st.toNat : Nat) : Int) = x.st := by omega
  unfold refV valZ
  by_cases hb : x.bk = 0
  · have h4 := a4 hb
    rw [if_pos hb, if_pos (by omega), show ((σ : Int) - x.bk).toNat = σ from by omega, ← hst]
    exact valS_part (by omega) hj
  · have h5 := a5 hb
    have hh := hist_at l s σ (x.bk - 1).toNat (by omega)
    rw [if_neg hb, show ele (runV l s σ).1 (x.bk - 1) = (runV l s σ).1.getD (x.bk - 1).toNat [] from rfl, hh]
    by_cases hz : 0 ≤ (σ : Int) - x.bk
    · rw [if_pos hz, if_pos (by omega), show σ - 1 - (x.bk - 1).toNat = ((σ : Int) - x.bk).toNat from by omega]
    · have hl := h.len
      rw [if_neg hz, if_neg (by omega)]
      conv => lhs; rw [← hst]
      rw [col_at (by omega), hst]
      unfold ele
      congr 1
      omega
theorem stepX_val (h : StaOk l s) {σ j : Nat} (hj : j < l.body.length) : valS l s σ j = stepX l.logs (runV l s σ).1 σ (prt l s σ j) (ele l.body (j : Int)) := by
  rw [← valS_part (i := j + 1) (by omega) (by omega)]
  unfold prt
  rw [partV_next hj, stepV_eq]
  have e := part_len (l := l) (past := (runV l s σ).1) (mem := (runV l s σ).2) (t := (σ : Int)) j (by omega)
  have key : ∀ (v : List Int) (x : Int), v.length = j → ele (v ++ [x]) (j : Int) = x := fun v x hv => by subst hv; exact snoc_new
  exact key _ _ e
theorem mem_next (h : StaOk l s) {σ j : Nat} (hj : j < l.body.length) : memS l s σ (j + 1) = if (ele l.body (j : Int)).op = 4 then updG (memS l s σ j) (ele l.body (j : Int)).ar (idx (ele l.body (j : Int)).sp (ele l.body (j : Int)).pl σ (ele l.logs (ele l.body (j : Int)).ar)) (valS l s σ j) else memS l s σ j := by
  rw [stepX_val h hj]
  unfold memS prt
  rw [partV_next hj, stepV_eq]
theorem mem_turn {σ : Nat} : memS l s (σ + 1) 0 = memS l s σ l.body.length := by
  show (turnV l (runV l s σ).1 (runV l s σ).2 σ).2 = _
  rw [turnV_part]; rfl
theorem val_const (h : StaOk l s) {σ j : Nat} (hj : j < l.body.length) (ho : (ele l.body (j : Int)).op = 1) : valS l s σ j = (ele l.body (j : Int)).n := by
  rw [stepX_val h hj, stepX, if_pos ho]
theorem val_turn (h : StaOk l s) {σ j : Nat} (hj : j < l.body.length) (ho : (ele l.body (j : Int)).op = 2) : valS l s σ j = σ := by
  rw [stepX_val h hj, stepX, if_neg (by omega), if_pos ho]
theorem val_load (h : StaOk l s) {σ j : Nat} (hj : j < l.body.length) (ho : (ele l.body (j : Int)).op = 3) : valS l s σ j = ele (ele (memS l s σ j) (ele l.body (j : Int)).ar) (idx (ele l.body (j : Int)).sp (ele l.body (j : Int)).pl σ (ele l.logs (ele l.body (j : Int)).ar)) := by
  rw [stepX_val h hj, stepX, if_neg (by omega), if_neg (by omega), if_pos ho]; rfl
theorem val_store (h : StaOk l s) {σ j : Nat} (hj : j < l.body.length) (ho : (ele l.body (j : Int)).op = 4) : valS l s σ j = valZ l s (σ - (ele l.body (j : Int)).a.bk) (ele l.body (j : Int)).a.st := by
  rw [stepX_val h hj, stepX, if_neg (by omega), if_neg (by omega), if_neg (by omega), if_pos ho, refV_val h (by omega) (show RefOk l.body.length j (ele l.body (j : Int)).a from (h.loop.stm j hj).1 (.inl ho))]
theorem val_op (h : StaOk l s) {σ j : Nat} (hj : j < l.body.length) (ho : (ele l.body (j : Int)).op > 10) : valS l s σ j = opV ((ele l.body (j : Int)).op - 10) (valZ l s (σ - (ele l.body (j : Int)).a.bk) (ele l.body (j : Int)).a.st) (valZ l s (σ - (ele l.body (j : Int)).b.bk) (ele l.body (j : Int)).b.st) := by
  rw [stepX_val h hj, stepX, if_neg (by omega), if_neg (by omega), if_neg (by omega), if_neg (by omega), refV_val h (by omega) (show RefOk l.body.length j (ele l.body (j : Int)).a from (h.loop.stm j hj).1 (.inr ho)), refV_val h (by omega) (show RefOk l.body.length j (ele l.body (j : Int)).b from (h.loop.stm j hj).2.1 ho)]
def hitsS (l : Lp) (m σ a x : Nat) : Prop := (ele l.body (m : Int)).op = 4 ∧ (ele l.body (m : Int)).ar = a ∧ idx (ele l.body (m : Int)).sp (ele l.body (m : Int)).pl σ (ele l.logs (ele l.body (m : Int)).ar) = x
theorem stm_word (hl : LoopOk l) {j : Nat} (hj : j < l.body.length) (ho : wordS (ele l.body (j : Int))) : WordOk l.logs.length (ele l.body (j : Int)) := by
  have q3 := (hl.stm j hj).2.2
  rw [show l.body.getD j Stm.zero = ele l.body (j : Int) from rfl] at q3
  unfold wordS at ho
  rcases q3 with h | h | h | h | h <;> first | exact h.2.2.1 | omega
theorem prt_ok (hf : l.Fine) (h : StaOk l s) {σ j : Nat} (hs : σ ≤ 200) (hj : j ≤ l.body.length) : MemOk l (memS l s σ j) := by
  obtain ⟨r1, r2, r3⟩ := run_ok hf h σ (by omega)
  exact (partV_ok hf (t := (σ : Int)) (by unfold InR; omega) (fun r hr => (r1 r hr).rng) r2 j hj).2.2
theorem seq_words (hf : l.Fine) (h : StaOk l s) : ∀ σ : Nat, σ ≤ 200 → ∀ j : Nat, j ≤ l.body.length → Words (hitsS l) (valS l s) (fun m σ' => m < l.body.length ∧ lexL m σ' j σ) s.mem (memS l s σ j) := fun σ => by
  have inner : ∀ σ : Nat, σ ≤ 200 → Words (hitsS l) (valS l s) (fun m σ' => m < l.body.length ∧ lexL m σ' 0 σ) s.mem (memS l s σ 0) → ∀ j : Nat, j ≤ l.body.length → Words (hitsS l) (valS l s) (fun m σ' => m < l.body.length ∧ lexL m σ' j σ) s.mem (memS l s σ j) := fun σ hσ h0 j => by
    induction j with
    | zero => exact fun _ => h0
    | succ j ih =>
      intro hj
      have ih := ih (by omega)
      have hD : ∀ m σ', ((m < l.body.length ∧ lexL m σ' j σ) ∨ (m = j ∧ σ' = σ)) ↔ (m < l.body.length ∧ lexL m σ' (j + 1) σ) := fun m σ' => by unfold lexL; omega
      rw [mem_next h (by omega)]
      by_cases ho : (ele l.body (j : Int)).op = 4
      · have hm := prt_ok hf h hσ (show j ≤ l.body.length by omega)
        have hw := stm_word h.loop (show j < l.body.length by omega) (.inr ho)
        obtain ⟨w1, w2, w3⟩ := word_ix h.loop hm hw (σ : Int)
        obtain ⟨a, ha⟩ := Int.eq_ofNat_of_zero_le w1.1
        obtain ⟨x, hx⟩ := Int.eq_ofNat_of_zero_le w3.1
        rw [if_pos ho]
        refine Words.congr (Words.put ih (m0 := j) (σ0 := σ) (a0 := a) (x0 := x) (fun a' x' => ?_) (fun m σ' hd hh => ?_) ?_ (fun a' x' hn => ?_)) fun m σ' _ _ _ => hD m σ'
        · unfold hitsS
          rw [ha] at hx ⊢
          rw [hx]
          constructor
          · rintro ⟨_, e1, e2⟩; omega
          · rintro ⟨rfl, rfl⟩; exact ⟨ho, rfl, rfl⟩
        · have := hd.2; unfold lexL at this ⊢; omega
        · unfold IX ln at w1 w3
          rw [hx] at w3
          rw [hx, ha]
          rw [ha] at w1 w3
          exact wd_put (by omega) (by omega)
        · unfold IX ln at w1
          rw [hx, ha]
          rw [ha] at w1
          exact wd_old (by omega) hn
      · rw [if_neg ho]
        exact Words.congr (Words.skip ih (m0 := j) (σ0 := σ) fun a x hh => ho hh.1) fun m σ' _ _ _ => hD m σ'
  induction σ with
  | zero => exact fun hσ => inner 0 hσ fun a x => .inr ⟨fun m σ' d => by have := d.2; unfold lexL at this; omega, rfl⟩
  | succ σ ih =>
    refine fun hσ => inner (σ + 1) hσ ?_
    rw [mem_turn]
    exact Words.congr (ih (by omega) l.body.length (Nat.le_refl _)) fun m σ' _ _ _ => by unfold lexL; omega
theorem lin_mod {s p x z q : Int} : (s * (x - z * q) + p) % z = (s * x + p) % z := by
  rw [show s * (x - z * q) + p = (s * x + p) + z * (-(s * q)) from by rw [Int.mul_sub, Int.mul_left_comm s z q, Int.mul_neg]; omega, Int.add_mul_emod_self_left]
theorem meet_of {a b : Stm} {size σ σ' u : Int} (hs : 0 < size) (h : (a.sp * σ + a.pl) % size = (b.sp * σ' + b.pl) % size) : MeetP a b (σ' - σ - size * u) size := by
  have h0 := Int.emod_nonneg σ (show size ≠ 0 by omega)
  have h1 := Int.emod_lt_of_pos σ hs
  have h2 := Int.emod_add_mul_ediv σ size
  refine ⟨(σ % size).toNat, by omega, ?_⟩
  rw [show (((σ % size).toNat : Nat) : Int) = σ - size * (σ / size) from by omega, lin_mod,
    show σ - size * (σ / size) + (σ' - σ - size * u) = σ' - size * (σ / size + u) from by rw [Int.mul_add]; omega, lin_mod]
  exact h
theorem least_in {P : Int → Prop} {lo : Int} : ∀ d : Nat, P (lo + d) → ∃ e : Nat, e ≤ d ∧ P (lo + e) ∧ ∀ k, lo ≤ k → k < lo + e → ¬ P k := by
  intro d
  induction d using Nat.strongRecOn with
  | _ d ih =>
    intro h
    by_cases c : ∃ e : Nat, e < d ∧ P (lo + e)
    · obtain ⟨e, he, hp⟩ := c
      obtain ⟨e', h1, h2, h3⟩ := ih e he hp
      exact ⟨e', by omega, h2, h3⟩
    · refine ⟨d, Nat.le_refl _, h, fun k h1 h2 hp => c ⟨(k - lo).toNat, by omega, ?_⟩⟩
      rw [show lo + (((k - lo).toNat : Nat) : Int) = k from by omega]
      exact hp
end
section
variable {l : Lp} {t : Tgt} {k : Krn} {order : List Int}
def pipeK (l : Lp) (t : Tgt) (k : Krn) (order : List Int) (s : Sta) (N : Nat) : Pipe :=
  ⟨l.body.length, N, k.pace, t.regs, fun m => ele (layK l t k order).time (m : Int), fun m => ele (layK l t k order).ready (m : Int), fun m => ele (layK l t k order).places (m : Int), valS l s⟩
theorem layK_at {m : Nat} (hm : m < l.body.length) : ele (layK l t k order).time (m : Int) = timeK k (oprAt k order m) ∧ ele (layK l t k order).ready (m : Int) = timeK k (oprAt k order m) + waitV t (oprAt k order m).op ∧ ele (layK l t k order).places (m : Int) = (oprAt k order m).dest + (oprAt k order m).stage :=
  ⟨ele_rm hm, ele_rm hm, ele_rm hm⟩
theorem wait_ge {t : Tgt} (ht : tgtOk t = true) (op : Int) : 1 ≤ waitV t op ∧ waitV t op ≤ 6 := by
  unfold waitV
  rw [if_pos ht]
  rw [tgtOk_iff] at ht
  exact sel3_bd (by omega) (by omega) (by omega)
theorem pipe_ok (h : LayP l t k order) {s : Sta} {N : Nat} : (pipeK l t k order s N).Ok := by
  have hy := layK_ok h
  refine ⟨hy.regs.1, hy.pace.1, fun m hm => ?_⟩
  show ele (layK l t k order).time (m : Int) < ele (layK l t k order).ready (m : Int)
  have hw := wait_ge h.tgt (oprAt k order m).op
  obtain ⟨a1, a2, _⟩ := layK_at (t := t) (k := k) (order := order) (show m < l.body.length from hm)
  omega
theorem mem_order (h : TakesP l t k order) {s : Sta} {N m σ m' σ' : Nat} (hm : m < l.body.length) (hm' : m' < l.body.length) (hσ : σ' ≤ 200) (hlt : lexL m σ m' σ') (hc : memC l m m')
    (hx : idx (ele l.body (m : Int)).sp (ele l.body (m : Int)).pl σ (ele l.logs (ele l.body (m : Int)).ar) = idx (ele l.body (m' : Int)).sp (ele l.body (m' : Int)).pl σ' (ele l.logs (ele l.body (m' : Int)).ar)) :
    (pipeK l t k order s N).cyc m σ + (if (ele l.body (m : Int)).op = 4 then 1 else 0) ≤ (pipeK l t k order s N).cyc m' σ' := by
  have hl := h.lay.loop
  obtain ⟨c1, c2, c3, c4⟩ := hc
  obtain ⟨n1, i1, g1, g2⟩ := word_near hl hm c1
  obtain ⟨n2, i2, _⟩ := word_near hl hm' c2
  obtain ⟨p1, p2, p3⟩ := pow2 (show (ele l.logs (ele l.body (m : Int)).ar).toNat ≤ 5 from by omega)
  have hle : σ ≤ σ' := by unfold lexL at hlt; omega
  rw [← c3] at hx
  unfold NearS at n1 n2
  have o1 : OkIdx (ele l.body (m : Int)).sp (ele l.body (m : Int)).pl σ (ele l.logs (ele l.body (m : Int)).ar) := ⟨g1, g2, n1.1, n1.2.1, n1.2.2.1, n1.2.2.2, by omega, by omega⟩
  have o2 : OkIdx (ele l.body (m' : Int)).sp (ele l.body (m' : Int)).pl σ' (ele l.logs (ele l.body (m : Int)).ar) := ⟨g1, g2, n2.1, n2.2.1, n2.2.2.1, n2.2.2.2, by omega, by omega⟩
  unfold idx at hx
  rw [if_pos o1, if_pos o2] at hx
  have hS : sizeV l (ele l.body (m : Int)) = 2 ^ (ele l.logs (ele l.body (m : Int)).ar).toNat := rfl
  rw [← hS] at hx p1 p2
  generalize hz : sizeV l (ele l.body (m : Int)) = z at hx p1 p2
  -- how far back, within one round
  have key : ∃ u : Int, leastV m m' ≤ (σ' : Int) - σ - z * u ∧ (σ' : Int) - σ - z * u ≤ z ∧ 0 ≤ z * u := by
    unfold leastV
    by_cases hd : σ = σ'
    · refine ⟨0, ?_, ?_, ?_⟩
      · rw [if_neg (by unfold lexL at hlt; omega)]; omega
      · omega
      · omega
    · have q0 := Int.emod_nonneg ((σ' : Int) - σ - 1) (show z ≠ 0 by omega)
      have q1 := Int.emod_lt_of_pos ((σ' : Int) - σ - 1) (show 0 < z by omega)
      have q2 := Int.emod_add_mul_ediv ((σ' : Int) - σ - 1) z
      have q3 := Int.mul_nonneg (show 0 ≤ z by omega) (Int.ediv_nonneg (show 0 ≤ (σ' : Int) - σ - 1 by omega) (show 0 ≤ z by omega))
      refine ⟨((σ' : Int) - σ - 1) / z, ?_, by omega, q3⟩
      split <;> omega
  obtain ⟨u, k1, k2, k3⟩ := key
  have hmeet := meet_of (u := u) (show 0 < z by omega) hx
  obtain ⟨e, he, hp, hfirst⟩ := least_in (P := fun b => MeetP (ele l.body (m : Int)) (ele l.body (m' : Int)) b z) (lo := leastV m m') ((σ' : Int) - σ - z * u - leastV m m').toNat (by
    rw [show leastV m m' + ((((σ' : Int) - σ - z * u - leastV m m').toNat : Nat) : Int) = (σ' : Int) - σ - z * u from by omega]
    exact hmeet)
  have hedge := h.edge ⟨m, m', leastV m m' + e, if (ele l.body (m : Int)).op = 4 then 1 else 0⟩ ⟨m', hm', .inr ⟨m, hm, ⟨⟨c1, c2, c3, c4⟩, rfl, rfl, rfl, by show leastV m m' ≤ leastV m m' + e; omega, by rw [hz]; show leastV m m' + e ≤ z; omega, by rw [hz]; exact hp, fun b b1 b2 => by rw [hz]; exact hfirst b b1 b2⟩⟩⟩
  have hpc := (layK_ok h.lay).pace
  have hpe : (layK l t k order).pace = k.pace := rfl
  unfold TEdgeP at hedge
  rw [hpe] at hpc hedge
  have hmul := Int.mul_le_mul_of_nonneg_right (show leastV m m' + e ≤ (σ' : Int) - σ by omega) (show 0 ≤ k.pace by omega)
  rw [Int.sub_mul] at hmul
  show ele (layK l t k order).time (m : Int) + σ * k.pace + _ ≤ ele (layK l t k order).time (m' : Int) + σ' * k.pace
  have hedge' : ele (layK l t k order).time (m : Int) + (if (ele l.body (m : Int)).op = 4 then 1 else 0) ≤ ele (layK l t k order).time (m' : Int) + (leastV m m' + e) * k.pace := hedge
  omega
def InitK (l : Lp) (t : Tgt) (k : Krn) (order : List Int) (b : List (List Int)) (r0 : List Int) : Prop := ∀ a : Nat, a < l.body.length → ∀ q : Nat, q < (farV l.body (a : Int)).toNat → ele r0 (regF (layK l t k order) (a : Int) q) = ele (ele b (a : Int)) (q : Int)
theorem same_op (h : LayP l t k order) {m : Nat} (hm : m < l.body.length) : (oprAt k order m).op = (ele l.body (m : Int)).op ∧ (oprAt k order m).ar = (ele l.body (m : Int)).ar ∧ (oprAt k order m).sp = (ele l.body (m : Int)).sp ∧ (oprAt k order m).pl = (ele l.body (m : Int)).pl ∧ (oprAt k order m).n = (ele l.body (m : Int)).n := (h.ord m hm).2.2
theorem read_val (h : TakesP l t k order) {s : Sta} {N m σ : Nat} {r0 r : List Int} (h0 : InitK l t k order s.bef r0) (hr : (pipeK l t k order s N).Regs r0 r ((pipeK l t k order s N).cyc m σ)) (hm : m < l.body.length) (hσ : σ < N)
    {x : Rf} (hx : x ∈ usesL (ele l.body (m : Int))) : ele r ((ele (layK l t k order).places x.st + (σ - x.bk)) % t.regs) = valZ l s (σ - x.bk) x.st := by
  have hy := layK_ok h.lay
  obtain ⟨b1, b2, b3, b4⟩ := layK_us h.lay m hm x hx
  obtain ⟨a, ha⟩ := Int.eq_ofNat_of_zero_le b1
  have hal : a < l.body.length := by omega
  have hedge := h.edge ⟨x.st, m, x.bk, waitV t (ele l.body x.st).op⟩ ⟨m, hm, .inl ⟨x, hx, rfl⟩⟩
  have hpc : 1 ≤ k.pace := hy.pace.1
  have hrg : 1 ≤ t.regs := hy.regs.1
  unfold TEdgeP at hedge
  have hedge' : ele (layK l t k order).time (a : Int) + waitV t (ele l.body (a : Int)).op ≤ ele (layK l t k order).time (m : Int) + x.bk * k.pace := by rw [ha] at hedge; exact hedge
  obtain ⟨l1, l2, l3⟩ := layK_at (t := t) (k := k) (order := order) hal
  have hso := (same_op h.lay hal).1
  rw [hso, ← l1] at l2
  have hcyc : (pipeK l t k order s N).cyc m σ = ele (layK l t k order).time (m : Int) + σ * k.pace := rfl
  have hdue : ∀ m' σ' : Nat, (pipeK l t k order s N).due m' σ' = ele (layK l t k order).ready (m' : Int) + σ' * k.pace := fun _ _ => rfl
  have hreg : ∀ m' σ' : Nat, (pipeK l t k order s N).reg m' σ' = (ele (layK l t k order).places (m' : Int) + σ') % t.regs := fun _ _ => rfl
  have hap : ∀ m' : Nat, m' < l.body.length → ApartP (layK l t k order) a m' := fun m' hm' => h.apart a m' hal hm'
  by_cases hz : 0 ≤ (σ : Int) - x.bk
  · obtain ⟨z, hz'⟩ := Int.eq_ofNat_of_zero_le hz
    have hzp : (z : Int) * k.pace = σ * k.pace - x.bk * k.pace := by rw [← hz', Int.sub_mul]
    have := hr.put a z ⟨hal, by show z < N; omega⟩ (by rw [hdue, hcyc]; omega) fun m' σ' hi d1 d2 d3 => by
      rw [hdue, hdue] at d1
      rw [hdue, hcyc] at d2
      rw [hreg, hreg] at d3
      have hjp : ((σ' : Int) - z) * k.pace = σ' * k.pace - z * k.pace := Int.sub_mul ..
      by_cases hne : m' = a ∧ σ' = z
      · exact hne
      · exfalso
        refine hap m' hi.1 ((σ' : Int) - z) (by omega) ?_ (.inl ⟨m, x, ⟨hm, hx, by rw [ha], .inl ⟨?_, ?_⟩⟩⟩)
        · have e := Int.emod_eq_emod_iff_emod_sub_eq_zero.1 d3
          rw [show ele (layK l t k order).places (m' : Int) + ((σ' : Int) - z) - ele (layK l t k order).places (a : Int) = ele (layK l t k order).places (m' : Int) + σ' - (ele (layK l t k order).places (a : Int) + z) from by omega]
          exact e
        · show _ ≤ _ + ((σ' : Int) - z) * k.pace
          omega
        · show _ + ((σ' : Int) - z) * k.pace ≤ _ + x.bk * k.pace
          omega
    rw [ha, hz', ← hreg, this]
    unfold valZ
    rw [if_pos (by omega)]
    rfl
  · have hq : (-((σ : Int) - x.bk) - 1).toNat < (farV l.body (a : Int)).toNat := by
      have := farN_ge (body := l.body) (a : Int) l.body.length m hm x hx ha
      unfold farV
      omega
    have hi := h0 a hal _ hq
    rw [show regF (layK l t k order) (a : Int) (-((σ : Int) - x.bk) - 1).toNat = (ele (layK l t k order).places (a : Int) + (σ - x.bk)) % t.regs from by
      unfold regF
      rw [show ele (layK l t k order).places (a : Int) - (((-((σ : Int) - x.bk) - 1).toNat : Nat) : Int) - 1 = ele (layK l t k order).places (a : Int) + (σ - x.bk) from by omega]
      rfl] at hi
    have old := hr.old ((ele (layK l t k order).places (a : Int) + (σ - x.bk)) % t.regs) (Int.emod_nonneg _ (by omega)) (Int.emod_lt_of_pos _ (by omega)) fun m' σ' hin d1 d2 => by
      rw [hdue, hcyc] at d1
      rw [hreg] at d2
      have hjp : ((σ' : Int) - (σ - x.bk)) * k.pace = σ' * k.pace - (σ * k.pace - x.bk * k.pace) := by rw [Int.sub_mul, Int.sub_mul]
      refine hap m' hin.1 ((σ' : Int) - (σ - x.bk)) (.inr (by omega)) ?_ (.inl ⟨m, x, ⟨hm, hx, by rw [ha], .inr ⟨by omega, by omega, ?_⟩⟩⟩)
      · have e := Int.emod_eq_emod_iff_emod_sub_eq_zero.1 d2
        rw [show ele (layK l t k order).places (m' : Int) + ((σ' : Int) - (σ - x.bk)) - ele (layK l t k order).places (a : Int) = ele (layK l t k order).places (m' : Int) + σ' - (ele (layK l t k order).places (a : Int) + (σ - x.bk)) from by omega]
        exact e
      · show _ + ((σ' : Int) - (σ - x.bk)) * k.pace ≤ _ + x.bk * k.pace
        omega
    rw [ha, old, hi]
    unfold valZ
    rw [if_neg hz, show (((-((σ : Int) - x.bk) - 1).toNat : Nat) : Int) = -((σ : Int) - x.bk) - 1 from by omega]
theorem load_val (hf : l.Fine) (h : TakesP l t k order) {s : Sta} (hs : StaOk l s) {N m σ : Nat} (hN : N ≤ 200) {M : List (List Int)} (hM : MemOk l M)
    (hw : Words (hitsS l) (valS l s) (fun m' σ' => (pipeK l t k order s N).In m' σ' ∧ (pipeK l t k order s N).cyc m' σ' < (pipeK l t k order s N).cyc m σ) s.mem M) (hm : m < l.body.length) (hσ : σ < N) (ho : (ele l.body (m : Int)).op = 3) :
    ele (ele M (ele l.body (m : Int)).ar) (idx (ele l.body (m : Int)).sp (ele l.body (m : Int)).pl σ (ele l.logs (ele l.body (m : Int)).ar)) = valS l s σ m := by
  rw [val_load hs hm ho]
  have hwk := stm_word hs.loop hm (.inl ho)
  obtain ⟨w1, w2, w3⟩ := word_ix hs.loop hM hwk (σ : Int)
  obtain ⟨a, ha⟩ := Int.eq_ofNat_of_zero_le w1.1
  obtain ⟨x, hx⟩ := Int.eq_ofNat_of_zero_le w3.1
  have hq := seq_words hf hs σ (by omega) m (by omega)
  have := Words.same hw hq (a := a) (x := x) fun m' σ' hh => by
    obtain ⟨h1, h2, h3⟩ := hh
    constructor
    · rintro ⟨hi, hc⟩
      refine ⟨hi.1, Classical.byContradiction fun hn => ?_⟩
      by_cases hn2 : lexL m σ m' σ'
      · have := mem_order (s := s) (N := N) h hm hi.1 (by have := hi.2; show σ' ≤ 200; have : σ' < N := hi.2; omega) hn2 ⟨.inl ho, .inr h1, by rw [ha, h2], .inr h1⟩ (by rw [hx, h3])
        rw [if_neg (by omega)] at this
        omega
      · obtain ⟨e1, e2⟩ := lex_tri hn hn2
        subst e1; omega
    · rintro ⟨hm', hl⟩
      have hσ' : σ' < N := by unfold lexL at hl; omega
      refine ⟨⟨hm', hσ'⟩, ?_⟩
      have := mem_order (s := s) (N := N) h hm' hm (by omega) hl ⟨.inr h1, .inl ho, by rw [ha, h2], .inl h1⟩ (by rw [hx, h3])
      rw [if_pos h1] at this
      omega
  rw [hx, ha]
  exact this
end
end Go.Rd
end

section
namespace Go.Rd
set_option linter.unusedVariables false
noncomputable def roundelayref5_Logs_L2 (m_ : List (List Int)) (i5_4 : Int) : Int → Option (Stp (Int) (Empty)) := fun log6_5 =>
 bdG (decide (log6_5 ≤ 5)) (roundelayref1_Size_m log6_5) fun x14 =>
 ck ((decide (log6_5 ≤ 5)) = true → IX i5_4 (ln m_)) <|
 br ((decide (log6_5 ≤ 5)) && (x14 != (ln (ele m_ i5_4)))) (
 ck (IR (log6_5 + 1)) <|
 some (.next (log6_5 + 1))) (
 some (.brk log6_5))
noncomputable def roundelayref5_Logs_L0 (m_ : List (List Int)) : ((List Int) × Int) → Option (Stp ((List Int) × Int) (List Int × Bool)) := fun (v1_4, i5_4) =>
 br (decide (i5_4 < (ln m_))) (
 bd (lp (roundelayref5_Logs_L2 m_ i5_4) 0) fun o9 => o9.on (fun log6_5 =>
 br (decide (log6_5 > 5)) (
 some (.ret ([], false))) (
 ck (AL (v1_4 ++ [log6_5]).length 8) <|
 ck (IR (i5_4 + 1)) <|
 some (.next ((v1_4 ++ [log6_5]), (i5_4 + 1))))) (fun r => r.elim)) (
 some (.brk (v1_4, i5_4)))
noncomputable def roundelayref5_Logs_m (m_ : List (List Int)) : Option (List Int × Bool) :=
 bd (lp (roundelayref5_Logs_L0 m_) ([], 0)) fun o2 => o2.on (fun (v1_4, i5_4) =>
 some (v1_4, true)) (fun r => some r)

noncomputable def roundelayref5_Play_L2 (v28_9 : List Due) (now18_9 : Int) : ((List Int) × (List Due) × Int) → Option (Stp ((List Int) × (List Due) × Int) (Empty)) := fun (v3_10, v41_10, i20_10) =>
 br (decide (i20_10 < (ln v28_9))) (
 ck (IX i20_10 (ln v28_9)) <|
 br ((ele v28_9 i20_10).due == now18_9) (
 ck (IX i20_10 (ln v28_9)) <|
 ck (IX i20_10 (ln v28_9)) <|
 ck (IX ((ele v28_9 i20_10).reg) (ln v3_10)) <|
 ck (IR (i20_10 + 1)) <|
 some (.next ((upd v3_10 ((ele v28_9 i20_10).reg) ((ele v28_9 i20_10).v)), v41_10, (i20_10 + 1)))) (
 ck (IX i20_10 (ln v28_9)) <|
 ck (AL (v41_10 ++ [(ele v28_9 i20_10)]).length 24) <|
 ck (IR (i20_10 + 1)) <|
 some (.next (v3_10, (v41_10 ++ [(ele v28_9 i20_10)]), (i20_10 + 1))))) (
 some (.brk (v3_10, v41_10, i20_10)))
noncomputable def roundelayref5_Play_L4 (t : Tgt) (k_ : Krn) (regs : List Int) (turns : Int) (x13 : List Int × Bool) (m13_9 : List (List Int)) (now18_9 : Int) (v3_10 : List Int) : ((List Due) × (List (List Int)) × Int) → Option (Stp ((List Due) × (List (List Int)) × Int) (Empty)) := fun (v41_11, r60_11, i23_11) =>
 br (decide (i23_11 < (ln k_.ops))) (
 ck (IX i23_11 (ln k_.ops)) <|
 ck (IR ((Int.tdiv now18_9 k_.pace) - (ele k_.ops i23_11).stage)) <|
 ck (k_.pace ≠ 0) <|
 br ((((ele k_.ops i23_11).slot != (Int.tmod now18_9 k_.pace)) || (decide (((Int.tdiv now18_9 k_.pace) - (ele k_.ops i23_11).stage) < 0))) || (decide (((Int.tdiv now18_9 k_.pace) - (ele k_.ops i23_11).stage) ≥ turns))) (
 ck (IR (i23_11 + 1)) <|
 some (.next (v41_11, r60_11, (i23_11 + 1)))) (
 ck (IR ((ele k_.ops i23_11).a + (Int.tdiv now18_9 k_.pace))) <|
 ck (t.regs ≠ 0) <|
 ck (IX (Int.tmod ((ele k_.ops i23_11).a + (Int.tdiv now18_9 k_.pace)) t.regs) (ln v3_10)) <|
 ck (IR ((ele k_.ops i23_11).b + (Int.tdiv now18_9 k_.pace))) <|
 ck (t.regs ≠ 0) <|
 ck (IX (Int.tmod ((ele k_.ops i23_11).b + (Int.tdiv now18_9 k_.pace)) t.regs) (ln v3_10)) <|
 br ((ele k_.ops i23_11).op == 1) (
 bd (roundelayref1_Class_m ((ele k_.ops i23_11).op)) fun x100 =>
 ck (IX x100 3) <|
 ck (IR (now18_9 + (sel3 t.w0 t.w1 t.w2 x100))) <|
 ck (IR ((ele k_.ops i23_11).dest + (Int.tdiv now18_9 k_.pace))) <|
 ck (t.regs ≠ 0) <|
 ck (AL (v41_11 ++ [(Due.mk (now18_9 + (sel3 t.w0 t.w1 t.w2 x100)) (Int.tmod ((ele k_.ops i23_11).dest + (Int.tdiv now18_9 k_.pace)) t.regs) ((ele k_.ops i23_11).n))]).length 24) <|
 ck (IR (i23_11 + 1)) <|
 some (.next ((v41_11 ++ [(Due.mk (now18_9 + (sel3 t.w0 t.w1 t.w2 x100)) (Int.tmod ((ele k_.ops i23_11).dest + (Int.tdiv now18_9 k_.pace)) t.regs) ((ele k_.ops i23_11).n))]), r60_11, (i23_11 + 1)))) (
 br ((ele k_.ops i23_11).op == 2) (
 bd (roundelayref1_Class_m ((ele k_.ops i23_11).op)) fun x121 =>
 ck (IX x121 3) <|
 ck (IR (now18_9 + (sel3 t.w0 t.w1 t.w2 x121))) <|
 ck (IR ((ele k_.ops i23_11).dest + (Int.tdiv now18_9 k_.pace))) <|
 ck (t.regs ≠ 0) <|
 ck (AL (v41_11 ++ [(Due.mk (now18_9 + (sel3 t.w0 t.w1 t.w2 x121)) (Int.tmod ((ele k_.ops i23_11).dest + (Int.tdiv now18_9 k_.pace)) t.regs) ((Int.tdiv now18_9 k_.pace) - (ele k_.ops i23_11).stage))]).length 24) <|
 ck (IR (i23_11 + 1)) <|
 some (.next ((v41_11 ++ [(Due.mk (now18_9 + (sel3 t.w0 t.w1 t.w2 x121)) (Int.tmod ((ele k_.ops i23_11).dest + (Int.tdiv now18_9 k_.pace)) t.regs) ((Int.tdiv now18_9 k_.pace) - (ele k_.ops i23_11).stage))]), r60_11, (i23_11 + 1)))) (
 br ((ele k_.ops i23_11).op == 3) (
 ck (IX ((ele k_.ops i23_11).ar) (ln m13_9)) <|
 ck (IX ((ele k_.ops i23_11).ar) (ln x13.1)) <|
 bd (roundelayref1_Index_m ((ele k_.ops i23_11).sp) ((ele k_.ops i23_11).pl) ((Int.tdiv now18_9 k_.pace) - (ele k_.ops i23_11).stage) (ele x13.1 ((ele k_.ops i23_11).ar))) fun x153 =>
 ck (IX x153 (ln (ele m13_9 ((ele k_.ops i23_11).ar)))) <|
 bd (roundelayref1_Class_m ((ele k_.ops i23_11).op)) fun x160 =>
 ck (IX x160 3) <|
 ck (IR (now18_9 + (sel3 t.w0 t.w1 t.w2 x160))) <|
 ck (IR ((ele k_.ops i23_11).dest + (Int.tdiv now18_9 k_.pace))) <|
 ck (t.regs ≠ 0) <|
 ck (AL (v41_11 ++ [(Due.mk (now18_9 + (sel3 t.w0 t.w1 t.w2 x160)) (Int.tmod ((ele k_.ops i23_11).dest + (Int.tdiv now18_9 k_.pace)) t.regs) (ele (ele m13_9 ((ele k_.ops i23_11).ar)) x153))]).length 24) <|
 ck (IR (i23_11 + 1)) <|
 some (.next ((v41_11 ++ [(Due.mk (now18_9 + (sel3 t.w0 t.w1 t.w2 x160)) (Int.tmod ((ele k_.ops i23_11).dest + (Int.tdiv now18_9 k_.pace)) t.regs) (ele (ele m13_9 ((ele k_.ops i23_11).ar)) x153))]), r60_11, (i23_11 + 1)))) (
 br ((ele k_.ops i23_11).op == 4) (
 ck (IX ((ele k_.ops i23_11).ar) (ln r60_11)) <|
 ck (IX ((ele k_.ops i23_11).ar) (ln x13.1)) <|
 bd (roundelayref1_Index_m ((ele k_.ops i23_11).sp) ((ele k_.ops i23_11).pl) ((Int.tdiv now18_9 k_.pace) - (ele k_.ops i23_11).stage) (ele x13.1 ((ele k_.ops i23_11).ar))) fun x189 =>
 ck (IX x189 (ln (ele r60_11 ((ele k_.ops i23_11).ar)))) <|
 bd (roundelayref1_Class_m ((ele k_.ops i23_11).op)) fun x198 =>
 ck (IX x198 3) <|
 ck (IR (now18_9 + (sel3 t.w0 t.w1 t.w2 x198))) <|
 ck (IR ((ele k_.ops i23_11).dest + (Int.tdiv now18_9 k_.pace))) <|
 ck (t.regs ≠ 0) <|
 ck (AL (v41_11 ++ [(Due.mk (now18_9 + (sel3 t.w0 t.w1 t.w2 x198)) (Int.tmod ((ele k_.ops i23_11).dest + (Int.tdiv now18_9 k_.pace)) t.regs) (ele v3_10 (Int.tmod ((ele k_.ops i23_11).a + (Int.tdiv now18_9 k_.pace)) t.regs)))]).length 24) <|
 ck (IR (i23_11 + 1)) <|
 some (.next ((v41_11 ++ [(Due.mk (now18_9 + (sel3 t.w0 t.w1 t.w2 x198)) (Int.tmod ((ele k_.ops i23_11).dest + (Int.tdiv now18_9 k_.pace)) t.regs) (ele v3_10 (Int.tmod ((ele k_.ops i23_11).a + (Int.tdiv now18_9 k_.pace)) t.regs)))]), (updG r60_11 ((ele k_.ops i23_11).ar) x189 (ele v3_10 (Int.tmod ((ele k_.ops i23_11).a + (Int.tdiv now18_9 k_.pace)) t.regs))), (i23_11 + 1)))) (
 ck (IR ((ele k_.ops i23_11).op - 10)) <|
 bd (roundelayref1_Op_m ((ele k_.ops i23_11).op - 10) (ele v3_10 (Int.tmod ((ele k_.ops i23_11).a + (Int.tdiv now18_9 k_.pace)) t.regs)) (ele v3_10 (Int.tmod ((ele k_.ops i23_11).b + (Int.tdiv now18_9 k_.pace)) t.regs))) fun x219 =>
 bd (roundelayref1_Class_m ((ele k_.ops i23_11).op)) fun x222 =>
 ck (IX x222 3) <|
 ck (IR (now18_9 + (sel3 t.w0 t.w1 t.w2 x222))) <|
 ck (IR ((ele k_.ops i23_11).dest + (Int.tdiv now18_9 k_.pace))) <|
 ck (t.regs ≠ 0) <|
 ck (AL (v41_11 ++ [(Due.mk (now18_9 + (sel3 t.w0 t.w1 t.w2 x222)) (Int.tmod ((ele k_.ops i23_11).dest + (Int.tdiv now18_9 k_.pace)) t.regs) x219)]).length 24) <|
 ck (IR (i23_11 + 1)) <|
 some (.next ((v41_11 ++ [(Due.mk (now18_9 + (sel3 t.w0 t.w1 t.w2 x222)) (Int.tmod ((ele k_.ops i23_11).dest + (Int.tdiv now18_9 k_.pace)) t.regs) x219)]), r60_11, (i23_11 + 1))))))))) (
 some (.brk (v41_11, r60_11, i23_11)))
noncomputable def roundelayref5_Play_L0 (t : Tgt) (k_ : Krn) (regs : List Int) (turns : Int) (x13 : List Int × Bool) : ((List Due) × (List Int) × (List (List Int)) × Int) → Option (Stp ((List Due) × (List Int) × (List (List Int)) × Int) (Empty)) := fun (v28_9, v3_9, m13_9, now18_9) =>
 ck (IR ((((turns + k_.stages) - 1) * k_.pace) + 6)) <|
 ck (IR (((((turns + k_.stages) - 1) * k_.pace) + 6) + 1)) <|
 br (decide (now18_9 < (((((turns + k_.stages) - 1) * k_.pace) + 6) + 1))) (
 bd (lp (roundelayref5_Play_L2 v28_9 now18_9) (v3_9, [], 0)) fun o42 => o42.on (fun (v3_10, v41_10, i20_10) =>
 br (decide (now18_9 ≥ (((turns + k_.stages) - 1) * k_.pace))) (
 ck (IR (now18_9 + 1)) <|
 some (.next (v41_10, v3_10, m13_9, (now18_9 + 1)))) (
 ck (k_.pace ≠ 0) <|
 ck (IR (Int.tdiv now18_9 k_.pace)) <|
 bd (roundelayref3_Copy_m m13_9) fun x56 =>
 bd (lp (roundelayref5_Play_L4 t k_ regs turns x13 m13_9 now18_9 v3_10) (v41_10, x56, 0)) fun o61 => o61.on (fun (v41_11, r60_11, i23_11) =>
 ck (IR (now18_9 + 1)) <|
 some (.next (v41_11, v3_10, r60_11, (now18_9 + 1)))) (fun r => r.elim))) (fun r => r.elim)) (
 some (.brk (v28_9, v3_9, m13_9, now18_9)))
noncomputable def roundelayref5_Play_m (t : Tgt) (k_ : Krn) (regs : List Int) (memory : List (List Int)) (turns : Int) : Option (List Int × List (List Int)) :=
 ck (AL ([] ++ regs).length 8) <|
 bd (roundelayref3_Copy_m memory) fun x8 =>
 bd (roundelayref5_Logs_m memory) fun x13 =>
 br (turns == 0) (
 some (([] ++ regs), x8)) (
 ck (IR (turns + k_.stages)) <|
 ck (IR ((turns + k_.stages) - 1)) <|
 ck (IR (((turns + k_.stages) - 1) * k_.pace)) <|
 bd (lp (roundelayref5_Play_L0 t k_ regs turns x13) ([], ([] ++ regs), x8, 0)) fun o30 => o30.on (fun (v28_9, v3_9, m13_9, now18_9) =>
 some (v3_9, m13_9)) (fun r => r.elim))
end Go.Rd
end

section
namespace Go.Rd
set_option linter.unusedVariables false
theorem list_eq' {α : Type} [Inhabited α] {a b : List α} (h1 : a.length = b.length) (h2 : ∀ i : Nat, i < a.length → ele a (i : Int) = ele b (i : Int)) : a = b := by
  apply List.ext_getElem h1
  intro i hi hi'
  have := h2 i hi
  simpa [ele_nat, List.getD_eq_getElem?_getD, hi, hi'] using this
theorem AL_small {n b : Nat} (h : n ≤ 10000000) (hb : b ≤ 32) : AL n b := ⟨by rw [maxLen_eq]; omega, Nat.le_trans (Nat.mul_le_mul h hb) (by omega)⟩
theorem rLogs_s {l : Lp} (hl : LoopOk l) {M : List (List Int)} (hM : MemOk l M) : roundelayref5_Logs_m M = some (l.logs, true) := by
  have hml := hM.len
  have h3 := hl.1
  unfold roundelayref5_Logs_m
  have X := lp_det (f := roundelayref5_Logs_L0 M) (ρ := List Int × Bool) (fun i => ((List.range i).map (fun j : Nat => ele l.logs (j : Int)), (i : Int))) M.length (fun i hi => by
    have hlg := hl.log i (by omega)
    have hr := hM.row i hi
    rw [show l.logs.getD i 0 = ele l.logs (i : Int) from rfl] at hlg hr
    rw [show M.getD i [] = ele M (i : Int) from rfl] at hr
    obtain ⟨L, hL⟩ := Int.eq_ofNat_of_zero_le hlg.1
    rw [hL] at hr hlg
    have hp := pow2 (show L ≤ 5 by omega)
    have Y := lp_det (f := roundelayref5_Logs_L2 M i) (ρ := Empty) (fun j => (j : Int)) L (fun j hj => by
      have hpj := pow2 (show j ≤ 5 by omega)
      have : (2 : Nat) ^ j < 2 ^ L := Nat.pow_lt_pow_right (by omega) hj
      unfold roundelayref5_Logs_L2
      rw [decide_eq_true (show (j : Int) ≤ 5 by omega), bdG_t, Size_s _ (by omega), bd_ret, ck_imp (fun _ => ⟨by omega, by unfold ln; omega⟩), Bool.true_and,
        show (2 ^ ((j : Int).toNat) != ln (ele M (i : Int))) = true from by
          rw [bne_iff_ne]; unfold ln; rw [Int.toNat_natCast]; rw [show ((L : Int).toNat) = L from Int.toNat_natCast L] at hr; omega, br_true, ck_IR (by omega) (by omega)]
      rfl) (by
      unfold roundelayref5_Logs_L2
      rw [decide_eq_true (show (L : Int) ≤ 5 by omega), bdG_t, Size_s _ (by omega), bd_ret, ck_imp (fun _ => ⟨by omega, by unfold ln; omega⟩), Bool.true_and,
        show (2 ^ ((L : Int).toNat) != ln (ele M (i : Int))) = false from by
          rw [bne_eq_false_iff_eq]; unfold ln; omega, br_false])
    unfold roundelayref5_Logs_L0
    simp only
    rw [br_T (by unfold ln; omega), show lp (roundelayref5_Logs_L2 M i) 0 = _ from Y, bd_ret, Out.on_go, br_F (by omega), ck_yes (AL_small (by simp; omega) (by omega)), ck_IR (by omega) (by omega), ← hL]
    rw [rm_succ]; rfl) (by unfold roundelayref5_Logs_L0; exact br_F (by unfold ln; omega))
  rw [show lp (roundelayref5_Logs_L0 M) ([], 0) = _ from X, bd_ret, Out.on_go, hml, range_map]
section
variable {l : Lp} {t : Tgt} {k : Krn} {order : List Int} {s : Sta}
theorem valZ_rng (hf : l.Fine) (hs : StaOk l s) {z a : Int} (hz : z ≤ 200) : InR (valZ l s z a) := by
  unfold valZ
  split
  · have h1 := (run_ok hf hs (z.toNat + 1) (by omega)).1 (rowV l s z.toNat) (List.mem_cons_self ..)
    exact ele_rng h1.rng _
  · exact eles_rng hs.rbef _ _
theorem act_iff (h : LayP l t k order) {N m σ : Nat} (hm : m < l.body.length) {c : Nat} : (pipeK l t k order s N).cyc m σ = c ↔ ((oprAt k order m).slot = (c : Int) % k.pace ∧ (σ : Int) = (c : Int) / k.pace - (oprAt k order m).stage) := by
  have ho := LayP.opr h.may h.n (h.ord m hm).1
  obtain ⟨⟨a1, a2, a3, a4, a5⟩, _⟩ := ho
  obtain ⟨l1, _⟩ := layK_at (t := t) (k := k) (order := order) hm
  have e : (pipeK l t k order s N).cyc m σ = (oprAt k order m).slot + k.pace * ((oprAt k order m).stage + σ) := by
    show ele (layK l t k order).time (m : Int) + σ * k.pace = _
    rw [l1, Int.mul_add, Int.mul_comm (σ : Int)]; unfold timeK; omega
  have hp := h.may.pace
  constructor
  · intro hc
    rw [e] at hc
    rw [← hc, Int.add_mul_emod_self_left, Int.emod_eq_of_lt a1 a2, Int.add_mul_ediv_left _ _ (by omega), Int.ediv_eq_zero_of_lt a1 a2]
    exact ⟨rfl, by omega⟩
  · rintro ⟨h1, h2⟩
    rw [e, h1, show (oprAt k order m).stage + σ = (c : Int) / k.pace from by omega]
    exact Int.emod_add_mul_ediv _ _
theorem cyc_last (h : LayP l t k order) {N m σ : Nat} (hi : (pipeK l t k order s N).In m σ) : (0 ≤ (pipeK l t k order s N).cyc m σ) ∧ (pipeK l t k order s N).cyc m σ < (N + k.stages - 1) * k.pace := by
  have hm : m < l.body.length := hi.1
  have hσ : σ < N := hi.2
  have ho := LayP.opr h.may h.n (h.ord m hm).1
  obtain ⟨⟨a1, a2, a3, a4, a5⟩, _⟩ := ho
  obtain ⟨l1, _⟩ := layK_at (t := t) (k := k) (order := order) hm
  have hp := h.may.pace
  have e : (pipeK l t k order s N).cyc m σ = (oprAt k order m).slot + ((oprAt k order m).stage + σ) * k.pace := by
    show ele (layK l t k order).time (m : Int) + σ * k.pace = _
    rw [l1, Int.add_mul]; unfold timeK; rw [Int.mul_comm k.pace]; omega
  have m0 := Int.mul_nonneg (show 0 ≤ (oprAt k order m).stage + σ by omega) (show 0 ≤ k.pace by omega)
  have m1 := Int.mul_le_mul_of_nonneg_right (show (oprAt k order m).stage + σ + 1 ≤ N + k.stages - 1 by omega) (show 0 ≤ k.pace by omega)
  rw [Int.add_mul ((oprAt k order m).stage + σ)] at m1
  omega
def doneK (l : Lp) (t : Tgt) (k : Krn) (order : List Int) (s : Sta) (N : Nat) (c i : Int) (m σ : Nat) : Prop := (pipeK l t k order s N).cyc m σ < c ∨ ((pipeK l t k order s N).cyc m σ = c ∧ ele order (m : Int) < i)
structure OpsI (l : Lp) (t : Tgt) (k : Krn) (order : List Int) (s : Sta) (N : Nat) (c i : Nat) (q : List Due) (M : List (List Int)) : Prop where
  due : (pipeK l t k order s N).Dues (doneK l t k order s N c i) (c + 1) q
  wds : Words (hitsS l) (valS l s) (fun m σ => (pipeK l t k order s N).In m σ ∧ doneK l t k order s N c i m σ) s.mem M
  ok : MemOk l M
  len : q.length ≤ 16 * c + i
theorem op_step (hf : l.Fine) (h : TakesP l t k order) (hs : StaOk l s) {N : Nat} (hN : N ≤ 200) {c : Nat} (hc : c ≤ 300000) {regs0 r0 r : List Int} (h0 : InitK l t k order s.bef r0) (hr : (pipeK l t k order s N).Regs r0 r c)
    {M0 : List (List Int)} (hw0 : Words (hitsS l) (valS l s) (fun m σ => (pipeK l t k order s N).In m σ ∧ (pipeK l t k order s N).cyc m σ < c) s.mem M0) (hM0 : MemOk l M0) {i : Nat} (hi : i < k.ops.length) {q : List Due} {M : List (List Int)} (hI : OpsI l t k order s N c i q M) :
    ∃ q' M', roundelayref5_Play_L4 t k regs0 N (l.logs, true) M0 c r (q, M, (i : Int)) = some (.next (q', M', (i : Int) + 1)) ∧ OpsI l t k order s N c (i + 1) q' M' := by
  have hL := h.lay
  have hn := hL.loop.2.2.1
  have hkn := hL.n
  have hp := hL.may.pace
  have hok := pipe_ok (s := s) (N := N) hL
  have hR := (layK_ok hL).regs
  have hrr : (layK l t k order).regs = t.regs := rfl
  rw [hrr] at hR
  have hrl : (r.length : Int) = t.regs := hr.len
  obtain ⟨m, hm, hom⟩ := order_has (order := order) (n := l.body.length) hL.no (fun s' hs' => (hL.ord s' hs').1) (fun s' hs' j hj => (hL.ord s' hs').2.1 j hj) (show i < l.body.length by omega)
  have hop : ele k.ops (i : Int) = oprAt k order m := by unfold oprAt; rw [hom]
  have hinj : ∀ m', m' < l.body.length → ele order (m' : Int) = i → m' = m := fun m' hm' he => by
    rcases Nat.lt_trichotomy m' m with hlt | he' | hlt
    · exact absurd (he.trans hom.symm) ((hL.ord m hm).2.1 m' hlt)
    · exact he'
    · exact absurd (hom.trans he.symm) ((hL.ord m' hm').2.1 m hlt)
  obtain ⟨so1, so2, so3, so4, so5⟩ := same_op hL hm
  have hone := LayP.opr hL.may hL.n (hL.ord m hm).1
  obtain ⟨⟨a1, a2, a3, a4, a5⟩, ⟨d1, d2, d3, d4, d5, d6, d7, d8⟩, _⟩ := hone
  have hst : (oprAt k order m).stage ≤ 1000 := (opr_bd hL.may (LayP.opr hL.may hL.n (hL.ord m hm).1)).2.2.2.2
  have td : Int.tdiv (c : Int) k.pace = (c : Int) / k.pace := Int.tdiv_eq_ediv_of_nonneg (by omega)
  have tm : Int.tmod (c : Int) k.pace = (c : Int) % k.pace := Int.tmod_eq_emod_of_nonneg (by omega)
  have hpa0 := Int.ediv_nonneg (show 0 ≤ (c : Int) by omega) (show 0 ≤ k.pace by omega)
  have hpa1 := Int.ediv_le_self (b := k.pace) (show 0 ≤ (c : Int) by omega)
  have hact := fun σ : Nat => act_iff (s := s) (N := N) hL hm (σ := σ) (c := c)
  obtain ⟨b1, b2, b3, b4⟩ := hI
  have hlast : k.ops.length ≤ 16 := hL.may.n.2
  unfold roundelayref5_Play_L4
  simp only
  rw [br_T (by unfold ln; omega), ck_IX (by omega) (by unfold ln; omega), hop, td, tm, ck_IR (by omega) (by omega), ck_yes (by omega)]
  generalize hpa : (c : Int) / k.pace = pa at hpa0 hpa1 hact
  by_cases hc1 : (oprAt k order m).slot = (c : Int) % k.pace ∧ 0 ≤ pa - (oprAt k order m).stage ∧ pa - (oprAt k order m).stage < N
  · obtain ⟨e1, e2, e3⟩ := hc1
    obtain ⟨σ, hσ⟩ := Int.eq_ofNat_of_zero_le e2
    have hσN : σ < N := by omega
    have hcy := (hact σ).2 ⟨e1, by omega⟩
    have hin : (pipeK l t k order s N).In m σ := ⟨hm, hσN⟩
    have hcond : ((((oprAt k order m).slot != (c : Int) % k.pace) || (decide (pa - (oprAt k order m).stage < 0))) || (decide (pa - (oprAt k order m).stage ≥ (N : Int)))) = false := by
      rw [Bool.or_eq_false_iff, Bool.or_eq_false_iff, bne_eq_false_iff_eq, decide_eq_false_iff_not, decide_eq_false_iff_not]; omega
    have tma : ∀ a : Int, 0 ≤ a → Int.tmod (a + pa) t.regs = (a + pa) % t.regs := fun a ha => Int.tmod_eq_emod_of_nonneg (by omega)
    have hra : ∀ a : Int, 0 ≤ (a + pa) % t.regs ∧ (a + pa) % t.regs < t.regs := fun a => ⟨Int.emod_nonneg _ (by omega), Int.emod_lt_of_pos _ (by omega)⟩
    have ha' := hra (oprAt k order m).a
    have hb' := hra (oprAt k order m).b
    rw [hcond, br_false, ck_IR (by omega) (by omega), ck_yes (show t.regs ≠ 0 by omega), tma _ d3, ck_IX ha'.1 (by unfold ln; omega), ck_IR (by omega) (by omega), ck_yes (show t.regs ≠ 0 by omega), tma _ d5, ck_IX hb'.1 (by unfold ln; omega), tma _ d1]
    -- what is read
    have hread : ∀ j, j < (usesL (ele l.body (m : Int))).length → ele r ((nameO (oprAt k order m) j + pa) % t.regs) = valZ l s (σ - (ele (usesL (ele l.body (m : Int))) (j : Int)).bk) (ele (usesL (ele l.body (m : Int))) (j : Int)).st := fun j hj => by
      have hnm := h.name m hm j hj
      unfold NameP at hnm
      rw [hnm, Int.emod_add_emod, show ele (layK l t k order).places (ele (usesL (ele l.body (m : Int))) (j : Int)).st - (ele (usesL (ele l.body (m : Int))) (j : Int)).bk - (oprAt k order m).stage + pa = ele (layK l t k order).places (ele (usesL (ele l.body (m : Int))) (j : Int)).st + (σ - (ele (usesL (ele l.body (m : Int))) (j : Int)).bk) from by omega]
      exact read_val (N := N) h h0 (by rw [hcy]; exact hr) hm hσN (ele_mem' hj)
    -- the result
    have hwt := wait_ge hL.tgt (oprAt k order m).op
    obtain ⟨y1, y2, y3⟩ := layK_at (t := t) (k := k) (order := order) hm
    have hwv : sel3 t.w0 t.w1 t.w2 (clsV (oprAt k order m).op) = waitV t (oprAt k order m).op := by unfold waitV; rw [if_pos hL.tgt]
    have hdue : (pipeK l t k order s N).due m σ = c + waitV t (oprAt k order m).op := by
      rw [← hcy]
      show ele (layK l t k order).ready (m : Int) + σ * k.pace = ele (layK l t k order).time (m : Int) + σ * k.pace + _
      rw [y2, ← y1]; omega
    have hreg : (pipeK l t k order s N).reg m σ = ((oprAt k order m).dest + pa) % t.regs := by
      show (ele (layK l t k order).places (m : Int) + σ) % t.regs = _
      rw [y3, show (oprAt k order m).dest + (oprAt k order m).stage + σ = (oprAt k order m).dest + pa from by omega]
    have hent : ∀ v, v = valS l s σ m → Due.mk (c + sel3 t.w0 t.w1 t.w2 (clsV (oprAt k order m).op)) (((oprAt k order m).dest + pa) % t.regs) v = (pipeK l t k order s N).ent m σ := fun v hv => by
      unfold Pipe.ent
      rw [hdue, hreg, hwv, hv]; rfl
    have hcl : 0 ≤ clsV (oprAt k order m).op ∧ clsV (oprAt k order m).op < 3 := clsV_range _
    have hD : ∀ m' σ', (pipeK l t k order s N).In m' σ' → ((doneK l t k order s N c i m' σ' ∨ (m' = m ∧ σ' = σ)) ↔ doneK l t k order s N c (i + 1 : Nat) m' σ') := fun m' σ' hi' => by
      unfold doneK
      constructor
      · rintro ((h1 | ⟨h1, h2⟩) | ⟨rfl, rfl⟩)
        · exact .inl h1
        · exact .inr ⟨h1, by omega⟩
        · exact .inr ⟨hcy, by omega⟩
      · rintro (h1 | ⟨h1, h2⟩)
        · exact .inl (.inl h1)
        · by_cases e : ele order (m' : Int) = i
          · obtain rfl := hinj m' hi'.1 e
            have := ((hact σ').1 h1).2
            exact .inr ⟨rfl, by omega⟩
          · exact .inl (.inr ⟨h1, by omega⟩)
    have hdu : (pipeK l t k order s N).Dues (doneK l t k order s N c (i + 1 : Nat)) (c + 1) (q ++ [(pipeK l t k order s N).ent m σ]) := (b1.add hin (by rw [hdue]; omega)).congr hD
    have hlen : (q ++ [(pipeK l t k order s N).ent m σ]).length ≤ 16 * c + (i + 1) := by rw [List.length_append]; simp; omega
    have hal : AL (q ++ [(pipeK l t k order s N).ent m σ]).length 24 := AL_small (by omega) (by omega)
    have hwd : (ele l.body (m : Int)).op ≠ 4 → Words (hitsS l) (valS l s) (fun m' σ' => (pipeK l t k order s N).In m' σ' ∧ doneK l t k order s N c (i + 1 : Nat) m' σ') s.mem M := fun ho =>
      Words.congr (Words.skip b2 (m0 := m) (σ0 := σ) fun a x hh => ho hh.1) fun m' σ' a x _ => by
        constructor
        · rintro (⟨h1, h2⟩ | ⟨rfl, rfl⟩)
          · exact ⟨h1, (hD m' σ' h1).1 (.inl h2)⟩
          · exact ⟨hin, (hD _ _ hin).1 (.inr ⟨rfl, rfl⟩)⟩
        · rintro ⟨h1, h2⟩
          rcases (hD m' σ' h1).2 h2 with h3 | h3
          · exact .inl ⟨h1, h3⟩
          · exact .inr h3
    have hix : ck (IR ((i : Int) + 1)) = fun (x : Option (Stp (List Due × List (List Int) × Int) Empty)) => x := by funext x; exact ck_IR (by omega) (by omega)
    by_cases o1 : (oprAt k order m).op = 1
    · rw [show ((oprAt k order m).op == 1) = true from by simpa using o1, br_true, ref_Class_s, bd_ret, ck_IX hcl.1 hcl.2, hwv, ck_IR (by omega) (by omega), ck_IR (by omega) (by omega), ck_yes (show t.regs ≠ 0 by omega), ← hwv, hent _ (by rw [val_const hs hm (by rw [← so1]; exact o1), so5]), ck_yes hal, ck_IR (by omega) (by omega)]
      exact ⟨_, _, rfl, ⟨hdu, hwd (by rw [← so1]; omega), b3, hlen⟩⟩
    rw [show ((oprAt k order m).op == 1) = false from by simpa using o1, br_false]
    by_cases o2 : (oprAt k order m).op = 2
    · rw [show ((oprAt k order m).op == 2) = true from by simpa using o2, br_true, ref_Class_s, bd_ret, ck_IX hcl.1 hcl.2, hwv, ck_IR (by omega) (by omega), ck_IR (by omega) (by omega), ck_yes (show t.regs ≠ 0 by omega), ← hwv, hent _ (by rw [val_turn hs hm (by rw [← so1]; exact o2), hσ]), ck_yes hal, ck_IR (by omega) (by omega)]
      exact ⟨_, _, rfl, ⟨hdu, hwd (by rw [← so1]; omega), b3, hlen⟩⟩
    rw [show ((oprAt k order m).op == 2) = false from by simpa using o2, br_false]
    by_cases o3 : (oprAt k order m).op = 3
    · have ho3 : (ele l.body (m : Int)).op = 3 := by rw [← so1]; exact o3
      have hwk := stm_word hs.loop hm (.inl ho3)
      obtain ⟨w1, w2, w3⟩ := word_ix hs.loop hM0 hwk (σ : Int)
      rw [show ((oprAt k order m).op == 3) = true from by simpa using o3, br_true, so2, so3, so4, hσ, ck_yes w1, ck_yes w2, ref_Index_s, bd_ret, ck_yes w3, ref_Class_s, bd_ret, ck_IX hcl.1 hcl.2, hwv, ck_IR (by omega) (by omega), ck_IR (by omega) (by omega), ck_yes (show t.regs ≠ 0 by omega), ← hwv, hent _ (load_val (N := N) hf h hs hN hM0 (by rw [hcy]; exact hw0) hm hσN ho3), ck_yes hal, ck_IR (by omega) (by omega)]
      exact ⟨_, _, rfl, ⟨hdu, hwd (by omega), b3, hlen⟩⟩
    rw [show ((oprAt k order m).op == 3) = false from by simpa using o3, br_false]
    by_cases o4 : (oprAt k order m).op = 4
    · have ho4 : (ele l.body (m : Int)).op = 4 := by rw [← so1]; exact o4
      have hwk := stm_word hs.loop hm (.inr ho4)
      obtain ⟨w1, w2, w3⟩ := word_ix hs.loop b3 hwk (σ : Int)
      have hu : usesL (ele l.body (m : Int)) = [(ele l.body (m : Int)).a] := by unfold usesL; rw [if_pos ho4]
      have hv : ele r (((oprAt k order m).a + pa) % t.regs) = valS l s σ m := by
        have := hread 0 (by rw [hu]; simp)
        rw [hu] at this
        rw [val_store hs hm ho4]
        exact this
      have hvr : InR (valS l s σ m) := by rw [val_store hs hm ho4]; exact valZ_rng hf hs (by have := (layK_us hL m hm _ (show (ele l.body (m : Int)).a ∈ usesL (ele l.body (m : Int)) by rw [hu]; simp)).2.2.1; omega)
      rw [show ((oprAt k order m).op == 4) = true from by simpa using o4, br_true, so2, so3, so4, hσ, ck_yes w1, ck_yes w2, ref_Index_s, bd_ret, ck_yes w3, ref_Class_s, bd_ret, ck_IX hcl.1 hcl.2, hwv, ck_IR (by omega) (by omega), ck_IR (by omega) (by omega), ck_yes (show t.regs ≠ 0 by omega), ← hwv, hent _ hv, ck_yes hal, ck_IR (by omega) (by omega), hv]
      refine ⟨_, _, rfl, ⟨hdu, ?_, b3.updG _ _ _ hvr, hlen⟩⟩
      obtain ⟨a, ha⟩ := Int.eq_ofNat_of_zero_le w1.1
      obtain ⟨x, hx⟩ := Int.eq_ofNat_of_zero_le w3.1
      unfold IX ln at w1 w3
      rw [hx] at w3 ⊢
      rw [ha] at w1 w3 hx ⊢
      refine Words.congr (Words.put b2 (m0 := m) (σ0 := σ) (a0 := a) (x0 := x) (fun a' x' => ?_) (fun m' σ' hd hh => ?_) (wd_put (by omega) (by omega)) (fun a' x' hne => wd_old (by omega) hne)) fun m' σ' a' x' _ => ?_
      · unfold hitsS
        rw [ha, hx]
        constructor
        · rintro ⟨_, e1, e2⟩; omega
        · rintro ⟨rfl, rfl⟩; exact ⟨ho4, rfl, rfl⟩
      · intro hlt
        obtain ⟨h1, h2, h3⟩ := hh
        have hσ' : σ' < N := hd.1.2
        have := mem_order (s := s) (N := N) h hm hd.1.1 (by omega) hlt ⟨.inr ho4, .inr h1, by rw [ha, h2], .inl ho4⟩ (by rw [ha, hx, h2, ← h3, h2])
        rw [if_pos ho4, hcy] at this
        have hd2 := hd.2
        unfold doneK at hd2
        omega
      · constructor
        · rintro (⟨h1, h2⟩ | ⟨rfl, rfl⟩)
          · exact ⟨h1, (hD m' σ' h1).1 (.inl h2)⟩
          · exact ⟨hin, (hD _ _ hin).1 (.inr ⟨rfl, rfl⟩)⟩
        · rintro ⟨h1, h2⟩
          rcases (hD m' σ' h1).2 h2 with h3 | h3
          · exact .inl ⟨h1, h3⟩
          · exact .inr h3
    rw [show ((oprAt k order m).op == 4) = false from by simpa using o4, br_false]
    have ho5 : (ele l.body (m : Int)).op > 10 ∧ (ele l.body (m : Int)).op ≤ 18 := by
      have q3 := (hL.loop.stm m hm).2.2
      rw [show l.body.getD m Stm.zero = ele l.body (m : Int) from rfl] at q3
      rw [so1] at o1 o2 o3 o4
      rcases q3 with h | h | h | h | h <;> omega
    have hu : usesL (ele l.body (m : Int)) = [(ele l.body (m : Int)).a, (ele l.body (m : Int)).b] := by unfold usesL; rw [if_neg (by omega), if_pos ho5.1]
    have hva : ele r (((oprAt k order m).a + pa) % t.regs) = valZ l s (σ - (ele l.body (m : Int)).a.bk) (ele l.body (m : Int)).a.st := by
      have := hread 0 (by rw [hu]; simp)
      rw [hu] at this
      exact this
    have hvb : ele r (((oprAt k order m).b + pa) % t.regs) = valZ l s (σ - (ele l.body (m : Int)).b.bk) (ele l.body (m : Int)).b.st := by
      have := hread 1 (by rw [hu]; simp)
      rw [hu] at this
      exact this
    have hba := (layK_us hL m hm (ele l.body (m : Int)).a (by rw [hu]; simp)).2.2.1
    have hbb := (layK_us hL m hm (ele l.body (m : Int)).b (by rw [hu]; simp)).2.2.1
    have hra1 := valZ_rng hf hs (z := σ - (ele l.body (m : Int)).a.bk) (a := (ele l.body (m : Int)).a.st) (by omega)
    have hrb1 := valZ_rng hf hs (z := σ - (ele l.body (m : Int)).b.bk) (a := (ele l.body (m : Int)).b.st) (by omega)
    rw [hva, hvb, ck_IR (by rw [so1]; omega) (by rw [so1]; omega), ref_Op_s _ _ _ hra1 hrb1, bd_ret, ref_Class_s, bd_ret, ck_IX hcl.1 hcl.2, hwv, ck_IR (by omega) (by omega), ck_IR (by omega) (by omega), ck_yes (show t.regs ≠ 0 by omega), ← hwv, hent _ (by rw [val_op hs hm ho5.1, so1]), ck_yes hal, ck_IR (by omega) (by omega)]
    exact ⟨_, _, rfl, ⟨hdu, hwd (by omega), b3, hlen⟩⟩
  · have hcond : ((((oprAt k order m).slot != (c : Int) % k.pace) || (decide (pa - (oprAt k order m).stage < 0))) || (decide (pa - (oprAt k order m).stage ≥ (N : Int)))) = true := by
      rw [Bool.or_eq_true, Bool.or_eq_true, bne_iff_ne, decide_eq_true_eq, decide_eq_true_eq]; omega
    have hD : ∀ m' σ', (pipeK l t k order s N).In m' σ' → (doneK l t k order s N c i m' σ' ↔ doneK l t k order s N c (i + 1 : Nat) m' σ') := fun m' σ' hi' => by
      unfold doneK
      constructor
      · rintro (h1 | ⟨h1, h2⟩)
        · exact .inl h1
        · exact .inr ⟨h1, by omega⟩
      · rintro (h1 | ⟨h1, h2⟩)
        · exact .inl h1
        · by_cases e : ele order (m' : Int) = i
          · obtain rfl := hinj m' hi'.1 e
            have q := (hact σ').1 h1
            have : σ' < N := hi'.2
            exact absurd ⟨q.1, by omega, by omega⟩ hc1
          · exact .inr ⟨h1, by omega⟩
    rw [hcond, br_true, ck_IR (by omega) (by omega)]
    exact ⟨_, _, rfl, ⟨b1.congr hD, Words.congr b2 fun m' σ' a x _ => ⟨fun hh => ⟨hh.1, (hD m' σ' hh.1).1 hh.2⟩, fun hh => ⟨hh.1, (hD m' σ' hh.1).2 hh.2⟩⟩, b3, by omega⟩⟩

theorem land_s {y : Pipe} {D : Nat → Nat → Prop} {c : Nat} {q : List Due} (hy : y.Ok) (hq : y.Dues D c q) (hl : q.length ≤ 10000000) {r : List Int} (hr : (r.length : Int) = y.regs) :
    lp (roundelayref5_Play_L2 q c) (r, [], 0) = some (.go (q.foldl (Pipe.land1 c) r, q.filter (fun d => decide (d.due ≠ c)), (q.length : Int))) := by
  have X := lp_det (f := roundelayref5_Play_L2 q c) (ρ := Empty) (fun i => ((q.take i).foldl (Pipe.land1 c) r, (q.take i).filter (fun d => decide (d.due ≠ c)), (i : Int))) q.length (fun i hi => by
    have hlen := Pipe.land_len (c : Int) (q.take i) r
    have hfl : ((q.take i).filter (fun d => decide (d.due ≠ (c : Int)))).length ≤ i := Nat.le_trans (List.length_filter_le _ _) (by rw [List.length_take]; omega)
    obtain ⟨m, σ, _, _, _, he⟩ := hq.src _ (ele_mem' hi)
    have hb := Pipe.reg_bd hy m σ
    have hrg : (ele q (i : Int)).reg = y.reg m σ := by rw [he]; rfl
    unfold roundelayref5_Play_L2
    simp only
    rw [br_T (by unfold ln; omega), ck_IX (by omega) (by unfold ln; omega), take_next hi, List.foldl_append, List.filter_append]
    by_cases e : (ele q (i : Int)).due = c
    · rw [show ((ele q (i : Int)).due == (c : Int)) = true from by simpa using e, br_true, ck_IX (by omega) (by unfold ln; omega), ck_IX (by omega) (by unfold ln; omega), ck_IX (by omega) (by unfold ln; omega), ck_IR (by omega) (by omega)]
      rw [show [ele q (i : Int)].filter (fun d => decide (d.due ≠ (c : Int))) = [] from by simp [e], List.append_nil]
      show _ = some (Stp.next (Pipe.land1 c _ _, _, _))
      unfold Pipe.land1
      rw [if_pos e]; rfl
    · rw [show ((ele q (i : Int)).due == (c : Int)) = false from by simpa using e, br_false, ck_IX (by omega) (by unfold ln; omega), ck_yes (AL_small (by rw [List.length_append, List.length_singleton]; omega) (by omega)), ck_IR (by omega) (by omega)]
      rw [show [ele q (i : Int)].filter (fun d => decide (d.due ≠ (c : Int))) = [ele q (i : Int)] from by simp [e]]
      show _ = some (Stp.next (Pipe.land1 c _ _, _, _))
      unfold Pipe.land1
      rw [if_neg e]; rfl) (by unfold roundelayref5_Play_L2; exact br_F (by unfold ln; omega))
  rw [List.take_length] at X
  exact X
structure PlayI (l : Lp) (t : Tgt) (k : Krn) (order : List Int) (s : Sta) (r0 : List Int) (N c : Nat) (q : List Due) (r : List Int) (M : List (List Int)) : Prop where
  due : (pipeK l t k order s N).Dues (fun m σ => (pipeK l t k order s N).cyc m σ < c) c q
  regs : (pipeK l t k order s N).Regs r0 r ((c : Int) - 1)
  wds : Words (hitsS l) (valS l s) (fun m σ => (pipeK l t k order s N).In m σ ∧ (pipeK l t k order s N).cyc m σ < c) s.mem M
  ok : MemOk l M
  len : q.length ≤ 16 * c
theorem last_bd (hL : LayP l t k order) {N : Nat} (hN : N ≤ 200) (h1 : 1 ≤ N) : (k.pace : Int) ≤ (N + k.stages - 1) * k.pace ∧ (N + k.stages - 1) * k.pace ≤ 240000 := by
  have hp := hL.may.pace
  have hs := hL.may.stages
  have m1 := Int.mul_le_mul_of_nonneg_right (show 1 ≤ (N : Int) + k.stages - 1 by omega) (show 0 ≤ k.pace by omega)
  have m2 := Int.mul_le_mul_of_nonneg_right (show (N : Int) + k.stages - 1 ≤ 1200 by omega) (show 0 ≤ k.pace by omega)
  omega
theorem cycle_s (hf : l.Fine) (h : TakesP l t k order) (hs : StaOk l s) {N : Nat} (hN : N ≤ 200) (h1 : 1 ≤ N) {regs0 r0 : List Int} (h0 : InitK l t k order s.bef r0) {c : Nat} (hc : (c : Int) < (N + k.stages - 1) * k.pace + 6 + 1) {q : List Due} {r : List Int} {M : List (List Int)} (hI : PlayI l t k order s r0 N c q r M) :
    ∃ q' r' M', roundelayref5_Play_L0 t k regs0 N (l.logs, true) (q, r, M, (c : Int)) = some (.next (q', r', M', (c : Int) + 1)) ∧ PlayI l t k order s r0 N (c + 1) q' r' M' := by
  have hL := h.lay
  have hok := pipe_ok (s := s) (N := N) hL
  have hlb := last_bd hL hN h1
  have hp := hL.may.pace
  have hkn := hL.may.n
  obtain ⟨b1, b2, b3, b4, b5⟩ := hI
  have hR := b2.land hok b1
  have hQ := b1.left
  have hfl : (q.filter (fun d => decide (d.due ≠ (c : Int)))).length ≤ 16 * c := Nat.le_trans (List.length_filter_le _ _) b5
  unfold roundelayref5_Play_L0
  simp only
  rw [ck_IR (by omega) (by omega), ck_IR (by omega) (by omega), br_T hc, land_s hok b1 (by omega) b2.len, bd_ret, Out.on_go]
  simp only
  by_cases hl : (c : Int) ≥ (N + k.stages - 1) * k.pace
  · have hD : ∀ m σ, (pipeK l t k order s N).In m σ → ((pipeK l t k order s N).cyc m σ < c ↔ (pipeK l t k order s N).cyc m σ < (c + 1 : Nat)) := fun m σ hi => by
      have := (cyc_last hL hi).2
      omega
    rw [br_T hl, ck_IR (by omega) (by omega)]
    refine ⟨_, _, _, rfl, ⟨?_, ?_, ?_, b4, by omega⟩⟩
    · exact hQ.congr hD
    · rw [show ((c + 1 : Nat) : Int) - 1 = c from by omega]; exact hR
    · exact Words.congr b3 fun m σ a x _ => ⟨fun hh => ⟨hh.1, (hD m σ hh.1).1 hh.2⟩, fun hh => ⟨hh.1, (hD m σ hh.1).2 hh.2⟩⟩
  · have hsm := b4.small hs.loop
    rw [br_F hl, ck_yes (by omega), ck_IR (by have := Int.tdiv_eq_ediv_of_nonneg (show 0 ≤ (c : Int) by omega) (b := k.pace); have := Int.ediv_nonneg (show 0 ≤ (c : Int) by omega) (show 0 ≤ k.pace by omega); omega) (by have := Int.tdiv_eq_ediv_of_nonneg (show 0 ≤ (c : Int) by omega) (b := k.pace); have := Int.ediv_le_self (b := k.pace) (show 0 ≤ (c : Int) by omega); omega),
      rCopy_s hsm.1 hsm.2, bd_ret]
    have hD0 : ∀ m σ, (pipeK l t k order s N).In m σ → ((pipeK l t k order s N).cyc m σ < c ↔ doneK l t k order s N c (0 : Nat) m σ) := fun m σ hi => by
      have := (hL.ord m hi.1).1.1
      unfold doneK; omega
    have hDn : ∀ m σ, (pipeK l t k order s N).In m σ → (doneK l t k order s N c k.ops.length m σ ↔ (pipeK l t k order s N).cyc m σ < (c + 1 : Nat)) := fun m σ hi => by
      have := (hL.ord m hi.1).1.2
      have := hL.n
      unfold doneK; omega
    obtain ⟨⟨q', M'⟩, e, hI'⟩ := lp_invM (f := roundelayref5_Play_L4 t k regs0 N (l.logs, true) M c (q.foldl (Pipe.land1 c) r)) (ρ := Empty) (n := k.ops.length) (fun (g : List Due × List (List Int)) i => (g.1, g.2, i)) (fun i g => OpsI l t k order s N c i g.1 g.2) (fun i g hi hg => by
        obtain ⟨q', M', e, hn⟩ := op_step (regs0 := regs0) hf h hs hN (by omega) h0 hR b3 b4 hi hg
        exact ⟨(q', M'), e, hn⟩) (fun g => by
        unfold roundelayref5_Play_L4
        simp only
        exact br_F (by unfold ln; omega)) (q.filter (fun d => decide (d.due ≠ (c : Int))), M) ⟨hQ.congr hD0, Words.congr b3 fun m σ a x _ => ⟨fun hh => ⟨hh.1, (hD0 m σ hh.1).1 hh.2⟩, fun hh => ⟨hh.1, (hD0 m σ hh.1).2 hh.2⟩⟩, b4, by omega⟩
    rw [show lp (roundelayref5_Play_L4 t k regs0 N (l.logs, true) M c (q.foldl (Pipe.land1 c) r)) (q.filter (fun d => decide (d.due ≠ (c : Int))), M, 0) = _ from e, bd_ret, Out.on_go, ck_IR (by omega) (by omega)]
    obtain ⟨c1, c2, c3, c4⟩ := hI'
    refine ⟨_, _, _, rfl, ⟨?_, ?_, ?_, c3, ?_⟩⟩
    · exact Pipe.Dues.congr c1 hDn
    · rw [show ((c + 1 : Nat) : Int) - 1 = c from by omega]; exact hR
    · exact Words.congr c2 fun m σ a x _ => ⟨fun hh => ⟨hh.1, (hDn m σ hh.1).1 hh.2⟩, fun hh => ⟨hh.1, (hDn m σ hh.1).2 hh.2⟩⟩
    · have c4' : q'.length ≤ 16 * c + k.ops.length := c4
      show q'.length ≤ _
      omega
structure EndK (l : Lp) (t : Tgt) (k : Krn) (order : List Int) (s : Sta) (r0 : List Int) (N : Nat) (r : List Int) (M : List (List Int)) : Prop where
  len : (r.length : Int) = t.regs
  zero : N = 0 → r = r0
  outs : 1 ≤ N → ∀ a : Nat, a < l.body.length → (a : Int) ∈ l.outs → ele r ((ele (layK l t k order).places (a : Int) + N - 1) % t.regs) = valS l s (N - 1) a
  mem : M = (runV l s N).2
theorem Play5_s (hf : l.Fine) (h : TakesP l t k order) (hs : StaOk l s) {N : Nat} (hN : N ≤ 200) {r0 : List Int} (hl0 : (r0.length : Int) = t.regs) (h0 : InitK l t k order s.bef r0) : ∃ r M, roundelayref5_Play_m t k r0 s.mem N = some (r, M) ∧ EndK l t k order s r0 N r M := by
  have hL := h.lay
  have hok := pipe_ok (s := s) (N := N) hL
  have hR := (layK_ok hL).regs
  have hrr : (layK l t k order).regs = t.regs := rfl
  rw [hrr] at hR
  have hp := hL.may.pace
  have hsg := hL.may.stages
  have hsm := hs.mem.small hs.loop
  unfold roundelayref5_Play_m
  rw [List.nil_append, ck_yes (AL_small (by omega) (by omega)), rCopy_s hsm.1 hsm.2, bd_ret, rLogs_s hs.loop hs.mem, bd_ret]
  by_cases hz : N = 0
  · subst hz
    refine ⟨r0, s.mem, rfl, ⟨hl0, fun _ => rfl, fun hh => by omega, rfl⟩⟩
  have h1 : 1 ≤ N := by omega
  have hlb := last_bd hL hN h1
  rw [show ((N : Int) == 0) = false from by simp [hz], br_false, ck_IR (by omega) (by omega), ck_IR (by omega) (by omega), ck_IR (by omega) (by omega)]
  obtain ⟨T, hT⟩ := Int.eq_ofNat_of_zero_le (show 0 ≤ (N + k.stages - 1) * k.pace + 6 + 1 by omega)
  have hinit : PlayI l t k order s r0 N 0 [] r0 s.mem := by
    refine ⟨⟨fun d hd => (by cases hd), fun m σ hi hd _ => ?_⟩, ⟨hl0, fun m σ hi hd _ => ?_, fun _ _ _ _ => rfl⟩, fun a x => .inr ⟨fun m σ hd => ?_, rfl⟩, hs.mem, by simp⟩
    · have := (cyc_last hL hi).1; omega
    · have := (cyc_last hL hi).1; have := Pipe.cyc_due hok hi; omega
    · have := (cyc_last hL hd.1).1; have := hd.2; omega
  obtain ⟨⟨q, r, M⟩, e, hI⟩ := lp_invM (f := roundelayref5_Play_L0 t k r0 N (l.logs, true)) (ρ := Empty) (n := T) (fun (g : List Due × List Int × List (List Int)) i => (g.1, g.2.1, g.2.2, i)) (fun c g => PlayI l t k order s r0 N c g.1 g.2.1 g.2.2) (fun c g hc hg => by
      obtain ⟨q', r', M', e, hn⟩ := cycle_s (regs0 := r0) hf h hs hN h1 h0 (by omega) hg
      exact ⟨(q', r', M'), e, hn⟩) (fun g => by
      unfold roundelayref5_Play_L0
      simp only
      rw [ck_IR (by omega) (by omega), ck_IR (by omega) (by omega)]
      exact br_F (by omega)) ([], r0, s.mem) hinit
  rw [show lp (roundelayref5_Play_L0 t k r0 N (l.logs, true)) ([], r0, s.mem, 0) = _ from e, bd_ret, Out.on_go]
  have hI : PlayI l t k order s r0 N T q r M := hI
  obtain ⟨b1, b2, b3, b4, b5⟩ := hI
  have hdl : ∀ m σ, (pipeK l t k order s N).In m σ → (pipeK l t k order s N).due m σ ≤ (T : Int) - 1 ∧ (pipeK l t k order s N).cyc m σ < T := fun m σ hi => by
    have hc := (cyc_last hL hi).2
    obtain ⟨y1, y2, _⟩ := layK_at (t := t) (k := k) (order := order) hi.1
    have hw := wait_ge hL.tgt (oprAt k order m).op
    have : (pipeK l t k order s N).due m σ = (pipeK l t k order s N).cyc m σ + waitV t (oprAt k order m).op := by
      show ele (layK l t k order).ready (m : Int) + σ * k.pace = ele (layK l t k order).time (m : Int) + σ * k.pace + _
      rw [y2, ← y1]; omega
    omega
  refine ⟨r, M, rfl, ⟨b2.len, fun hh => absurd hh hz, fun _ a ha hout => ?_, ?_⟩⟩
  · have hin : (pipeK l t k order s N).In a (N - 1) := ⟨ha, by show N - 1 < N; omega⟩
    have hreg : ∀ m' σ' : Nat, (pipeK l t k order s N).reg m' σ' = (ele (layK l t k order).places (m' : Int) + σ') % t.regs := fun _ _ => rfl
    have hdue : ∀ m' σ' : Nat, (pipeK l t k order s N).due m' σ' = ele (layK l t k order).ready (m' : Int) + σ' * k.pace := fun _ _ => rfl
    have := b2.put a (N - 1) hin (hdl _ _ hin).1 fun m' σ' hi d1 d2 d3 => by
      by_cases hne : m' = a ∧ σ' = N - 1
      · exact hne
      · exfalso
        have hσ' : σ' < N := hi.2
        rw [hdue, hdue] at d1
        rw [hreg, hreg] at d3
        have hjp : ((σ' : Int) - ((N - 1 : Nat) : Int)) * k.pace = σ' * k.pace - ((N - 1 : Nat) : Int) * k.pace := Int.sub_mul ..
        refine h.apart a m' ha hi.1 ((σ' : Int) - ((N - 1 : Nat) : Int)) (by omega) ?_ (.inr ⟨by omega, ?_, hout⟩)
        · have e := Int.emod_eq_emod_iff_emod_sub_eq_zero.1 d3
          rw [show ele (layK l t k order).places (m' : Int) + ((σ' : Int) - ((N - 1 : Nat) : Int)) - ele (layK l t k order).places (a : Int) = ele (layK l t k order).places (m' : Int) + σ' - (ele (layK l t k order).places (a : Int) + ((N - 1 : Nat) : Int)) from by omega]
          exact e
        · show _ ≤ _ + ((σ' : Int) - ((N - 1 : Nat) : Int)) * k.pace
          omega
    rw [hreg] at this
    rw [show ele (layK l t k order).places (a : Int) + (N : Int) - 1 = ele (layK l t k order).places (a : Int) + ((N - 1 : Nat) : Int) from by omega]
    exact this
  · have hq := seq_words hf hs N hN 0 (by omega)
    have hrun := run_ok hf hs N (by omega)
    have hsame : ∀ a x, wd M a x = wd (memS l s N 0) a x := fun a x => Words.same b3 hq fun m σ hh => by
      constructor
      · rintro ⟨hi, _⟩
        have : σ < N := hi.2
        exact ⟨hi.1, by unfold lexL; omega⟩
      · rintro ⟨hm, hl⟩
        have hi : (pipeK l t k order s N).In m σ := ⟨hm, by show σ < N; unfold lexL at hl; omega⟩
        exact ⟨hi, (hdl m σ hi).2⟩
    have hM2 := hrun.2.1
    have l1 := b4.len; have l2 := hM2.len
    refine list_eq' (by omega) fun i hi => ?_
    have r1 := b4.row i hi; have r2 := hM2.row i (by omega)
    rw [show M.getD i [] = ele M (i : Int) from rfl] at r1
    rw [show (runV l s N).2.getD i [] = ele (runV l s N).2 (i : Int) from rfl] at r2
    exact list_eq' (by omega) fun j hj => hsame i j
theorem entQ_at {y : LayD} (hy : y.Ok) {b : List (List Int)} {s : Nat} {R : List Int} (hR : (R.length : Int) = y.regs) : ∀ q, (∀ q', q' < q → regF y s q' ∉ frA y s q') → (∀ q' : Nat, q' < q → ele (entQ y b s R q) (regF y s q') = ele (ele b (s : Int)) (q' : Int)) ∧ ∀ x, 0 ≤ x → (∀ q' : Nat, q' < q → regF y s q' ≠ x) → ele (entQ y b s R q) x = ele R x
  | 0, _ => ⟨fun q' h => absurd h (by omega), fun x _ _ => rfl⟩
  | q + 1, h => by
    obtain ⟨i1, i2⟩ := entQ_at (b := b) hy hR q fun q' h' => h q' (by omega)
    have hb := reg_bd hy (s : Int) q
    have hl := entQ_len (b := b) (y := y) (s := s) (R := R) q
    have hlt : regF y s q < (entQ y b s R q).length := by omega
    refine ⟨fun q' hq' => ?_, fun x hx hn => ?_⟩
    · show ele (upd _ _ _) _ = _
      by_cases e : q' = q
      · subst e
        rw [ele_upd ⟨hb.1, by unfold ln; omega⟩]
      · have hb' := reg_bd hy (s : Int) q'
        have hne : regF y s q ≠ regF y s q' := fun he => h q (by omega) (by
          unfold frA
          rw [List.mem_map]
          exact ⟨q', List.mem_range.2 (by omega), he.symm⟩)
        rw [ele_upd_ne (by omega)]
        exact i1 q' (by omega)
    · show ele (upd _ _ _) _ = _
      have := hn q (by omega)
      rw [ele_upd_ne (by omega)]
      exact i2 x hx fun q' hq' => hn q' (by omega)
theorem entS_at {y : LayD} (hy : y.Ok) {b : List (List Int)} : ∀ n : Nat, (∀ s : Nat, s < n → ∀ q, q < (farV y.body s).toNat → regF y s q ∉ fregs y (natL s) ++ frA y s q) → ∀ a : Nat, a < n → ∀ q : Nat, q < (farV y.body (a : Int)).toNat → ele (entS y b y.regs.toNat n) (regF y a q) = ele (ele b (a : Int)) (q : Int)
  | 0, _, a, ha => absurd ha (by omega)
  | n + 1, h, a, ha => fun q hq => by
    have hRg := hy.regs
    have hl := entS_len (b := b) (y := y) (n := y.regs.toNat) n
    obtain ⟨i1, i2⟩ := entQ_at (b := b) (s := n) (R := entS y b y.regs.toNat n) hy (by omega) (farV y.body n).toNat fun q' hq' hm => h n (by omega) q' hq' (List.mem_append.2 (.inr hm))
    show ele (entQ _ _ _ _ _) _ = _
    by_cases e : a = n
    · subst e
      exact i1 q hq
    · have hb := reg_bd hy (a : Int) q
      rw [i2 _ hb.1 fun q' hq' he => h n (by omega) q' hq' (List.mem_append.2 (.inl (by
        unfold fregs
        rw [List.mem_flatMap]
        refine ⟨(a : Int), ?_, ?_⟩
        · unfold natL; rw [List.mem_map]; exact ⟨a, List.mem_range.2 (by omega), rfl⟩
        · unfold frA; rw [List.mem_map]; exact ⟨q, List.mem_range.2 hq, he.symm⟩)))]
      exact entS_at hy n (fun s hs => h s (by omega)) a (by omega) q hq
theorem init_ent (h : TakesP l t k order) (b : List (List Int)) : InitK l t k order b (entS (layK l t k order) b t.regs.toNat l.body.length) :=
  entS_at (layK_ok h.lay) l.body.length ((firsts_iff _).1 h.firsts)
theorem leave_out (h : TakesP l t k order) (hs : StaOk l s) {N : Nat} (hN : N ≤ 200) {r0 r : List Int} {M : List (List Int)} (he : EndK l t k order s r0 N r M) : (List.range l.outs.length).map (leaveV l t (layK l t k order) s.bef r N) = outsV l s N := by
  unfold outsV
  rw [← range_map' l.outs (fun a => ele (ele (runV l s N).1 0) a)]
  refine List.map_congr_left fun i hi => ?_
  have hi := List.mem_range.1 hi
  have ho := hs.loop.out i hi
  rw [show l.outs.getD i 0 = ele l.outs (i : Int) from rfl] at ho
  obtain ⟨a, ha⟩ := Int.eq_ofNat_of_zero_le ho.1
  have ha' : a < l.body.length := by omega
  have hmem : (a : Int) ∈ l.outs := by rw [← ha]; exact ele_mem' hi
  have hh := hist_at l s N 0 (by omega)
  rw [show ele (runV l s N).1 0 = (runV l s N).1.getD 0 [] from rfl, hh]
  unfold leaveV
  rw [ha]
  by_cases hz : N = 0
  · subst hz
    have hl := hs.len
    rw [if_pos (by omega), if_neg (by omega), col_at (by omega)]; rfl
  · rw [if_neg (by omega), if_pos (by omega), he.outs (by omega) a ha' hmem]
    rfl
end
end Go.Rd
end

section
namespace Go.Rd
set_option linter.unusedVariables false
theorem rFits_s (l : Lp) (s : Sta) (hf : l.Fine) (hb : RowsOk s.bef) (hm : RowsOk s.mem) : roundelayref2_Fits_m l s = some (tb (FitsP l s)) := by
  have hbl := hb.len; have hml := hm.len
  have hlb := hf.lbody; have hll := hf.llogs
  rw [maxLen_eq] at hbl hml hlb hll
  unfold roundelayref2_Fits_m
  rw [ref_May_s l hf, bd_ret]
  by_cases h0 : LoopOk l ∧ s.bef.length = l.body.length ∧ s.mem.length = l.logs.length
  · rw [show (((!tb (LoopOk l)) || (ln s.bef != ln l.body)) || (ln s.mem != ln l.logs)) = false from by
      rw [tb_t h0.1]; unfold ln; simp only [Bool.not_true, Bool.false_or, Bool.or_eq_false_iff, bne_eq_false_iff_eq]; omega, br_false]
    rcases lp_all (f := roundelayref2_Fits_L0 s) (n := s.bef.length) (p := fun i => (s.bef.getD i []).length = 3) (fun i hi _ => by
        have e : roundelayref2_Fits_L0 s i = br (!tb ((s.bef.getD i []).length = 3)) (some (.ret false)) (some (.next ((i : Int) + 1))) := by
          unfold roundelayref2_Fits_L0
          rw [br_T (by unfold ln; omega), ck_IX (by omega) (by unfold ln; omega), ck_IR (by omega) (by omega), ele_rows, neB]
          rw [tb_congr (show ln (s.bef.getD i []) = 3 ↔ (s.bef.getD i []).length = 3 from by unfold ln; omega)]
        rw [e]
        exact ⟨fun h => by rw [tb_t h]; rfl, fun h => by rw [tb_f h]; rfl⟩) (by unfold roundelayref2_Fits_L0; exact br_F (by unfold ln; omega)) with ⟨h1, e1⟩ | ⟨h1, e1⟩
    · rw [e1, bd_ret, Out.on_go]
      rcases lp_all (f := roundelayref2_Fits_L2 l s) (n := s.mem.length) (p := fun i => ((s.mem.getD i []).length : Int) = 2 ^ (l.logs.getD i 0).toNat) (fun i hi _ => by
          have hlg := h0.1.log i (by omega)
          have e : roundelayref2_Fits_L2 l s i = br (!tb (((s.mem.getD i []).length : Int) = 2 ^ (l.logs.getD i 0).toNat)) (some (.ret false)) (some (.next ((i : Int) + 1))) := by
            unfold roundelayref2_Fits_L2
            rw [br_T (by unfold ln; omega), ck_IX (by omega) (by unfold ln; omega), ele_int, Size_s _ hlg.2, bd_ret, ck_IX (by omega) (by unfold ln; omega), ck_IR (by omega) (by omega), ele_rows, neB]
            rfl
          rw [e]
          exact ⟨fun h => by rw [tb_t h]; rfl, fun h => by rw [tb_f h]; rfl⟩) (by unfold roundelayref2_Fits_L2; exact br_F (by unfold ln; omega)) with ⟨h2, e2⟩ | ⟨h2, e2⟩
      · rw [e2, bd_ret, Out.on_go, tb_t ⟨h0.1, h0.2.1, h0.2.2, h1, h2⟩]
      · rw [e2, bd_ret, Out.on_ret, tb_f fun h => h2 h.2.2.2.2]
    · rw [e1, bd_ret, Out.on_ret, tb_f fun h => h1 h.2.2.2.1]
  · have : (((!tb (LoopOk l)) || (ln s.bef != ln l.body)) || (ln s.mem != ln l.logs)) = true := by
      cases hc : (((!tb (LoopOk l)) || (ln s.bef != ln l.body)) || (ln s.mem != ln l.logs)) with
      | true => rfl
      | false =>
        unfold ln at hc
        simp only [Bool.or_eq_false_iff, bne_eq_false_iff_eq, Bool.not_eq_false'] at hc
        exact absurd ⟨tb_iff.1 hc.1.1, by omega, by omega⟩ h0
    rw [this, br_true, tb_f fun h => h0 ⟨h.1, h.2.1, h.2.2.1⟩]
theorem list_eq {α : Type} [Inhabited α] {a b : List α} : a = b ↔ (a.length = b.length ∧ ∀ i : Nat, i < a.length → ele a (i : Int) = ele b (i : Int)) := by
  constructor
  · rintro rfl; exact ⟨rfl, fun _ _ => rfl⟩
  · rintro ⟨h1, h2⟩
    apply List.ext_getElem h1
    intro i hi hi'
    have := h2 i hi
    simpa [ele_nat, List.getD_eq_getElem?_getD, hi, hi'] using this
theorem Numbers_s (a b : List Int) (h : a.length ≤ 9223372036854775806) : roundelayref3_Numbers_m a b = some (tb (a = b)) := by
  unfold roundelayref3_Numbers_m
  by_cases h0 : a.length = b.length
  · rw [show (ln a != ln b) = false from by unfold ln; simp; omega, br_false]
    rcases lp_all (f := roundelayref3_Numbers_L0 a b) (n := a.length) (p := fun i => ele a (i : Int) = ele b (i : Int)) (fun i hi _ => by
        have e : roundelayref3_Numbers_L0 a b i = br (!tb (ele a (i : Int) = ele b (i : Int))) (some (.ret false)) (some (.next ((i : Int) + 1))) := by
          unfold roundelayref3_Numbers_L0
          rw [br_T (by unfold ln; omega), ck_IX (by omega) (by unfold ln; omega), ck_IX (by omega) (by unfold ln; omega), ck_IR (by omega) (by omega), neB]
        rw [e]
        exact ⟨fun h => by rw [tb_t h]; rfl, fun h => by rw [tb_f h]; rfl⟩) (by unfold roundelayref3_Numbers_L0; exact br_F (by unfold ln; omega)) with ⟨h1, e1⟩ | ⟨h1, e1⟩
    · rw [e1, bd_ret, Out.on_go, tb_t (list_eq.2 ⟨h0, h1⟩)]
    · rw [e1, bd_ret, Out.on_ret, tb_f fun hh => h1 (list_eq.1 hh).2]
  · rw [show (ln a != ln b) = true from by unfold ln; simp; omega, br_true, tb_f fun hh => h0 (by rw [hh])]
theorem Words_s (a b : List (List Int)) (h : a.length ≤ 9223372036854775806) (h2 : ∀ r ∈ a, r.length ≤ 9223372036854775806) : roundelayref3_Words_m a b = some (tb (a = b)) := by
  unfold roundelayref3_Words_m
  by_cases h0 : a.length = b.length
  · rw [show (ln a != ln b) = false from by unfold ln; simp; omega, br_false]
    rcases lp_all (f := roundelayref3_Words_L0 a b) (n := a.length) (p := fun i => ele a (i : Int) = ele b (i : Int)) (fun i hi _ => by
        have e : roundelayref3_Words_L0 a b i = br (!tb (ele a (i : Int) = ele b (i : Int))) (some (.ret false)) (some (.next ((i : Int) + 1))) := by
          have hr := ele_all (p := fun r : List Int => r.length ≤ 9223372036854775806) h2 hi
          unfold roundelayref3_Words_L0
          rw [br_T (by unfold ln; omega), ck_IX (by omega) (by unfold ln; omega), ck_IX (by omega) (by unfold ln; omega), ck_IR (by omega) (by omega), Numbers_s _ _ hr, bd_ret]
        rw [e]
        exact ⟨fun h => by rw [tb_t h]; rfl, fun h => by rw [tb_f h]; rfl⟩) (by unfold roundelayref3_Words_L0; exact br_F (by unfold ln; omega)) with ⟨h1, e1⟩ | ⟨h1, e1⟩
    · rw [e1, bd_ret, Out.on_go, tb_t (list_eq.2 ⟨h0, h1⟩)]
    · rw [e1, bd_ret, Out.on_ret, tb_f fun hh => h1 (list_eq.1 hh).2]
  · rw [show (ln a != ln b) = true from by unfold ln; simp; omega, br_true, tb_f fun hh => h0 (by rw [hh])]
end Go.Rd
end

section
namespace Go.Rd
set_option linter.unusedVariables false
noncomputable def roundelaylaw_work_m (k_ : Krn) (turns : Int) : Option (Bool) :=
 ck ((!(((decide (turns > 300)) || (decide (k_.stages > 2000))) || (decide (k_.pace > 300)))) = true → IR (turns + k_.stages)) <|
 ck ((!(((decide (turns > 300)) || (decide (k_.stages > 2000))) || (decide (k_.pace > 300)))) = true → IR ((turns + k_.stages) * k_.pace)) <|
 some ((((decide (turns > 300)) || (decide (k_.stages > 2000))) || (decide (k_.pace > 300))) || (decide (((turns + k_.stages) * k_.pace) > 20000)))

noncomputable def roundelaylaw_does_m (l : Lp) (t : Tgt) (k_ : Krn) (order : List Int) (s : Sta) (turns : Int) : Option (Bool) :=
 bd (roundelayref10_Enter_m l t k_ order s.bef) fun x5 =>
 bd (roundelayref5_Play_m t k_ x5 s.mem turns) fun x9 =>
 bd (roundelayref10_Leave_m l t k_ order s.bef x9.1 turns) fun x13 =>
 bd (roundelayref3_Play_m l s turns) fun x17 =>
 bd (roundelayref3_Numbers_m x13 x17.outs) fun x22 =>
 bdG (x22) (roundelayref3_Words_m x9.2 x17.mem) fun x25 =>
 some (x22 && x25)
end Go.Rd
end

section
namespace Go.Rd
set_option linter.unusedVariables false
section
variable {l : Lp} {t : Tgt} {k : Krn} {order : List Int} {s : Sta}
theorem does_s (hf : l.Fine) (hk : KFine l k) (ho : order.length ≤ 9223372036854775807) (h : TakesP l t k order) (hs : StaOk l s) {N : Nat} (hN : N ≤ 200) : roundelaylaw_does_m l t k order s N = some true := by
  have hL := h.lay
  have hb : BefP l s.bef := ⟨hs.len, fun i hi => hs.bef i hi⟩
  have hR := (layK_ok hL).regs
  have hrr : (layK l t k order).regs = t.regs := rfl
  obtain ⟨r, M, e, hE⟩ := Play5_s hf h hs hN (r0 := entS (layK l t k order) s.bef t.regs.toNat l.body.length) (by rw [entS_len]; omega) (init_ent h s.bef)
  have hlo := leave_out h hs hN hE
  have hol := outs_len hs.loop
  have hrun := (run_ok hf hs N (by omega)).2.1
  have hsm := hrun.small hs.loop
  have hov : (outsV l s N).length ≤ 9223372036854775806 := by unfold outsV; rw [List.length_map]; omega
  unfold roundelaylaw_does_m
  rw [rEnter_s hf hk ho hL hb, bd_ret, e, bd_ret, rLeave_s hf hk ho hL hb hE.len ⟨by omega, by omega⟩, bd_ret, hlo, Play_s hf hs N hN, bd_ret, Numbers_s _ _ hov, bd_ret, tb_t rfl, bdG_t, hE.mem, Words_s _ _ (show (runV l s N).2.length ≤ 9223372036854775806 by omega) (fun r hr => by have := hsm.2 r hr; omega), bd_ret, tb_t rfl]
  rfl
end
end Go.Rd
end

section
namespace Go.Rd
set_option linter.unusedVariables false
noncomputable def kernel_Stmt_m (o : Opr) : Option (Stm) :=
 some (Stm.mk o.op (Rf.mk 0 0) (Rf.mk 0 0) o.ar o.sp o.pl o.n)

noncomputable def kernel_Time_m (k_ : Krn) (o : Opr) : Option (Int) :=
 ck (IR (o.stage * k_.pace)) <|
 ck (IR ((o.stage * k_.pace) + o.slot)) <|
 some ((o.stage * k_.pace) + o.slot)

noncomputable def kernel_op_c1_m (r_ : Int) (from_ : Int) (n : Int) (t : Tgt) : Option (Bool) :=
 some ((r_ == 0) || (((decide (n > from_)) && (decide (r_ > 0))) && (decide (r_ < t.regs))))

noncomputable def kernel_op_m (t : Tgt) (k_ : Krn) (o : Opr) (logs : List Int) : Option (Bool) :=
 bd (kernel_Stmt_m o) fun x4 =>
 bd (loop_Uses_m x4) fun x8 =>
 bd (show Option (Out (Int × Int × Int × Int) (Empty)) from br (decide ((ln x8) > 0)) (
 some (.go (0, 0, 0, 0))) (
 some (.go (x4.a.st, x4.a.bk, x4.b.st, x4.b.bk)))) fun o13 => o13.on (fun (b7c1_1, b7c2_1, b7c3_1, b7c4_1) =>
 bdG ((((decide (o.slot ≥ 0)) && (decide (o.slot < k_.pace))) && (decide (o.stage ≥ 0))) && (decide (o.stage < k_.stages))) (kernel_Time_m k_ o) fun x18 =>
 bdG (((((decide (o.slot ≥ 0)) && (decide (o.slot < k_.pace))) && (decide (o.stage ≥ 0))) && (decide (o.stage < k_.stages))) && (decide (x18 ≤ 1000))) (loop_May_m (Lp.mk logs [(Stm.mk 1 (Rf.mk 0 0) (Rf.mk 0 0) 0 0 0 0), (Stm.mk x4.op (Rf.mk b7c1_1 b7c2_1) (Rf.mk b7c3_1 b7c4_1) x4.ar x4.sp x4.pl x4.n)] [])) fun x21 =>
 bdG ((((((((decide (o.slot ≥ 0)) && (decide (o.slot < k_.pace))) && (decide (o.stage ≥ 0))) && (decide (o.stage < k_.stages))) && (decide (x18 ≤ 1000))) && x21) && (decide (o.dest ≥ 0))) && (decide (o.dest < t.regs))) (kernel_op_c1_m o.a 0 (ln x8) t) fun x24 =>
 bdG (((((((((decide (o.slot ≥ 0)) && (decide (o.slot < k_.pace))) && (decide (o.stage ≥ 0))) && (decide (o.stage < k_.stages))) && (decide (x18 ≤ 1000))) && x21) && (decide (o.dest ≥ 0))) && (decide (o.dest < t.regs))) && x24) (kernel_op_c1_m o.b 1 (ln x8) t) fun x27 =>
 some ((((((((((decide (o.slot ≥ 0)) && (decide (o.slot < k_.pace))) && (decide (o.stage ≥ 0))) && (decide (o.stage < k_.stages))) && (decide (x18 ≤ 1000))) && x21) && (decide (o.dest ≥ 0))) && (decide (o.dest < t.regs))) && x24) && x27)) (fun r => r.elim)

noncomputable def kernel_May_L0 (t : Tgt) (k_ : Krn) (logs : List Int) : ((List ((Int × Int) × Int)) × Int) → Option (Stp ((List ((Int × Int) × Int)) × Int) (Bool)) := fun (m9n_1, x50_1) =>
 br (decide (x50_1 < (ln k_.ops))) (
 ck (IX x50_1 (ln k_.ops)) <|
 bd (kernel_op_m t k_ (ele k_.ops x50_1) logs) fun x22 =>
 br (!x22) (
 some (.ret false)) (
 bd (num_Class_m ((ele k_.ops x50_1).op)) fun x28 =>
 ck (IR ((mget m9n_1 ((ele k_.ops x50_1).slot, x28) 0) + 1)) <|
 ck (IX x28 3) <|
 br (decide ((mget (mput m9n_1 ((ele k_.ops x50_1).slot, x28) ((mget m9n_1 ((ele k_.ops x50_1).slot, x28) 0) + 1)) ((ele k_.ops x50_1).slot, x28) 0) > (sel3 t.u0 t.u1 t.u2 x28))) (
 some (.ret false)) (
 ck (IR (x50_1 + 1)) <|
 some (.next ((mput m9n_1 ((ele k_.ops x50_1).slot, x28) ((mget m9n_1 ((ele k_.ops x50_1).slot, x28) 0) + 1)), (x50_1 + 1)))))) (
 some (.brk (m9n_1, x50_1)))
noncomputable def kernel_May_m (t : Tgt) (k_ : Krn) (logs : List Int) : Option (Bool) :=
 bd (target_May_m t) fun x3 =>
 br (((((((!x3) || (decide (k_.pace < 1))) || (decide (k_.pace > 200))) || (decide (k_.stages < 1))) || (decide (k_.stages > 1001))) || (decide ((ln k_.ops) < 1))) || (decide ((ln k_.ops) > 16))) (
 some false) (
 bd (lp (kernel_May_L0 t k_ logs) (([] : List ((Int × Int) × Int)), 0)) fun o10 => o10.on (fun (m9n_1, x50_1) =>
 some true) (fun r => some r))
end Go.Rd
end

section
namespace Go.Rd
set_option linter.unusedVariables false
def lpC (logs : List Int) (o : Opr) : Lp := ⟨logs, [⟨1, ⟨0, 0⟩, ⟨0, 0⟩, 0, 0, 0, 0⟩, stmO o], []⟩
theorem lpC_iff {logs : List Int} {o : Opr} : LoopOk (lpC logs o) ↔ LoopOk (lpO logs o) := by
  have hz : Rf.isZero ⟨0, 0⟩ := ⟨rfl, rfl⟩
  have key : ∀ s s' : Stm, (StmtOk logs.length 2 0 s') → LoopOk ⟨logs, [s, stmO o], []⟩ → LoopOk ⟨logs, [s', stmO o], []⟩ := fun s s' hs h => by
    refine ⟨h.1, h.2.1, h.2.2.1, h.2.2.2.1, h.2.2.2.2.1, fun j hj => ?_⟩
    have hj' : j = 0 ∨ j = 1 := by
      have : (Lp.mk logs [s', stmO o] []).body.length = 2 := rfl
      omega
    rcases hj' with rfl | rfl
    · exact hs
    · exact h.2.2.2.2.2 1 (by show (1 : Int) < 2; omega)
  refine ⟨fun h => key _ _ ?_ h, fun h => key _ _ ?_ h⟩
  · refine ⟨fun hh => ?_, fun hh => absurd hh (by decide), .inr (.inl ⟨rfl, rfl, ⟨rfl, rfl, rfl⟩, hz, hz⟩)⟩
    rcases hh with hh | hh <;> exact absurd hh (by decide)
  · refine ⟨fun hh => ?_, fun hh => absurd hh (by decide), .inl ⟨rfl, ⟨rfl, rfl, rfl⟩, hz, hz⟩⟩
    rcases hh with hh | hh <;> exact absurd hh (by decide)
theorem uses_ln (o : Opr) : ((usesL (stmO o)).length : Int) = usesN o.op := by
  unfold usesL usesN
  rw [show (stmO o).op = o.op from rfl]
  by_cases h : o.op = 4
  · rw [if_pos h, if_pos h]; rfl
  · by_cases h2 : o.op > 10
    · rw [if_neg h, if_pos h2, if_neg h, if_pos h2]; rfl
    · rw [if_neg h, if_neg h2, if_neg h, if_neg h2]; rfl
theorem lpC_fine {logs : List Int} {o : Opr} (h : (lpO logs o).Fine) : (lpC logs o).Fine := by
  have h0 : InR 0 := by unfold InR; omega
  have h1 : InR 1 := by unfold InR; omega
  refine ⟨h.rlogs, fun u hu => ?_, h.routs, h.llogs, h.lbody, h.louts⟩
  rcases List.mem_cons.1 hu with rfl | hu
  · exact ⟨h1, h0, h0, h0, h0, h0, h0, h0, h0⟩
  · exact h.rbody u (by rw [List.mem_singleton] at hu; subst hu; show stmO o ∈ [turnS, stmO o]; simp)
theorem kop_s {t : Tgt} (ht : tgtOk t = true) {k : Krn} {o : Opr} {logs : List Int} (hp : 1 ≤ k.pace ∧ k.pace ≤ 200) (hs : 1 ≤ k.stages ∧ k.stages ≤ 1001) (hf : (lpO logs o).Fine) : kernel_op_m t k o logs = some (tb (OneP t k o logs)) := by
  rw [tgtOk_iff] at ht
  have hst : kernel_Stmt_m o = some (stmO o) := rfl
  have hu : loop_Uses_m (stmO o) = some (usesL (stmO o)) := Uses_s _
  have hun := uses_ln o
  have hmay : loop_May_m (lpC logs o) = some (tb (LoopOk (lpO logs o))) := by
    rw [May_s _ (lpC_fine hf)]
    congr 1
    exact tb_congr lpC_iff
  unfold kernel_op_m
  rw [hst, bd_ret, hu, bd_ret]
  have hsel : (show Option (Out (Int × Int × Int × Int) (Empty)) from br (decide ((ln (usesL (stmO o))) > 0)) (some (.go (0, 0, 0, 0))) (some (.go ((stmO o).a.st, (stmO o).a.bk, (stmO o).b.st, (stmO o).b.bk)))) = some (.go (0, 0, 0, 0)) := by
    by_cases c : ln (usesL (stmO o)) > 0
    · rw [decide_eq_true c]; rfl
    · rw [decide_eq_false c]; rfl
  rw [hsel, bd_ret, Out.on_go]
  simp only
  rw [show (Lp.mk logs [(Stm.mk 1 (Rf.mk 0 0) (Rf.mk 0 0) 0 0 0 0), (Stm.mk (stmO o).op (Rf.mk 0 0) (Rf.mk 0 0) (stmO o).ar (stmO o).sp (stmO o).pl (stmO o).n)] []) = lpC logs o from rfl]
  by_cases h1 : 0 ≤ o.slot ∧ o.slot < k.pace ∧ 0 ≤ o.stage ∧ o.stage < k.stages
  · have m1 := mul_le (a := o.stage) (A := 1001) (b := k.pace) (B := 200) (by omega) (by omega) (by omega) (by omega)
    have htm : kernel_Time_m k o = some (o.stage * k.pace + o.slot) := by
      unfold kernel_Time_m
      rw [ck_IR (by omega) (by omega), ck_IR (by omega) (by omega)]
    have hc : ((((decide (o.slot ≥ 0)) && (decide (o.slot < k.pace))) && (decide (o.stage ≥ 0))) && (decide (o.stage < k.stages))) = true := by
      simp only [Bool.and_eq_true, decide_eq_true_eq]; omega
    rw [hc, htm, bdG_t, bd_ret, Bool.true_and]
    by_cases h2 : o.stage * k.pace + o.slot ≤ 1000
    · rw [decide_eq_true h2, bdG_t, hmay, bd_ret, Bool.true_and]
      by_cases h3 : LoopOk (lpO logs o)
      · rw [tb_t h3, Bool.true_and]
        by_cases h4 : 0 ≤ o.dest ∧ o.dest < t.regs
        · rw [show (decide (o.dest ≥ 0) && decide (o.dest < t.regs)) = true from by simp only [Bool.and_eq_true, decide_eq_true_eq]; omega, bdG_t]
          unfold kernel_op_c1_m
          rw [bd_ret, bdG_some', Bool.true_and]
          have ha : ((o.a == 0) || (((decide (ln (usesL (stmO o)) > 0)) && (decide (o.a > 0))) && (decide (o.a < t.regs)))) = tb (o.a = 0 ∨ (0 < usesN o.op ∧ 0 < o.a ∧ o.a < t.regs)) := tb_eq (by unfold ln; rw [hun]; simp [and_assoc])
          have hb : ((o.b == 0) || (((decide (ln (usesL (stmO o)) > 1)) && (decide (o.b > 0))) && (decide (o.b < t.regs)))) = tb (o.b = 0 ∨ (1 < usesN o.op ∧ 0 < o.b ∧ o.b < t.regs)) := tb_eq (by unfold ln; rw [hun]; simp [and_assoc])
          rw [ha, hb]
          have hN : NamesP t o ↔ (o.a = 0 ∨ (0 < usesN o.op ∧ 0 < o.a ∧ o.a < t.regs)) ∧ (o.b = 0 ∨ (1 < usesN o.op ∧ 0 < o.b ∧ o.b < t.regs)) := by
            unfold NamesP
            constructor
            · rintro ⟨a1, a2, a3, a4, a5, a6, a7, a8⟩
              refine ⟨?_, ?_⟩
              · by_cases c : o.a = 0
                · exact .inl c
                · exact .inr ⟨by have : ¬ usesN o.op < 1 := fun hh => c (a7 hh); omega, by omega, a4⟩
              · by_cases c : o.b = 0
                · exact .inl c
                · exact .inr ⟨by have : ¬ usesN o.op < 2 := fun hh => c (a8 hh); omega, by omega, a6⟩
            · rintro ⟨b1, b2⟩
              refine ⟨h4.1, h4.2, ?_, ?_, ?_, ?_, fun hh => ?_, fun hh => ?_⟩
              all_goals first | omega | (rcases b1 with b1 | b1 <;> rcases b2 with b2 | b2 <;> omega)
          by_cases h5 : (o.a = 0 ∨ (0 < usesN o.op ∧ 0 < o.a ∧ o.a < t.regs))
          · by_cases h6 : (o.b = 0 ∨ (1 < usesN o.op ∧ 0 < o.b ∧ o.b < t.regs))
            · rw [tb_t h5, tb_t h6, tb_t (p := OneP t k o logs) ⟨⟨h1.1, h1.2.1, h1.2.2.1, h1.2.2.2, h2⟩, hN.2 ⟨h5, h6⟩, h3⟩]; rfl
            · rw [tb_t h5, tb_f h6, tb_f fun hh : OneP t k o logs => h6 (hN.1 hh.2.1).2]; rfl
          · rw [tb_f h5, tb_f fun hh : OneP t k o logs => h5 (hN.1 hh.2.1).1]; rfl
        · have hd : (decide (o.dest ≥ 0) && decide (o.dest < t.regs)) = false := by
            rw [Bool.and_eq_false_iff, decide_eq_false_iff_not, decide_eq_false_iff_not]; omega
          rw [hd, tb_f fun hh : OneP t k o logs => h4 ⟨hh.2.1.1, hh.2.1.2.1⟩]; rfl
      · rw [tb_f h3, tb_f fun hh : OneP t k o logs => h3 hh.2.2]; rfl
    · rw [decide_eq_false h2, tb_f fun hh : OneP t k o logs => h2 hh.1.2.2.2.2]; rfl
  · have hc : ((((decide (o.slot ≥ 0)) && (decide (o.slot < k.pace))) && (decide (o.stage ≥ 0))) && (decide (o.stage < k.stages))) = false := by
      cases hh : ((((decide (o.slot ≥ 0)) && (decide (o.slot < k.pace))) && (decide (o.stage ≥ 0))) && (decide (o.stage < k.stages))) with
      | false => rfl
      | true =>
        simp only [Bool.and_eq_true, decide_eq_true_eq] at hh
        exact absurd ⟨hh.1.1.1, hh.1.1.2, hh.1.2, hh.2⟩ h1
    rw [hc, tb_f fun hh : OneP t k o logs => h1 ⟨hh.1.1, hh.1.2.1, hh.1.2.2.1, hh.1.2.2.2.1⟩]
    rfl
theorem cntO_all {t : Tgt} (ht : tgtOk t = true) {k : Krn} {n : Nat} : (∀ i, i < n → (cntO k (i + 1) (keyO k i) : Int) ≤ unitsV t (keyO k i).2) ↔ (∀ i, i < n → (cntO k n (keyO k i) : Int) ≤ unitsV t (keyO k i).2) := by
  have mono : ∀ (κ : Int × Int) i j, i ≤ j → cntO k i κ ≤ cntO k j κ := fun κ i j h => by
    induction j with
    | zero => have : i = 0 := by omega
              subst this; exact Nat.le_refl _
    | succ j ih =>
      by_cases e : i = j + 1
      · subst e; exact Nat.le_refl _
      · rw [cntO_succ]; have := ih (by omega); omega
  constructor
  · intro h
    have key : ∀ m, m ≤ n → ∀ κ, (cntO k m κ : Int) ≤ unitsV t κ.2 := by
      intro m
      induction m with
      | zero => intro _ κ; have := (units_bd ht κ.2).1; show ((0 : Nat) : Int) ≤ _; omega
      | succ m ih =>
        intro hm κ
        by_cases e : keyO k m = κ
        · have := h m (by omega); rw [e] at this; exact this
        · rw [cntO_succ, if_neg e]; exact ih (by omega) κ
    exact fun i _ => key n (Nat.le_refl _) _
  · intro h i hi
    have := h i hi
    have := mono (keyO k i) (i + 1) n hi
    omega
theorem pMay_s {t : Tgt} {k : Krn} {logs : List Int} (hf : ∀ i : Nat, i < k.ops.length → (lpO logs (ele k.ops (i : Int))).Fine) : kernel_May_m t k logs = some (tb (KMayP t k logs)) := by
  unfold kernel_May_m
  rw [target_May_s, bd_ret]
  by_cases h : tgtOk t = true ∧ (1 ≤ k.pace ∧ k.pace ≤ 200) ∧ (1 ≤ k.stages ∧ k.stages ≤ 1001) ∧ (1 ≤ k.ops.length ∧ k.ops.length ≤ 16)
  · obtain ⟨h1, h2, h3, h4⟩ := h
    rw [show (((((((!tgtOk t) || (decide (k.pace < 1))) || (decide (k.pace > 200))) || (decide (k.stages < 1))) || (decide (k.stages > 1001))) || (decide ((ln k.ops) < 1))) || (decide ((ln k.ops) > 16))) = false from by rw [h1]; unfold ln; simp; omega, br_false]
    rcases lp_chk (f := kernel_May_L0 t k logs) (n := k.ops.length) (r0 := false) (fun i => OneP t k (ele k.ops (i : Int)) logs ∧ (cntO k (i + 1) (keyO k i) : Int) ≤ unitsV t (keyO k i).2) (fun i m => ∀ κ, mget m κ 0 = (cntO k i κ : Int)) (fun i g hi hg => by
        have hc := clsV_range (ele k.ops (i : Int)).op
        have hcl := cntO_le k (keyO k i) i
        have hk : ((ele k.ops (i : Int)).slot, clsV (ele k.ops (i : Int)).op) = keyO k i := rfl
        have hmg := hg (keyO k i)
        have hnew : mget (mput g (keyO k i) (mget g (keyO k i) 0 + 1)) (keyO k i) 0 = (cntO k (i + 1) (keyO k i) : Int) := by rw [mget_mput, if_pos rfl, hmg, cntO_succ, if_pos rfl]; rfl
        have hun : sel3 t.u0 t.u1 t.u2 (clsV (ele k.ops (i : Int)).op) = unitsV t (keyO k i).2 := rfl
        unfold kernel_May_L0
        simp only
        rw [br_T (by unfold ln; omega), ck_IX (by omega) (by unfold ln; omega), kop_s h1 h2 h3 (hf i hi), bd_ret]
        by_cases h5 : OneP t k (ele k.ops (i : Int)) logs
        · rw [tb_t h5, Bool.not_true, br_false, num_Class_s, bd_ret, hk, ck_IR (by omega) (by omega), ck_IX hc.1 hc.2, hnew, hun]
          by_cases h6 : (cntO k (i + 1) (keyO k i) : Int) > unitsV t (keyO k i).2
          · rw [br_T h6]; exact .inr ⟨fun h => by omega, rfl⟩
          · rw [br_F h6, ck_IR (by omega) (by omega)]
            refine .inl ⟨⟨h5, by omega⟩, _, rfl, fun κ => ?_⟩
            rw [mget_mput, cntO_succ]
            by_cases hq : keyO k i = κ
            · rw [if_pos hq, if_pos hq, hmg, hq]; rfl
            · rw [if_neg hq, if_neg hq, hg]; rfl
        · rw [tb_f h5]
          exact .inr ⟨fun h => h5 h.1, rfl⟩) (fun g => by unfold kernel_May_L0; exact br_F (by unfold ln; omega)) [] (fun κ => rfl) with ⟨q1, m, e, _⟩ | ⟨q1, e⟩
    · rw [e, bd_ret, Out.on_go, tb_t (p := KMayP t k logs) ⟨h1, h2, h3, h4, fun i hi => (q1 i hi).1, (cntO_all h1).1 fun i hi => (q1 i hi).2⟩]
    · rw [e, bd_ret, Out.on_ret, tb_f fun h : KMayP t k logs => q1 fun i hi => ⟨h.one i hi, (cntO_all h1).2 h.units i hi⟩]
  · rw [tb_f fun hk : KMayP t k logs => h ⟨hk.tgt, hk.pace, hk.stages, hk.n⟩]
    have hc : (((((((!tgtOk t) || (decide (k.pace < 1))) || (decide (k.pace > 200))) || (decide (k.stages < 1))) || (decide (k.stages > 1001))) || (decide ((ln k.ops) < 1))) || (decide ((ln k.ops) > 16))) = true := by
      cases hh : (((((((!tgtOk t) || (decide (k.pace < 1))) || (decide (k.pace > 200))) || (decide (k.stages < 1))) || (decide (k.stages > 1001))) || (decide ((ln k.ops) < 1))) || (decide ((ln k.ops) > 16))) with
      | true => rfl
      | false =>
        unfold ln at hh
        simp only [Bool.or_eq_false_iff, Bool.not_eq_false', decide_eq_false_iff_not] at hh
        obtain ⟨⟨⟨⟨⟨⟨a1, a2⟩, a3⟩, a4⟩, a5⟩, a6⟩, a7⟩ := hh
        exact absurd ⟨a1, ⟨by omega, by omega⟩, ⟨by omega, by omega⟩, by omega, by omega⟩ h
    rw [hc]; rfl
end Go.Rd
end

section
namespace Go.Rd
set_option linter.unusedVariables false
noncomputable def check_layout_L0 (l : Lp) (t : Tgt) (k_ : Krn) (order : List Int) : ((List Int) × (List Int) × (List Int) × (List (Int × Bool)) × Int) → Option (Stp ((List Int) × (List Int) × (List Int) × (List (Int × Bool)) × Int) (Option LayT × Bool)) := fun (v17_1, v16_1, v15_1, m14n_1, x54_1) =>
 br (decide (x54_1 < (ln order))) (
 ck (IX x54_1 (ln order)) <|
 br (((decide ((ele order x54_1) < 0)) || (decide ((ele order x54_1) ≥ (ln k_.ops)))) || (mget m14n_1 (ele order x54_1) false)) (
 some (.ret (none, false))) (
 ck (IX (ele order x54_1) (ln k_.ops)) <|
 ck (IX x54_1 (ln l.body)) <|
 bd (kernel_Stmt_m (ele k_.ops (ele order x54_1))) fun x42 =>
 br (!([x42.op, x42.a.st, x42.a.bk, x42.b.st, x42.b.bk, x42.ar, x42.sp, x42.pl, x42.n] == [(ele l.body x54_1).op, 0, 0, 0, 0, (ele l.body x54_1).ar, (ele l.body x54_1).sp, (ele l.body x54_1).pl, (ele l.body x54_1).n])) (
 some (.ret (none, false))) (
 bd (kernel_Time_m k_ (ele k_.ops (ele order x54_1))) fun x48 =>
 ck (AL (v15_1 ++ [x48]).length 8) <|
 bd (kernel_Time_m k_ (ele k_.ops (ele order x54_1))) fun x56 =>
 bd (target_Wait_m t ((ele k_.ops (ele order x54_1)).op)) fun x59 =>
 ck (IR (x56 + x59)) <|
 ck (AL (v16_1 ++ [(x56 + x59)]).length 8) <|
 ck (IR ((ele k_.ops (ele order x54_1)).dest + (ele k_.ops (ele order x54_1)).stage)) <|
 ck (AL (v17_1 ++ [((ele k_.ops (ele order x54_1)).dest + (ele k_.ops (ele order x54_1)).stage)]).length 8) <|
 ck (IR (x54_1 + 1)) <|
 some (.next ((v17_1 ++ [((ele k_.ops (ele order x54_1)).dest + (ele k_.ops (ele order x54_1)).stage)]), (v16_1 ++ [(x56 + x59)]), (v15_1 ++ [x48]), (mput m14n_1 (ele order x54_1) true), (x54_1 + 1)))))) (
 some (.brk (v17_1, v16_1, v15_1, m14n_1, x54_1)))
noncomputable def check_layout_m (l : Lp) (t : Tgt) (k_ : Krn) (order : List Int) : Option (Option LayT × Bool) :=
 bd (loop_May_m l) fun x4 =>
 bdG (!(!x4)) (kernel_May_m t k_ l.logs) fun x7 =>
 br ((((!x4) || (!x7)) || ((ln k_.ops) != (ln l.body))) || ((ln order) != (ln l.body))) (
 some (none, false)) (
 bd (lp (check_layout_L0 l t k_ order) ([], [], [], ([] : List (Int × Bool)), 0)) fun o18 => o18.on (fun (v17_1, v16_1, v15_1, m14n_1, x54_1) =>
 some ((some (l.logs, l.body, l.outs, k_.pace, t.regs, v15_1, v16_1, v17_1)), true)) (fun r => some r))

noncomputable def check_named_L2 (t : Tgt) (k_ : Krn) (order : List Int) (y_Places : List Int) (x19_3 : Int) (x25 : List Rf) : Int → Option (Stp (Int) (Bool)) := fun x35_4 =>
 br (decide (x35_4 < (ln x25))) (
 ck (IX x35_4 (ln x25)) <|
 ck (IX x35_4 2) <|
 ck (IX ((ele x25 x35_4).st) (ln y_Places)) <|
 ck (IR ((ele y_Places ((ele x25 x35_4).st)) - (ele x25 x35_4).bk)) <|
 ck (IR (((ele y_Places ((ele x25 x35_4).st)) - (ele x25 x35_4).bk) - (ele k_.ops (ele order x19_3)).stage)) <|
 bd (emit_Rest_m (((ele y_Places ((ele x25 x35_4).st)) - (ele x25 x35_4).bk) - (ele k_.ops (ele order x19_3)).stage) t.regs) fun x51 =>
 br ((ele ([(ele k_.ops (ele order x19_3)).a, (ele k_.ops (ele order x19_3)).b] : List Int) x35_4) != x51) (
 some (.ret false)) (
 ck (IR (x35_4 + 1)) <|
 some (.next (x35_4 + 1)))) (
 some (.brk x35_4))
noncomputable def check_named_L0 (l : Lp) (t : Tgt) (k_ : Krn) (order : List Int) (y_Places : List Int) : Int → Option (Stp (Int) (Bool)) := fun x19_3 =>
 br (decide (x19_3 < (ln l.body))) (
 ck (IX x19_3 (ln l.body)) <|
 ck (IX x19_3 (ln order)) <|
 ck (IX (ele order x19_3) (ln k_.ops)) <|
 bd (loop_Uses_m (ele l.body x19_3)) fun x25 =>
 bd (lp (check_named_L2 t k_ order y_Places x19_3 x25) 0) fun o29 => o29.on (fun x35_4 =>
 ck (IR (x19_3 + 1)) <|
 some (.next (x19_3 + 1))) (fun r => some (.ret r))) (
 some (.brk x19_3))
noncomputable def check_named_m (l : Lp) (t : Tgt) (k_ : Krn) (order : List Int) (y_Pace : Int) (y_Regs : Int) (y_Places : List Int) : Option (Bool) :=
 bd (lp (check_named_L0 l t k_ order y_Places) 0) fun o4 => o4.on (fun x19_3 =>
 some true) (fun r => some r)

noncomputable def check_takes_L0 (k_ : Krn) (y9 : LayT) (x25 : List Edg × Int) : Int → Option (Stp (Int) (Option LayT × Bool)) := fun x46_1 =>
 br (decide (x46_1 < (ln x25.1))) (
 ck (IX x46_1 (ln x25.1)) <|
 ck (IX ((ele x25.1 x46_1).to) (ln y9.2.2.2.2.2.1)) <|
 ck (IR ((ele x25.1 x46_1).bk * k_.pace)) <|
 ck (IR ((ele y9.2.2.2.2.2.1 ((ele x25.1 x46_1).to)) + ((ele x25.1 x46_1).bk * k_.pace))) <|
 ck (IX ((ele x25.1 x46_1).fr) (ln y9.2.2.2.2.2.1)) <|
 ck (IR ((ele y9.2.2.2.2.2.1 ((ele x25.1 x46_1).fr)) + (ele x25.1 x46_1).wt)) <|
 br (decide (((ele y9.2.2.2.2.2.1 ((ele x25.1 x46_1).to)) + ((ele x25.1 x46_1).bk * k_.pace)) < ((ele y9.2.2.2.2.2.1 ((ele x25.1 x46_1).fr)) + (ele x25.1 x46_1).wt))) (
 some (.ret (none, false))) (
 ck (IR (x46_1 + 1)) <|
 some (.next (x46_1 + 1)))) (
 some (.brk x46_1))
noncomputable def check_takes_L4 (l : Lp) (y9 : LayT) (x80_5 : Int) : Int → Option (Stp (Int) (Option LayT × Bool)) := fun x90_6 =>
 br (decide (x90_6 < (ln l.body))) (
 bd (keep_Layout_Apart_m y9.2.1 y9.2.2.1 y9.2.2.2.1 y9.2.2.2.2.1 y9.2.2.2.2.2.1 y9.2.2.2.2.2.2.1 y9.2.2.2.2.2.2.2 x80_5 x90_6) fun x54 =>
 br (!x54) (
 some (.ret (none, false))) (
 ck (IR (x90_6 + 1)) <|
 some (.next (x90_6 + 1)))) (
 some (.brk x90_6))
noncomputable def check_takes_L2 (l : Lp) (y9 : LayT) : ((List Int) × Int) → Option (Stp ((List Int) × Int) (Option LayT × Bool)) := fun (v34_5, x80_5) =>
 br (decide (x80_5 < (ln l.body))) (
 ck (AL (v34_5 ++ [x80_5]).length 8) <|
 bd (lp (check_takes_L4 l y9 x80_5) 0) fun o47 => o47.on (fun x90_6 =>
 ck (IR (x80_5 + 1)) <|
 some (.next ((v34_5 ++ [x80_5]), (x80_5 + 1)))) (fun r => some (.ret r))) (
 some (.brk (v34_5, x80_5)))
noncomputable def check_takes_m (l : Lp) (t : Tgt) (k_ : Krn) (order : List Int) : Option (Option LayT × Bool) :=
 bd (check_layout_m l t k_ order) fun x4 =>
 optC x4.1 (
 ck (x4.2 = false) <|
 ck ((!(!false)) = true → False) <|
 some (none, false)) fun y9 =>
 bdG (!(!x4.2)) (check_named_m l t k_ order y9.2.2.2.1 y9.2.2.2.2.1 y9.2.2.2.2.2.2.2) fun x19 =>
 br ((!x4.2) || (!x19)) (
 some (none, false)) (
 bd (dep_Edges_m l t) fun x25 =>
 bd (lp (check_takes_L0 k_ y9 x25) 0) fun o29 => o29.on (fun x46_1 =>
 bd (lp (check_takes_L2 l y9) ([], 0)) fun o35 => o35.on (fun (v34_5, x80_5) =>
 bd (keep_Layout_Firsts_m y9.1 y9.2.1 y9.2.2.1 y9.2.2.2.1 y9.2.2.2.2.1 y9.2.2.2.2.2.2.2 v34_5) fun x40 =>
 some ((some (y9.1, y9.2.1, y9.2.2.1, y9.2.2.2.1, y9.2.2.2.2.1, y9.2.2.2.2.2.1, y9.2.2.2.2.2.2.1, y9.2.2.2.2.2.2.2)), x40)) (fun r => some r)) (fun r => some r))

noncomputable def check_Takes_m (l : Lp) (t : Tgt) (k_ : Krn) (order : List Int) : Option (Bool) :=
 bd (check_takes_m l t k_ order) fun x4 =>
 optC x4.1 (
 ck (x4.2 = false) <|
 some false) fun y9 =>
 some x4.2
end Go.Rd
end
