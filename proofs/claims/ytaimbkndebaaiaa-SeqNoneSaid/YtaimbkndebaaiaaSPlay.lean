/- Loops that run, by the document: what the reference's models come to. -/
import Derived.Test.YtaimbkndebaaiaaSSeq
namespace Go.Rd
set_option linter.unusedVariables false
set_option linter.unusedSimpArgs false

theorem upd_upd {α : Type} (l : List α) (i : Int) (a b : α) : upd (upd l i a) i b = upd l i b := by unfold upd; rw [List.set_set]
theorem ele_upd {α : Type} [Inhabited α] {l : List α} {i : Int} {a : α} (h : IX i (ln l)) : ele (upd l i a) i = a := by
  have : i.toNat < l.length := by have := h.1; have := h.2; unfold ln at this; omega
  unfold ele upd
  rw [List.getD_eq_getElem?_getD, List.getElem?_set]
  simp [this]
theorem ele_upd_ne {α : Type} [Inhabited α] {l : List α} {i j : Int} {a : α} (h : i.toNat ≠ j.toNat) : ele (upd l i a) j = ele l j := by
  unfold ele upd
  rw [List.getD_eq_getElem?_getD, List.getElem?_set, if_neg h, ← List.getD_eq_getElem?_getD]
theorem set_fill {α : Type} (a : List α) (m : Nat) (z v : α) : (a ++ List.replicate (m + 1) z).set a.length v = (a ++ [v]) ++ List.replicate m z := by
  rw [List.set_append_right _ _ (Nat.le_refl _), Nat.sub_self, List.replicate_succ, List.set_cons_zero]
  simp
/-- What turn t came to. -/
def rowV (l : Lp) (s : Sta) (t : Nat) : List Int := (turnV l (runV l s t).1 (runV l s t).2 t).1
theorem hist_at (l : Lp) (s : Sta) : ∀ (t j : Nat), j < t + 3 → (runV l s t).1.getD j [] = if j < t then rowV l s (t - 1 - j) else colV s.bef (j - t)
  | 0, 0, _ => rfl
  | 0, 1, _ => rfl
  | 0, 2, _ => rfl
  | 0, j + 3, h => by omega
  | t + 1, 0, _ => rfl
  | t + 1, j + 1, h => by
    have ih := hist_at l s t j (by omega)
    show (runV l s t).1.getD j [] = _
    rw [ih]
    by_cases hj : j < t
    · rw [if_pos hj, if_pos (by omega), show t + 1 - 1 - (j + 1) = t - 1 - j from by omega]
    · rw [if_neg hj, if_neg (by omega), show j + 1 - (t + 1) = j - t from by omega]
def allV (l : Lp) (s : Sta) (n t : Nat) : List (List Int) := (List.range n).map fun i => if i < t then rowV l s i else []
theorem allV_len (l : Lp) (s : Sta) (n t : Nat) : (allV l s n t).length = n := by simp [allV]
theorem allV_at (l : Lp) (s : Sta) {n t i : Nat} (h : i < n) : ele (allV l s n t) (i : Int) = if i < t then rowV l s i else [] := by
  rw [ele_nat, List.getD_eq_getElem?_getD, allV, List.getElem?_map, List.getElem?_range h]
  rfl
theorem allV_next (l : Lp) (s : Sta) {n t : Nat} (h : t < n) : upd (allV l s n t) t (rowV l s t) = allV l s n (t + 1) := by
  apply List.ext_getElem?
  intro i
  unfold upd allV
  rw [Int.toNat_natCast, List.getElem?_set, List.getElem?_map, List.getElem?_map, List.length_map, List.length_range]
  by_cases hi : t = i
  · subst hi
    simp [h]
  · rw [if_neg hi]
    by_cases hn : i < n
    · rw [List.getElem?_range hn]
      simp only [Option.map_some]
      by_cases h1 : i < t
      · rw [if_pos h1, if_pos (by omega)]
      · rw [if_neg h1, if_neg (by omega)]
    · rw [List.getElem?_eq_none (by simp; omega)]
      rfl
theorem col_at {s : Sta} {j i : Nat} (h : i < s.bef.length) : ele (colV s.bef j) (i : Int) = (ele s.bef (i : Int)).getD j 0 := by
  have e : ele s.bef (i : Int) = s.bef[i] := by rw [ele_nat, List.getD_eq_getElem?_getD, List.getElem?_eq_getElem h]; rfl
  rw [e, ele_nat, List.getD_eq_getElem?_getD, colV, List.getElem?_map, List.getElem?_eq_getElem h]
  rfl
theorem is_s {l : Lp} {s : Sta} (h : StaOk l s) (hf : l.Fine) {n t k : Nat} (hn : n ≤ 200) (ht : t < n) (hk : k ≤ l.body.length) {now z : List Int} (hnow : now.length = k) (hz : (now ++ z).length = l.body.length) {x : Rf} (hx : RefOk l.body.length k x) :
    roundelayref3_is_m s (upd (allV l s n t) t (now ++ z)) x t = some (refV (runV l s t).1 now x) := by
  obtain ⟨a1, a2, a3, a4, a5⟩ := hx
  have hrun := run_ok hf h t (by omega)
  have hst : ((x.st.toNat : Nat) : Int) = x.st := by omega
  have hlen : (upd (allV l s n t) t (now ++ z)).length = n := by rw [upd_length, allV_len]
  have hb16 := h.loop.2.2.1
  unfold roundelayref3_is_m refV
  rw [ck_IR (by omega) (by omega)]
  by_cases hb : x.bk = 0
  · have hs4 := a4 hb
    rw [br_T (by omega), ck_IX (by omega) (by unfold ln; omega), show (t : Int) - x.bk = t from by omega, ele_upd ⟨by omega, by unfold ln; rw [allV_len]; omega⟩, ck_IX a3 (by unfold ln; omega), if_pos hb]
    congr 1
    unfold ele
    rw [List.getD_eq_getElem?_getD, List.getElem?_append_left (by omega), ← List.getD_eq_getElem?_getD]
  · rw [if_neg hb]
    have hs5 := a5 hb
    have hh := hist_at l s t (x.bk - 1).toNat (by omega)
    have hele : ele (runV l s t).1 (x.bk - 1) = (runV l s t).1.getD (x.bk - 1).toNat [] := rfl
    by_cases hge : (t : Int) - x.bk ≥ 0
    · have hi : (((t : Int) - x.bk).toNat : Int) = (t : Int) - x.bk := by omega
      have hrow : (rowV l s ((t : Int) - x.bk).toNat).length = l.body.length := by
        have h1 := (run_ok hf h (((t : Int) - x.bk).toNat + 1) (by omega)).1 (rowV l s ((t : Int) - x.bk).toNat) (List.mem_cons_self ..)
        exact h1.len
      have he : ele (upd (allV l s n t) t (now ++ z)) ((t : Int) - x.bk) = rowV l s ((t : Int) - x.bk).toNat := by
        rw [ele_upd_ne (by omega), ← hi, allV_at l s (by omega), if_pos (by omega)]
        rfl
      rw [br_T hge, ck_IX (by omega) (by unfold ln; omega), he, ck_IX a3 (by unfold ln; omega), hele, hh, if_pos (by omega), show t - 1 - (x.bk - 1).toNat = ((t : Int) - x.bk).toNat from by omega]
    · have hbl := h.len
      have h3 := h.bef x.st.toNat (by omega)
      rw [show s.bef.getD x.st.toNat [] = ele s.bef (x.st.toNat : Int) from rfl, hst] at h3
      rw [br_F hge, ck_IX a3 (by unfold ln; omega), ck_IR (by omega) (by omega), ck_IR (by omega) (by omega), ck_IX (by omega) (by unfold ln; omega), hele, hh, if_neg (by omega)]
      congr 1
      rw [← hst, col_at (by omega)]
      unfold ele
      congr 1
      omega
theorem play_step {l : Lp} {s : Sta} (h : StaOk l s) (hf : l.Fine) {n t : Nat} (hn : n ≤ 200) (ht : t < n) (k : Nat) (hk : k < l.body.length) :
    roundelayref3_Play_L2 l s t (upd (allV l s n t) t ((partV l (runV l s t).1 (runV l s t).2 t k).1 ++ List.replicate (l.body.length - k) 0), (partV l (runV l s t).1 (runV l s t).2 t k).2, k) =
      some (.next (upd (allV l s n t) t ((partV l (runV l s t).1 (runV l s t).2 t (k + 1)).1 ++ List.replicate (l.body.length - (k + 1)) 0), (partV l (runV l s t).1 (runV l s t).2 t (k + 1)).2, ((k + 1 : Nat) : Int))) := by
  obtain ⟨r1, r2, r3⟩ := run_ok hf h t (by omega)
  obtain ⟨p1, p2, p3⟩ := partV_ok hf (t := (t : Int)) (by unfold InR; omega) (fun r hr => (r1 r hr).rng) r2 k (by omega)
  rw [partV_next hk]
  generalize hP : partV l (runV l s t).1 (runV l s t).2 t k = p at p1 p2 p3
  have hn16 := h.loop.2.2.1
  have hso := h.loop.stm k hk
  rw [show l.body.getD k Stm.zero = ele l.body (k : Int) from rfl] at hso
  generalize hs : ele l.body (k : Int) = st at hso
  obtain ⟨q1, q2, q3⟩ := hso
  have hfl : (p.1 ++ List.replicate (l.body.length - k) (0 : Int)).length = l.body.length := by rw [List.length_append, List.length_replicate, p1]; omega
  generalize hA : upd (allV l s n t) (t : Int) (p.1 ++ List.replicate (l.body.length - k) 0) = A
  have hAl : A.length = n := by rw [← hA, upd_length, allV_len]
  have hAt : ele A (t : Int) = p.1 ++ List.replicate (l.body.length - k) 0 := by rw [← hA]; exact ele_upd ⟨by omega, by unfold ln; rw [allV_len]; omega⟩
  have hix : IX (k : Int) (ln l.body) := ⟨by omega, by unfold ln; omega⟩
  have hit : IX (t : Int) (ln A) := ⟨by omega, by unfold ln; omega⟩
  have hik : IX (k : Int) (ln (ele A (t : Int))) := ⟨by omega, by rw [hAt]; unfold ln; omega⟩
  have hput : ∀ v : Int, updG A t k v = upd (allV l s n t) t ((p.1 ++ [v]) ++ List.replicate (l.body.length - (k + 1)) 0) := fun v => by
    unfold updG
    rw [hAt, ← hA, upd_upd]
    congr 1
    unfold upd
    rw [Int.toNat_natCast, show l.body.length - k = (l.body.length - (k + 1)) + 1 from by omega, ← p1]
    exact set_fill _ _ _ _
  have ra : (st.op = 4 ∨ st.op > 10) → roundelayref3_is_m s A st.a t = some (refV (runV l s t).1 p.1 st.a) := fun hh => by rw [← hA]; exact is_s h hf hn ht (by omega) p1 hfl (q1 hh)
  have rb : st.op > 10 → roundelayref3_is_m s A st.b t = some (refV (runV l s t).1 p.1 st.b) := fun hh => by rw [← hA]; exact is_s h hf hn ht (by omega) p1 hfl (q2 hh)
  have hra : ∀ x : Rf, InR (refV (runV l s t).1 p.1 x) := fun x => refV_rng (fun r hr => (r1 r hr).rng) p2 x
  have hsc : ((k + 1 : Nat) : Int) = (k : Int) + 1 := rfl
  unfold roundelayref3_Play_L2 stepV
  simp only
  rw [br_T (by unfold ln; omega), ck_yes hix, hs, hsc]
  by_cases o1 : st.op = 1
  · rw [show (st.op == 1) = true from by simpa using o1, br_true, ck_yes hit, ck_yes hik, ck_IR (by omega) (by omega), if_pos o1, hput]
  rw [show (st.op == 1) = false from by simpa using o1, br_false, if_neg o1]
  by_cases o2 : st.op = 2
  · rw [show (st.op == 2) = true from by simpa using o2, br_true, ck_yes hit, ck_yes hik, ck_IR (by omega) (by omega), if_pos o2, hput]
  rw [show (st.op == 2) = false from by simpa using o2, br_false, if_neg o2]
  by_cases o3 : st.op = 3
  · have hw : WordOk l.logs.length st := by rcases q3 with h | h | h | h | h <;> first | exact h.2.2.1 | omega
    obtain ⟨w1, w2, w3⟩ := word_ix h.loop p3 hw t
    rw [show (st.op == 3) = true from by simpa using o3, br_true, ck_yes w2, ref_Index_s, bd_ret, ck_yes hit, ck_yes w1, ck_yes w3, ck_yes hik, ck_IR (by omega) (by omega), if_pos o3, hput]
  rw [show (st.op == 3) = false from by simpa using o3, br_false, if_neg o3]
  by_cases o4 : st.op = 4
  · have hw : WordOk l.logs.length st := by rcases q3 with h | h | h | h | h <;> first | exact h.2.2.1 | omega
    obtain ⟨w1, w2, w3⟩ := word_ix h.loop p3 hw t
    rw [show (st.op == 4) = true from by simpa using o4, br_true, ck_yes w2, ref_Index_s, bd_ret, ra (.inl o4), bd_ret, ck_yes w1, ck_yes w3, ck_yes hit, ck_yes hik, ck_IR (by omega) (by omega), if_pos o4, hput]
  have h10 : 11 ≤ st.op ∧ st.op ≤ 18 := by omega
  rw [show (st.op == 4) = false from by simpa using o4, br_false, if_neg o4, ra (.inr (by omega)), bd_ret, rb (by omega), bd_ret, ck_yes hit, ck_IR (by omega) (by omega), ref_Op_s _ _ _ (hra _) (hra _), bd_ret, ck_yes hik, ck_IR (by omega) (by omega), hput]
theorem play_turn {l : Lp} {s : Sta} (h : StaOk l s) (hf : l.Fine) {n t : Nat} (hn : n ≤ 200) (ht : t < n) : ∀ (m k : Nat), k + m = l.body.length →
    lp (roundelayref3_Play_L2 l s t) (upd (allV l s n t) t ((partV l (runV l s t).1 (runV l s t).2 t k).1 ++ List.replicate (l.body.length - k) 0), (partV l (runV l s t).1 (runV l s t).2 t k).2, (k : Int)) =
      some (.go (allV l s n (t + 1), (runV l s (t + 1)).2, (l.body.length : Int)))
  | 0, k, hk => by
    have : k = l.body.length := by omega
    subst this
    rw [← turnV_part, Nat.sub_self, List.replicate_zero, List.append_nil, show (turnV l (runV l s t).1 (runV l s t).2 t).1 = rowV l s t from rfl, allV_next l s ht]
    refine lp_brk ?_
    unfold roundelayref3_Play_L2
    exact br_F (by unfold ln; omega)
  | m + 1, k, hk => lp_step (play_step h hf hn ht k (by omega)) (play_turn h hf hn ht m (k + 1) (by omega))
theorem play_loop {l : Lp} {s : Sta} (h : StaOk l s) (hf : l.Fine) {n : Nat} (hn : n ≤ 200) : ∀ (m t : Nat), t + m = n → lp (roundelayref3_Play_L0 l s n) (allV l s n t, (runV l s t).2, (t : Int)) = some (.go (allV l s n n, (runV l s n).2, (n : Int)))
  | 0, t, ht => by
    have : t = n := by omega
    subst this
    refine lp_brk ?_
    unfold roundelayref3_Play_L0
    exact br_F (by omega)
  | m + 1, t, ht => by
    refine lp_step ?_ (play_loop h hf hn m (t + 1) (by omega))
    have hn16 := h.loop.2.2.1
    have hp := play_turn h hf hn (t := t) (by omega) l.body.length 0 (by omega)
    rw [show partV l (runV l s t).1 (runV l s t).2 t 0 = ([], (runV l s t).2) from rfl, List.nil_append, Nat.sub_zero] at hp
    unfold roundelayref3_Play_L0
    simp only
    rw [br_T (by omega), ck_yes (ln_nonneg _), ck_yes (AL8 (by unfold ln; omega)), ck_IX (by omega) (by unfold ln; rw [allV_len]; omega), show (ln l.body).toNat = l.body.length from by unfold ln; omega]
    rw [show ((0 : Nat) : Int) = 0 from rfl] at hp
    rw [hp, bd_ret, Out.on_go]
    simp only
    rw [ck_IR (by omega) (by omega)]
    rfl
theorem Play_s {l : Lp} {s : Sta} (hf : l.Fine) (h : StaOk l s) (n : Nat) (hn : n ≤ 200) : roundelayref3_Play_m l s n = some ⟨outsV l s n, (runV l s n).2⟩ := by
  have hsm := h.mem.small h.loop
  have hn16 := h.loop.2.2.1
  have h16 := outs_len h.loop
  have hbl := h.len
  have e1 := play_loop h hf hn n 0 (by omega)
  rw [show (runV l s 0).2 = s.mem from rfl, show ((0 : Nat) : Int) = 0 from rfl, show allV l s n 0 = List.replicate (n : Int).toNat [] from by
    rw [Int.toNat_natCast]; unfold allV; simp only [Nat.not_lt_zero, if_false]; rw [List.map_const', List.length_range]] at e1
  have e2 : lp (roundelayref3_Play_L5 l s n (allV l s n n)) ([], 0) = some (.go (outsV l s n, (l.outs.length : Int))) := by
    have e := lp_build (f := roundelayref3_Play_L5 l s n (allV l s n n)) (n := l.outs.length) (h := fun i : Nat => ele (ele (runV l s n).1 0) (ele l.outs (i : Int))) (fun i hi => ?_) ?_
    · rw [range_map' l.outs (fun k => ele (ele (runV l s n).1 0) k)] at e
      exact e
    · have ho := h.loop.out i hi
      rw [show l.outs.getD i 0 = ele l.outs (i : Int) from rfl] at ho
      have hk : (((ele l.outs (i : Int)).toNat : Nat) : Int) = ele l.outs (i : Int) := by omega
      have h3 := h.bef (ele l.outs (i : Int)).toNat (by omega)
      rw [show s.bef.getD (ele l.outs (i : Int)).toNat [] = ele s.bef ((ele l.outs (i : Int)).toNat : Int) from rfl, hk] at h3
      have hix : IX (i : Int) (ln l.outs) := ⟨by omega, by unfold ln; omega⟩
      have hh := hist_at l s n 0 (by omega)
      unfold roundelayref3_Play_L5
      simp only
      rw [br_T (by unfold ln; omega), ck_yes hix, ck_IX ho.1 (by unfold ln; omega), ck_IX (by omega) (by unfold ln; omega)]
      by_cases hp : 0 < n
      · have hrow : (rowV l s (n - 1)).length = l.body.length := by
          have h1 := (run_ok hf h (n - 1 + 1) (by omega)).1 (rowV l s (n - 1)) (List.mem_cons_self ..)
          exact h1.len
        have hat : ele (allV l s n n) ((n : Int) - 1) = rowV l s (n - 1) := by
          rw [show (n : Int) - 1 = ((n - 1 : Nat) : Int) from by omega, allV_at l s (by omega), if_pos (by omega)]
        rw [if_pos hp] at hh
        have hh' : ele (runV l s n).1 0 = rowV l s (n - 1) := hh
        rw [br_T (by omega), ck_IR (by omega) (by omega), ck_IX (by omega) (by unfold ln; rw [allV_len]; omega), ck_yes hix, hat, ck_IX ho.1 (by unfold ln; rw [hrow]; exact ho.2), hh', ck_yes (AL8 (by simp; omega)), ck_IR (by omega) (by omega)]
      · have : n = 0 := by omega
        subst this
        rw [br_F (by omega), ck_yes (AL8 (by simp; omega)), ck_IR (by omega) (by omega)]
        have hc : ele (ele (runV l s 0).1 0) (ele l.outs (i : Int)) = ele (ele s.bef (ele l.outs (i : Int))) 0 := by
          show ele (colV s.bef 0) (ele l.outs (i : Int)) = _
          rw [← hk, col_at (by omega)]
          rfl
        rw [hc]
    · unfold roundelayref3_Play_L5
      exact br_F (by unfold ln; omega)
  unfold roundelayref3_Play_m
  rw [rCopy_s hsm.1 hsm.2, bd_ret, ck_yes (by omega), ck_yes (AL24 (by omega)), e1, bd_ret, Out.on_go]
  simp only
  rw [e2, bd_ret, Out.on_go]
end Go.Rd
