/- Loops that run: the two laws, plain. -/
import Derived.Test.YtaimbkndebaaiaaSPlay
import Derived.Test.YtaimbkndebaaiaaMLawSeq
namespace Go.Rd
set_option linter.unusedVariables false
set_option linter.unusedSimpArgs false
theorem rFits_s (l : Lp) (s : Sta) (hf : l.Fine) (hb : RowsOk s.bef) (hm : RowsOk s.mem) : roundelayref2_Fits_m l s = some (tb (FitsP l s)) := by
  have hbl := hb.len; have hml := hm.len
  have hlb := hf.lbody; have hll := hf.llogs
  rw [maxLen_eq] at hbl hml hlb hll
  unfold roundelayref2_Fits_m
  rw [ref_May_s l hf, bd_ret]
  by_cases h0 : LoopOk l ∧ s.bef.length = l.body.length ∧ s.mem.length = l.logs.length
  · rw [show (((!tb (LoopOk l)) || (ln s.bef != ln l.body)) || (ln s.mem != ln l.logs)) = false from by
      rw [tb_t h0.1]; unfold ln; simp only [Bool.not_true, Bool.false_or, Bool.or_eq_false_iff, bne_eq_false_iff_eq]; omega, br_false]
    rcases lp_all (f := roundelayref2_Fits_L0 s) (n := s.bef.length) (p := fun i => (s.bef.getD i []).length = 3) (fun i hi _ => by
        have e : roundelayref2_Fits_L0 s i = br (!tb ((s.bef.getD i []).length = 3)) (some (.ret false)) (some (.next ((i : Int) + 1))) := by
          unfold roundelayref2_Fits_L0
          rw [br_T (by unfold ln; omega), ck_IX (by omega) (by unfold ln; omega), ck_IR (by omega) (by omega), ele_rows, neB]
          rw [tb_congr (show ln (s.bef.getD i []) = 3 ↔ (s.bef.getD i []).length = 3 from by unfold ln; omega)]
        rw [e]
        exact ⟨fun h => by rw [tb_t h]; rfl, fun h => by rw [tb_f h]; rfl⟩) (by unfold roundelayref2_Fits_L0; exact br_F (by unfold ln; omega)) with ⟨h1, e1⟩ | ⟨h1, e1⟩
    · rw [e1, bd_ret, Out.on_go]
      rcases lp_all (f := roundelayref2_Fits_L2 l s) (n := s.mem.length) (p := fun i => ((s.mem.getD i []).length : Int) = 2 ^ (l.logs.getD i 0).toNat) (fun i hi _ => by
          have hlg := h0.1.log i (by omega)
          have e : roundelayref2_Fits_L2 l s i = br (!tb (((s.mem.getD i []).length : Int) = 2 ^ (l.logs.getD i 0).toNat)) (some (.ret false)) (some (.next ((i : Int) + 1))) := by
            unfold roundelayref2_Fits_L2
            rw [br_T (by unfold ln; omega), ck_IX (by omega) (by unfold ln; omega), ele_int, Size_s _ hlg.2, bd_ret, ck_IX (by omega) (by unfold ln; omega), ck_IR (by omega) (by omega), ele_rows, neB]
            rfl
          rw [e]
          exact ⟨fun h => by rw [tb_t h]; rfl, fun h => by rw [tb_f h]; rfl⟩) (by unfold roundelayref2_Fits_L2; exact br_F (by unfold ln; omega)) with ⟨h2, e2⟩ | ⟨h2, e2⟩
      · rw [e2, bd_ret, Out.on_go, tb_t ⟨h0.1, h0.2.1, h0.2.2, h1, h2⟩]
      · rw [e2, bd_ret, Out.on_ret, tb_f fun h => h2 h.2.2.2.2]
    · rw [e1, bd_ret, Out.on_ret, tb_f fun h => h1 h.2.2.2.1]
  · have : (((!tb (LoopOk l)) || (ln s.bef != ln l.body)) || (ln s.mem != ln l.logs)) = true := by
      cases hc : (((!tb (LoopOk l)) || (ln s.bef != ln l.body)) || (ln s.mem != ln l.logs)) with
      | true => rfl
      | false =>
        unfold ln at hc
        simp only [Bool.or_eq_false_iff, bne_eq_false_iff_eq, Bool.not_eq_false'] at hc
        exact absurd ⟨tb_iff.1 hc.1.1, by omega, by omega⟩ h0
    rw [this, br_true, tb_f fun h => h0 ⟨h.1, h.2.1, h.2.2.1⟩]
theorem list_eq {α : Type} [Inhabited α] {a b : List α} : a = b ↔ (a.length = b.length ∧ ∀ i : Nat, i < a.length → ele a (i : Int) = ele b (i : Int)) := by
  constructor
  · rintro rfl; exact ⟨rfl, fun _ _ => rfl⟩
  · rintro ⟨h1, h2⟩
    apply List.ext_getElem h1
    intro i hi hi'
    have := h2 i hi
    simpa [ele_nat, List.getD_eq_getElem?_getD, hi, hi'] using this
theorem Numbers_s (a b : List Int) (h : a.length ≤ 9223372036854775806) : roundelayref3_Numbers_m a b = some (tb (a = b)) := by
  unfold roundelayref3_Numbers_m
  by_cases h0 : a.length = b.length
  · rw [show (ln a != ln b) = false from by unfold ln; simp; omega, br_false]
    rcases lp_all (f := roundelayref3_Numbers_L0 a b) (n := a.length) (p := fun i => ele a (i : Int) = ele b (i : Int)) (fun i hi _ => by
        have e : roundelayref3_Numbers_L0 a b i = br (!tb (ele a (i : Int) = ele b (i : Int))) (some (.ret false)) (some (.next ((i : Int) + 1))) := by
          unfold roundelayref3_Numbers_L0
          rw [br_T (by unfold ln; omega), ck_IX (by omega) (by unfold ln; omega), ck_IX (by omega) (by unfold ln; omega), ck_IR (by omega) (by omega), neB]
        rw [e]
        exact ⟨fun h => by rw [tb_t h]; rfl, fun h => by rw [tb_f h]; rfl⟩) (by unfold roundelayref3_Numbers_L0; exact br_F (by unfold ln; omega)) with ⟨h1, e1⟩ | ⟨h1, e1⟩
    · rw [e1, bd_ret, Out.on_go, tb_t (list_eq.2 ⟨h0, h1⟩)]
    · rw [e1, bd_ret, Out.on_ret, tb_f fun hh => h1 (list_eq.1 hh).2]
  · rw [show (ln a != ln b) = true from by unfold ln; simp; omega, br_true, tb_f fun hh => h0 (by rw [hh])]
theorem Words_s (a b : List (List Int)) (h : a.length ≤ 9223372036854775806) (h2 : ∀ r ∈ a, r.length ≤ 9223372036854775806) : roundelayref3_Words_m a b = some (tb (a = b)) := by
  unfold roundelayref3_Words_m
  by_cases h0 : a.length = b.length
  · rw [show (ln a != ln b) = false from by unfold ln; simp; omega, br_false]
    rcases lp_all (f := roundelayref3_Words_L0 a b) (n := a.length) (p := fun i => ele a (i : Int) = ele b (i : Int)) (fun i hi _ => by
        have e : roundelayref3_Words_L0 a b i = br (!tb (ele a (i : Int) = ele b (i : Int))) (some (.ret false)) (some (.next ((i : Int) + 1))) := by
          have hr := ele_all (p := fun r : List Int => r.length ≤ 9223372036854775806) h2 hi
          unfold roundelayref3_Words_L0
          rw [br_T (by unfold ln; omega), ck_IX (by omega) (by unfold ln; omega), ck_IX (by omega) (by unfold ln; omega), ck_IR (by omega) (by omega), Numbers_s _ _ hr, bd_ret]
        rw [e]
        exact ⟨fun h => by rw [tb_t h]; rfl, fun h => by rw [tb_f h]; rfl⟩) (by unfold roundelayref3_Words_L0; exact br_F (by unfold ln; omega)) with ⟨h1, e1⟩ | ⟨h1, e1⟩
    · rw [e1, bd_ret, Out.on_go, tb_t (list_eq.2 ⟨h0, h1⟩)]
    · rw [e1, bd_ret, Out.on_ret, tb_f fun hh => h1 (list_eq.1 hh).2]
  · rw [show (ln a != ln b) = true from by unfold ln; simp; omega, br_true, tb_f fun hh => h0 (by rw [hh])]
theorem Same_s (a b : Rst) (h0 : a.outs.length ≤ 9223372036854775806) (h : a.mem.length ≤ 9223372036854775806) (h2 : ∀ r ∈ a.mem, r.length ≤ 9223372036854775806) : roundelayref3_Same_m a b = some (tb (a.outs = b.outs ∧ a.mem = b.mem)) := by
  unfold roundelayref3_Same_m
  rw [Numbers_s _ _ h0, bd_ret, Words_s _ _ h h2]
  simp only [bdG_some']
  congr 1
  refine tb_eq ?_
  by_cases h : a.outs = b.outs <;> simp [tb_t, tb_f, h, tb_iff]
theorem Wrong_s (l : Lp) (s : Sta) (t : Int) (hf : l.Fine) (hb : RowsOk s.bef) (hm : RowsOk s.mem) : roundelayref3_Wrong_m l s t = some (bif tb (FitsP l s) then (if t < 0 ∨ t > 200 then 3 else 0) else 2) := by
  unfold roundelayref3_Wrong_m
  rw [rFits_s l s hf hb hm, bd_ret]
  by_cases h : FitsP l s
  · rw [tb_t h, cond_true, Bool.not_true, br_false]
    by_cases h2 : t < 0 ∨ t > 200
    · rw [if_pos h2, show (decide (t < 0) || decide (t > 200)) = true from by simpa using h2, br_true]
    · rw [if_neg h2, show (decide (t < 0) || decide (t > 200)) = false from by simp; omega, br_false]
  · rw [tb_f h]; rfl
theorem Run_bad (l : Lp) (s : Sta) (t : Int) (hf : l.Fine) (hb : RowsOk s.bef) (hm : RowsOk s.mem) (h : ¬ FitsP l s) : seq_Run_m l s t = some (⟨[], []⟩, 2) := by
  unfold seq_Run_m
  rw [Fits_s l s hf hb hm, bd_ret, tb_f h]; rfl
theorem Run_far (l : Lp) (s : Sta) (t : Int) (hf : l.Fine) (hb : RowsOk s.bef) (hm : RowsOk s.mem) (h : FitsP l s) (ht : t < 0 ∨ t > 200) : seq_Run_m l s t = some (⟨[], []⟩, 3) := by
  unfold seq_Run_m
  rw [Fits_s l s hf hb hm, bd_ret, tb_t h, Bool.not_true, br_false, show (decide (t < 0) || decide (t > 200)) = true from by simpa using ht]; rfl
theorem outsV_len {l : Lp} {s : Sta} (h : LoopOk l) (n : Nat) : (outsV l s n).length ≤ 16 := by unfold outsV; rw [List.length_map]; exact outs_len h
theorem res_same {l : Lp} {s : Sta} (hf : l.Fine) (h : StaOk l s) (n : Nat) (hn : n ≤ 200) (b : Rst) : roundelayref3_Same_m ⟨outsV l s n, (runV l s n).2⟩ b = some (tb (outsV l s n = b.outs ∧ (runV l s n).2 = b.mem)) := by
  have h1 := outsV_len (s := s) h.loop n
  obtain ⟨h2, h3⟩ := (run_ok hf h n (by omega)).2.1.small h.loop
  exact Same_s _ _ (by show (outsV l s n).length ≤ _; omega) (by show (runV l s n).2.length ≤ _; omega) (fun r hr => by have := h3 r hr; omega)
theorem none_same (b : Rst) : roundelayref3_Same_m ⟨[], []⟩ b = some (tb (([] : List Int) = b.outs ∧ ([] : List (List Int)) = b.mem)) := Same_s _ _ (by decide) (by decide) (fun r hr => by cases hr)
theorem SeqRuns_true (l : Lp) (s : Sta) (t : Int) {w : World} {v1 v2 v3 : Value} (hL : LpRep w v1 v2 v3 l) (hb : RowsOk s.bef) (hm : RowsOk s.mem) (ra : -9223372036854775808 ≤ t ∧ t ≤ 9223372036854775807) : roundelaylaw_SeqRuns_m l s t = some true := by
  have hf := hL.fine
  unfold roundelaylaw_SeqRuns_m
  rw [Wrong_s l s t hf hb hm]
  by_cases h : FitsP l s
  · rw [tb_t h, cond_true]
    by_cases h2 : t < 0 ∨ t > 200
    · rw [if_pos h2, Run_far l s t hf hb hm h h2]
      simp only [bd_ret, none_same]
      rw [tb_t ⟨trivial, trivial⟩]
      rfl
    · rw [if_neg h2]
      have hs := h.ok hb hm
      have hfit : loop_Fits_m l s = some true := by rw [Fits_s l s hf hb hm, tb_t h]
      have ht : ((t.toNat : Nat) : Int) = t := by omega
      have e1 := Run_s hf hs hfit t.toNat (by omega)
      have e2 := Play_s hf hs t.toNat (by omega)
      rw [ht] at e1 e2
      rw [e1, e2]
      simp only [bd_ret]
      rw [show ((0 : Int) != 0) = false from rfl, br_false, show ((0 : Int) == 0) = true from rfl, bdG_t, res_same hf hs _ (by omega), bd_ret, tb_t ⟨rfl, rfl⟩]
      rfl
  · rw [tb_f h, cond_false, Run_bad l s t hf hb hm h]
    simp only [bd_ret, none_same]
    rw [tb_t ⟨trivial, trivial⟩]
    rfl
theorem SeqNone_true (l : Lp) (s : Sta) {w : World} {v1 v2 v3 : Value} (hL : LpRep w v1 v2 v3 l) (hb : RowsOk s.bef) (hm : RowsOk s.mem) : roundelaykeep_SeqNone_m l s = some true := by
  have hf := hL.fine
  unfold roundelaykeep_SeqNone_m
  by_cases h : FitsP l s
  · have hs := h.ok hb hm
    have hfit : loop_Fits_m l s = some true := by rw [Fits_s l s hf hb hm, tb_t h]
    have e1 := Run_s hf hs hfit 0 (by omega)
    have h16 := outs_len hs.loop
    have hn := hs.loop.2.1
    obtain ⟨h2, h3⟩ := hs.mem.small hs.loop
    have hol : (outsV l s 0).length = l.outs.length := by unfold outsV; rw [List.length_map]
    rw [show ((0 : Nat) : Int) = 0 from rfl] at e1
    rw [e1]
    simp only [bd_ret]
    rw [show ((0 : Int) != 0) = false from rfl, br_false, show (ln (outsV l s 0) != ln l.outs) = false from by unfold ln; simp [hol], Bool.not_false, bdG_t, show (runV l s 0).2 = s.mem from rfl, Words_s _ _ (by omega) (fun r hr => by have := h3 r hr; omega), bd_ret, tb_t rfl, show ((ln l.body) == 0) = false from by unfold ln; rw [beq_eq_false_iff_ne]; omega]
    simp only [Bool.not_true, Bool.or_self, br_false]
    have hc : ∀ i : Nat, i < l.outs.length → ele (outsV l s 0) (i : Int) = ele (ele s.bef (ele l.outs (i : Int))) 0 := fun i hi => by
      have ho := hs.loop.out i hi
      rw [show l.outs.getD i 0 = ele l.outs (i : Int) from rfl] at ho
      have hbl := hs.len
      have hk : (((ele l.outs (i : Int)).toNat : Nat) : Int) = ele l.outs (i : Int) := by omega
      have : ele (outsV l s 0) (i : Int) = ele (colV s.bef 0) (ele l.outs (i : Int)) := by
        have e : ele l.outs (i : Int) = l.outs[i] := by rw [ele_nat, List.getD_eq_getElem?_getD, List.getElem?_eq_getElem hi]; rfl
        rw [ele_nat, outsV, List.getD_eq_getElem?_getD, List.getElem?_map, List.getElem?_eq_getElem hi, e]
        rfl
      rw [this, ← hk, col_at (by omega)]
      rfl
    rcases lp_all (f := roundelaykeep_SeqNone_L0 l s (⟨outsV l s 0, s.mem⟩, 0)) (n := l.outs.length) (p := fun _ => True) (fun i hi _ => ⟨fun _ => by
        have ho := hs.loop.out i hi
        rw [show l.outs.getD i 0 = ele l.outs (i : Int) from rfl] at ho
        have hbl := hs.len
        have hk : (((ele l.outs (i : Int)).toNat : Nat) : Int) = ele l.outs (i : Int) := by omega
        have h3 := hs.bef (ele l.outs (i : Int)).toNat (by omega)
        rw [show s.bef.getD (ele l.outs (i : Int)).toNat [] = ele s.bef ((ele l.outs (i : Int)).toNat : Int) from rfl, hk] at h3
        unfold roundelaykeep_SeqNone_L0
        simp only
        rw [br_T (by unfold ln; omega), ck_IX (by omega) (by unfold ln; omega), ck_IX (by omega) (by unfold ln; omega), ck_IX ho.1 (by unfold ln; omega), ck_IX (by omega) (by unfold ln; omega), hc i hi, bne_self_eq_false, br_false, ck_IR (by omega) (by omega)], fun h => absurd trivial h⟩) (by unfold roundelaykeep_SeqNone_L0; exact br_F (by unfold ln; omega)) with ⟨_, e⟩ | ⟨h', _⟩
    · rw [e, bd_ret, Out.on_go]
    · exact absurd (fun _ _ => trivial) h'
  · rw [Run_bad l s 0 hf hb hm h]
    simp only [bd_ret]
    rfl
end Go.Rd
