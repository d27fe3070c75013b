/- Edges: the two laws, plain. -/
import Derived.Test.YtaimbkndebaaiabSEdg2
import Derived.Test.YtaimbkndebaaiabMLawDep
namespace Go.Rd
set_option linter.unusedVariables false
set_option linter.unusedSimpArgs false
theorem edges_same (a : List Edg) (h : a.length ≤ 60000) : roundelaylaw_edges_m a a = some true := by
  unfold roundelaylaw_edges_m
  rw [bne_self_eq_false, br_false]
  rcases lp_all (f := roundelaylaw_edges_L0 a a) (n := a.length) (p := fun _ => True) (fun i hi _ => ⟨fun _ => by
      unfold roundelaylaw_edges_L0
      rw [br_T (by unfold ln; omega), ck_IX (by omega) (by unfold ln; omega), ck_IX (by omega) (by unfold ln; omega), beq_self_eq_true, Bool.not_true, br_false, ck_IR (by omega) (by omega)], fun h => absurd trivial h⟩) (by unfold roundelaylaw_edges_L0; exact br_F (by unfold ln; omega)) with ⟨_, e⟩ | ⟨h', _⟩
  · rw [e, bd_ret, Out.on_go]
  · exact absurd (fun _ _ => trivial) h'
theorem DepTells_true (l : Lp) (t : Tgt) {w : World} {v1 v2 v3 : Value} (hL : LpRep w v1 v2 v3 l) : roundelaylaw_DepTells_m l t = some true := by
  have hf := hL.fine
  unfold roundelaylaw_DepTells_m
  by_cases h : LoopOk l ∧ tgtOk t = true
  · obtain ⟨E, e1, e2, e3, e4, e5⟩ := edges_both h.1 hf h.2
    rw [e1, bd_ret, rMay_s hf, bd_ret, tb_t h, Bool.not_true, br_false, e2, bd_ret, beq_self_eq_true, bdG_t]
    simp only
    rw [edges_same E e5, bd_ret]
    rfl
  · rw [Edges_bad hf h, bd_ret, rMay_s hf, bd_ret, tb_f h]
    rfl
theorem two_ok : LoopOk (Lp.mk [] [(Stm.mk 2 (Rf.mk 0 0) (Rf.mk 0 0) 0 0 0 0), (Stm.mk 11 (Rf.mk 0 0) (Rf.mk 0 0) 0 0 0 0)] []) := by
  refine ⟨by simp, by simp, by simp, fun j hj => by simp at hj; omega, fun j hj => by simp at hj; omega, fun j hj => ?_⟩
  simp only [List.length_cons, List.length_nil] at hj
  match j, hj with
  | 0, _ => unfold StmtOk; simp [StillOk, Rf.isZero]
  | 1, _ => unfold StmtOk; simp [RefOk, StillOk]
theorem two_fine : (Lp.mk [] [(Stm.mk 2 (Rf.mk 0 0) (Rf.mk 0 0) 0 0 0 0), (Stm.mk 11 (Rf.mk 0 0) (Rf.mk 0 0) 0 0 0 0)] []).Fine := by
  refine ⟨fun x hx => (by cases hx), fun x hx => ?_, fun x hx => (by cases hx), by simp, by simp [maxLen_eq], by simp⟩
  simp only [List.mem_cons, List.not_mem_nil, or_false] at hx
  rcases hx with rfl | rfl <;> (unfold Stm.InR InR; decide)
theorem two_edges : ∃ e, dep_Edges_m (Lp.mk [] [(Stm.mk 2 (Rf.mk 0 0) (Rf.mk 0 0) 0 0 0 0), (Stm.mk 11 (Rf.mk 0 0) (Rf.mk 0 0) 0 0 0 0)] []) (Tgt.mk 1 1 1 1 1 1 1) = some ([e], 0) := by
  obtain ⟨E, e1, e2, e3, e4, e5⟩ := edges_both two_ok two_fine (t := Tgt.mk 1 1 1 1 1 1 1) (by decide)
  refine ⟨⟨0, 1, 0, waitV (Tgt.mk 1 1 1 1 1 1 1) 2⟩, ?_⟩
  rw [e1]
  have : E = [⟨0, 1, 0, waitV (Tgt.mk 1 1 1 1 1 1 1) 2⟩] := by
    refine strict_ext e3 (List.pairwise_singleton _ _) fun e => ?_
    rw [e4, List.mem_singleton]
    constructor
    · rintro ⟨to, hto, h | ⟨fr, hfr, h⟩⟩
      · simp only [List.length_cons, List.length_nil] at hto
        obtain ⟨r, hr, rfl⟩ := h
        match to, hto with
        | 0, _ => simp [usesL, ele] at hr
        | 1, _ =>
          simp [usesL, ele] at hr
          subst hr
          rfl
      · simp only [List.length_cons, List.length_nil] at hto hfr
        have hc := h.c.1
        unfold wordS at hc
        match fr, hfr with
        | 0, _ => simp [ele] at hc
        | 1, _ => simp [ele] at hc
    · rintro rfl
      exact ⟨1, by simp, .inl ⟨⟨0, 0⟩, by simp [usesL, ele], rfl⟩⟩
  rw [this]
theorem DepForward_true (l : Lp) (t : Tgt) {w : World} {v1 v2 v3 : Value} (hL : LpRep w v1 v2 v3 l) : roundelaykeep_DepForward_m l t = some true := by
  have hf := hL.fine
  obtain ⟨e0, he0⟩ := two_edges
  unfold roundelaykeep_DepForward_m
  rw [he0, bd_ret]
  simp only
  rw [show (ln [e0] != 1) = false from rfl, br_false]
  by_cases h : LoopOk l ∧ tgtOk t = true
  · obtain ⟨E, e1, e2, e3, e4, e5⟩ := edges_both h.1 hf h.2
    have hin : ∀ i : Nat, i < E.length → EdgeIn l.body.length (ele E (i : Int)) := fun i hi => ((e4 _).1 (ele_mem' hi)).in h.1
    have hn := h.1.2.1
    rw [e1, bd_ret]
    simp only
    rw [show ((0 : Int) != 0) = false from rfl, br_false]
    rcases lp_all (f := roundelaykeep_DepForward_L0 l (E, 0)) (n := E.length) (p := fun _ => True) (fun i hi _ => ⟨fun _ => by
        obtain ⟨a1, a2, a3, a4, a5⟩ := hin i hi
        have hrise : 0 < i → Lt (ele E ((i : Int) - 1)) (ele E (i : Int)) := fun h0 => by
          have := List.pairwise_iff_getElem.1 e3 (i - 1) i (by omega) hi (by omega)
          rw [show (i : Int) - 1 = ((i - 1 : Nat) : Int) from by omega]
          simpa [ele_nat, List.getD_eq_getElem?_getD, hi, show i - 1 < E.length from by omega] using this
        have hb : ∀ c : Bool, (c = true → decide ((i : Int) > 0) = true) → (c = true → IR ((i : Int) - 1)) ∧ (c = true → IX ((i : Int) - 1) (ln E)) := fun c hc => ⟨fun h => ⟨by omega, by omega⟩, fun h => by have := hc h; simp at this; exact ⟨by omega, by unfold ln; omega⟩⟩
        unfold roundelaykeep_DepForward_L0
        simp only
        rw [br_T (by unfold ln; omega), ck_IX (by omega) (by unfold ln; omega)]
        have c1 : (((((((decide ((ele E (i : Int)).fr < 0)) || (decide ((ele E (i : Int)).to < 0))) || (decide ((ele E (i : Int)).fr ≥ (ln l.body)))) || (decide ((ele E (i : Int)).to ≥ (ln l.body)))) || (decide ((ele E (i : Int)).bk < 0))) || (decide ((ele E (i : Int)).wt < 0))) || (((ele E (i : Int)).bk == 0) && (decide ((ele E (i : Int)).fr ≥ (ele E (i : Int)).to)))) = false := by
          unfold ln
          simp only [Bool.or_eq_false_iff, decide_eq_false_iff_not, Bool.and_eq_false_iff, beq_eq_false_iff_ne]
          refine ⟨⟨⟨⟨⟨⟨by omega, by omega⟩, by omega⟩, by omega⟩, by omega⟩, by omega⟩, ?_⟩
          by_cases hz : (ele E (i : Int)).bk = 0
          · right; have := a5 hz; omega
          · left; exact hz
        rw [c1, br_false]
        have i1 : ∀ c : Bool, ((decide ((i : Int) > 0)) && c) = true → IR ((i : Int) - 1) := fun c h => ⟨by omega, by omega⟩
        have i2 : ∀ c : Bool, ((decide ((i : Int) > 0)) && c) = true → IX ((i : Int) - 1) (ln E) := fun c h => by simp at h; exact ⟨by omega, by unfold ln; omega⟩
        have i3 : ∀ c d : Bool, (((decide ((i : Int) > 0)) && c) && d) = true → IX ((i : Int) - 1) (ln E) := fun c d h => by simp at h; exact ⟨by omega, by unfold ln; omega⟩
        rw [ck_imp (fun _ => ⟨by omega, by omega⟩), ck_imp (fun h => by simp at h; exact ⟨by omega, by unfold ln; omega⟩), ck_imp (i1 _), ck_imp (i2 _), ck_imp (fun _ => ⟨by omega, by omega⟩), ck_imp (i3 _ _), ck_imp (i1 _), ck_imp (i2 _)]
        have c2 : ((decide ((i : Int) > 0)) && (((decide ((ele E ((i : Int) - 1)).fr > (ele E (i : Int)).fr)) || (((ele E ((i : Int) - 1)).fr == (ele E (i : Int)).fr) && (decide ((ele E ((i : Int) - 1)).to > (ele E (i : Int)).to)))) || ([(ele E ((i : Int) - 1)).fr, (ele E ((i : Int) - 1)).to, (ele E ((i : Int) - 1)).bk, (ele E ((i : Int) - 1)).wt] == [(ele E (i : Int)).fr, (ele E (i : Int)).to, (ele E (i : Int)).bk, (ele E (i : Int)).wt]))) = false := by
          by_cases h0 : 0 < i
          · have hr := hrise h0
            rw [edg_beq]
            have hne : ¬ ele E ((i : Int) - 1) = ele E (i : Int) := fun hh => by rw [hh] at hr; exact Lt.irrefl hr
            rw [tb_f hne]
            unfold Lt at hr
            rw [ordV_neg] at hr
            simp only [Bool.and_eq_false_iff, Bool.or_eq_false_iff, decide_eq_false_iff_not, beq_eq_false_iff_ne]
            right
            refine ⟨⟨by omega, ?_⟩, trivial⟩
            by_cases hq : (ele E ((i : Int) - 1)).fr = (ele E (i : Int)).fr
            · right; omega
            · left; exact hq
          · rw [show decide ((i : Int) > 0) = false from by simp; omega]; rfl
        rw [c2, br_false, ck_IR (by omega) (by omega)], fun h => absurd trivial h⟩) (by unfold roundelaykeep_DepForward_L0; exact br_F (by unfold ln; simp only; omega)) with ⟨_, e⟩ | ⟨h', _⟩
    · rw [e, bd_ret, Out.on_go, show decide (ln l.body > 0) = true from by unfold ln; simp; omega]
    · exact absurd (fun _ _ => trivial) h'
  · rw [Edges_bad hf h, bd_ret]
    rfl
end Go.Rd
