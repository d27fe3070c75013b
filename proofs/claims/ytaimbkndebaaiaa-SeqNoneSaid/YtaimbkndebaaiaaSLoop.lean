/- Machines and loops: what the models come to. -/
import Derived.Test.YtaimbkndebaaiaaSNum
import Derived.Test.YtaimbkndebaaiaaMLoop
import Derived.Test.YtaimbkndebaaiaaOpen
namespace Go.Rd
set_option linter.unusedVariables false
set_option linter.unusedSimpArgs false

theorem ite_tb {p : Prop} : (if tb p = true then (true : Bool) else false) = tb p := by cases tb p <;> rfl
theorem tb_t {p : Prop} (h : p) : tb p = true := tb_of h
theorem tb_f {p : Prop} (h : ¬ p) : tb p = false := tb_nof h

/-! ### machines -/
def tgtAt (t : Tgt) (i : Nat) : Prop := 1 ≤ sel3 t.u0 t.u1 t.u2 i ∧ sel3 t.u0 t.u1 t.u2 i ≤ 4 ∧ 1 ≤ sel3 t.w0 t.w1 t.w2 i ∧ sel3 t.w0 t.w1 t.w2 i ≤ 6
theorem tgtAt_all (t : Tgt) : (∀ i, i < 3 → tgtAt t i) ↔ ((1 ≤ t.u0 ∧ t.u0 ≤ 4 ∧ 1 ≤ t.w0 ∧ t.w0 ≤ 6) ∧ (1 ≤ t.u1 ∧ t.u1 ≤ 4 ∧ 1 ≤ t.w1 ∧ t.w1 ≤ 6) ∧ (1 ≤ t.u2 ∧ t.u2 ≤ 4 ∧ 1 ≤ t.w2 ∧ t.w2 ≤ 6)) := by
  constructor
  · intro h
    exact ⟨h 0 (by omega), h 1 (by omega), h 2 (by omega)⟩
  · rintro ⟨h0, h1, h2⟩ i hi
    match i, hi with
    | 0, _ => exact h0
    | 1, _ => exact h1
    | 2, _ => exact h2
theorem tgt_step (t : Tgt) (i : Nat) (hi : i < 3) (f : Int → Option (Stp Int Bool)) (hf : f i = br (decide ((i : Int) < 3)) (
    ck (IX (i : Int) 3) <| ck ((!(decide ((sel3 t.u0 t.u1 t.u2 i) < 1))) = true → IX (i : Int) 3) <| ck ((!((decide ((sel3 t.u0 t.u1 t.u2 i) < 1)) || (decide ((sel3 t.u0 t.u1 t.u2 i) > 4)))) = true → IX (i : Int) 3) <|
    ck ((!(((decide ((sel3 t.u0 t.u1 t.u2 i) < 1)) || (decide ((sel3 t.u0 t.u1 t.u2 i) > 4))) || (decide ((sel3 t.w0 t.w1 t.w2 i) < 1)))) = true → IX (i : Int) 3) <|
    br ((((decide ((sel3 t.u0 t.u1 t.u2 i) < 1)) || (decide ((sel3 t.u0 t.u1 t.u2 i) > 4))) || (decide ((sel3 t.w0 t.w1 t.w2 i) < 1))) || (decide ((sel3 t.w0 t.w1 t.w2 i) > 6))) (some (.ret false)) (ck (IR ((i : Int) + 1)) <| some (.next ((i : Int) + 1)))) (some (.brk (i : Int)))) :
    (tgtAt t i → f i = some (.next ((i : Int) + 1))) ∧ (¬ tgtAt t i → f i = some (.ret false)) := by
  have hix : IX (i : Int) 3 := ⟨by omega, by omega⟩
  rw [hf, br_T (by omega), ck_yes hix, ck_imp (fun _ => hix), ck_imp (fun _ => hix), ck_imp (fun _ => hix), ck_IR (by omega) (by omega)]
  unfold tgtAt
  constructor
  · intro h
    have : ((((decide ((sel3 t.u0 t.u1 t.u2 i) < 1)) || (decide ((sel3 t.u0 t.u1 t.u2 i) > 4))) || (decide ((sel3 t.w0 t.w1 t.w2 i) < 1))) || (decide ((sel3 t.w0 t.w1 t.w2 i) > 6))) = false := by
      simp only [Bool.or_eq_false_iff, decide_eq_false_iff_not]; omega
    rw [this]; rfl
  · intro h
    have : ((((decide ((sel3 t.u0 t.u1 t.u2 i) < 1)) || (decide ((sel3 t.u0 t.u1 t.u2 i) > 4))) || (decide ((sel3 t.w0 t.w1 t.w2 i) < 1))) || (decide ((sel3 t.w0 t.w1 t.w2 i) > 6))) = true := by
      simp only [Bool.or_eq_true, decide_eq_true_eq]; omega
    rw [this]; rfl
theorem target_May_s (t : Tgt) : target_May_m t = some (tgtOk t) := by
  unfold target_May_m
  have ha := tgtAt_all t
  rcases lp_all (f := target_May_L0 t) (n := 3) (p := tgtAt t) (fun i hi _ => tgt_step t i hi _ rfl) (by unfold target_May_L0; exact br_F (by omega)) with ⟨h, e⟩ | ⟨h, e⟩
  · rw [e, bd_ret, Out.on_go]
    congr 1
    rw [ha] at h
    unfold tgtOk
    rw [← Bool.decide_and]
    exact decide_eq_decide.2 ⟨fun h' => ⟨h.1, h.2.1, h.2.2, h'⟩, fun h' => h'.2.2.2⟩
  · rw [e, bd_ret, Out.on_ret]
    congr 1
    rw [ha] at h
    exact (tgtOk_not.2 fun h' => h ⟨h'.1, h'.2.1, h'.2.2.1⟩).symm
theorem ref_tMay_s (t : Tgt) : roundelayref4_May_m t = some (tgtOk t) := by
  unfold roundelayref4_May_m
  have ha := tgtAt_all t
  rcases lp_all (f := roundelayref4_May_L0 t) (n := 3) (p := tgtAt t) (fun i hi _ => tgt_step t i hi _ rfl) (by unfold roundelayref4_May_L0; exact br_F (by omega)) with ⟨h, e⟩ | ⟨h, e⟩
  · rw [e, bd_ret, Out.on_go]
    congr 1
    rw [ha] at h
    unfold tgtOk
    rw [← Bool.decide_and]
    exact decide_eq_decide.2 ⟨fun h' => ⟨h.1, h.2.1, h.2.2, h'⟩, fun h' => h'.2.2.2⟩
  · rw [e, bd_ret, Out.on_ret]
    congr 1
    rw [ha] at h
    exact (tgtOk_not.2 fun h' => h ⟨h'.1, h'.2.1, h'.2.2.1⟩).symm
theorem target_Wait_s (t : Tgt) (op : Int) : target_Wait_m t op = some (waitV t op) := by
  have hc := clsV_range op
  unfold target_Wait_m waitV
  rw [target_May_s, bd_ret]
  cases h : tgtOk t with
  | true => simp only [Bool.not_true, br_false, if_true]; rw [num_Class_s, bd_ret, ck_IX hc.1 hc.2]
  | false => rfl
theorem ref_Wait_s (t : Tgt) (op : Int) : roundelayref4_Wait_m t op = some (waitV t op) := by
  have hc := clsV_range op
  unfold roundelayref4_Wait_m waitV
  rw [ref_tMay_s, bd_ret]
  cases h : tgtOk t with
  | true => simp only [Bool.not_true, br_false, if_true]; rw [ref_Class_s, bd_ret, ck_IX hc.1 hc.2]
  | false => rfl

/-! ### loops -/
theorem Uses_s (s : Stm) : loop_Uses_m s = some (usesL s) := by
  unfold loop_Uses_m usesL
  simp only [br_eq, beq_iff_eq, decide_eq_true_eq]
  (repeat' split) <;> rfl
theorem ref_Uses_s (s : Stm) : roundelayref2_Uses_m s = some (usesL s) := by
  unfold roundelayref2_Uses_m usesL
  simp only [br_eq, beq_iff_eq, decide_eq_true_eq]
  (repeat' split) <;> rfl
theorem ref_s (l : Lp) (k : Int) (r : Rf) : loop_ref_m l k r = some (tb (RefOk l.body.length k r)) := by
  unfold loop_ref_m loop_in_m bdG
  simp only [bd_ret, br_eq, beq_iff_eq]
  by_cases h0 : r.bk = 0
  · rw [if_pos h0, h0]
    simp only [show ((0 : Int) ≥ 0) from by omega, show ((0 : Int) < 4) from by omega, decide_true, Bool.and_self, if_true, Bool.true_and]
    congr 1
    refine tb_eq ?_
    simp only [Bool.and_eq_true, decide_eq_true_eq]
    unfold RefOk
    omega
  · rw [if_neg h0]
    by_cases h1 : 0 ≤ r.bk ∧ r.bk < 4
    · simp only [show r.bk ≥ 0 from h1.1, h1.2, decide_true, Bool.and_self, if_true, Bool.true_and]
      congr 1
      refine tb_eq ?_
      simp only [Bool.and_eq_true, decide_eq_true_eq]
      unfold RefOk ln
      omega
    · have : (decide (r.bk ≥ 0) && decide (r.bk < 4)) = false := by
        simp only [Bool.and_eq_false_iff, decide_eq_false_iff_not]; omega
      rw [this]
      simp only [Bool.false_eq_true, if_false, Bool.false_and]
      congr 1
      exact (tb_f (by unfold RefOk; omega)).symm
/-- The loop's numbers are such as a program can have. -/
structure Lp.Fine (l : Lp) : Prop where
  rlogs : ∀ x ∈ l.logs, InR x
  rbody : ∀ x ∈ l.body, x.InR
  routs : ∀ x ∈ l.outs, InR x
  llogs : l.logs.length ≤ maxLen
  lbody : l.body.length ≤ maxLen
  louts : l.outs.length ≤ maxLen
theorem LpRep.fine {w : World} {v1 v2 v3 : Value} {l : Lp} (h : LpRep w v1 v2 v3 l) : l.Fine := ⟨h.rlogs, h.rbody, h.routs, h.llogs, h.lbody, h.louts⟩
theorem maxLen_eq : maxLen = 9223372036854775807 := rfl
theorem zero2 (r : Rf) : ([r.st, r.bk] == [(0 : Int), 0]) = tb r.isZero := by
  refine tb_eq ?_
  simp [Rf.isZero]
theorem stmt_uses (l : Lp) (k : Int) (s : Stm) (hx : l.body.length ≤ maxLen) : (UsesTo l.body.length k (usesL s).length s ∧ lp (loop_stmt_L0 l k (usesL s)) 0 = some (.go ((usesL s).length : Int))) ∨
    (¬ UsesTo l.body.length k (usesL s).length s ∧ lp (loop_stmt_L0 l k (usesL s)) 0 = some (.ret false)) := by
  have hl := usesL_len s
  have := lp_all (f := loop_stmt_L0 l k (usesL s)) (n := (usesL s).length) (p := fun i => RefOk l.body.length k ((usesL s).getD i Rf.zero)) (fun i hi _ => by
    have e : loop_stmt_L0 l k (usesL s) i = br (!tb (RefOk l.body.length k ((usesL s).getD i Rf.zero))) (some (.ret false)) (some (.next ((i : Int) + 1))) := by
      unfold loop_stmt_L0
      rw [br_T (by unfold ln; omega), ck_IX (by omega) (by unfold ln; omega), ref_s, bd_ret, ck_IR (by omega) (by omega)]
      rfl
    constructor
    · intro h; rw [e, tb_t h]; rfl
    · intro h; rw [e, tb_f h]; rfl) (by unfold loop_stmt_L0; exact br_F (by unfold ln; omega))
  rcases this with ⟨h, e⟩ | ⟨h, e⟩
  · exact .inl ⟨fun j hj hj2 => h j hj2, e⟩
  · exact .inr ⟨fun h' => h fun i hi => h' i (by omega) hi, e⟩
theorem stillB (s : Stm) : ((s.ar == 0 && s.sp == 0) && s.pl == 0) = tb (StillOk s) := by
  refine tb_eq ?_
  simp [StillOk, and_assoc]
theorem wordB (nl : Int) (s : Stm) : (((decide (s.ar ≥ 0) && decide (s.ar < nl)) && (decide (s.sp ≥ -64) && decide (s.sp < 65))) && (decide (s.pl ≥ -64) && decide (s.pl < 65))) = tb (WordOk nl s) := by
  refine tb_eq ?_
  simp only [Bool.and_eq_true, decide_eq_true_eq]
  unfold WordOk
  omega
theorem tb_and {p q : Prop} : (tb p && tb q) = tb (p ∧ q) := by
  refine tb_eq ?_
  rw [Bool.and_eq_true, tb_iff, tb_iff]
theorem stmt_s (l : Lp) (k : Nat) (hk : k < l.body.length) (hf : l.Fine) : loop_stmt_m l k = some (tb (StmtOk l.logs.length l.body.length k (ele l.body k))) := by
  have hR : (ele l.body k).InR := ele_all hf.rbody hk
  have hop := hR.1
  unfold Rd.InR at hop
  have hl := hf.lbody
  rw [maxLen_eq] at hl
  generalize hs : ele l.body k = s at *
  have hs' : (Stm.mk s.op s.a s.b s.ar s.sp s.pl s.n) = s := rfl
  unfold loop_stmt_m
  rw [ck_IX (by omega) (by unfold ln; omega), hs, hs', Uses_s]
  unfold loop_in_m
  simp only [bd_ret, bdG_some']
  rcases stmt_uses l k s hf.lbody with ⟨hu, e⟩ | ⟨hu, e⟩
  · rw [e]
    simp only [bd_ret, Out.on_go]
    rw [tb_congr (stmt_rest (nl := l.logs.length) hu (by omega)), stillB, zero2, zero2]
    have w : ∀ A B C : Bool, ((A && (if A = true then B else false)) && (if (A && (if A = true then B else false)) = true then C else false)) = ((A && B) && C) := by decide
    rw [w, show ln l.logs = (l.logs.length : Int) from rfl, wordB]
    simp only [br_eq, beq_iff_eq, bne_iff_ne]
    by_cases h1 : s.op = 1
    · rw [if_pos h1, tb_congr (rest_1 h1), tb_and, tb_and, tb_congr (and_assoc)]
    · rw [if_neg h1]
      by_cases hn : s.n = 0
      · rw [if_neg (by simpa using hn)]
        by_cases h2 : s.op = 2
        · rw [if_pos h2, tb_congr (rest_2 h2 hn), tb_and, tb_and, tb_congr (and_assoc)]
        · rw [if_neg h2]
          by_cases h3 : s.op = 3
          · rw [if_pos h3, tb_congr (rest_3 h3 hn), tb_and, tb_and, tb_congr (and_assoc)]
          · rw [if_neg h3]
            by_cases h4 : s.op = 4
            · rw [if_pos h4, tb_congr (rest_4 h4 hn), tb_and]
            · rw [if_neg h4, tb_congr (rest_5 h1 h2 h3 h4 hn)]
              have ho := op_sub10 hop
              have e1 : (decide (IntKind.i64.wrap (s.op - 10) ≥ 1) && decide (IntKind.i64.wrap (s.op - 10) < 9)) = tb (11 ≤ s.op ∧ s.op ≤ 18) := by
                refine tb_eq ?_
                rw [Bool.and_eq_true, decide_eq_true_eq, decide_eq_true_eq]
                exact ho
              rw [e1]
              by_cases hst : StillOk s
              · rw [tb_t hst, if_pos rfl, Bool.true_and]
                congr 1
                exact tb_congr ⟨fun h => ⟨hst, h⟩, fun h => h.2⟩
              · rw [tb_f hst, Bool.false_and]
                congr 1
                exact (tb_f fun h => hst h.1).symm
      · rw [if_pos (by simpa using hn)]
        congr 1
        exact (tb_f (rest_n h1 hn)).symm
  · rw [e]
    simp only [bd_ret, Out.on_ret]
    congr 1
    refine (tb_f fun h => hu fun j hj hj2 => ?_).symm
    exact (uses_all.2 ⟨h.1, h.2.1⟩) j hj2

def LogAt (l : Lp) (j : Nat) : Prop := 0 ≤ l.logs.getD j 0 ∧ l.logs.getD j 0 ≤ 5
theorem logs_to {l : Lp} : LogsTo l l.logs.length ↔ ∀ i, i < l.logs.length → LogAt l i := ⟨fun h i hi => h i (by omega), fun h j hj => h j (by omega)⟩
def BodyAt (l : Lp) (j : Nat) : Prop := StmtOk l.logs.length l.body.length j (l.body.getD j Stm.zero)
theorem body_to {l : Lp} : BodyTo l l.body.length ↔ ∀ i, i < l.body.length → BodyAt l i := ⟨fun h i hi => h i (by omega), fun h j hj => h j (by omega)⟩
theorem ele_int (l : List Int) (i : Nat) : ele l (i : Int) = l.getD i 0 := rfl
theorem ele_stm (l : List Stm) (i : Nat) : ele l (i : Int) = l.getD i Stm.zero := rfl
theorem logs_s (l : Lp) (hf : l.Fine) : (LogsTo l l.logs.length ∧ lp (loop_May_L0 l) 0 = some (.go (l.logs.length : Int))) ∨ (¬ LogsTo l l.logs.length ∧ lp (loop_May_L0 l) 0 = some (.ret false)) := by
  have hl := hf.llogs
  rw [maxLen_eq] at hl
  rw [logs_to]
  refine lp_all (fun i hi _ => ?_) (by unfold loop_May_L0; exact br_F (by unfold ln; omega))
  have e : loop_May_L0 l i = br (!(decide (l.logs.getD i 0 ≥ 0) && decide (l.logs.getD i 0 < 6))) (some (.ret false)) (some (.next ((i : Int) + 1))) := by
    unfold loop_May_L0 loop_in_m
    rw [br_T (by unfold ln; omega), ck_IX (by omega) (by unfold ln; omega), bd_ret, ck_IR (by omega) (by omega)]
    rfl
  rw [e]
  constructor
  · intro h
    rw [show (decide (l.logs.getD i 0 ≥ 0) && decide (l.logs.getD i 0 < 6)) = true from by simp only [Bool.and_eq_true, decide_eq_true_eq]; unfold LogAt at h; omega]; rfl
  · intro h
    rw [show (decide (l.logs.getD i 0 ≥ 0) && decide (l.logs.getD i 0 < 6)) = false from by simp only [Bool.and_eq_false_iff, decide_eq_false_iff_not]; unfold LogAt at h; omega]; rfl
theorem outs_s (l : Lp) (hf : l.Fine) : ∀ (m i : Nat), i + m = l.outs.length → OutsTo l i →
    (OutsTo l l.outs.length ∧ ∃ x, lp (loop_May_L2 l) (lastOut l i, i) = some (.go (x, (l.outs.length : Int)))) ∨ (¬ OutsTo l l.outs.length ∧ lp (loop_May_L2 l) (lastOut l i, i) = some (.ret false))
  | 0, i, h, hp => by
    have hi : i = l.outs.length := by omega
    subst hi
    exact .inl ⟨hp, _, lp_brk (by unfold loop_May_L2; exact br_F (by unfold ln; omega))⟩
  | m + 1, i, h, hp => by
    have hl := hf.louts
    have hb := hf.lbody
    rw [maxLen_eq] at hl hb
    have hlo := lastOut_bd (by omega) hp
    have hst := out_step (l := l) (i := i) (by omega) hp
    rw [Int.toNat_natCast] at hst
    have e : loop_May_L2 l (lastOut l i, i) = br (!(decide (l.outs.getD i 0 ≥ lastOut l i + 1) && decide (l.outs.getD i 0 < l.body.length))) (some (.ret false)) (some (.next (l.outs.getD i 0, (i : Int) + 1))) := by
      unfold loop_May_L2 loop_in_m
      simp only
      rw [br_T (by unfold ln; omega), ck_IX (by omega) (by unfold ln; omega), ck_IR (by omega) (by omega), bd_ret, ck_IR (by omega) (by omega)]
      rfl
    by_cases hc : lastOut l i + 1 ≤ l.outs.getD i 0 ∧ l.outs.getD i 0 < l.body.length
    · have hc' : (decide (l.outs.getD i 0 ≥ lastOut l i + 1) && decide (l.outs.getD i 0 < l.body.length)) = true := by simp only [Bool.and_eq_true, decide_eq_true_eq]; exact hc
      rw [hc', Bool.not_true, br_false] at e
      have hnext : OutsTo l ((i : Int) + 1) := to_next hp (by omega) (by rw [Int.toNat_natCast]; exact hst.1 hc)
      have hn := lastOut_next (l := l) (i := i) (by omega)
      rw [Int.toNat_natCast] at hn
      have ih := outs_s l hf m (i + 1) (by omega) hnext
      rw [show ((i + 1 : Nat) : Int) = (i : Int) + 1 from rfl, hn] at ih
      rcases ih with ⟨a, x, b⟩ | ⟨a, b⟩
      · exact .inl ⟨a, x, (lp_next e).trans b⟩
      · exact .inr ⟨a, (lp_next e).trans b⟩
    · have hc' : (decide (l.outs.getD i 0 ≥ lastOut l i + 1) && decide (l.outs.getD i 0 < l.body.length)) = false := by simp only [Bool.and_eq_false_iff, decide_eq_false_iff_not]; omega
      rw [hc', Bool.not_false, br_true] at e
      exact .inr ⟨fun h' => hc (hst.2 (h' i (by omega))), lp_ret e⟩
theorem body_s (l : Lp) (hf : l.Fine) (hle : l.body.length ≤ 16) : (BodyTo l l.body.length ∧ lp (loop_May_L4 l) 0 = some (.go (l.body.length : Int))) ∨ (¬ BodyTo l l.body.length ∧ lp (loop_May_L4 l) 0 = some (.ret false)) := by
  rw [body_to]
  refine lp_all (fun i hi _ => ?_) (by unfold loop_May_L4; exact br_F (by unfold ln; omega))
  have e : loop_May_L4 l i = br (!tb (BodyAt l i)) (some (.ret false)) (some (.next ((i : Int) + 1))) := by
    have h16 : ¬ ln l.body > 16 := by unfold ln; omega
    unfold loop_May_L4
    rw [br_T (by unfold ln; omega), stmt_s l i hi hf, decide_eq_false h16, ck_IR (by omega) (by omega), ele_stm]
    simp only [Bool.not_false, bdG_t, bd_ret, Bool.false_or, BodyAt]
  rw [e]
  exact ⟨fun h => by rw [tb_t h]; rfl, fun h => by rw [tb_f h]; rfl⟩
theorem May_s (l : Lp) (hf : l.Fine) : loop_May_m l = some (tb (LoopOk l)) := by
  unfold loop_May_m
  rcases logs_s l hf with ⟨h1, e1⟩ | ⟨h1, e1⟩
  · rw [e1, bd_ret, Out.on_go]
    have h0 := outs_s l hf l.outs.length 0 (by omega) (to_zero)
    rw [show lastOut l ((0 : Nat) : Int) = -1 from rfl] at h0
    rcases h0 with ⟨h2, x, e2⟩ | ⟨h2, e2⟩
    · rw [show ((-1 : Int), (0 : Int)) = (-1, ((0 : Nat) : Int)) from rfl, e2, bd_ret, Out.on_go]
      simp only
      by_cases h16 : l.body.length ≤ 16
      · rcases body_s l hf h16 with ⟨h3, e3⟩ | ⟨h3, e3⟩
        · rw [e3, bd_ret, Out.on_go]
          congr 1
          refine tb_eq ?_
          simp only [Bool.and_eq_true, decide_eq_true_eq]
          unfold ln
          exact ⟨fun h => ⟨by omega, by omega, h16, h1, h2, h3⟩, fun h => ⟨by have := h.1; omega, by have := h.2.1; omega⟩⟩
        · rw [e3, bd_ret, Out.on_ret]
          congr 1
          exact (tb_f fun h => h3 h.2.2.2.2.2).symm
      · have : loop_May_L4 l 0 = some (.ret false) := by
          unfold loop_May_L4
          rw [br_T (by unfold ln; omega), show (decide (ln l.body > 16)) = true from decide_eq_true (by unfold ln; omega)]
          rfl
        rw [lp_ret this, bd_ret, Out.on_ret]
        congr 1
        exact (tb_f fun h => h16 h.2.2.1).symm
    · rw [show ((-1 : Int), (0 : Int)) = (-1, ((0 : Nat) : Int)) from rfl, e2, bd_ret, Out.on_ret]
      congr 1
      exact (tb_f fun h => h2 h.2.2.2.2.1).symm
  · rw [e1, bd_ret, Out.on_ret]
    congr 1
    exact (tb_f fun h => h1 h.2.2.2.1).symm

/-! ### the reference -/
theorem ref_uses (l : Lp) (k : Int) (s : Stm) (hx : l.body.length ≤ maxLen) (hk : 0 ≤ k) (hk2 : k ≤ l.body.length) : (UsesTo l.body.length k (usesL s).length s ∧ lp (roundelayref2_stmt_L0 l k (usesL s)) 0 = some (.go ((usesL s).length : Int))) ∨
    (¬ UsesTo l.body.length k (usesL s).length s ∧ lp (roundelayref2_stmt_L0 l k (usesL s)) 0 = some (.ret false)) := by
  have hl := usesL_len s
  rw [maxLen_eq] at hx
  have := lp_all (f := roundelayref2_stmt_L0 l k (usesL s)) (n := (usesL s).length) (p := fun i => RefOk l.body.length k ((usesL s).getD i Rf.zero)) (fun i hi _ => by
    have hix : IX (i : Int) (ln (usesL s)) := ⟨by omega, by unfold ln; omega⟩
    have e : roundelayref2_stmt_L0 l k (usesL s) i = br (!tb (RefOk l.body.length k ((usesL s).getD i Rf.zero))) (some (.ret false)) (some (.next ((i : Int) + 1))) := by
      unfold roundelayref2_stmt_L0 roundelayref2_Within_m
      rw [show ele (usesL s) (i : Int) = (usesL s).getD i Rf.zero from rfl]
      generalize (usesL s).getD i Rf.zero = r
      rw [br_T (by unfold ln; omega), ck_IR (by unfold ln; omega) (by unfold ln; omega), ck_yes hix]
      simp only [bd_ret, bdG_some', Bool.not_not]
      rw [ck_yes hix, ck_imp (fun _ => hix), ck_yes hix, ck_imp (fun _ => hix), ck_IR (by omega) (by omega), ck_IR (by omega) (by omega)]
      have hb : ∀ b : Bool, (!b || !(if b = true then (decide (r.st ≥ 0) && decide (r.st ≤ k - 1)) else false)) = !(b && (decide (r.st ≥ 0) && decide (r.st ≤ k - 1))) := fun b => by cases b <;> simp
      have hb2 : ∀ b : Bool, (!b || !(if b = true then (decide (r.st ≥ 0) && decide (r.st ≤ ln l.body - 1)) else false)) = !(b && (decide (r.st ≥ 0) && decide (r.st ≤ ln l.body - 1))) := fun b => by cases b <;> simp
      rw [hb, hb2]
      rw [br_eq]
      simp only [beq_iff_eq]
      have q : ∀ {b : Bool} {p : Prop}, (b = true ↔ p) → br (!b) (some (Stp.ret false)) (some (Stp.next ((i : Int) + 1))) = br (!tb p) (some (.ret false)) (some (.next ((i : Int) + 1))) := fun h => by rw [tb_eq h]
      split
      · refine q ?_
        simp only [Bool.and_eq_true, decide_eq_true_eq]
        unfold RefOk; omega
      · refine q ?_
        simp only [Bool.and_eq_true, decide_eq_true_eq]
        unfold RefOk ln; omega
    constructor
    · intro h; rw [e, tb_t h]; rfl
    · intro h; rw [e, tb_f h]; rfl) (by unfold roundelayref2_stmt_L0; exact br_F (by unfold ln; omega))
  rcases this with ⟨h, e⟩ | ⟨h, e⟩
  · exact .inl ⟨fun j hj hj2 => h j hj2, e⟩
  · exact .inr ⟨fun h' => h fun i hi => h' i (by omega) hi, e⟩
theorem zerosB (s : Stm) : ((decide (ln (usesL s) < 2) && ((s.b.st != 0) || (s.b.bk != 0))) || (decide (ln (usesL s) < 1) && ((s.a.st != 0) || (s.a.bk != 0)))) = !tb (Zeros s) := by
  have : (!((decide (ln (usesL s) < 2) && ((s.b.st != 0) || (s.b.bk != 0))) || (decide (ln (usesL s) < 1) && ((s.a.st != 0) || (s.a.bk != 0))))) = tb (Zeros s) := by
    refine tb_eq ?_
    unfold Zeros Rf.isZero ln
    simp only [Bool.not_eq_true', Bool.or_eq_false_iff, Bool.and_eq_false_iff, decide_eq_false_iff_not, bne_eq_false_iff_eq]
    omega
  rw [← this, Bool.not_not]
theorem ref_stmt_s (l : Lp) (k : Nat) (hk : k < l.body.length) (hf : l.Fine) : roundelayref2_stmt_m l k = some (tb (StmtOk l.logs.length l.body.length k (ele l.body k))) := by
  have hl := hf.lbody
  have hl2 := hf.llogs
  rw [maxLen_eq] at hl hl2
  generalize hs : ele l.body k = s
  have hs' : (Stm.mk s.op s.a s.b s.ar s.sp s.pl s.n) = s := rfl
  unfold roundelayref2_stmt_m
  rw [ck_IX (by omega) (by unfold ln; omega), hs, hs', ref_Uses_s]
  unfold roundelayref2_Within_m
  simp only [bd_ret, bdG_some']
  rcases ref_uses l k s hf.lbody (by omega) (by omega) with ⟨hu, e⟩ | ⟨hu, e⟩
  · rw [e]
    simp only [bd_ret, Out.on_go]
    rw [tb_congr (stmt_rest (nl := l.logs.length) hu (by omega)), zerosB, ck_IR (by unfold ln; omega) (by unfold ln; omega)]
    by_cases hz : Zeros s
    · rw [tb_t hz, Bool.not_true, br_false]
      by_cases hn : s.op = 1 ∨ s.n = 0
      · rw [show ((s.op != 1) && (s.n != 0)) = false from by simp; omega, br_false]
        by_cases h34 : s.op = 3 ∨ s.op = 4
        · rw [show ((s.op == 3) || (s.op == 4)) = true from by simpa using h34, br_true, tb_congr (rest_34 h34 hz (by omega))]
          have w : ∀ A B C : Bool, ((A && (if A = true then B else false)) && (if (A && (if A = true then B else false)) = true then C else false)) = ((A && B) && C) := by decide
          rw [w]
          congr 1
          refine tb_eq ?_
          simp only [Bool.and_eq_true, decide_eq_true_eq]
          unfold WordOk ln; omega
        · rw [show ((s.op == 3) || (s.op == 4)) = false from by simp; omega, br_false]
          by_cases hst : StillOk s
          · have hst' := hst
            unfold StillOk at hst'
            rw [show (((s.ar != 0) || (s.sp != 0)) || (s.pl != 0)) = false from by simp [hst'.1, hst'.2.1, hst'.2.2], br_false, tb_congr (rest_end h34 hz hst hn)]
            congr 1
            refine tb_eq ?_
            by_cases h12 : s.op = 1 ∨ s.op = 2
            · simp [h12]; omega
            · simp; omega
          · have hst' := hst
            unfold StillOk at hst'
            rw [show (((s.ar != 0) || (s.sp != 0)) || (s.pl != 0)) = true from by simp; omega, br_true]
            congr 1
            exact (tb_f fun h => hst (rest_still h34 h)).symm
      · rw [show ((s.op != 1) && (s.n != 0)) = true from by simp; omega, br_true]
        congr 1
        exact (tb_f (rest_n (by omega) (by omega))).symm
    · rw [tb_f hz, Bool.not_false, br_true]
      congr 1
      exact (tb_f fun h => hz (rest_zero h)).symm
  · rw [e]
    simp only [bd_ret, Out.on_ret]
    congr 1
    refine (tb_f fun h => hu fun j hj hj2 => ?_).symm
    exact (uses_all.2 ⟨h.1, h.2.1⟩) j hj2
def OutAt (l : Lp) (j : Nat) : Prop := 0 ≤ l.outs.getD j 0 ∧ l.outs.getD j 0 < l.body.length ∧ (∀ m : Nat, j = m + 1 → l.outs.getD m 0 < l.outs.getD j 0)
theorem outs_to {l : Lp} : OutsTo l l.outs.length ↔ ∀ i, i < l.outs.length → OutAt l i := ⟨fun h i hi => h i (by omega), fun h j hj => h j (by omega)⟩
theorem ref_outs (l : Lp) (hf : l.Fine) : (OutsTo l l.outs.length ∧ lp (roundelayref2_May_L2 l) 0 = some (.go (l.outs.length : Int))) ∨ (¬ OutsTo l l.outs.length ∧ lp (roundelayref2_May_L2 l) 0 = some (.ret false)) := by
  have hl := hf.louts
  have hb := hf.lbody
  rw [maxLen_eq] at hl hb
  rw [outs_to]
  refine lp_all (fun i hi _ => ?_) (by unfold roundelayref2_May_L2; exact br_F (by unfold ln; omega))
  have hix : IX (i : Int) (ln l.outs) := ⟨by omega, by unfold ln; omega⟩
  have e : roundelayref2_May_L2 l i = br (!tb (OutAt l i)) (some (.ret false)) (some (.next ((i : Int) + 1))) := by
    unfold roundelayref2_May_L2 roundelayref2_Within_m
    rw [br_T (by unfold ln; omega), ck_yes hix, ck_IR (by unfold ln; omega) (by unfold ln; omega), bd_ret, ck_imp (fun _ => hix), ck_imp (fun h => ⟨by omega, by omega⟩), ck_imp (fun h => ⟨by simp at h; omega, by unfold ln; omega⟩), ck_IR (by omega) (by omega)]
    have : ((!(decide (ele l.outs (i : Int) ≥ 0) && decide (ele l.outs (i : Int) ≤ ln l.body - 1))) || (decide ((i : Int) > 0) && decide (ele l.outs (i : Int) ≤ ele l.outs ((i : Int) - 1)))) = !tb (OutAt l i) := by
      have : (!((!(decide (ele l.outs (i : Int) ≥ 0) && decide (ele l.outs (i : Int) ≤ ln l.body - 1))) || (decide ((i : Int) > 0) && decide (ele l.outs (i : Int) ≤ ele l.outs ((i : Int) - 1))))) = tb (OutAt l i) := by
        refine tb_eq ?_
        rw [ele_int]
        unfold OutAt ln
        cases i with
        | zero => simp; omega
        | succ m =>
          have e2 : ((m + 1 : Nat) : Int) - 1 = (m : Int) := by omega
          rw [e2, ele_int]
          simp
          constructor <;> intro h <;> omega
      rw [← this, Bool.not_not]
    rw [this]
  rw [e]
  exact ⟨fun h => by rw [tb_t h]; rfl, fun h => by rw [tb_f h]; rfl⟩
theorem ref_logs (l : Lp) (hf : l.Fine) : (LogsTo l l.logs.length ∧ lp (roundelayref2_May_L0 l) 0 = some (.go (l.logs.length : Int))) ∨ (¬ LogsTo l l.logs.length ∧ lp (roundelayref2_May_L0 l) 0 = some (.ret false)) := by
  have hl := hf.llogs
  rw [maxLen_eq] at hl
  rw [logs_to]
  refine lp_all (fun i hi _ => ?_) (by unfold roundelayref2_May_L0; exact br_F (by unfold ln; omega))
  have e : roundelayref2_May_L0 l i = br (!(decide (l.logs.getD i 0 ≥ 0) && decide (l.logs.getD i 0 ≤ 5))) (some (.ret false)) (some (.next ((i : Int) + 1))) := by
    unfold roundelayref2_May_L0 roundelayref2_Within_m
    rw [br_T (by unfold ln; omega), ck_IX (by omega) (by unfold ln; omega), bd_ret, ck_IR (by omega) (by omega)]
    rfl
  rw [e]
  constructor
  · intro h
    rw [show (decide (l.logs.getD i 0 ≥ 0) && decide (l.logs.getD i 0 ≤ 5)) = true from by simp only [Bool.and_eq_true, decide_eq_true_eq]; unfold LogAt at h; omega]; rfl
  · intro h
    rw [show (decide (l.logs.getD i 0 ≥ 0) && decide (l.logs.getD i 0 ≤ 5)) = false from by simp only [Bool.and_eq_false_iff, decide_eq_false_iff_not]; unfold LogAt at h; omega]; rfl
theorem ref_body (l : Lp) (hf : l.Fine) : (BodyTo l l.body.length ∧ lp (roundelayref2_May_L4 l) 0 = some (.go (l.body.length : Int))) ∨ (¬ BodyTo l l.body.length ∧ lp (roundelayref2_May_L4 l) 0 = some (.ret false)) := by
  have hb := hf.lbody
  rw [maxLen_eq] at hb
  rw [body_to]
  refine lp_all (fun i hi _ => ?_) (by unfold roundelayref2_May_L4; exact br_F (by unfold ln; omega))
  have e : roundelayref2_May_L4 l i = br (!tb (BodyAt l i)) (some (.ret false)) (some (.next ((i : Int) + 1))) := by
    unfold roundelayref2_May_L4
    rw [br_T (by unfold ln; omega), ref_stmt_s l i hi hf, bd_ret, ck_IR (by omega) (by omega)]
    rfl
  rw [e]
  exact ⟨fun h => by rw [tb_t h]; rfl, fun h => by rw [tb_f h]; rfl⟩
theorem ref_May_s (l : Lp) (hf : l.Fine) : roundelayref2_May_m l = some (tb (LoopOk l)) := by
  unfold roundelayref2_May_m
  by_cases h0 : l.logs.length ≤ 3 ∧ 1 ≤ l.body.length ∧ l.body.length ≤ 16
  · rw [show ((decide (ln l.logs > 3) || decide (ln l.body < 1)) || decide (ln l.body > 16)) = false from by simp only [Bool.or_eq_false_iff, decide_eq_false_iff_not]; unfold ln; omega, br_false]
    rcases ref_logs l hf with ⟨h1, e1⟩ | ⟨h1, e1⟩
    · rw [e1, bd_ret, Out.on_go]
      rcases ref_outs l hf with ⟨h2, e2⟩ | ⟨h2, e2⟩
      · rw [e2, bd_ret, Out.on_go]
        rcases ref_body l hf with ⟨h3, e3⟩ | ⟨h3, e3⟩
        · rw [e3, bd_ret, Out.on_go]
          congr 1
          exact (tb_t ⟨h0.1, h0.2.1, h0.2.2, h1, h2, h3⟩).symm
        · rw [e3, bd_ret, Out.on_ret]
          congr 1
          exact (tb_f fun h => h3 h.2.2.2.2.2).symm
      · rw [e2, bd_ret, Out.on_ret]
        congr 1
        exact (tb_f fun h => h2 h.2.2.2.2.1).symm
    · rw [e1, bd_ret, Out.on_ret]
      congr 1
      exact (tb_f fun h => h1 h.2.2.2.1).symm
  · rw [show ((decide (ln l.logs > 3) || decide (ln l.body < 1)) || decide (ln l.body > 16)) = true from by simp only [Bool.or_eq_true, decide_eq_true_eq]; unfold ln; omega, br_true]
    congr 1
    exact (tb_f fun h => h0 ⟨h.1, h.2.1, h.2.2.1⟩).symm
end Go.Rd
