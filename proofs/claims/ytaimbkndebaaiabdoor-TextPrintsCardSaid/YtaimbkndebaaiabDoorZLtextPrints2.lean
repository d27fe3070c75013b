/- Texts for the law, 2. -/
import Derived.Test.YtaimbkndebaaiabDoorZLtextPrints1
import Derived.Lib.AppendStr
import Derived.Lib.UnsafeStr
import Derived.Lib.LaidTab
import Derived.Shelf.Strings.Builder1
import Derived.Shelf.Strings.Fields
import Derived.Shelf.Strconv.Itoa4
import Derived.KernelRfl
import Derived.Test.YtaimbkndebaaiabDoorProg
import Derived.Shelf.LaysM
import Derived.LaidLaws
import Derived.Shelf.Vars
set_option linter.unusedVariables false
set_option linter.unusedSimpArgs false
set_option maxRecDepth 8000
section
namespace Go.Rd
theorem tb_t {p : Prop} (h : p) : tb p = true := tb_of h
theorem tb_f {p : Prop} (h : ¬ p) : tb p = false := tb_nof h
theorem Uses_s (s : Stm) : loop_Uses_m s = some (usesL s) := by
 unfold loop_Uses_m usesL
 simp only [br_eq, beq_iff_eq, decide_eq_true_eq]
 (repeat' split) <;> rfl
theorem ref_Uses_s (s : Stm) : R2_Uses_m s = some (usesL s) := by
 unfold R2_Uses_m usesL
 simp only [br_eq, beq_iff_eq, decide_eq_true_eq]
 (repeat' split) <;> rfl
theorem ref_s (l : Lp) (k : Int) (r : Rf) : loop_ref_m l k r = some (tb (RefOk l.body.length k r)) := by
 unfold loop_ref_m loop_in_m bdG
 simp only [bd_ret, br_eq, beq_iff_eq]
 by_cases h0 : r.bk = 0
 ·rw [if_pos h0, h0]
  simp only [show ((0 : Int) ≥ 0) from by omega, show ((0 : Int) < 4) from by omega, decide_true, Bool.and_self, if_true, Bool.true_and]
  congr 1
  refine tb_eq ?_
  simp only [Bool.and_eq_true, decide_eq_true_eq]
  unfold RefOk
  omega
 ·rw [if_neg h0]
  by_cases h1 : 0 ≤ r.bk ∧ r.bk < 4
  ·simp only [show r.bk ≥ 0 from h1.1, h1.2, decide_true, Bool.and_self, if_true, Bool.true_and]
   congr 1
   refine tb_eq ?_
   simp only [Bool.and_eq_true, decide_eq_true_eq]
   unfold RefOk ln
   omega
  ·have : (decide (r.bk ≥ 0) && decide (r.bk < 4)) = false := by
    simp only [Bool.and_eq_false_iff, decide_eq_false_iff_not]; omega
   rw [this]
   simp only [Bool.false_eq_true, if_false, Bool.false_and]
   congr 1
   exact (tb_f (by unfold RefOk; omega)).symm
structure Lp.Fine (l : Lp) : Prop where
 rlogs : ∀ x ∈ l.logs, InR x
 rbody : ∀ x ∈ l.body, x.InR
 routs : ∀ x ∈ l.outs, InR x
 llogs : l.logs.length ≤ maxLen
 lbody : l.body.length ≤ maxLen
 louts : l.outs.length ≤ maxLen
theorem LpRep.fine {w : World} {v1 v2 v3 : Value} {l : Lp} (h : LpRep w v1 v2 v3 l) : l.Fine := ⟨h.rlogs, h.rbody, h.routs, h.llogs, h.lbody, h.louts⟩
theorem maxLen_eq : maxLen = 9223372036854775807 := rfl
theorem zero2 (r : Rf) : ([r.st, r.bk] == [(0 : Int), 0]) = tb r.isZero := by
 refine tb_eq ?_
 simp [Rf.isZero]
theorem stmt_uses (l : Lp) (k : Int) (s : Stm) (hx : l.body.length ≤ maxLen) : (UsesTo l.body.length k (usesL s).length s ∧ lp (loop_stmt_L0 l k (usesL s)) 0 = some (.go ((usesL s).length : Int))) ∨
  (¬ UsesTo l.body.length k (usesL s).length s ∧ lp (loop_stmt_L0 l k (usesL s)) 0 = some (.ret false)) := by
 have hl := usesL_len s
 have := lp_all (f := loop_stmt_L0 l k (usesL s)) (n := (usesL s).length) (p := fun i => RefOk l.body.length k ((usesL s).getD i Rf.zero)) (fun i hi _ => by
  have e : loop_stmt_L0 l k (usesL s) i = br (!tb (RefOk l.body.length k ((usesL s).getD i Rf.zero))) (some (.ret false)) (some (.next ((i : Int) + 1))) := by
   unfold loop_stmt_L0
   rw [br_T (by unfold ln; omega), ck_IX (by omega) (by unfold ln; omega), ref_s, bd_ret, ck_IR (by omega) (by omega)]
   rfl
  constructor
  ·intro h; rw [e, tb_t h]; rfl
  ·intro h; rw [e, tb_f h]; rfl) (by unfold loop_stmt_L0; exact br_F (by unfold ln; omega))
 rcases this with ⟨h, e⟩ | ⟨h, e⟩
 ·exact .inl ⟨fun j hj hj2 => h j hj2, e⟩
 ·exact .inr ⟨fun h' => h fun i hi => h' i (by omega) hi, e⟩
theorem stillB (s : Stm) : ((s.ar == 0 && s.sp == 0) && s.pl == 0) = tb (StillOk s) := by
 refine tb_eq ?_
 simp [StillOk, and_assoc]
theorem wordB (nl : Int) (s : Stm) : (((decide (s.ar ≥ 0) && decide (s.ar < nl)) && (decide (s.sp ≥ -64) && decide (s.sp < 65))) && (decide (s.pl ≥ -64) && decide (s.pl < 65))) = tb (WordOk nl s) := by
 refine tb_eq ?_
 simp only [Bool.and_eq_true, decide_eq_true_eq]
 unfold WordOk
 omega
theorem tb_and {p q : Prop} : (tb p && tb q) = tb (p ∧ q) := by
 refine tb_eq ?_
 rw [Bool.and_eq_true, tb_iff, tb_iff]
theorem stmt_s (l : Lp) (k : Nat) (hk : k < l.body.length) (hf : l.Fine) : loop_stmt_m l k = some (tb (StmtOk l.logs.length l.body.length k (ele l.body k))) := by
 have hR : (ele l.body k).InR := ele_all hf.rbody hk
 have hop := hR.1
 unfold Rd.InR at hop
 have hl := hf.lbody
 rw [maxLen_eq] at hl
 generalize hs : ele l.body k = s at *
 have hs' : (Stm.mk s.op s.a s.b s.ar s.sp s.pl s.n) = s := rfl
 unfold loop_stmt_m
 rw [ck_IX (by omega) (by unfold ln; omega), hs, hs', Uses_s]
 unfold loop_in_m
 simp only [bd_ret, bdG_some']
 rcases stmt_uses l k s hf.lbody with ⟨hu, e⟩ | ⟨hu, e⟩
 ·rw [e]
  simp only [bd_ret, Out.on_go]
  rw [tb_congr (stmt_rest (nl := l.logs.length) hu (by omega)), stillB, zero2, zero2]
  have w : ∀ A B C : Bool, ((A && (if A = true then B else false)) && (if (A && (if A = true then B else false)) = true then C else false)) = ((A && B) && C) := by decide
  rw [w, show ln l.logs = (l.logs.length : Int) from rfl, wordB]
  simp only [br_eq, beq_iff_eq, bne_iff_ne]
  by_cases h1 : s.op = 1
  ·rw [if_pos h1, tb_congr (rest_1 h1), tb_and, tb_and, tb_congr (and_assoc)]
  ·rw [if_neg h1]
   by_cases hn : s.n = 0
   ·rw [if_neg (by simpa using hn)]
    by_cases h2 : s.op = 2
    ·rw [if_pos h2, tb_congr (rest_2 h2 hn), tb_and, tb_and, tb_congr (and_assoc)]
    ·rw [if_neg h2]
     by_cases h3 : s.op = 3
     ·rw [if_pos h3, tb_congr (rest_3 h3 hn), tb_and, tb_and, tb_congr (and_assoc)]
     ·rw [if_neg h3]
      by_cases h4 : s.op = 4
      ·rw [if_pos h4, tb_congr (rest_4 h4 hn), tb_and]
      ·rw [if_neg h4, tb_congr (rest_5 h1 h2 h3 h4 hn)]
       have ho := op_sub10 hop
       have e1 : (decide (IntKind.i64.wrap (s.op - 10) ≥ 1) && decide (IntKind.i64.wrap (s.op - 10) < 9)) = tb (11 ≤ s.op ∧ s.op ≤ 18) := by
        refine tb_eq ?_
        rw [Bool.and_eq_true, decide_eq_true_eq, decide_eq_true_eq]
        exact ho
       rw [e1]
       by_cases hst : StillOk s
       ·rw [tb_t hst, if_pos rfl, Bool.true_and]
        congr 1
        exact tb_congr ⟨fun h => ⟨hst, h⟩, fun h => h.2⟩
       ·rw [tb_f hst, Bool.false_and]
        congr 1
        exact (tb_f fun h => hst h.1).symm
   ·rw [if_pos (by simpa using hn)]
    congr 1
    exact (tb_f (rest_n h1 hn)).symm
 ·rw [e]
  simp only [bd_ret, Out.on_ret]
  congr 1
  refine (tb_f fun h => hu fun j hj hj2 => ?_).symm
  exact (uses_all.2 ⟨h.1, h.2.1⟩) j hj2
def LogAt (l : Lp) (j : Nat) : Prop := 0 ≤ l.logs.getD j 0 ∧ l.logs.getD j 0 ≤ 5
theorem logs_to {l : Lp} : LogsTo l l.logs.length ↔ ∀ i, i < l.logs.length → LogAt l i := ⟨fun h i hi => h i (by omega), fun h j hj => h j (by omega)⟩
def BodyAt (l : Lp) (j : Nat) : Prop := StmtOk l.logs.length l.body.length j (l.body.getD j Stm.zero)
theorem body_to {l : Lp} : BodyTo l l.body.length ↔ ∀ i, i < l.body.length → BodyAt l i := ⟨fun h i hi => h i (by omega), fun h j hj => h j (by omega)⟩
theorem ele_int (l : List Int) (i : Nat) : ele l (i : Int) = l.getD i 0 := rfl
theorem ele_stm (l : List Stm) (i : Nat) : ele l (i : Int) = l.getD i Stm.zero := rfl
theorem logs_s (l : Lp) (hf : l.Fine) : (LogsTo l l.logs.length ∧ lp (loop_May_L0 l) 0 = some (.go (l.logs.length : Int))) ∨ (¬ LogsTo l l.logs.length ∧ lp (loop_May_L0 l) 0 = some (.ret false)) := by
 have hl := hf.llogs
 rw [maxLen_eq] at hl
 rw [logs_to]
 refine lp_all (fun i hi _ => ?_) (by unfold loop_May_L0; exact br_F (by unfold ln; omega))
 have e : loop_May_L0 l i = br (!(decide (l.logs.getD i 0 ≥ 0) && decide (l.logs.getD i 0 < 6))) (some (.ret false)) (some (.next ((i : Int) + 1))) := by
  unfold loop_May_L0 loop_in_m
  rw [br_T (by unfold ln; omega), ck_IX (by omega) (by unfold ln; omega), bd_ret, ck_IR (by omega) (by omega)]
  rfl
 rw [e]
 constructor
 ·intro h
  rw [show (decide (l.logs.getD i 0 ≥ 0) && decide (l.logs.getD i 0 < 6)) = true from by simp only [Bool.and_eq_true, decide_eq_true_eq]; unfold LogAt at h; omega]; rfl
 ·intro h
  rw [show (decide (l.logs.getD i 0 ≥ 0) && decide (l.logs.getD i 0 < 6)) = false from by simp only [Bool.and_eq_false_iff, decide_eq_false_iff_not]; unfold LogAt at h; omega]; rfl
theorem outs_s (l : Lp) (hf : l.Fine) : ∀ (m i : Nat), i + m = l.outs.length → OutsTo l i →
  (OutsTo l l.outs.length ∧ ∃ x, lp (loop_May_L2 l) (lastOut l i, i) = some (.go (x, (l.outs.length : Int)))) ∨ (¬ OutsTo l l.outs.length ∧ lp (loop_May_L2 l) (lastOut l i, i) = some (.ret false))
 | 0, i, h, hp => by
  have hi : i = l.outs.length := by omega
  subst hi
  exact .inl ⟨hp, _, lp_brk (by unfold loop_May_L2; exact br_F (by unfold ln; omega))⟩
 | m + 1, i, h, hp => by
  have hl := hf.louts
  have hb := hf.lbody
  rw [maxLen_eq] at hl hb
  have hlo := lastOut_bd (by omega) hp
  have hst := out_step (l := l) (i := i) (by omega) hp
  rw [Int.toNat_natCast] at hst
  have e : loop_May_L2 l (lastOut l i, i) = br (!(decide (l.outs.getD i 0 ≥ lastOut l i + 1) && decide (l.outs.getD i 0 < l.body.length))) (some (.ret false)) (some (.next (l.outs.getD i 0, (i : Int) + 1))) := by
   unfold loop_May_L2 loop_in_m
   simp only
   rw [br_T (by unfold ln; omega), ck_IX (by omega) (by unfold ln; omega), ck_IR (by omega) (by omega), bd_ret, ck_IR (by omega) (by omega)]
   rfl
  by_cases hc : lastOut l i + 1 ≤ l.outs.getD i 0 ∧ l.outs.getD i 0 < l.body.length
  ·have hc' : (decide (l.outs.getD i 0 ≥ lastOut l i + 1) && decide (l.outs.getD i 0 < l.body.length)) = true := by simp only [Bool.and_eq_true, decide_eq_true_eq]; exact hc
   rw [hc', Bool.not_true, br_false] at e
   have hnext : OutsTo l ((i : Int) + 1) := to_next hp (by omega) (by rw [Int.toNat_natCast]; exact hst.1 hc)
   have hn := lastOut_next (l := l) (i := i) (by omega)
   rw [Int.toNat_natCast] at hn
   have ih := outs_s l hf m (i + 1) (by omega) hnext
   rw [show ((i + 1 : Nat) : Int) = (i : Int) + 1 from rfl, hn] at ih
   rcases ih with ⟨a, x, b⟩ | ⟨a, b⟩
   ·exact .inl ⟨a, x, (lp_next e).trans b⟩
   ·exact .inr ⟨a, (lp_next e).trans b⟩
  ·have hc' : (decide (l.outs.getD i 0 ≥ lastOut l i + 1) && decide (l.outs.getD i 0 < l.body.length)) = false := by simp only [Bool.and_eq_false_iff, decide_eq_false_iff_not]; omega
   rw [hc', Bool.not_false, br_true] at e
   exact .inr ⟨fun h' => hc (hst.2 (h' i (by omega))), lp_ret e⟩
theorem body_s (l : Lp) (hf : l.Fine) (hle : l.body.length ≤ 16) : (BodyTo l l.body.length ∧ lp (loop_May_L4 l) 0 = some (.go (l.body.length : Int))) ∨ (¬ BodyTo l l.body.length ∧ lp (loop_May_L4 l) 0 = some (.ret false)) := by
 rw [body_to]
 refine lp_all (fun i hi _ => ?_) (by unfold loop_May_L4; exact br_F (by unfold ln; omega))
 have e : loop_May_L4 l i = br (!tb (BodyAt l i)) (some (.ret false)) (some (.next ((i : Int) + 1))) := by
  have h16 : ¬ ln l.body > 16 := by unfold ln; omega
  unfold loop_May_L4
  rw [br_T (by unfold ln; omega), stmt_s l i hi hf, decide_eq_false h16, ck_IR (by omega) (by omega), ele_stm]
  simp only [Bool.not_false, bdG_t, bd_ret, Bool.false_or, BodyAt]
 rw [e]
 exact ⟨fun h => by rw [tb_t h]; rfl, fun h => by rw [tb_f h]; rfl⟩
theorem May_s (l : Lp) (hf : l.Fine) : loop_May_m l = some (tb (LoopOk l)) := by
 unfold loop_May_m
 rcases logs_s l hf with ⟨h1, e1⟩ | ⟨h1, e1⟩
 ·rw [e1, bd_ret, Out.on_go]
  have h0 := outs_s l hf l.outs.length 0 (by omega) (to_zero)
  rw [show lastOut l ((0 : Nat) : Int) = -1 from rfl] at h0
  rcases h0 with ⟨h2, x, e2⟩ | ⟨h2, e2⟩
  ·rw [show ((-1 : Int), (0 : Int)) = (-1, ((0 : Nat) : Int)) from rfl, e2, bd_ret, Out.on_go]
   simp only
   by_cases h16 : l.body.length ≤ 16
   ·rcases body_s l hf h16 with ⟨h3, e3⟩ | ⟨h3, e3⟩
    ·rw [e3, bd_ret, Out.on_go]
     congr 1
     refine tb_eq ?_
     simp only [Bool.and_eq_true, decide_eq_true_eq]
     unfold ln
     exact ⟨fun h => ⟨by omega, by omega, h16, h1, h2, h3⟩, fun h => ⟨by have := h.1; omega, by have := h.2.1; omega⟩⟩
    ·rw [e3, bd_ret, Out.on_ret]
     congr 1
     exact (tb_f fun h => h3 h.2.2.2.2.2).symm
   ·have : loop_May_L4 l 0 = some (.ret false) := by
     unfold loop_May_L4
     rw [br_T (by unfold ln; omega), show (decide (ln l.body > 16)) = true from decide_eq_true (by unfold ln; omega)]
     rfl
    rw [lp_ret this, bd_ret, Out.on_ret]
    congr 1
    exact (tb_f fun h => h16 h.2.2.1).symm
  ·rw [show ((-1 : Int), (0 : Int)) = (-1, ((0 : Nat) : Int)) from rfl, e2, bd_ret, Out.on_ret]
   congr 1
   exact (tb_f fun h => h2 h.2.2.2.2.1).symm
 ·rw [e1, bd_ret, Out.on_ret]
  congr 1
  exact (tb_f fun h => h1 h.2.2.2.1).symm
theorem ref_uses (l : Lp) (k : Int) (s : Stm) (hx : l.body.length ≤ maxLen) (hk : 0 ≤ k) (hk2 : k ≤ l.body.length) : (UsesTo l.body.length k (usesL s).length s ∧ lp (R2_stmt_L0 l k (usesL s)) 0 = some (.go ((usesL s).length : Int))) ∨
  (¬ UsesTo l.body.length k (usesL s).length s ∧ lp (R2_stmt_L0 l k (usesL s)) 0 = some (.ret false)) := by
 have hl := usesL_len s
 rw [maxLen_eq] at hx
 have := lp_all (f := R2_stmt_L0 l k (usesL s)) (n := (usesL s).length) (p := fun i => RefOk l.body.length k ((usesL s).getD i Rf.zero)) (fun i hi _ => by
  have hix : IX (i : Int) (ln (usesL s)) := ⟨by omega, by unfold ln; omega⟩
  have e : R2_stmt_L0 l k (usesL s) i = br (!tb (RefOk l.body.length k ((usesL s).getD i Rf.zero))) (some (.ret false)) (some (.next ((i : Int) + 1))) := by
   unfold R2_stmt_L0 R2_Within_m
   rw [show ele (usesL s) (i : Int) = (usesL s).getD i Rf.zero from rfl]
   generalize (usesL s).getD i Rf.zero = r
   rw [br_T (by unfold ln; omega), ck_IR (by unfold ln; omega) (by unfold ln; omega), ck_yes hix]
   simp only [bd_ret, bdG_some', Bool.not_not]
   rw [ck_yes hix, ck_imp (fun _ => hix), ck_yes hix, ck_imp (fun _ => hix), ck_IR (by omega) (by omega), ck_IR (by omega) (by omega)]
   have hb : ∀ b : Bool, (!b || !(if b = true then (decide (r.st ≥ 0) && decide (r.st ≤ k - 1)) else false)) = !(b && (decide (r.st ≥ 0) && decide (r.st ≤ k - 1))) := fun b => by cases b <;> simp
   have hb2 : ∀ b : Bool, (!b || !(if b = true then (decide (r.st ≥ 0) && decide (r.st ≤ ln l.body - 1)) else false)) = !(b && (decide (r.st ≥ 0) && decide (r.st ≤ ln l.body - 1))) := fun b => by cases b <;> simp
   rw [hb, hb2]
   rw [br_eq]
   simp only [beq_iff_eq]
   have q : ∀ {b : Bool} {p : Prop}, (b = true ↔ p) → br (!b) (some (Stp.ret false)) (some (Stp.next ((i : Int) + 1))) = br (!tb p) (some (.ret false)) (some (.next ((i : Int) + 1))) := fun h => by rw [tb_eq h]
   split
   ·refine q ?_
    simp only [Bool.and_eq_true, decide_eq_true_eq]
    unfold RefOk; omega
   ·refine q ?_
    simp only [Bool.and_eq_true, decide_eq_true_eq]
    unfold RefOk ln; omega
  constructor
  ·intro h; rw [e, tb_t h]; rfl
  ·intro h; rw [e, tb_f h]; rfl) (by unfold R2_stmt_L0; exact br_F (by unfold ln; omega))
 rcases this with ⟨h, e⟩ | ⟨h, e⟩
 ·exact .inl ⟨fun j hj hj2 => h j hj2, e⟩
 ·exact .inr ⟨fun h' => h fun i hi => h' i (by omega) hi, e⟩
theorem zerosB (s : Stm) : ((decide (ln (usesL s) < 2) && ((s.b.st != 0) || (s.b.bk != 0))) || (decide (ln (usesL s) < 1) && ((s.a.st != 0) || (s.a.bk != 0)))) = !tb (Zeros s) := by
 have : (!((decide (ln (usesL s) < 2) && ((s.b.st != 0) || (s.b.bk != 0))) || (decide (ln (usesL s) < 1) && ((s.a.st != 0) || (s.a.bk != 0))))) = tb (Zeros s) := by
  refine tb_eq ?_
  unfold Zeros Rf.isZero ln
  simp only [Bool.not_eq_true', Bool.or_eq_false_iff, Bool.and_eq_false_iff, decide_eq_false_iff_not, bne_eq_false_iff_eq]
  omega
 rw [← this, Bool.not_not]
theorem ref_stmt_s (l : Lp) (k : Nat) (hk : k < l.body.length) (hf : l.Fine) : R2_stmt_m l k = some (tb (StmtOk l.logs.length l.body.length k (ele l.body k))) := by
 have hl := hf.lbody
 have hl2 := hf.llogs
 rw [maxLen_eq] at hl hl2
 generalize hs : ele l.body k = s
 have hs' : (Stm.mk s.op s.a s.b s.ar s.sp s.pl s.n) = s := rfl
 unfold R2_stmt_m
 rw [ck_IX (by omega) (by unfold ln; omega), hs, hs', ref_Uses_s]
 unfold R2_Within_m
 simp only [bd_ret, bdG_some']
 rcases ref_uses l k s hf.lbody (by omega) (by omega) with ⟨hu, e⟩ | ⟨hu, e⟩
 ·rw [e]
  simp only [bd_ret, Out.on_go]
  rw [tb_congr (stmt_rest (nl := l.logs.length) hu (by omega)), zerosB, ck_IR (by unfold ln; omega) (by unfold ln; omega)]
  by_cases hz : Zeros s
  ·rw [tb_t hz, Bool.not_true, br_false]
   by_cases hn : s.op = 1 ∨ s.n = 0
   ·rw [show ((s.op != 1) && (s.n != 0)) = false from by simp; omega, br_false]
    by_cases h34 : s.op = 3 ∨ s.op = 4
    ·rw [show ((s.op == 3) || (s.op == 4)) = true from by simpa using h34, br_true, tb_congr (rest_34 h34 hz (by omega))]
     have w : ∀ A B C : Bool, ((A && (if A = true then B else false)) && (if (A && (if A = true then B else false)) = true then C else false)) = ((A && B) && C) := by decide
     rw [w]
     congr 1
     refine tb_eq ?_
     simp only [Bool.and_eq_true, decide_eq_true_eq]
     unfold WordOk ln; omega
    ·rw [show ((s.op == 3) || (s.op == 4)) = false from by simp; omega, br_false]
     by_cases hst : StillOk s
     ·have hst' := hst
      unfold StillOk at hst'
      rw [show (((s.ar != 0) || (s.sp != 0)) || (s.pl != 0)) = false from by simp [hst'.1, hst'.2.1, hst'.2.2], br_false, tb_congr (rest_end h34 hz hst hn)]
      congr 1
      refine tb_eq ?_
      by_cases h12 : s.op = 1 ∨ s.op = 2
      ·simp [h12]; omega
      ·simp; omega
     ·have hst' := hst
      unfold StillOk at hst'
      rw [show (((s.ar != 0) || (s.sp != 0)) || (s.pl != 0)) = true from by simp; omega, br_true]
      congr 1
      exact (tb_f fun h => hst (rest_still h34 h)).symm
   ·rw [show ((s.op != 1) && (s.n != 0)) = true from by simp; omega, br_true]
    congr 1
    exact (tb_f (rest_n (by omega) (by omega))).symm
  ·rw [tb_f hz, Bool.not_false, br_true]
   congr 1
   exact (tb_f fun h => hz (rest_zero h)).symm
 ·rw [e]
  simp only [bd_ret, Out.on_ret]
  congr 1
  refine (tb_f fun h => hu fun j hj hj2 => ?_).symm
  exact (uses_all.2 ⟨h.1, h.2.1⟩) j hj2
def OutAt (l : Lp) (j : Nat) : Prop := 0 ≤ l.outs.getD j 0 ∧ l.outs.getD j 0 < l.body.length ∧ (∀ m : Nat, j = m + 1 → l.outs.getD m 0 < l.outs.getD j 0)
theorem outs_to {l : Lp} : OutsTo l l.outs.length ↔ ∀ i, i < l.outs.length → OutAt l i := ⟨fun h i hi => h i (by omega), fun h j hj => h j (by omega)⟩
theorem ref_outs (l : Lp) (hf : l.Fine) : (OutsTo l l.outs.length ∧ lp (R2_May_L2 l) 0 = some (.go (l.outs.length : Int))) ∨ (¬ OutsTo l l.outs.length ∧ lp (R2_May_L2 l) 0 = some (.ret false)) := by
 have hl := hf.louts
 have hb := hf.lbody
 rw [maxLen_eq] at hl hb
 rw [outs_to]
 refine lp_all (fun i hi _ => ?_) (by unfold R2_May_L2; exact br_F (by unfold ln; omega))
 have hix : IX (i : Int) (ln l.outs) := ⟨by omega, by unfold ln; omega⟩
 have e : R2_May_L2 l i = br (!tb (OutAt l i)) (some (.ret false)) (some (.next ((i : Int) + 1))) := by
  unfold R2_May_L2 R2_Within_m
  rw [br_T (by unfold ln; omega), ck_yes hix, ck_IR (by unfold ln; omega) (by unfold ln; omega), bd_ret, ck_imp (fun _ => hix), ck_imp (fun h => ⟨by omega, by omega⟩), ck_imp (fun h => ⟨by simp at h; omega, by unfold ln; omega⟩), ck_IR (by omega) (by omega)]
  have : ((!(decide (ele l.outs (i : Int) ≥ 0) && decide (ele l.outs (i : Int) ≤ ln l.body - 1))) || (decide ((i : Int) > 0) && decide (ele l.outs (i : Int) ≤ ele l.outs ((i : Int) - 1)))) = !tb (OutAt l i) := by
   have : (!((!(decide (ele l.outs (i : Int) ≥ 0) && decide (ele l.outs (i : Int) ≤ ln l.body - 1))) || (decide ((i : Int) > 0) && decide (ele l.outs (i : Int) ≤ ele l.outs ((i : Int) - 1))))) = tb (OutAt l i) := by
    refine tb_eq ?_
    rw [ele_int]
    unfold OutAt ln
    cases i with
    | zero => simp; omega
    | succ m =>
     have e2 : ((m + 1 : Nat) : Int) - 1 = (m : Int) := by omega
     rw [e2, ele_int]
     simp
     constructor <;> intro h <;> omega
   rw [← this, Bool.not_not]
  rw [this]
 rw [e]
 exact ⟨fun h => by rw [tb_t h]; rfl, fun h => by rw [tb_f h]; rfl⟩
theorem ref_logs (l : Lp) (hf : l.Fine) : (LogsTo l l.logs.length ∧ lp (R2_May_L0 l) 0 = some (.go (l.logs.length : Int))) ∨ (¬ LogsTo l l.logs.length ∧ lp (R2_May_L0 l) 0 = some (.ret false)) := by
 have hl := hf.llogs
 rw [maxLen_eq] at hl
 rw [logs_to]
 refine lp_all (fun i hi _ => ?_) (by unfold R2_May_L0; exact br_F (by unfold ln; omega))
 have e : R2_May_L0 l i = br (!(decide (l.logs.getD i 0 ≥ 0) && decide (l.logs.getD i 0 ≤ 5))) (some (.ret false)) (some (.next ((i : Int) + 1))) := by
  unfold R2_May_L0 R2_Within_m
  rw [br_T (by unfold ln; omega), ck_IX (by omega) (by unfold ln; omega), bd_ret, ck_IR (by omega) (by omega)]
  rfl
 rw [e]
 constructor
 ·intro h
  rw [show (decide (l.logs.getD i 0 ≥ 0) && decide (l.logs.getD i 0 ≤ 5)) = true from by simp only [Bool.and_eq_true, decide_eq_true_eq]; unfold LogAt at h; omega]; rfl
 ·intro h
  rw [show (decide (l.logs.getD i 0 ≥ 0) && decide (l.logs.getD i 0 ≤ 5)) = false from by simp only [Bool.and_eq_false_iff, decide_eq_false_iff_not]; unfold LogAt at h; omega]; rfl
theorem ref_body (l : Lp) (hf : l.Fine) : (BodyTo l l.body.length ∧ lp (R2_May_L4 l) 0 = some (.go (l.body.length : Int))) ∨ (¬ BodyTo l l.body.length ∧ lp (R2_May_L4 l) 0 = some (.ret false)) := by
 have hb := hf.lbody
 rw [maxLen_eq] at hb
 rw [body_to]
 refine lp_all (fun i hi _ => ?_) (by unfold R2_May_L4; exact br_F (by unfold ln; omega))
 have e : R2_May_L4 l i = br (!tb (BodyAt l i)) (some (.ret false)) (some (.next ((i : Int) + 1))) := by
  unfold R2_May_L4
  rw [br_T (by unfold ln; omega), ref_stmt_s l i hi hf, bd_ret, ck_IR (by omega) (by omega)]
  rfl
 rw [e]
 exact ⟨fun h => by rw [tb_t h]; rfl, fun h => by rw [tb_f h]; rfl⟩
theorem ref_May_s (l : Lp) (hf : l.Fine) : R2_May_m l = some (tb (LoopOk l)) := by
 unfold R2_May_m
 by_cases h0 : l.logs.length ≤ 3 ∧ 1 ≤ l.body.length ∧ l.body.length ≤ 16
 ·rw [show ((decide (ln l.logs > 3) || decide (ln l.body < 1)) || decide (ln l.body > 16)) = false from by simp only [Bool.or_eq_false_iff, decide_eq_false_iff_not]; unfold ln; omega, br_false]
  rcases ref_logs l hf with ⟨h1, e1⟩ | ⟨h1, e1⟩
  ·rw [e1, bd_ret, Out.on_go]
   rcases ref_outs l hf with ⟨h2, e2⟩ | ⟨h2, e2⟩
   ·rw [e2, bd_ret, Out.on_go]
    rcases ref_body l hf with ⟨h3, e3⟩ | ⟨h3, e3⟩
    ·rw [e3, bd_ret, Out.on_go]
     congr 1
     exact (tb_t ⟨h0.1, h0.2.1, h0.2.2, h1, h2, h3⟩).symm
    ·rw [e3, bd_ret, Out.on_ret]
     congr 1
     exact (tb_f fun h => h3 h.2.2.2.2.2).symm
   ·rw [e2, bd_ret, Out.on_ret]
    congr 1
    exact (tb_f fun h => h2 h.2.2.2.2.1).symm
  ·rw [e1, bd_ret, Out.on_ret]
   congr 1
   exact (tb_f fun h => h1 h.2.2.2.1).symm
 ·rw [show ((decide (ln l.logs > 3) || decide (ln l.body < 1)) || decide (ln l.body > 16)) = true from by simp only [Bool.or_eq_true, decide_eq_true_eq]; unfold ln; omega, br_true]
  congr 1
  exact (tb_f fun h => h0 ⟨h.1, h.2.1, h.2.2.1⟩).symm
theorem LoopOk.log {l : Lp} (h : LoopOk l) (i : Nat) (hi : i < l.logs.length) : 0 ≤ l.logs.getD i 0 ∧ l.logs.getD i 0 ≤ 5 := h.2.2.2.1 i (by omega)
theorem LoopOk.out {l : Lp} (h : LoopOk l) (i : Nat) (hi : i < l.outs.length) : 0 ≤ l.outs.getD i 0 ∧ l.outs.getD i 0 < l.body.length := ⟨(h.2.2.2.2.1 i (by omega)).1, (h.2.2.2.2.1 i (by omega)).2.1⟩
theorem LoopOk.stm {l : Lp} (h : LoopOk l) (i : Nat) (hi : i < l.body.length) : StmtOk l.logs.length l.body.length i (l.body.getD i Stm.zero) := h.2.2.2.2.2 i (by omega)
theorem outs_len {l : Lp} (h : LoopOk l) : l.outs.length ≤ 16 := by
 have h5 := h.2.2.2.2.1
 have key : ∀ i : Nat, i < l.outs.length → (i : Int) ≤ l.outs.getD i 0 := by
  intro i
  induction i with
  | zero => intro hi; exact (h5 0 (by omega)).1
  | succ i ih =>
   intro hi
   have h1 := ih (by omega)
   have h2 := (h5 (i + 1) (by omega)).2.2 i rfl
   omega
 rcases Nat.lt_or_ge 16 l.outs.length with hlt | hge
 ·have h1 := key 16 hlt
  have h2 := (h5 16 (by omega)).2.1
  have := h.2.2.1
  omega
 ·exact hge
theorem lp_det {γ ρ : Type} {f : γ → Option (Stp γ ρ)} (st : Nat → γ) (n : Nat) (step : ∀ i, i < n → f (st i) = some (.next (st (i + 1)))) (hend : f (st n) = some (.brk (st n))) : lp f (st 0) = some (.go (st n)) := by
 have key : ∀ m i : Nat, i + m = n → lp f (st i) = some (.go (st n)) := by
  intro m
  induction m with
  | zero =>
   intro i hi
   have : i = n := by omega
   subst this
   exact lp_brk hend
  | succ m ih => exact fun i hi => lp_step (step i (by omega)) (ih (i + 1) (by omega))
 exact key n 0 (by omega)
theorem rm_succ {α : Type} {n : Nat} {g : Nat → α} : (List.range n).map g ++ [g n] = (List.range (n + 1)).map g := by rw [List.range_succ, List.map_append]; rfl
end Go.Rd
end
section
namespace Go.Rd
open Go.RowKit
def ByteT (P : Program) (U S E : TypeId) : Prop := P.underlying U = some (.slice E) ∧ P.underlying S = some .string ∧ (P.info? E).map (fun i => (i.zero, i.size, i.bytes)) = some (some (.int .u8 0), 1, 1)
theorem strCells_flat (l : List UInt8) : Lib.strCells ⟨l.toArray⟩ = (l.map bcell).flatten := by
 rw [bcell_flat]; simp [Lib.strCells]
section
variable {P : Program} {n : Nat} {σ : Env} {M : Nat → Prop} {w0 : World} {H : List Res} {d : Option Tmp} {T U E S : TypeId} {pos : String} {after : Array Edge} {gd : Option (Nat × Bool)} {x y : Operand} {g g' : Bool} {v yv : Value}
 {K : Act → World → Prop} {Q : Exit → Act → World → Prop}
theorem run_append_str {w : World} {xs l : List UInt8} (hT : ByteT P U S E) (hown : (vec v E 1 (xs.map bcell)).holds w) (h63 : (xs ++ l).length ≤ maxLen) (hby : (xs ++ l).length ≤ 140737488355328) :
  ∃ v' w', (Builtin.append_ #[U, S] T #[v, strV l]).run P w = .ok v' w' ∧ (vec v' E 1 ((xs ++ l).map bcell)).holds w' ∧ w'.os = w.os ∧ w'.tape = w.tape ∧ (w'.output = w.output ∧ w.drawn ≤ w'.drawn) ∧ w.heap.size ≤ w'.heap.size ∧
   (∀ b, b < w.heap.size → ¬ (vec v E 1 (xs.map bcell)).foot b → w'.heap[b]? = w.heap[b]?) ∧ (∀ b, (vec v' E 1 ((xs ++ l).map bcell)).foot b → ((vec v E 1 (xs.map bcell)).foot b ∨ w.heap.size ≤ b) ∧ b < w'.heap.size) := by
 obtain ⟨hU, hS, hE⟩ := hT
 obtain ⟨i, hi, hz, his, hib⟩ := info_parts hE
 have hsz : (ByteArray.mk l.toArray).size = l.length := by simp [ByteArray.size]
 have hll : (xs ++ l).length = xs.length + l.length := List.length_append
 rw [hll] at h63 hby
 have hfl : (xs.map bcell).flatten ++ Lib.strCells ⟨l.toArray⟩ = ((xs ++ l).map bcell).flatten := by rw [strCells_flat, List.map_append, List.flatten_append]
 have hall : ∀ r ∈ (xs ++ l).map bcell, r.length = 1 := fun r hr => by
  obtain ⟨u, _, rfl⟩ := List.mem_map.1 hr
  rfl
 have hn : ((xs ++ l).map bcell).length = xs.length + (ByteArray.mk l.toArray).size := by rw [hsz, List.length_map, hll]
 have hxl : (xs.map bcell).length = xs.length := List.length_map _
 have ho0 : w.ownsRow 0 E 1 v xs.length (xs.map bcell).flatten := by have := hown.1; rwa [hxl] at this
 rcases ho0.2 with ⟨rfl, hrl⟩ | ⟨b, cap, cur, rfl, hb0, hh, hnc, hcm, hcs, htake⟩
 ·obtain ⟨v', w', hr, ho, hg, _⟩ := Lib.run_append_own_string (P := P) w w.heap.size U S T E i hU hS hi hz his hib (.slice none 0 0) xs.length _ ⟨ho0.1, .inl ⟨rfl, hrl⟩⟩ ⟨l.toArray⟩ (by rw [hsz]; exact h63) (by rw [hsz]; exact hby) (Nat.le_refl _)
  refine ⟨v', w', hr, ⟨⟨by rw [hn, ← hfl]; exact ho.1, ?_⟩, hall⟩, hg.os, hg.tape, ⟨hg.output, run_drawn _ _ hr⟩, hg.size, fun k hk _ => hg.block k hk (by simp [Value.ownBlock]), fun k hk => ?_⟩
  ·rw [hn, ← hfl]
   rcases ho.2 with h | ⟨g, c2, cur, h⟩
   ·exact .inl h
   ·exact .inr ⟨g, c2, cur, h.1, Nat.zero_le _, h.2.2⟩
  ·obtain ⟨n2, c2, rfl⟩ := hk
   rcases ho.2 with ⟨h, _⟩ | ⟨g, c3, cur, h, h2, h3, _⟩
   ·cases h
   ·simp only [Value.slice.injEq, Option.some.injEq, Addr.mk.injEq] at h
    obtain ⟨⟨rfl, _⟩, _⟩ := h
    exact ⟨.inr h2, (Array.getElem?_eq_some_iff.1 h3).1⟩
 ·obtain ⟨v', w', hr, ho, hg, _⟩ := Lib.run_append_own_string (P := P) w 0 U S T E i hU hS hi hz his hib _ xs.length _ ho0 ⟨l.toArray⟩ (by rw [hsz]; exact h63) (by rw [hsz]; exact hby) (Nat.zero_le _)
  have hfoot : ∀ k, (vec v' E 1 ((xs ++ l).map bcell)).foot k → ((vec (.slice (some ⟨b, 0, none⟩) xs.length cap) E 1 (xs.map bcell)).foot k ∨ w.heap.size ≤ k) ∧ k < w'.heap.size := by
   rintro k ⟨n2, c2, rfl⟩
   refine ⟨?_, ?_⟩
   ·by_cases hroom : xs.length + (ByteArray.mk l.toArray).size ≤ cap
    ·have hr2 := Lib.run_append_room_string (P := P) w U S T E i hU hS hi his b xs.length cap cur hh ⟨l.toArray⟩ hroom (by simpa [hcs] using hroom)
     rw [hr] at hr2
     simp only [Result.ok.injEq, Value.slice.injEq, Option.some.injEq, Addr.mk.injEq] at hr2
     obtain ⟨⟨⟨rfl, _⟩, _⟩, _⟩ := hr2
     exact .inl ⟨_, _, rfl⟩
    ·have hr2 := Lib.run_append_grow_string (P := P) w U S T E i (.int .u8 0) hU hS hi hz ⟨b, 0, none⟩ xs.length cap (xs.map bcell).flatten (by rw [his, ho0.1]) (ho0.cells (g := b) rfl) ⟨l.toArray⟩ (by omega) (by rw [hsz]; unfold maxLen at h63; omega) (by rw [hib]; exact growslice_fits (by omega) (by rw [hsz]; omega))
     rw [hr] at hr2
     simp only [Result.ok.injEq, Value.slice.injEq, Option.some.injEq, Addr.mk.injEq] at hr2
     obtain ⟨⟨⟨rfl, _⟩, _⟩, _⟩ := hr2
     exact .inr (Nat.le_refl _)
   ·rcases ho.2 with ⟨h, _⟩ | ⟨g, c3, cur, h, h2, h3, _⟩
    ·cases h
    ·simp only [Value.slice.injEq, Option.some.injEq, Addr.mk.injEq] at h
     obtain ⟨⟨rfl, _⟩, _⟩ := h
     exact (Array.getElem?_eq_some_iff.1 h3).1
  refine ⟨v', w', hr, ⟨by rw [hn, ← hfl]; exact ho, hall⟩, hg.os, hg.tape, ⟨hg.output, run_drawn _ _ hr⟩, hg.size, fun k hk hf => hg.block k hk (fun he => ?_), hfoot⟩
  simp only [Value.ownBlock, Option.some.injEq] at he
  subst he
  exact hf ⟨_, _, rfl⟩
theorem EV.appendStr (k : Nat) {dd : Nat} {xs l : List UInt8} (hn : dd < n) (hT : ByteT P U S E) (hk : H[k]? = some (vec v E 1 (xs.map bcell))) (hx : σ.ev x = some (g, v)) (hg : g = true) (hy : σ.ev y = some (g', strV l)) (hg' : g' = true)
  (h63 : AL (xs ++ l).length 1)
  (kk : ∀ u, SliceLen u (xs ++ l).length → WK n K ((dd, (true, u)) :: σ) (Own M w0 (H.set k (vec u E 1 ((xs ++ l).map bcell))))) : EV P n ⟨some dd, .call ⟨.builtin .append, #[x, y], #[U, S]⟩, T, pos, after, gd⟩ σ (Own M w0 H) K Q := fun a w ha hw => by
 refine .inl ?_
 obtain ⟨v', w', hr, h2, h3, h4, h5, h6, h7, h8⟩ := run_append_str (T := T) hT (hw.at k hk) h63.1 (by have := h63.2; omega)
 have hrun : (execOp a.eval ⟨some dd, .call ⟨.builtin .append, #[x, y], #[U, S]⟩, T, pos, after, gd⟩).run P w = .ok (.value v') w' := by
  simp [execOp, resolve, invoke, builtin, ha.ev hx hg, ha.ev hy hg', hr, Result.andThen]
 unfold Oper.wp
 rw [hrun]
 have hl := (vec_arr h2).len
 rw [List.length_map] at hl
 exact kk v' hl _ _ (ha.put hn true _) (hw.upd k hk h3 h4 h5 h6 h7 h2 h8)
def sdata : Value → Value
 | .slice (some a) _ _ => .pointer (some a)
 | _ => .pointer none
theorem QV.sliceData {C : World → Prop} {ats : Array TypeId} {l : List UInt8} (hx : σ.ev x = some (g, v)) (hg : g = true) (hl : SliceLen v l.length) (h0 : l ≠ []) :
  QV P ⟨d, .call ⟨.builtin .unsafeSliceData, #[x], ats⟩, T, pos, after, gd⟩ σ C (sdata v) := .of_run fun n a ha w hw => by
 obtain ⟨b, c, rfl, hs, hc⟩ := hl
 have hp : 0 < l.length := by cases l with | nil => exact absurd rfl h0 | cons _ _ => simp
 obtain ⟨b, rfl⟩ := Option.isSome_iff_exists.1 (hs hp)
 have hr := Lib.run_unsafeSliceData_row (P := P) w ats T b l.length c (by omega)
 simp [execOp, resolve, invoke, builtin, ha.ev hx hg, hr, sdata, Result.andThen]
def gone : Res := ⟨fun _ => False, fun _ => True, fun _ _ _ _ => trivial⟩
theorem EV.unsafeStr (k : Nat) {dd : Nat} {pt it : TypeId} {l : List UInt8} (hn : dd < n) (hp : P.underlying pt = some (.pointer E)) (hc : P.cellsOf E = 1) (hk : H[k]? = some (vec v E 1 (l.map bcell))) (h0 : l ≠ [])
  (hx : σ.ev x = some (g, sdata v)) (hg : g = true) (hy : σ.ev y = some (g', .int .i64 (ln l))) (hg' : g' = true)
  (kk : WK n K ((dd, (true, strV l)) :: σ) (Own M w0 (H.set k gone))) : EV P n ⟨some dd, .call ⟨.builtin .unsafeString, #[x, y], #[pt, it]⟩, T, pos, after, gd⟩ σ (Own M w0 H) K Q := fun a w ha hw => by
 refine .inl ?_
 have hv := hw.at k hk
 have hlen : (l.map bcell).length = l.length := List.length_map _
 have hlp : l.length ≠ 0 := by simpa using h0
 have ho0 : w.ownsRow 0 E 1 v l.length (l.map bcell).flatten := by have := hv.1; rwa [hlen] at this
 rcases ho0.2 with ⟨_, hz⟩ | ⟨b, cap, cur, rfl, _, hh, hnc, hcm, hcs, htake⟩
 ·exact absurd hz hlp
 have hr := Lib.run_unsafeString_row (P := P) w pt it T E hp hc b cur.size (by simp [World.shape?, hh]) l h0 (by omega) (by unfold maxLen at hcm; omega) (fun j q hq => ho0.cells (g := b) rfl j _ (by rw [bcell_flat, List.getElem?_map, hq]; rfl))
 have hrun : (execOp a.eval ⟨some dd, .call ⟨.builtin .unsafeString, #[x, y], #[pt, it]⟩, T, pos, after, gd⟩).run P w = .ok (.value (strV l)) (w.freeze ⟨b, 0, none⟩ l.length) := by
  have hr' : (Builtin.unsafeString_ #[pt, it] T #[sdata (.slice (some ⟨b, 0, none⟩) l.length cap), .int .i64 (ln l)]).run P w = .ok (strV l) (w.freeze ⟨b, 0, none⟩ l.length) := hr
  simp [execOp, resolve, invoke, builtin, ha.ev hx hg, ha.ev hy hg', hr', Result.andThen]
 unfold Oper.wp
 rw [hrun]
 have hfz : (w.freeze ⟨b, 0, none⟩ l.length).os = w.os ∧ (w.freeze ⟨b, 0, none⟩ l.length).tape = w.tape ∧ (w.freeze ⟨b, 0, none⟩ l.length).output = w.output ∧ (w.freeze ⟨b, 0, none⟩ l.length).heap.size = w.heap.size ∧ ∀ c, c ≠ b → (w.freeze ⟨b, 0, none⟩ l.length).heap[c]? = w.heap[c]? := by
  unfold World.freeze
  split
  ·exact ⟨rfl, rfl, rfl, rfl, fun _ _ => rfl⟩
  ·refine ⟨rfl, rfl, rfl, by simp, fun c hcb => ?_⟩
   simp [Array.getElem?_modify, Ne.symm hcb]
 refine kk _ _ (ha.put hn true _) (hw.upd k hk hfz.1 hfz.2.1 ⟨hfz.2.2.1, Nat.le_of_eq (freeze_drawn ..).symm⟩ (Nat.le_of_eq hfz.2.2.2.1.symm) (fun c _ hf => hfz.2.2.2.2 c fun e => hf (e ▸ ⟨_, _, rfl⟩)) trivial fun _ h => h.elim)
end
def selfV (u : Bool) (b : Nat) : Value := .pointer (if u then some ⟨b, 0, none⟩ else none)
def copyCheck_m (a : Bool) (l : List UInt8) : Option Bool := some true
def Itoa_m (n : Int) : Option (List UInt8) := ck (IR n) (some (Lib.itoa n))
def FormatInt_m (n b : Int) : Option (List UInt8) := ck (IR n ∧ b = 10) (some (Lib.itoa n))
open Go.Proofs Go.Shelf in
theorem copyCheck_own {P : Program} {ρ : Ren} (L : Lays.n240 P ρ) (X : Builder.X72 P ρ) {v_b_buf : Value} {b_b : Nat} {b_addr : Bool} {b_buf : List UInt8} {r : Bool} {K0 : World} (hm : copyCheck_m b_addr b_buf = some r) (h_b_buf : SliceLen v_b_buf b_buf.length) (M : Nat → Prop) (w : World) (hk : Base M K0 w)
  (hw0 : Own M w [blk b_b [selfV b_addr b_b, v_b_buf] (ρ.t 72), vec v_b_buf (ρ.t 5) 1 (b_buf.map bcell)] w) :
  Calls P (ρ.f 240) #[.pointer (some ⟨b_b, 0, none⟩)] w (fun e w' => ∃ X : World, e = .returned (.tuple #[]) ∧ Own M w (kn M w.heap.size K0 X :: [blk b_b [selfV r b_b, v_b_buf] (ρ.t 72), vec v_b_buf (ρ.t 5) 1 (b_buf.map bcell)]) w' ∧ True) := by
 obtain rfl := eq_of_some hm
 have hb : w.heap[b_b]? = some (.cells #[selfV b_addr b_b, v_b_buf] (ρ.t 72) (0, 0)) := hw0.head
 have hs := Own.startK hk hw0
 cases b_addr with
 | true =>
  refine (Any.Builder_copyCheck_used L X b_b w (by simp [World.cell?, hb, selfV])).mono ?_
  rintro e w' ⟨rfl, rfl⟩
  exact ⟨K0, rfl, hs, trivial⟩
 | false =>
  refine (Any.Builder_copyCheck_fresh L X b_b w (by simp [World.cell?, hb, selfV]) (by simp [World.shape?, hb]) (by simp [World.frozen?, hb])).mono ?_
  rintro e w' ⟨rfl, rfl⟩
  refine ⟨K0, rfl, ?_, trivial⟩
  have hlt : b_b < w.heap.size := (Array.getElem?_eq_some_iff.1 hb).1
  exact hs.upd (w' := w.setCell ⟨b_b, 0, none⟩ (.pointer (some ⟨b_b, 0, none⟩))) 1 rfl rfl rfl ⟨rfl, Nat.le_refl _⟩ (by simp [World.setCell]) (fun c _ hc => Below.heap_setCell _ _ _ _ (fun e => hc e)) (setCell_blk (T := ρ.t 72) (cs := [selfV false b_b, v_b_buf]) hb) (fun c hc => by
   have : c = b_b := hc
   subst this
   exact ⟨.inl rfl, by simpa [World.setCell] using hlt⟩)
theorem itoa_grow {w w' : World} {k : Nat} {os : Array Obj} (h : w' = Sort.grow (w.drewN k) os) : Grow w w' := by
 subst h
 refine .of ?_ ?_
 ·exact ⟨rfl, rfl, rfl, by simp [Sort.grow, World.drewN], fun b hb => by simp [Sort.grow, World.drewN, Array.getElem?_append, hb]⟩
 ·simp [Sort.grow, World.drewN]
def gNames : List String := ["internal/strconv.uint64pow10", "strings.asciiSpace", "strconv.ErrSyntax", "strconv.ErrRange", "internal/bytealg.MaxLen"]
structure Glb (P : Program) (w : World) : Prop where
 pow : Lib.TabIs P w "internal/strconv.uint64pow10" .u64 Lib.pow10Tab
 sp : Lib.TabIs P w "strings.asciiSpace" .u8 Lib.asciiSpaceTab
 syn : (P.globalNamed "strconv.ErrSyntax").isSome = true → ∃ t p, w.var? P "strconv.ErrSyntax" = some #[.iface t p]
 rng : (P.globalNamed "strconv.ErrRange").isSome = true → ∃ t p, w.var? P "strconv.ErrRange" = some #[.iface t p]
 mx : ∀ g, P.globalNamed "internal/bytealg.MaxLen" = some g → ∃ m, w.cell? ⟨g, 0, none⟩ = some (.int .i64 m)
theorem var_lt {P : Program} {w : World} {nm : String} {cs : Array Value} {g : Nat} (h : w.var? P nm = some cs) (hg : P.globalNamed nm = some g) : g < w.heap.size := by
 unfold World.var? at h
 rw [hg] at h
 simp only [Option.bind_some] at h
 rcases Nat.lt_or_ge g w.heap.size with h' | h'
 ·exact h'
 ·rw [Array.getElem?_eq_none h'] at h; exact absurd h (by simp)
theorem var_kept {P : Program} {w w' : World} {nm : String} {cs : Array Value} (h : w.var? P nm = some cs) (hk : ∀ g, P.globalNamed nm = some g → g < w.heap.size → w'.heap[g]? = w.heap[g]?) : w'.var? P nm = some cs := by
 cases hg : P.globalNamed nm with
 | none => unfold World.var? at h; rw [hg] at h; exact absurd h (by simp)
 | some g =>
  have e := hk g hg (var_lt h hg)
  unfold World.var? at h ⊢
  rw [hg] at h ⊢
  simp only [Option.bind_some] at h ⊢
  rw [e]; exact h
theorem Glb.kept {P : Program} {w w' : World} (h : Glb P w) (hk : ∀ nm ∈ gNames, ∀ g, P.globalNamed nm = some g → g < w.heap.size → w'.heap[g]? = w.heap[g]?) : Glb P w' where
 pow := var_kept h.pow (hk _ (by simp [gNames]))
 sp := var_kept h.sp (hk _ (by simp [gNames]))
 syn := fun hs => let ⟨t, p, hv⟩ := h.syn hs; ⟨t, p, var_kept hv (hk _ (by simp [gNames]))⟩
 rng := fun hs => let ⟨t, p, hv⟩ := h.rng hs; ⟨t, p, var_kept hv (hk _ (by simp [gNames]))⟩
 mx := fun g hg => let ⟨m, hv⟩ := h.mx g hg; ⟨m, by rw [World.cell?_of_block (w := w) (w' := w') (hk _ (by simp [gNames]) g hg (World.block_lt_of_cell? _ _ hv))]; exact hv⟩
theorem Glb.lt {P : Program} {w : World} (h : Glb P w) {nm : String} (hn : nm ∈ gNames) {g : Nat} (hg : P.globalNamed nm = some g) : g < w.heap.size := by
 simp only [gNames, List.mem_cons, List.mem_nil_iff, or_false] at hn
 rcases hn with rfl | rfl | rfl | rfl | rfl
 ·exact var_lt h.pow hg
 ·exact var_lt h.sp hg
 ·obtain ⟨_, _, hv⟩ := h.syn (by rw [hg]; rfl); exact var_lt hv hg
 ·obtain ⟨_, _, hv⟩ := h.rng (by rw [hg]; rfl); exact var_lt hv hg
 ·obtain ⟨_, hv⟩ := h.mx _ hg; exact World.block_lt_of_cell? _ _ hv
structure GlbM (P : Program) (M : Nat → Prop) (w : World) : Prop where
 glb : Glb P w
 out : ∀ nm ∈ gNames, ∀ g, P.globalNamed nm = some g → ¬ M g
theorem GlbM.of {P : Program} {w : World} (h : Glb P w) : GlbM P noM w := ⟨h, fun _ _ _ _ x => x⟩
theorem GlbM.at {P : Program} {M : Nat → Prop} {w0 w : World} {H : List Res} (h : GlbM P M w0) (hw : Own M w0 H w) : Glb P w :=
 h.glb.kept fun nm hn g hg hlt => hw.1.block g hlt (h.out nm hn g hg)
theorem GlbM.lend {P : Program} {M : Nat → Prop} {w0 w k0 k : World} {R H2 : List Res} (h : GlbM P M w0) (hw : Own M w0 (kn M w0.heap.size k0 k :: (R ++ H2)) w) : GlbM P (feet R) w :=
 ⟨h.at hw, fun nm hn g hg ⟨r, hr, hf⟩ => by
  obtain ⟨hA, _, _⟩ := AllOwn.append.1 hw.2.2
  rcases (hA.lt r hr g hf).1 with hm | hm
  ·exact h.out nm hn g hg hm
  ·exact Nat.lt_irrefl _ (Nat.lt_of_lt_of_le (h.glb.lt hn hg) hm)⟩
section
variable {P : Program} {n : Nat} {σ : Env} {M : Nat → Prop} {w0 k0 k : World} {d : Option Tmp} {T : TypeId} {pos : String} {after : Array Edge} {gd : Option (Nat × Bool)} {K : Act → World → Prop} {Q : Exit → Act → World → Prop}
theorem EV.callRG {X : Type} {R H2 : List Res} {f : FuncId} {xs : List Operand} {vs : List Value} {ats : Array TypeId} (G : X → Value) (R' : X → List Res) (kx : X → World) (F : X → Prop) (hG : GlbM P M w0) (hb : Base M k0 w0) (hn : ∀ dd, d = some dd → dd < n) (hf : Enters P f) (hv : EvAll σ xs vs)
  (hc : ∀ M' w, GlbM P M' w → Base M' k w → Own M' w R w → Calls P f vs.toArray w (fun e w' => ∃ X, e = .returned (G X) ∧ Own M' w (kn M' w.heap.size k (kx X) :: R' X) w' ∧ F X))
  (kk : ∀ X, F X → Le k (kx X) → WK n K ((match d with | some dd => [(dd, (true, G X))] | none => []) ++ σ) (Own M w0 (kn M w0.heap.size k0 (kx X) :: (R' X ++ H2)))) :
  EV P n ⟨d, .call ⟨.value (.func f), xs.toArray, ats⟩, T, pos, after, gd⟩ σ (Own M w0 (kn M w0.heap.size k0 k :: (R ++ H2))) K Q := fun a w ha hw => by
 refine .inl ?_
 have hm := hv.map ha
 have hrun : (execOp a.eval ⟨d, .call ⟨.value (.func f), xs.toArray, ats⟩, T, pos, after, gd⟩).run P w = .ok (.enter f vs.toArray) w := by
  simp [execOp, resolve, Deferred.ofValue, Act.eval, invoke, run_callFunc hf, hm]
 unfold Oper.wp
 rw [hrun]
 obtain ⟨l1, l2⟩ := hw.lend hb
 refine (hc _ w (hG.lend hw) l1 l2).mono ?_
 rintro e w'' ⟨u, rfl, hown, hF⟩
 obtain ⟨b1, b2⟩ := hw.back hb hown
 refine kk u hF b2 _ _ ?_ b1
 cases d with
 | none => exact ha
 | some dd => exact ha.put (hn dd rfl) true _
end
def opsT : List UInt8 := [97, 100, 100, 32, 115, 117, 98, 32, 109, 117, 108, 32, 97, 110, 100, 32, 111, 114, 32, 120, 111, 114, 32, 108, 101, 115, 115, 32, 115, 97, 109, 101]
def opsW : List (List UInt8) := [[97, 100, 100], [115, 117, 98], [109, 117, 108], [97, 110, 100], [111, 114], [120, 111, 114], [108, 101, 115, 115], [115, 97, 109, 101]]
def Fields_m (s : List UInt8) : Option (List (List UInt8)) := ck (s = opsT) (some opsW)
theorem fields_ops : Lib.fields opsT = opsW := by kernel_rfl
theorem ascii_ops : ∀ (j : Nat) b, (opsT.toArray.toList)[j]? = some b → b.toNat < 128 := fun j b h => by
 have h2 : ∀ b ∈ opsT, b.toNat < 128 := by decide
 exact h2 b (List.mem_of_getElem? (by simpa using h))
theorem texts_new {M : Nat → Prop} {w w' K0 : World} {T : TypeId} (l : List (List UInt8)) (hk : Base M K0 w) (hw0 : Own M w [] w) (hm : l.length ≤ maxLen) (he : w' = w.alloc (.cells (l.map fun (q : List UInt8) => Value.string ⟨q.toArray⟩).toArray T)) :
  ∃ X : Value × World, (Value.slice (some ⟨w.heap.size, 0, none⟩) l.length l.length) = X.1 ∧ Own M w (kn M w.heap.size K0 X.2 :: []) w' ∧ Arr X.2 X.1 1 (l.map scell) := by
 subst he
 have hf : (l.map scell).flatten = l.map fun (q : List UInt8) => Value.string ⟨q.toArray⟩ := by
  induction l with
  | nil => rfl
  | cons x l ih => rw [List.map_cons, List.map_cons, List.flatten_cons, ih (by simp at hm; omega)]; rfl
 have hb := (Own.startK hk hw0).push (w' := w.alloc (.cells (l.map fun (q : List UInt8) => Value.string ⟨q.toArray⟩).toArray T)) (Grow.alloc _) (blk w.heap.size (l.map fun (q : List UInt8) => Value.string ⟨q.toArray⟩) T) (heap_alloc_new w _) (fun b hb => by
  have : b = w.heap.size := hb
  subst this
  simp)
 have hv := hb.blkVec scell l hf scell_len hm
 obtain ⟨k', _, hr, h3⟩ := (hv.front 1 rfl).freeze hk
 exact ⟨(_, k'), rfl, h3, vec_arr hr⟩
open Go.Proofs Go.Shelf in
theorem fields_own {P : Program} {ρ : Ren} (L : Lays.n157 P ρ) (hi9 : (P.info? (ρ.t 9)).map (fun i => (i.zero, i.size, i.bytes)) = some (some (.string ByteArray.empty), 1, 16)) (hg0 : P.globalNamed "strings.asciiSpace" = some (ρ.g 0)) {s : List UInt8} {r : List (List UInt8)} {K0 : World} (hm : Fields_m s = some r) (M : Nat → Prop) (w : World) (hG : GlbM P M w) (hk : Base M K0 w) (hw0 : Own M w [] w) :
  Calls P (ρ.f 157) #[strV s] w (fun e w' => ∃ X : Value × World, e = .returned (X.1) ∧ Own M w (kn M w.heap.size K0 X.2 :: []) w' ∧ Arr X.2 X.1 1 (r.map scell)) := by
 obtain ⟨rfl, h2⟩ := ck_some hm
 obtain rfl := eq_of_some h2
 refine (Any.strings_Fields L hi9 hg0 ⟨opsT.toArray⟩ w (by decide) ascii_ops hG.glb.sp).mono ?_
 rintro e w' ⟨he, hw'⟩
 have e1 : (ByteArray.mk opsT.toArray).data.toList = opsT := by simp
 rw [e1, fields_ops] at he hw'
 obtain ⟨X, h1, h2, h3⟩ := texts_new opsW hk hw0 (by decide) hw'
 exact ⟨X, by rw [he, ← h1], h2, h3⟩
open Go.Proofs Go.Shelf in
theorem itoa_own {P : Program} {ρ : Ren} (L : LaysM.n171 P ρ) {n : Int} {r : List UInt8} (w : World) (hm : Itoa_m n = some r) (hg : Glb P w) : Calls P (ρ.f 171) #[.int .i64 n] w (fun e w' => e = .returned (strV r) ∧ Grow w w') := by
 obtain ⟨h, h2⟩ := ck_some hm
 obtain rfl := eq_of_some h2
 refine (Any.strconv_Itoa L n h.1 h.2 w hg.pow).mono ?_
 rintro e w' ⟨he, k, os, hw⟩
 exact ⟨he, itoa_grow hw⟩
open Go.Proofs Go.Shelf in
theorem fmtInt_own {P : Program} {ρ : Ren} (L : LaysM.n173 P ρ) {n b : Int} {r : List UInt8} (w : World) (hm : FormatInt_m n b = some r) (hg : Glb P w) : Calls P (ρ.f 173) #[.int .i64 n, .int .i64 b] w (fun e w' => e = .returned (strV r) ∧ Grow w w') := by
 obtain ⟨⟨h, rfl⟩, h2⟩ := ck_some hm
 obtain rfl := eq_of_some h2
 refine (Any.strconv_FormatInt_10 L n h.1 h.2 w hg.pow).mono ?_
 rintro e w' ⟨he, k, os, hw⟩
 exact ⟨he, itoa_grow hw⟩
end Go.Rd
end
section
namespace Go.Rd
noncomputable def strings_Builder_WriteString_m (b_addr : Bool) (b_buf s : List UInt8) : Option (Int × Unit × Bool × List UInt8) :=
 bd (copyCheck_m b_addr b_buf) fun x1 =>
 ck (AL (b_buf ++ s).length 1) <|
 some ((ln s), (), x1, (b_buf ++ s))
noncomputable def strings_Builder_String_m (b_addr : Bool) (b_buf : List UInt8) : Option (List UInt8) :=
 ck (b_buf ≠ []) <|
 some b_buf
noncomputable def text_Print_c1_m (s : List UInt8) (b_addr : Bool) (b_buf : List UInt8) : Option (Bool × List UInt8) :=
 ck (SL (s ++ [10])) <|
 bd (strings_Builder_WriteString_m b_addr b_buf (s ++ [10])) fun x3 =>
 some (x3.2.2.1, x3.2.2.2)
noncomputable def text_number_m (n_ : Int) : Option (List UInt8) :=
 bd (FormatInt_m n_ 10) fun x1 =>
 some x1
noncomputable def text_ref_m (r_ : Rf) : Option (List UInt8) :=
 bd (Itoa_m r_.st) fun x2 =>
 ck (SL ([35] ++ x2)) <|
 br (decide (r_.bk > 0)) (
 bd (Itoa_m r_.bk) fun x9 =>
 ck (SL ([126] ++ x9)) <|
 ck (SL (([35] ++ x2) ++ ([126] ++ x9))) <|
 some (([35] ++ x2) ++ ([126] ++ x9))) (
 some ([35] ++ x2))
noncomputable def text_line_m (s : Stm) : Option (List UInt8) :=
 bd (Itoa_m s.ar) fun x2 =>
 ck (SL (x2 ++ [32])) <|
 bd (Itoa_m s.sp) fun x7 =>
 ck (SL ((x2 ++ [32]) ++ x7)) <|
 ck (SL (((x2 ++ [32]) ++ x7) ++ [32])) <|
 bd (Itoa_m s.pl) fun x14 =>
 ck (SL ((((x2 ++ [32]) ++ x7) ++ [32]) ++ x14)) <|
 br (s.op == 1) (
 bd (text_number_m s.n) fun x21 =>
 ck (SL ([99, 111, 110, 115, 116, 32] ++ x21)) <|
 some ([99, 111, 110, 115, 116, 32] ++ x21)) (
 br (s.op == 2) (
 some [116, 117, 114, 110]) (
 br (s.op == 3) (
 ck (SL ([108, 111, 97, 100, 32] ++ ((((x2 ++ [32]) ++ x7) ++ [32]) ++ x14))) <|
 some ([108, 111, 97, 100, 32] ++ ((((x2 ++ [32]) ++ x7) ++ [32]) ++ x14))) (
 br (s.op == 4) (
 ck (SL ([115, 116, 111, 114, 101, 32] ++ ((((x2 ++ [32]) ++ x7) ++ [32]) ++ x14))) <|
 ck (SL (([115, 116, 111, 114, 101, 32] ++ ((((x2 ++ [32]) ++ x7) ++ [32]) ++ x14)) ++ [32])) <|
 bd (text_ref_m s.a) fun x41 =>
 ck (SL ((([115, 116, 111, 114, 101, 32] ++ ((((x2 ++ [32]) ++ x7) ++ [32]) ++ x14)) ++ [32]) ++ x41)) <|
 some ((([115, 116, 111, 114, 101, 32] ++ ((((x2 ++ [32]) ++ x7) ++ [32]) ++ x14)) ++ [32]) ++ x41)) (
 ck (IR (s.op - 10)) <|
 ck (IR ((s.op - 10) - 1)) <|
 bd (Fields_m [97, 100, 100, 32, 115, 117, 98, 32, 109, 117, 108, 32, 97, 110, 100, 32, 111, 114, 32, 120, 111, 114, 32, 108, 101, 115, 115, 32, 115, 97, 109, 101]) fun x51 =>
 ck (IX ((s.op - 10) - 1) (ln x51)) <|
 ck (SL ((ele x51 ((s.op - 10) - 1)) ++ [32])) <|
 bd (text_ref_m s.a) fun x61 =>
 ck (SL (((ele x51 ((s.op - 10) - 1)) ++ [32]) ++ x61)) <|
 ck (SL ((((ele x51 ((s.op - 10) - 1)) ++ [32]) ++ x61) ++ [32])) <|
 bd (text_ref_m s.b) fun x68 =>
 ck (SL (((((ele x51 ((s.op - 10) - 1)) ++ [32]) ++ x61) ++ [32]) ++ x68)) <|
 some (((((ele x51 ((s.op - 10) - 1)) ++ [32]) ++ x61) ++ [32]) ++ x68)))))
noncomputable def text_Print_L0 (l : Lp) : ((List UInt8) × Bool × Int) → Option (Stp ((List UInt8) × Bool × Int) (Empty)) := fun (v9_1, b8c0_1, x19_1) =>
 br (decide (x19_1 < (ln l.logs))) (
 ck (IX x19_1 (ln l.logs)) <|
 bd (Itoa_m (ele l.logs x19_1)) fun x21 =>
 ck (SL ([97, 114, 114, 97, 121, 32] ++ x21)) <|
 bd (text_Print_c1_m ([97, 114, 114, 97, 121, 32] ++ x21) b8c0_1 v9_1) fun x26 =>
 ck (IR (x19_1 + 1)) <|
 some (.next (x26.2, x26.1, (x19_1 + 1)))) (
 some (.brk (v9_1, b8c0_1, x19_1)))
noncomputable def text_Print_L2 (l : Lp) : ((List UInt8) × Bool × Int) → Option (Stp ((List UInt8) × Bool × Int) (Empty)) := fun (v9_2, b8c0_2, x32_2) =>
 br (decide (x32_2 < (ln l.body))) (
 ck (IX x32_2 (ln l.body)) <|
 bd (text_line_m (ele l.body x32_2)) fun x27 =>
 bd (text_Print_c1_m x27 b8c0_2 v9_2) fun x30 =>
 ck (IR (x32_2 + 1)) <|
 some (.next (x30.2, x30.1, (x32_2 + 1)))) (
 some (.brk (v9_2, b8c0_2, x32_2)))
noncomputable def text_Print_L4 (l : Lp) : ((List UInt8) × Bool × Int) → Option (Stp ((List UInt8) × Bool × Int) (Empty)) := fun (v9_3, b8c0_3, x44_3) =>
 br (decide (x44_3 < (ln l.outs))) (
 ck (IX x44_3 (ln l.outs)) <|
 bd (Itoa_m (ele l.outs x44_3)) fun x31 =>
 ck (SL ([111, 117, 116, 32] ++ x31)) <|
 bd (text_Print_c1_m ([111, 117, 116, 32] ++ x31) b8c0_3 v9_3) fun x36 =>
 ck (IR (x44_3 + 1)) <|
 some (.next (x36.2, x36.1, (x44_3 + 1)))) (
 some (.brk (v9_3, b8c0_3, x44_3)))
noncomputable def text_Print_m (l : Lp) : Option (List UInt8 × Int) :=
 bd (loop_May_m l) fun x2 =>
 br (!x2) (
 some ([], 2)) (
 bd (lp (text_Print_L0 l) ([], false, 0)) fun o10 => o10.on (fun (v9_1, b8c0_1, x19_1) =>
 bd (lp (text_Print_L2 l) (v9_1, b8c0_1, 0)) fun o15 => o15.on (fun (v9_2, b8c0_2, x32_2) =>
 bd (lp (text_Print_L4 l) (v9_2, b8c0_2, 0)) fun o20 => o20.on (fun (v9_3, b8c0_3, x44_3) =>
 bd (strings_Builder_String_m b8c0_3 v9_3) fun x25 =>
 some (x25, 0)) (fun r => r.elim)) (fun r => r.elim)) (fun r => r.elim))
noncomputable def R14_Digits_L0  : ((List UInt8) × Int) → Option (Stp ((List UInt8) × Int) (Empty)) := fun (s3_3, left4_3) =>
 bd (show Option (Out (Int) (Empty)) from br (decide ((Int.tmod left4_3 10) < 0)) (
 ck (IR (-(Int.tmod left4_3 10))) <|
 some (.go (-(Int.tmod left4_3 10)))) (
 some (.go (Int.tmod left4_3 10)))) fun o6 => o6.on (fun d5_4 =>
 ck (IR (48 + d5_4)) <|
 ck (SL ([(bt (48 + d5_4))] ++ s3_3)) <|
 ck (IR (Int.tdiv left4_3 10)) <|
 br ((Int.tdiv left4_3 10) == 0) (
 some (.brk (([(bt (48 + d5_4))] ++ s3_3), (Int.tdiv left4_3 10)))) (
 some (.next (([(bt (48 + d5_4))] ++ s3_3), (Int.tdiv left4_3 10))))) (fun r => r.elim)
noncomputable def R14_Digits_m (n_ : Int) : Option (List UInt8) :=
 bd (lp (R14_Digits_L0) ([], n_)) fun o1 => o1.on (fun (s3_3, left4_3) =>
 br (decide (n_ < 0)) (
 ck (SL ([45] ++ s3_3)) <|
 some ([45] ++ s3_3)) (
 some s3_3)) (fun r => r.elim)
noncomputable def R14_d_m (n_ : Int) : Option (List UInt8) :=
 bd (R14_Digits_m n_) fun x1 =>
 some x1
noncomputable def R14_ref_m (r_ : Rf) : Option (List UInt8) :=
 br (r_.bk == 0) (
 bd (R14_d_m r_.st) fun x4 =>
 ck (SL ([32, 35] ++ x4)) <|
 some ([32, 35] ++ x4)) (
 bd (R14_d_m r_.st) fun x10 =>
 ck (SL ([32, 35] ++ x10)) <|
 ck (SL (([32, 35] ++ x10) ++ [126])) <|
 bd (R14_d_m r_.bk) fun x17 =>
 ck (SL ((([32, 35] ++ x10) ++ [126]) ++ x17)) <|
 some ((([32, 35] ++ x10) ++ [126]) ++ x17))
noncomputable def R14_words_m  : Option (List (List UInt8)) :=
 some [[97, 100, 100], [115, 117, 98], [109, 117, 108], [97, 110, 100], [111, 114], [120, 111, 114], [108, 101, 115, 115], [115, 97, 109, 101]]
noncomputable def R14_Text_L0 (l : Lp) : ((List UInt8) × Int) → Option (Stp ((List UInt8) × Int) (Empty)) := fun (s3_1, i4_1) =>
 br (decide (i4_1 < (ln l.logs))) (
 ck (SL (s3_1 ++ [97, 114, 114, 97, 121, 32])) <|
 ck (IX i4_1 (ln l.logs)) <|
 bd (R14_d_m (ele l.logs i4_1)) fun x15 =>
 ck (SL ((s3_1 ++ [97, 114, 114, 97, 121, 32]) ++ x15)) <|
 ck (SL (((s3_1 ++ [97, 114, 114, 97, 121, 32]) ++ x15) ++ [10])) <|
 ck (IR (i4_1 + 1)) <|
 some (.next ((((s3_1 ++ [97, 114, 114, 97, 121, 32]) ++ x15) ++ [10]), (i4_1 + 1)))) (
 some (.brk (s3_1, i4_1)))
noncomputable def R14_Text_L2 (l : Lp) : ((List UInt8) × Int) → Option (Stp ((List UInt8) × Int) (Empty)) := fun (s3_2, i5_2) =>
 br (decide (i5_2 < (ln l.body))) (
 ck (IX i5_2 (ln l.body)) <|
 bd (R14_d_m ((ele l.body i5_2).ar)) fun x19 =>
 ck (SL ([32] ++ x19)) <|
 ck (SL (([32] ++ x19) ++ [32])) <|
 bd (R14_d_m ((ele l.body i5_2).sp)) fun x26 =>
 ck (SL ((([32] ++ x19) ++ [32]) ++ x26)) <|
 ck (SL (((([32] ++ x19) ++ [32]) ++ x26) ++ [32])) <|
 bd (R14_d_m ((ele l.body i5_2).pl)) fun x33 =>
 ck (SL ((((([32] ++ x19) ++ [32]) ++ x26) ++ [32]) ++ x33)) <|
 br ((ele l.body i5_2).op == 1) (
 ck (SL (s3_2 ++ [99, 111, 110, 115, 116, 32])) <|
 bd (R14_Digits_m ((ele l.body i5_2).n)) fun x42 =>
 ck (SL ((s3_2 ++ [99, 111, 110, 115, 116, 32]) ++ x42)) <|
 ck (SL (((s3_2 ++ [99, 111, 110, 115, 116, 32]) ++ x42) ++ [10])) <|
 ck (IR (i5_2 + 1)) <|
 some (.next ((((s3_2 ++ [99, 111, 110, 115, 116, 32]) ++ x42) ++ [10]), (i5_2 + 1)))) (
 br ((ele l.body i5_2).op == 2) (
 ck (SL (s3_2 ++ [116, 117, 114, 110])) <|
 ck (SL ((s3_2 ++ [116, 117, 114, 110]) ++ [10])) <|
 ck (IR (i5_2 + 1)) <|
 some (.next (((s3_2 ++ [116, 117, 114, 110]) ++ [10]), (i5_2 + 1)))) (
 br ((ele l.body i5_2).op == 3) (
 ck (SL (s3_2 ++ [108, 111, 97, 100])) <|
 ck (SL ((s3_2 ++ [108, 111, 97, 100]) ++ ((((([32] ++ x19) ++ [32]) ++ x26) ++ [32]) ++ x33))) <|
 ck (SL (((s3_2 ++ [108, 111, 97, 100]) ++ ((((([32] ++ x19) ++ [32]) ++ x26) ++ [32]) ++ x33)) ++ [10])) <|
 ck (IR (i5_2 + 1)) <|
 some (.next ((((s3_2 ++ [108, 111, 97, 100]) ++ ((((([32] ++ x19) ++ [32]) ++ x26) ++ [32]) ++ x33)) ++ [10]), (i5_2 + 1)))) (
 br ((ele l.body i5_2).op == 4) (
 ck (SL (s3_2 ++ [115, 116, 111, 114, 101])) <|
 ck (SL ((s3_2 ++ [115, 116, 111, 114, 101]) ++ ((((([32] ++ x19) ++ [32]) ++ x26) ++ [32]) ++ x33))) <|
 bd (R14_ref_m ((ele l.body i5_2).a)) fun x78 =>
 ck (SL (((s3_2 ++ [115, 116, 111, 114, 101]) ++ ((((([32] ++ x19) ++ [32]) ++ x26) ++ [32]) ++ x33)) ++ x78)) <|
 ck (SL ((((s3_2 ++ [115, 116, 111, 114, 101]) ++ ((((([32] ++ x19) ++ [32]) ++ x26) ++ [32]) ++ x33)) ++ x78) ++ [10])) <|
 ck (IR (i5_2 + 1)) <|
 some (.next (((((s3_2 ++ [115, 116, 111, 114, 101]) ++ ((((([32] ++ x19) ++ [32]) ++ x26) ++ [32]) ++ x33)) ++ x78) ++ [10]), (i5_2 + 1)))) (
 bd (R14_words_m ) fun x88 =>
 ck (IR ((ele l.body i5_2).op - 10)) <|
 ck (IR (((ele l.body i5_2).op - 10) - 1)) <|
 ck (IX (((ele l.body i5_2).op - 10) - 1) (ln x88)) <|
 ck (SL (s3_2 ++ (ele x88 (((ele l.body i5_2).op - 10) - 1)))) <|
 bd (R14_ref_m ((ele l.body i5_2).a)) fun x102 =>
 ck (SL ((s3_2 ++ (ele x88 (((ele l.body i5_2).op - 10) - 1))) ++ x102)) <|
 bd (R14_ref_m ((ele l.body i5_2).b)) fun x107 =>
 ck (SL (((s3_2 ++ (ele x88 (((ele l.body i5_2).op - 10) - 1))) ++ x102) ++ x107)) <|
 ck (SL ((((s3_2 ++ (ele x88 (((ele l.body i5_2).op - 10) - 1))) ++ x102) ++ x107) ++ [10])) <|
 ck (IR (i5_2 + 1)) <|
 some (.next (((((s3_2 ++ (ele x88 (((ele l.body i5_2).op - 10) - 1))) ++ x102) ++ x107) ++ [10]), (i5_2 + 1)))))))) (
 some (.brk (s3_2, i5_2)))
noncomputable def R14_Text_L5 (l : Lp) : ((List UInt8) × Int) → Option (Stp ((List UInt8) × Int) (Empty)) := fun (s3_3, i9_3) =>
 br (decide (i9_3 < (ln l.outs))) (
 ck (SL (s3_3 ++ [111, 117, 116, 32])) <|
 ck (IX i9_3 (ln l.outs)) <|
 bd (R14_d_m (ele l.outs i9_3)) fun x25 =>
 ck (SL ((s3_3 ++ [111, 117, 116, 32]) ++ x25)) <|
 ck (SL (((s3_3 ++ [111, 117, 116, 32]) ++ x25) ++ [10])) <|
 ck (IR (i9_3 + 1)) <|
 some (.next ((((s3_3 ++ [111, 117, 116, 32]) ++ x25) ++ [10]), (i9_3 + 1)))) (
 some (.brk (s3_3, i9_3)))
noncomputable def R14_Text_m (l : Lp) : Option (List UInt8) :=
 bd (lp (R14_Text_L0 l) ([], 0)) fun o2 => o2.on (fun (s3_1, i4_1) =>
 bd (lp (R14_Text_L2 l) (s3_1, 0)) fun o7 => o7.on (fun (s3_2, i5_2) =>
 bd (lp (R14_Text_L5 l) (s3_2, 0)) fun o12 => o12.on (fun (s3_3, i9_3) =>
 some s3_3) (fun r => r.elim)) (fun r => r.elim)) (fun r => r.elim)
theorem dd_small {u : Nat} (h : u < 10) : Lib.decDigits u = [UInt8.ofNat (48 + u)] := by rw [Lib.decDigits, dif_pos h]
theorem dd_big {u : Nat} (h : ¬ u < 10) : Lib.decDigits u = Lib.decDigits (u / 10) ++ [UInt8.ofNat (48 + u % 10)] := by rw [Lib.decDigits, dif_neg h]
theorem dd_len : ∀ (k u : Nat), u < 10 ^ (k + 1) → (Lib.decDigits u).length ≤ k + 1
 | 0, u, h => by rw [dd_small (by simpa using h)]; simp
 | k + 1, u, h => by
  by_cases h1 : u < 10
  ·rw [dd_small h1]; simp
  ·rw [dd_big h1, List.length_append]
   have := dd_len k (u / 10) (by rw [Nat.pow_succ] at h; omega)
   simp only [List.length_cons, List.length_nil]; omega
theorem itoa_len {n : Int} (h : InR n) : (Lib.itoa n).length ≤ 20 := by
 obtain ⟨h1, h2⟩ := h
 unfold Lib.itoa
 split
 ·have := dd_len 18 n.natAbs (by omega); simp only [List.length_cons]; omega
 ·have := dd_len 18 n.toNat (by omega); omega
theorem digits_step {left : Int} {s : List UInt8} (h : InR left) (hs : s.length ≤ 1000) :
  R14_Digits_L0 (s, left) = some (if left.natAbs < 10 then .brk ([UInt8.ofNat (48 + left.natAbs % 10)] ++ s, 0) else .next ([UInt8.ofNat (48 + left.natAbs % 10)] ++ s, Int.tdiv left 10)) := by
 obtain ⟨h1, h2⟩ := h
 have hd : ∃ m : Nat, left.natAbs = m := ⟨_, rfl⟩
 obtain ⟨m, hm⟩ := hd
 have key : br (decide (Int.tmod left 10 < 0)) (ck (IR (-(Int.tmod left 10))) <| some (Out.go (-(Int.tmod left 10)) : Out Int Empty)) (some (.go (Int.tmod left 10))) = some (.go ((m % 10 : Nat) : Int)) ∧ (Int.tdiv left 10 = ((m / 10 : Nat) : Int) ∨ Int.tdiv left 10 = -((m / 10 : Nat) : Int)) := by
  rcases Int.natAbs_eq left with e | e
  ·rw [hm] at e
   have e1 : Int.tmod left 10 = ((m % 10 : Nat) : Int) := by rw [e]; exact (Int.ofNat_tmod m 10).symm
   have e2 : Int.tdiv left 10 = ((m / 10 : Nat) : Int) := by rw [e]; exact (Int.ofNat_tdiv m 10).symm
   rw [e1, br_F (by omega)]
   exact ⟨rfl, .inl e2⟩
  ·rw [hm] at e
   have e1 : Int.tmod left 10 = -((m % 10 : Nat) : Int) := by rw [e, Int.neg_tmod]; exact congrArg (- ·) (Int.ofNat_tmod m 10).symm
   have e2 : Int.tdiv left 10 = -((m / 10 : Nat) : Int) := by rw [e, Int.neg_tdiv]; exact congrArg (- ·) (Int.ofNat_tdiv m 10).symm
   rw [e1]
   refine ⟨?_, .inr e2⟩
   by_cases hz : m % 10 = 0
   ·rw [hz, br_F (by simp)]; rfl
   ·rw [br_T (by omega), ck_IR (by omega) (by omega)]; simp
 have hb : bt (48 + ((m % 10 : Nat) : Int)) = UInt8.ofNat (48 + m % 10) := by
  unfold bt; congr 1; omega
 have hq : IR (Int.tdiv left 10) := by rcases key.2 with e | e <;> rw [e] <;> exact ⟨by omega, by omega⟩
 have hz : (Int.tdiv left 10 == 0) = decide (m < 10) := by
  by_cases hlt : m < 10
  ·rw [decide_eq_true hlt]
   rcases key.2 with e | e <;> rw [e] <;> simp <;> omega
  ·rw [decide_eq_false hlt]
   rcases key.2 with e | e <;> rw [e] <;> simp <;> omega
 have hz2 : m < 10 → Int.tdiv left 10 = 0 := fun hlt => by rcases key.2 with e | e <;> rw [e] <;> omega
 unfold R14_Digits_L0
 simp only
 rw [key.1, bd_ret, Out.on_go, ck_IR (by omega) (by omega), hb, ck_SL (by simp only [List.length_append, List.length_cons, List.length_nil]; omega), ck_yes hq, hz, hm]
 by_cases hlt : m < 10
 ·rw [br_T hlt, if_pos hlt, hz2 hlt]
 ·rw [br_F hlt, if_neg hlt]
theorem tdiv_abs (left : Int) : (Int.tdiv left 10).natAbs = left.natAbs / 10 := by
 rcases Int.natAbs_eq left with e | e
 ·generalize left.natAbs = m at e
  rw [e, show Int.tdiv (m : Int) 10 = ((m / 10 : Nat) : Int) from (Int.ofNat_tdiv m 10).symm]; omega
 ·generalize left.natAbs = m at e
  rw [e, Int.neg_tdiv, show Int.tdiv (m : Int) 10 = ((m / 10 : Nat) : Int) from (Int.ofNat_tdiv m 10).symm]; omega
theorem digits_lp : ∀ (k : Nat) (left : Int) (s : List UInt8), left.natAbs < 10 ^ (k + 1) → InR left → s.length + k ≤ 1000 → lp R14_Digits_L0 (s, left) = some (.go (Lib.decDigits left.natAbs ++ s, 0))
 | 0, left, s, h, hr, hs => by
  have e := digits_step hr (by omega : s.length ≤ 1000)
  have h1 : left.natAbs < 10 := by simpa using h
  rw [if_pos h1, Nat.mod_eq_of_lt h1] at e
  rw [lp_brk e, dd_small h1]
 | k + 1, left, s, h, hr, hs => by
  have e := digits_step hr (by omega : s.length ≤ 1000)
  by_cases h1 : left.natAbs < 10
  ·rw [if_pos h1, Nat.mod_eq_of_lt h1] at e
   rw [lp_brk e, dd_small h1]
  ·rw [if_neg h1] at e
   have ha := tdiv_abs left
   have := digits_lp k (Int.tdiv left 10) ([UInt8.ofNat (48 + left.natAbs % 10)] ++ s) (by rw [ha]; rw [Nat.pow_succ] at h; omega) (by unfold InR at hr ⊢; omega) (by simp only [List.length_append, List.length_cons, List.length_nil]; omega)
   rw [lp_step e this, dd_big h1, ha, List.append_assoc]
theorem Digits_s {n : Int} (h : InR n) : R14_Digits_m n = some (Lib.itoa n) := by
 have e := digits_lp 18 n [] (by unfold InR at h; omega) h (by simp)
 have hl := dd_len 18 n.natAbs (by unfold InR at h; omega)
 unfold R14_Digits_m Lib.itoa
 rw [e, bd_ret, Out.on_go, List.append_nil]
 dsimp only
 by_cases h0 : n < 0
 ·rw [br_T h0, if_pos h0, ck_SL (by simp only [List.length_append, List.length_cons, List.length_nil]; omega)]; rfl
 ·rw [br_F h0, if_neg h0, show n.natAbs = n.toNat by omega]
theorem d_s {n : Int} (h : InR n) : R14_d_m n = some (Lib.itoa n) := by unfold R14_d_m; rw [Digits_s h, bd_ret]
theorem Itoa_s {n : Int} (h : InR n) : Itoa_m n = some (Lib.itoa n) := ck_yes h
theorem number_s {n : Int} (h : InR n) : text_number_m n = some (Lib.itoa n) := by unfold text_number_m FormatInt_m; rw [ck_yes ⟨h, rfl⟩, bd_ret]
def refT (r : Rf) : List UInt8 := 35 :: (Lib.itoa r.st ++ if r.bk = 0 then [] else 126 :: Lib.itoa r.bk)
theorem refT_len {r : Rf} (h1 : InR r.st) (h2 : InR r.bk) : (refT r).length ≤ 42 := by
 have a := itoa_len h1; have b := itoa_len h2
 unfold refT
 split
 ·simp only [List.length_cons, List.length_append, List.length_nil]; omega
 ·simp only [List.length_cons, List.length_append]; omega
theorem text_ref_s {r : Rf} (h1 : InR r.st) (h2 : InR r.bk) (h0 : 0 ≤ r.bk) : text_ref_m r = some (refT r) := by
 have a := itoa_len h1; have b := itoa_len h2
 unfold text_ref_m refT
 rw [Itoa_s h1, bd_ret, ck_SL (by simp only [List.length_append, List.length_cons, List.length_nil]; omega)]
 by_cases hz : r.bk = 0
 ·rw [br_F (by omega), if_pos hz, List.append_nil]; rfl
 ·rw [br_T (by omega), if_neg hz, Itoa_s h2, bd_ret, ck_SL (by simp only [List.length_append, List.length_cons, List.length_nil]; omega), ck_SL (by simp only [List.length_append, List.length_cons, List.length_nil]; omega)]
  simp
theorem ref14_ref_s {r : Rf} (h1 : InR r.st) (h2 : InR r.bk) : R14_ref_m r = some (32 :: refT r) := by
 have a := itoa_len h1; have b := itoa_len h2
 unfold R14_ref_m refT
 rw [d_s h1]
 by_cases hz : r.bk = 0
 ·rw [show (r.bk == 0) = true by simpa using hz, br_true, bd_ret, ck_SL (by simp only [List.length_append, List.length_cons, List.length_nil]; omega), if_pos hz, List.append_nil]; rfl
 ·rw [show (r.bk == 0) = false by simpa using hz, br_false, bd_ret, ck_SL (by simp only [List.length_append, List.length_cons, List.length_nil]; omega), ck_SL (by simp only [List.length_append, List.length_cons, List.length_nil]; omega), d_s h2, bd_ret,
   ck_SL (by simp only [List.length_append, List.length_cons, List.length_nil]; omega), if_neg hz]
  simp
def placeT (s : Stm) : List UInt8 := Lib.itoa s.ar ++ 32 :: (Lib.itoa s.sp ++ 32 :: Lib.itoa s.pl)
def stmT (s : Stm) : List UInt8 :=
 if s.op = 1 then [99, 111, 110, 115, 116, 32] ++ Lib.itoa s.n else if s.op = 2 then [116, 117, 114, 110] else if s.op = 3 then [108, 111, 97, 100, 32] ++ placeT s
 else if s.op = 4 then [115, 116, 111, 114, 101, 32] ++ (placeT s ++ 32 :: refT s.a) else ele opsW (s.op - 11) ++ 32 :: (refT s.a ++ 32 :: refT s.b)
theorem ops_len {k : Int} (h0 : 0 ≤ k) (h1 : k < 8) : (ele opsW k).length ≤ 4 := by
 obtain ⟨k, rfl⟩ := Int.eq_ofNat_of_zero_le h0
 have : ∀ k : Nat, k < 8 → (opsW.getD k []).length ≤ 4 := by decide
 exact this k (by omega)
structure StmNum (s : Stm) : Prop where
 r : s.InR
 a0 : s.op = 4 ∨ s.op > 10 → 0 ≤ s.a.bk
 b0 : s.op > 10 → 0 ≤ s.b.bk
 op : s.op = 1 ∨ s.op = 2 ∨ s.op = 3 ∨ s.op = 4 ∨ (11 ≤ s.op ∧ s.op ≤ 18)
theorem StmtOk.num {nl n k : Int} {s : Stm} (h : StmtOk nl n k s) (hr : s.InR) : StmNum s := by
 obtain ⟨h1, h2, h3⟩ := h
 exact ⟨hr, fun h => (h1 h).1, fun h => (h2 h).1, by omega⟩
theorem placeT_len {s : Stm} (h : s.InR) : (placeT s).length ≤ 62 := by
 obtain ⟨_, _, _, _, _, h1, h2, h3, _⟩ := h
 have a := itoa_len h1; have b := itoa_len h2; have c := itoa_len h3
 unfold placeT
 simp only [List.length_append, List.length_cons]; omega
theorem stmT_len {s : Stm} (h : StmNum s) : (stmT s).length ≤ 111 := by
 have hp := placeT_len h.r
 have ho := h.op
 obtain ⟨_, h1, h2, h3, h4, _, _, _, h5⟩ := h.r
 have a := refT_len h1 h2; have b := refT_len h3 h4; have c := itoa_len h5
 unfold stmT
 split
 ·simp only [List.length_append, List.length_cons, List.length_nil]; omega
 split
 ·simp only [List.length_cons, List.length_nil]; omega
 split
 ·simp only [List.length_append, List.length_cons, List.length_nil]; omega
 split
 ·simp only [List.length_append, List.length_cons, List.length_nil]; omega
 ·have d := ops_len (k := s.op - 11) (by omega) (by omega)
  simp only [List.length_append, List.length_cons]; omega
theorem Fields_s : Fields_m [97, 100, 100, 32, 115, 117, 98, 32, 109, 117, 108, 32, 97, 110, 100, 32, 111, 114, 32, 120, 111, 114, 32, 108, 101, 115, 115, 32, 115, 97, 109, 101] = some opsW := ck_yes (c := _ = opsT) rfl
theorem place_eq (s : Stm) : (((Lib.itoa s.ar ++ [32]) ++ Lib.itoa s.sp) ++ [32]) ++ Lib.itoa s.pl = placeT s := by unfold placeT; simp
theorem line_s {s : Stm} (h : StmNum s) : text_line_m s = some (stmT s) := by
 have hp := placeT_len h.r
 have ho := h.op
 obtain ⟨_, r1, r2, r3, r4, r5, r6, r7, r8⟩ := h.r
 have l5 := itoa_len r5; have l6 := itoa_len r6; have l7 := itoa_len r7; have l8 := itoa_len r8; have la := refT_len r1 r2; have lb := refT_len r3 r4
 unfold text_line_m
 rw [Itoa_s r5, bd_ret, ck_SL (by simp only [List.length_append, List.length_cons, List.length_nil]; omega), Itoa_s r6, bd_ret, ck_SL (by simp only [List.length_append, List.length_cons, List.length_nil]; omega),
  ck_SL (by simp only [List.length_append, List.length_cons, List.length_nil]; omega), Itoa_s r7, bd_ret, place_eq, ck_SL (by omega)]
 unfold stmT
 by_cases o1 : s.op = 1
 ·rw [show (s.op == 1) = true by simpa using o1, br_true, if_pos o1, number_s r8, bd_ret, ck_SL (by simp only [List.length_append, List.length_cons, List.length_nil]; omega)]
 rw [show (s.op == 1) = false by simpa using o1, br_false, if_neg o1]
 by_cases o2 : s.op = 2
 ·rw [show (s.op == 2) = true by simpa using o2, br_true, if_pos o2]
 rw [show (s.op == 2) = false by simpa using o2, br_false, if_neg o2]
 by_cases o3 : s.op = 3
 ·rw [show (s.op == 3) = true by simpa using o3, br_true, if_pos o3, ck_SL (by simp only [List.length_append, List.length_cons, List.length_nil]; omega)]
 rw [show (s.op == 3) = false by simpa using o3, br_false, if_neg o3]
 by_cases o4 : s.op = 4
 ·rw [show (s.op == 4) = true by simpa using o4, br_true, if_pos o4, ck_SL (by simp only [List.length_append, List.length_cons, List.length_nil]; omega), ck_SL (by simp only [List.length_append, List.length_cons, List.length_nil]; omega), text_ref_s r1 r2 (h.a0 (.inl o4)), bd_ret,
   ck_SL (by simp only [List.length_append, List.length_cons, List.length_nil]; omega)]
  simp
 have h11 : 11 ≤ s.op ∧ s.op ≤ 18 := by omega
 have ld := ops_len (k := s.op - 11) (by omega) (by omega)
 rw [show (s.op == 4) = false by simpa using o4, br_false, if_neg o4, ck_IR (by omega) (by omega), ck_IR (by omega) (by omega), Fields_s, bd_ret, show s.op - 10 - 1 = s.op - 11 by omega, ck_IX (by omega) (by rw [show ln opsW = 8 from rfl]; omega),
  ck_SL (by simp only [List.length_append, List.length_cons, List.length_nil]; omega), text_ref_s r1 r2 (h.a0 (.inr (by omega))), bd_ret, ck_SL (by simp only [List.length_append, List.length_cons, List.length_nil]; omega),
  ck_SL (by simp only [List.length_append, List.length_cons, List.length_nil]; omega), text_ref_s r3 r4 (h.b0 (by omega)), bd_ret, ck_SL (by simp only [List.length_append, List.length_cons, List.length_nil]; omega)]
 simp
def arrT (n : Int) : List UInt8 := [97, 114, 114, 97, 121, 32] ++ (Lib.itoa n ++ [10])
def lnT (s : Stm) : List UInt8 := stmT s ++ [10]
def outT (n : Int) : List UInt8 := [111, 117, 116, 32] ++ (Lib.itoa n ++ [10])
def textOf (l : Lp) : List UInt8 := ((l.logs.map arrT).flatten ++ (l.body.map lnT).flatten) ++ (l.outs.map outT).flatten
theorem pieces_len {α : Type} [Inhabited α] {g : α → List UInt8} {c : Nat} {xs : List α} (h : ∀ i : Nat, i < xs.length → (g (ele xs i)).length ≤ c) : ∀ i, i ≤ xs.length → ((List.range i).map fun i : Nat => g (ele xs (i : Int))).flatten.length ≤ i * c
 | 0, _ => by simp
 | i + 1, hi => by
  have a := pieces_len h i (by omega); have b := h i (by omega)
  rw [← rm_succ, List.flatten_append, List.length_append]
  simp only [List.flatten_cons, List.flatten_nil, List.append_nil, Nat.succ_mul]; omega
theorem rm_flat {n : Nat} {g : Nat → List UInt8} : ((List.range n).map g).flatten ++ g n = ((List.range (n + 1)).map g).flatten := by rw [← rm_succ, List.flatten_append]; simp
theorem lp_puts {α : Type} [Inhabited α] {xs : List α} {g : α → List UInt8} {c : Nat} {f : (List UInt8 × Bool × Int) → Option (Stp (List UInt8 × Bool × Int) Empty)} {A : List UInt8} {b : Bool} (hA : A.length ≤ 100000) (hn : xs.length ≤ 16) (hc : c ≤ 1000)
  (hg : ∀ i : Nat, i < xs.length → (g (ele xs i)).length ≤ c) (step : ∀ (i : Nat) (B : List UInt8) (b : Bool), i < xs.length → B.length ≤ 200000 → f (B, b, (i : Int)) = some (.next (B ++ g (ele xs i), true, (i : Int) + 1)))
  (hend : ∀ B b, f (B, b, (xs.length : Int)) = some (.brk (B, b, (xs.length : Int)))) : lp f (A, b, 0) = some (.go (A ++ (xs.map g).flatten, b || decide (0 < xs.length), (xs.length : Int))) := by
 have key := lp_det (f := f) (fun i => (A ++ ((List.range i).map fun i : Nat => g (ele xs (i : Int))).flatten, b || decide (0 < i), (i : Int))) xs.length (fun i hi => ?_) (hend _ _)
 ·rw [range_map'] at key
  simpa using key
 ·have hl := pieces_len hg i (by omega)
  have : i * c ≤ 16 * 1000 := Nat.mul_le_mul (by omega) hc
  rw [step i _ _ hi (by rw [List.length_append]; omega), List.append_assoc, rm_flat]
  simp
theorem lp_says {α : Type} [Inhabited α] {xs : List α} {g : α → List UInt8} {c : Nat} {f : (List UInt8 × Int) → Option (Stp (List UInt8 × Int) Empty)} {A : List UInt8} (hA : A.length ≤ 100000) (hn : xs.length ≤ 16) (hc : c ≤ 1000)
  (hg : ∀ i : Nat, i < xs.length → (g (ele xs i)).length ≤ c) (step : ∀ (i : Nat) (B : List UInt8), i < xs.length → B.length ≤ 200000 → f (B, (i : Int)) = some (.next (B ++ g (ele xs i), (i : Int) + 1)))
  (hend : ∀ B, f (B, (xs.length : Int)) = some (.brk (B, (xs.length : Int)))) : lp f (A, 0) = some (.go (A ++ (xs.map g).flatten, (xs.length : Int))) := by
 have key := lp_det (f := f) (fun i => (A ++ ((List.range i).map fun i : Nat => g (ele xs (i : Int))).flatten, (i : Int))) xs.length (fun i hi => ?_) (hend _)
 ·rw [range_map'] at key
  simpa using key
 ·have hl := pieces_len hg i (by omega)
  have : i * c ≤ 16 * 1000 := Nat.mul_le_mul (by omega) hc
  rw [step i _ hi (by rw [List.length_append]; omega), List.append_assoc, rm_flat]
  rfl
theorem put_s {s A : List UInt8} {b : Bool} (hs : s.length ≤ 1000) (hA : A.length ≤ 200000) : text_Print_c1_m s b A = some (true, A ++ (s ++ [10])) := by
 unfold text_Print_c1_m strings_Builder_WriteString_m copyCheck_m
 rw [ck_SL (by simp only [List.length_append, List.length_cons, List.length_nil]; omega), bd_ret, ck_AL (by simp only [List.length_append, List.length_cons, List.length_nil]; omega) (by simp only [List.length_append, List.length_cons, List.length_nil]; omega), bd_ret]
theorem LoopOk.nums {l : Lp} (h : LoopOk l) (hf : l.Fine) : (∀ i : Nat, i < l.logs.length → InR (ele l.logs i)) ∧ (∀ i : Nat, i < l.body.length → StmNum (ele l.body i)) ∧ (∀ i : Nat, i < l.outs.length → InR (ele l.outs i)) :=
 ⟨fun i hi => ele_all hf.rlogs hi, fun i hi => (h.stm i hi).num (ele_all hf.rbody hi), fun i hi => ele_all hf.routs hi⟩
theorem flat_len {α : Type} [Inhabited α] {g : α → List UInt8} {c : Nat} {xs : List α} (h : ∀ i : Nat, i < xs.length → (g (ele xs i)).length ≤ c) (hn : xs.length ≤ 16) : (xs.map g).flatten.length ≤ 16 * c := by
 have := pieces_len h xs.length (Nat.le_refl _)
 rw [range_map'] at this
 exact Nat.le_trans this (Nat.mul_le_mul hn (Nat.le_refl _))
theorem parts_len {l : Lp} (h : LoopOk l) (hf : l.Fine) : (l.logs.map arrT).flatten.length ≤ 16 * 27 ∧ (l.body.map lnT).flatten.length ≤ 16 * 112 ∧ (l.outs.map outT).flatten.length ≤ 16 * 25 := by
 obtain ⟨h1, h2, h3⟩ := h.nums hf
 have ho := outs_len h
 refine ⟨flat_len (fun i hi => ?_) (by have := h.1; omega), flat_len (fun i hi => ?_) h.2.2.1, flat_len (fun i hi => ?_) ho⟩
 ·have := itoa_len (h1 i hi); unfold arrT; simp only [List.length_append, List.length_cons, List.length_nil]; omega
 ·have := stmT_len (h2 i hi); unfold lnT; simp only [List.length_append, List.length_cons, List.length_nil]; omega
 ·have := itoa_len (h3 i hi); unfold outT; simp only [List.length_append, List.length_cons, List.length_nil]; omega
theorem Print_s {l : Lp} (hf : l.Fine) : (LoopOk l → text_Print_m l = some (textOf l, 0)) ∧ (¬ LoopOk l → text_Print_m l = some ([], 2)) := by
 unfold text_Print_m
 rw [May_s l hf, bd_ret]
 refine ⟨fun h => ?_, fun h => ?_⟩
 ·obtain ⟨h1, h2, h3⟩ := h.nums hf
  obtain ⟨p1, p2, p3⟩ := parts_len h hf
  have ho := outs_len h
  have hb1 := h.2.1; have hb2 := h.2.2.1; have hl3 := h.1
  rw [tb_t h, Bool.not_true, br_false]
  have A1 : lp (text_Print_L0 l) ([], false, 0) = some (.go ([] ++ (l.logs.map arrT).flatten, false || decide (0 < l.logs.length), (l.logs.length : Int))) := by
   refine lp_puts (c := 27) (by simp) (by omega) (by omega) (fun i hi => ?_) (fun i B b hi hB => ?_) (fun B b => ?_)
   ·have := itoa_len (h1 i hi); unfold arrT; simp only [List.length_append, List.length_cons, List.length_nil]; omega
   ·have hh := h1 i hi; have := itoa_len hh
    unfold text_Print_L0
    simp only
    rw [br_T (show (i : Int) < ln l.logs by rw [ln_len]; omega), ck_IX (by omega) (by rw [ln_len]; omega), Itoa_s hh, bd_ret, ck_SL (by simp only [List.length_append, List.length_cons, List.length_nil]; omega),
     put_s (by simp only [List.length_append, List.length_cons, List.length_nil]; omega) hB, bd_ret, ck_IR (by omega) (by omega)]
    simp [arrT]
   ·unfold text_Print_L0; simp only; rw [br_F (by rw [ln_len]; omega)]
  rw [A1, bd_ret, Out.on_go, List.nil_append]
  dsimp only
  have A2 : ∀ b, lp (text_Print_L2 l) ((l.logs.map arrT).flatten, b, 0) = some (.go ((l.logs.map arrT).flatten ++ (l.body.map lnT).flatten, b || decide (0 < l.body.length), (l.body.length : Int))) := fun b => by
   refine lp_puts (c := 112) (by omega) hb2 (by omega) (fun i hi => ?_) (fun i B b hi hB => ?_) (fun B b => ?_)
   ·have := stmT_len (h2 i hi); unfold lnT; simp only [List.length_append, List.length_cons, List.length_nil]; omega
   ·have hh := h2 i hi; have := stmT_len hh
    unfold text_Print_L2
    simp only
    rw [br_T (show (i : Int) < ln l.body by rw [ln_len]; omega), ck_IX (by omega) (by rw [ln_len]; omega), line_s hh, bd_ret, put_s (by omega) hB, bd_ret, ck_IR (by omega) (by omega)]
    rfl
   ·unfold text_Print_L2; simp only; rw [br_F (by rw [ln_len]; omega)]
  rw [A2, bd_ret, Out.on_go]
  dsimp only
  have A3 : ∀ b, lp (text_Print_L4 l) ((l.logs.map arrT).flatten ++ (l.body.map lnT).flatten, b, 0) = some (.go (((l.logs.map arrT).flatten ++ (l.body.map lnT).flatten) ++ (l.outs.map outT).flatten, b || decide (0 < l.outs.length), (l.outs.length : Int))) := fun b => by
   refine lp_puts (c := 25) (by rw [List.length_append]; omega) ho (by omega) (fun i hi => ?_) (fun i B b hi hB => ?_) (fun B b => ?_)
   ·have := itoa_len (h3 i hi); unfold outT; simp only [List.length_append, List.length_cons, List.length_nil]; omega
   ·have hh := h3 i hi; have := itoa_len hh
    unfold text_Print_L4
    simp only
    rw [br_T (show (i : Int) < ln l.outs by rw [ln_len]; omega), ck_IX (by omega) (by rw [ln_len]; omega), Itoa_s hh, bd_ret, ck_SL (by simp only [List.length_append, List.length_cons, List.length_nil]; omega),
     put_s (by simp only [List.length_append, List.length_cons, List.length_nil]; omega) hB, bd_ret, ck_IR (by omega) (by omega)]
    simp [outT]
   ·unfold text_Print_L4; simp only; rw [br_F (by rw [ln_len]; omega)]
  rw [A3, bd_ret, Out.on_go]
  dsimp only
  unfold strings_Builder_String_m
  rw [ck_yes, bd_ret]
  ·rfl
  ·intro e
   obtain ⟨s, t, hst⟩ : ∃ s t, l.body = s :: t := by
    cases hb : l.body with
    | nil => rw [hb] at hb1; simp at hb1
    | cons s t => exact ⟨s, t, rfl⟩
   rw [hst] at e
   simp [lnT] at e
 ·rw [tb_f h, Bool.not_false, br_true]
theorem Text_s {l : Lp} (hf : l.Fine) (h : LoopOk l) : R14_Text_m l = some (textOf l) := by
 obtain ⟨h1, h2, h3⟩ := h.nums hf
 obtain ⟨p1, p2, p3⟩ := parts_len h hf
 have ho := outs_len h
 have hb1 := h.2.1; have hb2 := h.2.2.1; have hl3 := h.1
 unfold R14_Text_m
 have A1 : lp (R14_Text_L0 l) ([], 0) = some (.go ([] ++ (l.logs.map arrT).flatten, (l.logs.length : Int))) := by
  refine lp_says (c := 27) (by simp) (by omega) (by omega) (fun i hi => ?_) (fun i B hi hB => ?_) (fun B => ?_)
  ·have := itoa_len (h1 i hi); unfold arrT; simp only [List.length_append, List.length_cons, List.length_nil]; omega
  ·have hh := h1 i hi; have := itoa_len hh
   unfold R14_Text_L0
   simp only
   rw [br_T (show (i : Int) < ln l.logs by rw [ln_len]; omega), ck_SL (by simp only [List.length_append, List.length_cons, List.length_nil]; omega), ck_IX (by omega) (by rw [ln_len]; omega), d_s hh, bd_ret,
    ck_SL (by simp only [List.length_append, List.length_cons, List.length_nil]; omega), ck_SL (by simp only [List.length_append, List.length_cons, List.length_nil]; omega), ck_IR (by omega) (by omega)]
   simp [arrT]
  ·unfold R14_Text_L0; simp only; rw [br_F (by rw [ln_len]; omega)]
 rw [A1, bd_ret, Out.on_go, List.nil_append]
 dsimp only
 have A2 : lp (R14_Text_L2 l) ((l.logs.map arrT).flatten, 0) = some (.go ((l.logs.map arrT).flatten ++ (l.body.map lnT).flatten, (l.body.length : Int))) := by
  refine lp_says (c := 112) (by omega) hb2 (by omega) (fun i hi => ?_) (fun i B hi hB => ?_) (fun B => ?_)
  ·have := stmT_len (h2 i hi); unfold lnT; simp only [List.length_append, List.length_cons, List.length_nil]; omega
  ·have hh := h2 i hi; have ls := stmT_len hh; have hp := placeT_len hh.r; have hop := hh.op
   unfold R14_Text_L2
   simp only
   rw [br_T (show (i : Int) < ln l.body by rw [ln_len]; omega), ck_IX (by omega) (by rw [ln_len]; omega)]
   generalize ele l.body (i : Int) = s at hh ls hp hop ⊢
   obtain ⟨_, r1, r2, r3, r4, r5, r6, r7, r8⟩ := hh.r
   have l5 := itoa_len r5; have l6 := itoa_len r6; have l7 := itoa_len r7; have l8 := itoa_len r8; have la := refT_len r1 r2; have lb := refT_len r3 r4
   have pe : (((([32] ++ Lib.itoa s.ar) ++ [32]) ++ Lib.itoa s.sp) ++ [32]) ++ Lib.itoa s.pl = 32 :: placeT s := by unfold placeT; simp
   rw [d_s r5, bd_ret, ck_SL (by simp only [List.length_append, List.length_cons, List.length_nil]; omega), ck_SL (by simp only [List.length_append, List.length_cons, List.length_nil]; omega), d_s r6, bd_ret, ck_SL (by simp only [List.length_append, List.length_cons, List.length_nil]; omega), ck_SL (by simp only [List.length_append, List.length_cons, List.length_nil]; omega), d_s r7, bd_ret, pe, ck_SL (by simp only [List.length_append, List.length_cons, List.length_nil]; omega)]
   unfold lnT stmT
   by_cases o1 : s.op = 1
   ·rw [show (s.op == 1) = true by simpa using o1, br_true, if_pos o1, ck_SL (by simp only [List.length_append, List.length_cons, List.length_nil]; omega), Digits_s r8, bd_ret, ck_SL (by simp only [List.length_append, List.length_cons, List.length_nil]; omega), ck_SL (by simp only [List.length_append, List.length_cons, List.length_nil]; omega), ck_IR (by omega) (by omega)]
    simp
   rw [show (s.op == 1) = false by simpa using o1, br_false, if_neg o1]
   by_cases o2 : s.op = 2
   ·rw [show (s.op == 2) = true by simpa using o2, br_true, if_pos o2, ck_SL (by simp only [List.length_append, List.length_cons, List.length_nil]; omega), ck_SL (by simp only [List.length_append, List.length_cons, List.length_nil]; omega), ck_IR (by omega) (by omega)]
    simp
   rw [show (s.op == 2) = false by simpa using o2, br_false, if_neg o2]
   by_cases o3 : s.op = 3
   ·rw [show (s.op == 3) = true by simpa using o3, br_true, if_pos o3, ck_SL (by simp only [List.length_append, List.length_cons, List.length_nil]; omega), ck_SL (by simp only [List.length_append, List.length_cons, List.length_nil]; omega), ck_SL (by simp only [List.length_append, List.length_cons, List.length_nil]; omega), ck_IR (by omega) (by omega)]
    simp
   rw [show (s.op == 3) = false by simpa using o3, br_false, if_neg o3]
   by_cases o4 : s.op = 4
   ·rw [show (s.op == 4) = true by simpa using o4, br_true, if_pos o4, ck_SL (by simp only [List.length_append, List.length_cons, List.length_nil]; omega), ck_SL (by simp only [List.length_append, List.length_cons, List.length_nil]; omega), ref14_ref_s r1 r2, bd_ret, ck_SL (by simp only [List.length_append, List.length_cons, List.length_nil]; omega), ck_SL (by simp only [List.length_append, List.length_cons, List.length_nil]; omega), ck_IR (by omega) (by omega)]
    simp
   have ld := ops_len (k := s.op - 11) (by omega) (by omega)
   rw [show (s.op == 4) = false by simpa using o4, br_false, if_neg o4, show R14_words_m = some opsW from rfl, bd_ret, ck_IR (by omega) (by omega), ck_IR (by omega) (by omega), show s.op - 10 - 1 = s.op - 11 by omega,
    ck_IX (by omega) (by rw [show ln opsW = 8 from rfl]; omega), ck_SL (by simp only [List.length_append, List.length_cons, List.length_nil]; omega), ref14_ref_s r1 r2, bd_ret, ck_SL (by simp only [List.length_append, List.length_cons, List.length_nil]; omega), ref14_ref_s r3 r4, bd_ret, ck_SL (by simp only [List.length_append, List.length_cons, List.length_nil]; omega), ck_SL (by simp only [List.length_append, List.length_cons, List.length_nil]; omega), ck_IR (by omega) (by omega)]
   simp
  ·unfold R14_Text_L2; simp only; rw [br_F (by rw [ln_len]; omega)]
 rw [A2, bd_ret, Out.on_go]
 dsimp only
 have A3 : lp (R14_Text_L5 l) ((l.logs.map arrT).flatten ++ (l.body.map lnT).flatten, 0) = some (.go (((l.logs.map arrT).flatten ++ (l.body.map lnT).flatten) ++ (l.outs.map outT).flatten, (l.outs.length : Int))) := by
  refine lp_says (c := 25) (by rw [List.length_append]; omega) ho (by omega) (fun i hi => ?_) (fun i B hi hB => ?_) (fun B => ?_)
  ·have := itoa_len (h3 i hi); unfold outT; simp only [List.length_append, List.length_cons, List.length_nil]; omega
  ·have hh := h3 i hi; have := itoa_len hh
   unfold R14_Text_L5
   simp only
   rw [br_T (show (i : Int) < ln l.outs by rw [ln_len]; omega), ck_SL (by simp only [List.length_append, List.length_cons, List.length_nil]; omega), ck_IX (by omega) (by rw [ln_len]; omega), d_s hh, bd_ret,
    ck_SL (by simp only [List.length_append, List.length_cons, List.length_nil]; omega), ck_SL (by simp only [List.length_append, List.length_cons, List.length_nil]; omega), ck_IR (by omega) (by omega)]
   simp [outT]
  ·unfold R14_Text_L5; simp only; rw [br_F (by rw [ln_len]; omega)]
 rw [A3, bd_ret, Out.on_go]
 dsimp only
 rfl
noncomputable def roundelaylaw_TextPrints_m (l : Lp) : Option (Bool) :=
 bd (text_Print_m l) fun x2 =>
 bd (R2_May_m l) fun x5 =>
 br (!x5) (
 some ((x2.2 == 2) && (x2.1 == []))) (
 bdG (x2.2 == 0) (R14_Text_m l) fun x11 =>
 some ((x2.2 == 0) && (x2.1 == x11)))
theorem TextPrints_true (l : Lp) {w : World} {v1 v2 v3 : Value} (hL : LpRep w v1 v2 v3 l) : roundelaylaw_TextPrints_m l = some true := by
 have hf := hL.fine
 unfold roundelaylaw_TextPrints_m
 by_cases h : LoopOk l
 ·rw [(Print_s hf).1 h, bd_ret, ref_May_s l hf, bd_ret, tb_t h, Text_s hf h]
  simp
 ·rw [(Print_s hf).2 h, bd_ret, ref_May_s l hf, bd_ret, tb_f h]
  simp
end Go.Rd
end
section
namespace Go.Rd
section
variable {P : Program} {n : Nat} {σ : Env} {M : Nat → Prop} {w0 : World} {H : List Res} {C : World → Prop} {rest l : List Oper} {ops : Array Oper} {Q : Exit → Act → World → Prop} {d id : Nat} {v : Value} {x : Operand} {T U : TypeId} {pos : String} {after : Array Edge} {c : Op} {y : Code}
theorem wq (h : Nat.blt d n = true) (hq : QV P ⟨some d, c, T, pos, after, none⟩ σ (Own M w0 H) v) (kk : WK n (wpList P ops Q rest) ((d, (true, v)) :: σ) (Own M w0 H)) : WK n (wpList P ops Q (⟨some d, c, T, pos, after, none⟩ :: rest)) σ (Own M w0 H) := WL.q rfl rfl h hq kk
theorem wm (h : (Nat.blt d n, σ.ev x) = (true, some (true, v))) (kk : WK n (wpList P ops Q rest) ((d, (true, v)) :: σ) (Own M w0 H)) : WK n (wpList P ops Q (⟨some d, .move x, T, pos, after, none⟩ :: rest)) σ (Own M w0 H) :=
 wq (congrArg Prod.fst h) (QV.move (congrArg Prod.snd h) rfl) kk
theorem wa (h : (Nat.blt d n, σ.ev x) = (true, some (true, v))) (kk : WK n (wpList P ops Q rest) ((d, (true, v)) :: σ) (Own M w0 H)) : WK n (wpList P ops Q (⟨some d, .assign x, T, pos, after, none⟩ :: rest)) σ (Own M w0 H) :=
 wq (congrArg Prod.fst h) (QV.assign (congrArg Prod.snd h) rfl) kk
theorem wf {f off : Nat} {q : Addr} (hT : FieldT P U f off) (h : (Nat.blt d n, σ.ev x) = (true, some (true, .pointer (some q)))) (kk : WK n (wpList P ops Q rest) ((d, (true, .pointer (some (q.add off)))) :: σ) (Own M w0 H)) : WK n (wpList P ops Q (⟨some d, .fieldAddr U x f, T, pos, after, none⟩ :: rest)) σ (Own M w0 H) :=
 wq (congrArg Prod.fst h) (QV.fieldAddr hT (congrArg Prod.snd h) rfl) kk
theorem wl {q : Addr} (hT : Plain P U) (h : (Nat.blt d n, σ.ev x) = (true, some (true, .pointer (some q)))) (hc : ∀ w, Own M w0 H w → w.cell? q = some v) (kk : WK n (wpList P ops Q rest) ((d, (true, v)) :: σ) (Own M w0 H)) : WK n (wpList P ops Q (⟨some d, .load U x, T, pos, after, none⟩ :: rest)) σ (Own M w0 H) :=
 wq (congrArg Prod.fst h) (QV.load hT (congrArg Prod.snd h) rfl hc) kk
theorem wz (i : Nat) {m fuel : Nat} {S : World → Prop} [hQ : POk Q] (hi : ops[i]? = some ⟨some d, c, T, pos, after, none⟩) (hn : Nat.blt d n = true) (hq : QV P ⟨some d, c, T, pos, after, none⟩ σ S v)
  (kk : WD P n ops Q S fuel (upto (i + 1) m) ((d, (true, v)) :: σ) (Own M w0 H)) (ht : takeOk ops i m = true := by kernel_rfl) : WD P n ops Q S (fuel + 1) (upto i m) σ (Own M w0 H) := WD.q i hi ht rfl rfl hn hq kk
theorem zm (i : Nat) {m fuel : Nat} {S : World → Prop} [hQ : POk Q] (hi : ops[i]? = some ⟨some d, .move x, T, pos, after, none⟩) (h : (Nat.blt d n, σ.ev x) = (true, some (true, v)))
  (kk : WD P n ops Q S fuel (upto (i + 1) m) ((d, (true, v)) :: σ) (Own M w0 H)) (ht : takeOk ops i m = true := by kernel_rfl) : WD P n ops Q S (fuel + 1) (upto i m) σ (Own M w0 H) := WD.q i hi ht rfl rfl (congrArg Prod.fst h) (QV.move (congrArg Prod.snd h) rfl) kk
theorem zf (i : Nat) {m fuel f off : Nat} {q : Addr} {S : World → Prop} [hQ : POk Q] (hT : FieldT P U f off) (hi : ops[i]? = some ⟨some d, .fieldAddr U x f, T, pos, after, none⟩) (h : (Nat.blt d n, σ.ev x) = (true, some (true, .pointer (some q))))
  (kk : WD P n ops Q S fuel (upto (i + 1) m) ((d, (true, .pointer (some (q.add off)))) :: σ) (Own M w0 H)) (ht : takeOk ops i m = true := by kernel_rfl) : WD P n ops Q S (fuel + 1) (upto i m) σ (Own M w0 H) := WD.q i hi ht rfl rfl (congrArg Prod.fst h) (QV.fieldAddr hT (congrArg Prod.snd h) rfl) kk
theorem zl (i : Nat) {m fuel : Nat} {q : Addr} {S : World → Prop} [hQ : POk Q] (hT : Plain P U) (hi : ops[i]? = some ⟨some d, .load U x, T, pos, after, none⟩) (h : (Nat.blt d n, σ.ev x) = (true, some (true, .pointer (some q)))) (hc : ∀ w, S w → w.cell? q = some v)
  (kk : WD P n ops Q S fuel (upto (i + 1) m) ((d, (true, v)) :: σ) (Own M w0 H)) (ht : takeOk ops i m = true := by kernel_rfl) : WD P n ops Q S (fuel + 1) (upto i m) σ (Own M w0 H) := WD.q i hi ht rfl rfl (congrArg Prod.fst h) (QV.load hT (congrArg Prod.snd h) rfl hc) kk
theorem wc {α : Type} {cc : Operand} {xx : Code} {b : Bool} {u' v' r : α} (hb : σ.ev cc = some (true, .bool b)) (hm : br b u' v' = r) (ht : b = true → u' = r → WK n (xx.wp P Q) σ C) (hf : b = false → v' = r → WK n (y.wp P Q) σ C) : WK n ((Code.cond cc xx y).wp P Q) σ C :=
 WC.cond hb (fun h => ht h (br_t h hm)) (fun h => hf h (br_f h hm))
theorem gn {j d' : Nat} {b : Bool} (h : (Nat.blt d n, (ops[j]?).bind (·.dst), σ.look d') = (true, some d', some (true, .bool b))) (hq : (!b) = true → QV P ⟨some d, c, T, pos, after, some (j, false)⟩ σ (Own M w0 H) v) (kk : WK n (wpList P ops Q rest) ((d, (!b, v)) :: σ) (Own M w0 H)) : WK n (wpList P ops Q (⟨some d, c, T, pos, after, some (j, false)⟩ :: rest)) σ (Own M w0 H) :=
 WL.g rfl (congrArg (·.1) h) (GuardIs.neg (congrArg (·.2.1) h) (congrArg (·.2.2) h)) hq kk
theorem gp {j d' : Nat} {b : Bool} (h : (Nat.blt d n, (ops[j]?).bind (·.dst), σ.look d') = (true, some d', some (true, .bool b))) (hq : b = true → QV P ⟨some d, c, T, pos, after, some (j, true)⟩ σ (Own M w0 H) v) (kk : WK n (wpList P ops Q rest) ((d, (b, v)) :: σ) (Own M w0 H)) : WK n (wpList P ops Q (⟨some d, c, T, pos, after, some (j, true)⟩ :: rest)) σ (Own M w0 H) :=
 WL.g rfl (congrArg (·.1) h) (GuardIs.pos (congrArg (·.2.1) h) (congrArg (·.2.2) h)) hq kk
theorem gnC {j d' : Nat} {b gg : Bool} (h : (Nat.blt d n, (ops[j]?).bind (·.dst), σ.look d') = (true, some d', some (gg, .bool b))) (hq : (gg && !b) = true → QV P ⟨some d, c, T, pos, after, some (j, false)⟩ σ (Own M w0 H) v) (kk : WK n (wpList P ops Q rest) ((d, (gg && !b, v)) :: σ) (Own M w0 H)) : WK n (wpList P ops Q (⟨some d, c, T, pos, after, some (j, false)⟩ :: rest)) σ (Own M w0 H) :=
 WL.g rfl (congrArg (·.1) h) (GuardIs.negC (congrArg (·.2.1) h) (congrArg (·.2.2) h)) hq kk
theorem gpC {j d' : Nat} {b gg : Bool} (h : (Nat.blt d n, (ops[j]?).bind (·.dst), σ.look d') = (true, some d', some (gg, .bool b))) (hq : (gg && b) = true → QV P ⟨some d, c, T, pos, after, some (j, true)⟩ σ (Own M w0 H) v) (kk : WK n (wpList P ops Q rest) ((d, (gg && b, v)) :: σ) (Own M w0 H)) : WK n (wpList P ops Q (⟨some d, c, T, pos, after, some (j, true)⟩ :: rest)) σ (Own M w0 H) :=
 WL.g rfl (congrArg (·.1) h) (GuardIs.posC (congrArg (·.2.1) h) (congrArg (·.2.2) h)) hq kk
theorem zn (i : Nat) {j d' m fuel : Nat} {b : Bool} {S : World → Prop} [hQ : POk Q] (hi : ops[i]? = some ⟨some d, c, T, pos, after, some (j, false)⟩) (h : (Nat.blt d n, (ops[j]?).bind (·.dst), σ.look d') = (true, some d', some (true, .bool b))) (hq : (!b) = true → QV P ⟨some d, c, T, pos, after, some (j, false)⟩ σ S v)
  (kk : WD P n ops Q S fuel (upto (i + 1) m) ((d, (!b, v)) :: σ) (Own M w0 H)) (ht : takeOk ops i m = true := by kernel_rfl) : WD P n ops Q S (fuel + 1) (upto i m) σ (Own M w0 H) := WD.g i hi ht rfl (congrArg (·.1) h) (GuardIs.neg (congrArg (·.2.1) h) (congrArg (·.2.2) h)) hq kk
theorem ec {xs : List Operand} {vs : List Value} (h : σ.ev x = some (true, v)) (h3 : EvAll σ xs vs) : EvAll σ (x :: xs) (v :: vs) := EvAll.cons h rfl h3
theorem eN : EvAll σ [] [] := EvAll.nil
theorem kg {α : Type} {a : α} {w : World} (h : Own noM w0 H w) : a = a ∧ Grow w0 w := ⟨rfl, Own.kgrow (fun _ x => x) h⟩
theorem pk (js : List Nat) (hn : js.Nodup := by decide) (w : World) (h : Own M w0 H w) : Own M w0 (pickL js H) w := h.pick js hn
theorem tr {K : Act → World → Prop} (h : WK n (Q .ret) σ C) : WK n (Exit.then K Q .ret) σ C := h
theorem te {K : Act → World → Prop} {id : Nat} (h : WK n (Q (.exit id)) σ C) : WK n (Exit.then K Q (.exit id)) σ C := h
theorem kr {id : Nat} (h : WK n (Q .ret) σ C) : WK n (Exit.inBlock id Q .ret) σ C := h
theorem sk (k : WK n (Q .normal) σ C) : WK n (Code.skip.wp P Q) σ C := WC.skip k
theorem sr (h : WK n (wpList P l.toArray (Exit.then (y.wp P Q) Q) l) σ C) : WK n (((Code.region id l.toArray false).seq y).wp P Q) σ C := WC.seq (WC.region h)
theorem nt (h : WK n (y.wp P Q) σ C) : WK n (wpList P ops (Exit.then (y.wp P Q) Q) []) σ C := WL.nil (WQ.then h)
theorem nr (h : WK n (wpList P l.toArray Q l) σ C) : WK n (wpList P ops (Exit.then ((Code.region id l.toArray false).wp P Q) Q) []) σ C := nt (WC.region h)
theorem ns {z : Code} (h : WK n (wpList P l.toArray (Exit.then (z.wp P Q) Q) l) σ C) : WK n (wpList P ops (Exit.then (((Code.region id l.toArray false).seq z).wp P Q) Q) []) σ C := nt (sr h)
end
universe u
theorem Z {α : Sort u} {a : α} : a = a := rfl
theorem fT (sz : Nat) {P : Program} {T : TypeId} {f off : Nat} {fs : Array Field} {fd : Field} (h : P.underlying T = some (.struct fs)) (h1 : fs[f]? = some fd := by rfl) (h2 : fd.offset = off := by rfl) (h3 : (P.info? fd.type).map (·.size) = some (sz + 1) := by kernel_rfl) : FieldT P T f off := ⟨fs, fd, sz, h, h1, h2, h3⟩
theorem eT {P : Program} {f : FuncId} {fn : Func} (h : P.funcs[f]? = some fn) (h1 : fn.body.isNone = false := by kernel_rfl) (h2 : (fn.name == "runtime.NumGoroutine") = false := by kernel_rfl) : Enters P f := ⟨fn, h, h1, h2⟩
theorem nl {a b : Nat} (h : Nat.ble a b = true) : a ≤ b := Nat.le_of_ble_eq_true h
theorem oc {v : Value} {r : List Value} (h : v.oneCell' = true) (k : ∀ u ∈ r, u.oneCell' = true) : ∀ u ∈ v :: r, u.oneCell' = true := one_cons h k
abbrev u_ (i : Nat) (v : Value) : Nat × Bool × Value := (i, (true, v))
abbrev i_ (n : Int) : Value := .int .i64 n
section
variable {α : Type} {x : Option α} {r : α} {c1 c2 c3 c4 c5 c6 c7 c8 : Prop} [Decidable c1] [Decidable c2] [Decidable c3] [Decidable c4] [Decidable c5] [Decidable c6] [Decidable c7] [Decidable c8]
theorem cs (h : ck c1 x = some r) : c1 ∧ x = some r := ck_some h
theorem cs2 (h : ck c1 (ck c2 x) = some r) : c1 ∧ c2 ∧ x = some r := ⟨(cs h).1, cs (cs h).2⟩
theorem cs3 (h : ck c1 (ck c2 (ck c3 x)) = some r) : c1 ∧ c2 ∧ c3 ∧ x = some r := ⟨(cs h).1, cs2 (cs h).2⟩
theorem cs4 (h : ck c1 (ck c2 (ck c3 (ck c4 x))) = some r) : c1 ∧ c2 ∧ c3 ∧ c4 ∧ x = some r := ⟨(cs h).1, cs3 (cs h).2⟩
end
end Go.Rd
end
section
namespace Go.Rd
open Go.RowKit
section
variable {P : Program} {n : Nat} {σ : Env} {M : Nat → Prop} {w0 : World} {H : List Res} {d : Option Tmp} {T U E : TypeId} {pos : String} {after : Array Edge} {gd : Option (Nat × Bool)} {x y : Operand} {g g' : Bool} {v yv : Value}
 {K : Act → World → Prop} {Q : Exit → Act → World → Prop}
end
end Go.Rd
end
section
namespace Go.Rd
open Go.RowKit
section
variable {P : Program} {n : Nat} {ops : Array Oper} {Q : Exit → Act → World → Prop} {σ : Env} {C S : World → Prop} {T : Nat → Bool}
def ahead (md : Region.Mode) (ops : Array Oper) : Nat → Oper → Nat → Prop
 | 0, _, _ => False
 | n + 1, o, k => ∃ e ∈ o.after, Region.binds md e = true ∧ (e.on = k ∨ ∃ o', ops[e.on]? = some o' ∧ ahead md ops n o' k)
theorem ahead_listed {md : Region.Mode} {listed : Array Bool} (hD : DC md ops listed) : ∀ {m : Nat} {o : Oper} {k : Nat}, (∀ e ∈ o.after, Region.binds md e = true → listed.getD e.on false = true) → ahead md ops m o k → listed.getD k false = true
 | 0, _, _, _, h => h.elim
 | m + 1, o, k, hall, ⟨e, he, hb, h⟩ => by
  have h1 := hall e he hb
  rcases h with rfl | ⟨o', ho', h⟩
  ·exact h1
  ·exact ahead_listed hD (fun e' he' hb' => hD e.on o' ho' h1 e' he' hb') h
def FreeT (T : Nat → Bool) (md : Region.Mode) (ops : Array Oper) (listed : Array Bool) (oj : Oper) : Prop := ∀ k, listed.getD k false = true → T k = true ∨ ahead md ops 5 oj k
def wpAnyT (T : Nat → Bool) (P : Program) (md : Region.Mode) (ops : Array Oper) (Q : Exit → Act → World → Prop) : (World → Prop) → Nat → Array Bool → (World → Prop) → Act → Prop
 | S, 0, listed, C, a => Region.ready md ops listed = [] ∧ ∀ w, C w → Q .normal a w
 | S, fuel + 1, listed, C, a => DC md ops listed →
  ((Region.ready md ops listed = [] → ∀ w, C w → Q .normal a w) ∧
  ∀ i ∈ Region.ready md ops listed, ∀ w, C w → wpOp P ops Q i (fun a' w' => ∃ C' S' : World → Prop, Closed C' ∧ (∀ x, C' x → S' x) ∧ ((∀ x, S' x → S x) ∨ ∃ oi, ops[i]? = some oi ∧ FreeT T md ops listed oi) ∧ C' w' ∧ wpAnyT T P md ops Q S' fuel (listed.setIfInBounds i true) C' a') a w) ∨
  (Tail md ops listed ∧ ∀ w, C w → wpAny P md ops Q (fuel + 1) listed a w)
def YT (T : Nat → Bool) (P : Program) (ops : Array Oper) (S : World → Prop) (i : Nat) (o : Oper) (v : Value) (a : Act) : Prop := (T i = true ∧ YG P ops (fun _ => True) o v a) ∨ YG P ops S o v a
theorem wpAnyT_first {md : Region.Mode} {i : Nat} {oi : Oper} {v : Value} (hi : ops[i]? = some oi) (hsel : ∀ (j : Nat) (o : Oper) cs b, ops[j]? = some o → o.op ≠ .select cs b)
  (hQ : ∀ c a w, Q (.panic c) (a.put oi.dst v) w → Q (.panic c) a w) :
  ∀ (fuel : Nat) (S : World → Prop) (listed : Array Bool) (C : World → Prop) (a : Act), Closed C → (∀ x, C x → S x) →
   (∀ j oj, ops[j]? = some oj → j ≠ i → listed.getD j true = false → (∀ e ∈ oj.after, Region.binds md e = true → e.on ≠ i) → oi.apart ops oj = true) →
   i ∈ Region.ready md ops listed → (YT T P ops S i oi v a) → (T i = true → YG P ops (fun _ => True) oi v a) →
   wpAnyT T P md ops Q S fuel (listed.setIfInBounds i true) C (a.put oi.dst v) → wpAnyT T P md ops Q S (fuel + 1) listed C a := by
 intro fuel
 induction fuel with
 | zero =>
  intro S listed C a hc hCS _ hr hy hyT H
  intro hD
  refine .inl ⟨fun h => (by rw [h] at hr; cases hr), fun j hj w hw => ?_⟩
  by_cases hji : j = i
  ·subst hji
   rcases hy with ⟨_, hy⟩ | hy
   ·exact hy.toOp hi hw (fun _ _ => trivial) hc fun w' hw' => ⟨C, S, hc, hCS, .inl fun _ h => h, hw', H⟩
   ·exact hy.toOp hi hw hCS hc fun w' hw' => ⟨C, S, hc, hCS, .inl fun _ h => h, hw', H⟩
  ·have := ready_mono hj hji
   rw [H.1] at this
   cases this
 | succ fuel ih =>
  intro S listed C a hc hCS hfree hr hy hyT H
  intro hD
  have H0 := H
  replace H := H (hD.set hr)
  refine .inl ⟨fun h => (by rw [h] at hr; cases hr), fun j hj w hw => ?_⟩
  by_cases hji : j = i
  ·subst hji
   rcases hy with ⟨_, hy⟩ | hy
   ·exact hy.toOp hi hw (fun _ _ => trivial) hc fun w' hw' => ⟨C, S, hc, hCS, .inl fun _ h => h, hw', H0⟩
   ·exact hy.toOp hi hw hCS hc fun w' hw' => ⟨C, S, hc, hCS, .inl fun _ h => h, hw', H0⟩
  ·have hilt : i < listed.size := by
    rcases Nat.lt_or_ge i listed.size with h' | h'
    ·exact h'
    ·have h0 := (mem_ready.1 hr).1
     simp [Array.getElem?_eq_none h'] at h0
   have hun : listed.getD i false = false := by
    have h0 := (mem_ready.1 hr).1
    simp [hilt] at h0 ⊢
    exact h0
   obtain ⟨hjun0, oj0, hoj0, hall0⟩ := mem_ready.1 hj
   have hno : ∀ oj : Oper, ops[j]? = some oj → ∀ m, ¬ ahead md ops m oj i := fun oj hoj m h => by
    rw [hoj0] at hoj
    cases hoj
    have := ahead_listed hD hall0 h
    rw [hun] at this
    cases this
   rcases H with H | ⟨⟨j0, o0, ho0, hr0, hall0'⟩, _⟩
   case inr =>
    have hj0 := ready_mono hj hji
    rw [hr0, List.mem_singleton] at hj0
    subst hj0
    obtain ⟨e, he, hb, h⟩ := hall0' i (by simp [hilt])
    refine absurd (show ahead md ops 2 o0 i from ⟨e, he, hb, ?_⟩) (hno o0 ho0 2)
    rcases h with h | ⟨o', ho', e', he', hb', h⟩
    ·exact .inl h
    ·exact .inr ⟨o', ho', e', he', hb', .inl h⟩
   have h1 := H.2 j (ready_mono hj hji) w hw
   obtain ⟨hjun, oj, hoj, hall⟩ := mem_ready.1 hj
   have hnot : ∀ e ∈ oj.after, Region.binds md e = true → e.on ≠ i := fun e he hb heq => hno oj hoj 1 ⟨e, he, hb, .inl heq⟩
   have hfree' : ∀ k ok, ops[k]? = some ok → k ≠ i → (listed.setIfInBounds j true).getD k true = false →
     (∀ e ∈ ok.after, Region.binds md e = true → e.on ≠ i) → oi.apart ops ok = true := fun k ok hk hki hun hno => by
    refine hfree k ok hk hki ?_ hno
    by_cases hjk : j = k
    ·subst hjk; exact hjun
    ·rw [getD_set_ne true hjk] at hun; exact hun
   have hFree : ∀ {oj' : Oper}, ops[j]? = some oj' → FreeT T md ops (listed.setIfInBounds i true) oj' → T i = true ∧ FreeT T md ops listed oj' := fun {oj'} hoj' hf => by
    refine ⟨?_, fun k hk => hf k ?_⟩
    ·rcases hf i (by simp [hilt]) with h | h
     ·exact h
     ·exact absurd h (hno _ hoj' 5)
    ·by_cases hik : i = k
     ·subst hik; simp [hilt]
     ·rw [getD_set_ne false hik]; exact hk
   by_cases hTi : T i = true
   ·have h2 := wpOp_putG hoj (hfree j oj hoj hji hjun hnot) (fun cs b => hsel i oi cs b hi) (fun cs b => hsel j oj cs b hoj) hQ (hyT hTi) h1
    refine wpOp_mono (fun a' w' h3 => ?_) h2
    obtain ⟨hy', C', S', hc', hsub, hSS, hw', hrest⟩ := h3
    refine ⟨C', S', hc', hsub, ?_, hw', ih S' (listed.setIfInBounds j true) C' a' hc' hsub hfree' (ready_mono hr (Ne.symm hji)) (.inl ⟨hTi, hy'⟩) (fun _ => hy') ?_⟩
    ·rcases hSS with h | ⟨oj', hoj', hf⟩
     ·exact .inl h
     ·exact .inr ⟨oj', hoj', (hFree hoj' hf).2⟩
    ·rw [Array.setIfInBounds_comm _ _ hji]
     exact hrest
   ·have hyS : YG P ops S oi v a := by
     rcases hy with ⟨h, _⟩ | h
     ·exact absurd h hTi
     ·exact h
    have h2 := wpOp_putG hoj (hfree j oj hoj hji hjun hnot) (fun cs b => hsel i oi cs b hi) (fun cs b => hsel j oj cs b hoj) hQ hyS h1
    refine wpOp_mono (fun a' w' h3 => ?_) h2
    obtain ⟨hy', C', S', hc', hsub, hSS, hw', hrest⟩ := h3
    rcases hSS with hSS | ⟨oj', hoj', hf⟩
    case inr => exact absurd (hFree hoj' hf).1 hTi
    refine ⟨C', S', hc', hsub, .inl hSS, hw', ih S' (listed.setIfInBounds j true) C' a' hc' hsub hfree' (ready_mono hr (Ne.symm hji)) (.inr (hy'.mono hSS)) (fun h => absurd h hTi) ?_⟩
    rw [Array.setIfInBounds_comm _ _ hji]
    exact hrest
def WT (T : Nat → Bool) (P : Program) (n : Nat) (ops : Array Oper) (Q : Exit → Act → World → Prop) (S : World → Prop) (fuel : Nat) (listed : Array Bool) (σ : Env) (C : World → Prop) : Prop :=
 (∀ x, C x → S x) → ∀ a, Has n a σ → wpAnyT T P .any ops Q S fuel listed C a
theorem WT.take (i : Nat) {oi : Oper} {fuel : Nat} {listed listed' : Array Bool} {G : Bool} {v : Value} {d : Nat} (hi : ops[i]? = some oi)
  (hs : Region.noSelect ops = true) (hf : Region.free .any ops listed i = true) (hr : (Region.ready .any ops listed).contains i = true) (hl : listed.setIfInBounds i true = listed')
  (hQ : PanicOk Q) (hc : Closed C) (hd : oi.dst = some d) (hn : d < n) (hG : GuardIs ops σ oi.guard G) (hq : G = true → QV P oi σ S v) (hqT : T i = true → G = true → QV P oi σ (fun _ => True) v)
  (k : WT T P n ops Q S fuel listed' ((d, (G, v)) :: σ) C) : WT T P n ops Q S (fuel + 1) listed σ C := fun hCS a ha => by
 subst hl
 have hp := k hCS _ (ha.put hn G v)
 rw [← hd] at hp
 have hg := hG n a ha
 refine wpAnyT_first hi (Region.noSelect_spec hs) (fun c a w => hQ c a _ _ w) fuel S listed C a hc hCS (Region.free_spec hi hf) (by simpa using hr) (.inr ?_) (fun hT => ?_) hp
 ·cases G with
  | true => exact .inl ⟨hg, fun w hw => hq rfl n a ha w hw⟩
  | false => exact .inr ⟨hg, rfl⟩
 ·cases G with
  | true => exact .inl ⟨hg, fun w hw => hqT hT rfl n a ha w hw⟩
  | false => exact .inr ⟨hg, rfl⟩
def aheadB (ops : Array Oper) : Nat → Oper → Nat → Bool
 | 0, _, _ => false
 | n + 1, o, k => o.after.any fun e => Region.binds .any e && (e.on == k || match ops[e.on]? with | some o' => aheadB ops n o' k | none => false)
theorem aheadB_spec : ∀ {m : Nat} {o : Oper} {k : Nat}, aheadB ops m o k = true → ahead .any ops m o k
 | 0, _, _, h => by cases h
 | m + 1, o, k, h => by
  obtain ⟨e, he, h1⟩ := Array.any_eq_true'.1 h
  simp only [Bool.and_eq_true, Bool.or_eq_true, beq_iff_eq] at h1
  refine ⟨e, he, h1.1, ?_⟩
  rcases h1.2 with h2 | h2
  ·exact .inl h2
  ·cases ho : ops[e.on]? with
   | none => rw [ho] at h2; cases h2
   | some o' =>
    rw [ho] at h2
    exact .inr ⟨o', rfl, aheadB_spec h2⟩
def freeB (T : Nat → Bool) (ops : Array Oper) (oj : Oper) (listed : Array Bool) : Bool := (List.range listed.size).all fun k => !listed.getD k false || (T k || aheadB ops 5 oj k)
theorem freeB_spec {oj : Oper} {listed : Array Bool} (h : freeB T ops oj listed = true) : FreeT T .any ops listed oj := fun k hk => by
 have hlt : k < listed.size := by
  rcases Nat.lt_or_ge k listed.size with h' | h'
  ·exact h'
  ·simp [Array.getElem?_eq_none h'] at hk
 have := List.all_eq_true.1 h k (List.mem_range.2 hlt)
 rw [hk, Bool.not_true, Bool.false_or, Bool.or_eq_true] at this
 rcases this with h0 | this
 ·exact .inl h0
 ·exact .inr (aheadB_spec this)
theorem WT.free (i : Nat) {oi : Oper} {fuel : Nat} {listed listed' : Array Bool} {τ : Env} {C' : World → Prop} (hi : ops[i]? = some oi) (hr : Region.ready .any ops listed = [i]) (hl : listed.setIfInBounds i true = listed')
  (hg : oi.guard = none) (hf : freeB T ops oi listed = true) (hc : Closed C') (h : EV P n oi σ C (fun a' w' => Has n a' τ ∧ C' w') Q) (k : WT T P n ops Q C' fuel listed' τ C') : WT T P n ops Q S (fuel + 1) listed σ C := fun hCS a ha => by
 subst hl
 intro _
 refine .inl ⟨fun h0 => (by rw [hr] at h0; cases h0), fun j hj w hw => ?_⟩
 rw [hr, List.mem_singleton] at hj
 subst hj
 refine wpOp_mono (K := fun a' w' => Has n a' τ ∧ C' w') (fun a' w' hq => ⟨C', C', hc, fun _ h => h, .inr ⟨oi, hi, freeB_spec hf⟩, hq.2, k (fun _ h => h) a' hq.1⟩) ?_
 unfold Go.wpOp
 simp only [hi]
 rw [if_pos (by simp [Region.wanted, hg])]
 exact h a w ha hw
theorem WT.last (i : Nat) {oi : Oper} {fuel : Nat} {listed : Array Bool} (hi : ops[i]? = some oi) (hr : Region.ready .any ops listed = [i]) (ht : tailB ops oi listed = true) (hl : Region.ready .any ops (listed.setIfInBounds i true) = [])
  (hg : oi.guard = none) (h : EV P n oi σ C (Q .normal) Q) : WT T P n ops Q S (fuel + 1) listed σ C := fun hCS a ha => by
 intro _
 refine .inr ⟨⟨i, oi, hi, hr, tailB_spec ht⟩, fun w hw => ⟨fun h0 => (by rw [hr] at h0; cases h0), fun j hj => ?_⟩⟩
 rw [hr, List.mem_singleton] at hj
 subst hj
 refine wpOp_mono (K := Q .normal) (fun a' w' hq => ?_) ?_
 ·cases fuel with
  | zero => exact ⟨hl, hq⟩
  | succ f => exact ⟨fun _ => hq, by rw [hl]; simp⟩
 ·unfold Go.wpOp
  simp only [hi]
  rw [if_pos (by simp [Region.wanted, hg])]
  exact h a w ha hw
end
section
variable {P : Program} {n : Nat} {ops : Array Oper} {Q : Exit → Act → World → Prop} {oi : Oper} {σ : Env} {M : Nat → Prop} {w0 : World} {H H' : List Res} {v : Value} {d : Nat} {S : World → Prop} {T : Nat → Bool}
theorem WT.q (i k k' : Nat) {m fuel : Nat} [hQ : POk Q] (hi : ops[i]? = some oi) (ht : takeOkL ops i m k k' = true) (hd : oi.dst = some d) (hg : oi.guard = none) (hn : Nat.blt d n = true) (hT : T i = false) (hq : QV P oi σ S v)
  (kk : WT T P n ops Q S fuel (lst m k') ((d, (true, v)) :: σ) (Own M w0 H)) : WT T P n ops Q S (fuel + 1) (lst m k) σ (Own M w0 H) := by
 unfold takeOkL at ht
 simp only [Bool.and_eq_true, beq_iff_eq] at ht
 exact WT.take i hi ht.1.1.1 ht.1.1.2 ht.1.2 ht.2 hQ.ok Own.closed hd (by simpa [Nat.blt_eq] using hn) (hg ▸ GuardIs.none) (fun _ => hq) (fun h => by rw [hT] at h; cases h) kk
theorem WT.o (i k k' : Nat) {m fuel : Nat} (hi : ops[i]? = some oi) (ht : onlyOkL ops i m k k' = true) (hg : oi.guard = none) (hf : freeB T ops oi (lst m k) = true)
  (h : EV P n oi σ (Own M w0 H) (fun a' w' => Has n a' σ ∧ Own M w0 H' w') Q) (kk : WT T P n ops Q (Own M w0 H') fuel (lst m k') σ (Own M w0 H')) : WT T P n ops Q S (fuel + 1) (lst m k) σ (Own M w0 H) := by
 unfold onlyOkL at ht
 simp only [Bool.and_eq_true, beq_iff_eq] at ht
 exact WT.free i hi ht.1 ht.2 hg hf Own.closed h kk
theorem WT.b (hs : ∀ w, Own M w0 H w → Own M w0 H' w) : WK n (fun a' w' => Has n a' σ ∧ Own M w0 H' w') σ (Own M w0 H) := fun a w ha hw => ⟨ha, hs w hw⟩
theorem WT.l (i k k' : Nat) {m fuel : Nat} (hi : ops[i]? = some oi) (ht : lastOkL ops i m k k' = true) (hg : oi.guard = none) (h : EV P n oi σ (Own M w0 H) (Q .normal) Q) : WT T P n ops Q S (fuel + 1) (lst m k) σ (Own M w0 H) := by
 unfold lastOkL at ht
 rw [hi] at ht
 simp only [Bool.and_eq_true, beq_iff_eq] at ht
 exact WT.last i hi ht.1.1 ht.1.2 (by rw [ht.2.2]; exact ht.2.1) hg h
end
section
variable {P : Program} {σ : Env} {C : World → Prop} {d : Option Tmp} {T U z : TypeId} {pos : String} {after : Array Edge} {gd : Option (Nat × Bool)} {x y : Operand} {g g' : Bool} {i j : Int}
end
end Go.Rd
end
section
namespace Go.Proofs.YtaimbkndebaaiabDoor
open Go.Rd
namespace TLib
end TLib
open TLib
def lren : Go.Shelf.Ren := ⟨fun n => match n with | 129 => 40 | 157 => 25 | 171 => 10 | 173 => 31 | 199 => 33 | 229 => 32 | 240 => 21 | 243 => 22 | 246 => 30 | 261 => 38 | 276 => 29 | 283 => 34 | 284 => 35 | 285 => 36 | 286 => 37 | 311 => 44 | 312 => 45 | 317 => 39 | 318 => 41 | 319 => 42 | 320 => 43 | 337 => 46 | 338 => 47 | n => n, fun n => match n with | 31 => 51 | 37 => 32 | 40 => 63 | 46 => 81 | 49 => 87 | 51 => 73 | 53 => 65 | 70 => 31 | 71 => 33 | 72 => 34 | 119 => 61 | 141 => 75 | 152 => 70 | 154 => 72 | 164 => 58 | 171 => 64 | 173 => 68 | 193 => 83 | 194 => 84 | 196 => 86 | 198 => 89 | 201 => 92 | 212 => 78 | 213 => 79 | 226 => 95 | 227 => 96 | 232 => 97 | 233 => 98 | n => n, fun n => match n with | 6 => 1 | 17 => 2 | 18 => 3 | 19 => 4 | n => n⟩
theorem lay_171 : Go.Proofs.LaysM.n171 Tryd.prog lren where
  mixed := by kernel_rfl
  f129 := Tryd.func40.trans (congrArg some (by kernel_rfl))
  f171 := Tryd.func10.trans (congrArg some (by kernel_rfl))
  f243 := Tryd.func22.trans (congrArg some (by kernel_rfl))
  f246 := Tryd.func30.trans (congrArg some (by kernel_rfl))
  f283 := Tryd.func34.trans (congrArg some (by kernel_rfl))
  f284 := Tryd.func35.trans (congrArg some (by kernel_rfl))
  f285 := Tryd.func36.trans (congrArg some (by kernel_rfl))
  f286 := Tryd.func37.trans (congrArg some (by kernel_rfl))
  f317 := Tryd.func39.trans (congrArg some (by kernel_rfl))
  f318 := Tryd.func41.trans (congrArg some (by kernel_rfl))
  f319 := Tryd.func42.trans (congrArg some (by kernel_rfl))
  f320 := Tryd.func43.trans (congrArg some (by kernel_rfl))
  f337 := Tryd.func46.trans (congrArg some (by kernel_rfl))
  f338 := Tryd.func47.trans (congrArg some (by kernel_rfl))
  t0 := Tryd.underlying0
  a0 := Tryd.isAgg0
  z0 := Tryd.sizeOf0
  v0 := Tryd.zeroValue0
  t2 := Tryd.underlying2
  a2 := Tryd.isAgg2
  z2 := Tryd.sizeOf2
  v2 := Tryd.zeroValue2
  t3 := Tryd.underlying3
  a3 := Tryd.isAgg3
  z3 := Tryd.sizeOf3
  v3 := Tryd.zeroValue3
  t4 := Tryd.underlying4
  a4 := Tryd.isAgg4
  z4 := Tryd.sizeOf4
  v4 := Tryd.zeroValue4
  t5 := Tryd.underlying5
  a5 := Tryd.isAgg5
  z5 := Tryd.sizeOf5
  v5 := Tryd.zeroValue5
  t9 := Tryd.underlying9
  a9 := Tryd.isAgg9
  z9 := Tryd.sizeOf9
  v9 := Tryd.zeroValue9
  t20 := Tryd.underlying20
  a20 := Tryd.isAgg20
  z20 := Tryd.sizeOf20
  v20 := Tryd.zeroValue20
  t37 := Tryd.underlying32
  a37 := Tryd.isAgg32
  z37 := Tryd.sizeOf32
  v37 := Tryd.zeroValue32
  t46 := Tryd.underlying81
  a46 := Tryd.isAgg81
  z46 := Tryd.sizeOf81
  v46 := Tryd.zeroValue81
  t51 := Tryd.underlying73
  a51 := Tryd.isAgg73
  z51 := Tryd.sizeOf73
  v51 := Tryd.zeroValue73
  t53 := Tryd.underlying65
  a53 := Tryd.isAgg65
  z53 := Tryd.sizeOf65
  v53 := Tryd.zeroValue65
  t171 := Tryd.underlying64
  a171 := Tryd.isAgg64
  z171 := Tryd.sizeOf64
  v171 := Tryd.zeroValue64
  t173 := Tryd.underlying68
  a173 := Tryd.isAgg68
  z173 := Tryd.sizeOf68
  v173 := Tryd.zeroValue68
  t212 := Tryd.underlying78
  a212 := Tryd.isAgg78
  z212 := Tryd.sizeOf78
  v212 := Tryd.zeroValue78
  t213 := Tryd.underlying79
  a213 := Tryd.isAgg79
  z213 := Tryd.sizeOf79
  t232 := Tryd.underlying97
  a232 := Tryd.isAgg97
  z232 := Tryd.sizeOf97
  v232 := Tryd.zeroValue97
  t233 := Tryd.underlying98
  a233 := Tryd.isAgg98
  z233 := Tryd.sizeOf98
  v233 := Tryd.zeroValue98
  g17 := by kernel_rfl
  g18 := by kernel_rfl
  g19 := by kernel_rfl
  i0 := by kernel_rfl
  i2 := by kernel_rfl
  i3 := by kernel_rfl
  i4 := by kernel_rfl
  i5 := by kernel_rfl
  i9 := by kernel_rfl
  i20 := by kernel_rfl
  i37 := by kernel_rfl
  i46 := by kernel_rfl
  i51 := by kernel_rfl
  i53 := by kernel_rfl
  i171 := by kernel_rfl
  i173 := by kernel_rfl
  i212 := by kernel_rfl
  i232 := by kernel_rfl
  i233 := by kernel_rfl
  m17 := by kernel_rfl
  m18 := by kernel_rfl
  m19 := by kernel_rfl
theorem lay_173 : Go.Proofs.LaysM.n173 Tryd.prog lren where
  mixed := by kernel_rfl
  f129 := lay_171.f129
  f173 := Tryd.func31.trans (congrArg some (by kernel_rfl))
  f246 := lay_171.f246
  f283 := lay_171.f283
  f284 := lay_171.f284
  f285 := lay_171.f285
  f286 := lay_171.f286
  f317 := lay_171.f317
  f318 := lay_171.f318
  f319 := lay_171.f319
  f320 := lay_171.f320
  f337 := lay_171.f337
  f338 := lay_171.f338
  t0 := Tryd.underlying0
  a0 := Tryd.isAgg0
  z0 := Tryd.sizeOf0
  v0 := Tryd.zeroValue0
  t2 := Tryd.underlying2
  a2 := Tryd.isAgg2
  z2 := Tryd.sizeOf2
  v2 := Tryd.zeroValue2
  t3 := Tryd.underlying3
  a3 := Tryd.isAgg3
  z3 := Tryd.sizeOf3
  v3 := Tryd.zeroValue3
  t4 := Tryd.underlying4
  a4 := Tryd.isAgg4
  z4 := Tryd.sizeOf4
  v4 := Tryd.zeroValue4
  t5 := Tryd.underlying5
  a5 := Tryd.isAgg5
  z5 := Tryd.sizeOf5
  v5 := Tryd.zeroValue5
  t9 := Tryd.underlying9
  a9 := Tryd.isAgg9
  z9 := Tryd.sizeOf9
  v9 := Tryd.zeroValue9
  t20 := Tryd.underlying20
  a20 := Tryd.isAgg20
  z20 := Tryd.sizeOf20
  v20 := Tryd.zeroValue20
  t37 := Tryd.underlying32
  a37 := Tryd.isAgg32
  z37 := Tryd.sizeOf32
  v37 := Tryd.zeroValue32
  t46 := Tryd.underlying81
  a46 := Tryd.isAgg81
  z46 := Tryd.sizeOf81
  v46 := Tryd.zeroValue81
  t51 := Tryd.underlying73
  a51 := Tryd.isAgg73
  z51 := Tryd.sizeOf73
  v51 := Tryd.zeroValue73
  t53 := Tryd.underlying65
  a53 := Tryd.isAgg65
  z53 := Tryd.sizeOf65
  v53 := Tryd.zeroValue65
  t171 := Tryd.underlying64
  a171 := Tryd.isAgg64
  z171 := Tryd.sizeOf64
  v171 := Tryd.zeroValue64
  t173 := Tryd.underlying68
  a173 := Tryd.isAgg68
  z173 := Tryd.sizeOf68
  v173 := Tryd.zeroValue68
  t212 := Tryd.underlying78
  a212 := Tryd.isAgg78
  z212 := Tryd.sizeOf78
  v212 := Tryd.zeroValue78
  t213 := Tryd.underlying79
  a213 := Tryd.isAgg79
  z213 := Tryd.sizeOf79
  t232 := Tryd.underlying97
  a232 := Tryd.isAgg97
  z232 := Tryd.sizeOf97
  v232 := Tryd.zeroValue97
  t233 := Tryd.underlying98
  a233 := Tryd.isAgg98
  z233 := Tryd.sizeOf98
  v233 := Tryd.zeroValue98
  g17 := by kernel_rfl
  g18 := by kernel_rfl
  g19 := by kernel_rfl
  i0 := by kernel_rfl
  i2 := by kernel_rfl
  i3 := by kernel_rfl
  i4 := by kernel_rfl
  i5 := by kernel_rfl
  i9 := by kernel_rfl
  i20 := by kernel_rfl
  i37 := by kernel_rfl
  i46 := by kernel_rfl
  i51 := by kernel_rfl
  i53 := by kernel_rfl
  i171 := by kernel_rfl
  i173 := by kernel_rfl
  i212 := by kernel_rfl
  i232 := by kernel_rfl
  i233 := by kernel_rfl
  m17 := by kernel_rfl
  m18 := by kernel_rfl
  m19 := by kernel_rfl
theorem lay_157 : Go.Proofs.Lays.n157 Tryd.prog lren where
  mixed := by kernel_rfl
  f157 := Tryd.func25.trans (congrArg some (by kernel_rfl))
  f199 := Tryd.func33.trans (congrArg some (by kernel_rfl))
  f229 := Tryd.func32.trans (congrArg some (by kernel_rfl))
  f261 := Tryd.func38.trans (congrArg some (by kernel_rfl))
  f311 := Tryd.func44.trans (congrArg some (by kernel_rfl))
  f312 := Tryd.func45.trans (congrArg some (by kernel_rfl))
  t0 := Tryd.underlying0
  a0 := Tryd.isAgg0
  z0 := Tryd.sizeOf0
  v0 := Tryd.zeroValue0
  t3 := Tryd.underlying3
  a3 := Tryd.isAgg3
  z3 := Tryd.sizeOf3
  v3 := Tryd.zeroValue3
  t4 := Tryd.underlying4
  a4 := Tryd.isAgg4
  z4 := Tryd.sizeOf4
  v4 := Tryd.zeroValue4
  t5 := Tryd.underlying5
  a5 := Tryd.isAgg5
  z5 := Tryd.sizeOf5
  v5 := Tryd.zeroValue5
  t9 := Tryd.underlying9
  a9 := Tryd.isAgg9
  z9 := Tryd.sizeOf9
  v9 := Tryd.zeroValue9
  t21 := Tryd.underlying21
  a21 := Tryd.isAgg21
  z21 := Tryd.sizeOf21
  v21 := Tryd.zeroValue21
  t31 := Tryd.underlying51
  a31 := Tryd.isAgg51
  z31 := Tryd.sizeOf51
  v31 := Tryd.zeroValue51
  t40 := Tryd.underlying63
  a40 := Tryd.isAgg63
  z40 := Tryd.sizeOf63
  v40 := Tryd.zeroValue63
  t46 := Tryd.underlying81
  a46 := Tryd.isAgg81
  z46 := Tryd.sizeOf81
  v46 := Tryd.zeroValue81
  t49 := Tryd.underlying87
  a49 := Tryd.isAgg87
  z49 := Tryd.sizeOf87
  v49 := Tryd.zeroValue87
  t51 := Tryd.underlying73
  a51 := Tryd.isAgg73
  z51 := Tryd.sizeOf73
  v51 := Tryd.zeroValue73
  t119 := Tryd.underlying61
  a119 := Tryd.isAgg61
  z119 := Tryd.sizeOf61
  t141 := Tryd.underlying75
  a141 := Tryd.isAgg75
  z141 := Tryd.sizeOf75
  v141 := Tryd.zeroValue75
  t152 := Tryd.underlying70
  a152 := Tryd.isAgg70
  z152 := Tryd.sizeOf70
  v152 := Tryd.zeroValue70
  t154 := Tryd.underlying72
  a154 := Tryd.isAgg72
  z154 := Tryd.sizeOf72
  v154 := Tryd.zeroValue72
  t193 := Tryd.underlying83
  a193 := Tryd.isAgg83
  z193 := Tryd.sizeOf83
  v193 := Tryd.zeroValue83
  t194 := Tryd.underlying84
  a194 := Tryd.isAgg84
  z194 := Tryd.sizeOf84
  v194 := Tryd.zeroValue84
  t196 := Tryd.underlying86
  a196 := Tryd.isAgg86
  z196 := Tryd.sizeOf86
  v196 := Tryd.zeroValue86
  t198 := Tryd.underlying89
  a198 := Tryd.isAgg89
  z198 := Tryd.sizeOf89
  v198 := Tryd.zeroValue89
  t201 := Tryd.underlying92
  a201 := Tryd.isAgg92
  z201 := Tryd.sizeOf92
  v201 := Tryd.zeroValue92
  t226 := Tryd.underlying95
  a226 := Tryd.isAgg95
  z226 := Tryd.sizeOf95
  v226 := Tryd.zeroValue95
  t227 := Tryd.underlying96
  a227 := Tryd.isAgg96
  z227 := Tryd.sizeOf96
  v227 := Tryd.zeroValue96
  g0 := by kernel_rfl
  g6 := by kernel_rfl
theorem lay_240 : Go.Proofs.Lays.n240 Tryd.prog lren where
  mixed := by kernel_rfl
  f240 := Tryd.func21.trans (congrArg some (by kernel_rfl))
  f276 := Tryd.func29.trans (congrArg some (by kernel_rfl))
  t0 := Tryd.underlying0
  a0 := Tryd.isAgg0
  z0 := Tryd.sizeOf0
  v0 := Tryd.zeroValue0
  t4 := Tryd.underlying4
  a4 := Tryd.isAgg4
  z4 := Tryd.sizeOf4
  v4 := Tryd.zeroValue4
  t9 := Tryd.underlying9
  a9 := Tryd.isAgg9
  z9 := Tryd.sizeOf9
  v9 := Tryd.zeroValue9
  t20 := Tryd.underlying20
  a20 := Tryd.isAgg20
  z20 := Tryd.sizeOf20
  v20 := Tryd.zeroValue20
  t70 := Tryd.underlying31
  a70 := Tryd.isAgg31
  z70 := Tryd.sizeOf31
  v70 := Tryd.zeroValue31
  t72 := Tryd.underlying34
  a72 := Tryd.isAgg34
  z72 := Tryd.sizeOf34
  v72 := Tryd.zeroValue34
  t164 := Tryd.underlying58
  a164 := Tryd.isAgg58
  z164 := Tryd.sizeOf58
  v164 := Tryd.zeroValue58
theorem Itoa_w {n : Int} {r : List UInt8} (w : World) (hm : Itoa_m n = some r) (hg : Glb Tryd.prog w) : Calls Tryd.prog 10 #[.int .i64 n] w (fun e w' => e = .returned (strV r) ∧ Grow w w') := itoa_own lay_171 w hm hg
theorem FormatInt_w {n b : Int} {r : List UInt8} (w : World) (hm : FormatInt_m n b = some r) (hg : Glb Tryd.prog w) : Calls Tryd.prog 31 #[.int .i64 n, .int .i64 b] w (fun e w' => e = .returned (strV r) ∧ Grow w w') := fmtInt_own lay_173 w hm hg
theorem Fields_w {s : List UInt8} {r : List (List UInt8)} {K0 : World} (hm : Fields_m s = some r) (M : Nat → Prop) (w : World) (hG : GlbM Tryd.prog M w) (hk : Base M K0 w) (hw0 : Own M w [] w) : Calls Tryd.prog 25 #[strV s] w (fun e w' => ∃ X : Value × World, e = .returned (X.1) ∧ Own M w (kn M w.heap.size K0 X.2 :: []) w' ∧ Arr X.2 X.1 1 (r.map scell)) := fields_own lay_157 (by kernel_rfl) (by kernel_rfl) hm M w hG hk hw0
theorem copyCheck_w {v_b_buf : Value} {b_b : Nat} {b_addr : Bool} {b_buf : List UInt8} {r : Bool} {K0 : World} (hm : copyCheck_m b_addr b_buf = some r) (h_b_buf : SliceLen v_b_buf b_buf.length) (M : Nat → Prop) (w : World) (hk : Base M K0 w) (hw0 : Own M w [blk b_b [selfV b_addr b_b, v_b_buf] 34, vec v_b_buf 5 1 (b_buf.map bcell)] w) : Calls Tryd.prog 21 #[.pointer (some ⟨b_b, 0, none⟩)] w (fun e w' => ∃ X : World, e = .returned (.tuple #[]) ∧ Own M w (kn M w.heap.size K0 X :: [blk b_b [selfV r b_b, v_b_buf] 34, vec v_b_buf 5 1 (b_buf.map bcell)]) w' ∧ True) := copyCheck_own lay_240 ⟨by kernel_rfl, by kernel_rfl⟩ hm h_b_buf M w hk hw0
end Go.Proofs.YtaimbkndebaaiabDoor
end
section
namespace Go.Proofs.YtaimbkndebaaiabDoor
open Go.Rd
open TLib
namespace TBld
theorem byt32_9 : ByteT Tryd.prog 32 9 5 := ⟨Tryd.underlying32, Tryd.underlying9, by kernel_rfl⟩
theorem en21 : Go.Rd.Enters Tryd.prog 21 := eT Tryd.func21
theorem fd34_1 : FieldT Tryd.prog 34 1 1 := fT 0 Tryd.underlying34
theorem pl32 : Plain Tryd.prog 32 := ⟨_, Tryd.underlying32, rfl⟩
theorem sz32 : SizeT Tryd.prog 32 1 := by unfold SizeT; kernel_rfl
end TBld
open TBld
theorem strings_Builder_WriteString_w {v_b_buf : Value} {b_b : Nat} {b_addr : Bool} {b_buf s : List UInt8} {r : Int × Unit × Bool × List UInt8} {K0 : World} (hm : strings_Builder_WriteString_m b_addr b_buf s = some r) (h_b_buf : SliceLen v_b_buf b_buf.length) (M : Nat → Prop) (w : World) (hk : Base M K0 w) (hw0 : Own M w [blk b_b [selfV b_addr b_b, v_b_buf] 34, vec v_b_buf 5 1 (List.map bcell b_buf)] w) : Calls Tryd.prog 9 #[.pointer (some (⟨b_b, 0, none⟩)), strV s] w (fun e w' => ∃ X : Value × World, e = .returned (.tuple #[.int .i64 r.1, .nilIface]) ∧ Own M w (kn M w.heap.size K0 X.2 :: [blk b_b [selfV r.2.2.1 b_b, X.1] 34, vec X.1 5 1 (List.map bcell r.2.2.2)]) w' ∧ SliceLen X.1 (r.2.2.2).length) := by
 unfold strings_Builder_WriteString_m at hm
 refine calls_of_WC (n := 19) (args := [.pointer (some (⟨b_b, 0, none⟩)), strV s]) Tryd.func9 Z Z (nl Z) ?_ (Own.startK hk hw0)
 refine sr (wa Z (wa Z (ns (wm Z (WL.effect Z ?_)))))
 obtain ⟨x1, hx2, hm3⟩ := bd_some hm; clear hm
 refine (EV.callR (X := World) (R := [blk b_b [selfV b_addr b_b, v_b_buf] 34, vec v_b_buf 5 1 (List.map bcell b_buf)]) (fun X => .tuple #[]) (fun X => [blk b_b [selfV x1 b_b, v_b_buf] 34, vec v_b_buf 5 1 (List.map bcell b_buf)]) (fun X => X) (fun X => True) hk (fun _ h => by cases h; decide) en21 (ec Z eN) (fun M w h1 h2 => have h := copyCheck_w hx2 h_b_buf M w h1 h2; h) (fun X4 hF4 hle4 => ?_))
 refine ns (wm Z (wm Z (wq Z (QV.nilCheck Z Z) (wf fd34_1 Z (wl pl32 Z (Own.cell 1 Z Z) (wm Z (WL.effect Z ?_)))))))
 obtain ⟨c5, hm6⟩ := cs hm3; clear hm3
 refine (EV.appendStr (xs := b_buf) (l := s) 2 (by decide) byt32_9 Z Z Z Z Z c5 (fun u7 hu8 => ?_))
 refine wq Z (QV.nilCheck Z Z) (wf fd34_1 Z (WL.effect Z ?_))
 refine (EV.store 1 Z Z Z Z Z Z (vs := [u7]) (SliceLen.cells hu8) sz32 (nl Z) (oc (SliceLen.one hu8) one_nil) ?_)
 refine ns (wm Z (wq Z (QV.lenStr Tryd.underlying9 Z Z) (wa Z (wa Z (nt (WC.ret ?_))))))
 obtain rfl := (eq_of_some hm6).symm
 refine WQ.ret2 Z Z Z (fun w hw => ?_)
 exact ⟨(u7, X4), Z, hw.pick [0, 1, 2] (by decide), hu8⟩
theorem strings_Builder_String_w {v_b_buf : Value} {b_b : Nat} {b_addr : Bool} {b_buf r : List UInt8} {K0 : World} (hm : strings_Builder_String_m b_addr b_buf = some r) (h_b_buf : SliceLen v_b_buf b_buf.length) (M : Nat → Prop) (w : World) (hk : Base M K0 w) (hw0 : Own M w [blk b_b [selfV b_addr b_b, v_b_buf] 34, vec v_b_buf 5 1 (List.map bcell b_buf)] w) : Calls Tryd.prog 12 #[.pointer (some (⟨b_b, 0, none⟩))] w (fun e w' => ∃ X : World, e = .returned (strV r) ∧ Own M w (kn M w.heap.size K0 X :: []) w' ∧ True) := by
 unfold strings_Builder_String_m at hm
 refine calls_of_WC (n := 14) (args := [.pointer (some (⟨b_b, 0, none⟩))]) Tryd.func12 Z Z (nl Z) ?_ (Own.startK hk hw0)
 refine sr (wa Z (nt (WC.seq (WC.dr (m := 12) (S := Own M w [kn M w.heap.size K0 K0, blk b_b [selfV b_addr b_b, v_b_buf] 34]) (by kernel_rfl) (by kernel_rfl) (pk [0, 1]) (zm 0 Z Z (wz 1 Z Z (QV.nilCheck Z Z) (zf 2 fd34_1 Z Z (zl 3 pl32 Z Z (Own.cell 1 Z Z) ?_))))))))
 obtain ⟨c1, hm2⟩ := cs hm; clear hm
 refine wz 4 Z Z (QV.sliceData (l := b_buf) Z Z h_b_buf c1) (zm 5 Z Z (wz 6 Z Z (QV.nilCheck Z Z) (zf 7 fd34_1 Z Z (zl 8 pl32 Z Z (Own.cell 1 Z Z) (wz 9 Z Z (QV.lenS Tryd.underlying32 Z Z h_b_buf) ?_)))))
 refine WD.o 10 Z (by kernel_rfl) Z ?_
 refine (EV.unsafeStr (l := b_buf) 2 (by decide) Tryd.underlying54 (by kernel_rfl) Z c1 Z Z Z Z ?_)
 refine WD.b (H' := [kn M w.heap.size K0 K0, blk b_b [selfV b_addr b_b, v_b_buf] 34, gone]) (pk [0, 1, 2]) (pk [0, 1]) ?_
 refine wz 11 Z Z (QV.assign Z Z) ?_
 refine WD.e (by kernel_rfl) ?_
 refine WQ.then (WC.ret ?_)
 obtain rfl := (eq_of_some hm2).symm
 refine WQ.ret1 Z Z (fun w hw => ?_)
 exact ⟨K0, Z, hw.pick [0] (by decide), trivial⟩
end Go.Proofs.YtaimbkndebaaiabDoor
end
section
namespace Go.Proofs.YtaimbkndebaaiabDoor
open Go.Rd
open TLib TBld
namespace TNum
end TNum
open TNum
end Go.Proofs.YtaimbkndebaaiabDoor
end
section
namespace Go.Proofs.YtaimbkndebaaiabDoor
open Go.Rd
open TLib TBld TNum
namespace TLoop
theorem ag25 : AggT Tryd.prog 25 3 := ⟨_, Tryd.underlying25, rfl, by kernel_rfl⟩
theorem ag42 : AggT Tryd.prog 42 2 := ⟨_, Tryd.underlying42, rfl, by kernel_rfl⟩
theorem ag44 : AggT Tryd.prog 44 9 := ⟨_, Tryd.underlying44, rfl, by kernel_rfl⟩
theorem en13 : Go.Rd.Enters Tryd.prog 13 := eT Tryd.func13
theorem en14 : Go.Rd.Enters Tryd.prog 14 := eT Tryd.func14
theorem en19 : Go.Rd.Enters Tryd.prog 19 := eT Tryd.func19
theorem en20 : Go.Rd.Enters Tryd.prog 20 := eT Tryd.func20
theorem en26 : Go.Rd.Enters Tryd.prog 26 := eT Tryd.func26
theorem en27 : Go.Rd.Enters Tryd.prog 27 := eT Tryd.func27
theorem en28 : Go.Rd.Enters Tryd.prog 28 := eT Tryd.func28
theorem eq42 : EqT Tryd.prog 42 2 := ⟨by kernel_rfl, ⟨_, Tryd.underlying42⟩, by kernel_rfl, by kernel_rfl⟩
theorem fd25_0 : FieldT Tryd.prog 25 0 0 := fT 0 Tryd.underlying25
theorem fd25_1 : FieldT Tryd.prog 25 1 1 := fT 0 Tryd.underlying25
theorem fd25_2 : FieldT Tryd.prog 25 2 2 := fT 0 Tryd.underlying25
theorem fd42_0 : FieldT Tryd.prog 42 0 0 := fT 0 Tryd.underlying42
theorem fd42_1 : FieldT Tryd.prog 42 1 1 := fT 0 Tryd.underlying42
theorem fd44_0 : FieldT Tryd.prog 44 0 0 := fT 0 Tryd.underlying44
theorem fd44_1 : FieldT Tryd.prog 44 1 1 := fT 1 Tryd.underlying44
theorem fd44_2 : FieldT Tryd.prog 44 2 3 := fT 1 Tryd.underlying44
theorem fd44_3 : FieldT Tryd.prog 44 3 5 := fT 0 Tryd.underlying44
theorem fd44_4 : FieldT Tryd.prog 44 4 6 := fT 0 Tryd.underlying44
theorem fd44_5 : FieldT Tryd.prog 44 5 7 := fT 0 Tryd.underlying44
theorem fd44_6 : FieldT Tryd.prog 44 6 8 := fT 0 Tryd.underlying44
theorem pl2 : Plain Tryd.prog 2 := ⟨_, Tryd.underlying2, rfl⟩
theorem pl22 : Plain Tryd.prog 22 := ⟨_, Tryd.underlying22, rfl⟩
theorem pl23 : Plain Tryd.prog 23 := ⟨_, Tryd.underlying23, rfl⟩
theorem pl3 : Plain Tryd.prog 3 := ⟨_, Tryd.underlying3, rfl⟩
theorem sl22 : SliceT Tryd.prog 22 3 1 := ⟨Tryd.underlying22, by kernel_rfl⟩
theorem sl23 : SliceT Tryd.prog 23 44 9 := ⟨Tryd.underlying23, by kernel_rfl⟩
theorem sl55 : SliceT Tryd.prog 55 42 2 := ⟨Tryd.underlying55, by kernel_rfl⟩
theorem sz42 : SizeT Tryd.prog 42 2 := by unfold SizeT; kernel_rfl
theorem sz44 : SizeT Tryd.prog 44 9 := by unfold SizeT; kernel_rfl
theorem sz_55 : SliceZ Tryd.prog 55 42 2 [.int .i64 0, .int .i64 0] := ⟨Tryd.underlying55, by kernel_rfl⟩
theorem ze42 : ZeroT Tryd.prog 42 [.int .i64 0, .int .i64 0] := by unfold ZeroT; kernel_rfl
theorem ze44 : ZeroT Tryd.prog 44 [.int .i64 0, .int .i64 0, .int .i64 0, .int .i64 0, .int .i64 0, .int .i64 0, .int .i64 0, .int .i64 0, .int .i64 0] := by unfold ZeroT; kernel_rfl
end TLoop
open TLoop
theorem loop_in_w {n_ from_ below : Int} {r : Bool} (w : World) (hm : loop_in_m n_ from_ below = some r)  : Calls Tryd.prog 19 #[.int .i64 n_, .int .i64 from_, .int .i64 below] w (fun e w' => e = .returned (.bool r) ∧ Grow w w') := by
 unfold loop_in_m at hm
 have hk := Base.rfl (w := w)
 refine calls_of_WC (n := 15) (args := [i_ n_, i_ from_, i_ below]) Tryd.func19 Z Z (nl Z) ?_ (Own.startK hk (Own.start w))
 refine sr (wa Z (ns (wm Z (wm Z (wq Z (QV.geq Z Z Z Z) (wm Z (gp Z (fun hG => QV.move Z Z) (gp Z (fun hG => QV.move Z Z) (gp Z (fun hG => QV.lss Z hG Z hG) ?_)))))))))
 refine wq Z (QV.pickAnd Z Z Z (fun h => h)) (wa Z (nt (WC.ret ?_)))
 obtain rfl := (eq_of_some hm).symm
 exact WQ.ret1 Z Z fun w hw => kg hw
theorem loop_Uses_w {s : Stm} {r : List Rf} {K0 : World} (hm : loop_Uses_m s = some r)  (M : Nat → Prop) (w : World) (hk : Base M K0 w) (hw0 : Own M w [] w) : Calls Tryd.prog 27 #[.agg #[.int .i64 s.op, .int .i64 s.a.st, .int .i64 s.a.bk, .int .i64 s.b.st, .int .i64 s.b.bk, .int .i64 s.ar, .int .i64 s.sp, .int .i64 s.pl, .int .i64 s.n]] w (fun e w' => ∃ X : Value × World, e = .returned (X.1) ∧ Own M w (kn M w.heap.size K0 X.2 :: []) w' ∧ Arr X.2 X.1 2 (r.map Rf.cells)) := by
 unfold loop_Uses_m at hm
 refine calls_of_WC (n := 19) (args := [.agg #[i_ s.op, i_ s.a.st, i_ s.a.bk, i_ s.b.st, i_ s.b.bk, i_ s.ar, i_ s.sp, i_ s.pl, i_ s.n]]) Tryd.func27 Z Z (nl Z) ?_ (Own.startK hk hw0)
 refine sr (WL.effect Z ?_)
 refine (EV.boxAgg (by decide) Z Z (fun b1 => ?_))
 refine wa Z (nt (WC.seq (WC.block (sr (wf fd44_0 Z (wl pl3 Z (Own.cell 0 Z Z) (wq Z (QV.eql Z Z Z Z) (wa Z (nt ?_)))))))))
 refine wc Z hm (fun h2 hm3 => ?_) (fun h2 hm6 => ?_) <;> clear hm
 ·skip
  refine sr (wf fd44_1 Z (wq Z (QV.loadAgg ag42 Z Z Z (fun w hw => (Own.cellsBlk 0 Z w hw).sub 1 2 Z)) (WL.effect Z ?_)))
  refine (EV.buildSlice (by decide) sz_55 (by decide) (by decide) (ps := [(0, .tmp 8)]) (cells := [i_ s.a.st, i_ s.a.bk]) (ec Z eN) (by kernel_rfl) (fun b4 => ?_))
  refine wa Z (nt (WC.ret (kr (tr ?_))))
  obtain rfl := (eq_of_some hm3).symm
  refine WK.of (fun w hw => hw.blkVec Rf.cells ([s.a] : List Rf) Z Rf.cells_len (nl Z)) ?_
  refine WK.of (C' := Own M w [kn M w.heap.size K0 K0, vec (blkSlice b4 1 1) 42 2 (List.map Rf.cells [s.a]), blk b1 s.cells 44]) (pk [2, 0, 1]) ?_
  refine WK.freeze hk (fun k5 hle5 hr5 => ?_)
  have hA5 := vec_arr hr5
  refine WQ.ret1 Z Z (fun w hw => ?_)
  exact ⟨((blkSlice b4 1 1), k5), Z, hw.pick [0] (by decide), hA5⟩
 refine sr (wf fd44_0 Z (wl pl3 Z (Own.cell 0 Z Z) (wq Z (QV.gtr Z Z Z Z) (wa Z (nt ?_)))))
 refine wc Z hm6 (fun h7 hm8 => ?_) (fun h7 hm11 => ?_) <;> clear hm6
 ·skip
  refine sr (wf fd44_1 Z (wq Z (QV.loadAgg ag42 Z Z Z (fun w hw => (Own.cellsBlk 0 Z w hw).sub 1 2 Z)) (wf fd44_2 Z (wq Z (QV.loadAgg ag42 Z Z Z (fun w hw => (Own.cellsBlk 0 Z w hw).sub 3 2 Z)) (WL.effect Z ?_)))))
  refine (EV.buildSlice (by decide) sz_55 (by decide) (by decide) (ps := [(0, .tmp 15), (1, .tmp 17)]) (cells := [i_ s.a.st, i_ s.a.bk, i_ s.b.st, i_ s.b.bk]) (ec Z (ec Z eN)) (by kernel_rfl) (fun b9 => ?_))
  refine wa Z (nt (WC.ret (kr (tr ?_))))
  obtain rfl := (eq_of_some hm8).symm
  refine WK.of (fun w hw => hw.blkVec Rf.cells ([s.a, s.b] : List Rf) Z Rf.cells_len (nl Z)) ?_
  refine WK.of (C' := Own M w [kn M w.heap.size K0 K0, vec (blkSlice b9 2 2) 42 2 (List.map Rf.cells [s.a, s.b]), blk b1 s.cells 44]) (pk [2, 0, 1]) ?_
  refine WK.freeze hk (fun k10 hle10 hr10 => ?_)
  have hA10 := vec_arr hr10
  refine WQ.ret1 Z Z (fun w hw => ?_)
  exact ⟨((blkSlice b9 2 2), k10), Z, hw.pick [0] (by decide), hA10⟩
 refine sk (WQ.block (WQ.then (sr (wa Z (nt (WC.ret ?_))))))
 obtain rfl := (eq_of_some hm11).symm
 refine WQ.ret1 Z Z (fun w hw => ?_)
 exact ⟨(.slice none 0 0, K0), Z, hw.pick [1] (by decide), Arr.nil⟩
theorem loop_ref_w {v_l_logs v_l_body v_l_outs : Value} {l : Lp} {k_ : Int} {r_ : Rf} {r : Bool} (w : World) (hm : loop_ref_m l k_ r_ = some r) (h_l_logs : Arr w v_l_logs 1 (l.logs.map icell)) (h_l_body : Arr w v_l_body 9 (l.body.map Stm.cells)) (h_l_outs : Arr w v_l_outs 1 (l.outs.map icell)) : Calls Tryd.prog 28 #[.agg #[v_l_logs, v_l_body, v_l_outs], .int .i64 k_, .agg #[.int .i64 r_.st, .int .i64 r_.bk]] w (fun e w' => e = .returned (.bool r) ∧ Grow w w') := by
 unfold loop_ref_m at hm
 have hk := Base.rfl (w := w)
 refine calls_of_WC (n := 24) (args := [.agg #[v_l_logs, v_l_body, v_l_outs], i_ k_, .agg #[i_ r_.st, i_ r_.bk]]) Tryd.func28 Z Z (nl Z) ?_ (Own.startK hk (Own.start w))
 refine sr (WL.effect Z ?_)
 refine (EV.boxAgg (by decide) Z Z (fun b1 => ?_))
 refine WL.effect Z ?_
 refine (EV.boxAgg (by decide) Z Z (fun b2 => ?_))
 refine wa Z (ns (wf fd25_1 Z (wl pl23 Z (Own.cell 1 Z Z) (wq Z (QV.lenS Tryd.underlying23 Z Z h_l_body.lenMap) (wa Z (nt (WC.seq (sr (wf fd42_1 Z (wl pl3 Z (Own.cell 0 Z Z) (wq Z (QV.eql Z Z Z Z) ?_)))))))))))
 refine nt ?_
 refine wc Z hm (fun h3 hm4 => ?_) (fun h3 hm11 => ?_) <;> clear hm
 ·skip
  refine WC.region (wm Z (wa Z (ns (wf fd42_1 Z (wl pl3 Z (Own.cell 0 Z Z) ?_)))))
  obtain ⟨x5, hx6, hm7⟩ := bd_some hm4; clear hm4
  refine wq Z (QV.call en19 (ec Z (ec Z (ec Z eN))) (fun w hw => have h := loop_in_w w hx6 ; h)) (wm Z (gp Z (fun hG => QV.fieldAddr fd42_0 Z Z) (gp Z (fun hG => QV.load pl3 Z hG (Own.cell 0 Z Z)) (gp Z (fun hG => QV.move Z Z) ?_))))
  obtain ⟨x8, hx9, hm10⟩ := bdG_some hm7; clear hm7
  refine gp Z (fun hG => QV.call en19 (EvAll.cons Z hG (ec Z (EvAll.cons Z hG eN))) (fun w hw => have h := loop_in_w w (hx9 hG) ; h)) (wq Z (QV.pickAnd Z Z Z (fun h => h)) (wa Z (nt (WC.ret ?_))))
  obtain rfl := (eq_of_some hm10).symm
  exact WQ.ret1 Z Z fun w hw => kg hw
 refine sk (WQ.then (sr (wf fd42_1 Z (wl pl3 Z (Own.cell 0 Z Z) ?_))))
 obtain ⟨x12, hx13, hm14⟩ := bd_some hm11; clear hm11
 refine wq Z (QV.call en19 (ec Z (ec Z (ec Z eN))) (fun w hw => have h := loop_in_w w hx13 ; h)) (wm Z (gp Z (fun hG => QV.fieldAddr fd42_0 Z Z) (gp Z (fun hG => QV.load pl3 Z hG (Own.cell 0 Z Z)) (gp Z (fun hG => QV.move Z Z) ?_))))
 obtain ⟨x15, hx16, hm17⟩ := bdG_some hm14; clear hm14
 refine gp Z (fun hG => QV.call en19 (EvAll.cons Z hG (ec Z (EvAll.cons Z hG eN))) (fun w hw => have h := loop_in_w w (hx16 hG) ; h)) (wq Z (QV.pickAnd Z Z Z (fun h => h)) (wa Z (nt (WC.ret ?_))))
 obtain rfl := (eq_of_some hm17).symm
 exact WQ.ret1 Z Z fun w hw => kg hw
theorem loop_stmt_w {v_l_logs v_l_body v_l_outs : Value} {l : Lp} {k_ : Int} {r : Bool} (w : World) (hm : loop_stmt_m l k_ = some r) (h_l_logs : Arr w v_l_logs 1 (l.logs.map icell)) (h_l_body : Arr w v_l_body 9 (l.body.map Stm.cells)) (h_l_outs : Arr w v_l_outs 1 (l.outs.map icell)) : Calls Tryd.prog 20 #[.agg #[v_l_logs, v_l_body, v_l_outs], .int .i64 k_] w (fun e w' => e = .returned (.bool r) ∧ Grow w w') := by
 unfold loop_stmt_m at hm
 have hk := Base.rfl (w := w)
 refine calls_of_WC (n := 132) (args := [.agg #[v_l_logs, v_l_body, v_l_outs], i_ k_]) Tryd.func20 Z Z (nl Z) ?_ (Own.startK hk (Own.start w))
 refine sr (WL.effect Z ?_)
 refine (EV.boxAgg (by decide) Z Z (fun b1 => ?_))
 refine wa Z (ns (wf fd25_1 Z (wl pl23 Z (Own.cell 0 Z Z) (wm Z ?_))))
 obtain ⟨c2, hm3⟩ := cs hm; clear hm
 obtain ⟨p4, hp5⟩ := h_l_body.lenMap.ix (sz := 9) ln_len c2
 refine wq Z (QV.indexSlice sl23 Z Z Z Z hp5) (wq Z (QV.loadAgg ag44 Z Z Z (fun w hw => ((Own.karr 1 Z hk h_l_body) w hw).ele hp5 c2)) (WL.effect Z ?_))
 refine (EV.alloc (by decide) ze44 (fun b6 => ?_))
 refine WL.effect Z ?_
 refine (EV.store 0 Z Z Z Z Z Z (vs := (Stm.cells (ele l.body k_))) (show Value.cells _ = List.toArray _ from Z) sz44 (nl Z) (oc Z (oc Z (oc Z (oc Z (oc Z (oc Z (oc Z (oc Z (oc Z one_nil))))))))) ?_)
 refine ns (wq Z (QV.build (ps := []) (cells := [i_ 0, i_ 0]) eN (by kernel_rfl)) (WL.effect Z ?_))
 refine (EV.alloc (by decide) ze42 (fun b7 => ?_))
 refine WL.effect Z ?_
 refine (EV.store 0 Z Z Z Z Z Z (vs := [i_ 0, i_ 0]) (show Value.cells _ = List.toArray _ from Z) sz42 (nl Z) (oc Z (oc Z one_nil)) ?_)
 refine ns (wf fd44_3 Z (wl pl3 Z (Own.cell 1 Z Z) (wf fd25_0 Z (wl pl22 Z (Own.cell 2 Z Z) (wq Z (QV.lenS Tryd.underlying22 Z Z h_l_logs.lenMap) ?_)))))
 obtain ⟨x8, hx9, hm10⟩ := bd_some hm3; clear hm3
 refine wq Z (QV.call en19 (ec Z (ec Z (ec Z eN))) (fun w hw => have h := loop_in_w w hx9 ; h)) (wm Z (gp Z (fun hG => QV.fieldAddr fd44_4 Z Z) (gp Z (fun hG => QV.load pl3 Z hG (Own.cell 1 Z Z)) ?_)))
 obtain ⟨x11, hx12, hm13⟩ := bdG_some hm10; clear hm10
 refine gp Z (fun hG => QV.call en19 (EvAll.cons Z hG (ec Z (ec Z eN))) (fun w hw => have h := loop_in_w w (hx12 hG) ; h)) (wq Z (QV.pickAnd Z Z Z (fun h => h)) (wm Z (gp Z (fun hG => QV.fieldAddr fd44_5 Z Z) (gp Z (fun hG => QV.load pl3 Z hG (Own.cell 1 Z Z)) ?_))))
 obtain ⟨x14, hx15, hm16⟩ := bdG_some hm13; clear hm13
 refine gp Z (fun hG => QV.call en19 (EvAll.cons Z hG (ec Z (ec Z eN))) (fun w hw => have h := loop_in_w w (hx15 hG) ; h)) (wq Z (QV.pickAnd Z Z Z (fun h => h)) (wa Z (ns (wf fd44_3 Z (wl pl3 Z (Own.cell 1 Z Z) (wq Z (QV.eql Z Z Z Z) (wm Z (gp Z (fun hG => QV.fieldAddr fd44_4 Z Z) (gp Z (fun hG => QV.load pl3 Z hG (Own.cell 1 Z Z)) ?_)))))))))
 refine gp Z (fun hG => QV.eql Z hG Z Z) (wq Z (QV.pickAnd Z Z Z (fun h => h)) (wm Z (gp Z (fun hG => QV.fieldAddr fd44_5 Z Z) (gp Z (fun hG => QV.load pl3 Z hG (Own.cell 1 Z Z)) (gp Z (fun hG => QV.eql Z hG Z Z) (wq Z (QV.pickAnd Z Z Z (fun h => h)) (wa Z (nt (WC.seq (sr (wq Z (QV.loadAgg ag44 Z Z Z (Own.cellsBlk 1 Z)) ?_)))))))))))
 refine WL.effect Z ?_
 obtain ⟨x17, hx18, hm19⟩ := bd_some hm16; clear hm16
 refine EV.of (C' := Own noM w [kn noM w.heap.size w w, blk b7 [i_ 0, i_ 0] 42, blk b6 (Stm.cells (ele l.body k_)) 44, blk b1 [v_l_logs, v_l_body, v_l_outs] 25]) (pk [3, 0, 1, 2]) ?_
 refine (EV.callR (X := Value × World) (R := []) (fun X => X.1) (fun X => []) (fun X => X.2) (fun X => Arr X.2 X.1 2 (x17.map Rf.cells)) hk (fun _ h => by cases h; decide) en27 (ec Z eN) (fun M w h1 h2 => have h := loop_Uses_w hx18  M w h1 h2; h) (fun X20 hF20 hle20 => ?_))
 refine wq Z (QV.lenS Tryd.underlying55 Z Z hF20.lenMap) (wm Z (nt ?_))
 obtain ⟨o21, ho22, hm23⟩ := bd_some hm19; clear hm19; obtain ⟨n24, ho25⟩ := lp_some ho22
 refine WC.bloop1 (H2 := [kn noM w.heap.size w X20.2, blk b7 [i_ 0, i_ 0] 42, blk b6 (Stm.cells (ele l.body k_)) 44, blk b1 [v_l_logs, v_l_body, v_l_outs] 25]) (τ := [u_ 1 _, u_ 2 _, u_ 5 _, u_ 6 _, u_ 7 _, u_ 8 _, u_ 47 _, u_ 48 _]) (fun (x49_1 : Int) => [(49, (true, i_ x49_1))]) (fun x49_1 => []) (fun x49_1 m => iter (loop_stmt_L0 l k_ x17) m x49_1 = some o21) (fun x49_1 => o21 = .go x49_1) 0 n24 ho25 ⟨Z, Z, Z, Z, Z, Z, Z, Z, Z, trivial⟩ (pk [0, 1, 2, 3]) ?_ ?_
 ·skip
  rintro x49_1 rfl
  refine WQ.then (WC.seq (WC.block (sr (wf fd44_0 Z (wl pl3 Z (Own.cell 2 Z Z) (wq Z (QV.eql Z Z Z Z) (wa Z (nt ?_))))))))
  refine wc Z hm23 (fun h26 hm27 => ?_) (fun h26 hm28 => ?_) <;> clear hm23
  ·skip
   refine sr (wm Z (wm Z (gp Z (fun hG => QV.fieldAddr fd44_1 Z Z) (gp Z (fun hG => QV.loadAgg ag42 Z Z hG (fun w hw => (Own.cellsBlk 2 Z w hw).sub 1 2 Z)) (gp Z (fun hG => QV.loadAgg ag42 Z Z Z (Own.cellsBlk 1 Z)) (gp Z (fun hG => QV.eqlF eq42 (ns := [((ele l.body k_).a).st, ((ele l.body k_).a).bk]) (ms := [0, 0]) Z hG Z hG Z Z) (wq Z (QV.pickAnd Z Z Z (fun h => h)) (wm Z (gp Z (fun hG => QV.fieldAddr fd44_2 Z Z) ?_)))))))))
   refine gp Z (fun hG => QV.loadAgg ag42 Z Z hG (fun w hw => (Own.cellsBlk 2 Z w hw).sub 3 2 Z)) (gp Z (fun hG => QV.loadAgg ag42 Z Z Z (Own.cellsBlk 1 Z)) (gp Z (fun hG => QV.eqlF eq42 (ns := [((ele l.body k_).b).st, ((ele l.body k_).b).bk]) (ms := [0, 0]) Z hG Z hG Z Z) (wq Z (QV.pickAnd Z Z Z (fun h => h)) (wa Z (nt (WC.ret (kr (tr ?_))))))))
   obtain rfl := (eq_of_some hm27).symm
   exact WQ.ret1 Z Z fun w hw => kg hw
  refine sr (wf fd44_6 Z (wl pl2 Z (Own.cell 2 Z Z) (wq Z (QV.neq Z Z Z Z) (wa Z (nt ?_)))))
  refine wc Z hm28 (fun h29 hm30 => ?_) (fun h29 hm31 => ?_) <;> clear hm28
  ·skip
   refine sr (wa Z (nt (WC.ret (kr (tr ?_)))))
   obtain rfl := (eq_of_some hm30).symm
   exact WQ.ret1 Z Z fun w hw => kg hw
  refine sr (wf fd44_0 Z (wl pl3 Z (Own.cell 2 Z Z) (wq Z (QV.eql Z Z Z Z) (wa Z (nt ?_)))))
  refine wc Z hm31 (fun h32 hm33 => ?_) (fun h32 hm34 => ?_) <;> clear hm31
  ·skip
   refine sr (wm Z (wm Z (gp Z (fun hG => QV.fieldAddr fd44_1 Z Z) (gp Z (fun hG => QV.loadAgg ag42 Z Z hG (fun w hw => (Own.cellsBlk 2 Z w hw).sub 1 2 Z)) (gp Z (fun hG => QV.loadAgg ag42 Z Z Z (Own.cellsBlk 1 Z)) (gp Z (fun hG => QV.eqlF eq42 (ns := [((ele l.body k_).a).st, ((ele l.body k_).a).bk]) (ms := [0, 0]) Z hG Z hG Z Z) (wq Z (QV.pickAnd Z Z Z (fun h => h)) (wm Z (gp Z (fun hG => QV.fieldAddr fd44_2 Z Z) ?_)))))))))
   refine gp Z (fun hG => QV.loadAgg ag42 Z Z hG (fun w hw => (Own.cellsBlk 2 Z w hw).sub 3 2 Z)) (gp Z (fun hG => QV.loadAgg ag42 Z Z Z (Own.cellsBlk 1 Z)) (gp Z (fun hG => QV.eqlF eq42 (ns := [((ele l.body k_).b).st, ((ele l.body k_).b).bk]) (ms := [0, 0]) Z hG Z hG Z Z) (wq Z (QV.pickAnd Z Z Z (fun h => h)) (wa Z (nt (WC.ret (kr (tr ?_))))))))
   obtain rfl := (eq_of_some hm33).symm
   exact WQ.ret1 Z Z fun w hw => kg hw
  refine sr (wf fd44_0 Z (wl pl3 Z (Own.cell 2 Z Z) (wq Z (QV.eql Z Z Z Z) (wa Z (nt ?_)))))
  refine wc Z hm34 (fun h35 hm36 => ?_) (fun h35 hm37 => ?_) <;> clear hm34
  ·skip
   refine sr (wm Z (wm Z (gp Z (fun hG => QV.fieldAddr fd44_1 Z Z) (gp Z (fun hG => QV.loadAgg ag42 Z Z hG (fun w hw => (Own.cellsBlk 2 Z w hw).sub 1 2 Z)) (gp Z (fun hG => QV.loadAgg ag42 Z Z Z (Own.cellsBlk 1 Z)) (gp Z (fun hG => QV.eqlF eq42 (ns := [((ele l.body k_).a).st, ((ele l.body k_).a).bk]) (ms := [0, 0]) Z hG Z hG Z Z) (wq Z (QV.pickAnd Z Z Z (fun h => h)) (wm Z (gp Z (fun hG => QV.fieldAddr fd44_2 Z Z) ?_)))))))))
   refine gp Z (fun hG => QV.loadAgg ag42 Z Z hG (fun w hw => (Own.cellsBlk 2 Z w hw).sub 3 2 Z)) (gp Z (fun hG => QV.loadAgg ag42 Z Z Z (Own.cellsBlk 1 Z)) (gp Z (fun hG => QV.eqlF eq42 (ns := [((ele l.body k_).b).st, ((ele l.body k_).b).bk]) (ms := [0, 0]) Z hG Z hG Z Z) (wq Z (QV.pickAnd Z Z Z (fun h => h)) (wa Z (nt (WC.ret (kr (tr ?_))))))))
   obtain rfl := (eq_of_some hm36).symm
   exact WQ.ret1 Z Z fun w hw => kg hw
  refine sr (wf fd44_0 Z (wl pl3 Z (Own.cell 2 Z Z) (wq Z (QV.eql Z Z Z Z) (wa Z (nt ?_)))))
  refine wc Z hm37 (fun h38 hm39 => ?_) (fun h38 hm40 => ?_) <;> clear hm37
  ·skip
   refine sr (wm Z (wm Z (gp Z (fun hG => QV.fieldAddr fd44_2 Z Z) (gp Z (fun hG => QV.loadAgg ag42 Z Z hG (fun w hw => (Own.cellsBlk 2 Z w hw).sub 3 2 Z)) (gp Z (fun hG => QV.loadAgg ag42 Z Z Z (Own.cellsBlk 1 Z)) (gp Z (fun hG => QV.eqlF eq42 (ns := [((ele l.body k_).b).st, ((ele l.body k_).b).bk]) (ms := [0, 0]) Z hG Z hG Z Z) (wq Z (QV.pickAnd Z Z Z (fun h => h)) (wa Z (nt (WC.ret (kr (tr ?_))))))))))))
   obtain rfl := (eq_of_some hm39).symm
   exact WQ.ret1 Z Z fun w hw => kg hw
  refine sk (WQ.block (WQ.then (sr (wm Z (wm Z (gp Z (fun hG => QV.fieldAddr fd44_0 Z Z) (gp Z (fun hG => QV.load pl3 Z hG (Own.cell 2 Z Z)) (gp Z (fun hG => QV.subW Z hG Z Z) ?_))))))))
  obtain ⟨x41, hx42, hm43⟩ := bdG_some hm40; clear hm40
  refine gp Z (fun hG => QV.call en19 (EvAll.cons Z hG (ec Z (ec Z eN))) (fun w hw => have h := loop_in_w w (hx42 hG) ; h)) (wq Z (QV.pickAnd Z Z Z (fun h => h)) (wa Z (nt (WC.ret ?_))))
  obtain rfl := (eq_of_some hm43).symm
  exact WQ.ret1 Z Z fun w hw => kg hw
 rintro x49_1 m44 hI45
 obtain ⟨m46, s47, rfl, hm48, hn49⟩ := iter_step hI45; clear hI45; unfold loop_stmt_L0 at hm48
 refine sr (wq Z (QV.lss Z Z Z Z) (nt (WC.seq ?_)))
 refine wc Z hm48 (fun h50 hm51 => ?_) (fun h50 hm65 => ?_) <;> clear hm48
 ·skip
  refine sk (WQ.then (WC.seq (WC.block (sr ?_))))
  obtain ⟨c52, hm53⟩ := cs hm51; clear hm51
  obtain ⟨p54, hp55⟩ := hF20.lenMap.ix (sz := 2) ln_len c52
  refine wq Z (QV.indexSlice sl55 Z Z Z Z hp55) (wq Z (QV.loadAgg ag42 Z Z Z (fun w hw => ((Own.karr 0 Z hk hF20) w hw).ele hp55 c52)) (WL.effect Z ?_))
  refine (EV.alloc (by decide) ze42 (fun b56 => ?_))
  refine WL.effect Z ?_
  refine (EV.store 0 Z Z Z Z Z Z (vs := [i_ ((ele x17 x49_1).st), i_ ((ele x17 x49_1).bk)]) (show Value.cells _ = List.toArray _ from Z) sz42 (nl Z) (oc Z (oc Z one_nil)) ?_)
  refine ns (wq Z (QV.loadAgg ag25 Z Z Z (Own.cellsBlk 4 Z)) (wm Z (wq Z (QV.loadAgg ag42 Z Z Z (Own.cellsBlk 0 Z)) ?_)))
  obtain ⟨x57, hx58, hm59⟩ := bd_some hm53; clear hm53
  refine wq Z (QV.call en28 (ec Z (ec Z (ec Z eN))) (fun w hw => have h := loop_ref_w w hx58 ((Own.karr 1 Z hk (h_l_logs.le hle20)) w hw) ((Own.karr 1 Z hk (h_l_body.le hle20)) w hw) ((Own.karr 1 Z hk (h_l_outs.le hle20)) w hw); h)) (wq Z (QV.not Z Z) (nt ?_))
  refine wc Z hm59 (fun h60 hm61 => ?_) (fun h60 hm62 => ?_) <;> clear hm59
  ·skip
   refine sr (wa Z (nt (WC.ret (kr (tr (tr (kr (tr (tr ?_)))))))))
   obtain rfl := up_ret hm61 hn49
   obtain rfl := (eq_of_some hm23).symm
   exact WQ.ret1 Z Z fun w hw => kg hw
  refine sk (WQ.block (WQ.then (WC.region ?_)))
  obtain ⟨c63, hm64⟩ := cs hm62; clear hm62
  refine wq Z (QV.add Z Z Z Z c63) (wm Z (WL.nil ?_))
  exact WQ.again1 (x49_1 + 1) m46 (up_next hm64 hn49) (Nat.lt_succ_self _) ⟨Z, Z, Z, Z, Z, Z, Z, Z, Z, trivial⟩ (pk [1, 2, 3, 4])
 refine WC.exit (te (te (WQ.block_exit ?_)))
 exact WQ.out1 x49_1 (up_brk hm65 hn49) ⟨Z, Z, Z, Z, Z, Z, Z, Z, Z, trivial⟩ (pk [0, 1, 2, 3])
theorem loop_May_w {v_l_logs v_l_body v_l_outs : Value} {l : Lp} {r : Bool} (w : World) (hm : loop_May_m l = some r) (h_l_logs : Arr w v_l_logs 1 (l.logs.map icell)) (h_l_body : Arr w v_l_body 9 (l.body.map Stm.cells)) (h_l_outs : Arr w v_l_outs 1 (l.outs.map icell)) : Calls Tryd.prog 7 #[.agg #[v_l_logs, v_l_body, v_l_outs]] w (fun e w' => e = .returned (.bool r) ∧ Grow w w') := by
 unfold loop_May_m at hm
 have hk := Base.rfl (w := w)
 refine calls_of_WC (n := 64) (args := [.agg #[v_l_logs, v_l_body, v_l_outs]]) Tryd.func7 Z Z (nl Z) ?_ (Own.startK hk (Own.start w))
 refine sr (WL.effect Z ?_)
 refine (EV.boxAgg (by decide) Z Z (fun b1 => ?_))
 refine wa Z (nt (WC.seq (sr (wf fd25_0 Z (wl pl22 Z (Own.cell 0 Z Z) (wq Z (QV.lenS Tryd.underlying22 Z Z h_l_logs.lenMap) (wm Z (nt ?_))))))))
 obtain ⟨o2, ho3, hm4⟩ := bd_some hm; clear hm; obtain ⟨n5, ho6⟩ := lp_some ho3
 refine WC.bloop1 (H2 := [blk b1 [v_l_logs, v_l_body, v_l_outs] 25, kn noM w.heap.size w w]) (τ := [u_ 1 _, u_ 10 _, u_ 11 _]) (fun (x12_1 : Int) => [(12, (true, i_ x12_1))]) (fun x12_1 => []) (fun x12_1 m => iter (loop_May_L0 l) m x12_1 = some o2) (fun x12_1 => o2 = .go x12_1) 0 n5 ho6 ⟨Z, Z, Z, Z, trivial⟩ (pk [0, 1]) ?_ ?_
 ·skip
  rintro x12_1 rfl
  refine WQ.then (sr (wa Z (nt (WC.seq (sr (wf fd25_2 Z (wl pl22 Z (Own.cell 0 Z Z) (wq Z (QV.lenS Tryd.underlying22 Z Z h_l_outs.lenMap) (wm Z (nt ?_))))))))))
  obtain ⟨o7, ho8, hm9⟩ := bd_some hm4; clear hm4; obtain ⟨n10, ho11⟩ := lp_some ho8
  refine WC.bloop2 (H2 := [blk b1 [v_l_logs, v_l_body, v_l_outs] 25, kn noM w.heap.size w w]) (τ := [u_ 1 _, u_ 21 _, u_ 22 _]) (fun (last5_2 : Int) (x23_2 : Int) => [(5, (true, i_ last5_2)), (23, (true, i_ x23_2))]) (fun last5_2 x23_2 => []) (fun last5_2 x23_2 m => iter (loop_May_L2 l) m (last5_2, x23_2) = some o7) (fun last5_2 x23_2 => o7 = .go (last5_2, x23_2)) (-1) 0 n10 ho11 ⟨Z, Z, Z, Z, Z, trivial⟩ (pk [0, 1]) ?_ ?_
  ·skip
   rintro last5_2 x23_2 rfl
   refine WQ.then (WC.seq (sr (wf fd25_1 Z (wl pl23 Z (Own.cell 0 Z Z) (wq Z (QV.lenS Tryd.underlying23 Z Z h_l_body.lenMap) (wm Z (nt ?_)))))))
   obtain ⟨o12, ho13, hm14⟩ := bd_some hm9; clear hm9; obtain ⟨n15, ho16⟩ := lp_some ho13
   refine WC.bloop1 (H2 := [blk b1 [v_l_logs, v_l_body, v_l_outs] 25, kn noM w.heap.size w w]) (τ := [u_ 1 _, u_ 39 _]) (fun (x40_3 : Int) => [(40, (true, i_ x40_3))]) (fun x40_3 => []) (fun x40_3 m => iter (loop_May_L4 l) m x40_3 = some o12) (fun x40_3 => o12 = .go x40_3) 0 n15 ho16 ⟨Z, Z, Z, trivial⟩ (pk [0, 1]) ?_ ?_
   ·skip
    rintro x40_3 rfl
    refine WQ.then (sr (wf fd25_0 Z (wl pl22 Z (Own.cell 0 Z Z) (wq Z (QV.lenS Tryd.underlying22 Z Z h_l_logs.lenMap) (wq Z (QV.leq Z Z Z Z) (wm Z (gp Z (fun hG => QV.fieldAddr fd25_1 Z Z) (gp Z (fun hG => QV.load pl23 Z hG (Own.cell 0 Z Z)) (gp Z (fun hG => QV.lenS Tryd.underlying23 Z hG h_l_body.lenMap) (gp Z (fun hG => QV.gtr Z hG Z Z) ?_))))))))))
    refine wq Z (QV.pickAnd Z Z Z (fun h => h)) (wa Z (nt (WC.ret ?_)))
    obtain rfl := (eq_of_some hm14).symm
    exact WQ.ret1 Z Z fun w hw => kg hw
   rintro x40_3 m17 hI18
   obtain ⟨m19, s20, rfl, hm21, hn22⟩ := iter_step hI18; clear hI18; unfold loop_May_L4 at hm21
   refine sr (wq Z (QV.lss Z Z Z Z) (nt (WC.seq ?_)))
   refine wc Z hm21 (fun h23 hm24 => ?_) (fun h23 hm33 => ?_) <;> clear hm21
   ·skip
    refine sk (WQ.then (WC.seq (WC.block (sr (wm Z (wa Z (ns (wf fd25_1 Z (wl pl23 Z (Own.cell 0 Z Z) (wq Z (QV.lenS Tryd.underlying23 Z Z h_l_body.lenMap) (wq Z (QV.gtr Z Z Z Z) (wm Z (gn Z (fun hG => QV.loadAgg ag25 Z Z Z (Own.cellsBlk 0 Z)) ?_)))))))))))))
    refine gn Z (fun hG => QV.move Z Z) ?_
    obtain ⟨x25, hx26, hm27⟩ := bdG_some hm24; clear hm24
    refine gn Z (fun hG => QV.call en20 (EvAll.cons Z hG (EvAll.cons Z hG eN)) (fun w hw => have h := loop_stmt_w w (hx26 hG) ((Own.karr 1 Z hk h_l_logs) w hw) ((Own.karr 1 Z hk h_l_body) w hw) ((Own.karr 1 Z hk h_l_outs) w hw); h)) (gn Z (fun hG => QV.not Z hG) (wq Z (QV.pickOr Z Z Z (fun h => notF h)) (nt ?_)))
    refine wc Z hm27 (fun h28 hm29 => ?_) (fun h28 hm30 => ?_) <;> clear hm27
    ·skip
     refine sr (wa Z (nt (WC.ret (kr (tr (tr (kr (tr (tr ?_)))))))))
     obtain rfl := up_ret hm29 hn22
     obtain rfl := (eq_of_some hm14).symm
     exact WQ.ret1 Z Z fun w hw => kg hw
    refine sk (WQ.block (WQ.then (WC.region ?_)))
    obtain ⟨c31, hm32⟩ := cs hm30; clear hm30
    refine wq Z (QV.add Z Z Z Z c31) (wm Z (WL.nil ?_))
    exact WQ.again1 (x40_3 + 1) m19 (up_next hm32 hn22) (Nat.lt_succ_self _) ⟨Z, Z, Z, trivial⟩ (pk [0, 1])
   refine WC.exit (te (te (WQ.block_exit ?_)))
   exact WQ.out1 x40_3 (up_brk hm33 hn22) ⟨Z, Z, Z, trivial⟩ (pk [0, 1])
  rintro last5_2 x23_2 m34 hI35
  obtain ⟨m36, s37, rfl, hm38, hn39⟩ := iter_step hI35; clear hI35; unfold loop_May_L2 at hm38; simp only at hm38
  refine sr (wq Z (QV.lss Z Z Z Z) (nt (WC.seq ?_)))
  refine wc Z hm38 (fun h40 hm41 => ?_) (fun h40 hm56 => ?_) <;> clear hm38
  ·skip
   refine sk (WQ.then (WC.seq (WC.block (sr ?_))))
   obtain ⟨c42, hm43⟩ := cs hm41; clear hm41
   obtain ⟨p44, hp45⟩ := h_l_outs.lenMap.ix (sz := 1) ln_len c42
   refine wq Z (QV.indexSlice sl22 Z Z Z Z hp45) (wl pl3 Z (fun w hw => CellsAt.one 0 (((Own.karr 1 Z hk h_l_outs) w hw).ele hp45 c42) Z) (wa Z (nt (WC.seq (sr (wm Z (wm Z ?_)))))))
   obtain ⟨c46, hm47⟩ := cs hm43; clear hm43
   refine wq Z (QV.add Z Z Z Z c46) (wf fd25_1 Z (wl pl23 Z (Own.cell 0 Z Z) (wq Z (QV.lenS Tryd.underlying23 Z Z h_l_body.lenMap) ?_)))
   obtain ⟨x48, hx49, hm50⟩ := bd_some hm47; clear hm47
   refine wq Z (QV.call en19 (ec Z (ec Z (ec Z eN))) (fun w hw => have h := loop_in_w w hx49 ; h)) (wq Z (QV.not Z Z) (nt ?_))
   refine wc Z hm50 (fun h51 hm52 => ?_) (fun h51 hm53 => ?_) <;> clear hm50
   ·skip
    refine sr (wa Z (nt (WC.ret (tr (kr (tr (tr (kr (tr (tr ?_))))))))))
    obtain rfl := up_ret hm52 hn39
    obtain rfl := (eq_of_some hm9).symm
    exact WQ.ret1 Z Z fun w hw => kg hw
   refine sk (WQ.then (WC.region (wm Z (wa Z (WL.nil (WQ.block (WQ.then (WC.region ?_))))))))
   obtain ⟨c54, hm55⟩ := cs hm53; clear hm53
   refine wq Z (QV.add Z Z Z Z c54) (wm Z (WL.nil ?_))
   exact WQ.again2 (ele l.outs x23_2) (x23_2 + 1) m36 (up_next hm55 hn39) (Nat.lt_succ_self _) ⟨Z, Z, Z, Z, Z, trivial⟩ (pk [0, 1])
  refine WC.exit (te (te (WQ.block_exit ?_)))
  exact WQ.out2 last5_2 x23_2 (up_brk hm56 hn39) ⟨Z, Z, Z, Z, Z, trivial⟩ (pk [0, 1])
 rintro x12_1 m57 hI58
 obtain ⟨m59, s60, rfl, hm61, hn62⟩ := iter_step hI58; clear hI58; unfold loop_May_L0 at hm61
 refine sr (wq Z (QV.lss Z Z Z Z) (nt (WC.seq ?_)))
 refine wc Z hm61 (fun h63 hm64 => ?_) (fun h63 hm77 => ?_) <;> clear hm61
 ·skip
  refine sk (WQ.then (WC.seq (WC.block (sr ?_))))
  obtain ⟨c65, hm66⟩ := cs hm64; clear hm64
  obtain ⟨p67, hp68⟩ := h_l_logs.lenMap.ix (sz := 1) ln_len c65
  refine wq Z (QV.indexSlice sl22 Z Z Z Z hp68) (wl pl3 Z (fun w hw => CellsAt.one 0 (((Own.karr 1 Z hk h_l_logs) w hw).ele hp68 c65) Z) (wa Z (ns (wm Z ?_))))
  obtain ⟨x69, hx70, hm71⟩ := bd_some hm66; clear hm66
  refine wq Z (QV.call en19 (ec Z (ec Z (ec Z eN))) (fun w hw => have h := loop_in_w w hx70 ; h)) (wq Z (QV.not Z Z) (nt ?_))
  refine wc Z hm71 (fun h72 hm73 => ?_) (fun h72 hm74 => ?_) <;> clear hm71
  ·skip
   refine sr (wa Z (nt (WC.ret (kr (tr (tr (kr (tr (tr ?_)))))))))
   obtain rfl := up_ret hm73 hn62
   obtain rfl := (eq_of_some hm4).symm
   exact WQ.ret1 Z Z fun w hw => kg hw
  refine sk (WQ.block (WQ.then (WC.region ?_)))
  obtain ⟨c75, hm76⟩ := cs hm74; clear hm74
  refine wq Z (QV.add Z Z Z Z c75) (wm Z (WL.nil ?_))
  exact WQ.again1 (x12_1 + 1) m59 (up_next hm76 hn62) (Nat.lt_succ_self _) ⟨Z, Z, Z, Z, trivial⟩ (pk [0, 1])
 refine WC.exit (te (te (WQ.block_exit ?_)))
 exact WQ.out1 x12_1 (up_brk hm77 hn62) ⟨Z, Z, Z, Z, trivial⟩ (pk [0, 1])
theorem R2_Within_w {n_ least most : Int} {r : Bool} (w : World) (hm : R2_Within_m n_ least most = some r)  : Calls Tryd.prog 13 #[.int .i64 n_, .int .i64 least, .int .i64 most] w (fun e w' => e = .returned (.bool r) ∧ Grow w w') := by
 unfold R2_Within_m at hm
 have hk := Base.rfl (w := w)
 refine calls_of_WC (n := 15) (args := [i_ n_, i_ least, i_ most]) Tryd.func13 Z Z (nl Z) ?_ (Own.startK hk (Own.start w))
 refine sr (wa Z (ns (wm Z (wm Z (wq Z (QV.geq Z Z Z Z) (wm Z (gp Z (fun hG => QV.move Z Z) (gp Z (fun hG => QV.move Z Z) (gp Z (fun hG => QV.leq Z hG Z hG) ?_)))))))))
 refine wq Z (QV.pickAnd Z Z Z (fun h => h)) (wa Z (nt (WC.ret ?_)))
 obtain rfl := (eq_of_some hm).symm
 exact WQ.ret1 Z Z fun w hw => kg hw
theorem R2_Uses_w {s : Stm} {r : List Rf} {K0 : World} (hm : R2_Uses_m s = some r)  (M : Nat → Prop) (w : World) (hk : Base M K0 w) (hw0 : Own M w [] w) : Calls Tryd.prog 26 #[.agg #[.int .i64 s.op, .int .i64 s.a.st, .int .i64 s.a.bk, .int .i64 s.b.st, .int .i64 s.b.bk, .int .i64 s.ar, .int .i64 s.sp, .int .i64 s.pl, .int .i64 s.n]] w (fun e w' => ∃ X : Value × World, e = .returned (X.1) ∧ Own M w (kn M w.heap.size K0 X.2 :: []) w' ∧ Arr X.2 X.1 2 (r.map Rf.cells)) := by
 unfold R2_Uses_m at hm
 refine calls_of_WC (n := 17) (args := [.agg #[i_ s.op, i_ s.a.st, i_ s.a.bk, i_ s.b.st, i_ s.b.bk, i_ s.ar, i_ s.sp, i_ s.pl, i_ s.n]]) Tryd.func26 Z Z (nl Z) ?_ (Own.startK hk hw0)
 refine sr (WL.effect Z ?_)
 refine (EV.boxAgg (by decide) Z Z (fun b1 => ?_))
 refine wa Z (nt (WC.seq (sr (wf fd44_0 Z (wl pl3 Z (Own.cell 0 Z Z) (wq Z (QV.eql Z Z Z Z) (nt ?_)))))))
 refine wc Z hm (fun h2 hm3 => ?_) (fun h2 hm6 => ?_) <;> clear hm
 ·skip
  refine sr (wf fd44_1 Z (wq Z (QV.loadAgg ag42 Z Z Z (fun w hw => (Own.cellsBlk 0 Z w hw).sub 1 2 Z)) (WL.effect Z ?_)))
  refine (EV.buildSlice (by decide) sz_55 (by decide) (by decide) (ps := [(0, .tmp 7)]) (cells := [i_ s.a.st, i_ s.a.bk]) (ec Z eN) (by kernel_rfl) (fun b4 => ?_))
  refine wa Z (nt (WC.ret (tr ?_)))
  obtain rfl := (eq_of_some hm3).symm
  refine WK.of (fun w hw => hw.blkVec Rf.cells ([s.a] : List Rf) Z Rf.cells_len (nl Z)) ?_
  refine WK.of (C' := Own M w [kn M w.heap.size K0 K0, vec (blkSlice b4 1 1) 42 2 (List.map Rf.cells [s.a]), blk b1 s.cells 44]) (pk [2, 0, 1]) ?_
  refine WK.freeze hk (fun k5 hle5 hr5 => ?_)
  have hA5 := vec_arr hr5
  refine WQ.ret1 Z Z (fun w hw => ?_)
  exact ⟨((blkSlice b4 1 1), k5), Z, hw.pick [0] (by decide), hA5⟩
 refine sk (WQ.then (WC.seq (sr (wf fd44_0 Z (wl pl3 Z (Own.cell 0 Z Z) (wq Z (QV.gtr Z Z Z Z) (nt ?_)))))))
 refine wc Z hm6 (fun h7 hm8 => ?_) (fun h7 hm11 => ?_) <;> clear hm6
 ·skip
  refine sr (wf fd44_1 Z (wq Z (QV.loadAgg ag42 Z Z Z (fun w hw => (Own.cellsBlk 0 Z w hw).sub 1 2 Z)) (wf fd44_2 Z (wq Z (QV.loadAgg ag42 Z Z Z (fun w hw => (Own.cellsBlk 0 Z w hw).sub 3 2 Z)) (WL.effect Z ?_)))))
  refine (EV.buildSlice (by decide) sz_55 (by decide) (by decide) (ps := [(0, .tmp 13), (1, .tmp 15)]) (cells := [i_ s.a.st, i_ s.a.bk, i_ s.b.st, i_ s.b.bk]) (ec Z (ec Z eN)) (by kernel_rfl) (fun b9 => ?_))
  refine wa Z (nt (WC.ret (tr ?_)))
  obtain rfl := (eq_of_some hm8).symm
  refine WK.of (fun w hw => hw.blkVec Rf.cells ([s.a, s.b] : List Rf) Z Rf.cells_len (nl Z)) ?_
  refine WK.of (C' := Own M w [kn M w.heap.size K0 K0, vec (blkSlice b9 2 2) 42 2 (List.map Rf.cells [s.a, s.b]), blk b1 s.cells 44]) (pk [2, 0, 1]) ?_
  refine WK.freeze hk (fun k10 hle10 hr10 => ?_)
  have hA10 := vec_arr hr10
  refine WQ.ret1 Z Z (fun w hw => ?_)
  exact ⟨((blkSlice b9 2 2), k10), Z, hw.pick [0] (by decide), hA10⟩
 refine sk (WQ.then (sr (wa Z (nt (WC.ret ?_)))))
 obtain rfl := (eq_of_some hm11).symm
 refine WQ.ret1 Z Z (fun w hw => ?_)
 exact ⟨(.slice none 0 0, K0), Z, hw.pick [1] (by decide), Arr.nil⟩
theorem R2_stmt_w {v_l_logs v_l_body v_l_outs : Value} {l : Lp} {k_ : Int} {r : Bool} (w : World) (hm : R2_stmt_m l k_ = some r) (h_l_logs : Arr w v_l_logs 1 (l.logs.map icell)) (h_l_body : Arr w v_l_body 9 (l.body.map Stm.cells)) (h_l_outs : Arr w v_l_outs 1 (l.outs.map icell)) : Calls Tryd.prog 14 #[.agg #[v_l_logs, v_l_body, v_l_outs], .int .i64 k_] w (fun e w' => e = .returned (.bool r) ∧ Grow w w') := by
 unfold R2_stmt_m at hm
 have hk := Base.rfl (w := w)
 refine calls_of_WC (n := 142) (args := [.agg #[v_l_logs, v_l_body, v_l_outs], i_ k_]) Tryd.func14 Z Z (nl Z) ?_ (Own.startK hk (Own.start w))
 refine sr (WL.effect Z ?_)
 refine (EV.boxAgg (by decide) Z Z (fun b1 => ?_))
 refine wa Z (ns (wf fd25_1 Z (wl pl23 Z (Own.cell 0 Z Z) (wm Z ?_))))
 obtain ⟨c2, hm3⟩ := cs hm; clear hm
 obtain ⟨p4, hp5⟩ := h_l_body.lenMap.ix (sz := 9) ln_len c2
 refine wq Z (QV.indexSlice sl23 Z Z Z Z hp5) (wq Z (QV.loadAgg ag44 Z Z Z (fun w hw => ((Own.karr 1 Z hk h_l_body) w hw).ele hp5 c2)) (WL.effect Z ?_))
 refine (EV.alloc (by decide) ze44 (fun b6 => ?_))
 refine WL.effect Z ?_
 refine (EV.store 0 Z Z Z Z Z Z (vs := (Stm.cells (ele l.body k_))) (show Value.cells _ = List.toArray _ from Z) sz44 (nl Z) (oc Z (oc Z (oc Z (oc Z (oc Z (oc Z (oc Z (oc Z (oc Z one_nil))))))))) ?_)
 refine ns (wq Z (QV.loadAgg ag44 Z Z Z (Own.cellsBlk 0 Z)) (WL.effect Z ?_))
 obtain ⟨x7, hx8, hm9⟩ := bd_some hm3; clear hm3
 refine EV.of (C' := Own noM w [kn noM w.heap.size w w, blk b6 (Stm.cells (ele l.body k_)) 44, blk b1 [v_l_logs, v_l_body, v_l_outs] 25]) (pk [2, 0, 1]) ?_
 refine (EV.callR (X := Value × World) (R := []) (fun X => X.1) (fun X => []) (fun X => X.2) (fun X => Arr X.2 X.1 2 (x7.map Rf.cells)) hk (fun _ h => by cases h; decide) en26 (ec Z eN) (fun M w h1 h2 => have h := R2_Uses_w hx8  M w h1 h2; h) (fun X10 hF10 hle10 => ?_))
 refine wa Z (nt (WC.seq (sr (wa Z (nt ?_)))))
 obtain ⟨o11, ho12, hm13⟩ := bd_some hm9; clear hm9; obtain ⟨n14, ho15⟩ := lp_some ho12
 refine WC.bloop1 (H2 := [kn noM w.heap.size w X10.2, blk b6 (Stm.cells (ele l.body k_)) 44, blk b1 [v_l_logs, v_l_body, v_l_outs] 25]) (τ := [u_ 1 _, u_ 2 _, u_ 5 _, u_ 6 _]) (fun (i7_1 : Int) => [(7, (true, i_ i7_1))]) (fun i7_1 => []) (fun i7_1 m => iter (R2_stmt_L0 l k_ x7) m i7_1 = some o11) (fun i7_1 => o11 = .go i7_1) 0 n14 ho15 ⟨Z, Z, Z, Z, Z, trivial⟩ (pk [0, 1, 2]) ?_ ?_
 ·skip
  rintro i7_1 rfl
  refine WQ.then (WC.seq (sr (wm Z (wq Z (QV.lenS Tryd.underlying55 Z Z hF10.lenMap) (wq Z (QV.lss Z Z Z Z) (wm Z (gp Z (fun hG => QV.fieldAddr fd44_2 Z Z) (gp Z (fun hG => QV.fieldAddr fd42_0 Z hG) (gp Z (fun hG => QV.load pl3 Z hG (Own.cell 1 Z Z)) (gp Z (fun hG => QV.neq Z hG Z Z) (gp Z (fun hG => QV.move Z hG) ?_)))))))))))
  refine gnC Z (fun hG => QV.fieldAddr fd44_2 Z Z) (gnC Z (fun hG => QV.fieldAddr fd42_1 Z hG) (gnC Z (fun hG => QV.load pl3 Z hG (Own.cell 1 Z Z)) (gnC Z (fun hG => QV.neq Z hG Z Z) (gp Z (fun hG => QV.pickOr Z hG Z (fun h => andN hG h)) (wq Z (QV.pickAnd Z Z Z (fun h => h)) (wm Z (gn Z (fun hG => QV.move Z Z) (gn Z (fun hG => QV.lenS Tryd.underlying55 Z hG hF10.lenMap) (gn Z (fun hG => QV.lss Z hG Z Z) ?_)))))))))
  refine gn Z (fun hG => QV.move Z hG) (gpC Z (fun hG => QV.fieldAddr fd44_1 Z Z) (gpC Z (fun hG => QV.fieldAddr fd42_0 Z hG) (gpC Z (fun hG => QV.load pl3 Z hG (Own.cell 1 Z Z)) (gpC Z (fun hG => QV.neq Z hG Z Z) (gpC Z (fun hG => QV.move Z hG) (gnC Z (fun hG => QV.fieldAddr fd44_1 Z Z) (gnC Z (fun hG => QV.fieldAddr fd42_1 Z hG) (gnC Z (fun hG => QV.load pl3 Z hG (Own.cell 1 Z Z)) (gnC Z (fun hG => QV.neq Z hG Z Z) ?_)))))))))
  refine gpC Z (fun hG => QV.pickOr Z hG Z (fun h => andN hG h)) (gn Z (fun hG => QV.pickAnd Z hG Z (fun h => andT hG h)) (wq Z (QV.pickOr Z Z Z (fun h => notF h)) (nt ?_)))
  refine wc Z hm13 (fun h16 hm17 => ?_) (fun h16 hm18 => ?_) <;> clear hm13
  ·skip
   refine sr (wa Z (nt (WC.ret (tr ?_))))
   obtain rfl := (eq_of_some hm17).symm
   exact WQ.ret1 Z Z fun w hw => kg hw
  refine sk (WQ.then (WC.seq (sr (wf fd44_0 Z (wl pl3 Z (Own.cell 1 Z Z) (wq Z (QV.neq Z Z Z Z) (wm Z (gp Z (fun hG => QV.fieldAddr fd44_6 Z Z) (gp Z (fun hG => QV.load pl2 Z hG (Own.cell 1 Z Z)) (gp Z (fun hG => QV.neq Z hG Z Z) (wq Z (QV.pickAnd Z Z Z (fun h => h)) (nt ?_))))))))))))
  refine wc Z hm18 (fun h19 hm20 => ?_) (fun h19 hm21 => ?_) <;> clear hm18
  ·skip
   refine sr (wa Z (nt (WC.ret (tr ?_))))
   obtain rfl := (eq_of_some hm20).symm
   exact WQ.ret1 Z Z fun w hw => kg hw
  refine sk (WQ.then (WC.seq (sr (wf fd44_0 Z (wl pl3 Z (Own.cell 1 Z Z) (wq Z (QV.eql Z Z Z Z) (wm Z (gn Z (fun hG => QV.fieldAddr fd44_0 Z Z) (gn Z (fun hG => QV.load pl3 Z hG (Own.cell 1 Z Z)) (gn Z (fun hG => QV.eql Z hG Z Z) (wq Z (QV.pickOr Z Z Z (fun h => notF h)) (nt ?_))))))))))))
  refine wc Z hm21 (fun h22 hm23 => ?_) (fun h22 hm35 => ?_) <;> clear hm21
  ·skip
   refine sr (wf fd44_3 Z (wl pl3 Z (Own.cell 1 Z Z) (wf fd25_0 Z (wl pl22 Z (Own.cell 2 Z Z) (wq Z (QV.lenS Tryd.underlying22 Z Z (h_l_logs.le hle10).lenMap) ?_)))))
   obtain ⟨c24, hm25⟩ := cs hm23; clear hm23
   refine wq Z (QV.sub Z Z Z Z c24) ?_
   obtain ⟨x26, hx27, hm28⟩ := bd_some hm25; clear hm25
   refine wq Z (QV.call en13 (ec Z (ec Z (ec Z eN))) (fun w hw => have h := R2_Within_w w hx27 ; h)) (wm Z (gp Z (fun hG => QV.fieldAddr fd44_4 Z Z) (gp Z (fun hG => QV.load pl3 Z hG (Own.cell 1 Z Z)) ?_)))
   obtain ⟨x29, hx30, hm31⟩ := bdG_some hm28; clear hm28
   refine gp Z (fun hG => QV.call en13 (EvAll.cons Z hG (ec Z (ec Z eN))) (fun w hw => have h := R2_Within_w w (hx30 hG) ; h)) (wq Z (QV.pickAnd Z Z Z (fun h => h)) (wm Z (gp Z (fun hG => QV.fieldAddr fd44_5 Z Z) (gp Z (fun hG => QV.load pl3 Z hG (Own.cell 1 Z Z)) ?_))))
   obtain ⟨x32, hx33, hm34⟩ := bdG_some hm31; clear hm31
   refine gp Z (fun hG => QV.call en13 (EvAll.cons Z hG (ec Z (ec Z eN))) (fun w hw => have h := R2_Within_w w (hx33 hG) ; h)) (wq Z (QV.pickAnd Z Z Z (fun h => h)) (wa Z (nt (WC.ret (tr ?_)))))
   obtain rfl := (eq_of_some hm34).symm
   exact WQ.ret1 Z Z fun w hw => kg hw
  refine sk (WQ.then (WC.seq (sr (wf fd44_3 Z (wl pl3 Z (Own.cell 1 Z Z) (wq Z (QV.neq Z Z Z Z) (wm Z (gn Z (fun hG => QV.fieldAddr fd44_4 Z Z) (gn Z (fun hG => QV.load pl3 Z hG (Own.cell 1 Z Z)) (gn Z (fun hG => QV.neq Z hG Z Z) (wq Z (QV.pickOr Z Z Z (fun h => notF h)) (wm Z ?_))))))))))))
  refine gn Z (fun hG => QV.fieldAddr fd44_5 Z Z) (gn Z (fun hG => QV.load pl3 Z hG (Own.cell 1 Z Z)) (gn Z (fun hG => QV.neq Z hG Z Z) (wq Z (QV.pickOr Z Z Z (fun h => notF h)) (nt ?_))))
  refine wc Z hm35 (fun h36 hm37 => ?_) (fun h36 hm38 => ?_) <;> clear hm35
  ·skip
   refine sr (wa Z (nt (WC.ret (tr ?_))))
   obtain rfl := (eq_of_some hm37).symm
   exact WQ.ret1 Z Z fun w hw => kg hw
  refine sk (WQ.then (sr (wf fd44_0 Z (wl pl3 Z (Own.cell 1 Z Z) (wq Z (QV.eql Z Z Z Z) (wm Z (gn Z (fun hG => QV.fieldAddr fd44_0 Z Z) (gn Z (fun hG => QV.load pl3 Z hG (Own.cell 1 Z Z)) (gn Z (fun hG => QV.eql Z hG Z Z) (wq Z (QV.pickOr Z Z Z (fun h => notF h)) (wm Z ?_)))))))))))
  refine gn Z (fun hG => QV.fieldAddr fd44_0 Z Z) (gn Z (fun hG => QV.load pl3 Z hG (Own.cell 1 Z Z)) ?_)
  obtain ⟨x39, hx40, hm41⟩ := bdG_some hm38; clear hm38
  refine gn Z (fun hG => QV.call en13 (EvAll.cons Z hG (ec Z (ec Z eN))) (fun w hw => have h := R2_Within_w w (hx40 hG) ; h)) (wq Z (QV.pickOr Z Z Z (fun h => notF h)) (wa Z (nt (WC.ret ?_))))
  obtain rfl := (eq_of_some hm41).symm
  exact WQ.ret1 Z Z fun w hw => kg hw
 rintro i7_1 m42 hI43
 obtain ⟨m44, s45, rfl, hm46, hn47⟩ := iter_step hI43; clear hI43; unfold R2_stmt_L0 at hm46
 refine WC.seq (sr (wm Z (wm Z (wq Z (QV.lenS Tryd.underlying55 Z Z hF10.lenMap) (wq Z (QV.lss Z Z Z Z) (nt ?_))))))
 refine wc Z hm46 (fun h48 hm49 => ?_) (fun h48 hm99 => ?_) <;> clear hm46
 ·skip
  refine sk (WQ.then (WC.seq (WC.block (sr (wf fd25_1 Z (wl pl23 Z (Own.cell 2 Z Z) (wq Z (QV.lenS Tryd.underlying23 Z Z (h_l_body.le hle10).lenMap) ?_)))))))
  obtain ⟨c50, c52, hm53⟩ := cs2 hm49; clear hm49
  refine wq Z (QV.sub Z Z Z Z c50) (wa Z (nt (WC.seq (sr (wm Z (wm Z ?_))))))
  obtain ⟨p54, hp55⟩ := hF10.lenMap.ix (sz := 2) ln_len c52
  refine wq Z (QV.indexSlice sl55 Z Z Z Z hp55) (wf fd42_1 Z (wl pl3 Z (fun w hw => CellsAt.one 1 (((Own.karr 0 Z hk hF10) w hw).ele hp55 c52) Z) (wq Z (QV.eql Z Z Z Z) (nt ?_))))
  refine wc Z hm53 (fun h56 hm57 => ?_) (fun h56 hm79 => ?_) <;> clear hm53
  ·skip
   refine WC.region (wm Z ?_)
   obtain ⟨c58, c60, hm61⟩ := cs2 hm57; clear hm57
   refine wq Z (QV.sub Z Z Z Z c58) (wa Z (ns (wm Z (wm Z ?_))))
   obtain ⟨p62, hp63⟩ := hF10.lenMap.ix (sz := 2) ln_len c60
   refine wq Z (QV.indexSlice sl55 Z Z Z Z hp63) (wf fd42_1 Z (wl pl3 Z (fun w hw => CellsAt.one 1 (((Own.karr 0 Z hk hF10) w hw).ele hp63 c60) Z) ?_))
   obtain ⟨x64, hx65, hm66⟩ := bd_some hm61; clear hm61
   refine wq Z (QV.call en13 (ec Z (ec Z (ec Z eN))) (fun w hw => have h := R2_Within_w w hx65 ; h)) (wq Z (QV.not Z Z) (wm Z (gn Z (fun hG => QV.move Z Z) (gn Z (fun hG => QV.move Z Z) ?_))))
   obtain ⟨c67, hm68⟩ := cs hm66; clear hm66
   obtain ⟨p69, hp70⟩ := hF10.lenMap.ixG (sz := 2) ln_len c67
   refine gn Z (fun hG => QV.indexSlice sl55 Z hG Z hG (hp70 hG)) (gn Z (fun hG => QV.fieldAddr fd42_0 Z hG) (gn Z (fun hG => QV.load pl3 Z hG (fun w hw => CellsAt.one 0 (((Own.karr 0 Z hk hF10) w hw).ele (hp70 hG) (c67 hG)) Z)) (gn Z (fun hG => QV.move Z Z) ?_)))
   obtain ⟨x71, hx72, hm73⟩ := bdG_some hm68; clear hm68
   refine gn Z (fun hG => QV.call en13 (EvAll.cons Z hG (ec Z (EvAll.cons Z hG eN))) (fun w hw => have h := R2_Within_w w (hx72 hG) ; h)) (gn Z (fun hG => QV.not Z hG) (wq Z (QV.pickOr Z Z Z (fun h => notF h)) (nt ?_)))
   refine wc Z hm73 (fun h74 hm75 => ?_) (fun h74 hm76 => ?_) <;> clear hm73
   ·skip
    refine sr (wa Z (nt (WC.ret (kr (tr (tr (kr (tr (tr ?_)))))))))
    obtain rfl := up_ret hm75 hn47
    obtain rfl := (eq_of_some hm13).symm
    exact WQ.ret1 Z Z fun w hw => kg hw
   refine sk (WQ.block (WQ.then (WC.region (wm Z ?_))))
   obtain ⟨c77, hm78⟩ := cs hm76; clear hm76
   refine wq Z (QV.add Z Z Z Z c77) (wa Z (WL.nil ?_))
   exact WQ.again1 (i7_1 + 1) m44 (up_next hm78 hn47) (Nat.lt_succ_self _) ⟨Z, Z, Z, Z, Z, trivial⟩ (pk [0, 1, 2])
  refine sk (WQ.then (sr (wm Z (wm Z ?_))))
  obtain ⟨c80, hm81⟩ := cs hm79; clear hm79
  obtain ⟨p82, hp83⟩ := hF10.lenMap.ix (sz := 2) ln_len c80
  refine wq Z (QV.indexSlice sl55 Z Z Z Z hp83) (wf fd42_1 Z (wl pl3 Z (fun w hw => CellsAt.one 1 (((Own.karr 0 Z hk hF10) w hw).ele hp83 c80) Z) ?_))
  obtain ⟨x84, hx85, hm86⟩ := bd_some hm81; clear hm81
  refine wq Z (QV.call en13 (ec Z (ec Z (ec Z eN))) (fun w hw => have h := R2_Within_w w hx85 ; h)) (wq Z (QV.not Z Z) (wm Z (gn Z (fun hG => QV.move Z Z) (gn Z (fun hG => QV.move Z Z) ?_))))
  obtain ⟨c87, hm88⟩ := cs hm86; clear hm86
  obtain ⟨p89, hp90⟩ := hF10.lenMap.ixG (sz := 2) ln_len c87
  refine gn Z (fun hG => QV.indexSlice sl55 Z hG Z hG (hp90 hG)) (gn Z (fun hG => QV.fieldAddr fd42_0 Z hG) (gn Z (fun hG => QV.load pl3 Z hG (fun w hw => CellsAt.one 0 (((Own.karr 0 Z hk hF10) w hw).ele (hp90 hG) (c87 hG)) Z)) (gn Z (fun hG => QV.move Z Z) ?_)))
  obtain ⟨x91, hx92, hm93⟩ := bdG_some hm88; clear hm88
  refine gn Z (fun hG => QV.call en13 (EvAll.cons Z hG (ec Z (EvAll.cons Z hG eN))) (fun w hw => have h := R2_Within_w w (hx92 hG) ; h)) (gn Z (fun hG => QV.not Z hG) (wq Z (QV.pickOr Z Z Z (fun h => notF h)) (nt ?_)))
  refine wc Z hm93 (fun h94 hm95 => ?_) (fun h94 hm96 => ?_) <;> clear hm93
  ·skip
   refine sr (wa Z (nt (WC.ret (kr (tr (tr (kr (tr (tr ?_)))))))))
   obtain rfl := up_ret hm95 hn47
   obtain rfl := (eq_of_some hm13).symm
   exact WQ.ret1 Z Z fun w hw => kg hw
  refine sk (WQ.block (WQ.then (WC.region (wm Z ?_))))
  obtain ⟨c97, hm98⟩ := cs hm96; clear hm96
  refine wq Z (QV.add Z Z Z Z c97) (wa Z (WL.nil ?_))
  exact WQ.again1 (i7_1 + 1) m44 (up_next hm98 hn47) (Nat.lt_succ_self _) ⟨Z, Z, Z, Z, Z, trivial⟩ (pk [0, 1, 2])
 refine WC.exit (te (te (WQ.block_exit ?_)))
 exact WQ.out1 i7_1 (up_brk hm99 hn47) ⟨Z, Z, Z, Z, Z, trivial⟩ (pk [0, 1, 2])
theorem R2_May_w {v_l_logs v_l_body v_l_outs : Value} {l : Lp} {r : Bool} (w : World) (hm : R2_May_m l = some r) (h_l_logs : Arr w v_l_logs 1 (l.logs.map icell)) (h_l_body : Arr w v_l_body 9 (l.body.map Stm.cells)) (h_l_outs : Arr w v_l_outs 1 (l.outs.map icell)) : Calls Tryd.prog 5 #[.agg #[v_l_logs, v_l_body, v_l_outs]] w (fun e w' => e = .returned (.bool r) ∧ Grow w w') := by
 unfold R2_May_m at hm
 have hk := Base.rfl (w := w)
 refine calls_of_WC (n := 79) (args := [.agg #[v_l_logs, v_l_body, v_l_outs]]) Tryd.func5 Z Z (nl Z) ?_ (Own.startK hk (Own.start w))
 refine sr (WL.effect Z ?_)
 refine (EV.boxAgg (by decide) Z Z (fun b1 => ?_))
 refine wa Z (ns (wf fd25_1 Z (wl pl23 Z (Own.cell 0 Z Z) (wq Z (QV.lenS Tryd.underlying23 Z Z h_l_body.lenMap) (wa Z (nt (WC.seq (sr (wf fd25_0 Z (wl pl22 Z (Own.cell 0 Z Z) (wq Z (QV.lenS Tryd.underlying22 Z Z h_l_logs.lenMap) ?_)))))))))))
 refine wq Z (QV.gtr Z Z Z Z) (wm Z (gn Z (fun hG => QV.move Z Z) (gn Z (fun hG => QV.lss Z hG Z Z) (wq Z (QV.pickOr Z Z Z (fun h => notF h)) (wm Z (gn Z (fun hG => QV.move Z Z) (gn Z (fun hG => QV.gtr Z hG Z Z) (wq Z (QV.pickOr Z Z Z (fun h => notF h)) (nt ?_)))))))))
 refine wc Z hm (fun h2 hm3 => ?_) (fun h2 hm4 => ?_) <;> clear hm
 ·skip
  refine sr (wa Z (nt (WC.ret (tr ?_))))
  obtain rfl := (eq_of_some hm3).symm
  exact WQ.ret1 Z Z fun w hw => kg hw
 refine sk (WQ.then (WC.seq (sr (wa Z (nt ?_)))))
 obtain ⟨o5, ho6, hm7⟩ := bd_some hm4; clear hm4; obtain ⟨n8, ho9⟩ := lp_some ho6
 refine WC.bloop1 (H2 := [blk b1 [v_l_logs, v_l_body, v_l_outs] 25, kn noM w.heap.size w w]) (τ := [u_ 1 _, u_ 3 _]) (fun (i4_1 : Int) => [(4, (true, i_ i4_1))]) (fun i4_1 => []) (fun i4_1 m => iter (R2_May_L0 l) m i4_1 = some o5) (fun i4_1 => o5 = .go i4_1) 0 n8 ho9 ⟨Z, Z, Z, trivial⟩ (pk [0, 1]) ?_ ?_
 ·skip
  rintro i4_1 rfl
  refine WQ.then (WC.seq (sr (wa Z (nt ?_))))
  obtain ⟨o10, ho11, hm12⟩ := bd_some hm7; clear hm7; obtain ⟨n13, ho14⟩ := lp_some ho11
  refine WC.bloop1 (H2 := [blk b1 [v_l_logs, v_l_body, v_l_outs] 25, kn noM w.heap.size w w]) (τ := [u_ 1 _, u_ 3 _]) (fun (i5_2 : Int) => [(5, (true, i_ i5_2))]) (fun i5_2 => []) (fun i5_2 m => iter (R2_May_L2 l) m i5_2 = some o10) (fun i5_2 => o10 = .go i5_2) 0 n13 ho14 ⟨Z, Z, Z, trivial⟩ (pk [0, 1]) ?_ ?_
  ·skip
   rintro i5_2 rfl
   refine WQ.then (WC.seq (sr (wa Z (nt ?_))))
   obtain ⟨o15, ho16, hm17⟩ := bd_some hm12; clear hm12; obtain ⟨n18, ho19⟩ := lp_some ho16
   refine WC.bloop1 (H2 := [blk b1 [v_l_logs, v_l_body, v_l_outs] 25, kn noM w.heap.size w w]) (τ := [u_ 1 _, u_ 3 _]) (fun (k6_3 : Int) => [(6, (true, i_ k6_3))]) (fun k6_3 => []) (fun k6_3 m => iter (R2_May_L4 l) m k6_3 = some o15) (fun k6_3 => o15 = .go k6_3) 0 n18 ho19 ⟨Z, Z, Z, trivial⟩ (pk [0, 1]) ?_ ?_
   ·skip
    rintro k6_3 rfl
    refine WQ.then (sr (wa Z (nt (WC.ret ?_))))
    obtain rfl := (eq_of_some hm17).symm
    exact WQ.ret1 Z Z fun w hw => kg hw
   rintro k6_3 m20 hI21
   obtain ⟨m22, s23, rfl, hm24, hn25⟩ := iter_step hI21; clear hI21; unfold R2_May_L4 at hm24
   refine WC.seq (sr (wm Z (wm Z (wq Z (QV.lss Z Z Z Z) (nt ?_)))))
   refine wc Z hm24 (fun h26 hm27 => ?_) (fun h26 hm36 => ?_) <;> clear hm24
   ·skip
    refine sk (WQ.then (WC.seq (WC.block (sr (wq Z (QV.loadAgg ag25 Z Z Z (Own.cellsBlk 0 Z)) (wm Z ?_))))))
    obtain ⟨x28, hx29, hm30⟩ := bd_some hm27; clear hm27
    refine wq Z (QV.call en14 (ec Z (ec Z eN)) (fun w hw => have h := R2_stmt_w w hx29 ((Own.karr 1 Z hk h_l_logs) w hw) ((Own.karr 1 Z hk h_l_body) w hw) ((Own.karr 1 Z hk h_l_outs) w hw); h)) (wq Z (QV.not Z Z) (nt ?_))
    refine wc Z hm30 (fun h31 hm32 => ?_) (fun h31 hm33 => ?_) <;> clear hm30
    ·skip
     refine sr (wa Z (nt (WC.ret (kr (tr (tr (kr (tr (tr ?_)))))))))
     obtain rfl := up_ret hm32 hn25
     obtain rfl := (eq_of_some hm17).symm
     exact WQ.ret1 Z Z fun w hw => kg hw
    refine sk (WQ.block (WQ.then (WC.region (wm Z ?_))))
    obtain ⟨c34, hm35⟩ := cs hm33; clear hm33
    refine wq Z (QV.add Z Z Z Z c34) (wa Z (WL.nil ?_))
    exact WQ.again1 (k6_3 + 1) m22 (up_next hm35 hn25) (Nat.lt_succ_self _) ⟨Z, Z, Z, trivial⟩ (pk [0, 1])
   refine WC.exit (te (te (WQ.block_exit ?_)))
   exact WQ.out1 k6_3 (up_brk hm36 hn25) ⟨Z, Z, Z, trivial⟩ (pk [0, 1])
  rintro i5_2 m37 hI38
  obtain ⟨m39, s40, rfl, hm41, hn42⟩ := iter_step hI38; clear hI38; unfold R2_May_L2 at hm41
  refine WC.seq (sr (wm Z (wf fd25_2 Z (wl pl22 Z (Own.cell 0 Z Z) (wq Z (QV.lenS Tryd.underlying22 Z Z h_l_outs.lenMap) (wq Z (QV.lss Z Z Z Z) (nt ?_)))))))
  refine wc Z hm41 (fun h43 hm44 => ?_) (fun h43 hm69 => ?_) <;> clear hm41
  ·skip
   refine sk (WQ.then (WC.seq (WC.block (WC.seq (WC.dr (m := 27) (S := Own noM w [kn noM w.heap.size w w, blk b1 [v_l_logs, v_l_body, v_l_outs] 25]) (by kernel_rfl) (by kernel_rfl) (pk [1, 0]) (zf 0 fd25_2 Z Z (zl 1 pl22 Z Z (Own.cell 1 Z Z) (zm 2 Z Z ?_))))))))
   obtain ⟨c45, hm46⟩ := cs hm44; clear hm44
   obtain ⟨p47, hp48⟩ := h_l_outs.lenMap.ix (sz := 1) ln_len c45
   refine wz 3 Z Z (QV.indexSlice sl22 Z Z Z Z hp48) (zl 4 pl3 Z Z (fun w hw => CellsAt.one 0 (((Own.karr 0 Z hk h_l_outs) w hw).ele hp48 c45) Z) (zm 5 Z Z ?_))
   obtain ⟨c49, hm50⟩ := cs hm46; clear hm46
   refine wz 6 Z Z (QV.sub Z Z Z Z c49) ?_
   obtain ⟨x51, hx52, hm53⟩ := bd_some hm50; clear hm50
   refine wz 7 Z Z (QV.call en13 (ec Z (ec Z (ec Z eN))) (fun w hw => have h := R2_Within_w w hx52 ; h)) (wz 8 Z Z (QV.not Z Z) (zm 9 Z Z (zn 10 Z Z (fun hG => QV.move Z Z) (zn 11 Z Z (fun hG => QV.gtr Z hG Z Z) (zn 12 Z Z (fun hG => QV.move Z hG) ?_)))))
   refine WD.g 13 Z (by kernel_rfl) Z Z (GuardIs.posC Z Z) (fun hG => QV.fieldAddr fd25_2 Z Z) ?_
   refine WD.g 14 Z (by kernel_rfl) Z Z (GuardIs.posC Z Z) (fun hG => QV.load pl22 Z hG (Own.cell 1 Z Z)) ?_
   refine WD.g 15 Z (by kernel_rfl) Z Z (GuardIs.posC Z Z) (fun hG => QV.move Z Z) ?_
   obtain ⟨c54, hm55⟩ := cs hm53; clear hm53
   obtain ⟨p56, hp57⟩ := h_l_outs.lenMap.ixG (sz := 1) ln_len c54
   refine WD.g 16 Z (by kernel_rfl) Z Z (GuardIs.posC Z Z) (fun hG => QV.indexSlice sl22 Z hG Z hG (hp57 hG)) ?_
   refine WD.g 17 Z (by kernel_rfl) Z Z (GuardIs.posC Z Z) (fun hG => QV.load pl3 Z hG (fun w hw => CellsAt.one 0 (((Own.karr 0 Z hk h_l_outs) w hw).ele (hp57 hG) (c54 hG)) Z)) ?_
   refine WD.g 18 Z (by kernel_rfl) Z Z (GuardIs.posC Z Z) (fun hG => QV.fieldAddr fd25_2 Z Z) ?_
   refine WD.g 19 Z (by kernel_rfl) Z Z (GuardIs.posC Z Z) (fun hG => QV.load pl22 Z hG (Own.cell 1 Z Z)) ?_
   refine WD.g 20 Z (by kernel_rfl) Z Z (GuardIs.posC Z Z) (fun hG => QV.move Z Z) ?_
   obtain ⟨c58, c60, hm61⟩ := cs2 hm55; clear hm55
   refine WD.g 21 Z (by kernel_rfl) Z Z (GuardIs.posC Z Z) (fun hG => QV.sub Z hG Z Z (c58 hG)) ?_
   obtain ⟨p62, hp63⟩ := h_l_outs.lenMap.ixG (sz := 1) ln_len c60
   refine WD.g 22 Z (by kernel_rfl) Z Z (GuardIs.posC Z Z) (fun hG => QV.indexSlice sl22 Z hG Z hG (hp63 hG)) ?_
   refine WD.g 23 Z (by kernel_rfl) Z Z (GuardIs.posC Z Z) (fun hG => QV.load pl3 Z hG (fun w hw => CellsAt.one 0 (((Own.karr 0 Z hk h_l_outs) w hw).ele (hp63 hG) (c60 hG)) Z)) ?_
   refine WD.g 24 Z (by kernel_rfl) Z Z (GuardIs.posC Z Z) (fun hG => QV.leq Z hG Z hG) ?_
   refine zn 25 Z Z (fun hG => QV.pickAnd Z hG Z (fun h => andT hG h)) (wz 26 Z Z (QV.pickOr Z Z Z (fun h => notF h)) ?_)
   refine WD.e (by kernel_rfl) ?_
   refine WQ.then ?_
   refine wc Z hm61 (fun h64 hm65 => ?_) (fun h64 hm66 => ?_) <;> clear hm61
   ·skip
    refine sr (wa Z (nt (WC.ret (kr (tr (tr (kr (tr (tr ?_)))))))))
    obtain rfl := up_ret hm65 hn42
    obtain rfl := (eq_of_some hm12).symm
    exact WQ.ret1 Z Z fun w hw => kg hw
   refine sk (WQ.block (WQ.then (WC.region (wm Z ?_))))
   obtain ⟨c67, hm68⟩ := cs hm66; clear hm66
   refine wq Z (QV.add Z Z Z Z c67) (wa Z (WL.nil ?_))
   exact WQ.again1 (i5_2 + 1) m39 (up_next hm68 hn42) (Nat.lt_succ_self _) ⟨Z, Z, Z, trivial⟩ (pk [0, 1])
  refine WC.exit (te (te (WQ.block_exit ?_)))
  exact WQ.out1 i5_2 (up_brk hm69 hn42) ⟨Z, Z, Z, trivial⟩ (pk [0, 1])
 rintro i4_1 m70 hI71
 obtain ⟨m72, s73, rfl, hm74, hn75⟩ := iter_step hI71; clear hI71; unfold R2_May_L0 at hm74
 refine WC.seq (sr (wm Z (wf fd25_0 Z (wl pl22 Z (Own.cell 0 Z Z) (wq Z (QV.lenS Tryd.underlying22 Z Z h_l_logs.lenMap) (wq Z (QV.lss Z Z Z Z) (nt ?_)))))))
 refine wc Z hm74 (fun h76 hm77 => ?_) (fun h76 hm90 => ?_) <;> clear hm74
 ·skip
  refine sk (WQ.then (WC.seq (WC.block (sr (wf fd25_0 Z (wl pl22 Z (Own.cell 0 Z Z) (wm Z ?_)))))))
  obtain ⟨c78, hm79⟩ := cs hm77; clear hm77
  obtain ⟨p80, hp81⟩ := h_l_logs.lenMap.ix (sz := 1) ln_len c78
  refine wq Z (QV.indexSlice sl22 Z Z Z Z hp81) (wl pl3 Z (fun w hw => CellsAt.one 0 (((Own.karr 1 Z hk h_l_logs) w hw).ele hp81 c78) Z) ?_)
  obtain ⟨x82, hx83, hm84⟩ := bd_some hm79; clear hm79
  refine wq Z (QV.call en13 (ec Z (ec Z (ec Z eN))) (fun w hw => have h := R2_Within_w w hx83 ; h)) (wq Z (QV.not Z Z) (nt ?_))
  refine wc Z hm84 (fun h85 hm86 => ?_) (fun h85 hm87 => ?_) <;> clear hm84
  ·skip
   refine sr (wa Z (nt (WC.ret (kr (tr (tr (kr (tr (tr ?_)))))))))
   obtain rfl := up_ret hm86 hn75
   obtain rfl := (eq_of_some hm7).symm
   exact WQ.ret1 Z Z fun w hw => kg hw
  refine sk (WQ.block (WQ.then (WC.region (wm Z ?_))))
  obtain ⟨c88, hm89⟩ := cs hm87; clear hm87
  refine wq Z (QV.add Z Z Z Z c88) (wa Z (WL.nil ?_))
  exact WQ.again1 (i4_1 + 1) m72 (up_next hm89 hn75) (Nat.lt_succ_self _) ⟨Z, Z, Z, trivial⟩ (pk [0, 1])
 refine WC.exit (te (te (WQ.block_exit ?_)))
 exact WQ.out1 i4_1 (up_brk hm90 hn75) ⟨Z, Z, Z, trivial⟩ (pk [0, 1])
end Go.Proofs.YtaimbkndebaaiabDoor
end
section
namespace Go.Proofs.YtaimbkndebaaiabDoor
open Go.Rd
open TLib TBld TNum TLoop
namespace TPrt
theorem en10 : Go.Rd.Enters Tryd.prog 10 := eT Tryd.func10
theorem en11 : Go.Rd.Enters Tryd.prog 11 := eT Tryd.func11
theorem en12 : Go.Rd.Enters Tryd.prog 12 := eT Tryd.func12
theorem en23 : Go.Rd.Enters Tryd.prog 23 := eT Tryd.func23
theorem en24 : Go.Rd.Enters Tryd.prog 24 := eT Tryd.func24
theorem en25 : Go.Rd.Enters Tryd.prog 25 := eT Tryd.func25
theorem en31 : Go.Rd.Enters Tryd.prog 31 := eT Tryd.func31
theorem en7 : Go.Rd.Enters Tryd.prog 7 := eT Tryd.func7
theorem en8 : Go.Rd.Enters Tryd.prog 8 := eT Tryd.func8
theorem en9 : Go.Rd.Enters Tryd.prog 9 := eT Tryd.func9
theorem pl9 : Plain Tryd.prog 9 := ⟨_, Tryd.underlying9, rfl⟩
theorem sl51 : SliceT Tryd.prog 51 9 1 := ⟨Tryd.underlying51, by kernel_rfl⟩
theorem ze34 : ZeroT Tryd.prog 34 [.pointer none, .slice none 0 0] := by unfold ZeroT; kernel_rfl
end TPrt
open TPrt
theorem text_Print_c1_w {v_b_buf : Value} {b_b : Nat} {s : List UInt8} {b_addr : Bool} {b_buf : List UInt8} {r : Bool × List UInt8} {K0 : World} (hm : text_Print_c1_m s b_addr b_buf = some r) (h_b_buf : SliceLen v_b_buf b_buf.length) (M : Nat → Prop) (w : World) (hk : Base M K0 w) (hw0 : Own M w [blk b_b [selfV b_addr b_b, v_b_buf] 34, vec v_b_buf 5 1 (List.map bcell b_buf)] w) : Calls Tryd.prog 8 #[strV s, .pointer (some (⟨b_b, 0, none⟩))] w (fun e w' => ∃ X : Value × World, e = .returned (.tuple #[]) ∧ Own M w (kn M w.heap.size K0 X.2 :: [blk b_b [selfV r.1 b_b, X.1] 34, vec X.1 5 1 (List.map bcell r.2)]) w' ∧ SliceLen X.1 (r.2).length) := by
 unfold text_Print_c1_m at hm
 refine calls_of_WC (n := 6) (args := [strV s, .pointer (some (⟨b_b, 0, none⟩))]) Tryd.func8 Z Z (nl Z) ?_ (Own.startK hk hw0)
 refine WC.region (wm Z ?_)
 obtain ⟨c1, hm2⟩ := cs hm; clear hm
 refine wq Z (QV.strAddD Z Z Z Z c1) (WL.effect Z ?_)
 obtain ⟨x3, hx4, hm5⟩ := bd_some hm2; clear hm2
 refine (EV.callR (X := Value × World) (R := [blk b_b [selfV b_addr b_b, v_b_buf] 34, vec v_b_buf 5 1 (List.map bcell b_buf)]) (fun X => .tuple #[i_ x3.1, .nilIface]) (fun X => [blk b_b [selfV x3.2.2.1 b_b, X.1] 34, vec X.1 5 1 (List.map bcell x3.2.2.2)]) (fun X => X.2) (fun X => SliceLen X.1 (x3.2.2.2).length) hk (fun _ h => by cases h; decide) en9 (ec Z (ec Z eN)) (fun M w h1 h2 => have h := strings_Builder_WriteString_w hx4 h_b_buf M w h1 h2; h) (fun X6 hF6 hle6 => ?_))
 refine WL.nil ?_
 obtain rfl := (eq_of_some hm5).symm
 refine WQ.end0 Z (fun w hw => ?_)
 exact ⟨(X6.1, X6.2), Z, hw.pick [0, 1, 2] (by decide), hF6⟩
theorem text_number_w {n_ : Int} {r : List UInt8} (w : World) (hm : text_number_m n_ = some r) (hGl0 : Glb Tryd.prog w) : Calls Tryd.prog 23 #[.int .i64 n_] w (fun e w' => e = .returned (strV r) ∧ Grow w w') := by
 unfold text_number_m at hm
 have hk := Base.rfl (w := w)
 refine calls_of_WC (n := 5) (args := [i_ n_]) Tryd.func23 Z Z (nl Z) ?_ (Own.startK hk (Own.start w))
 have hGl := GlbM.of hGl0
 refine sr (wa Z (ns (wm Z ?_)))
 obtain ⟨x1, hx2, hm3⟩ := bd_some hm; clear hm
 refine wq Z (QV.call en31 (ec Z (ec Z eN)) (fun w hw => have h := FormatInt_w w hx2 (hGl.at hw); h)) (wa Z (nt (WC.ret ?_)))
 obtain rfl := (eq_of_some hm3).symm
 exact WQ.ret1 Z Z fun w hw => kg hw
theorem text_ref_w {r_ : Rf} {r : List UInt8} (w : World) (hm : text_ref_m r_ = some r) (hGl0 : Glb Tryd.prog w) : Calls Tryd.prog 24 #[.agg #[.int .i64 r_.st, .int .i64 r_.bk]] w (fun e w' => e = .returned (strV r) ∧ Grow w w') := by
 unfold text_ref_m at hm
 have hk := Base.rfl (w := w)
 refine calls_of_WC (n := 18) (args := [.agg #[i_ r_.st, i_ r_.bk]]) Tryd.func24 Z Z (nl Z) ?_ (Own.startK hk (Own.start w))
 have hGl := GlbM.of hGl0
 refine sr (WL.effect Z ?_)
 refine (EV.boxAgg (by decide) Z Z (fun b1 => ?_))
 refine wa Z (ns (wf fd42_0 Z (wl pl3 Z (Own.cell 0 Z Z) ?_)))
 obtain ⟨x2, hx3, hm4⟩ := bd_some hm; clear hm
 refine wq Z (QV.call en10 (ec Z eN) (fun w hw => have h := Itoa_w w hx3 (hGl.at hw); h)) ?_
 obtain ⟨c5, hm6⟩ := cs hm4; clear hm4
 refine wq Z (QV.strAddD Z Z Z Z c5) (wa Z (nt (WC.seq (sr (wf fd42_1 Z (wl pl3 Z (Own.cell 0 Z Z) (wq Z (QV.gtr Z Z Z Z) (nt ?_))))))))
 refine wc Z hm6 (fun h7 hm8 => ?_) (fun h7 hm16 => ?_) <;> clear hm6
 ·skip
  refine WC.region (wm Z (wf fd42_1 Z (wl pl3 Z (Own.cell 0 Z Z) ?_)))
  obtain ⟨x9, hx10, hm11⟩ := bd_some hm8; clear hm8
  refine wq Z (QV.call en10 (ec Z eN) (fun w hw => have h := Itoa_w w hx10 (hGl.at hw); h)) ?_
  obtain ⟨c12, c14, hm15⟩ := cs2 hm11; clear hm11
  refine wq Z (QV.strAddD Z Z Z Z c12) (wq Z (QV.strAddD Z Z Z Z c14) (wa Z (ns (wm Z (wa Z (nt (WC.ret ?_)))))))
  obtain rfl := (eq_of_some hm15).symm
  exact WQ.ret1 Z Z fun w hw => kg hw
 refine sk (WQ.then (sr (wm Z (wa Z (nt (WC.ret ?_))))))
 obtain rfl := (eq_of_some hm16).symm
 exact WQ.ret1 Z Z fun w hw => kg hw
theorem text_line_w {s : Stm} {r : List UInt8} (w : World) (hm : text_line_m s = some r) (hGl0 : Glb Tryd.prog w) : Calls Tryd.prog 11 #[.agg #[.int .i64 s.op, .int .i64 s.a.st, .int .i64 s.a.bk, .int .i64 s.b.st, .int .i64 s.b.bk, .int .i64 s.ar, .int .i64 s.sp, .int .i64 s.pl, .int .i64 s.n]] w (fun e w' => e = .returned (strV r) ∧ Grow w w') := by
 unfold text_line_m at hm
 have hk := Base.rfl (w := w)
 refine calls_of_WC (n := 57) (args := [.agg #[i_ s.op, i_ s.a.st, i_ s.a.bk, i_ s.b.st, i_ s.b.bk, i_ s.ar, i_ s.sp, i_ s.pl, i_ s.n]]) Tryd.func11 Z Z (nl Z) ?_ (Own.startK hk (Own.start w))
 have hGl := GlbM.of hGl0
 refine sr (WL.effect Z ?_)
 refine (EV.boxAgg (by decide) Z Z (fun b1 => ?_))
 refine wa Z (nt (WC.seq (WC.dr (m := 14) (S := Own noM w [kn noM w.heap.size w w, blk b1 s.cells 44]) (by kernel_rfl) (by kernel_rfl) (pk [1, 0]) (zf 0 fd44_3 Z Z (zl 1 pl3 Z Z (Own.cell 1 Z Z) ?_)))))
 obtain ⟨x2, hx3, hm4⟩ := bd_some hm; clear hm
 refine wz 2 Z Z (QV.call en10 (ec Z eN) (fun w hw => have h := Itoa_w w hx3 (hGl.at hw); h)) ?_
 obtain ⟨c5, hm6⟩ := cs hm4; clear hm4
 refine wz 3 Z Z (QV.strAddD Z Z Z Z c5) (zf 4 fd44_4 Z Z (zl 5 pl3 Z Z (Own.cell 1 Z Z) ?_))
 obtain ⟨x7, hx8, hm9⟩ := bd_some hm6; clear hm6
 refine wz 6 Z Z (QV.call en10 (ec Z eN) (fun w hw => have h := Itoa_w w hx8 (hGl.at hw); h)) ?_
 obtain ⟨c10, c12, hm13⟩ := cs2 hm9; clear hm9
 refine wz 7 Z Z (QV.strAddD Z Z Z Z c10) (wz 8 Z Z (QV.strAddD Z Z Z Z c12) (zf 9 fd44_5 Z Z (zl 10 pl3 Z Z (Own.cell 1 Z Z) ?_)))
 obtain ⟨x14, hx15, hm16⟩ := bd_some hm13; clear hm13
 refine wz 11 Z Z (QV.call en10 (ec Z eN) (fun w hw => have h := Itoa_w w hx15 (hGl.at hw); h)) ?_
 obtain ⟨c17, hm18⟩ := cs hm16; clear hm16
 refine wz 12 Z Z (QV.strAddD Z Z Z Z c17) (wz 13 Z Z (QV.assign Z Z) ?_)
 refine WD.e (by kernel_rfl) ?_
 refine WQ.then (WC.seq (sr (wf fd44_0 Z (wl pl3 Z (Own.cell 0 Z Z) (nt (WC.block (sr (wq Z (QV.eql Z Z Z Z) (wa Z (nt ?_))))))))))
 refine wc Z hm18 (fun h19 hm20 => ?_) (fun h19 hm26 => ?_) <;> clear hm18
 ·skip
  refine sr (wf fd44_6 Z (wl pl2 Z (Own.cell 0 Z Z) ?_))
  obtain ⟨x21, hx22, hm23⟩ := bd_some hm20; clear hm20
  refine wq Z (QV.call en23 (ec Z eN) (fun w hw => have h := text_number_w w hx22 (hGl.at hw); h)) ?_
  obtain ⟨c24, hm25⟩ := cs hm23; clear hm23
  refine wq Z (QV.strAddD Z Z Z Z c24) (wa Z (nt (WC.ret (kr (tr ?_)))))
  obtain rfl := (eq_of_some hm25).symm
  exact WQ.ret1 Z Z fun w hw => kg hw
 refine sr (wq Z (QV.eql Z Z Z Z) (wa Z (nt ?_)))
 refine wc Z hm26 (fun h27 hm28 => ?_) (fun h27 hm29 => ?_) <;> clear hm26
 ·skip
  refine sr (wa Z (nt (WC.ret (kr (tr ?_)))))
  obtain rfl := (eq_of_some hm28).symm
  exact WQ.ret1 Z Z fun w hw => kg hw
 refine sr (wq Z (QV.eql Z Z Z Z) (wa Z (nt ?_)))
 refine wc Z hm29 (fun h30 hm31 => ?_) (fun h30 hm34 => ?_) <;> clear hm29
 ·skip
  refine sr (wm Z ?_)
  obtain ⟨c32, hm33⟩ := cs hm31; clear hm31
  refine wq Z (QV.strAddD Z Z Z Z c32) (wa Z (nt (WC.ret (kr (tr ?_)))))
  obtain rfl := (eq_of_some hm33).symm
  exact WQ.ret1 Z Z fun w hw => kg hw
 refine sr (wq Z (QV.eql Z Z Z Z) (wa Z (nt ?_)))
 refine wc Z hm34 (fun h35 hm36 => ?_) (fun h35 hm46 => ?_) <;> clear hm34
 ·skip
  refine sr (wm Z ?_)
  obtain ⟨c37, c39, hm40⟩ := cs2 hm36; clear hm36
  refine wq Z (QV.strAddD Z Z Z Z c37) (wq Z (QV.strAddD Z Z Z Z c39) (wf fd44_1 Z (wq Z (QV.loadAgg ag42 Z Z Z (fun w hw => (Own.cellsBlk 0 Z w hw).sub 1 2 Z)) ?_)))
  obtain ⟨x41, hx42, hm43⟩ := bd_some hm40; clear hm40
  refine wq Z (QV.call en24 (ec Z eN) (fun w hw => have h := text_ref_w w hx42 (hGl.at hw); h)) ?_
  obtain ⟨c44, hm45⟩ := cs hm43; clear hm43
  refine wq Z (QV.strAddD Z Z Z Z c44) (wa Z (nt (WC.ret (kr (tr ?_)))))
  obtain rfl := (eq_of_some hm45).symm
  exact WQ.ret1 Z Z fun w hw => kg hw
 refine sk (WQ.block (WQ.then (WC.seq (WC.dr (m := 18) (S := Own noM w [kn noM w.heap.size w w, blk b1 s.cells 44]) (by kernel_rfl) (by kernel_rfl) (pk [1, 0]) ?_))))
 refine WD.toL 0 (by kernel_rfl) ?_
 refine WD.qL 1 0 2 Z (by kernel_rfl) Z Z Z (QV.fieldAddr fd44_0 Z Z) ?_
 refine WD.qL 2 2 6 Z (by kernel_rfl) Z Z Z (QV.load pl3 Z Z (Own.cell 1 Z Z)) ?_
 obtain ⟨c47, c49, hm50⟩ := cs2 hm46; clear hm46
 refine WD.qL 3 6 14 Z (by kernel_rfl) Z Z Z (QV.sub Z Z Z Z c47) ?_
 refine WD.qL 4 14 30 Z (by kernel_rfl) Z Z Z (QV.sub Z Z Z Z c49) ?_
 refine WD.qL 8 30 286 Z (by kernel_rfl) Z Z Z (QV.fieldAddr fd44_1 Z Z) ?_
 refine WD.qL 9 286 798 Z (by kernel_rfl) Z Z Z (QV.loadAgg ag42 Z Z Z (fun w hw => (Own.cellsBlk 1 Z w hw).sub 1 2 Z)) ?_
 refine WD.qL 13 798 8990 Z (by kernel_rfl) Z Z Z (QV.fieldAddr fd44_2 Z Z) ?_
 refine WD.qL 14 8990 25374 Z (by kernel_rfl) Z Z Z (QV.loadAgg ag42 Z Z Z (fun w hw => (Own.cellsBlk 1 Z w hw).sub 3 2 Z)) ?_
 refine WD.oL 0 25374 25375 Z (by kernel_rfl) Z ?_
 obtain ⟨x51, hx52, hm53⟩ := bd_some hm50; clear hm50
 refine EV.of (C' := Own noM w [kn noM w.heap.size w w, blk b1 s.cells 44]) (pk [1, 0]) ?_
 refine (EV.callRG (X := Value × World) (R := []) (fun X => X.1) (fun X => []) (fun X => X.2) (fun X => Arr X.2 X.1 1 (x51.map scell)) hGl hk (fun _ h => by cases h; decide) en25 (ec Z eN) (fun M w hG h1 h2 => have h := Fields_w hx52  M w hG h1 h2; h) (fun X54 hF54 hle54 => ?_))
 refine WD.b (H' := [kn noM w.heap.size w X54.2, blk b1 s.cells 44]) (pk [0, 1]) (fun w hw => Own.forget hle54 (Le.refl _) (hw.pick [0, 1] (by decide))) ?_
 obtain ⟨c55, hm56⟩ := cs hm53; clear hm53
 obtain ⟨p57, hp58⟩ := hF54.lenMap.ix (sz := 1) ln_len c55
 refine WD.qL 5 25375 25407 Z (by kernel_rfl) Z Z Z (QV.indexSlice sl51 Z Z Z Z hp58) ?_
 refine WD.qL 6 25407 25471 Z (by kernel_rfl) Z Z Z (QV.load pl9 Z Z (fun w hw => CellsAt.one 0 (((Own.karr 0 Z hk hF54) w hw).ele hp58 c55) Z)) ?_
 obtain ⟨c59, hm60⟩ := cs hm56; clear hm56
 refine WD.qL 7 25471 25599 Z (by kernel_rfl) Z Z Z (QV.strAddD Z Z Z Z c59) ?_
 obtain ⟨x61, hx62, hm63⟩ := bd_some hm60; clear hm60
 refine WD.qL 10 25599 26623 Z (by kernel_rfl) Z Z Z (QV.call en24 (ec Z eN) (fun w hw => have h := text_ref_w w hx62 (hGl.at hw); h)) ?_
 obtain ⟨c64, c66, hm67⟩ := cs2 hm63; clear hm63
 refine WD.qL 11 26623 28671 Z (by kernel_rfl) Z Z Z (QV.strAddD Z Z Z Z c64) ?_
 refine WD.qL 12 28671 32767 Z (by kernel_rfl) Z Z Z (QV.strAddD Z Z Z Z c66) ?_
 obtain ⟨x68, hx69, hm70⟩ := bd_some hm67; clear hm67
 refine WD.qL 15 32767 65535 Z (by kernel_rfl) Z Z Z (QV.call en24 (ec Z eN) (fun w hw => have h := text_ref_w w hx69 (hGl.at hw); h)) ?_
 obtain ⟨c71, hm72⟩ := cs hm70; clear hm70
 refine WD.qL 16 65535 131071 Z (by kernel_rfl) Z Z Z (QV.strAddD Z Z Z Z c71) ?_
 refine WD.qL 17 131071 262143 Z (by kernel_rfl) Z Z Z (QV.assign Z Z) ?_
 refine WD.eL (by kernel_rfl) ?_
 refine WQ.then (WC.ret ?_)
 obtain rfl := (eq_of_some hm72).symm
 exact WQ.ret1 Z Z fun w hw => kg hw
theorem text_Print_w {v_l_logs v_l_body v_l_outs : Value} {l : Lp} {r : List UInt8 × Int} (w : World) (hm : text_Print_m l = some r) (h_l_logs : Arr w v_l_logs 1 (l.logs.map icell)) (h_l_body : Arr w v_l_body 9 (l.body.map Stm.cells)) (h_l_outs : Arr w v_l_outs 1 (l.outs.map icell)) (hGl0 : Glb Tryd.prog w) : Calls Tryd.prog 4 #[.agg #[v_l_logs, v_l_body, v_l_outs]] w (fun e w' => e = .returned (.tuple #[strV r.1, .int .i64 r.2]) ∧ Grow w w') := by
 unfold text_Print_m at hm
 have hk := Base.rfl (w := w)
 refine calls_of_WC (n := 55) (args := [.agg #[v_l_logs, v_l_body, v_l_outs]]) Tryd.func4 Z Z (nl Z) ?_ (Own.startK hk (Own.start w))
 have hGl := GlbM.of hGl0
 refine sr (WL.effect Z ?_)
 refine (EV.boxAgg (by decide) Z Z (fun b1 => ?_))
 refine wa Z (wa Z (nt (WC.seq (sr (wq Z (QV.loadAgg ag25 Z Z Z (Own.cellsBlk 0 Z)) ?_)))))
 obtain ⟨x2, hx3, hm4⟩ := bd_some hm; clear hm
 refine wq Z (QV.call en7 (ec Z eN) (fun w hw => have h := loop_May_w w hx3 ((Own.karr 1 Z hk h_l_logs) w hw) ((Own.karr 1 Z hk h_l_body) w hw) ((Own.karr 1 Z hk h_l_outs) w hw); h)) (wq Z (QV.not Z Z) (nt ?_))
 refine wc Z hm4 (fun h5 hm6 => ?_) (fun h5 hm7 => ?_) <;> clear hm4
 ·skip
  refine sr (wa Z (wa Z (nt (WC.ret (tr ?_)))))
  obtain rfl := (eq_of_some hm6).symm
  exact WQ.ret2 Z Z Z fun w hw => kg hw
 refine sk (WQ.then (sr (WL.effect Z ?_)))
 refine (EV.alloc (by decide) ze34 (fun b8 => ?_))
 refine WK.of (C' := Own noM w [blk b8 [selfV false b8, .slice none 0 0] 34, blk b1 [v_l_logs, v_l_body, v_l_outs] 25, kn noM w.heap.size w w]) (fun w hw => hw) ?_
 refine ns (wq Z (QV.makeFunc (ec Z eN)) (wa Z (nt (WC.seq (sr (wf fd25_0 Z (wl pl22 Z (Own.cell 1 Z Z) (wq Z (QV.lenS Tryd.underlying22 Z Z h_l_logs.lenMap) (wm Z (nt ?_))))))))))
 refine WK.of (fun w hw => hw.vecNil (E := 5) (sz := 1) (enc := bcell)) ?_
 obtain ⟨o10, ho11, hm12⟩ := bd_some hm7; clear hm7; obtain ⟨n13, ho14⟩ := lp_some ho11
 refine WC.bloop5 (H2 := [blk b1 [v_l_logs, v_l_body, v_l_outs] 25]) (τ := [u_ 1 _, u_ 4 _, u_ 5 _, u_ 17 _, u_ 18 _]) (fun (v9_1 : List UInt8) (b8c0_1 : Bool) (x19_1 : Int) (uv9_1 : Value) (k_1 : World) => [(19, (true, i_ x19_1))]) (fun v9_1 b8c0_1 x19_1 uv9_1 k_1 => [vec uv9_1 5 1 (List.map bcell v9_1), blk b8 [selfV b8c0_1 b8, uv9_1] 34, kn noM w.heap.size w k_1]) (fun v9_1 b8c0_1 x19_1 uv9_1 k_1 m => iter (text_Print_L0 l) m (v9_1, b8c0_1, x19_1) = some o10 ∧ SliceLen uv9_1 v9_1.length ∧ Le w k_1) (fun v9_1 b8c0_1 x19_1 uv9_1 k_1 => o10 = .go (v9_1, b8c0_1, x19_1) ∧ SliceLen uv9_1 v9_1.length ∧ Le w k_1) [] false 0 (.slice none 0 0) w n13 ⟨ho14, SliceLen.nil, (Le.refl _)⟩ ⟨Z, Z, Z, Z, Z, Z, trivial⟩ (pk [0, 1, 3, 2]) ?_ ?_
 ·skip
  rintro v9_1 b8c0_1 x19_1 uv9_1 k_1 ⟨rfl, hlv9_1, hle_1⟩
  refine WQ.then (WC.seq (sr (wf fd25_1 Z (wl pl23 Z (Own.cell 3 Z Z) (wq Z (QV.lenS Tryd.underlying23 Z Z (h_l_body.le hle_1).lenMap) (wm Z (nt ?_)))))))
  obtain ⟨o15, ho16, hm17⟩ := bd_some hm12; clear hm12; obtain ⟨n18, ho19⟩ := lp_some ho16
  refine WC.bloop5 (H2 := [blk b1 [v_l_logs, v_l_body, v_l_outs] 25]) (τ := [u_ 1 _, u_ 4 _, u_ 5 _, u_ 30 _, u_ 31 _]) (fun (v9_2 : List UInt8) (b8c0_2 : Bool) (x32_2 : Int) (uv9_2 : Value) (k_2 : World) => [(32, (true, i_ x32_2))]) (fun v9_2 b8c0_2 x32_2 uv9_2 k_2 => [vec uv9_2 5 1 (List.map bcell v9_2), blk b8 [selfV b8c0_2 b8, uv9_2] 34, kn noM w.heap.size w k_2]) (fun v9_2 b8c0_2 x32_2 uv9_2 k_2 m => iter (text_Print_L2 l) m (v9_2, b8c0_2, x32_2) = some o15 ∧ SliceLen uv9_2 v9_2.length ∧ Le k_1 k_2) (fun v9_2 b8c0_2 x32_2 uv9_2 k_2 => o15 = .go (v9_2, b8c0_2, x32_2) ∧ SliceLen uv9_2 v9_2.length ∧ Le k_1 k_2) v9_1 b8c0_1 0 uv9_1 k_1 n18 ⟨ho19, hlv9_1, (Le.refl _)⟩ ⟨Z, Z, Z, Z, Z, Z, trivial⟩ (pk [0, 1, 2, 3]) ?_ ?_
  ·skip
   rintro v9_2 b8c0_2 x32_2 uv9_2 k_2 ⟨rfl, hlv9_2, hle_2⟩
   refine WQ.then (WC.seq (sr (wf fd25_2 Z (wl pl22 Z (Own.cell 3 Z Z) (wq Z (QV.lenS Tryd.underlying22 Z Z (h_l_outs.le (hle_1.trans hle_2)).lenMap) (wm Z (nt ?_)))))))
   obtain ⟨o20, ho21, hm22⟩ := bd_some hm17; clear hm17; obtain ⟨n23, ho24⟩ := lp_some ho21
   refine WC.bloop5 (H2 := [blk b1 [v_l_logs, v_l_body, v_l_outs] 25]) (τ := [u_ 4 _, u_ 5 _, u_ 42 _, u_ 43 _]) (fun (v9_3 : List UInt8) (b8c0_3 : Bool) (x44_3 : Int) (uv9_3 : Value) (k_3 : World) => [(44, (true, i_ x44_3))]) (fun v9_3 b8c0_3 x44_3 uv9_3 k_3 => [vec uv9_3 5 1 (List.map bcell v9_3), blk b8 [selfV b8c0_3 b8, uv9_3] 34, kn noM w.heap.size w k_3]) (fun v9_3 b8c0_3 x44_3 uv9_3 k_3 m => iter (text_Print_L4 l) m (v9_3, b8c0_3, x44_3) = some o20 ∧ SliceLen uv9_3 v9_3.length ∧ Le k_2 k_3) (fun v9_3 b8c0_3 x44_3 uv9_3 k_3 => o20 = .go (v9_3, b8c0_3, x44_3) ∧ SliceLen uv9_3 v9_3.length ∧ Le k_2 k_3) v9_2 b8c0_2 0 uv9_2 k_2 n23 ⟨ho24, hlv9_2, (Le.refl _)⟩ ⟨Z, Z, Z, Z, Z, trivial⟩ (pk [0, 1, 2, 3]) ?_ ?_
   ·skip
    rintro v9_3 b8c0_3 x44_3 uv9_3 k_3 ⟨rfl, hlv9_3, hle_3⟩
    refine WQ.then (sr (WL.effect Z ?_))
    obtain ⟨x25, hx26, hm27⟩ := bd_some hm22; clear hm22
    refine EV.of (C' := Own noM w [kn noM w.heap.size w k_3, blk b8 [selfV b8c0_3 b8, uv9_3] 34, vec uv9_3 5 1 (List.map bcell v9_3), blk b1 [v_l_logs, v_l_body, v_l_outs] 25]) (pk [2, 1, 0, 3]) ?_
    refine (EV.callR (X := World) (R := [blk b8 [selfV b8c0_3 b8, uv9_3] 34, vec uv9_3 5 1 (List.map bcell v9_3)]) (fun X => strV x25) (fun X => []) (fun X => X) (fun X => True) hk (fun _ h => by cases h; decide) en12 (ec Z eN) (fun M w h1 h2 => have h := strings_Builder_String_w hx26 hlv9_3 M w h1 h2; h) (fun X28 hF28 hle28 => ?_))
    refine wa Z (wa Z (nt (WC.ret ?_)))
    obtain rfl := (eq_of_some hm27).symm
    exact WQ.ret2 Z Z Z fun w hw => kg hw
   rintro v9_3 b8c0_3 x44_3 uv9_3 k_3 m29 ⟨hI30, hlv9_3, hle_3⟩
   obtain ⟨m31, s32, rfl, hm33, hn34⟩ := iter_step hI30; clear hI30; unfold text_Print_L4 at hm33; simp only at hm33
   refine sr (wq Z (QV.lss Z Z Z Z) (nt (WC.seq ?_)))
   refine wc Z hm33 (fun h35 hm36 => ?_) (fun h35 hm52 => ?_) <;> clear hm33
   ·skip
    refine sk (WQ.then (WC.seq (WC.block (sr ?_))))
    obtain ⟨c37, hm38⟩ := cs hm36; clear hm36
    obtain ⟨p39, hp40⟩ := (h_l_outs.le ((hle_1.trans hle_2).trans hle_3)).lenMap.ix (sz := 1) ln_len c37
    refine wq Z (QV.indexSlice sl22 Z Z Z Z hp40) (wl pl3 Z (fun w hw => CellsAt.one 0 (((Own.karr 2 Z hk (h_l_outs.le ((hle_1.trans hle_2).trans hle_3))) w hw).ele hp40 c37) Z) (wa Z (nr (wm Z (wm Z ?_)))))
    obtain ⟨x41, hx42, hm43⟩ := bd_some hm38; clear hm38
    refine wq Z (QV.call en10 (ec Z eN) (fun w hw => have h := Itoa_w w hx42 (hGl.at hw); h)) ?_
    obtain ⟨c44, hm45⟩ := cs hm43; clear hm43
    refine wq Z (QV.strAddD Z Z Z Z c44) (WL.effect Z ?_)
    obtain ⟨x46, hx47, hm48⟩ := bd_some hm45; clear hm45
    refine EV.of (C' := Own noM w [kn noM w.heap.size w k_3, blk b8 [selfV b8c0_3 b8, uv9_3] 34, vec uv9_3 5 1 (List.map bcell v9_3), blk b1 [v_l_logs, v_l_body, v_l_outs] 25]) (pk [2, 1, 0, 3]) ?_
    refine (EV.callRV (X := Value × World) (R := [blk b8 [selfV b8c0_3 b8, uv9_3] 34, vec uv9_3 5 1 (List.map bcell v9_3)]) (fun X => .tuple #[]) (fun X => [blk b8 [selfV x46.1 b8, X.1] 34, vec X.1 5 1 (List.map bcell x46.2)]) (fun X => X.2) (fun X => SliceLen X.1 (x46.2).length) hk (fun _ h => by cases h; decide) en8 Z Z (ec Z eN) (fun M w h1 h2 => have h := text_Print_c1_w hx47 hlv9_3 M w h1 h2; h) (fun X49 hF49 hle49 => ?_))
    refine WL.nil (WQ.block (WQ.then (WC.region ?_)))
    obtain ⟨c50, hm51⟩ := cs hm48; clear hm48
    refine wq Z (QV.add Z Z Z Z c50) (wm Z (WL.nil ?_))
    exact WQ.again5 x46.2 x46.1 (x44_3 + 1) X49.1 X49.2 m31 ⟨up_next hm51 hn34, hF49, (hle_3.trans hle49)⟩ (Nat.lt_succ_self _) ⟨Z, Z, Z, Z, Z, trivial⟩ (pk [2, 1, 0, 3])
   refine WC.exit (te (te (WQ.block_exit ?_)))
   exact WQ.out5 v9_3 b8c0_3 x44_3 uv9_3 k_3 ⟨up_brk hm52 hn34, hlv9_3, hle_3⟩ ⟨Z, Z, Z, Z, Z, trivial⟩ (pk [0, 1, 2, 3])
  rintro v9_2 b8c0_2 x32_2 uv9_2 k_2 m53 ⟨hI54, hlv9_2, hle_2⟩
  obtain ⟨m55, s56, rfl, hm57, hn58⟩ := iter_step hI54; clear hI54; unfold text_Print_L2 at hm57; simp only at hm57
  refine sr (wq Z (QV.lss Z Z Z Z) (nt (WC.seq ?_)))
  refine wc Z hm57 (fun h59 hm60 => ?_) (fun h59 hm75 => ?_) <;> clear hm57
  ·skip
   refine sk (WQ.then (WC.seq (WC.block (sr ?_))))
   obtain ⟨c61, hm62⟩ := cs hm60; clear hm60
   obtain ⟨p63, hp64⟩ := (h_l_body.le (hle_1.trans hle_2)).lenMap.ix (sz := 9) ln_len c61
   refine wq Z (QV.indexSlice sl23 Z Z Z Z hp64) (wq Z (QV.loadAgg ag44 Z Z Z (fun w hw => ((Own.karr 2 Z hk (h_l_body.le (hle_1.trans hle_2))) w hw).ele hp64 c61)) (WL.effect Z ?_))
   refine (EV.alloc (by decide) ze44 (fun b65 => ?_))
   refine WL.effect Z ?_
   refine (EV.store 0 Z Z Z Z Z Z (vs := (Stm.cells (ele l.body x32_2))) (show Value.cells _ = List.toArray _ from Z) sz44 (nl Z) (oc Z (oc Z (oc Z (oc Z (oc Z (oc Z (oc Z (oc Z (oc Z one_nil))))))))) ?_)
   refine nr (wm Z (wq Z (QV.loadAgg ag44 Z Z Z (Own.cellsBlk 0 Z)) ?_))
   obtain ⟨x66, hx67, hm68⟩ := bd_some hm62; clear hm62
   refine wq Z (QV.call en11 (ec Z eN) (fun w hw => have h := text_line_w w hx67 (hGl.at hw); h)) (WL.effect Z ?_)
   obtain ⟨x69, hx70, hm71⟩ := bd_some hm68; clear hm68
   refine EV.of (C' := Own noM w [kn noM w.heap.size w k_2, blk b8 [selfV b8c0_2 b8, uv9_2] 34, vec uv9_2 5 1 (List.map bcell v9_2), blk b65 (Stm.cells (ele l.body x32_2)) 44, blk b1 [v_l_logs, v_l_body, v_l_outs] 25]) (pk [3, 2, 1, 0, 4]) ?_
   refine (EV.callRV (X := Value × World) (R := [blk b8 [selfV b8c0_2 b8, uv9_2] 34, vec uv9_2 5 1 (List.map bcell v9_2)]) (fun X => .tuple #[]) (fun X => [blk b8 [selfV x69.1 b8, X.1] 34, vec X.1 5 1 (List.map bcell x69.2)]) (fun X => X.2) (fun X => SliceLen X.1 (x69.2).length) hk (fun _ h => by cases h; decide) en8 Z Z (ec Z eN) (fun M w h1 h2 => have h := text_Print_c1_w hx70 hlv9_2 M w h1 h2; h) (fun X72 hF72 hle72 => ?_))
   refine WL.nil (WQ.block (WQ.then (WC.region ?_)))
   obtain ⟨c73, hm74⟩ := cs hm71; clear hm71
   refine wq Z (QV.add Z Z Z Z c73) (wm Z (WL.nil ?_))
   exact WQ.again5 x69.2 x69.1 (x32_2 + 1) X72.1 X72.2 m55 ⟨up_next hm74 hn58, hF72, (hle_2.trans hle72)⟩ (Nat.lt_succ_self _) ⟨Z, Z, Z, Z, Z, Z, trivial⟩ (pk [2, 1, 0, 4])
  refine WC.exit (te (te (WQ.block_exit ?_)))
  exact WQ.out5 v9_2 b8c0_2 x32_2 uv9_2 k_2 ⟨up_brk hm75 hn58, hlv9_2, hle_2⟩ ⟨Z, Z, Z, Z, Z, Z, trivial⟩ (pk [0, 1, 2, 3])
 rintro v9_1 b8c0_1 x19_1 uv9_1 k_1 m76 ⟨hI77, hlv9_1, hle_1⟩
 obtain ⟨m78, s79, rfl, hm80, hn81⟩ := iter_step hI77; clear hI77; unfold text_Print_L0 at hm80; simp only at hm80
 refine sr (wq Z (QV.lss Z Z Z Z) (nt (WC.seq ?_)))
 refine wc Z hm80 (fun h82 hm83 => ?_) (fun h82 hm99 => ?_) <;> clear hm80
 ·skip
  refine sk (WQ.then (WC.seq (WC.block (sr ?_))))
  obtain ⟨c84, hm85⟩ := cs hm83; clear hm83
  obtain ⟨p86, hp87⟩ := (h_l_logs.le hle_1).lenMap.ix (sz := 1) ln_len c84
  refine wq Z (QV.indexSlice sl22 Z Z Z Z hp87) (wl pl3 Z (fun w hw => CellsAt.one 0 (((Own.karr 2 Z hk (h_l_logs.le hle_1)) w hw).ele hp87 c84) Z) (wa Z (nr (wm Z (wm Z ?_)))))
  obtain ⟨x88, hx89, hm90⟩ := bd_some hm85; clear hm85
  refine wq Z (QV.call en10 (ec Z eN) (fun w hw => have h := Itoa_w w hx89 (hGl.at hw); h)) ?_
  obtain ⟨c91, hm92⟩ := cs hm90; clear hm90
  refine wq Z (QV.strAddD Z Z Z Z c91) (WL.effect Z ?_)
  obtain ⟨x93, hx94, hm95⟩ := bd_some hm92; clear hm92
  refine EV.of (C' := Own noM w [kn noM w.heap.size w k_1, blk b8 [selfV b8c0_1 b8, uv9_1] 34, vec uv9_1 5 1 (List.map bcell v9_1), blk b1 [v_l_logs, v_l_body, v_l_outs] 25]) (pk [2, 1, 0, 3]) ?_
  refine (EV.callRV (X := Value × World) (R := [blk b8 [selfV b8c0_1 b8, uv9_1] 34, vec uv9_1 5 1 (List.map bcell v9_1)]) (fun X => .tuple #[]) (fun X => [blk b8 [selfV x93.1 b8, X.1] 34, vec X.1 5 1 (List.map bcell x93.2)]) (fun X => X.2) (fun X => SliceLen X.1 (x93.2).length) hk (fun _ h => by cases h; decide) en8 Z Z (ec Z eN) (fun M w h1 h2 => have h := text_Print_c1_w hx94 hlv9_1 M w h1 h2; h) (fun X96 hF96 hle96 => ?_))
  refine WL.nil (WQ.block (WQ.then (WC.region ?_)))
  obtain ⟨c97, hm98⟩ := cs hm95; clear hm95
  refine wq Z (QV.add Z Z Z Z c97) (wm Z (WL.nil ?_))
  exact WQ.again5 x93.2 x93.1 (x19_1 + 1) X96.1 X96.2 m78 ⟨up_next hm98 hn81, hF96, (hle_1.trans hle96)⟩ (Nat.lt_succ_self _) ⟨Z, Z, Z, Z, Z, Z, trivial⟩ (pk [2, 1, 0, 3])
 refine WC.exit (te (te (WQ.block_exit ?_)))
 exact WQ.out5 v9_1 b8c0_1 x19_1 uv9_1 k_1 ⟨up_brk hm99 hn81, hlv9_1, hle_1⟩ ⟨Z, Z, Z, Z, Z, Z, trivial⟩ (pk [0, 1, 2, 3])
end Go.Proofs.YtaimbkndebaaiabDoor
end
section
namespace Go.Proofs.YtaimbkndebaaiabDoor
open Go.Rd
open TLib TBld TNum TLoop TPrt
namespace TR14
theorem en15 : Go.Rd.Enters Tryd.prog 15 := eT Tryd.func15
theorem en16 : Go.Rd.Enters Tryd.prog 16 := eT Tryd.func16
theorem en17 : Go.Rd.Enters Tryd.prog 17 := eT Tryd.func17
theorem en18 : Go.Rd.Enters Tryd.prog 18 := eT Tryd.func18
theorem sz_32 : SliceZ Tryd.prog 32 5 1 [.int .u8 0] := ⟨Tryd.underlying32, by kernel_rfl⟩
theorem sz_51 : SliceZ Tryd.prog 51 9 1 [.string ByteArray.empty] := ⟨Tryd.underlying51, by kernel_rfl⟩
end TR14
open TR14
theorem R14_Digits_w {n_ : Int} {r : List UInt8} (w : World) (hm : R14_Digits_m n_ = some r)  : Calls Tryd.prog 16 #[.int .i64 n_] w (fun e w' => e = .returned (strV r) ∧ Grow w w') := by
 unfold R14_Digits_m at hm
 have hk := Base.rfl (w := w)
 refine calls_of_WC (n := 29) (args := [i_ n_]) Tryd.func16 Z Z (nl Z) ?_ (Own.startK hk (Own.start w))
 refine sr (wa Z (ns (wa Z (ns (wm Z (wa Z (nt (WC.seq ?_))))))))
 obtain ⟨o1, ho2, hm3⟩ := bd_some hm; clear hm; obtain ⟨n4, ho5⟩ := lp_some ho2
 refine WC.bloop2 (H2 := [kn noM w.heap.size w w]) (τ := [u_ 0 _]) (fun (s3_3 : List UInt8) (left4_3 : Int) => [(3, (true, strV s3_3)), (4, (true, i_ left4_3))]) (fun s3_3 left4_3 => []) (fun s3_3 left4_3 m => iter (R14_Digits_L0) m (s3_3, left4_3) = some o1) (fun s3_3 left4_3 => o1 = .go (s3_3, left4_3)) [] n_ n4 ho5 ⟨Z, Z, Z, trivial⟩ (pk [0]) ?_ ?_
 ·skip
  rintro s3_3 left4_3 rfl
  refine WQ.then (WC.seq (sr (wm Z (wq Z (QV.lss Z Z Z Z) (nt ?_)))))
  refine wc Z hm3 (fun h6 hm7 => ?_) (fun h6 hm10 => ?_) <;> clear hm3
  ·skip
   refine sr (wm Z ?_)
   obtain ⟨c8, hm9⟩ := cs hm7; clear hm7
   refine wq Z (QV.strAddD Z Z Z Z c8) (wa Z (nt (WC.ret (tr ?_))))
   obtain rfl := (eq_of_some hm9).symm
   exact WQ.ret1 Z Z fun w hw => kg hw
  refine sk (WQ.then (sr (wm Z (wa Z (nt (WC.ret ?_))))))
  obtain rfl := (eq_of_some hm10).symm
  exact WQ.ret1 Z Z fun w hw => kg hw
 rintro s3_3 left4_3 m11 hI12
 obtain ⟨m13, s14, rfl, hm15, hn16⟩ := iter_step hI12; clear hI12; unfold R14_Digits_L0 at hm15; simp only at hm15
 refine WC.block (sr (wm Z (wq Z (QV.rem Z Z Z Z (by decide)) (wa Z (nt (WC.seq (sr (wm Z (wq Z (QV.lss Z Z Z Z) (nt ?_))))))))))
 obtain ⟨o17, hj18, hm19⟩ := bd_some hm15; clear hm15
 refine WC.joint1 (H2 := [kn noM w.heap.size w w]) (τ := [u_ 0 _, u_ 3 _, u_ 4 _]) (fun (d5_4 : Int) => [(5, (true, i_ d5_4))]) (fun d5_4 => []) (fun d5_4 => o17 = .go d5_4) ⟨Z, Z, Z, trivial⟩ (pk [0]) ?_ ?_
 ·skip
  rintro d5_4 rfl
  refine sr (wm Z ?_)
  obtain ⟨c20, c23, c25, hm26⟩ := cs3 hm19; clear hm19
  refine wq Z (QV.add Z Z Z Z c20) (wq Z (QV.eqv (wrap_bt (48 + d5_4)) (QV.intToInt Tryd.underlying5 Tryd.underlying2 Z Z)) (WL.effect Z ?_))
  refine (EV.buildSlice (by decide) sz_32 (by decide) (by decide) (ps := [(0, .tmp 15)]) (cells := [.int .u8 ((bt (48 + d5_4)).toNat : Int)]) (ec Z eN) (by kernel_rfl) (fun b22 => ?_))
  refine wq Z (QV.strOf Tryd.underlying32 Tryd.underlying5 Tryd.underlying9 Z Z (Own.blkArr 0 (rows := [(bt (48 + d5_4))].map bcell) Z Z (rows_len bcell_len))) (wm Z (wq Z (QV.strAddD Z Z Z Z c23) (wa Z (ns (wm Z (wq Z (QV.quo Z Z Z Z (by decide) c25) (wa Z (ns (wm Z ?_)))))))))
  refine wq Z (QV.eql Z Z Z Z) (nt ?_)
  refine wc Z hm26 (fun h27 hm28 => ?_) (fun h27 hm29 => ?_) <;> clear hm26
  ·skip
   refine WC.exit (WQ.block_other (by decide) (te (WQ.block_exit ?_)))
   exact WQ.out2 ([(bt (48 + d5_4))] ++ s3_3) (Int.tdiv left4_3 10) (up_brk hm28 hn16) ⟨Z, Z, Z, trivial⟩ (pk [1])
  refine sk (WQ.block ?_)
  exact WQ.again2 ([(bt (48 + d5_4))] ++ s3_3) (Int.tdiv left4_3 10) m13 (up_next hm29 hn16) (Nat.lt_succ_self _) ⟨Z, Z, Z, trivial⟩ (pk [1])
 refine WC.cond Z (fun h30 => ?_) (fun h30 => ?_)
 ·skip
  have hm31 := br_t h30 hj18; clear hj18
  refine WC.region (wm Z ?_)
  obtain ⟨c32, hm33⟩ := cs hm31; clear hm31
  refine wq Z (QV.neg Z Z c32) (wa Z (WL.nil ?_))
  exact WQ.out1 (-(Int.tmod left4_3 10)) (eq_of_some hm33) ⟨Z, Z, Z, Z, trivial⟩ (pk [0])
 have hm34 := br_f h30 hj18; clear hj18
 refine sk ?_
 exact WQ.out1 (Int.tmod left4_3 10) (eq_of_some hm34) ⟨Z, Z, Z, Z, trivial⟩ (pk [0])
theorem R14_d_w {n_ : Int} {r : List UInt8} (w : World) (hm : R14_d_m n_ = some r)  : Calls Tryd.prog 15 #[.int .i64 n_] w (fun e w' => e = .returned (strV r) ∧ Grow w w') := by
 unfold R14_d_m at hm
 have hk := Base.rfl (w := w)
 refine calls_of_WC (n := 5) (args := [i_ n_]) Tryd.func15 Z Z (nl Z) ?_ (Own.startK hk (Own.start w))
 refine sr (wa Z (ns (wm Z ?_)))
 obtain ⟨x1, hx2, hm3⟩ := bd_some hm; clear hm
 refine wq Z (QV.call en16 (ec Z eN) (fun w hw => have h := R14_Digits_w w hx2 ; h)) (wa Z (nt (WC.ret ?_)))
 obtain rfl := (eq_of_some hm3).symm
 exact WQ.ret1 Z Z fun w hw => kg hw
theorem R14_ref_w {r_ : Rf} {r : List UInt8} (w : World) (hm : R14_ref_m r_ = some r)  : Calls Tryd.prog 17 #[.agg #[.int .i64 r_.st, .int .i64 r_.bk]] w (fun e w' => e = .returned (strV r) ∧ Grow w w') := by
 unfold R14_ref_m at hm
 have hk := Base.rfl (w := w)
 refine calls_of_WC (n := 19) (args := [.agg #[i_ r_.st, i_ r_.bk]]) Tryd.func17 Z Z (nl Z) ?_ (Own.startK hk (Own.start w))
 refine sr (WL.effect Z ?_)
 refine (EV.boxAgg (by decide) Z Z (fun b1 => ?_))
 refine wa Z (nt (WC.seq (sr (wf fd42_1 Z (wl pl3 Z (Own.cell 0 Z Z) (wq Z (QV.eql Z Z Z Z) (nt ?_)))))))
 refine wc Z hm (fun h2 hm3 => ?_) (fun h2 hm9 => ?_) <;> clear hm
 ·skip
  refine sr (wf fd42_0 Z (wl pl3 Z (Own.cell 0 Z Z) ?_))
  obtain ⟨x4, hx5, hm6⟩ := bd_some hm3; clear hm3
  refine wq Z (QV.call en15 (ec Z eN) (fun w hw => have h := R14_d_w w hx5 ; h)) ?_
  obtain ⟨c7, hm8⟩ := cs hm6; clear hm6
  refine wq Z (QV.strAddD Z Z Z Z c7) (wa Z (nt (WC.ret (tr ?_))))
  obtain rfl := (eq_of_some hm8).symm
  exact WQ.ret1 Z Z fun w hw => kg hw
 refine sk (WQ.then (WC.seq (WC.dr (m := 10) (S := Own noM w [kn noM w.heap.size w w, blk b1 [i_ r_.st, i_ r_.bk] 42]) (by kernel_rfl) (by kernel_rfl) (pk [1, 0]) (zf 0 fd42_0 Z Z (zl 1 pl3 Z Z (Own.cell 1 Z Z) ?_)))))
 obtain ⟨x10, hx11, hm12⟩ := bd_some hm9; clear hm9
 refine wz 2 Z Z (QV.call en15 (ec Z eN) (fun w hw => have h := R14_d_w w hx11 ; h)) ?_
 obtain ⟨c13, c15, hm16⟩ := cs2 hm12; clear hm12
 refine wz 3 Z Z (QV.strAddD Z Z Z Z c13) (wz 4 Z Z (QV.strAddD Z Z Z Z c15) (zf 5 fd42_1 Z Z (zl 6 pl3 Z Z (Own.cell 1 Z Z) ?_)))
 obtain ⟨x17, hx18, hm19⟩ := bd_some hm16; clear hm16
 refine wz 7 Z Z (QV.call en15 (ec Z eN) (fun w hw => have h := R14_d_w w hx18 ; h)) ?_
 obtain ⟨c20, hm21⟩ := cs hm19; clear hm19
 refine wz 8 Z Z (QV.strAddD Z Z Z Z c20) (wz 9 Z Z (QV.assign Z Z) ?_)
 refine WD.e (by kernel_rfl) ?_
 refine WQ.then (WC.ret ?_)
 obtain rfl := (eq_of_some hm21).symm
 exact WQ.ret1 Z Z fun w hw => kg hw
theorem R14_words_w {r : List (List UInt8)} {K0 : World} (hm : R14_words_m  = some r)  (M : Nat → Prop) (w : World) (hk : Base M K0 w) (hw0 : Own M w [] w) : Calls Tryd.prog 18 #[] w (fun e w' => ∃ X : Value × World, e = .returned (X.1) ∧ Own M w (kn M w.heap.size K0 X.2 :: []) w' ∧ Arr X.2 X.1 1 (r.map scell)) := by
 unfold R14_words_m at hm
 refine calls_of_WC (n := 2) (args := []) Tryd.func18 Z Z (nl Z) ?_ (Own.startK hk hw0)
 refine sr (wa Z (ns (WL.effect Z ?_)))
 refine (EV.buildSlice (by decide) sz_51 (by decide) (by decide) (ps := [(0, .const (strV [97, 100, 100])), (1, .const (strV [115, 117, 98])), (2, .const (strV [109, 117, 108])), (3, .const (strV [97, 110, 100])), (4, .const (strV [111, 114])), (5, .const (strV [120, 111, 114])), (6, .const (strV [108, 101, 115, 115])), (7, .const (strV [115, 97, 109, 101]))]) (cells := [strV [97, 100, 100], strV [115, 117, 98], strV [109, 117, 108], strV [97, 110, 100], strV [111, 114], strV [120, 111, 114], strV [108, 101, 115, 115], strV [115, 97, 109, 101]]) (ec Z (ec Z (ec Z (ec Z (ec Z (ec Z (ec Z (ec Z eN)))))))) (by kernel_rfl) (fun b1 => ?_))
 refine wa Z (nt (WC.ret ?_))
 obtain rfl := (eq_of_some hm).symm
 refine WK.of (fun w hw => hw.blkVec scell ([[97, 100, 100], [115, 117, 98], [109, 117, 108], [97, 110, 100], [111, 114], [120, 111, 114], [108, 101, 115, 115], [115, 97, 109, 101]] : List (List UInt8)) Z scell_len (nl Z)) ?_
 refine WK.of (C' := Own M w [kn M w.heap.size K0 K0, vec (blkSlice b1 8 8) 9 1 (List.map scell [[97, 100, 100], [115, 117, 98], [109, 117, 108], [97, 110, 100], [111, 114], [120, 111, 114], [108, 101, 115, 115], [115, 97, 109, 101]])]) (pk [1, 0]) ?_
 refine WK.freeze hk (fun k2 hle2 hr2 => ?_)
 have hA2 := vec_arr hr2
 refine WQ.ret1 Z Z (fun w hw => ?_)
 exact ⟨((blkSlice b1 8 8), k2), Z, hw.pick [0] (by decide), hA2⟩
theorem R14_Text_w {v_l_logs v_l_body v_l_outs : Value} {l : Lp} {r : List UInt8} (w : World) (hm : R14_Text_m l = some r) (h_l_logs : Arr w v_l_logs 1 (l.logs.map icell)) (h_l_body : Arr w v_l_body 9 (l.body.map Stm.cells)) (h_l_outs : Arr w v_l_outs 1 (l.outs.map icell)) : Calls Tryd.prog 6 #[.agg #[v_l_logs, v_l_body, v_l_outs]] w (fun e w' => e = .returned (strV r) ∧ Grow w w') := by
 unfold R14_Text_m at hm
 have hk := Base.rfl (w := w)
 refine calls_of_WC (n := 121) (args := [.agg #[v_l_logs, v_l_body, v_l_outs]]) Tryd.func6 Z Z (nl Z) ?_ (Own.startK hk (Own.start w))
 refine sr (WL.effect Z ?_)
 refine (EV.boxAgg (by decide) Z Z (fun b1 => ?_))
 refine wa Z (ns (wa Z (nt (WC.seq (sr (wa Z (nt ?_)))))))
 obtain ⟨o2, ho3, hm4⟩ := bd_some hm; clear hm; obtain ⟨n5, ho6⟩ := lp_some ho3
 refine WC.bloop2 (H2 := [blk b1 [v_l_logs, v_l_body, v_l_outs] 25, kn noM w.heap.size w w]) (τ := [u_ 1 _]) (fun (s3_1 : List UInt8) (i4_1 : Int) => [(3, (true, strV s3_1)), (4, (true, i_ i4_1))]) (fun s3_1 i4_1 => []) (fun s3_1 i4_1 m => iter (R14_Text_L0 l) m (s3_1, i4_1) = some o2) (fun s3_1 i4_1 => o2 = .go (s3_1, i4_1)) [] 0 n5 ho6 ⟨Z, Z, Z, trivial⟩ (pk [0, 1]) ?_ ?_
 ·skip
  rintro s3_1 i4_1 rfl
  refine WQ.then (WC.seq (sr (wa Z (nt ?_))))
  obtain ⟨o7, ho8, hm9⟩ := bd_some hm4; clear hm4; obtain ⟨n10, ho11⟩ := lp_some ho8
  refine WC.bloop3 (H2 := [blk b1 [v_l_logs, v_l_body, v_l_outs] 25]) (τ := [u_ 1 _]) (fun (s3_2 : List UInt8) (i5_2 : Int) (k_2 : World) => [(3, (true, strV s3_2)), (5, (true, i_ i5_2))]) (fun s3_2 i5_2 k_2 => [kn noM w.heap.size w k_2]) (fun s3_2 i5_2 k_2 m => iter (R14_Text_L2 l) m (s3_2, i5_2) = some o7 ∧ Le w k_2) (fun s3_2 i5_2 k_2 => o7 = .go (s3_2, i5_2) ∧ Le w k_2) s3_1 0 w n10 ⟨ho11, (Le.refl _)⟩ ⟨Z, Z, Z, trivial⟩ (pk [1, 0]) ?_ ?_
  ·skip
   rintro s3_2 i5_2 k_2 ⟨rfl, hle_2⟩
   refine WQ.then (WC.seq (sr (wa Z (nt ?_))))
   obtain ⟨o12, ho13, hm14⟩ := bd_some hm9; clear hm9; obtain ⟨n15, ho16⟩ := lp_some ho13
   refine WC.bloop2 (H2 := [kn noM w.heap.size w k_2, blk b1 [v_l_logs, v_l_body, v_l_outs] 25]) (τ := [u_ 1 _]) (fun (s3_3 : List UInt8) (i9_3 : Int) => [(3, (true, strV s3_3)), (9, (true, i_ i9_3))]) (fun s3_3 i9_3 => []) (fun s3_3 i9_3 m => iter (R14_Text_L5 l) m (s3_3, i9_3) = some o12) (fun s3_3 i9_3 => o12 = .go (s3_3, i9_3)) s3_2 0 n15 ho16 ⟨Z, Z, Z, trivial⟩ (pk [0, 1]) ?_ ?_
   ·skip
    rintro s3_3 i9_3 rfl
    refine WQ.then (sr (wm Z (wa Z (nt (WC.ret ?_)))))
    obtain rfl := (eq_of_some hm14).symm
    exact WQ.ret1 Z Z fun w hw => kg hw
   rintro s3_3 i9_3 m17 hI18
   obtain ⟨m19, s20, rfl, hm21, hn22⟩ := iter_step hI18; clear hI18; unfold R14_Text_L5 at hm21; simp only at hm21
   refine WC.seq (sr (wm Z (wf fd25_2 Z (wl pl22 Z (Own.cell 1 Z Z) (wq Z (QV.lenS Tryd.underlying22 Z Z (h_l_outs.le hle_2).lenMap) (wq Z (QV.lss Z Z Z Z) (nt ?_)))))))
   refine wc Z hm21 (fun h23 hm24 => ?_) (fun h23 hm40 => ?_) <;> clear hm21
   ·skip
    refine sk (WQ.then (WC.seq (WC.block (WC.region (wm Z ?_)))))
    obtain ⟨c25, c27, hm28⟩ := cs2 hm24; clear hm24
    refine wq Z (QV.strAddD Z Z Z Z c25) (wf fd25_2 Z (wl pl22 Z (Own.cell 1 Z Z) (wm Z ?_)))
    obtain ⟨p29, hp30⟩ := (h_l_outs.le hle_2).lenMap.ix (sz := 1) ln_len c27
    refine wq Z (QV.indexSlice sl22 Z Z Z Z hp30) (wl pl3 Z (fun w hw => CellsAt.one 0 (((Own.karr 0 Z hk (h_l_outs.le hle_2)) w hw).ele hp30 c27) Z) ?_)
    obtain ⟨x31, hx32, hm33⟩ := bd_some hm28; clear hm28
    refine wq Z (QV.call en15 (ec Z eN) (fun w hw => have h := R14_d_w w hx32 ; h)) ?_
    obtain ⟨c34, c36, c38, hm39⟩ := cs3 hm33; clear hm33
    refine wq Z (QV.strAddD Z Z Z Z c34) (wq Z (QV.strAddD Z Z Z Z c36) (wa Z (WL.nil (WQ.block (WQ.then (WC.region (wm Z (wq Z (QV.add Z Z Z Z c38) (wa Z (WL.nil ?_))))))))))
    exact WQ.again2 (((s3_3 ++ [111, 117, 116, 32]) ++ x31) ++ [10]) (i9_3 + 1) m19 (up_next hm39 hn22) (Nat.lt_succ_self _) ⟨Z, Z, Z, trivial⟩ (pk [0, 1])
   refine WC.exit (te (te (WQ.block_exit ?_)))
   exact WQ.out2 s3_3 i9_3 (up_brk hm40 hn22) ⟨Z, Z, Z, trivial⟩ (pk [0, 1])
  rintro s3_2 i5_2 k_2 m41 ⟨hI42, hle_2⟩
  obtain ⟨m43, s44, rfl, hm45, hn46⟩ := iter_step hI42; clear hI42; unfold R14_Text_L2 at hm45; simp only at hm45
  refine WC.seq (sr (wm Z (wf fd25_1 Z (wl pl23 Z (Own.cell 1 Z Z) (wq Z (QV.lenS Tryd.underlying23 Z Z (h_l_body.le hle_2).lenMap) (wq Z (QV.lss Z Z Z Z) (nt ?_)))))))
  refine wc Z hm45 (fun h47 hm48 => ?_) (fun h47 hm151 => ?_) <;> clear hm45
  ·skip
   refine sk (WQ.then (WC.seq (WC.block (sr (wf fd25_1 Z (wl pl23 Z (Own.cell 1 Z Z) (wm Z ?_)))))))
   obtain ⟨c49, hm50⟩ := cs hm48; clear hm48
   obtain ⟨p51, hp52⟩ := (h_l_body.le hle_2).lenMap.ix (sz := 9) ln_len c49
   refine wq Z (QV.indexSlice sl23 Z Z Z Z hp52) (wq Z (QV.loadAgg ag44 Z Z Z (fun w hw => ((Own.karr 0 Z hk (h_l_body.le hle_2)) w hw).ele hp52 c49)) (WL.effect Z ?_))
   refine (EV.alloc (by decide) ze44 (fun b53 => ?_))
   refine WL.effect Z ?_
   refine (EV.store 0 Z Z Z Z Z Z (vs := (Stm.cells (ele l.body i5_2))) (show Value.cells _ = List.toArray _ from Z) sz44 (nl Z) (oc Z (oc Z (oc Z (oc Z (oc Z (oc Z (oc Z (oc Z (oc Z one_nil))))))))) ?_)
   refine nt (WC.seq (WC.dr (m := 15) (S := Own noM w [kn noM w.heap.size w k_2, blk b53 (Stm.cells (ele l.body i5_2)) 44, blk b1 [v_l_logs, v_l_body, v_l_outs] 25]) (by kernel_rfl) (by kernel_rfl) (pk [1, 0, 2]) (zf 0 fd44_3 Z Z (zl 1 pl3 Z Z (Own.cell 1 Z Z) ?_))))
   obtain ⟨x54, hx55, hm56⟩ := bd_some hm50; clear hm50
   refine wz 2 Z Z (QV.call en15 (ec Z eN) (fun w hw => have h := R14_d_w w hx55 ; h)) ?_
   obtain ⟨c57, c59, hm60⟩ := cs2 hm56; clear hm56
   refine wz 3 Z Z (QV.strAddD Z Z Z Z c57) (wz 4 Z Z (QV.strAddD Z Z Z Z c59) (zf 5 fd44_4 Z Z (zl 6 pl3 Z Z (Own.cell 1 Z Z) ?_)))
   obtain ⟨x61, hx62, hm63⟩ := bd_some hm60; clear hm60
   refine wz 7 Z Z (QV.call en15 (ec Z eN) (fun w hw => have h := R14_d_w w hx62 ; h)) ?_
   obtain ⟨c64, c66, hm67⟩ := cs2 hm63; clear hm63
   refine wz 8 Z Z (QV.strAddD Z Z Z Z c64) (wz 9 Z Z (QV.strAddD Z Z Z Z c66) (zf 10 fd44_5 Z Z (zl 11 pl3 Z Z (Own.cell 1 Z Z) ?_)))
   obtain ⟨x68, hx69, hm70⟩ := bd_some hm67; clear hm67
   refine wz 12 Z Z (QV.call en15 (ec Z eN) (fun w hw => have h := R14_d_w w hx69 ; h)) ?_
   obtain ⟨c71, hm72⟩ := cs hm70; clear hm70
   refine wz 13 Z Z (QV.strAddD Z Z Z Z c71) (wz 14 Z Z (QV.assign Z Z) ?_)
   refine WD.e (by kernel_rfl) ?_
   refine WQ.then (WC.seq (sr (wf fd44_0 Z (wl pl3 Z (Own.cell 0 Z Z) (nt (WC.block (sr (wq Z (QV.eql Z Z Z Z) (wa Z (nt ?_))))))))))
   refine wc Z hm72 (fun h73 hm74 => ?_) (fun h73 hm86 => ?_) <;> clear hm72
   ·skip
    refine WC.region (wm Z ?_)
    obtain ⟨c75, hm76⟩ := cs hm74; clear hm74
    refine wq Z (QV.strAddD Z Z Z Z c75) (wf fd44_6 Z (wl pl2 Z (Own.cell 0 Z Z) ?_))
    obtain ⟨x77, hx78, hm79⟩ := bd_some hm76; clear hm76
    refine wq Z (QV.call en16 (ec Z eN) (fun w hw => have h := R14_Digits_w w hx78 ; h)) ?_
    obtain ⟨c80, c82, c84, hm85⟩ := cs3 hm79; clear hm79
    refine wq Z (QV.strAddD Z Z Z Z c80) (wa Z (WL.nil (WQ.block (WQ.then (WC.region (wm Z (wq Z (QV.strAddD Z Z Z Z c82) (wa Z (WL.nil (WQ.block (WQ.then (WC.region (wm Z (wq Z (QV.add Z Z Z Z c84) (wa Z ?_)))))))))))))))
    refine WL.nil ?_
    exact WQ.again3 (((s3_2 ++ [99, 111, 110, 115, 116, 32]) ++ x77) ++ [10]) (i5_2 + 1) k_2 m43 ⟨up_next hm85 hn46, hle_2⟩ (Nat.lt_succ_self _) ⟨Z, Z, Z, trivial⟩ (pk [1, 2])
   refine sr (wq Z (QV.eql Z Z Z Z) (wa Z (nt ?_)))
   refine wc Z hm86 (fun h87 hm88 => ?_) (fun h87 hm95 => ?_) <;> clear hm86
   ·skip
    refine WC.region (wm Z ?_)
    obtain ⟨c89, c91, c93, hm94⟩ := cs3 hm88; clear hm88
    refine wq Z (QV.strAddD Z Z Z Z c89) (wa Z (WL.nil (WQ.block (WQ.then (WC.region (wm Z (wq Z (QV.strAddD Z Z Z Z c91) (wa Z (WL.nil (WQ.block (WQ.then (WC.region (wm Z (wq Z (QV.add Z Z Z Z c93) (wa Z ?_)))))))))))))))
    refine WL.nil ?_
    exact WQ.again3 ((s3_2 ++ [116, 117, 114, 110]) ++ [10]) (i5_2 + 1) k_2 m43 ⟨up_next hm94 hn46, hle_2⟩ (Nat.lt_succ_self _) ⟨Z, Z, Z, trivial⟩ (pk [1, 2])
   refine sr (wq Z (QV.eql Z Z Z Z) (wa Z (nt ?_)))
   refine wc Z hm95 (fun h96 hm97 => ?_) (fun h96 hm106 => ?_) <;> clear hm95
   ·skip
    refine WC.region (wm Z ?_)
    obtain ⟨c98, c100, c102, c104, hm105⟩ := cs4 hm97; clear hm97
    refine wq Z (QV.strAddD Z Z Z Z c98) (wm Z (wq Z (QV.strAddD Z Z Z Z c100) (wa Z (WL.nil (WQ.block (WQ.then (WC.region (wm Z (wq Z (QV.strAddD Z Z Z Z c102) (wa Z (WL.nil (WQ.block (WQ.then (WC.region (wm Z ?_)))))))))))))))
    refine wq Z (QV.add Z Z Z Z c104) (wa Z (WL.nil ?_))
    exact WQ.again3 (((s3_2 ++ [108, 111, 97, 100]) ++ ((((([32] ++ x54) ++ [32]) ++ x61) ++ [32]) ++ x68)) ++ [10]) (i5_2 + 1) k_2 m43 ⟨up_next hm105 hn46, hle_2⟩ (Nat.lt_succ_self _) ⟨Z, Z, Z, trivial⟩ (pk [1, 2])
   refine sr (wq Z (QV.eql Z Z Z Z) (wa Z (nt ?_)))
   refine wc Z hm106 (fun h107 hm108 => ?_) (fun h107 hm122 => ?_) <;> clear hm106
   ·skip
    refine WC.region (wm Z ?_)
    obtain ⟨c109, c111, hm112⟩ := cs2 hm108; clear hm108
    refine wq Z (QV.strAddD Z Z Z Z c109) (wm Z (wq Z (QV.strAddD Z Z Z Z c111) (wf fd44_1 Z (wq Z (QV.loadAgg ag42 Z Z Z (fun w hw => (Own.cellsBlk 0 Z w hw).sub 1 2 Z)) ?_))))
    obtain ⟨x113, hx114, hm115⟩ := bd_some hm112; clear hm112
    refine wq Z (QV.call en17 (ec Z eN) (fun w hw => have h := R14_ref_w w hx114 ; h)) ?_
    obtain ⟨c116, c118, c120, hm121⟩ := cs3 hm115; clear hm115
    refine wq Z (QV.strAddD Z Z Z Z c116) (wa Z (WL.nil (WQ.block (WQ.then (WC.region (wm Z (wq Z (QV.strAddD Z Z Z Z c118) (wa Z (WL.nil (WQ.block (WQ.then (WC.region (wm Z (wq Z (QV.add Z Z Z Z c120) (wa Z ?_)))))))))))))))
    refine WL.nil ?_
    exact WQ.again3 ((((s3_2 ++ [115, 116, 111, 114, 101]) ++ ((((([32] ++ x54) ++ [32]) ++ x61) ++ [32]) ++ x68)) ++ x113) ++ [10]) (i5_2 + 1) k_2 m43 ⟨up_next hm121 hn46, hle_2⟩ (Nat.lt_succ_self _) ⟨Z, Z, Z, trivial⟩ (pk [1, 2])
   refine sr (WL.effect Z ?_)
   obtain ⟨x123, hx124, hm125⟩ := bd_some hm122; clear hm122
   refine EV.of (C' := Own noM w [kn noM w.heap.size w k_2, blk b53 (Stm.cells (ele l.body i5_2)) 44, blk b1 [v_l_logs, v_l_body, v_l_outs] 25]) (pk [1, 0, 2]) ?_
   refine (EV.callR (X := Value × World) (R := []) (fun X => X.1) (fun X => []) (fun X => X.2) (fun X => Arr X.2 X.1 1 (x123.map scell)) hk (fun _ h => by cases h; decide) en18 eN (fun M w h1 h2 => have h := R14_words_w hx124  M w h1 h2; h) (fun X126 hF126 hle126 => ?_))
   refine wa Z (nt (WC.dr (m := 18) (by kernel_rfl) (by kernel_rfl) (fun w hw => hw) (zm 0 Z Z (zm 1 Z Z (zf 2 fd44_0 Z Z (zl 3 pl3 Z Z (Own.cell 1 Z Z) ?_))))))
   obtain ⟨c127, c129, c131, hm132⟩ := cs3 hm125; clear hm125
   refine wz 4 Z Z (QV.sub Z Z Z Z c127) (wz 5 Z Z (QV.sub Z Z Z Z c129) ?_)
   obtain ⟨p133, hp134⟩ := hF126.lenMap.ix (sz := 1) ln_len c131
   refine wz 6 Z Z (QV.indexSlice sl51 Z Z Z Z hp134) (zl 7 pl9 Z Z (fun w hw => CellsAt.one 0 (((Own.karr 0 Z hk hF126) w hw).ele hp134 c131) Z) ?_)
   obtain ⟨c135, hm136⟩ := cs hm132; clear hm132
   refine wz 8 Z Z (QV.strAddD Z Z Z Z c135) (zf 9 fd44_1 Z Z (wz 10 Z Z (QV.loadAgg ag42 Z Z Z (fun w hw => (Own.cellsBlk 1 Z w hw).sub 1 2 Z)) ?_))
   obtain ⟨x137, hx138, hm139⟩ := bd_some hm136; clear hm136
   refine wz 11 Z Z (QV.call en17 (ec Z eN) (fun w hw => have h := R14_ref_w w hx138 ; h)) ?_
   obtain ⟨c140, hm141⟩ := cs hm139; clear hm139
   refine wz 12 Z Z (QV.strAddD Z Z Z Z c140) (zf 13 fd44_2 Z Z (wz 14 Z Z (QV.loadAgg ag42 Z Z Z (fun w hw => (Own.cellsBlk 1 Z w hw).sub 3 2 Z)) ?_))
   obtain ⟨x142, hx143, hm144⟩ := bd_some hm141; clear hm141
   refine wz 15 Z Z (QV.call en17 (ec Z eN) (fun w hw => have h := R14_ref_w w hx143 ; h)) ?_
   obtain ⟨c145, c147, c149, hm150⟩ := cs3 hm144; clear hm144
   refine wz 16 Z Z (QV.strAddD Z Z Z Z c145) (wz 17 Z Z (QV.assign Z Z) ?_)
   refine WD.e (by kernel_rfl) ?_
   refine WQ.block (WQ.then (WC.region (wm Z (wq Z (QV.strAddD Z Z Z Z c147) (wa Z (WL.nil (WQ.block (WQ.then (WC.region (wm Z (wq Z (QV.add Z Z Z Z c149) (wa Z (WL.nil ?_)))))))))))))
   exact WQ.again3 ((((s3_2 ++ (ele x123 (((ele l.body i5_2).op - 10) - 1))) ++ x137) ++ x142) ++ [10]) (i5_2 + 1) X126.2 m43 ⟨up_next hm150 hn46, (hle_2.trans hle126)⟩ (Nat.lt_succ_self _) ⟨Z, Z, Z, trivial⟩ (pk [0, 2])
  refine WC.exit (te (te (WQ.block_exit ?_)))
  exact WQ.out3 s3_2 i5_2 k_2 ⟨up_brk hm151 hn46, hle_2⟩ ⟨Z, Z, Z, trivial⟩ (pk [0, 1])
 rintro s3_1 i4_1 m152 hI153
 obtain ⟨m154, s155, rfl, hm156, hn157⟩ := iter_step hI153; clear hI153; unfold R14_Text_L0 at hm156; simp only at hm156
 refine WC.seq (sr (wm Z (wf fd25_0 Z (wl pl22 Z (Own.cell 0 Z Z) (wq Z (QV.lenS Tryd.underlying22 Z Z h_l_logs.lenMap) (wq Z (QV.lss Z Z Z Z) (nt ?_)))))))
 refine wc Z hm156 (fun h158 hm159 => ?_) (fun h158 hm175 => ?_) <;> clear hm156
 ·skip
  refine sk (WQ.then (WC.seq (WC.block (WC.region (wm Z ?_)))))
  obtain ⟨c160, c162, hm163⟩ := cs2 hm159; clear hm159
  refine wq Z (QV.strAddD Z Z Z Z c160) (wf fd25_0 Z (wl pl22 Z (Own.cell 0 Z Z) (wm Z ?_)))
  obtain ⟨p164, hp165⟩ := h_l_logs.lenMap.ix (sz := 1) ln_len c162
  refine wq Z (QV.indexSlice sl22 Z Z Z Z hp165) (wl pl3 Z (fun w hw => CellsAt.one 0 (((Own.karr 1 Z hk h_l_logs) w hw).ele hp165 c162) Z) ?_)
  obtain ⟨x166, hx167, hm168⟩ := bd_some hm163; clear hm163
  refine wq Z (QV.call en15 (ec Z eN) (fun w hw => have h := R14_d_w w hx167 ; h)) ?_
  obtain ⟨c169, c171, c173, hm174⟩ := cs3 hm168; clear hm168
  refine wq Z (QV.strAddD Z Z Z Z c169) (wq Z (QV.strAddD Z Z Z Z c171) (wa Z (WL.nil (WQ.block (WQ.then (WC.region (wm Z (wq Z (QV.add Z Z Z Z c173) (wa Z (WL.nil ?_))))))))))
  exact WQ.again2 (((s3_1 ++ [97, 114, 114, 97, 121, 32]) ++ x166) ++ [10]) (i4_1 + 1) m154 (up_next hm174 hn157) (Nat.lt_succ_self _) ⟨Z, Z, Z, trivial⟩ (pk [0, 1])
 refine WC.exit (te (te (WQ.block_exit ?_)))
 exact WQ.out2 s3_1 i4_1 (up_brk hm175 hn157) ⟨Z, Z, Z, trivial⟩ (pk [0, 1])
end Go.Proofs.YtaimbkndebaaiabDoor
end
section
namespace Go.Proofs.YtaimbkndebaaiabDoor
open Go.Rd
open TLib TBld TNum TLoop TPrt TR14
namespace TLawPrt
theorem en4 : Go.Rd.Enters Tryd.prog 4 := eT Tryd.func4
theorem en5 : Go.Rd.Enters Tryd.prog 5 := eT Tryd.func5
theorem en6 : Go.Rd.Enters Tryd.prog 6 := eT Tryd.func6
end TLawPrt
open TLawPrt
theorem roundelaylaw_TextPrints_w {v_l_logs v_l_body v_l_outs : Value} {l : Lp} {r : Bool} (w : World) (hm : roundelaylaw_TextPrints_m l = some r) (h_l_logs : Arr w v_l_logs 1 (l.logs.map icell)) (h_l_body : Arr w v_l_body 9 (l.body.map Stm.cells)) (h_l_outs : Arr w v_l_outs 1 (l.outs.map icell)) (hGl0 : Glb Tryd.prog w) : Calls Tryd.prog 3 #[.agg #[v_l_logs, v_l_body, v_l_outs]] w (fun e w' => e = .returned (.bool r) ∧ Grow w w') := by
 unfold roundelaylaw_TextPrints_m at hm
 have hk := Base.rfl (w := w)
 refine calls_of_WC (n := 27) (args := [.agg #[v_l_logs, v_l_body, v_l_outs]]) Tryd.func3 Z Z (nl Z) ?_ (Own.startK hk (Own.start w))
 have hGl := GlbM.of hGl0
 refine sr (WL.effect Z ?_)
 refine (EV.boxAgg (by decide) Z Z (fun b1 => ?_))
 refine wa Z (ns (wq Z (QV.loadAgg ag25 Z Z Z (Own.cellsBlk 0 Z)) ?_))
 obtain ⟨x2, hx3, hm4⟩ := bd_some hm; clear hm
 refine wq Z (QV.call en4 (ec Z eN) (fun w hw => have h := text_Print_w w hx3 ((Own.karr 1 Z hk h_l_logs) w hw) ((Own.karr 1 Z hk h_l_body) w hw) ((Own.karr 1 Z hk h_l_outs) w hw) (hGl.at hw); h)) (wm Z (wq Z (QV.extract Z Z Z) (wq Z (QV.extract Z Z Z) (wa Z (wa Z (nt (WC.seq (sr (wq Z (QV.loadAgg ag25 Z Z Z (Own.cellsBlk 0 Z)) ?_)))))))))
 obtain ⟨x5, hx6, hm7⟩ := bd_some hm4; clear hm4
 refine wq Z (QV.call en5 (ec Z eN) (fun w hw => have h := R2_May_w w hx6 ((Own.karr 1 Z hk h_l_logs) w hw) ((Own.karr 1 Z hk h_l_body) w hw) ((Own.karr 1 Z hk h_l_outs) w hw); h)) (wq Z (QV.not Z Z) (nt ?_))
 refine wc Z hm7 (fun h8 hm9 => ?_) (fun h8 hm10 => ?_) <;> clear hm7
 ·skip
  refine sr (wm Z (wq Z (QV.eql Z Z Z Z) (wm Z (gp Z (fun hG => QV.move Z Z) (gp Z (fun hG => QV.strEql Z hG Z Z) (wq Z (QV.pickAnd Z Z Z (fun h => h)) (wa Z (nt (WC.ret (tr ?_))))))))))
  obtain rfl := (eq_of_some hm9).symm
  exact WQ.ret1 Z Z fun w hw => kg hw
 refine sk (WQ.then (sr (wm Z (wq Z (QV.eql Z Z Z Z) (wm Z (gp Z (fun hG => QV.move Z Z) (gp Z (fun hG => QV.loadAgg ag25 Z Z Z (Own.cellsBlk 0 Z)) ?_)))))))
 obtain ⟨x11, hx12, hm13⟩ := bdG_some hm10; clear hm10
 refine gp Z (fun hG => QV.call en6 (EvAll.cons Z hG eN) (fun w hw => have h := R14_Text_w w (hx12 hG) ((Own.karr 1 Z hk h_l_logs) w hw) ((Own.karr 1 Z hk h_l_body) w hw) ((Own.karr 1 Z hk h_l_outs) w hw); h)) (gp Z (fun hG => QV.strEql Z hG Z hG) (wq Z (QV.pickAnd Z Z Z (fun h => h)) (wa Z (nt (WC.ret ?_)))))
 obtain rfl := (eq_of_some hm13).symm
 exact WQ.ret1 Z Z fun w hw => kg hw
end Go.Proofs.YtaimbkndebaaiabDoor
end
section
namespace Go.Rd
open Go.RowKit
theorem laid_vars {P : Program} {W : World} : ∀ {l : List (String × DataW Unit)} {ps : List MemPlace}, DataW.LaidVars P W l ps → ∀ {nm : String} {d : DataW Unit}, (nm, d) ∈ l →
  ∃ g t cs fuel p, P.globalNamed nm = some g ∧ (P.globals[g]?).map (·.type) = some t ∧ W.var? P nm = some cs ∧ DataW.trod (fun _ => ()) P W 0 (fun _ => true) false fuel t cs.toList = some (d, p)
 | [], _, _, _, _, hm => absurd hm (by simp)
 | (n, d0) :: r, ps, ⟨g, t, cs, fuel, p, q, h1, h2, h3, h4, h5, _⟩, nm, d, hm => by
  rcases List.mem_cons.1 hm with e | hm
  ·cases e; exact ⟨g, t, cs, fuel, p, h1, h2, h3, h4⟩
  ·exact laid_vars h5 hm
theorem laid_at {P : Program} {W : World} {l : List (String × DataW Unit)} (h : laidMet P l W) (i : Nat) {nm : String} {d : DataW Unit} (hi : l[i]? = some (nm, d)) :
  ∃ g t cs fuel p, P.globalNamed nm = some g ∧ (P.globals[g]?).map (·.type) = some t ∧ W.var? P nm = some cs ∧ DataW.trod (fun _ => ()) P W 0 (fun _ => true) false fuel t cs.toList = some (d, p) := by
 obtain ⟨ps, h, _⟩ := h
 exact laid_vars h (List.mem_of_getElem? hi)
theorem laid_tab {P : Program} {W : World} {l : List (String × DataW Unit)} (h : laidMet P l W) (i : Nat) {nm : String} {k : IntKind} {zs : List Int} (hi : l[i]? = some (nm, Lib.tabData k zs)) {g : Nat} {t e : TypeId} {n : Nat}
  (hg : P.globalNamed nm = some g) (hty : (P.globals[g]?).map (·.type) = some t) (ht : P.underlying t = some (.array n e)) (he : P.underlying e = some (.int k)) (hce : P.cellsOf e = 1) (hct : P.cellsOf t = n) : Lib.TabIs P W nm k zs := by
 obtain ⟨g', t', cs, fuel, p, h1, h2, h3, h4⟩ := laid_at h i hi
 obtain rfl := Option.some.inj (hg.symm.trans h1)
 obtain rfl := Option.some.inj (hty.symm.trans h2)
 unfold Lib.TabIs
 rw [h3, ← Lib.cells_of_tab ht he hce hct h4]
end Go.Rd
end