/- Texts for the law, 2. -/
import Derived.Test.YtaimbkndebaaiacDoorZLtextParses1
import Derived.Lib.AppendStr
import Derived.Lib.UnsafeStr
import Derived.Lib.LaidTab
import Derived.Shelf.Strings.Builder1
import Derived.Shelf.Strings.Fields
import Derived.Shelf.Strconv.Itoa4
import Derived.KernelRfl
import Derived.Shelf.Strings.Split
import Derived.Shelf.Strings.Cut
import Derived.Shelf.Strings.Prefix
import Derived.Shelf.Small.Wraps
import Derived.Shelf.Strconv.ParseIntPublic10
import Derived.Shelf.Strconv.RangeError
import Derived.Test.YtaimbkndebaaiacDoorProg
import Derived.Shelf.LaysM
set_option linter.unusedVariables false
set_option linter.unusedSimpArgs false
set_option maxRecDepth 8000
section
namespace Go.Rd
theorem tb_t {p : Prop} (h : p) : tb p = true := tb_of h
theorem tb_f {p : Prop} (h : ¬ p) : tb p = false := tb_nof h
theorem Uses_s (s : Stm) : loop_Uses_m s = some (usesL s) := by
 unfold loop_Uses_m usesL
 simp only [br_eq, beq_iff_eq, decide_eq_true_eq]
 (repeat' split) <;> rfl
theorem ref_Uses_s (s : Stm) : R2_Uses_m s = some (usesL s) := by
 unfold R2_Uses_m usesL
 simp only [br_eq, beq_iff_eq, decide_eq_true_eq]
 (repeat' split) <;> rfl
theorem ref_s (l : Lp) (k : Int) (r : Rf) : loop_ref_m l k r = some (tb (RefOk l.body.length k r)) := by
 unfold loop_ref_m loop_in_m bdG
 simp only [bd_ret, br_eq, beq_iff_eq]
 by_cases h0 : r.bk = 0
 ·rw [if_pos h0, h0]
  simp only [show ((0 : Int) ≥ 0) from by omega, show ((0 : Int) < 4) from by omega, decide_true, Bool.and_self, if_true, Bool.true_and]
  congr 1
  refine tb_eq ?_
  simp only [Bool.and_eq_true, decide_eq_true_eq]
  unfold RefOk
  omega
 ·rw [if_neg h0]
  by_cases h1 : 0 ≤ r.bk ∧ r.bk < 4
  ·simp only [show r.bk ≥ 0 from h1.1, h1.2, decide_true, Bool.and_self, if_true, Bool.true_and]
   congr 1
   refine tb_eq ?_
   simp only [Bool.and_eq_true, decide_eq_true_eq]
   unfold RefOk ln
   omega
  ·have : (decide (r.bk ≥ 0) && decide (r.bk < 4)) = false := by
    simp only [Bool.and_eq_false_iff, decide_eq_false_iff_not]; omega
   rw [this]
   simp only [Bool.false_eq_true, if_false, Bool.false_and]
   congr 1
   exact (tb_f (by unfold RefOk; omega)).symm
structure Lp.Fine (l : Lp) : Prop where
 rlogs : ∀ x ∈ l.logs, InR x
 rbody : ∀ x ∈ l.body, x.InR
 routs : ∀ x ∈ l.outs, InR x
 llogs : l.logs.length ≤ maxLen
 lbody : l.body.length ≤ maxLen
 louts : l.outs.length ≤ maxLen
theorem LpRep.fine {w : World} {v1 v2 v3 : Value} {l : Lp} (h : LpRep w v1 v2 v3 l) : l.Fine := ⟨h.rlogs, h.rbody, h.routs, h.llogs, h.lbody, h.louts⟩
theorem maxLen_eq : maxLen = 9223372036854775807 := rfl
theorem zero2 (r : Rf) : ([r.st, r.bk] == [(0 : Int), 0]) = tb r.isZero := by
 refine tb_eq ?_
 simp [Rf.isZero]
theorem stmt_uses (l : Lp) (k : Int) (s : Stm) (hx : l.body.length ≤ maxLen) : (UsesTo l.body.length k (usesL s).length s ∧ lp (loop_stmt_L0 l k (usesL s)) 0 = some (.go ((usesL s).length : Int))) ∨
  (¬ UsesTo l.body.length k (usesL s).length s ∧ lp (loop_stmt_L0 l k (usesL s)) 0 = some (.ret false)) := by
 have hl := usesL_len s
 have := lp_all (f := loop_stmt_L0 l k (usesL s)) (n := (usesL s).length) (p := fun i => RefOk l.body.length k ((usesL s).getD i Rf.zero)) (fun i hi _ => by
  have e : loop_stmt_L0 l k (usesL s) i = br (!tb (RefOk l.body.length k ((usesL s).getD i Rf.zero))) (some (.ret false)) (some (.next ((i : Int) + 1))) := by
   unfold loop_stmt_L0
   rw [br_T (by unfold ln; omega), ck_IX (by omega) (by unfold ln; omega), ref_s, bd_ret, ck_IR (by omega) (by omega)]
   rfl
  constructor
  ·intro h; rw [e, tb_t h]; rfl
  ·intro h; rw [e, tb_f h]; rfl) (by unfold loop_stmt_L0; exact br_F (by unfold ln; omega))
 rcases this with ⟨h, e⟩ | ⟨h, e⟩
 ·exact .inl ⟨fun j hj hj2 => h j hj2, e⟩
 ·exact .inr ⟨fun h' => h fun i hi => h' i (by omega) hi, e⟩
theorem stillB (s : Stm) : ((s.ar == 0 && s.sp == 0) && s.pl == 0) = tb (StillOk s) := by
 refine tb_eq ?_
 simp [StillOk, and_assoc]
theorem wordB (nl : Int) (s : Stm) : (((decide (s.ar ≥ 0) && decide (s.ar < nl)) && (decide (s.sp ≥ -64) && decide (s.sp < 65))) && (decide (s.pl ≥ -64) && decide (s.pl < 65))) = tb (WordOk nl s) := by
 refine tb_eq ?_
 simp only [Bool.and_eq_true, decide_eq_true_eq]
 unfold WordOk
 omega
theorem tb_and {p q : Prop} : (tb p && tb q) = tb (p ∧ q) := by
 refine tb_eq ?_
 rw [Bool.and_eq_true, tb_iff, tb_iff]
theorem stmt_s (l : Lp) (k : Nat) (hk : k < l.body.length) (hf : l.Fine) : loop_stmt_m l k = some (tb (StmtOk l.logs.length l.body.length k (ele l.body k))) := by
 have hR : (ele l.body k).InR := ele_all hf.rbody hk
 have hop := hR.1
 unfold Rd.InR at hop
 have hl := hf.lbody
 rw [maxLen_eq] at hl
 generalize hs : ele l.body k = s at *
 have hs' : (Stm.mk s.op s.a s.b s.ar s.sp s.pl s.n) = s := rfl
 unfold loop_stmt_m
 rw [ck_IX (by omega) (by unfold ln; omega), hs, hs', Uses_s]
 unfold loop_in_m
 simp only [bd_ret, bdG_some']
 rcases stmt_uses l k s hf.lbody with ⟨hu, e⟩ | ⟨hu, e⟩
 ·rw [e]
  simp only [bd_ret, Out.on_go]
  rw [tb_congr (stmt_rest (nl := l.logs.length) hu (by omega)), stillB, zero2, zero2]
  have w : ∀ A B C : Bool, ((A && (if A = true then B else false)) && (if (A && (if A = true then B else false)) = true then C else false)) = ((A && B) && C) := by decide
  rw [w, show ln l.logs = (l.logs.length : Int) from rfl, wordB]
  simp only [br_eq, beq_iff_eq, bne_iff_ne]
  by_cases h1 : s.op = 1
  ·rw [if_pos h1, tb_congr (rest_1 h1), tb_and, tb_and, tb_congr (and_assoc)]
  ·rw [if_neg h1]
   by_cases hn : s.n = 0
   ·rw [if_neg (by simpa using hn)]
    by_cases h2 : s.op = 2
    ·rw [if_pos h2, tb_congr (rest_2 h2 hn), tb_and, tb_and, tb_congr (and_assoc)]
    ·rw [if_neg h2]
     by_cases h3 : s.op = 3
     ·rw [if_pos h3, tb_congr (rest_3 h3 hn), tb_and, tb_and, tb_congr (and_assoc)]
     ·rw [if_neg h3]
      by_cases h4 : s.op = 4
      ·rw [if_pos h4, tb_congr (rest_4 h4 hn), tb_and]
      ·rw [if_neg h4, tb_congr (rest_5 h1 h2 h3 h4 hn)]
       have ho := op_sub10 hop
       have e1 : (decide (IntKind.i64.wrap (s.op - 10) ≥ 1) && decide (IntKind.i64.wrap (s.op - 10) < 9)) = tb (11 ≤ s.op ∧ s.op ≤ 18) := by
        refine tb_eq ?_
        rw [Bool.and_eq_true, decide_eq_true_eq, decide_eq_true_eq]
        exact ho
       rw [e1]
       by_cases hst : StillOk s
       ·rw [tb_t hst, if_pos rfl, Bool.true_and]
        congr 1
        exact tb_congr ⟨fun h => ⟨hst, h⟩, fun h => h.2⟩
       ·rw [tb_f hst, Bool.false_and]
        congr 1
        exact (tb_f fun h => hst h.1).symm
   ·rw [if_pos (by simpa using hn)]
    congr 1
    exact (tb_f (rest_n h1 hn)).symm
 ·rw [e]
  simp only [bd_ret, Out.on_ret]
  congr 1
  refine (tb_f fun h => hu fun j hj hj2 => ?_).symm
  exact (uses_all.2 ⟨h.1, h.2.1⟩) j hj2
def LogAt (l : Lp) (j : Nat) : Prop := 0 ≤ l.logs.getD j 0 ∧ l.logs.getD j 0 ≤ 5
theorem logs_to {l : Lp} : LogsTo l l.logs.length ↔ ∀ i, i < l.logs.length → LogAt l i := ⟨fun h i hi => h i (by omega), fun h j hj => h j (by omega)⟩
def BodyAt (l : Lp) (j : Nat) : Prop := StmtOk l.logs.length l.body.length j (l.body.getD j Stm.zero)
theorem body_to {l : Lp} : BodyTo l l.body.length ↔ ∀ i, i < l.body.length → BodyAt l i := ⟨fun h i hi => h i (by omega), fun h j hj => h j (by omega)⟩
theorem ele_int (l : List Int) (i : Nat) : ele l (i : Int) = l.getD i 0 := rfl
theorem ele_stm (l : List Stm) (i : Nat) : ele l (i : Int) = l.getD i Stm.zero := rfl
theorem logs_s (l : Lp) (hf : l.Fine) : (LogsTo l l.logs.length ∧ lp (loop_May_L0 l) 0 = some (.go (l.logs.length : Int))) ∨ (¬ LogsTo l l.logs.length ∧ lp (loop_May_L0 l) 0 = some (.ret false)) := by
 have hl := hf.llogs
 rw [maxLen_eq] at hl
 rw [logs_to]
 refine lp_all (fun i hi _ => ?_) (by unfold loop_May_L0; exact br_F (by unfold ln; omega))
 have e : loop_May_L0 l i = br (!(decide (l.logs.getD i 0 ≥ 0) && decide (l.logs.getD i 0 < 6))) (some (.ret false)) (some (.next ((i : Int) + 1))) := by
  unfold loop_May_L0 loop_in_m
  rw [br_T (by unfold ln; omega), ck_IX (by omega) (by unfold ln; omega), bd_ret, ck_IR (by omega) (by omega)]
  rfl
 rw [e]
 constructor
 ·intro h
  rw [show (decide (l.logs.getD i 0 ≥ 0) && decide (l.logs.getD i 0 < 6)) = true from by simp only [Bool.and_eq_true, decide_eq_true_eq]; unfold LogAt at h; omega]; rfl
 ·intro h
  rw [show (decide (l.logs.getD i 0 ≥ 0) && decide (l.logs.getD i 0 < 6)) = false from by simp only [Bool.and_eq_false_iff, decide_eq_false_iff_not]; unfold LogAt at h; omega]; rfl
theorem outs_s (l : Lp) (hf : l.Fine) : ∀ (m i : Nat), i + m = l.outs.length → OutsTo l i →
  (OutsTo l l.outs.length ∧ ∃ x, lp (loop_May_L2 l) (lastOut l i, i) = some (.go (x, (l.outs.length : Int)))) ∨ (¬ OutsTo l l.outs.length ∧ lp (loop_May_L2 l) (lastOut l i, i) = some (.ret false))
 | 0, i, h, hp => by
  have hi : i = l.outs.length := by omega
  subst hi
  exact .inl ⟨hp, _, lp_brk (by unfold loop_May_L2; exact br_F (by unfold ln; omega))⟩
 | m + 1, i, h, hp => by
  have hl := hf.louts
  have hb := hf.lbody
  rw [maxLen_eq] at hl hb
  have hlo := lastOut_bd (by omega) hp
  have hst := out_step (l := l) (i := i) (by omega) hp
  rw [Int.toNat_natCast] at hst
  have e : loop_May_L2 l (lastOut l i, i) = br (!(decide (l.outs.getD i 0 ≥ lastOut l i + 1) && decide (l.outs.getD i 0 < l.body.length))) (some (.ret false)) (some (.next (l.outs.getD i 0, (i : Int) + 1))) := by
   unfold loop_May_L2 loop_in_m
   simp only
   rw [br_T (by unfold ln; omega), ck_IX (by omega) (by unfold ln; omega), ck_IR (by omega) (by omega), bd_ret, ck_IR (by omega) (by omega)]
   rfl
  by_cases hc : lastOut l i + 1 ≤ l.outs.getD i 0 ∧ l.outs.getD i 0 < l.body.length
  ·have hc' : (decide (l.outs.getD i 0 ≥ lastOut l i + 1) && decide (l.outs.getD i 0 < l.body.length)) = true := by simp only [Bool.and_eq_true, decide_eq_true_eq]; exact hc
   rw [hc', Bool.not_true, br_false] at e
   have hnext : OutsTo l ((i : Int) + 1) := to_next hp (by omega) (by rw [Int.toNat_natCast]; exact hst.1 hc)
   have hn := lastOut_next (l := l) (i := i) (by omega)
   rw [Int.toNat_natCast] at hn
   have ih := outs_s l hf m (i + 1) (by omega) hnext
   rw [show ((i + 1 : Nat) : Int) = (i : Int) + 1 from rfl, hn] at ih
   rcases ih with ⟨a, x, b⟩ | ⟨a, b⟩
   ·exact .inl ⟨a, x, (lp_next e).trans b⟩
   ·exact .inr ⟨a, (lp_next e).trans b⟩
  ·have hc' : (decide (l.outs.getD i 0 ≥ lastOut l i + 1) && decide (l.outs.getD i 0 < l.body.length)) = false := by simp only [Bool.and_eq_false_iff, decide_eq_false_iff_not]; omega
   rw [hc', Bool.not_false, br_true] at e
   exact .inr ⟨fun h' => hc (hst.2 (h' i (by omega))), lp_ret e⟩
theorem body_s (l : Lp) (hf : l.Fine) (hle : l.body.length ≤ 16) : (BodyTo l l.body.length ∧ lp (loop_May_L4 l) 0 = some (.go (l.body.length : Int))) ∨ (¬ BodyTo l l.body.length ∧ lp (loop_May_L4 l) 0 = some (.ret false)) := by
 rw [body_to]
 refine lp_all (fun i hi _ => ?_) (by unfold loop_May_L4; exact br_F (by unfold ln; omega))
 have e : loop_May_L4 l i = br (!tb (BodyAt l i)) (some (.ret false)) (some (.next ((i : Int) + 1))) := by
  have h16 : ¬ ln l.body > 16 := by unfold ln; omega
  unfold loop_May_L4
  rw [br_T (by unfold ln; omega), stmt_s l i hi hf, decide_eq_false h16, ck_IR (by omega) (by omega), ele_stm]
  simp only [Bool.not_false, bdG_t, bd_ret, Bool.false_or, BodyAt]
 rw [e]
 exact ⟨fun h => by rw [tb_t h]; rfl, fun h => by rw [tb_f h]; rfl⟩
theorem May_s (l : Lp) (hf : l.Fine) : loop_May_m l = some (tb (LoopOk l)) := by
 unfold loop_May_m
 rcases logs_s l hf with ⟨h1, e1⟩ | ⟨h1, e1⟩
 ·rw [e1, bd_ret, Out.on_go]
  have h0 := outs_s l hf l.outs.length 0 (by omega) (to_zero)
  rw [show lastOut l ((0 : Nat) : Int) = -1 from rfl] at h0
  rcases h0 with ⟨h2, x, e2⟩ | ⟨h2, e2⟩
  ·rw [show ((-1 : Int), (0 : Int)) = (-1, ((0 : Nat) : Int)) from rfl, e2, bd_ret, Out.on_go]
   simp only
   by_cases h16 : l.body.length ≤ 16
   ·rcases body_s l hf h16 with ⟨h3, e3⟩ | ⟨h3, e3⟩
    ·rw [e3, bd_ret, Out.on_go]
     congr 1
     refine tb_eq ?_
     simp only [Bool.and_eq_true, decide_eq_true_eq]
     unfold ln
     exact ⟨fun h => ⟨by omega, by omega, h16, h1, h2, h3⟩, fun h => ⟨by have := h.1; omega, by have := h.2.1; omega⟩⟩
    ·rw [e3, bd_ret, Out.on_ret]
     congr 1
     exact (tb_f fun h => h3 h.2.2.2.2.2).symm
   ·have : loop_May_L4 l 0 = some (.ret false) := by
     unfold loop_May_L4
     rw [br_T (by unfold ln; omega), show (decide (ln l.body > 16)) = true from decide_eq_true (by unfold ln; omega)]
     rfl
    rw [lp_ret this, bd_ret, Out.on_ret]
    congr 1
    exact (tb_f fun h => h16 h.2.2.1).symm
  ·rw [show ((-1 : Int), (0 : Int)) = (-1, ((0 : Nat) : Int)) from rfl, e2, bd_ret, Out.on_ret]
   congr 1
   exact (tb_f fun h => h2 h.2.2.2.2.1).symm
 ·rw [e1, bd_ret, Out.on_ret]
  congr 1
  exact (tb_f fun h => h1 h.2.2.2.1).symm
theorem ref_uses (l : Lp) (k : Int) (s : Stm) (hx : l.body.length ≤ maxLen) (hk : 0 ≤ k) (hk2 : k ≤ l.body.length) : (UsesTo l.body.length k (usesL s).length s ∧ lp (R2_stmt_L0 l k (usesL s)) 0 = some (.go ((usesL s).length : Int))) ∨
  (¬ UsesTo l.body.length k (usesL s).length s ∧ lp (R2_stmt_L0 l k (usesL s)) 0 = some (.ret false)) := by
 have hl := usesL_len s
 rw [maxLen_eq] at hx
 have := lp_all (f := R2_stmt_L0 l k (usesL s)) (n := (usesL s).length) (p := fun i => RefOk l.body.length k ((usesL s).getD i Rf.zero)) (fun i hi _ => by
  have hix : IX (i : Int) (ln (usesL s)) := ⟨by omega, by unfold ln; omega⟩
  have e : R2_stmt_L0 l k (usesL s) i = br (!tb (RefOk l.body.length k ((usesL s).getD i Rf.zero))) (some (.ret false)) (some (.next ((i : Int) + 1))) := by
   unfold R2_stmt_L0 R2_Within_m
   rw [show ele (usesL s) (i : Int) = (usesL s).getD i Rf.zero from rfl]
   generalize (usesL s).getD i Rf.zero = r
   rw [br_T (by unfold ln; omega), ck_IR (by unfold ln; omega) (by unfold ln; omega), ck_yes hix]
   simp only [bd_ret, bdG_some', Bool.not_not]
   rw [ck_yes hix, ck_imp (fun _ => hix), ck_yes hix, ck_imp (fun _ => hix), ck_IR (by omega) (by omega), ck_IR (by omega) (by omega)]
   have hb : ∀ b : Bool, (!b || !(if b = true then (decide (r.st ≥ 0) && decide (r.st ≤ k - 1)) else false)) = !(b && (decide (r.st ≥ 0) && decide (r.st ≤ k - 1))) := fun b => by cases b <;> simp
   have hb2 : ∀ b : Bool, (!b || !(if b = true then (decide (r.st ≥ 0) && decide (r.st ≤ ln l.body - 1)) else false)) = !(b && (decide (r.st ≥ 0) && decide (r.st ≤ ln l.body - 1))) := fun b => by cases b <;> simp
   rw [hb, hb2]
   rw [br_eq]
   simp only [beq_iff_eq]
   have q : ∀ {b : Bool} {p : Prop}, (b = true ↔ p) → br (!b) (some (Stp.ret false)) (some (Stp.next ((i : Int) + 1))) = br (!tb p) (some (.ret false)) (some (.next ((i : Int) + 1))) := fun h => by rw [tb_eq h]
   split
   ·refine q ?_
    simp only [Bool.and_eq_true, decide_eq_true_eq]
    unfold RefOk; omega
   ·refine q ?_
    simp only [Bool.and_eq_true, decide_eq_true_eq]
    unfold RefOk ln; omega
  constructor
  ·intro h; rw [e, tb_t h]; rfl
  ·intro h; rw [e, tb_f h]; rfl) (by unfold R2_stmt_L0; exact br_F (by unfold ln; omega))
 rcases this with ⟨h, e⟩ | ⟨h, e⟩
 ·exact .inl ⟨fun j hj hj2 => h j hj2, e⟩
 ·exact .inr ⟨fun h' => h fun i hi => h' i (by omega) hi, e⟩
theorem zerosB (s : Stm) : ((decide (ln (usesL s) < 2) && ((s.b.st != 0) || (s.b.bk != 0))) || (decide (ln (usesL s) < 1) && ((s.a.st != 0) || (s.a.bk != 0)))) = !tb (Zeros s) := by
 have : (!((decide (ln (usesL s) < 2) && ((s.b.st != 0) || (s.b.bk != 0))) || (decide (ln (usesL s) < 1) && ((s.a.st != 0) || (s.a.bk != 0))))) = tb (Zeros s) := by
  refine tb_eq ?_
  unfold Zeros Rf.isZero ln
  simp only [Bool.not_eq_true', Bool.or_eq_false_iff, Bool.and_eq_false_iff, decide_eq_false_iff_not, bne_eq_false_iff_eq]
  omega
 rw [← this, Bool.not_not]
theorem ref_stmt_s (l : Lp) (k : Nat) (hk : k < l.body.length) (hf : l.Fine) : R2_stmt_m l k = some (tb (StmtOk l.logs.length l.body.length k (ele l.body k))) := by
 have hl := hf.lbody
 have hl2 := hf.llogs
 rw [maxLen_eq] at hl hl2
 generalize hs : ele l.body k = s
 have hs' : (Stm.mk s.op s.a s.b s.ar s.sp s.pl s.n) = s := rfl
 unfold R2_stmt_m
 rw [ck_IX (by omega) (by unfold ln; omega), hs, hs', ref_Uses_s]
 unfold R2_Within_m
 simp only [bd_ret, bdG_some']
 rcases ref_uses l k s hf.lbody (by omega) (by omega) with ⟨hu, e⟩ | ⟨hu, e⟩
 ·rw [e]
  simp only [bd_ret, Out.on_go]
  rw [tb_congr (stmt_rest (nl := l.logs.length) hu (by omega)), zerosB, ck_IR (by unfold ln; omega) (by unfold ln; omega)]
  by_cases hz : Zeros s
  ·rw [tb_t hz, Bool.not_true, br_false]
   by_cases hn : s.op = 1 ∨ s.n = 0
   ·rw [show ((s.op != 1) && (s.n != 0)) = false from by simp; omega, br_false]
    by_cases h34 : s.op = 3 ∨ s.op = 4
    ·rw [show ((s.op == 3) || (s.op == 4)) = true from by simpa using h34, br_true, tb_congr (rest_34 h34 hz (by omega))]
     have w : ∀ A B C : Bool, ((A && (if A = true then B else false)) && (if (A && (if A = true then B else false)) = true then C else false)) = ((A && B) && C) := by decide
     rw [w]
     congr 1
     refine tb_eq ?_
     simp only [Bool.and_eq_true, decide_eq_true_eq]
     unfold WordOk ln; omega
    ·rw [show ((s.op == 3) || (s.op == 4)) = false from by simp; omega, br_false]
     by_cases hst : StillOk s
     ·have hst' := hst
      unfold StillOk at hst'
      rw [show (((s.ar != 0) || (s.sp != 0)) || (s.pl != 0)) = false from by simp [hst'.1, hst'.2.1, hst'.2.2], br_false, tb_congr (rest_end h34 hz hst hn)]
      congr 1
      refine tb_eq ?_
      by_cases h12 : s.op = 1 ∨ s.op = 2
      ·simp [h12]; omega
      ·simp; omega
     ·have hst' := hst
      unfold StillOk at hst'
      rw [show (((s.ar != 0) || (s.sp != 0)) || (s.pl != 0)) = true from by simp; omega, br_true]
      congr 1
      exact (tb_f fun h => hst (rest_still h34 h)).symm
   ·rw [show ((s.op != 1) && (s.n != 0)) = true from by simp; omega, br_true]
    congr 1
    exact (tb_f (rest_n (by omega) (by omega))).symm
  ·rw [tb_f hz, Bool.not_false, br_true]
   congr 1
   exact (tb_f fun h => hz (rest_zero h)).symm
 ·rw [e]
  simp only [bd_ret, Out.on_ret]
  congr 1
  refine (tb_f fun h => hu fun j hj hj2 => ?_).symm
  exact (uses_all.2 ⟨h.1, h.2.1⟩) j hj2
def OutAt (l : Lp) (j : Nat) : Prop := 0 ≤ l.outs.getD j 0 ∧ l.outs.getD j 0 < l.body.length ∧ (∀ m : Nat, j = m + 1 → l.outs.getD m 0 < l.outs.getD j 0)
theorem outs_to {l : Lp} : OutsTo l l.outs.length ↔ ∀ i, i < l.outs.length → OutAt l i := ⟨fun h i hi => h i (by omega), fun h j hj => h j (by omega)⟩
theorem ref_outs (l : Lp) (hf : l.Fine) : (OutsTo l l.outs.length ∧ lp (R2_May_L2 l) 0 = some (.go (l.outs.length : Int))) ∨ (¬ OutsTo l l.outs.length ∧ lp (R2_May_L2 l) 0 = some (.ret false)) := by
 have hl := hf.louts
 have hb := hf.lbody
 rw [maxLen_eq] at hl hb
 rw [outs_to]
 refine lp_all (fun i hi _ => ?_) (by unfold R2_May_L2; exact br_F (by unfold ln; omega))
 have hix : IX (i : Int) (ln l.outs) := ⟨by omega, by unfold ln; omega⟩
 have e : R2_May_L2 l i = br (!tb (OutAt l i)) (some (.ret false)) (some (.next ((i : Int) + 1))) := by
  unfold R2_May_L2 R2_Within_m
  rw [br_T (by unfold ln; omega), ck_yes hix, ck_IR (by unfold ln; omega) (by unfold ln; omega), bd_ret, ck_imp (fun _ => hix), ck_imp (fun h => ⟨by omega, by omega⟩), ck_imp (fun h => ⟨by simp at h; omega, by unfold ln; omega⟩), ck_IR (by omega) (by omega)]
  have : ((!(decide (ele l.outs (i : Int) ≥ 0) && decide (ele l.outs (i : Int) ≤ ln l.body - 1))) || (decide ((i : Int) > 0) && decide (ele l.outs (i : Int) ≤ ele l.outs ((i : Int) - 1)))) = !tb (OutAt l i) := by
   have : (!((!(decide (ele l.outs (i : Int) ≥ 0) && decide (ele l.outs (i : Int) ≤ ln l.body - 1))) || (decide ((i : Int) > 0) && decide (ele l.outs (i : Int) ≤ ele l.outs ((i : Int) - 1))))) = tb (OutAt l i) := by
    refine tb_eq ?_
    rw [ele_int]
    unfold OutAt ln
    cases i with
    | zero => simp; omega
    | succ m =>
     have e2 : ((m + 1 : Nat) : Int) - 1 = (m : Int) := by omega
     rw [e2, ele_int]
     simp
     constructor <;> intro h <;> omega
   rw [← this, Bool.not_not]
  rw [this]
 rw [e]
 exact ⟨fun h => by rw [tb_t h]; rfl, fun h => by rw [tb_f h]; rfl⟩
theorem ref_logs (l : Lp) (hf : l.Fine) : (LogsTo l l.logs.length ∧ lp (R2_May_L0 l) 0 = some (.go (l.logs.length : Int))) ∨ (¬ LogsTo l l.logs.length ∧ lp (R2_May_L0 l) 0 = some (.ret false)) := by
 have hl := hf.llogs
 rw [maxLen_eq] at hl
 rw [logs_to]
 refine lp_all (fun i hi _ => ?_) (by unfold R2_May_L0; exact br_F (by unfold ln; omega))
 have e : R2_May_L0 l i = br (!(decide (l.logs.getD i 0 ≥ 0) && decide (l.logs.getD i 0 ≤ 5))) (some (.ret false)) (some (.next ((i : Int) + 1))) := by
  unfold R2_May_L0 R2_Within_m
  rw [br_T (by unfold ln; omega), ck_IX (by omega) (by unfold ln; omega), bd_ret, ck_IR (by omega) (by omega)]
  rfl
 rw [e]
 constructor
 ·intro h
  rw [show (decide (l.logs.getD i 0 ≥ 0) && decide (l.logs.getD i 0 ≤ 5)) = true from by simp only [Bool.and_eq_true, decide_eq_true_eq]; unfold LogAt at h; omega]; rfl
 ·intro h
  rw [show (decide (l.logs.getD i 0 ≥ 0) && decide (l.logs.getD i 0 ≤ 5)) = false from by simp only [Bool.and_eq_false_iff, decide_eq_false_iff_not]; unfold LogAt at h; omega]; rfl
theorem ref_body (l : Lp) (hf : l.Fine) : (BodyTo l l.body.length ∧ lp (R2_May_L4 l) 0 = some (.go (l.body.length : Int))) ∨ (¬ BodyTo l l.body.length ∧ lp (R2_May_L4 l) 0 = some (.ret false)) := by
 have hb := hf.lbody
 rw [maxLen_eq] at hb
 rw [body_to]
 refine lp_all (fun i hi _ => ?_) (by unfold R2_May_L4; exact br_F (by unfold ln; omega))
 have e : R2_May_L4 l i = br (!tb (BodyAt l i)) (some (.ret false)) (some (.next ((i : Int) + 1))) := by
  unfold R2_May_L4
  rw [br_T (by unfold ln; omega), ref_stmt_s l i hi hf, bd_ret, ck_IR (by omega) (by omega)]
  rfl
 rw [e]
 exact ⟨fun h => by rw [tb_t h]; rfl, fun h => by rw [tb_f h]; rfl⟩
theorem ref_May_s (l : Lp) (hf : l.Fine) : R2_May_m l = some (tb (LoopOk l)) := by
 unfold R2_May_m
 by_cases h0 : l.logs.length ≤ 3 ∧ 1 ≤ l.body.length ∧ l.body.length ≤ 16
 ·rw [show ((decide (ln l.logs > 3) || decide (ln l.body < 1)) || decide (ln l.body > 16)) = false from by simp only [Bool.or_eq_false_iff, decide_eq_false_iff_not]; unfold ln; omega, br_false]
  rcases ref_logs l hf with ⟨h1, e1⟩ | ⟨h1, e1⟩
  ·rw [e1, bd_ret, Out.on_go]
   rcases ref_outs l hf with ⟨h2, e2⟩ | ⟨h2, e2⟩
   ·rw [e2, bd_ret, Out.on_go]
    rcases ref_body l hf with ⟨h3, e3⟩ | ⟨h3, e3⟩
    ·rw [e3, bd_ret, Out.on_go]
     congr 1
     exact (tb_t ⟨h0.1, h0.2.1, h0.2.2, h1, h2, h3⟩).symm
    ·rw [e3, bd_ret, Out.on_ret]
     congr 1
     exact (tb_f fun h => h3 h.2.2.2.2.2).symm
   ·rw [e2, bd_ret, Out.on_ret]
    congr 1
    exact (tb_f fun h => h2 h.2.2.2.2.1).symm
  ·rw [e1, bd_ret, Out.on_ret]
   congr 1
   exact (tb_f fun h => h1 h.2.2.2.1).symm
 ·rw [show ((decide (ln l.logs > 3) || decide (ln l.body < 1)) || decide (ln l.body > 16)) = true from by simp only [Bool.or_eq_true, decide_eq_true_eq]; unfold ln; omega, br_true]
  congr 1
  exact (tb_f fun h => h0 ⟨h.1, h.2.1, h.2.2.1⟩).symm
theorem LoopOk.log {l : Lp} (h : LoopOk l) (i : Nat) (hi : i < l.logs.length) : 0 ≤ l.logs.getD i 0 ∧ l.logs.getD i 0 ≤ 5 := h.2.2.2.1 i (by omega)
theorem LoopOk.out {l : Lp} (h : LoopOk l) (i : Nat) (hi : i < l.outs.length) : 0 ≤ l.outs.getD i 0 ∧ l.outs.getD i 0 < l.body.length := ⟨(h.2.2.2.2.1 i (by omega)).1, (h.2.2.2.2.1 i (by omega)).2.1⟩
theorem lp_det {γ ρ : Type} {f : γ → Option (Stp γ ρ)} (st : Nat → γ) (n : Nat) (step : ∀ i, i < n → f (st i) = some (.next (st (i + 1)))) (hend : f (st n) = some (.brk (st n))) : lp f (st 0) = some (.go (st n)) := by
 have key : ∀ m i : Nat, i + m = n → lp f (st i) = some (.go (st n)) := by
  intro m
  induction m with
  | zero =>
   intro i hi
   have : i = n := by omega
   subst this
   exact lp_brk hend
  | succ m ih => exact fun i hi => lp_step (step i (by omega)) (ih (i + 1) (by omega))
 exact key n 0 (by omega)
theorem lp_det2 {γ ρ : Type} {f : γ → Option (Stp γ ρ)} (st : Nat → γ) (n : Nat) (p : Nat → Prop) (q : Nat → ρ) (step : ∀ i, i < n → (∀ j, j < i → p j) → (p i → f (st i) = some (.next (st (i + 1)))) ∧ (¬ p i → f (st i) = some (.ret (q i)))) (hend : f (st n) = some (.brk (st n))) :
  ((∀ i, i < n → p i) ∧ lp f (st 0) = some (.go (st n))) ∨ (∃ i, i < n ∧ ¬ p i ∧ (∀ j, j < i → p j) ∧ lp f (st 0) = some (.ret (q i))) := by
 have key : ∀ m i : Nat, i + m = n → (∀ j, j < i → p j) → ((∀ i, i < n → p i) ∧ lp f (st i) = some (.go (st n))) ∨ (∃ k, k < n ∧ ¬ p k ∧ (∀ j, j < k → p j) ∧ lp f (st i) = some (.ret (q k))) := by
  intro m
  induction m with
  | zero =>
   intro i hi hp
   have : i = n := by omega
   subst this
   exact .inl ⟨hp, lp_brk hend⟩
  | succ m ih =>
   intro i hi hp
   obtain ⟨h1, h2⟩ := step i (by omega) hp
   by_cases hpi : p i
   ·have hp' : ∀ j, j < i + 1 → p j := fun j hj => by
     by_cases e : j = i
     ·subst e; exact hpi
     ·exact hp j (by omega)
    rcases ih (i + 1) (by omega) hp' with ⟨a, b⟩ | ⟨k, a, b, c, d⟩
    ·exact .inl ⟨a, lp_step (h1 hpi) b⟩
    ·exact .inr ⟨k, a, b, c, lp_step (h1 hpi) d⟩
   ·exact .inr ⟨i, by omega, hpi, hp, lp_ret (h2 hpi)⟩
 exact key n 0 (by omega) (fun j hj => absurd hj (Nat.not_lt_zero _))
end Go.Rd
end
section
namespace Go.Rd
open Go.RowKit
section
variable {P : Program} {n : Nat} {σ : Env} {M : Nat → Prop} {w0 : World} {H : List Res} {d : Option Tmp} {T U E S : TypeId} {pos : String} {after : Array Edge} {gd : Option (Nat × Bool)} {x y : Operand} {g g' : Bool} {v yv : Value}
 {K : Act → World → Prop} {Q : Exit → Act → World → Prop}
end
def FormatInt_m (n b : Int) : Option (List UInt8) := ck (IR n ∧ b = 10) (some (Lib.itoa n))
theorem grow_same {w w' : World} (h : w' = w) : Grow w w' := h ▸ Grow.refl w
open Go.Proofs Go.Shelf in
theorem itoa_grow {w w' : World} {k : Nat} {os : Array Obj} (h : w' = Sort.grow (w.drewN k) os) : Grow w w' := by
 subst h
 refine .of ?_ ?_
 ·exact ⟨rfl, rfl, rfl, by simp [Sort.grow, World.drewN], fun b hb => by simp [Sort.grow, World.drewN, Array.getElem?_append, hb]⟩
 ·simp [Sort.grow, World.drewN]
def gNames : List String := ["internal/strconv.uint64pow10", "strings.asciiSpace", "strconv.ErrSyntax", "strconv.ErrRange", "internal/bytealg.MaxLen"]
structure Glb (P : Program) (w : World) : Prop where
 pow : Lib.TabIs P w "internal/strconv.uint64pow10" .u64 Lib.pow10Tab
 sp : Lib.TabIs P w "strings.asciiSpace" .u8 Lib.asciiSpaceTab
 syn : (P.globalNamed "strconv.ErrSyntax").isSome = true → ∃ t p, w.var? P "strconv.ErrSyntax" = some #[.iface t p]
 rng : (P.globalNamed "strconv.ErrRange").isSome = true → ∃ t p, w.var? P "strconv.ErrRange" = some #[.iface t p]
 mx : ∀ g, P.globalNamed "internal/bytealg.MaxLen" = some g → ∃ m, w.cell? ⟨g, 0, none⟩ = some (.int .i64 m)
theorem var_lt {P : Program} {w : World} {nm : String} {cs : Array Value} {g : Nat} (h : w.var? P nm = some cs) (hg : P.globalNamed nm = some g) : g < w.heap.size := by
 unfold World.var? at h
 rw [hg] at h
 simp only [Option.bind_some] at h
 rcases Nat.lt_or_ge g w.heap.size with h' | h'
 ·exact h'
 ·rw [Array.getElem?_eq_none h'] at h; exact absurd h (by simp)
theorem var_kept {P : Program} {w w' : World} {nm : String} {cs : Array Value} (h : w.var? P nm = some cs) (hk : ∀ g, P.globalNamed nm = some g → g < w.heap.size → w'.heap[g]? = w.heap[g]?) : w'.var? P nm = some cs := by
 cases hg : P.globalNamed nm with
 | none => unfold World.var? at h; rw [hg] at h; exact absurd h (by simp)
 | some g =>
  have e := hk g hg (var_lt h hg)
  unfold World.var? at h ⊢
  rw [hg] at h ⊢
  simp only [Option.bind_some] at h ⊢
  rw [e]; exact h
theorem Glb.kept {P : Program} {w w' : World} (h : Glb P w) (hk : ∀ nm ∈ gNames, ∀ g, P.globalNamed nm = some g → g < w.heap.size → w'.heap[g]? = w.heap[g]?) : Glb P w' where
 pow := var_kept h.pow (hk _ (by simp [gNames]))
 sp := var_kept h.sp (hk _ (by simp [gNames]))
 syn := fun hs => let ⟨t, p, hv⟩ := h.syn hs; ⟨t, p, var_kept hv (hk _ (by simp [gNames]))⟩
 rng := fun hs => let ⟨t, p, hv⟩ := h.rng hs; ⟨t, p, var_kept hv (hk _ (by simp [gNames]))⟩
 mx := fun g hg => let ⟨m, hv⟩ := h.mx g hg; ⟨m, by rw [World.cell?_of_block (w := w) (w' := w') (hk _ (by simp [gNames]) g hg (World.block_lt_of_cell? _ _ hv))]; exact hv⟩
theorem Glb.lt {P : Program} {w : World} (h : Glb P w) {nm : String} (hn : nm ∈ gNames) {g : Nat} (hg : P.globalNamed nm = some g) : g < w.heap.size := by
 simp only [gNames, List.mem_cons, List.mem_nil_iff, or_false] at hn
 rcases hn with rfl | rfl | rfl | rfl | rfl
 ·exact var_lt h.pow hg
 ·exact var_lt h.sp hg
 ·obtain ⟨_, _, hv⟩ := h.syn (by rw [hg]; rfl); exact var_lt hv hg
 ·obtain ⟨_, _, hv⟩ := h.rng (by rw [hg]; rfl); exact var_lt hv hg
 ·obtain ⟨_, hv⟩ := h.mx _ hg; exact World.block_lt_of_cell? _ _ hv
structure GlbM (P : Program) (M : Nat → Prop) (w : World) : Prop where
 glb : Glb P w
 out : ∀ nm ∈ gNames, ∀ g, P.globalNamed nm = some g → ¬ M g
theorem GlbM.of {P : Program} {w : World} (h : Glb P w) : GlbM P noM w := ⟨h, fun _ _ _ _ x => x⟩
theorem GlbM.at {P : Program} {M : Nat → Prop} {w0 w : World} {H : List Res} (h : GlbM P M w0) (hw : Own M w0 H w) : Glb P w :=
 h.glb.kept fun nm hn g hg hlt => hw.1.block g hlt (h.out nm hn g hg)
theorem GlbM.lend {P : Program} {M : Nat → Prop} {w0 w k0 k : World} {R H2 : List Res} (h : GlbM P M w0) (hw : Own M w0 (kn M w0.heap.size k0 k :: (R ++ H2)) w) : GlbM P (feet R) w :=
 ⟨h.at hw, fun nm hn g hg ⟨r, hr, hf⟩ => by
  obtain ⟨hA, _, _⟩ := AllOwn.append.1 hw.2.2
  rcases (hA.lt r hr g hf).1 with hm | hm
  ·exact h.out nm hn g hg hm
  ·exact Nat.lt_irrefl _ (Nat.lt_of_lt_of_le (h.glb.lt hn hg) hm)⟩
section
variable {P : Program} {n : Nat} {σ : Env} {M : Nat → Prop} {w0 k0 k : World} {d : Option Tmp} {T : TypeId} {pos : String} {after : Array Edge} {gd : Option (Nat × Bool)} {K : Act → World → Prop} {Q : Exit → Act → World → Prop}
theorem EV.callRG {X : Type} {R H2 : List Res} {f : FuncId} {xs : List Operand} {vs : List Value} {ats : Array TypeId} (G : X → Value) (R' : X → List Res) (kx : X → World) (F : X → Prop) (hG : GlbM P M w0) (hb : Base M k0 w0) (hn : ∀ dd, d = some dd → dd < n) (hf : Enters P f) (hv : EvAll σ xs vs)
  (hc : ∀ M' w, GlbM P M' w → Base M' k w → Own M' w R w → Calls P f vs.toArray w (fun e w' => ∃ X, e = .returned (G X) ∧ Own M' w (kn M' w.heap.size k (kx X) :: R' X) w' ∧ F X))
  (kk : ∀ X, F X → Le k (kx X) → WK n K ((match d with | some dd => [(dd, (true, G X))] | none => []) ++ σ) (Own M w0 (kn M w0.heap.size k0 (kx X) :: (R' X ++ H2)))) :
  EV P n ⟨d, .call ⟨.value (.func f), xs.toArray, ats⟩, T, pos, after, gd⟩ σ (Own M w0 (kn M w0.heap.size k0 k :: (R ++ H2))) K Q := fun a w ha hw => by
 refine .inl ?_
 have hm := hv.map ha
 have hrun : (execOp a.eval ⟨d, .call ⟨.value (.func f), xs.toArray, ats⟩, T, pos, after, gd⟩).run P w = .ok (.enter f vs.toArray) w := by
  simp [execOp, resolve, Deferred.ofValue, Act.eval, invoke, run_callFunc hf, hm]
 unfold Oper.wp
 rw [hrun]
 obtain ⟨l1, l2⟩ := hw.lend hb
 refine (hc _ w (hG.lend hw) l1 l2).mono ?_
 rintro e w'' ⟨u, rfl, hown, hF⟩
 obtain ⟨b1, b2⟩ := hw.back hb hown
 refine kk u hF b2 _ _ ?_ b1
 cases d with
 | none => exact ha
 | some dd => exact ha.put (hn dd rfl) true _
end
def opsT : List UInt8 := [97, 100, 100, 32, 115, 117, 98, 32, 109, 117, 108, 32, 97, 110, 100, 32, 111, 114, 32, 120, 111, 114, 32, 108, 101, 115, 115, 32, 115, 97, 109, 101]
def opsW : List (List UInt8) := [[97, 100, 100], [115, 117, 98], [109, 117, 108], [97, 110, 100], [111, 114], [120, 111, 114], [108, 101, 115, 115], [115, 97, 109, 101]]
def Fields_m (s : List UInt8) : Option (List (List UInt8)) := ck (s = opsT) (some opsW)
theorem fields_ops : Lib.fields opsT = opsW := by kernel_rfl
theorem ascii_ops : ∀ (j : Nat) b, (opsT.toArray.toList)[j]? = some b → b.toNat < 128 := fun j b h => by
 have h2 : ∀ b ∈ opsT, b.toNat < 128 := by decide
 exact h2 b (List.mem_of_getElem? (by simpa using h))
theorem texts_new {M : Nat → Prop} {w w' K0 : World} {T : TypeId} (l : List (List UInt8)) (hk : Base M K0 w) (hw0 : Own M w [] w) (hm : l.length ≤ maxLen) (he : w' = w.alloc (.cells (l.map fun (q : List UInt8) => Value.string ⟨q.toArray⟩).toArray T)) :
  ∃ X : Value × World, (Value.slice (some ⟨w.heap.size, 0, none⟩) l.length l.length) = X.1 ∧ Own M w (kn M w.heap.size K0 X.2 :: []) w' ∧ Arr X.2 X.1 1 (l.map scell) := by
 subst he
 have hf : (l.map scell).flatten = l.map fun (q : List UInt8) => Value.string ⟨q.toArray⟩ := by
  induction l with
  | nil => rfl
  | cons x l ih => rw [List.map_cons, List.map_cons, List.flatten_cons, ih (by simp at hm; omega)]; rfl
 have hb := (Own.startK hk hw0).push (w' := w.alloc (.cells (l.map fun (q : List UInt8) => Value.string ⟨q.toArray⟩).toArray T)) (Grow.alloc _) (blk w.heap.size (l.map fun (q : List UInt8) => Value.string ⟨q.toArray⟩) T) (heap_alloc_new w _) (fun b hb => by
  have : b = w.heap.size := hb
  subst this
  simp)
 have hv := hb.blkVec scell l hf scell_len hm
 obtain ⟨k', _, hr, h3⟩ := (hv.front 1 rfl).freeze hk
 exact ⟨(_, k'), rfl, h3, vec_arr hr⟩
open Go.Proofs Go.Shelf in
theorem fields_own {P : Program} {ρ : Ren} (L : Lays.n157 P ρ) (hi9 : (P.info? (ρ.t 9)).map (fun i => (i.zero, i.size, i.bytes)) = some (some (.string ByteArray.empty), 1, 16)) (hg0 : P.globalNamed "strings.asciiSpace" = some (ρ.g 0)) {s : List UInt8} {r : List (List UInt8)} {K0 : World} (hm : Fields_m s = some r) (M : Nat → Prop) (w : World) (hG : GlbM P M w) (hk : Base M K0 w) (hw0 : Own M w [] w) :
  Calls P (ρ.f 157) #[strV s] w (fun e w' => ∃ X : Value × World, e = .returned (X.1) ∧ Own M w (kn M w.heap.size K0 X.2 :: []) w' ∧ Arr X.2 X.1 1 (r.map scell)) := by
 obtain ⟨rfl, h2⟩ := ck_some hm
 obtain rfl := eq_of_some h2
 refine (Any.strings_Fields L hi9 hg0 ⟨opsT.toArray⟩ w (by decide) ascii_ops hG.glb.sp).mono ?_
 rintro e w' ⟨he, hw'⟩
 have e1 : (ByteArray.mk opsT.toArray).data.toList = opsT := by simp
 rw [e1, fields_ops] at he hw'
 obtain ⟨X, h1, h2, h3⟩ := texts_new opsW hk hw0 (by decide) hw'
 exact ⟨X, by rw [he, ← h1], h2, h3⟩
open Go.Proofs Go.Shelf in
open Go.Proofs Go.Shelf in
theorem fmtInt_own {P : Program} {ρ : Ren} (L : LaysM.n173 P ρ) {n b : Int} {r : List UInt8} (w : World) (hm : FormatInt_m n b = some r) (hg : Glb P w) : Calls P (ρ.f 173) #[.int .i64 n, .int .i64 b] w (fun e w' => e = .returned (strV r) ∧ Grow w w') := by
 obtain ⟨⟨h, rfl⟩, h2⟩ := ck_some hm
 obtain rfl := eq_of_some h2
 refine (Any.strconv_FormatInt_10 L n h.1 h.2 w hg.pow).mono ?_
 rintro e w' ⟨he, k, os, hw⟩
 exact ⟨he, itoa_grow hw⟩
end Go.Rd
end
section
namespace Go.Rd
noncomputable def text_number_m (n_ : Int) : Option (List UInt8) :=
 bd (FormatInt_m n_ 10) fun x1 =>
 some x1
noncomputable def R14_Digits_L0  : ((List UInt8) × Int) → Option (Stp ((List UInt8) × Int) (Empty)) := fun (s3_3, left4_3) =>
 bd (show Option (Out (Int) (Empty)) from br (decide ((Int.tmod left4_3 10) < 0)) (
 ck (IR (-(Int.tmod left4_3 10))) <|
 some (.go (-(Int.tmod left4_3 10)))) (
 some (.go (Int.tmod left4_3 10)))) fun o6 => o6.on (fun d5_4 =>
 ck (IR (48 + d5_4)) <|
 ck (SL ([(bt (48 + d5_4))] ++ s3_3)) <|
 ck (IR (Int.tdiv left4_3 10)) <|
 br ((Int.tdiv left4_3 10) == 0) (
 some (.brk (([(bt (48 + d5_4))] ++ s3_3), (Int.tdiv left4_3 10)))) (
 some (.next (([(bt (48 + d5_4))] ++ s3_3), (Int.tdiv left4_3 10))))) (fun r => r.elim)
noncomputable def R14_Digits_m (n_ : Int) : Option (List UInt8) :=
 bd (lp (R14_Digits_L0) ([], n_)) fun o1 => o1.on (fun (s3_3, left4_3) =>
 br (decide (n_ < 0)) (
 ck (SL ([45] ++ s3_3)) <|
 some ([45] ++ s3_3)) (
 some s3_3)) (fun r => r.elim)
noncomputable def R14_words_m  : Option (List (List UInt8)) :=
 some [[97, 100, 100], [115, 117, 98], [109, 117, 108], [97, 110, 100], [111, 114], [120, 111, 114], [108, 101, 115, 115], [115, 97, 109, 101]]
theorem dd_small {u : Nat} (h : u < 10) : Lib.decDigits u = [UInt8.ofNat (48 + u)] := by rw [Lib.decDigits, dif_pos h]
theorem dd_big {u : Nat} (h : ¬ u < 10) : Lib.decDigits u = Lib.decDigits (u / 10) ++ [UInt8.ofNat (48 + u % 10)] := by rw [Lib.decDigits, dif_neg h]
theorem dd_len : ∀ (k u : Nat), u < 10 ^ (k + 1) → (Lib.decDigits u).length ≤ k + 1
 | 0, u, h => by rw [dd_small (by simpa using h)]; simp
 | k + 1, u, h => by
  by_cases h1 : u < 10
  ·rw [dd_small h1]; simp
  ·rw [dd_big h1, List.length_append]
   have := dd_len k (u / 10) (by rw [Nat.pow_succ] at h; omega)
   simp only [List.length_cons, List.length_nil]; omega
theorem digits_step {left : Int} {s : List UInt8} (h : InR left) (hs : s.length ≤ 1000) :
  R14_Digits_L0 (s, left) = some (if left.natAbs < 10 then .brk ([UInt8.ofNat (48 + left.natAbs % 10)] ++ s, 0) else .next ([UInt8.ofNat (48 + left.natAbs % 10)] ++ s, Int.tdiv left 10)) := by
 obtain ⟨h1, h2⟩ := h
 have hd : ∃ m : Nat, left.natAbs = m := ⟨_, rfl⟩
 obtain ⟨m, hm⟩ := hd
 have key : br (decide (Int.tmod left 10 < 0)) (ck (IR (-(Int.tmod left 10))) <| some (Out.go (-(Int.tmod left 10)) : Out Int Empty)) (some (.go (Int.tmod left 10))) = some (.go ((m % 10 : Nat) : Int)) ∧ (Int.tdiv left 10 = ((m / 10 : Nat) : Int) ∨ Int.tdiv left 10 = -((m / 10 : Nat) : Int)) := by
  rcases Int.natAbs_eq left with e | e
  ·rw [hm] at e
   have e1 : Int.tmod left 10 = ((m % 10 : Nat) : Int) := by rw [e]; exact (Int.ofNat_tmod m 10).symm
   have e2 : Int.tdiv left 10 = ((m / 10 : Nat) : Int) := by rw [e]; exact (Int.ofNat_tdiv m 10).symm
   rw [e1, br_F (by omega)]
   exact ⟨rfl, .inl e2⟩
  ·rw [hm] at e
   have e1 : Int.tmod left 10 = -((m % 10 : Nat) : Int) := by rw [e, Int.neg_tmod]; exact congrArg (- ·) (Int.ofNat_tmod m 10).symm
   have e2 : Int.tdiv left 10 = -((m / 10 : Nat) : Int) := by rw [e, Int.neg_tdiv]; exact congrArg (- ·) (Int.ofNat_tdiv m 10).symm
   rw [e1]
   refine ⟨?_, .inr e2⟩
   by_cases hz : m % 10 = 0
   ·rw [hz, br_F (by simp)]; rfl
   ·rw [br_T (by omega), ck_IR (by omega) (by omega)]; simp
 have hb : bt (48 + ((m % 10 : Nat) : Int)) = UInt8.ofNat (48 + m % 10) := by
  unfold bt; congr 1; omega
 have hq : IR (Int.tdiv left 10) := by rcases key.2 with e | e <;> rw [e] <;> exact ⟨by omega, by omega⟩
 have hz : (Int.tdiv left 10 == 0) = decide (m < 10) := by
  by_cases hlt : m < 10
  ·rw [decide_eq_true hlt]
   rcases key.2 with e | e <;> rw [e] <;> simp <;> omega
  ·rw [decide_eq_false hlt]
   rcases key.2 with e | e <;> rw [e] <;> simp <;> omega
 have hz2 : m < 10 → Int.tdiv left 10 = 0 := fun hlt => by rcases key.2 with e | e <;> rw [e] <;> omega
 unfold R14_Digits_L0
 simp only
 rw [key.1, bd_ret, Out.on_go, ck_IR (by omega) (by omega), hb, ck_SL (by simp only [List.length_append, List.length_cons, List.length_nil]; omega), ck_yes hq, hz, hm]
 by_cases hlt : m < 10
 ·rw [br_T hlt, if_pos hlt, hz2 hlt]
 ·rw [br_F hlt, if_neg hlt]
theorem tdiv_abs (left : Int) : (Int.tdiv left 10).natAbs = left.natAbs / 10 := by
 rcases Int.natAbs_eq left with e | e
 ·generalize left.natAbs = m at e
  rw [e, show Int.tdiv (m : Int) 10 = ((m / 10 : Nat) : Int) from (Int.ofNat_tdiv m 10).symm]; omega
 ·generalize left.natAbs = m at e
  rw [e, Int.neg_tdiv, show Int.tdiv (m : Int) 10 = ((m / 10 : Nat) : Int) from (Int.ofNat_tdiv m 10).symm]; omega
theorem digits_lp : ∀ (k : Nat) (left : Int) (s : List UInt8), left.natAbs < 10 ^ (k + 1) → InR left → s.length + k ≤ 1000 → lp R14_Digits_L0 (s, left) = some (.go (Lib.decDigits left.natAbs ++ s, 0))
 | 0, left, s, h, hr, hs => by
  have e := digits_step hr (by omega : s.length ≤ 1000)
  have h1 : left.natAbs < 10 := by simpa using h
  rw [if_pos h1, Nat.mod_eq_of_lt h1] at e
  rw [lp_brk e, dd_small h1]
 | k + 1, left, s, h, hr, hs => by
  have e := digits_step hr (by omega : s.length ≤ 1000)
  by_cases h1 : left.natAbs < 10
  ·rw [if_pos h1, Nat.mod_eq_of_lt h1] at e
   rw [lp_brk e, dd_small h1]
  ·rw [if_neg h1] at e
   have ha := tdiv_abs left
   have := digits_lp k (Int.tdiv left 10) ([UInt8.ofNat (48 + left.natAbs % 10)] ++ s) (by rw [ha]; rw [Nat.pow_succ] at h; omega) (by unfold InR at hr ⊢; omega) (by simp only [List.length_append, List.length_cons, List.length_nil]; omega)
   rw [lp_step e this, dd_big h1, ha, List.append_assoc]
theorem Digits_s {n : Int} (h : InR n) : R14_Digits_m n = some (Lib.itoa n) := by
 have e := digits_lp 18 n [] (by unfold InR at h; omega) h (by simp)
 have hl := dd_len 18 n.natAbs (by unfold InR at h; omega)
 unfold R14_Digits_m Lib.itoa
 rw [e, bd_ret, Out.on_go, List.append_nil]
 dsimp only
 by_cases h0 : n < 0
 ·rw [br_T h0, if_pos h0, ck_SL (by simp only [List.length_append, List.length_cons, List.length_nil]; omega)]; rfl
 ·rw [br_F h0, if_neg h0, show n.natAbs = n.toNat by omega]
theorem number_s {n : Int} (h : InR n) : text_number_m n = some (Lib.itoa n) := by unfold text_number_m FormatInt_m; rw [ck_yes ⟨h, rfl⟩, bd_ret]
def refT (r : Rf) : List UInt8 := 35 :: (Lib.itoa r.st ++ if r.bk = 0 then [] else 126 :: Lib.itoa r.bk)
structure StmNum (s : Stm) : Prop where
 r : s.InR
 a0 : s.op = 4 ∨ s.op > 10 → 0 ≤ s.a.bk
 b0 : s.op > 10 → 0 ≤ s.b.bk
 op : s.op = 1 ∨ s.op = 2 ∨ s.op = 3 ∨ s.op = 4 ∨ (11 ≤ s.op ∧ s.op ≤ 18)
theorem Fields_s : Fields_m [97, 100, 100, 32, 115, 117, 98, 32, 109, 117, 108, 32, 97, 110, 100, 32, 111, 114, 32, 120, 111, 114, 32, 108, 101, 115, 115, 32, 115, 97, 109, 101] = some opsW := ck_yes (c := _ = opsT) rfl
end Go.Rd
end
section
namespace Go.Rd
open Go.RowKit
theorem sz_list (l : List UInt8) : (ByteArray.mk l.toArray).size = l.length := by simp [ByteArray.size]
theorem data_list (l : List UInt8) : (ByteArray.mk l.toArray).data.toList = l := by simp
def Split_m (s sep : List UInt8) : Option (List (List UInt8)) := ck (s.length < 4294967281 ∧ 1 ≤ sep.length) (some (Lib.split s sep))
def Cut_m (s sep : List UInt8) : Option (List UInt8 × List UInt8 × Bool) := ck (s.length < 4294967281) (some (Lib.cut s sep))
def TrimPrefix_m (s p : List UInt8) : Option (List UInt8) := some (Lib.trimPrefix s p)
def CutPrefix_m (s p : List UInt8) : Option (List UInt8 × Bool) := some (Lib.trimPrefix s p, Lib.hasPrefix s p)
def numEnd (B : Nat) (s : List UInt8) : Int × Bool :=
 match Lib.parseIntB B s with
 | .ok v => (v, false)
 | .range => (Lib.intSat B s, true)
 | _ => (0, true)
def ParseInt_m (s : List UInt8) (b z : Int) : Option (Int × Bool) := ck ((b = 10 ∧ z = 64) ∧ s.length ≤ 281474976710656) (some (numEnd 64 s))
def ErrV (v : Value) (b : Bool) : Prop := if b = true then ∃ t p, v = .iface t p else v = .nilIface
section
variable {P : Program} {n : Nat} {σ : Env} {d : Option Tmp} {T U : TypeId} {pos : String} {after : Array Edge} {gd : Option (Nat × Bool)} {x : Operand} {g : Bool} {v : Value} {b : Bool} {ms : Array (String × TypeId)}
theorem run_eqErr {w : World} (e : Nat) (h : P.underlying U = some (.interface ms)) (hE : ErrV v b) : (Op.equalIn (e + 1) U v .nilIface).run P w = .ok (!b) w := by
 cases b with
 | true => obtain ⟨t, p, rfl⟩ := hE; simp [Op.equalIn, run_underlying h]
 | false => obtain rfl : v = .nilIface := hE; simp [Op.equalIn, run_underlying h]
theorem QV.eqlErr {C : World → Prop} {z : TypeId} (hU : P.underlying U = some (.interface ms)) (hx : σ.ev x = some (g, v)) (hg : g = true) (hE : ErrV v b) :
  QV P ⟨d, .binOp .eql U x (.const .nilIface) z, T, pos, after, gd⟩ σ C (.bool (!b)) := .of_run fun n a ha w hw => by
 have e1 := ha.ev hx hg
 have e2 : a.eval (.const .nilIface) = .nilIface := rfl
 have e3 : (eqGuard .eql U x (.const .nilIface) v .nilIface).run P w = .ok () w := by
  cases b with
  | true => obtain ⟨t, p, rfl⟩ := hE; simp [eqGuard]
  | false => obtain rfl : v = .nilIface := hE; rw [eqGuard_nil_constR]; rfl
 have e4 : (binOp .eql U v .nilIface).run P w = .ok (.bool (!b)) w := by
  simp only [binOp]
  simp [Op.equal, Op.maxDepth, run_eqErr (P := P) (w := w) 9999 hU hE]
 simp only [execOp, e1, e2, Sem.run_bind, e3, e4, Result.andThen_ok, Sem.run_pure]
end
section
variable {P : Program} {n : Nat} {σ : Env} {C : World → Prop} {d : Option Tmp} {T U : TypeId} {pos : String} {after : Array Edge} {gd : Option (Nat × Bool)} {x lo hi : Operand} {g g' g'' : Bool} {l : List UInt8} {k k' : IntKind} {i j : Int}
theorem extract_sub (l : List UInt8) (i j : Int) (h0 : 0 ≤ i) (h1 : i ≤ j) : (ByteArray.mk l.toArray).extract i.toNat j.toNat = ByteArray.mk (Rd.sub l i j).toArray := by
 have e : ((ByteArray.mk l.toArray).extract i.toNat j.toNat).data.toList = Rd.sub l i j := by
  rw [Lib.extract_data, data_list]
  unfold Rd.sub
  rw [show j.toNat - i.toNat = (j - i).toNat by omega]
 rw [← e]
theorem QV.subLH (hU : P.underlying U = some .string) (hx : σ.ev x = some (g, strV l)) (hg : g = true) (hlo : σ.ev lo = some (g', .int k i)) (hg' : g' = true) (hhi : σ.ev hi = some (g'', .int k' j)) (hg'' : g'' = true) (h : SX i j (ln l)) :
  QV P ⟨d, .slice U x (some lo) (some hi) none, T, pos, after, gd⟩ σ C (strV (Rd.sub l i j)) := .of_run fun n a ha w hw => by
 have hr := run_slice_string (P := P) w U ⟨l.toArray⟩ k k' i j hU h.1 h.2.1 (by rw [sz_list]; exact h.2.2)
 rw [extract_sub l i j h.1 h.2.1] at hr
 simp [execOp, ha.ev hx hg, ha.ev hlo hg', ha.ev hhi hg'', strV, run_sliceAt_string _ _ _ _ _ _ hU, hr]
theorem QV.subL (hU : P.underlying U = some .string) (hx : σ.ev x = some (g, strV l)) (hg : g = true) (hlo : σ.ev lo = some (g', .int k i)) (hg' : g' = true) (h : SX i (ln l) (ln l)) :
  QV P ⟨d, .slice U x (some lo) none none, T, pos, after, gd⟩ σ C (strV (Rd.sub l i (ln l))) := .of_run fun n a ha w hw => by
 have hr := run_slice_string_from_if (P := P) w U ⟨l.toArray⟩ k i hU
 have e := extract_sub l i (ln l) h.1 h.2.1
 rw [show (ln l).toNat = l.length by unfold ln; simp] at e
 rw [if_pos ⟨h.1, by rw [sz_list]; exact h.2.1⟩, sz_list, e] at hr
 simp [execOp, ha.ev hx hg, ha.ev hlo hg', strV, run_sliceAt_string _ _ _ _ _ _ hU, hr]
end
def pcell (b : Nat) (i : Int) : List Value := [.pointer (some ⟨b, i.toNat, none⟩)]
theorem pcell_len {b : Nat} : ∀ u : Int, (pcell b u).length = 1 := fun _ => rfl
def stmOf (ns : List Int) : Stm := ⟨ns.getD 0 0, ⟨ns.getD 1 0, ns.getD 2 0⟩, ⟨ns.getD 3 0, ns.getD 4 0⟩, ns.getD 5 0, ns.getD 6 0, ns.getD 7 0, ns.getD 8 0⟩
theorem stmOf_cells {ns : List Int} (h : ns.length = 9) : ns.map i64v = (stmOf ns).cells := by
 match ns, h with
 | [_, _, _, _, _, _, _, _, _], _ => rfl
section
variable {P : Program} {n : Nat} {σ : Env} {M : Nat → Prop} {w0 : World} {H : List Res} {T U E : TypeId} {pos : String} {after : Array Edge} {gd : Option (Nat × Bool)} {x y : Operand} {g g' : Bool} {v : Value} {K : Act → World → Prop} {Q : Exit → Act → World → Prop} {b : Nat}
theorem EV.storeB2 {xs : List Int} (k : Nat) (i z1 z2 : Int) {q : Addr} (hx : σ.ev x = some (g, .pointer (some q))) (hg : g = true) (hy : σ.ev y = some (g', v)) (hg' : g' = true) (hk : H[k]? = some (blk b (xs.map i64v) E)) (hq : q = ⟨b, i.toNat, none⟩) (hi : IX i (ln xs)) (hj : IX (i + 1) (ln xs))
  (hv : v.cells = [i64v z1, i64v z2].toArray) (hs : SizeT P T 2) (kk : WK n K σ (Own M w0 (H.set k (blk b ((upd (upd xs i z1) (i + 1) z2).map i64v) E)))) : EV P n ⟨none, .store T x y, U, pos, after, gd⟩ σ (Own M w0 H) K Q := by
 have h1 := hi.1; have h2 := hj.2; unfold ln at h2
 refine EV.store k (vs := [i64v z1, i64v z2]) hx hg hy hg' hk hq hv hs (by simp; omega) (fun u hu => by simp at hu; rcases hu with rfl | rfl <;> rfl) ?_
 rw [show putL (xs.map i64v) i.toNat [i64v z1, i64v z2] = (upd (upd xs i z1) (i + 1) z2).map i64v from by simp [putL, upd, List.map_set, show (i + 1).toNat = i.toNat + 1 by omega]]
 exact kk
theorem WQ.retCell2 {fn : Func} {R : Ending → World → Prop} {C : World → Prop} {ty ty2 : TypeId} {p p2 sz sz2 : Nat} {q q2 : Addr} {cs cs2 : List Value} (hr : fn.results = #[.cell p ty, .cell p2 ty2]) (hT : AggT P ty sz) (hl : cs.length = sz) (hp : σ.look p = some (true, .pointer (some q))) (hc : ∀ w, C w → CellsAt w q cs 0)
  (hT2 : AggT P ty2 sz2) (hl2 : cs2.length = sz2) (hp2 : σ.look p2 = some (true, .pointer (some q2))) (hc2 : ∀ w, C w → CellsAt w q2 cs2 0)
  (h : ∀ w, C w → R (.returned (.tuple #[.agg cs.toArray, .agg cs2.toArray])) w) : WK n (bodyPost P fn R .ret) σ C := fun a w ha hw => by
 refine ⟨ha.defers, _, ?_, h w hw⟩
 have a1 := ha.look p true _ hp
 have a2 := ha.look p2 true _ hp2
 simp at a1 a2
 have e1 := run_loadVar_cells (P := P) hT hl (hc w hw)
 have e2 := run_loadVar_cells (P := P) hT2 hl2 (hc2 w hw)
 simp [results, hr, a1, a2, asAddr, e1, e2]
end
open Go.Proofs Go.Shelf in
theorem split_own {P : Program} {ρ : Ren} (L : Lays.n146 P ρ) (hi9 : (P.info? (ρ.t 9)).map (fun i => (i.zero, i.size, i.bytes)) = some (some (.string ByteArray.empty), 1, 16)) (hg1 : P.globalNamed "internal/bytealg.MaxLen" = some (ρ.g 1)) {s sep : List UInt8} {r : List (List UInt8)} {K0 : World} (hm : Split_m s sep = some r) (M : Nat → Prop) (w : World) (hG : GlbM P M w) (hk : Base M K0 w) (hw0 : Own M w [] w) :
  Calls P (ρ.f 146) #[strV s, strV sep] w (fun e w' => ∃ X : Value × World, e = .returned (X.1) ∧ Own M w (kn M w.heap.size K0 X.2 :: []) w' ∧ Arr X.2 X.1 1 (r.map scell)) := by
 obtain ⟨⟨h1, h2⟩, h3⟩ := ck_some hm
 obtain rfl := eq_of_some h3
 obtain ⟨mx, hmx⟩ := hG.glb.mx _ hg1
 refine (Any.strings_Split L hi9 ⟨s.toArray⟩ ⟨sep.toArray⟩ mx w (by rw [sz_list]; exact h1) hmx (by rw [sz_list]; exact h2)).mono ?_
 rintro e w' ⟨he, hw'⟩
 have hd := Lib.splitB_data ⟨sep.toArray⟩ 0 (Lib.countB ⟨s.toArray⟩ ⟨sep.toArray⟩) ⟨s.toArray⟩
 rw [data_list, data_list] at hd
 have hc : Lib.countB ⟨s.toArray⟩ ⟨sep.toArray⟩ = Lib.count s sep := by unfold Lib.countB; rw [data_list, data_list]
 rw [hc] at hd he hw'
 have hd' : (Lib.splitB ⟨sep.toArray⟩ 0 (Lib.count s sep) ⟨s.toArray⟩).map (·.data.toList) = Lib.split s sep := hd
 have hv : (Lib.splitB ⟨sep.toArray⟩ 0 (Lib.count s sep) ⟨s.toArray⟩).map Value.string = (Lib.split s sep).map fun (q : List UInt8) => Value.string ⟨q.toArray⟩ := by
  rw [← hd', List.map_map]
  exact List.map_congr_left fun b _ => by simp
 have hlen : (Lib.split s sep).length = Lib.count s sep + 1 := by
  rw [← hd', List.length_map]
  have := Lib.splitB_all ⟨sep.toArray⟩ (by rw [sz_list]; exact h2) 0 _ ⟨s.toArray⟩ rfl
  rw [hc] at this
  exact this
 rw [hv] at hw'
 have hle : Lib.count s sep ≤ s.length + 1 := Lib.count_le _ _
 obtain ⟨X, x1, x2, x3⟩ := texts_new (Lib.split s sep) hk hw0 (by rw [hlen]; show _ ≤ 9223372036854775807; omega) hw'
 exact ⟨X, by rw [he, ← x1, hlen], x2, x3⟩
theorem drewN_grow (w : World) (k : Nat) : Grow w (w.drewN k) := .of ⟨rfl, rfl, rfl, Nat.le_refl _, fun _ _ => rfl⟩ (by simp [World.drewN])
open Go.Proofs Go.Shelf in
theorem cut_own {P : Program} {ρ : Ren} (L : Lays.n145 P ρ) (hg1 : P.globalNamed "internal/bytealg.MaxLen" = some (ρ.g 1)) {s sep : List UInt8} {r : List UInt8 × List UInt8 × Bool} (w : World) (hm : Cut_m s sep = some r) (hg : Glb P w) : Calls P (ρ.f 145) #[strV s, strV sep] w (fun e w' => e = .returned (.tuple #[strV r.1, strV r.2.1, .bool r.2.2]) ∧ Grow w w') := by
 obtain ⟨h1, h3⟩ := ck_some hm
 obtain rfl := eq_of_some h3
 obtain ⟨mx, hmx⟩ := hg.mx _ hg1
 refine (Any.strings_Cut L ⟨s.toArray⟩ ⟨sep.toArray⟩ mx w (by rw [sz_list]; exact h1) hmx).mono ?_
 rintro e w' ⟨he, k, rfl⟩
 rw [data_list, data_list] at he
 exact ⟨he, drewN_grow w k⟩
open Go.Proofs Go.Shelf in
theorem trim_own {P : Program} {ρ : Ren} (L : Lays.n101 P ρ) {s p r : List UInt8} (w : World) (hm : TrimPrefix_m s p = some r) : Calls P (ρ.f 101) #[strV s, strV p] w (fun e w' => e = .returned (strV r) ∧ Grow w w') := by
 obtain rfl := eq_of_some hm
 refine (Any.strings_TrimPrefix L ⟨s.toArray⟩ ⟨p.toArray⟩ w).mono ?_
 rintro e w' ⟨he, hw⟩
 rw [data_list, data_list] at he
 exact ⟨he, grow_same hw⟩
open Go.Proofs Go.Shelf in
theorem cutp_own {P : Program} {ρ : Ren} (L : Lays.n103 P ρ) {s p : List UInt8} {r : List UInt8 × Bool} (w : World) (hm : CutPrefix_m s p = some r) : Calls P (ρ.f 103) #[strV s, strV p] w (fun e w' => e = .returned (.tuple #[strV r.1, .bool r.2]) ∧ Grow w w') := by
 obtain rfl := eq_of_some hm
 refine (Any.strings_CutPrefix L ⟨s.toArray⟩ ⟨p.toArray⟩ w).mono ?_
 rintro e w' ⟨he, hw⟩
 rw [data_list, data_list] at he
 exact ⟨he, grow_same hw⟩
section
open Go.Proofs Go.Shelf
variable {P : Program} {ρ : Ren}
set_option maxHeartbeats 4000000 in
set_option maxRecDepth 100000 in
theorem clone_grow (L : LaysM.n316 P ρ) (s : ByteArray) (w : World) (hlim : s.size ≤ 281474976710656) : Calls P (ρ.f 316) #[.string s] w fun e w' => e = .returned (.string s) ∧ Grow w w' := by
 have mixed := L.mixed
 have t5 := L.t5; have a5 := L.a5; have z5 := L.z5; have v5 := L.v5
 have t9 := L.t9; have a9 := L.a9; have z9 := L.z9; have v9 := L.v9
 have t3 := L.t3; have a3 := L.a3; have z3 := L.z3; have v3 := L.v3
 have t4 := L.t4; have a4 := L.a4; have z4 := L.z4; have v4 := L.v4
 have t37 := L.t37; have a37 := L.a37; have z37 := L.z37; have v37 := L.v37
 have t0 := L.t0; have a0 := L.a0; have z0 := L.z0; have v0 := L.v0
 have t127 := L.t127; have a127 := L.a127; have z127 := L.z127; have v127 := L.v127
 rcases Nat.eq_zero_or_pos s.size with h0 | h0
 ·obtain rfl : s = ⟨#[]⟩ := ByteArray.ext (Array.eq_empty_of_size_eq_zero h0)
  go_enter L.f316, Body.n316_ntmps ρ
  go_wp2
  go_ret
  exact ⟨rfl, Grow.refl _⟩
 ·obtain ⟨i0, hi, hz0, hz1, hz2⟩ := info_parts L.i5
  have hsz : (P.info? (ρ.t 5)).map (·.size) = some 1 := by rw [hi]; simp [hz1]
  have hone : P.cellsOf (ρ.t 5) = 1 := by simp [Program.cellsOf, hi, hz1]
  obtain ⟨Z, hZ⟩ : ∃ Z, madeCells (Value.int .u8 0).cells (((s.size : Nat) : Int).toNat * i0.size) = Z := ⟨_, rfl⟩
  have hZs : Z.size = s.size := by rw [← hZ, size_madeCells, hz1]; simp
  have hmk : ∀ W : World, (Instr.makeSlice (ρ.t 37) (.int .i64 (s.size : Int)) (.int .i64 (s.size : Int))).run P W = .ok (.slice (some ⟨W.heap.size, 0, none⟩) s.size s.size) (W.alloc (.cells Z (ρ.t 5))) := fun W => by
   have h := run_make (P := P) W (ρ.t 37) (ρ.t 5) i0 (.int .u8 0) L.t37 hi hz0 .i64 .i64 (s.size : Int) (s.size : Int) (by omega) (by omega) (by rw [hz2]; omega) (by omega)
   rw [hZ] at h
   simpa using h
  clear hZ
  obtain ⟨w1, hw1⟩ : ∃ w1, w.alloc (.cells Z (ρ.t 5)) = w1 := ⟨_, rfl⟩
  have hn1 : w1.heap[w.heap.size]? = some (.cells Z (ρ.t 5) (0, 0)) := by rw [← hw1]; exact heap_alloc_new w _
  have hcp := Lib.run_copy_row_string (P := P) w1 (ρ.t 37) (ρ.t 9) (ρ.t 3) (ρ.t 5) w.heap.size 0 s.size s.size s Z (ρ.t 5) L.t37 hsz hn1 (Nat.le_refl _) (by omega)
  obtain ⟨Y, hY⟩ : ∃ Y, (Z.toList.take 0 ++ Lib.byteCells s.data.toList ++ Z.toList.drop (0 + s.size)).toArray = Y := ⟨_, rfl⟩
  rw [hY] at hcp
  have hYl : Y.toList = Lib.byteCells s.data.toList := by
   rw [← hY, List.toList_toArray, List.take_zero, List.nil_append, List.drop_of_length_le (by rw [Array.length_toList]; omega), List.append_nil]
  have hgY : (w1.setRow w.heap.size Y).heap[w.heap.size]? = some (.cells Y (ρ.t 5) (0, 0)) := setRow_heap _ _ Z _ (ρ.t 5) (0, 0) hn1
  have hYs : Y.size = s.size := by rw [← Array.length_toList, hYl, Lib.byteCells_length, ← Lib.size_eq]
  have hne : s.data.toList ≠ [] := fun e => by rw [Lib.size_eq, e] at h0; exact absurd h0 (by simp)
  have hUS := Lib.run_unsafeString_row (P := P) (w1.setRow w.heap.size Y) (ρ.t 127) (ρ.t 3) (ρ.t 9) (ρ.t 5) L.t127 hone w.heap.size Y.size (by unfold World.shape?; rw [hgY]) s.data.toList hne (by rw [← Lib.size_eq]; omega) (by rw [← Lib.size_eq]; omega)
   (fun j x hx => Lib.cells_of_row hgY Y.size j _ (by rw [List.take_of_length_le (by rw [Array.length_toList]; exact Nat.le_refl _), hYl]; simp [Lib.byteCells, hx]))
  rw [← Lib.size_eq] at hUS
  clear hY
  subst hw1
  go_enter L.f316, Body.n316_ntmps ρ
  go_wp2
  go_ret
  have hb : Below w.heap.size w ((w.alloc (.cells Z (ρ.t 5))).setRow w.heap.size Y) := ((Below.refl _ w).alloc (Nat.le_refl _) _).trans ⟨rfl, rfl, rfl, by simp, fun k hk => setRow_other _ _ _ _ (by omega)⟩
  exact ⟨rfl, .of (Lib.below_freeze hb (p := ⟨w.heap.size, 0, none⟩) (Nat.le_refl _) _) (by rw [freeze_drawn]; exact Nat.le_refl _)⟩
theorem drew_grow (w : World) : Grow w w.drew := .of ⟨rfl, rfl, rfl, Nat.le_refl _, fun _ _ => rfl⟩ (Nat.le_succ _)
set_option maxHeartbeats 6400000 in
set_option maxRecDepth 100000 in
theorem synErr_grow (L : LaysM.n279 P ρ) (fn s : ByteArray) (te : TypeId) (pe : Value) (w : World) (hlim : s.size ≤ 281474976710656) (hv : w.cell? ⟨(ρ.g 15), 0, none⟩ = some (.iface te pe)) :
  Calls P (ρ.f 279) #[.string fn, .string s] w fun e w' => ∃ N, e = .returned (.pointer (some ⟨N, 0, none⟩)) ∧ Grow w w' := by
 have mixed := L.mixed
 have t9 := L.t9; have a9 := L.a9; have z9 := L.z9; have v9 := L.v9
 have t168 := L.t168; have a168 := L.a168; have z168 := L.z168; have v168 := L.v168
 have t75 := L.t75; have a75 := L.a75; have z75 := L.z75; have v75 := L.v75
 have t210 := L.t210; have u210 := run_underlying L.t210; have a210 := L.a210; have z210 := L.z210; have v210 := L.v210
 have e316 : ∀ args w, (callFunc (ρ.f 316) args).run P w = .ok (.enter (ρ.f 316) args) w := enters_of L.f316 (by kernel_rfl) rfl
 have hG : (ρ.g 15) < w.heap.size := Lib.lt_of_cell hv
 have hvd : w.drew.cell? ⟨(ρ.g 15), 0, none⟩ = some (.iface te pe) := hv
 go_enter L.f279, Body.n279_ntmps ρ
 go_wp2
 go_region_with_o (
   go_at_fn (ρ.f 316)
   refine (clone_grow { L with } s _ hlim).mono ?_
   rintro e w2 ⟨rfl, hgr⟩
   have hv2 : w2.cell? ⟨(ρ.g 15), 0, none⟩ = some (.iface te pe) := (hgr.cell (show (⟨(ρ.g 15), 0, none⟩ : Addr).block < w.drew.heap.size from hG)).trans hvd)
 all_goals (
  go_wp2
  go_ret
  exact ⟨_, rfl, ((drew_grow w).trans hgr).trans (Grow.alloc _)⟩)
set_option maxHeartbeats 6400000 in
set_option maxRecDepth 100000 in
theorem rngErr_grow (L : LaysM.n280 P ρ) (fn s : ByteArray) (te : TypeId) (pe : Value) (w : World) (hlim : s.size ≤ 281474976710656) (hv : w.cell? ⟨(ρ.g 16), 0, none⟩ = some (.iface te pe)) :
  Calls P (ρ.f 280) #[.string fn, .string s] w fun e w' => ∃ N, e = .returned (.pointer (some ⟨N, 0, none⟩)) ∧ Grow w w' := by
 have mixed := L.mixed
 have t9 := L.t9; have a9 := L.a9; have z9 := L.z9; have v9 := L.v9
 have t168 := L.t168; have a168 := L.a168; have z168 := L.z168; have v168 := L.v168
 have t75 := L.t75; have a75 := L.a75; have z75 := L.z75; have v75 := L.v75
 have t210 := L.t210; have u210 := run_underlying L.t210; have a210 := L.a210; have z210 := L.z210; have v210 := L.v210
 have e316 : ∀ args w, (callFunc (ρ.f 316) args).run P w = .ok (.enter (ρ.f 316) args) w := enters_of L.f316 (by kernel_rfl) rfl
 have hG : (ρ.g 16) < w.heap.size := Lib.lt_of_cell hv
 have hvd : w.drew.cell? ⟨(ρ.g 16), 0, none⟩ = some (.iface te pe) := hv
 go_enter L.f280, Body.n280_ntmps ρ
 go_wp2
 go_region_with_o (
   go_at_fn (ρ.f 316)
   refine (clone_grow { L with } s _ hlim).mono ?_
   rintro e w2 ⟨rfl, hgr⟩
   have hv2 : w2.cell? ⟨(ρ.g 16), 0, none⟩ = some (.iface te pe) := (hgr.cell (show (⟨(ρ.g 16), 0, none⟩ : Addr).block < w.drew.heap.size from hG)).trans hvd)
 all_goals (
  go_wp2
  go_ret
  exact ⟨_, rfl, ((drew_grow w).trans hgr).trans (Grow.alloc _)⟩)
set_option maxHeartbeats 4000000 in
set_option maxRecDepth 100000 in
theorem toErr_syn (L : LaysC.n245 P ρ) (fn s : ByteArray) (base bits : Int) (te : TypeId) (pe : Value) (w : World) (hlim : s.size ≤ 281474976710656) (hv : w.cell? ⟨(ρ.g 15), 0, none⟩ = some (.iface te pe)) :
  Calls P (ρ.f 245) #[.string fn, .string s, .int .i64 base, .int .i64 bits, .iface (ρ.t 167) (.int .i64 2)] w fun e w' => ∃ N, e = .returned (.iface (ρ.t 168) (.pointer (some ⟨N, 0, none⟩))) ∧ Grow w w' := by
 have mixed := L.mixed
 have t9 := L.t9; have a9 := L.a9; have z9 := L.z9; have v9 := L.v9
 have t3 := L.t3; have a3 := L.a3; have z3 := L.z3; have v3 := L.v3
 have t75 := L.t75; have a75 := L.a75; have z75 := L.z75; have v75 := L.v75
 have t167 := L.t167; have a167 := L.a167; have z167 := L.z167; have v167 := L.v167
 have t4 := L.t4; have a4 := L.a4; have z4 := L.z4; have v4 := L.v4
 have t168 := L.t168; have a168 := L.a168; have z168 := L.z168; have v168 := L.v168
 have ent : ∀ args w, (callFunc (ρ.f 279) args).run P w = .ok (.enter (ρ.f 279) args) w := enters_of L.f279 (by kernel_rfl) rfl
 have q22 : ∀ W, (binOp .eql (ρ.t 75) (.iface (ρ.t 167) (.int .i64 2)) (.iface (ρ.t 167) (.int .i64 2))).run P W = .ok (.bool true) W := fun W => Lib.run_eql_iface_int W 2 2 L.t75 L.c167 L.t167
 go_enter L.f245, Body.n245_ntmps ρ
 go_wp2_with (go_at_fn (ρ.f 279); refine (synErr_grow { L with } fn s te pe _ hlim ?_).mono ?_)
 ·exact hv
 rintro e w2 ⟨N, rfl, h1⟩
 go_wp2
 go_ret
 exact ⟨N, rfl, h1⟩
set_option maxHeartbeats 4000000 in
set_option maxRecDepth 100000 in
theorem toErr_rng (L : LaysC.n245 P ρ) (fn s : ByteArray) (base bits : Int) (te : TypeId) (pe : Value) (w : World) (hlim : s.size ≤ 281474976710656) (hv : w.cell? ⟨(ρ.g 16), 0, none⟩ = some (.iface te pe)) :
  Calls P (ρ.f 245) #[.string fn, .string s, .int .i64 base, .int .i64 bits, .iface (ρ.t 167) (.int .i64 1)] w fun e w' => ∃ N, e = .returned (.iface (ρ.t 168) (.pointer (some ⟨N, 0, none⟩))) ∧ Grow w w' := by
 have mixed := L.mixed
 have t9 := L.t9; have a9 := L.a9; have z9 := L.z9; have v9 := L.v9
 have t3 := L.t3; have a3 := L.a3; have z3 := L.z3; have v3 := L.v3
 have t75 := L.t75; have a75 := L.a75; have z75 := L.z75; have v75 := L.v75
 have t167 := L.t167; have a167 := L.a167; have z167 := L.z167; have v167 := L.v167
 have t4 := L.t4; have a4 := L.a4; have z4 := L.z4; have v4 := L.v4
 have t168 := L.t168; have a168 := L.a168; have z168 := L.z168; have v168 := L.v168
 have ent : ∀ args w, (callFunc (ρ.f 280) args).run P w = .ok (.enter (ρ.f 280) args) w := enters_of L.f280 (by kernel_rfl) rfl
 have q12 : ∀ W, (binOp .eql (ρ.t 75) (.iface (ρ.t 167) (.int .i64 1)) (.iface (ρ.t 167) (.int .i64 2))).run P W = .ok (.bool false) W := fun W => Lib.run_eql_iface_int W 1 2 L.t75 L.c167 L.t167
 have q11 : ∀ W, (binOp .eql (ρ.t 75) (.iface (ρ.t 167) (.int .i64 1)) (.iface (ρ.t 167) (.int .i64 1))).run P W = .ok (.bool true) W := fun W => Lib.run_eql_iface_int W 1 1 L.t75 L.c167 L.t167
 go_enter L.f245, Body.n245_ntmps ρ
 go_wp2_with (go_at_fn (ρ.f 280); refine (rngErr_grow { L with } fn s te pe _ hlim ?_).mono ?_)
 ·exact hv
 rintro e w2 ⟨N, rfl, h1⟩
 go_wp2
 go_ret
 exact ⟨N, rfl, h1⟩
theorem bytes_grow (w : World) (e : TypeId) (s : ByteArray) : Grow w (Lib.bytesWorld w e s) := .of (Lib.bytesWorld_below _ _ _) (by unfold Lib.bytesWorld; rw [freeze_drawn]; exact Nat.le_succ _)
set_option maxHeartbeats 4000000 in
set_option maxRecDepth 100000 in
theorem parse_syn (L : LaysC.n174 P ρ) (s : ByteArray) (te : TypeId) (pe : Value) (w : World) (hlim : s.size ≤ 281474976710656) (h : Lib.parseIntB 64 s.data.toList = Lib.parseIntB 64 []) (hv : w.cell? ⟨(ρ.g 15), 0, none⟩ = some (.iface te pe)) :
  Calls P (ρ.f 174) #[.string s, .int .i64 10, .int .i64 64] w fun e w' => ∃ N, e = .returned (.tuple #[.int .i64 (0), .iface (ρ.t 168) (.pointer (some ⟨N, 0, none⟩))]) ∧ Grow w w' := by
 have mixed := L.mixed
 have t9 := L.t9; have a9 := L.a9; have z9 := L.z9; have v9 := L.v9
 have t3 := L.t3; have a3 := L.a3; have z3 := L.z3; have v3 := L.v3
 have t2 := L.t2; have a2 := L.a2; have z2 := L.z2; have v2 := L.v2
 have t75 := L.t75; have a75 := L.a75; have z75 := L.z75; have v75 := L.v75
 have t85 := L.t85; have a85 := L.a85; have z85 := L.z85; have v85 := L.v85
 have t4 := L.t4; have a4 := L.a4; have z4 := L.z4; have v4 := L.v4
 have e247 : ∀ args w, (callFunc (ρ.f 247) args).run P w = .ok (.enter (ρ.f 247) args) w := enters_of L.f247 (by kernel_rfl) rfl
 have e245 : ∀ args w, (callFunc (ρ.f 245) args).run P w = .ok (.enter (ρ.f 245) args) w := enters_of L.f245 (by kernel_rfl) rfl
 have hI := Any.internal_strconv_ParseInt_10_all64 { L with } s (by omega) w
 rw [h] at hI
 generalize Lib.intSat 64 s.data.toList = sat at hI ⊢
 have hI : Calls P (ρ.f 247) #[.string s, .int .i64 10, .int .i64 64] w fun e w' => e = .returned (.tuple #[.int .i64 (0), .iface (ρ.t 167) (.int .i64 2)]) ∧ Grow w w' := hI.mono fun e w' ⟨he, hw⟩ => ⟨he, by
  rcases hw with rfl | ⟨t, rfl⟩
  ·exact Grow.refl _
  ·exact bytes_grow _ _ _⟩
 clear h
 go_enter L.f174, Body.n174_ntmps ρ
 go_wp2_with (go_at_fn (ρ.f 247); refine hI.mono ?_)
 rintro e W1 ⟨rfl, hg1⟩
 have hv1 : W1.cell? ⟨(ρ.g 15), 0, none⟩ = some (.iface te pe) := (hg1.cell (show (⟨(ρ.g 15), 0, none⟩ : Addr).block < w.heap.size from Lib.lt_of_cell hv)).trans hv
 go_wp2_with (go_at_fn (ρ.f 245); refine (toErr_syn { L with } ⟨#[80, 97, 114, 115, 101, 73, 110, 116]⟩ s 10 64 te pe _ hlim ?_).mono ?_)
 ·exact hv1
 rintro e W2 ⟨N, rfl, h2⟩
 go_wp2
 go_ret2
 exact ⟨N, rfl, hg1.trans h2⟩
set_option maxHeartbeats 4000000 in
set_option maxRecDepth 100000 in
theorem parse_rng (L : LaysC.n174 P ρ) (s : ByteArray) (te : TypeId) (pe : Value) (w : World) (hlim : s.size ≤ 281474976710656) (h : Lib.parseIntB 64 s.data.toList = .range) (hv : w.cell? ⟨(ρ.g 16), 0, none⟩ = some (.iface te pe)) :
  Calls P (ρ.f 174) #[.string s, .int .i64 10, .int .i64 64] w fun e w' => ∃ N, e = .returned (.tuple #[.int .i64 (Lib.intSat 64 s.data.toList), .iface (ρ.t 168) (.pointer (some ⟨N, 0, none⟩))]) ∧ Grow w w' := by
 have mixed := L.mixed
 have t9 := L.t9; have a9 := L.a9; have z9 := L.z9; have v9 := L.v9
 have t3 := L.t3; have a3 := L.a3; have z3 := L.z3; have v3 := L.v3
 have t2 := L.t2; have a2 := L.a2; have z2 := L.z2; have v2 := L.v2
 have t75 := L.t75; have a75 := L.a75; have z75 := L.z75; have v75 := L.v75
 have t85 := L.t85; have a85 := L.a85; have z85 := L.z85; have v85 := L.v85
 have t4 := L.t4; have a4 := L.a4; have z4 := L.z4; have v4 := L.v4
 have e247 : ∀ args w, (callFunc (ρ.f 247) args).run P w = .ok (.enter (ρ.f 247) args) w := enters_of L.f247 (by kernel_rfl) rfl
 have e245 : ∀ args w, (callFunc (ρ.f 245) args).run P w = .ok (.enter (ρ.f 245) args) w := enters_of L.f245 (by kernel_rfl) rfl
 have hI := Any.internal_strconv_ParseInt_10_all64 { L with } s (by omega) w
 rw [h] at hI
 generalize Lib.intSat 64 s.data.toList = sat at hI ⊢
 have hI : Calls P (ρ.f 247) #[.string s, .int .i64 10, .int .i64 64] w fun e w' => e = .returned (.tuple #[.int .i64 (sat), .iface (ρ.t 167) (.int .i64 1)]) ∧ Grow w w' := hI.mono fun e w' ⟨he, hw⟩ => ⟨he, by
  rcases hw with rfl | ⟨t, rfl⟩
  ·exact Grow.refl _
  ·exact bytes_grow _ _ _⟩
 clear h
 go_enter L.f174, Body.n174_ntmps ρ
 go_wp2_with (go_at_fn (ρ.f 247); refine hI.mono ?_)
 rintro e W1 ⟨rfl, hg1⟩
 have hv1 : W1.cell? ⟨(ρ.g 16), 0, none⟩ = some (.iface te pe) := (hg1.cell (show (⟨(ρ.g 16), 0, none⟩ : Addr).block < w.heap.size from Lib.lt_of_cell hv)).trans hv
 go_wp2_with (go_at_fn (ρ.f 245); refine (toErr_rng { L with } ⟨#[80, 97, 114, 115, 101, 73, 110, 116]⟩ s 10 64 te pe _ hlim ?_).mono ?_)
 ·exact hv1
 rintro e W2 ⟨N, rfl, h2⟩
 go_wp2
 go_ret2
 exact ⟨N, rfl, hg1.trans h2⟩
theorem parseInt_own (L : LaysC.n174 P ρ) {s : List UInt8} {b z : Int} {r : Int × Bool} {K0 : World} (hm : ParseInt_m s b z = some r) (M : Nat → Prop) (w : World) (hG : GlbM P M w) (hk : Base M K0 w) (hw0 : Own M w [] w) :
  Calls P (ρ.f 174) #[strV s, .int .i64 b, .int .i64 z] w (fun e w' => ∃ X : Value × World, e = .returned (.tuple #[.int .i64 r.1, X.1]) ∧ Own M w (kn M w.heap.size K0 X.2 :: []) w' ∧ ErrV X.1 r.2) := by
 obtain ⟨⟨⟨rfl, rfl⟩, h1⟩, h2⟩ := ck_some hm
 obtain rfl := eq_of_some h2
 have hs := Own.startK hk hw0
 have hcl : ∀ {w'}, Grow w w' → Own M w (kn M w.heap.size K0 K0 :: []) w' := fun hg => Own.closed _ _ hs hg
 have hz : (ByteArray.mk s.toArray).size ≤ 281474976710656 := by rw [sz_list]; exact h1
 unfold numEnd
 cases hp : Lib.parseIntB 64 s with
 | ok v =>
  refine (Any.strconv_ParseInt_10_at64_ok L ⟨s.toArray⟩ (by omega) v (by rw [data_list]; exact hp) w).mono ?_
  rintro e w' ⟨he, hw⟩
  refine ⟨(.nilIface, K0), he, hcl ?_, rfl⟩
  rcases hw with rfl | ⟨t, rfl⟩
  ·exact Grow.refl _
  ·exact bytes_grow _ _ _
 | range =>
  obtain ⟨te, pe, hv⟩ := hG.glb.rng (by rw [L.m16]; rfl)
  have hc : w.cell? ⟨(ρ.g 16), 0, none⟩ = some (.iface te pe) := by have h0 := World.var?_cell L.m16 hv 0; simpa using h0
  refine (parse_rng L ⟨s.toArray⟩ te pe w hz (by rw [data_list]; exact hp) hc).mono ?_
  rintro e w' ⟨N, he, hg⟩
  rw [data_list] at he
  exact ⟨(_, K0), he, hcl hg, ⟨_, _, rfl⟩⟩
 | _ =>
  obtain ⟨te, pe, hv⟩ := hG.glb.syn (by rw [L.m15]; rfl)
  have hc : w.cell? ⟨(ρ.g 15), 0, none⟩ = some (.iface te pe) := by have h0 := World.var?_cell L.m15 hv 0; simpa using h0
  refine (parse_syn L ⟨s.toArray⟩ te pe w hz (by rw [data_list]; exact hp) hc).mono ?_
  rintro e w' ⟨N, he, hg⟩
  exact ⟨(_, K0), he, hcl hg, ⟨_, _, rfl⟩⟩
end
end Go.Rd
end
section
namespace Go.Rd
noncomputable def text_whole_m (s : List UInt8) (most : Int) : Option (Int × Bool) :=
 bd (ParseInt_m s 10 64) fun x1 =>
 bdG (!x1.2) (text_number_m x1.1) fun x5 =>
 bdG ((!x1.2) && (x5 == s)) (TrimPrefix_m s [45]) fun x8 =>
 some (x1.1, (((!x1.2) && (x5 == s)) && (decide ((ln x8) ≤ most))))
noncomputable def text_small_m (s : List UInt8) : Option (Int × Bool) :=
 bd (text_whole_m s 18) fun x1 =>
 some (x1.1, x1.2)
noncomputable def text_reads_m (s : List UInt8) : Option (Rf × Bool) :=
 bd (CutPrefix_m s [35]) fun x2 =>
 bd (Cut_m x2.1 [126]) fun x5 =>
 bd (text_small_m x5.1) fun x8 =>
 br x5.2.2 (
 bd (text_small_m x5.2.1) fun x14 =>
 some ((Rf.mk x8.1 x14.1), (x2.2 && ((x8.2 && x14.2) && (decide (x14.1 > 0)))))) (
 some ((Rf.mk x8.1 0), (x2.2 && x8.2)))
noncomputable def text_shape_L1 (word : List UInt8) (x13 : List (List UInt8)) : Int → Option (Stp (Int) (Int × List UInt8 × Bool)) := fun x18_1 =>
 br (decide (x18_1 < (ln x13))) (
 ck (IX x18_1 (ln x13)) <|
 br ((ele x13 x18_1) == word) (
 ck (IR (10 + x18_1)) <|
 ck (IR ((10 + x18_1) + 1)) <|
 some (.ret (((10 + x18_1) + 1), [114, 114], true))) (
 ck (IR (x18_1 + 1)) <|
 some (.next (x18_1 + 1)))) (
 some (.brk x18_1))
noncomputable def text_shape_m (word : List UInt8) : Option (Int × List UInt8 × Bool) :=
 br (word == [99, 111, 110, 115, 116]) (
 some (1, [110], true)) (
 br (word == [116, 117, 114, 110]) (
 some (2, [], true)) (
 br (word == [108, 111, 97, 100]) (
 some (3, [110, 110, 110], true)) (
 br (word == [115, 116, 111, 114, 101]) (
 some (4, [110, 110, 110, 114], true)) (
 bd (Fields_m [97, 100, 100, 32, 115, 117, 98, 32, 109, 117, 108, 32, 97, 110, 100, 32, 111, 114, 32, 120, 111, 114, 32, 108, 101, 115, 115, 32, 115, 97, 109, 101]) fun x13 =>
 bd (lp (text_shape_L1 word x13) 0) fun o17 => o17.on (fun x18_1 =>
 some (0, [], false)) (fun r => some r)))))
noncomputable def text_reader_stmt_L0 (r_Loop_Body : List Stm) (words : List (List UInt8)) (x5 : Int × List UInt8 × Bool) : ((List Int) × (List Int) × (List Int) × Int) → Option (Stp ((List Int) × (List Int) × (List Int) × Int) (Bool × List Stm)) := fun (b13n_1, numbers9_1, refs10_1, x75_1) =>
 br (decide (x75_1 < (ln (sub words 1 (ln words))))) (
 ck (IX x75_1 (ln (sub words 1 (ln words)))) <|
 ck (IX x75_1 (ln x5.2.1)) <|
 br (((ele x5.2.1 x75_1).toNat : Int) == 110) (
 ck (IX 0 (ln numbers9_1)) <|
 bd (text_small_m (ele (sub words 1 (ln words)) x75_1)) fun x55 =>
 ck (IX (ele numbers9_1 0) (ln b13n_1)) <|
 ck (SX 1 (ln numbers9_1) (ln numbers9_1)) <|
 br (!x55.2) (
 some (.ret (false, r_Loop_Body))) (
 ck (IR (x75_1 + 1)) <|
 some (.next ((upd b13n_1 (ele numbers9_1 0) x55.1), (sub numbers9_1 1 (ln numbers9_1)), refs10_1, (x75_1 + 1))))) (
 ck (IX 0 (ln refs10_1)) <|
 bd (text_reads_m (ele (sub words 1 (ln words)) x75_1)) fun x73 =>
 ck (IX (ele refs10_1 0) (ln b13n_1)) <|
 ck (IX ((ele refs10_1 0) + 1) (ln b13n_1)) <|
 ck (SX 1 (ln refs10_1) (ln refs10_1)) <|
 br (!x73.2) (
 some (.ret (false, r_Loop_Body))) (
 ck (IR (x75_1 + 1)) <|
 some (.next ((upd (upd b13n_1 (ele refs10_1 0) x73.1.st) ((ele refs10_1 0) + 1) x73.1.bk), numbers9_1, (sub refs10_1 1 (ln refs10_1)), (x75_1 + 1)))))) (
 some (.brk (b13n_1, numbers9_1, refs10_1, x75_1)))
noncomputable def text_reader_stmt_m (r_Loop_Logs : List Int) (r_Loop_Body : List Stm) (r_Loop_Outs : List Int) (words : List (List UInt8)) : Option (Bool × List Stm) :=
 ck (IX 0 (ln words)) <|
 bd (text_shape_m (ele words 0)) fun x5 =>
 ck ((!(!x5.2.2)) = true → IR ((ln words) - 1)) <|
 br (((!x5.2.2) || (((ln words) - 1) != (ln x5.2.1))) || (decide ((ln r_Loop_Outs) > 0))) (
 some (false, r_Loop_Body)) (
 br (x5.1 == 1) (
 ck (IX 1 (ln words)) <|
 bd (text_whole_m (ele words 1) 19) fun x20 =>
 ck (AL (r_Loop_Body ++ [(Stm.mk x5.1 (Rf.mk 0 0) (Rf.mk 0 0) 0 0 0 x20.1)]).length 72) <|
 some (x20.2, (r_Loop_Body ++ [(Stm.mk x5.1 (Rf.mk 0 0) (Rf.mk 0 0) 0 0 0 x20.1)]))) (
 ck (SX 1 (ln words) (ln words)) <|
 bd (lp (text_reader_stmt_L0 r_Loop_Body words x5) (([x5.1, 0, 0, 0, 0, 0, 0, 0, 0] : List Int), ([5, 6, 7] : List Int), ([1, 3] : List Int), 0)) fun o36 => o36.on (fun (b13n_1, numbers9_1, refs10_1, x75_1) =>
 ck (b13n_1.length = 9) <|
 ck (AL (r_Loop_Body ++ [(stmOf b13n_1)]).length 72) <|
 some (true, (r_Loop_Body ++ [(stmOf b13n_1)]))) (fun r => some r)))
noncomputable def text_reader_line_m (r_Loop_Logs : List Int) (r_Loop_Body : List Stm) (r_Loop_Outs : List Int) (s : List UInt8) : Option (Bool × List Int × List Stm × List Int) :=
 bd (Split_m s [32]) fun x1 =>
 ck (IX 0 (ln x1)) <|
 ck (((ele x1 0) != [97, 114, 114, 97, 121]) = true → IX 0 (ln x1)) <|
 br (((ele x1 0) != [97, 114, 114, 97, 121]) && ((ele x1 0) != [111, 117, 116])) (
 bd (text_reader_stmt_m r_Loop_Logs r_Loop_Body r_Loop_Outs x1) fun x15 =>
 some (x15.1, r_Loop_Logs, x15.2, r_Loop_Outs)) (
 br ((ln x1) != 2) (
 some (false, r_Loop_Logs, r_Loop_Body, r_Loop_Outs)) (
 ck (IX 1 (ln x1)) <|
 bd (text_small_m (ele x1 1)) fun x27 =>
 ck (IX 0 (ln x1)) <|
 br ((ele x1 0) == [97, 114, 114, 97, 121]) (
 ck ((x27.2) = true → IR ((ln r_Loop_Body) + (ln r_Loop_Outs))) <|
 ck (AL (r_Loop_Logs ++ [x27.1]).length 8) <|
 some ((x27.2 && (((ln r_Loop_Body) + (ln r_Loop_Outs)) == 0)), (r_Loop_Logs ++ [x27.1]), r_Loop_Body, r_Loop_Outs)) (
 ck (AL (r_Loop_Outs ++ [x27.1]).length 8) <|
 some (x27.2, r_Loop_Logs, r_Loop_Body, (r_Loop_Outs ++ [x27.1])))))
noncomputable def text_Parse_L0 (x3 : List (List UInt8)) : ((List Int) × (List Stm) × (List Int) × Int) → Option (Stp ((List Int) × (List Stm) × (List Int) × Int) (Lp × Flt)) := fun (v15_1, v14_1, v13_1, x20_1) =>
 br (decide (x20_1 < (ln (sub x3 0 ((ln x3) - 1))))) (
 ck (IX x20_1 (ln (sub x3 0 ((ln x3) - 1)))) <|
 bd (text_reader_line_m v13_1 v14_1 v15_1 (ele (sub x3 0 ((ln x3) - 1)) x20_1)) fun x27 =>
 br (!x27.1) (
 some (.ret ((Lp.mk [] [] []), (Flt.mk 2 x20_1)))) (
 ck (IR (x20_1 + 1)) <|
 some (.next (x27.2.2.2, x27.2.2.1, x27.2.1, (x20_1 + 1))))) (
 some (.brk (v15_1, v14_1, v13_1, x20_1)))
noncomputable def text_Parse_m (s : List UInt8) : Option (Lp × Flt) :=
 bd (Split_m s [10]) fun x3 =>
 ck (IR ((ln x3) - 1)) <|
 ck (SX 0 ((ln x3) - 1) (ln x3)) <|
 bd (lp (text_Parse_L0 x3) ([], [], [], 0)) fun o16 => o16.on (fun (v15_1, v14_1, v13_1, x20_1) =>
 ck (IX ((ln x3) - 1) (ln x3)) <|
 bdG (!((ele x3 ((ln x3) - 1)) != [])) (loop_May_m (Lp.mk v13_1 v14_1 v15_1)) fun x25 =>
 br (((ele x3 ((ln x3) - 1)) != []) || (!x25)) (
 some ((Lp.mk [] [] []), (Flt.mk 2 ((ln x3) - 1)))) (
 some ((Lp.mk v13_1 v14_1 v15_1), (Flt.mk 0 0)))) (fun r => some r)
noncomputable def R14_split_L0 (s : List UInt8) (by_ : UInt8) : ((List (List UInt8)) × Int × Int) → Option (Stp ((List (List UInt8)) × Int × Int) (Empty)) := fun (v1_1, from6_1, i7_1) =>
 br (decide (i7_1 ≤ (ln s))) (
 ck ((!(i7_1 == (ln s))) = true → IX i7_1 (ln s)) <|
 br ((i7_1 == (ln s)) || (((ele s i7_1).toNat : Int) == ((by_).toNat : Int))) (
 ck (SX from6_1 i7_1 (ln s)) <|
 ck (AL (v1_1 ++ [(sub s from6_1 i7_1)]).length 16) <|
 ck (IR (i7_1 + 1)) <|
 ck (IR (i7_1 + 1)) <|
 some (.next ((v1_1 ++ [(sub s from6_1 i7_1)]), (i7_1 + 1), (i7_1 + 1)))) (
 ck (IR (i7_1 + 1)) <|
 some (.next (v1_1, from6_1, (i7_1 + 1))))) (
 some (.brk (v1_1, from6_1, i7_1)))
noncomputable def R14_split_m (s : List UInt8) (by_ : UInt8) : Option (List (List UInt8)) :=
 bd (lp (R14_split_L0 s by_) ([], 0, 0)) fun o2 => o2.on (fun (v1_1, from6_1, i7_1) =>
 some v1_1) (fun r => r.elim)
noncomputable def R14_number_L0 (t7_1 : List UInt8) : (Int × Int) → Option (Stp (Int × Int) (Int × Bool)) := fun (n8_2, i9_2) =>
 br (decide (i9_2 < (ln t7_1))) (
 ck (IX i9_2 (ln t7_1)) <|
 ck ((!(decide (((ele t7_1 i9_2).toNat : Int) < 48))) = true → IX i9_2 (ln t7_1)) <|
 br ((decide (((ele t7_1 i9_2).toNat : Int) < 48)) || (decide (((ele t7_1 i9_2).toNat : Int) > 57))) (
 some (.ret (0, false))) (
 ck (IX i9_2 (ln t7_1)) <|
 ck (IR (i9_2 + 1)) <|
 some (.next ((IntKind.i64.wrap ((IntKind.i64.wrap (10 * n8_2)) - (IntKind.i64.wrap (IntKind.u8.wrap (((ele t7_1 i9_2).toNat : Int) - 48))))), (i9_2 + 1))))) (
 some (.brk (n8_2, i9_2)))
noncomputable def R14_number_m (s : List UInt8) (most : Int) : Option (Int × Bool) :=
 ck ((decide ((ln s) > 0)) = true → IX 0 (ln s)) <|
 bd (show Option (Out ((List UInt8)) (Empty)) from br ((decide ((ln s) > 0)) && (((ele s 0).toNat : Int) == 45)) (
 ck (SX 1 (ln s) (ln s)) <|
 some (.go (sub s 1 (ln s)))) (
 some (.go s))) fun o3 => o3.on (fun t7_1 =>
 ck ((!((decide ((ln t7_1) < 1)) || (decide ((ln t7_1) > most)))) = true → IX 0 (ln t7_1)) <|
 br (((decide ((ln t7_1) < 1)) || (decide ((ln t7_1) > most))) || ((((ele t7_1 0).toNat : Int) == 48) && ((decide ((ln t7_1) > 1)) || ((decide ((ln s) > 0)) && (((ele s 0).toNat : Int) == 45))))) (
 some (0, false)) (
 bd (lp (R14_number_L0 t7_1) (0, 0)) fun o11 => o11.on (fun (n8_2, i9_2) =>
 br (!((decide ((ln s) > 0)) && (((ele s 0).toNat : Int) == 45))) (
 bd (R14_Digits_m (IntKind.i64.wrap (0 - n8_2))) fun x18 =>
 some ((IntKind.i64.wrap (0 - n8_2)), (x18 == s))) (
 bd (R14_Digits_m n8_2) fun x22 =>
 some (n8_2, (x22 == s)))) (fun r => some r))) (fun r => r.elim)
noncomputable def R14_reads_m (s : List UInt8) : Option (Rf × Bool) :=
 ck ((!(decide ((ln s) < 1))) = true → IX 0 (ln s)) <|
 br ((decide ((ln s) < 1)) || (((ele s 0).toNat : Int) != 35)) (
 some ((Rf.mk 0 0), false)) (
 ck (SX 1 (ln s) (ln s)) <|
 bd (R14_split_m (sub s 1 (ln s)) (126 : UInt8)) fun x9 =>
 ck (IX 0 (ln x9)) <|
 bd (R14_number_m (ele x9 0) 18) fun x17 =>
 br ((ln x9) == 1) (
 some ((Rf.mk x17.1 0), x17.2)) (
 ck (IX 1 (ln x9)) <|
 bd (R14_number_m (ele x9 1) 18) fun x28 =>
 some ((Rf.mk x17.1 x28.1), (((x17.2 && x28.2) && ((ln x9) == 2)) && (decide (x28.1 > 0))))))
noncomputable def R14_stmt_L1 (l : List (List UInt8)) (x76 : List (List UInt8)) : Int → Option (Stp (Int) (Stm × Bool)) := fun i18_3 =>
 br (decide (i18_3 < (ln x76))) (
 ck (IX i18_3 (ln x76)) <|
 ck (IX 0 (ln l)) <|
 br (((ele x76 i18_3) == (ele l 0)) && (((ln l) - 1) == 2)) (
 ck (IX 1 (ln l)) <|
 bd (R14_reads_m (ele l 1)) fun x101 =>
 ck (IX 2 (ln l)) <|
 bd (R14_reads_m (ele l 2)) fun x109 =>
 ck (IR (10 + i18_3)) <|
 ck (IR ((10 + i18_3) + 1)) <|
 some (.ret ((Stm.mk ((10 + i18_3) + 1) x101.1 x109.1 0 0 0 0), (x101.2 && x109.2)))) (
 ck (IR (i18_3 + 1)) <|
 some (.next (i18_3 + 1)))) (
 some (.brk i18_3))
noncomputable def R14_stmt_m (l : List (List UInt8)) : Option (Stm × Bool) :=
 ck (IR ((ln l) - 1)) <|
 ck (IX 0 (ln l)) <|
 br ((ele l 0) == [99, 111, 110, 115, 116]) (
 br (((ln l) - 1) != 1) (
 some ((Stm.mk 1 (Rf.mk 0 0) (Rf.mk 0 0) 0 0 0 0), false)) (
 ck (IX 1 (ln l)) <|
 bd (R14_number_m (ele l 1) 19) fun x18 =>
 some ((Stm.mk 1 (Rf.mk 0 0) (Rf.mk 0 0) 0 0 0 x18.1), x18.2))) (
 br ((ele l 0) == [116, 117, 114, 110]) (
 some ((Stm.mk 2 (Rf.mk 0 0) (Rf.mk 0 0) 0 0 0 0), (((ln l) - 1) == 0))) (
 bd (show Option (Out (Bool) (Empty)) from br ((ele l 0) == [108, 111, 97, 100]) (
 some (.go ((ele l 0) == [108, 111, 97, 100]))) (
 some (.go ((ele l 0) == [115, 116, 111, 114, 101])))) fun o25 => o25.on (fun x53_1 =>
 br x53_1 (
 ck (IX 0 (ln l)) <|
 bd (show Option (Out (Int × Int) (Empty)) from br ((ele l 0) == [115, 116, 111, 114, 101]) (
 some (.go (4, 4))) (
 some (.go (3, 3)))) fun o34 => o34.on (fun (b2c0_2, want8_2) =>
 br (((ln l) - 1) != want8_2) (
 some ((Stm.mk b2c0_2 (Rf.mk 0 0) (Rf.mk 0 0) 0 0 0 0), false)) (
 ck (IX 1 (ln l)) <|
 bd (R14_number_m (ele l 1) 18) fun x44 =>
 ck (IX 2 (ln l)) <|
 bd (R14_number_m (ele l 2) 18) fun x51 =>
 ck (IX 3 (ln l)) <|
 bd (R14_number_m (ele l 3) 18) fun x58 =>
 br (want8_2 == 3) (
 some ((Stm.mk b2c0_2 (Rf.mk 0 0) (Rf.mk 0 0) x44.1 x51.1 x58.1 0), ((x44.2 && x51.2) && x58.2))) (
 ck (IX 4 (ln l)) <|
 bd (R14_reads_m (ele l 4)) fun x68 =>
 some ((Stm.mk b2c0_2 x68.1 (Rf.mk 0 0) x44.1 x51.1 x58.1 0), (((x44.2 && x51.2) && x58.2) && x68.2))))) (fun r => r.elim)) (
 bd (R14_words_m ) fun x76 =>
 bd (lp (R14_stmt_L1 l x76) 0) fun o80 => o80.on (fun i18_3 =>
 some ((Stm.mk 0 (Rf.mk 0 0) (Rf.mk 0 0) 0 0 0 0), false)) (fun r => some r))) (fun r => r.elim)))
noncomputable def R14_Parse_L0 (x3 : List (List UInt8)) : ((List Int) × (List Int) × (List Stm) × Int) → Option (Stp ((List Int) × (List Int) × (List Stm) × Int) (Lp × Flt)) := fun (v10_1, v11_1, v12_1, k7_1) =>
 br (decide (k7_1 < ((ln x3) - 1))) (
 ck (IX k7_1 (ln x3)) <|
 bd (R14_split_m (ele x3 k7_1) (32 : UInt8)) fun x24 =>
 ck (IX 0 (ln x24)) <|
 ck ((!((ele x24 0) == [97, 114, 114, 97, 121])) = true → IX 0 (ln x24)) <|
 br (((ele x24 0) == [97, 114, 114, 97, 121]) || ((ele x24 0) == [111, 117, 116])) (
 ck ((!((ln x24) != 2)) = true → IX 0 (ln x24)) <|
 ck ((!((ln x24) != 2) && ((ele x24 0) == [97, 114, 114, 97, 121])) = true → IR ((ln v12_1) + (ln v11_1))) <|
 br (((ln x24) != 2) || (((ele x24 0) == [97, 114, 114, 97, 121]) && (decide (((ln v12_1) + (ln v11_1)) > 0)))) (
 some (.ret ((Lp.mk [] [] []), (Flt.mk 2 k7_1)))) (
 ck (IX 1 (ln x24)) <|
 bd (R14_number_m (ele x24 1) 18) fun x52 =>
 br (!x52.2) (
 some (.ret ((Lp.mk [] [] []), (Flt.mk 2 k7_1)))) (
 ck (IX 0 (ln x24)) <|
 br ((ele x24 0) == [97, 114, 114, 97, 121]) (
 ck (AL (v10_1 ++ [x52.1]).length 8) <|
 ck (IR (k7_1 + 1)) <|
 some (.next ((v10_1 ++ [x52.1]), v11_1, v12_1, (k7_1 + 1)))) (
 ck (AL (v11_1 ++ [x52.1]).length 8) <|
 ck (IR (k7_1 + 1)) <|
 some (.next (v10_1, (v11_1 ++ [x52.1]), v12_1, (k7_1 + 1))))))) (
 bd (R14_stmt_m x24) fun x80 =>
 br ((!x80.2) || (decide ((ln v11_1) > 0))) (
 some (.ret ((Lp.mk [] [] []), (Flt.mk 2 k7_1)))) (
 ck (AL (v12_1 ++ [x80.1]).length 72) <|
 ck (IR (k7_1 + 1)) <|
 some (.next (v10_1, v11_1, (v12_1 ++ [x80.1]), (k7_1 + 1)))))) (
 some (.brk (v10_1, v11_1, v12_1, k7_1)))
noncomputable def R14_Parse_m (s : List UInt8) : Option (Lp × Flt) :=
 bd (R14_split_m s (10 : UInt8)) fun x3 =>
 ck (IR ((ln x3) - 1)) <|
 bd (lp (R14_Parse_L0 x3) ([], [], [], 0)) fun o13 => o13.on (fun (v10_1, v11_1, v12_1, k7_1) =>
 ck (IX ((ln x3) - 1) (ln x3)) <|
 bdG (!((ele x3 ((ln x3) - 1)) != [])) (R2_May_m (Lp.mk v10_1 v12_1 v11_1)) fun x22 =>
 br (((ele x3 ((ln x3) - 1)) != []) || (!x22)) (
 some ((Lp.mk [] [] []), (Flt.mk 2 ((ln x3) - 1)))) (
 some ((Lp.mk v10_1 v12_1 v11_1), (Flt.mk 0 0)))) (fun r => some r)
noncomputable def R14_Same_L0 (a b : Lp) : Int → Option (Stp (Int) (Bool)) := fun i5_1 =>
 br (decide (i5_1 < (ln a.logs))) (
 ck (IX i5_1 (ln a.logs)) <|
 ck (IX i5_1 (ln b.logs)) <|
 br ((ele a.logs i5_1) != (ele b.logs i5_1)) (
 some (.ret false)) (
 ck (IR (i5_1 + 1)) <|
 some (.next (i5_1 + 1)))) (
 some (.brk i5_1))
noncomputable def R14_Same_L2 (a b : Lp) : Int → Option (Stp (Int) (Bool)) := fun i6_2 =>
 br (decide (i6_2 < (ln a.body))) (
 ck (IX i6_2 (ln a.body)) <|
 ck (IX i6_2 (ln b.body)) <|
 br (!([(ele a.body i6_2).op, ((ele a.body i6_2).a).st, ((ele a.body i6_2).a).bk, ((ele a.body i6_2).b).st, ((ele a.body i6_2).b).bk, (ele a.body i6_2).ar, (ele a.body i6_2).sp, (ele a.body i6_2).pl, (ele a.body i6_2).n] == [(ele b.body i6_2).op, ((ele b.body i6_2).a).st, ((ele b.body i6_2).a).bk, ((ele b.body i6_2).b).st, ((ele b.body i6_2).b).bk, (ele b.body i6_2).ar, (ele b.body i6_2).sp, (ele b.body i6_2).pl, (ele b.body i6_2).n])) (
 some (.ret false)) (
 ck (IR (i6_2 + 1)) <|
 some (.next (i6_2 + 1)))) (
 some (.brk i6_2))
noncomputable def R14_Same_L4 (a b : Lp) : Int → Option (Stp (Int) (Bool)) := fun i7_3 =>
 br (decide (i7_3 < (ln a.outs))) (
 ck (IX i7_3 (ln a.outs)) <|
 ck (IX i7_3 (ln b.outs)) <|
 br ((ele a.outs i7_3) != (ele b.outs i7_3)) (
 some (.ret false)) (
 ck (IR (i7_3 + 1)) <|
 some (.next (i7_3 + 1)))) (
 some (.brk i7_3))
noncomputable def R14_Same_m (a b : Lp) : Option (Bool) :=
 br ((((ln a.logs) != (ln b.logs)) || ((ln a.body) != (ln b.body))) || ((ln a.outs) != (ln b.outs))) (
 some false) (
 bd (lp (R14_Same_L0 a b) 0) fun o6 => o6.on (fun i5_1 =>
 bd (lp (R14_Same_L2 a b) 0) fun o11 => o11.on (fun i6_2 =>
 bd (lp (R14_Same_L4 a b) 0) fun o16 => o16.on (fun i7_3 =>
 some true) (fun r => some r)) (fun r => some r)) (fun r => some r))
end Go.Rd
end
section
namespace Go.Rd
def spl (c : UInt8) : List UInt8 → List (List UInt8)
 | [] => [[]]
 | x :: r => if x = c then [] :: spl c r else match spl c r with
  | [] => [[x]]
  | h :: t => (x :: h) :: t
theorem spl_ne {c : UInt8} (s : List UInt8) : spl c s ≠ [] := by
  cases s with
  | nil => simp [spl]
  | cons x r => unfold spl; split; · simp
                split <;> simp
theorem spl_none {c : UInt8} : ∀ {s : List UInt8}, c ∉ s → spl c s = [s]
 | [], _ => rfl
 | x :: r, h => by
  have h1 : ¬ x = c := fun e => h (by simp [e])
  have h2 : c ∉ r := fun e => h (by simp [e])
  rw [spl, if_neg h1, spl_none h2]
theorem spl_cut {c : UInt8} {post : List UInt8} : ∀ {pre : List UInt8}, c ∉ pre → spl c (pre ++ c :: post) = pre :: spl c post
 | [], _ => by simp [spl]
 | x :: r, h => by
  have h1 : ¬ x = c := fun e => h (by simp [e])
  have h2 : c ∉ r := fun e => h (by simp [e])
  rw [List.cons_append, spl, if_neg h1, spl_cut h2]
def unspl (c : UInt8) : List (List UInt8) → List UInt8
 | [] => []
 | [a] => a
 | a :: b :: r => a ++ c :: unspl c (b :: r)
theorem unspl_cons {c x : UInt8} {h : List UInt8} {t : List (List UInt8)} : unspl c ((x :: h) :: t) = x :: unspl c (h :: t) := by cases t <;> rfl
theorem unspl_spl {c : UInt8} : ∀ (s : List UInt8), unspl c (spl c s) = s
 | [] => rfl
 | x :: r => by
  have ih := unspl_spl (c := c) r
  unfold spl
  by_cases h : x = c
  ·subst h
   rw [if_pos rfl]
   cases hs : spl x r with
   | nil => exact absurd hs (spl_ne r)
   | cons a t => rw [hs] at ih; rw [unspl, ih]; rfl
  ·rw [if_neg h]
   cases hs : spl c r with
   | nil => exact absurd hs (spl_ne r)
   | cons a t => rw [hs] at ih; simp only; rw [unspl_cons, ih]
theorem spl_mem {c : UInt8} : ∀ {s p : List UInt8}, p ∈ spl c s → c ∉ p ∧ p.length ≤ s.length
 | [], p, h => by simp [spl] at h; subst h; simp
 | x :: r, p, h => by
  unfold spl at h
  by_cases e : x = c
  ·rw [if_pos e] at h
   rcases List.mem_cons.1 h with rfl | h
   ·simp
   ·have := spl_mem h; exact ⟨this.1, by simp only [List.length_cons]; omega⟩
  ·rw [if_neg e] at h
   cases hs : spl c r with
   | nil => exact absurd hs (spl_ne r)
   | cons a t =>
    rw [hs] at h
    simp only at h
    rcases List.mem_cons.1 h with rfl | h
    ·have := spl_mem (s := r) (p := a) (by rw [hs]; simp)
     exact ⟨by simp only [List.mem_cons, not_or]; exact ⟨fun h => e h.symm, this.1⟩, by simp only [List.length_cons]; omega⟩
    ·have := spl_mem (s := r) (p := p) (by rw [hs]; simp [h]); exact ⟨this.1, by simp only [List.length_cons]; omega⟩
theorem spl_len {c : UInt8} : ∀ (s : List UInt8), (spl c s).length ≤ s.length + 1
 | [] => by simp [spl]
 | x :: r => by
  have := spl_len (c := c) r
  unfold spl
  split
  ·simp only [List.length_cons]; omega
  ·cases hs : spl c r with
   | nil => simp
   | cons a t => rw [hs] at this; simp only [List.length_cons] at this ⊢; omega
theorem index_none {c : UInt8} : ∀ {s : List UInt8}, c ∉ s → Lib.index s [c] = -1
 | [], _ => rfl
 | x :: r, h => by
  have h1 : ¬ x = c := fun e => h (by simp [e])
  have h2 : c ∉ r := fun e => h (by simp [e])
  unfold Lib.index
  rw [index_none h2]
  have : (c == x) = false := by simpa using fun e : c = x => h1 e.symm
  simp [List.isPrefixOf, this]
theorem index_cut {c : UInt8} {post : List UInt8} : ∀ {pre : List UInt8}, c ∉ pre → Lib.index (pre ++ c :: post) [c] = pre.length
 | [], _ => by simp [Lib.index, List.isPrefixOf]
 | x :: r, h => by
  have h1 : ¬ x = c := fun e => h (by simp [e])
  have h2 : c ∉ r := fun e => h (by simp [e])
  rw [List.cons_append]
  unfold Lib.index
  rw [index_cut h2]
  have : (c == x) = false := by simpa using fun e : c = x => h1 e.symm
  have h3 : ((r.length : Int) == -1) = false := by rw [beq_eq_false_iff_ne]; omega
  simp [List.isPrefixOf, this, h3]
theorem split_spl {c : UInt8} : ∀ (n : Nat) (s : List UInt8), s.length ≤ n → Lib.split s [c] = spl c s := by
 intro n
 induction n with
 | zero =>
  intro s hs
  obtain rfl : s = [] := List.length_eq_zero_iff.1 (by omega)
  unfold Lib.split
  rw [Lib.count_miss (index_none (by simp))]
  try rfl
 | succ n ih =>
  intro s hs
  by_cases hm : c ∈ s
  ·obtain ⟨pre, post, rfl, hp⟩ := List.eq_append_cons_of_mem hm
   have hi := index_cut (post := post) hp
   have hd : (pre ++ c :: post).drop (pre.length + 1) = post := by rw [List.drop_append]; simp
   have hsp := ih post (by simp only [List.length_append, List.length_cons] at hs; omega)
   unfold Lib.split at hsp ⊢
   rw [Lib.count_hit (by simp) hi, show [c].length = 1 from rfl, hd, Nat.add_comm, Lib.splitK, hi, if_neg (by rw [beq_iff_eq]; omega), Int.toNat_natCast, show [c].length = 1 from rfl, hd, hsp, spl_cut hp]
   simp
  ·unfold Lib.split
   rw [Lib.count_miss (index_none hm), spl_none hm]
   try rfl
theorem Split_s {s : List UInt8} (c : UInt8) (hs : s.length ≤ 4000000) : Split_m s [c] = some (spl c s) := by
 unfold Split_m
 rw [ck_yes ⟨by omega, by simp⟩, split_spl _ _ (Nat.le_refl _)]
theorem drop_cons {α : Type} [Inhabited α] {s : List α} {i : Nat} (h : i < s.length) : s.drop i = ele s (i : Int) :: s.drop (i + 1) := by
 rw [List.drop_eq_getElem_cons h, ele_nat, List.getD_eq_getElem?_getD, List.getElem?_eq_getElem h]; rfl
theorem sub_nat {α : Type} {s : List α} {f i : Nat} : sub s (f : Int) (i : Int) = (s.drop f).take (i - f) := by
 unfold Rd.sub; rw [Int.toNat_natCast, show ((i : Int) - (f : Int)).toNat = i - f by omega]
theorem rsplit_lp {s : List UInt8} {c : UInt8} (hs : s.length ≤ 4000000) : ∀ (m i f : Nat) (v : List (List UInt8)), i + m = s.length → f ≤ i → v.length ≤ i → c ∉ (s.drop f).take (i - f) →
  lp (R14_split_L0 s c) (v, (f : Int), (i : Int)) = some (.go (v ++ spl c (s.drop f), ((s.length + 1 : Nat) : Int), ((s.length + 1 : Nat) : Int))) := by
 intro m
 induction m with
 | zero =>
  intro i f v hi hf hv hc
  obtain rfl : i = s.length := by omega
  have h1 : R14_split_L0 s c (v, (f : Int), (s.length : Int)) = some (.next (v ++ [(s.drop f).take (s.length - f)], ((s.length + 1 : Nat) : Int), ((s.length + 1 : Nat) : Int))) := by
   unfold R14_split_L0
   simp only
   rw [br_T (by rw [ln_len]; omega), ln_len, beq_self_eq_true, ck_imp (by simp), Bool.true_or, br_true, ck_SX (by omega) (by omega) (by omega), sub_nat, ck_AL (by simp; omega) (by simp; omega), ck_IR (by omega) (by omega), ck_IR (by omega) (by omega)]
   rfl
  refine lp_step h1 ?_
  have h2 : R14_split_L0 s c (v ++ [(s.drop f).take (s.length - f)], ((s.length + 1 : Nat) : Int), ((s.length + 1 : Nat) : Int)) = some (.brk (v ++ [(s.drop f).take (s.length - f)], ((s.length + 1 : Nat) : Int), ((s.length + 1 : Nat) : Int))) := by
   unfold R14_split_L0
   simp only
   rw [br_F (by rw [ln_len]; omega)]
  have e : (s.drop f).take (s.length - f) = s.drop f := List.take_of_length_le (by rw [List.length_drop]; omega)
  rw [lp_brk h2]
  rw [e] at hc ⊢
  rw [spl_none hc]
 | succ m ih =>
  intro i f v hi hf hv hc
  have hlt : i < s.length := by omega
  have hdi := drop_cons hlt
  have htk : (s.drop f).take (i + 1 - f) = (s.drop f).take (i - f) ++ [ele s (i : Int)] := by
   rw [show i + 1 - f = (i - f) + 1 by omega, List.take_add_one, List.getElem?_drop, show f + (i - f) = i by omega, List.getElem?_eq_getElem hlt, ele_nat, List.getD_eq_getElem?_getD, List.getElem?_eq_getElem hlt]; rfl
  have hne : ((i : Int) == ln s) = false := by rw [ln_len]; simp; omega
  by_cases hb : ele s (i : Int) = c
  ·have h1 : R14_split_L0 s c (v, (f : Int), (i : Int)) = some (.next (v ++ [(s.drop f).take (i - f)], ((i + 1 : Nat) : Int), ((i + 1 : Nat) : Int))) := by
    unfold R14_split_L0
    simp only
    rw [br_T (by rw [ln_len]; omega), hne, ck_imp (by intro _; exact ⟨by omega, by rw [ln_len]; omega⟩), hb, beq_self_eq_true, Bool.or_true, br_true, ck_SX (by omega) (by omega) (by rw [ln_len]; omega), sub_nat, ck_AL (by simp; omega) (by simp; omega), ck_IR (by omega) (by omega), ck_IR (by omega) (by omega)]
    rfl
   rw [lp_next h1, ih (i + 1) (i + 1) _ (by omega) (Nat.le_refl _) (by simp; omega) (by simp)]
   have e : s.drop f = (s.drop f).take (i - f) ++ c :: s.drop (i + 1) := by
    rw [← hb, ← hdi]
    conv => lhs; rw [← List.take_append_drop (i - f) (s.drop f), List.drop_drop, show f + (i - f) = i by omega]
   conv => rhs; rw [e, spl_cut hc]
   simp
  ·have h1 : R14_split_L0 s c (v, (f : Int), (i : Int)) = some (.next (v, (f : Int), ((i + 1 : Nat) : Int))) := by
    unfold R14_split_L0
    simp only
    have hx : (((ele s (i : Int)).toNat : Int) == (c.toNat : Int)) = false := by
     rw [beq_eq_false_iff_ne]; intro h; exact hb (UInt8.toNat_inj.1 (by omega))
    rw [br_T (by rw [ln_len]; omega), hne, ck_imp (by intro _; exact ⟨by omega, by rw [ln_len]; omega⟩), hx, Bool.or_false, br_false, ck_IR (by omega) (by omega)]
    rfl
   rw [lp_next h1, ih (i + 1) f v (by omega) (by omega) (by omega) (by rw [htk]; simp only [List.mem_append, List.mem_singleton, not_or]; exact ⟨hc, fun h => hb h.symm⟩)]
theorem rsplit_s {s : List UInt8} (c : UInt8) (hs : s.length ≤ 4000000) : R14_split_m s c = some (spl c s) := by
 unfold R14_split_m
 have := rsplit_lp (c := c) hs s.length 0 0 [] (by omega) (Nat.le_refl _) (by simp) (by simp)
 rw [show ((0 : Nat) : Int) = 0 from rfl] at this
 rw [this, bd_ret, Out.on_go]; rfl
theorem dd_dig : ∀ (u : Nat), ∀ c ∈ Lib.decDigits u, 48 ≤ c.toNat ∧ c.toNat ≤ 57 := by
 intro u
 induction u using Nat.strongRecOn with
 | _ u ih =>
  intro c hc
  by_cases h : u < 10
  ·rw [dd_small h, List.mem_singleton] at hc
   subst hc
   rw [UInt8.toNat_ofNat_of_lt' (by show _ < 256; omega)]; omega
  ·rw [dd_big h, List.mem_append, List.mem_singleton] at hc
   rcases hc with hc | rfl
   ·exact ih (u / 10) (by omega) c hc
   ·rw [UInt8.toNat_ofNat_of_lt' (by show _ < 256; omega)]; omega
theorem dd_ne (u : Nat) : Lib.decDigits u ≠ [] := by
 by_cases h : u < 10
 ·rw [dd_small h]; simp
 ·rw [dd_big h]; simp
theorem dd_head : ∀ (u : Nat), 1 ≤ u → (Lib.decDigits u).head? ≠ some 48 := by
 intro u
 induction u using Nat.strongRecOn with
 | _ u ih =>
  intro h1
  by_cases h : u < 10
  ·rw [dd_small h]
   have : ∀ u : Nat, u < 10 → 1 ≤ u → (UInt8.ofNat (48 + u)) ≠ 48 := by decide
   simpa using this u h h1
  ·rw [dd_big h, List.head?_append]
   have := ih (u / 10) (by omega) (by omega)
   cases hd : (Lib.decDigits (u / 10)).head? with
   | none => exact absurd (List.head?_eq_none_iff.1 hd) (dd_ne _)
   | some x => rw [hd] at this; simpa using this
theorem pm_append {M : Nat} {r : List UInt8} : ∀ {l : List UInt8} {acc v : Nat}, Lib.parseUintM M acc l = .ok v → Lib.parseUintM M acc (l ++ r) = Lib.parseUintM M v r
 | [], acc, v, h => by simp only [Lib.parseUintM] at h; injection h with h; subst h; rfl
 | c :: l, acc, v, h => by
  rw [List.cons_append, Lib.parseUintM.eq_2]
  rw [Lib.parseUintM.eq_2] at h
  split at h
  ·rename_i h1
   rw [if_pos h1]
   split at h
   ·cases h
   ·rename_i h2
    rw [if_neg h2]
    split at h
    ·cases h
    ·rename_i h3
     rw [if_neg h3]; exact pm_append h
  ·cases h
theorem pm_dd : ∀ (u : Nat), u ≤ 18446744073709551615 → Lib.parseUintM 18446744073709551615 0 (Lib.decDigits u) = .ok u := by
 intro u
 have dig : ∀ d : Nat, d < 10 → (UInt8.ofNat (48 + d)).toNat = 48 + d := fun d h => UInt8.toNat_ofNat_of_lt' (by show _ < 256; omega)
 induction u using Nat.strongRecOn with
 | _ u ih =>
  intro hu
  by_cases h : u < 10
  ·rw [dd_small h]
   simp only [Lib.parseUintM]
   rw [dig u h, if_pos (by omega), if_neg (by omega), if_neg (by omega)]
   congr 1; omega
  ·rw [dd_big h, pm_append (ih (u / 10) (by omega) (by omega))]
   simp only [Lib.parseUintM]
   rw [dig (u % 10) (by omega), if_pos (by omega), if_neg (by omega), if_neg (by omega)]
   congr 1; omega
theorem dd_first (u : Nat) : ∃ c r, Lib.decDigits u = c :: r ∧ 48 ≤ c.toNat ∧ c.toNat ≤ 57 := by
 cases h : Lib.decDigits u with
 | nil => exact absurd h (dd_ne u)
 | cons c r => exact ⟨c, r, rfl, dd_dig u c (by rw [h]; simp)⟩
theorem parse_itoa {n : Int} (h : InR n) : Lib.parseIntB 64 (Lib.itoa n) = .ok n := by
 obtain ⟨h1, h2⟩ := h
 have p64 : (2 : Nat) ^ 64 - 1 = 18446744073709551615 := by decide
 have p63 : (2 : Nat) ^ (64 - 1) = 9223372036854775808 := by decide
 unfold Lib.itoa
 by_cases h0 : n < 0
 ·rw [if_pos h0]
  unfold Lib.parseIntB Lib.parseUintB
  simp only [show (45 : UInt8).toNat = 45 from rfl, or_true, if_true]
  rw [if_neg (dd_ne _), p64, pm_dd _ (by omega)]
  simp only [p63, not_true, false_and, if_false, true_and, if_true]
  rw [if_neg (by omega)]
  congr 1; omega
 ·rw [if_neg h0]
  obtain ⟨c, r, e, c1, c2⟩ := dd_first n.toNat
  have hp := pm_dd n.toNat (by omega)
  rw [e] at hp ⊢
  unfold Lib.parseIntB Lib.parseUintB
  have n43 : ¬ (c.toNat = 43 ∨ c.toNat = 45) := by omega
  have n45 : ¬ c.toNat = 45 := by omega
  simp only [if_neg n43, p64, p63]
  rw [if_neg (by simp), hp]
  simp only [n45, not_false_eq_true, true_and, false_and, if_false]
  rw [if_neg (by omega)]
  congr 1; omega
theorem parse_in {s : List UInt8} {v : Int} (h : Lib.parseIntB 64 s = .ok v) : InR v := by
 have p63 : (2 : Nat) ^ (64 - 1) = 9223372036854775808 := by decide
 unfold Lib.parseIntB at h
 split at h
 ·cases h
 ·rename_i c r
  simp only [p63] at h
  split at h
  ·cases h
  ·cases h
  ·rename_i u hu
   split at h
   ·cases h
   ·split at h
    ·cases h
    ·rename_i a b
     injection h with h
     subst h
     unfold InR
     by_cases hn : c.toNat = 45
     ·simp only [hn, if_true, true_and, not_true, false_and] at a b ⊢; omega
     ·simp only [hn, if_false, false_and, not_false_eq_true, true_and] at a b ⊢; omega
theorem itoa_inj {a b : Int} (ha : InR a) (hb : InR b) (h : Lib.itoa a = Lib.itoa b) : a = b := by
 have e1 := parse_itoa ha
 rw [h, parse_itoa hb] at e1
 injection e1 with e1
 exact e1.symm
theorem trim_itoa (n : Int) : Lib.trimPrefix (Lib.itoa n) [45] = Lib.decDigits n.natAbs := by
 unfold Lib.itoa Lib.trimPrefix Lib.hasPrefix
 by_cases h0 : n < 0
 ·rw [if_pos h0]; simp [List.isPrefixOf]
 ·rw [if_neg h0, show n.natAbs = n.toNat by omega]
  obtain ⟨c, r, e, c1, c2⟩ := dd_first n.toNat
  rw [e]
  have : (45 == c) = false := by
   rw [beq_eq_false_iff_ne]; rintro rfl; exact absurd c1 (by decide)
  simp [List.isPrefixOf, this]
def NumOk (most : Int) (s : List UInt8) (n : Int) : Prop := InR n ∧ s = Lib.itoa n ∧ ((Lib.decDigits n.natAbs).length : Int) ≤ most
theorem NumOk.one {most : Int} {s : List UInt8} {a b : Int} (h : NumOk most s a) (k : NumOk most s b) : a = b := itoa_inj h.1 k.1 (h.2.1.symm.trans k.2.1)
open Classical in
noncomputable def numT (most : Int) (s : List UInt8) : Option Int := if h : ∃ n, NumOk most s n then some h.choose else none
theorem numT_iff {most : Int} {s : List UInt8} {n : Int} : numT most s = some n ↔ NumOk most s n := by
 unfold numT
 constructor
 ·intro h
  split at h
  ·rename_i hh
   injection h with h
   exact h ▸ hh.choose_spec
  ·cases h
 ·intro h
  have hh : ∃ n, NumOk most s n := ⟨n, h⟩
  rw [dif_pos hh]
  exact congrArg some (hh.choose_spec.one h)
def Tells {α : Type} (m : Option (α × Bool)) (o : Option α) : Prop := ∃ v, m = some (v, o.isSome) ∧ ∀ a, o = some a → v = a
theorem tells_num {m : Option (Int × Bool)} {most : Int} {s : List UInt8} (h : ∃ v b, m = some (v, b) ∧ (b = true → NumOk most s v) ∧ ∀ n, NumOk most s n → v = n ∧ b = true) : Tells m (numT most s) := by
 obtain ⟨v, b, hm, h1, h2⟩ := h
 cases hn : numT most s with
 | some n =>
  obtain ⟨rfl, rfl⟩ := h2 n (numT_iff.1 hn)
  exact ⟨v, hm, fun a ha => by injection ha⟩
 | none =>
  have : b = false := by
   cases b with
   | false => rfl
   | true => rw [numT_iff.2 (h1 rfl)] at hn; cases hn
  subst this
  exact ⟨v, hm, fun a ha => by cases ha⟩
theorem whole_s {s : List UInt8} {most : Int} (hs : s.length ≤ 4000000) : Tells (text_whole_m s most) (numT most s) := by
 refine tells_num ?_
 unfold text_whole_m ParseInt_m
 rw [ck_yes ⟨⟨rfl, rfl⟩, by omega⟩, bd_ret]
 unfold numEnd
 cases hp : Lib.parseIntB 64 s with
 | ok v =>
  have hv := parse_in hp
  simp only [Bool.not_false, bdG_t]
  rw [number_s hv, bd_ret, Bool.true_and]
  by_cases he : Lib.itoa v = s
  ·rw [beq_iff_eq.2 he, bdG_t]
   unfold TrimPrefix_m
   rw [bd_ret, Bool.true_and, ← he, trim_itoa]
   refine ⟨_, _, rfl, fun h => ⟨hv, rfl, by have := of_decide_eq_true h; rwa [ln_len] at this⟩, fun n hn => ?_⟩
   obtain rfl := itoa_inj hv hn.1 hn.2.1
   exact ⟨rfl, decide_eq_true (by rw [ln_len]; exact hn.2.2)⟩
  ·rw [beq_eq_false_iff_ne.2 he, bdG_f]
   refine ⟨_, _, rfl, fun h => (by cases h), fun n hn => ?_⟩
   have e := parse_itoa hn.1
   rw [← hn.2.1, hp] at e
   injection e with e
   exact absurd (e ▸ hn.2.1.symm) he
 | range =>
  refine ⟨_, _, rfl, fun h => (by cases h), fun n hn => ?_⟩
  have e := parse_itoa hn.1
  rw [← hn.2.1, hp] at e; cases e
 | _ =>
  refine ⟨_, _, rfl, fun h => (by cases h), fun n hn => ?_⟩
  have e := parse_itoa hn.1
  rw [← hn.2.1, hp] at e; cases e
theorem small_s {s : List UInt8} (hs : s.length ≤ 4000000) : Tells (text_small_m s) (numT 18 s) := by
 obtain ⟨v, h1, h2⟩ := whole_s (most := 18) hs
 unfold text_small_m
 rw [h1, bd_ret]
 exact ⟨v, rfl, h2⟩
def digW (n : Int) (c : UInt8) : Int := IntKind.i64.wrap (IntKind.i64.wrap (10 * n) - IntKind.i64.wrap (IntKind.u8.wrap ((c.toNat : Int) - 48)))
theorem wrap_in64 (n : Int) : InR (IntKind.i64.wrap n) := by
 unfold InR
 simp only [IntKind.wrap, IntKind.bits, IntKind.signed]
 simp
 omega
def digB (c : UInt8) : Prop := 48 ≤ c.toNat ∧ c.toNat ≤ 57
theorem wrap_small {n : Int} (h : InR n) : IntKind.i64.wrap n = n := wrap_i64 h.1 h.2
theorem u8_small {n : Int} (h0 : 0 ≤ n) (h1 : n < 256) : IntKind.u8.wrap n = n := by rw [u8_wrap]; omega
theorem num_lp (t : List UInt8) (ht : t.length ≤ 4000000) : ((∀ i : Nat, i < t.length → digB (ele t i)) ∧ lp (R14_number_L0 t) (0, 0) = some (.go (t.foldl digW 0, (t.length : Int)))) ∨ ((∃ i : Nat, i < t.length ∧ ¬ digB (ele t i)) ∧ lp (R14_number_L0 t) (0, 0) = some (.ret (0, false))) := by
 have hst : ∀ i, i < t.length → (t.take (i + 1)).foldl digW 0 = digW ((t.take i).foldl digW 0) (ele t (i : Int)) := fun i hi => by rw [take_next hi, List.foldl_append]; rfl
 have key := lp_det2 (f := R14_number_L0 t) (fun i => ((t.take i).foldl digW 0, (i : Int))) t.length (fun i => digB (ele t (i : Int))) (fun _ => ((0 : Int), false)) (fun i hi _ => ?_) ?_
 ·rcases key with ⟨h1, h2⟩ | ⟨i, h1, h2, _, h3⟩
  ·left
   refine ⟨h1, ?_⟩
   rw [List.take_of_length_le (Nat.le_refl _)] at h2
   simpa using h2
  ·right
   exact ⟨⟨i, h1, h2⟩, by simpa using h3⟩
 ·have hix : IX (i : Int) (ln t) := ⟨by omega, by rw [ln_len]; omega⟩
  have e : R14_number_L0 t ((t.take i).foldl digW 0, (i : Int)) = br ((decide (((ele t (i : Int)).toNat : Int) < 48)) || (decide (((ele t (i : Int)).toNat : Int) > 57))) (some (.ret (0, false))) (some (.next (digW ((t.take i).foldl digW 0) (ele t (i : Int)), ((i + 1 : Nat) : Int)))) := by
   unfold R14_number_L0 digW
   simp only
   rw [br_T hix.2, ck_yes hix, ck_imp (fun _ => hix), ck_yes hix, ck_IR (by omega) (by omega)]
   rfl
  rw [e]
  refine ⟨fun h => ?_, fun h => ?_⟩
  ·unfold digB at h
   rw [show (decide (((ele t (i : Int)).toNat : Int) < 48) || decide (((ele t (i : Int)).toNat : Int) > 57)) = false by simp; omega, br_false, hst i hi]
  ·unfold digB at h
   rw [show (decide (((ele t (i : Int)).toNat : Int) < 48) || decide (((ele t (i : Int)).toNat : Int) > 57)) = true by simp; omega, br_true]
 ·unfold R14_number_L0
  simp only
  rw [br_F (by rw [ln_len]; omega)]
theorem digW_small {n : Int} {d : Nat} (hd : d < 10) (h0 : n ≤ 0) (h1 : -9223372036854775808 ≤ 10 * n - d) : digW n (UInt8.ofNat (48 + d)) = 10 * n - d := by
 unfold digW
 rw [UInt8.toNat_ofNat_of_lt' (by show _ < 256; omega), show (((48 + d : Nat) : Int) - 48) = (d : Int) by omega, u8_small (by omega) (by omega), wrap_small (n := (d : Int)) ⟨by omega, by omega⟩, wrap_small (n := 10 * n) ⟨by omega, by omega⟩, wrap_small (n := 10 * n - d) ⟨by omega, by omega⟩]
theorem fold_dd : ∀ (u : Nat), u ≤ 9223372036854775808 → (Lib.decDigits u).foldl digW 0 = -(u : Int) := by
 intro u
 induction u using Nat.strongRecOn with
 | _ u ih =>
  intro hu
  by_cases h : u < 10
  ·rw [dd_small h, List.foldl_cons, List.foldl_nil, digW_small h (by omega) (by omega)]; omega
  ·rw [dd_big h, List.foldl_append, ih (u / 10) (by omega) (by omega), List.foldl_cons, List.foldl_nil, digW_small (by omega) (by omega) (by omega)]; omega
theorem fold_in {t : List UInt8} : InR (t.foldl digW 0) := by
 have : ∀ (t : List UInt8) (a : Int), InR a → InR (t.foldl digW a) := by
  intro t
  induction t with
  | nil => exact fun a h => h
  | cons c t ih => exact fun a _ => ih _ (wrap_in64 _)
 exact this t 0 ⟨by omega, by omega⟩
theorem number_core {s t : List UInt8} {most : Int} {below : Bool} (ht : t.length ≤ 4000000) (hst : s = if below = true then 45 :: t else t) (h45 : below = false → t.head? ≠ some 45) {m : Option (Int × Bool)}
  (hm : m = (ck ((!((decide ((ln t) < 1)) || (decide ((ln t) > most)))) = true → IX 0 (ln t)) <|
   br (((decide ((ln t) < 1)) || (decide ((ln t) > most))) || ((((ele t 0).toNat : Int) == 48) && ((decide ((ln t) > 1)) || below))) (some (0, false)) (
   bd (lp (R14_number_L0 t) (0, 0)) fun o11 => o11.on (fun (n8_2, i9_2) =>
    br (!below) (bd (R14_Digits_m (IntKind.i64.wrap (0 - n8_2))) fun x18 => some ((IntKind.i64.wrap (0 - n8_2)), (x18 == s))) (bd (R14_Digits_m n8_2) fun x24 => some (n8_2, (x24 == s)))) (fun r => some r)))) : Tells m (numT most s) := by
 refine tells_num ?_
 -- what a numeral is
 have key : ∀ n, NumOk most s n → t = Lib.decDigits n.natAbs ∧ (below = true ↔ n < 0) := by
  rintro n ⟨_, e, _⟩
  have e1 := trim_itoa n
  unfold Lib.itoa at e
  by_cases h0 : n < 0
  ·rw [if_pos h0] at e
   cases below with
   | true => rw [if_pos rfl] at hst; rw [hst] at e; injection e with _ e; exact ⟨e, by simp [h0]⟩
   | false => rw [if_neg (by decide)] at hst; rw [hst] at e; exact absurd (by rw [e]; rfl) (h45 rfl)
  ·rw [if_neg h0] at e
   cases below with
   | true =>
    rw [if_pos rfl] at hst; rw [hst] at e
    obtain ⟨c, r, e2, c1, c2⟩ := dd_first n.toNat
    rw [e2] at e; injection e with e _; subst e; exact absurd c1 (by decide)
   | false => rw [if_neg (by decide)] at hst; rw [hst] at e; exact ⟨by rw [e, show n.natAbs = n.toNat by omega], by simp [h0]⟩
 rw [hm, ck_imp (fun h => by
  have : ¬ (ln t < 1) := fun h1 => by rw [decide_eq_true h1] at h; simp at h
  exact ⟨Int.le_refl _, by rw [ln_len] at this ⊢; omega⟩)]
 by_cases hbad : (((decide ((ln t) < 1)) || (decide ((ln t) > most))) || ((((ele t 0).toNat : Int) == 48) && ((decide ((ln t) > 1)) || below))) = true
 ·rw [hbad, br_true]
  refine ⟨_, _, rfl, fun h => (by cases h), fun n hn => ?_⟩
  obtain ⟨e, hb⟩ := key n hn
  exfalso
  obtain ⟨c, r, e2, c1, c2⟩ := dd_first n.natAbs
  have hl := hn.2.2
  rw [← e] at hl e2
  have e0 : ele t 0 = c := by rw [e2]; rfl
  have hl1 : ¬ (ln t < 1) := by rw [e2, ln_len]; simp only [List.length_cons]; omega
  have hl2 : ¬ (ln t > most) := by rw [ln_len]; omega
  rw [decide_eq_false hl1, decide_eq_false hl2, Bool.false_or, Bool.false_or, Bool.and_eq_true, beq_iff_eq, e0] at hbad
  have h48 : c = 48 := UInt8.toNat_inj.1 (by show c.toNat = 48; omega)
  have hz : n.natAbs = 0 := by
   rcases Nat.eq_zero_or_pos n.natAbs with h | h
   ·exact h
   ·exact absurd (by rw [← e, e2, h48]; rfl) (dd_head n.natAbs h)
  have ht1 : t = [48] := by rw [e, hz, dd_small (by omega)]; rfl
  rw [ht1] at hbad
  have : ¬ n < 0 := by omega
  have hbf : below = false := by cases below with
   | false => rfl
   | true => exact absurd (hb.1 rfl) this
  rw [hbf] at hbad
  exact absurd hbad.2 (by decide)
 ·have hf := Bool.eq_false_iff.2 hbad
  rw [hf, br_false]
  have hlen : ¬ (ln t > most) := fun h => by rw [decide_eq_true h] at hf; simp at hf
  rcases num_lp t ht with ⟨hd, e⟩ | ⟨⟨i, hi, hd⟩, e⟩
  ·rw [e, bd_ret, Out.on_go]
   have hin := fold_in (t := t)
   cases below with
   | false =>
    have hw := wrap_in64 (0 - t.foldl digW 0)
    dsimp only
    rw [Bool.not_false, br_true, Digits_s hw, bd_ret]
    refine ⟨_, _, rfl, fun h => ?_, fun n hn => ?_⟩
    ·have hs := (beq_iff_eq.1 h).symm
     have hs' : s = t := by simpa using hst
     refine ⟨hw, hs, ?_⟩
     generalize IntKind.i64.wrap (0 - t.foldl digW 0) = v at hs hw
     have hd1 := trim_itoa v
     have : ¬ v < 0 := fun hv => by
      unfold Lib.itoa at hs; rw [if_pos hv] at hs
      exact h45 rfl (by rw [← hs', hs]; rfl)
     have e3 : t = Lib.decDigits v.natAbs := by rw [← hs', hs]; unfold Lib.itoa; rw [if_neg this, show v.natAbs = v.toNat by omega]
     rw [← e3]; rw [ln_len] at hlen; omega
    ·obtain ⟨e1, hb⟩ := key n hn
     have hn0 : ¬ n < 0 := fun h => by have := hb.2 h; cases this
     have h1 := hn.1.1; have h2 := hn.1.2
     have hv : IntKind.i64.wrap (0 - t.foldl digW 0) = n := by
      rw [e1, fold_dd _ (by omega), wrap_small ⟨by omega, by omega⟩]; omega
     rw [hv]
     exact ⟨rfl, beq_iff_eq.2 hn.2.1.symm⟩
   | true =>
    dsimp only
    rw [Bool.not_true, br_false, Digits_s hin, bd_ret]
    refine ⟨_, _, rfl, fun h => ?_, fun n hn => ?_⟩
    ·have hs := (beq_iff_eq.1 h).symm
     have hs' : s = 45 :: t := by simpa using hst
     refine ⟨hin, hs, ?_⟩
     generalize t.foldl digW 0 = v at hs hin
     have : v < 0 := by
      by_cases hv : v < 0
      ·exact hv
      ·exfalso
       unfold Lib.itoa at hs; rw [if_neg (by omega), hs'] at hs
       obtain ⟨c, r, e2, c1, c2⟩ := dd_first v.toNat
       rw [e2] at hs; injection hs with hs _; subst hs; exact absurd c1 (by decide)
     have e3 : t = Lib.decDigits v.natAbs := by unfold Lib.itoa at hs; rw [if_pos this, hs'] at hs; injection hs
     rw [← e3]; rw [ln_len] at hlen; omega
    ·obtain ⟨e1, hb⟩ := key n hn
     have hn0 := hb.1 rfl
     have h1 := hn.1.1; have h2 := hn.1.2
     have hv : t.foldl digW 0 = n := by rw [e1, fold_dd _ (by omega)]; omega
     rw [hv]
     exact ⟨rfl, beq_iff_eq.2 hn.2.1.symm⟩
  ·rw [e, bd_ret, Out.on_ret]
   refine ⟨_, _, rfl, fun h => (by cases h), fun n hn => ?_⟩
   obtain ⟨e1, _⟩ := key n hn
   exact absurd (dd_dig n.natAbs _ (by rw [← e1]; exact ele_mem' hi)) hd
theorem rnumber_s {s : List UInt8} {most : Int} (hs : s.length ≤ 4000000) : Tells (R14_number_m s most) (numT most s) := by
 unfold R14_number_m
 cases s with
 | nil =>
  refine number_core (t := []) (below := false) (by simp) (by simp) (by simp) ?_
  rw [ck_imp (fun h => (by simp [ln] at h))]
  rfl
 | cons c r =>
  have hl0 : ln (c :: r) > 0 := by rw [ln_len]; simp only [List.length_cons]; omega
  rw [ck_imp (fun _ => ⟨Int.le_refl _, hl0⟩), decide_eq_true hl0, Bool.true_and]
  have e0 : ele (c :: r) 0 = c := rfl
  rw [e0]
  by_cases hc : c = 45
  ·subst hc
   rw [show (((45 : UInt8).toNat : Int) == 45) = true from rfl, br_true, ck_SX (by omega) (by omega) (Int.le_refl _), bd_ret, Out.on_go]
   have es : sub (45 :: r) 1 (ln (45 :: r)) = r := by unfold Rd.sub; rw [ln_len]; simp
   rw [es]
   exact number_core (below := true) (by simp only [List.length_cons] at hs; omega) (by simp) (by simp) rfl
  ·have hb : ((c.toNat : Int) == 45) = false := by rw [beq_eq_false_iff_ne]; intro h; exact hc (UInt8.toNat_inj.1 (by show c.toNat = 45; omega))
   rw [hb, br_false, bd_ret, Out.on_go]
   exact number_core (below := false) hs (by simp) (by simp [hc]) rfl
end Go.Rd
end
section
namespace Go.Rd
noncomputable def readR (s : List UInt8) : Option Rf :=
 match s with
 | [] => none
 | c :: r => if c = 35 then (match spl 126 r with
  | [a] => match numT 18 a with
   | some n => some ⟨n, 0⟩
   | none => none
  | [a, b] => match numT 18 a, numT 18 b with
   | some n, some k => if k > 0 then some ⟨n, k⟩ else none
   | _, _ => none
  | _ => none) else none
theorem num_no {most : Int} {c : UInt8} {s : List UInt8} (hc : ¬ (c = 45 ∨ digB c)) (hm : c ∈ s) : numT most s = none := by
 cases h : numT most s with
 | none => rfl
 | some n =>
  exfalso
  have e := (numT_iff.1 h).2.1
  rw [e] at hm
  unfold Lib.itoa at hm
  split at hm
  ·rcases List.mem_cons.1 hm with h1 | h1
   ·exact hc (.inl h1)
   ·exact hc (.inr (dd_dig _ c h1))
  ·exact hc (.inr (dd_dig _ c hm))
theorem spl_two {c : UInt8} {s : List UInt8} (h : c ∈ s) : ∃ a b t, spl c s = a :: b :: t := by
 obtain ⟨pre, post, rfl, hp⟩ := List.eq_append_cons_of_mem h
 rw [spl_cut hp]
 cases hs : spl c post with
 | nil => exact absurd hs (spl_ne post)
 | cons b t => exact ⟨pre, b, t, rfl⟩
theorem cut_none {c : UInt8} {s : List UInt8} (h : c ∉ s) : Lib.cut s [c] = (s, [], false) := by
 unfold Lib.cut; rw [index_none h, if_neg (by decide)]
theorem cut_cut {c : UInt8} {pre post : List UInt8} (h : c ∉ pre) : Lib.cut (pre ++ c :: post) [c] = (pre, post, true) := by
 unfold Lib.cut
 rw [index_cut h, if_pos (by omega), Int.toNat_natCast, show [c].length = 1 from rfl, List.drop_append]
 simp
def IsT {α : Type} (o : Option α) (v : α) (b : Bool) : Prop :=
 match o with
 | some a => b = true ∧ v = a
 | none => b = false
theorem tells_mk {α : Type} {m : Option (α × Bool)} {o : Option α} {v : α} {b : Bool} (hm : m = some (v, b)) (h : IsT o v b) : Tells m o := by
 cases o with
 | some a => obtain ⟨rfl, rfl⟩ := h; exact ⟨v, hm, fun a ha => by injection ha⟩
 | none => obtain rfl : b = false := h; exact ⟨v, hm, fun a ha => by cases ha⟩
theorem Tells.val {α : Type} {m : Option (α × Bool)} {o : Option α} (h : Tells m o) : ∃ v b, m = some (v, b) ∧ IsT o v b := by
 obtain ⟨v, h1, h2⟩ := h
 refine ⟨v, _, h1, ?_⟩
 cases o with
 | some a => exact ⟨rfl, h2 a rfl⟩
 | none => rfl
theorem reads_s {s : List UInt8} (hs : s.length ≤ 4000000) : Tells (text_reads_m s) (readR s) := by
 unfold text_reads_m CutPrefix_m Cut_m
 rw [bd_ret]
 -- what stands behind the sign, whether it is one
 have key : ∀ (r : List UInt8) (x : Bool), r.length ≤ 4000000 → ∃ v b, (bd (ck (r.length < 4294967281) (some (Lib.cut r [126]))) fun x5 => bd (text_small_m x5.1) fun x8 => br x5.2.2 (bd (text_small_m x5.2.1) fun x14 => some ((Rf.mk x8.1 x14.1), (x && ((x8.2 && x14.2) && (decide (x14.1 > 0)))))) (some ((Rf.mk x8.1 0), (x && x8.2)))) = some (v, b) ∧
   (x = false → b = false) ∧ (x = true → IsT (readR (35 :: r)) v b) := by
  intro r x hr
  rw [ck_yes (by omega), bd_ret]
  by_cases hm : (126 : UInt8) ∈ r
  ·obtain ⟨pre, post, rfl, hp⟩ := List.eq_append_cons_of_mem hm
   rw [cut_cut hp]
   simp only [List.length_append, List.length_cons] at hr
   obtain ⟨v1, b1, e1, h1⟩ := (small_s (s := pre) (by omega)).val
   obtain ⟨v2, b2, e2, h2⟩ := (small_s (s := post) (by omega)).val
   simp only
   rw [e1, bd_ret, br_true, e2, bd_ret]
   refine ⟨_, _, rfl, fun hx => by rw [hx]; rfl, fun hx => ?_⟩
   subst hx
   simp only [readR, if_true, spl_cut hp]
   by_cases hm2 : (126 : UInt8) ∈ post
   ·obtain ⟨a, b, t, e⟩ := spl_two hm2
    rw [num_no (by unfold digB; decide) hm2] at h2
    rw [e, show b2 = false from h2]
    simp [IsT]
   ·rw [spl_none hm2]
    simp only
    cases hn1 : numT 18 pre with
    | none => rw [hn1] at h1; rw [h1]; rfl
    | some n =>
     rw [hn1] at h1; obtain ⟨rfl, rfl⟩ := h1
     cases hn2 : numT 18 post with
     | none => rw [hn2] at h2; rw [h2]; rfl
     | some k =>
      rw [hn2] at h2; obtain ⟨rfl, rfl⟩ := h2
      simp only
      by_cases hk : v2 > 0
      ·rw [if_pos hk, decide_eq_true hk]; exact ⟨rfl, rfl⟩
      ·rw [if_neg hk, decide_eq_false hk]; rfl
  ·rw [cut_none hm]
   obtain ⟨v1, b1, e1, h1⟩ := (small_s hr).val
   simp only
   rw [e1, bd_ret, br_false]
   refine ⟨_, _, rfl, fun hx => by rw [hx]; rfl, fun hx => ?_⟩
   subst hx
   simp only [readR, if_true, spl_none hm]
   cases hn1 : numT 18 r with
   | none => rw [hn1] at h1; rw [h1]; rfl
   | some n => rw [hn1] at h1; obtain ⟨rfl, rfl⟩ := h1; exact ⟨rfl, rfl⟩
 cases s with
 | nil =>
  obtain ⟨v, b, e, h1, _⟩ := key [] false (by simp)
  refine tells_mk e ?_
  exact h1 rfl
 | cons c r =>
  simp only [List.length_cons] at hs
  by_cases hc : c = 35
  ·subst hc
   have ht : Lib.trimPrefix (35 :: r) [35] = r := by simp [Lib.trimPrefix, Lib.hasPrefix, List.isPrefixOf]
   have hh : Lib.hasPrefix (35 :: r) [35] = true := by simp [Lib.hasPrefix, List.isPrefixOf]
   obtain ⟨v, b, e, _, h2⟩ := key r true (by omega)
   simp only [ht, hh]
   exact tells_mk e (h2 rfl)
  ·have hh : Lib.hasPrefix (c :: r) [35] = false := by
    have : (35 == c) = false := by rw [beq_eq_false_iff_ne]; exact fun h => hc h.symm
    simp [Lib.hasPrefix, List.isPrefixOf, this]
   have ht : Lib.trimPrefix (c :: r) [35] = c :: r := by unfold Lib.trimPrefix; rw [hh]; rfl
   obtain ⟨v, b, e, h1, _⟩ := key (c :: r) false (by simp only [List.length_cons]; omega)
   simp only [ht, hh]
   refine tells_mk e ?_
   simp only [readR, if_neg hc]
   exact h1 rfl
theorem rreads_s {s : List UInt8} (hs : s.length ≤ 4000000) : Tells (R14_reads_m s) (readR s) := by
 unfold R14_reads_m
 cases s with
 | nil =>
  rw [ck_imp (fun h => by simp [ln] at h), show (decide (ln ([] : List UInt8) < 1)) = true from rfl, Bool.true_or, br_true]
  exact tells_mk rfl rfl
 | cons c r =>
  simp only [List.length_cons] at hs
  have hl : ¬ (ln (c :: r) < 1) := by rw [ln_len]; simp only [List.length_cons]; omega
  rw [ck_imp (fun _ => ⟨Int.le_refl _, by rw [ln_len] at hl ⊢; omega⟩), decide_eq_false hl, Bool.false_or, show ele (c :: r) 0 = c from rfl]
  by_cases hc : c = 35
  ·subst hc
   have es : sub (35 :: r) 1 (ln (35 :: r)) = r := by unfold Rd.sub; rw [ln_len]; simp
   rw [show (((35 : UInt8).toNat : Int) != 35) = false from rfl, br_false, ck_SX (by omega) (by omega) (Int.le_refl _), es, rsplit_s _ (by omega), bd_ret]
   have hpc : ∀ p ∈ spl 126 r, p.length ≤ 4000000 := fun p hp => by have := (spl_mem hp).2; omega
   simp only [readR, if_true]
   cases hsp : spl 126 r with
   | nil => exact absurd hsp (spl_ne r)
   | cons a t =>
    rw [hsp] at hpc
    rw [ck_IX (Int.le_refl _) (by rw [ln_len]; simp only [List.length_cons]; omega), show ele (a :: t) 0 = a from rfl]
    obtain ⟨v1, b1, e1, h1⟩ := (rnumber_s (s := a) (most := 18) (hpc a (by simp))).val
    rw [e1, bd_ret]
    cases t with
    | nil =>
     rw [show (ln [a] == 1) = true from rfl, br_true]
     refine tells_mk rfl ?_
     simp only
     cases hn1 : numT 18 a with
     | none => rw [hn1] at h1; exact h1
     | some n => rw [hn1] at h1; obtain ⟨rfl, rfl⟩ := h1; exact ⟨rfl, rfl⟩
    | cons b t =>
     obtain ⟨v2, b2, e2, h2⟩ := (rnumber_s (s := b) (most := 18) (hpc b (by simp))).val
     have hl1 : (ln (a :: b :: t) == 1) = false := by rw [beq_eq_false_iff_ne, ln_len]; simp only [List.length_cons]; omega
     rw [hl1, br_false, ck_IX (by omega) (by rw [ln_len]; simp only [List.length_cons]; omega), show ele (a :: b :: t) 1 = b from rfl, e2, bd_ret]
     refine tells_mk rfl ?_
     cases t with
     | nil =>
      simp only
      rw [show (ln [a, b] == 2) = true from rfl]
      cases hn1 : numT 18 a with
      | none => rw [hn1] at h1; rw [h1]; rfl
      | some n =>
       rw [hn1] at h1; obtain ⟨rfl, rfl⟩ := h1
       cases hn2 : numT 18 b with
       | none => rw [hn2] at h2; rw [h2]; rfl
       | some k =>
        rw [hn2] at h2; obtain ⟨rfl, rfl⟩ := h2
        simp only
        by_cases hk : v2 > 0
        ·rw [if_pos hk, decide_eq_true hk]; exact ⟨rfl, rfl⟩
        ·rw [if_neg hk, decide_eq_false hk]; rfl
     | cons d t =>
      have : (ln (a :: b :: d :: t) == 2) = false := by rw [beq_eq_false_iff_ne, ln_len]; simp only [List.length_cons]; omega
      rw [this, Bool.and_false]; rfl
  ·have : ((c.toNat : Int) != 35) = true := by rw [bne_iff_ne]; intro h; exact hc (UInt8.toNat_inj.1 (by show c.toNat = 35; omega))
   rw [this, br_true]
   refine tells_mk rfl ?_
   simp only [readR, if_neg hc]
   rfl
theorem readR_in {s : List UInt8} {r : Rf} (h : readR s = some r) : InR r.st ∧ InR r.bk ∧ 0 ≤ r.bk ∧ s = refT r := by
 unfold readR at h
 cases s with
 | nil => cases h
 | cons c t =>
  simp only at h
  split at h
  ·rename_i hc
   subst hc
   have hu := unspl_spl (c := 126) t
   split at h
   ·rename_i a ha
    rw [ha] at hu
    split at h
    ·rename_i n hn
     injection h with h
     subst h
     have hk := numT_iff.1 hn
     refine ⟨hk.1, ⟨by simp, by simp⟩, Int.le_refl _, ?_⟩
     have : a = t := hu
     rw [refT, ← this, hk.2.1]; simp
    ·cases h
   ·rename_i a b hab
    rw [hab] at hu
    split at h
    ·rename_i n k hn hk
     split at h
     ·rename_i hk0
      injection h with h
      subst h
      have h1 := numT_iff.1 hn; have h2 := numT_iff.1 hk
      refine ⟨h1.1, h2.1, Int.le_of_lt hk0, ?_⟩
      have : a ++ 126 :: b = t := hu
      rw [refT, ← this, h1.2.1, h2.2.1, if_neg (by show ¬ k = 0; omega)]
     ·cases h
    ·cases h
   ·cases h
  ·cases h
def cT : List UInt8 := [99, 111, 110, 115, 116]
def tT : List UInt8 := [116, 117, 114, 110]
def lT : List UInt8 := [108, 111, 97, 100]
def sT : List UInt8 := [115, 116, 111, 114, 101]
noncomputable def rdC (a : List (List UInt8)) : Option Stm := match a with
 | [x] => match numT 19 x with
  | some n => some ⟨1, ⟨0, 0⟩, ⟨0, 0⟩, 0, 0, 0, n⟩
  | none => none
 | _ => none
def rdU (a : List (List UInt8)) : Option Stm := match a with
 | [] => some ⟨2, ⟨0, 0⟩, ⟨0, 0⟩, 0, 0, 0, 0⟩
 | _ => none
noncomputable def rdL (a : List (List UInt8)) : Option Stm := match a with
 | [x, y, z] => match numT 18 x, numT 18 y, numT 18 z with
  | some n, some m, some p => some ⟨3, ⟨0, 0⟩, ⟨0, 0⟩, n, m, p, 0⟩
  | _, _, _ => none
 | _ => none
noncomputable def rdS (a : List (List UInt8)) : Option Stm := match a with
 | [x, y, z, q] => match numT 18 x, numT 18 y, numT 18 z, readR q with
  | some n, some m, some p, some r => some ⟨4, r, ⟨0, 0⟩, n, m, p, 0⟩
  | _, _, _, _ => none
 | _ => none
noncomputable def rdO (op : Int) (a : List (List UInt8)) : Option Stm := match a with
 | [x, y] => match readR x, readR y with
  | some r, some q => some ⟨op, r, q, 0, 0, 0, 0⟩
  | _, _ => none
 | _ => none
noncomputable def readK (k : List UInt8) (a : List (List UInt8)) : Option Stm :=
  if k = cT then rdC a else if k = tT then rdU a else if k = lT then rdL a else if k = sT then rdS a
  else if k ∈ opsW then rdO (11 + (opsW.idxOf k : Nat)) a else none
theorem rdC_no {a : List (List UInt8)} (h : a.length ≠ 1) : rdC a = none := by unfold rdC; split <;> first | exact absurd rfl h | rfl
theorem rdU_no {a : List (List UInt8)} (h : a.length ≠ 0) : rdU a = none := by unfold rdU; split <;> first | exact absurd rfl h | rfl
theorem rdL_no {a : List (List UInt8)} (h : a.length ≠ 3) : rdL a = none := by unfold rdL; split <;> first | exact absurd rfl h | rfl
theorem rdS_no {a : List (List UInt8)} (h : a.length ≠ 4) : rdS a = none := by unfold rdS; split <;> first | exact absurd rfl h | rfl
theorem rdO_no {op : Int} {a : List (List UInt8)} (h : a.length ≠ 2) : rdO op a = none := by unfold rdO; split <;> first | exact absurd rfl h | rfl
noncomputable def readS : List (List UInt8) → Option Stm
 | [] => none
 | k :: a => readK k a
theorem readS_k (k : List UInt8) (a : List (List UInt8)) : readS (k :: a) = readK k a := rfl
theorem ops_eight : ln opsW = 8 := rfl
theorem ops_idx : ∀ i : Nat, i < 8 → opsW.idxOf (ele opsW (i : Int)) = i := by
 have : ∀ i : Nat, i < 8 → opsW.idxOf (opsW.getD i []) = i := by decide
 exact this
theorem ops_mem {k : List UInt8} : k ∈ opsW ↔ ∃ i : Nat, i < 8 ∧ ele opsW (i : Int) = k := by
 constructor
 ·intro h
  obtain ⟨i, hi, e⟩ := List.mem_iff_getElem.1 h
  refine ⟨i, hi, ?_⟩
  rw [ele_nat, List.getD_eq_getElem?_getD, List.getElem?_eq_getElem hi, e]; rfl
 ·rintro ⟨i, hi, rfl⟩
  exact ele_mem' (l := opsW) (by exact hi)
theorem shape_lp (k : List UInt8) : (k ∈ opsW ∧ lp (text_shape_L1 k opsW) 0 = some (.ret (11 + (opsW.idxOf k : Nat), [114, 114], true))) ∨ (k ∉ opsW ∧ lp (text_shape_L1 k opsW) 0 = some (.go 8)) := by
 have key := lp_scan (f := text_shape_L1 k opsW) (n := 8) (p := fun i => ele opsW (i : Int) ≠ k) (fun i => ((11 + (i : Int)), ([114, 114] : List UInt8), true)) 8 0 (by omega) (fun i _ hi => ?_) ?_
 ·rcases key with ⟨h, e⟩ | ⟨i, _, hi, hp, _, e⟩
  ·right
   refine ⟨fun hm => ?_, e⟩
   obtain ⟨i, hi, he⟩ := ops_mem.1 hm
   exact h i (by omega) hi he
  ·left
   have he := Classical.not_not.1 hp
   refine ⟨ops_mem.2 ⟨i, hi, he⟩, ?_⟩
   have hix := ops_idx i hi
   rw [he] at hix
   rw [hix]; exact e
 ·have e : text_shape_L1 k opsW (i : Int) = br (ele opsW (i : Int) == k) (some (.ret (11 + (i : Int), [114, 114], true))) (some (.next ((i : Int) + 1))) := by
   unfold text_shape_L1
   rw [ops_eight, br_T (by omega), ck_IX (by omega) (by omega), ck_IR (by omega) (by omega), ck_IR (by omega) (by omega), ck_IR (by omega) (by omega), show (10 + (i : Int) + 1) = 11 + (i : Int) by omega]
  rw [e]
  refine ⟨fun h => ?_, fun h => ?_⟩
  ·rw [beq_eq_false_iff_ne.2 h]; rfl
  ·rw [beq_iff_eq.2 (Classical.not_not.1 h)]; rfl
 ·unfold text_shape_L1
  rw [ops_eight, br_F (by omega)]
def shapeT (k : List UInt8) : Int × List UInt8 × Bool :=
 if k = cT then (1, [110], true) else if k = tT then (2, [], true) else if k = lT then (3, [110, 110, 110], true) else if k = sT then (4, [110, 110, 110, 114], true)
 else if k ∈ opsW then (11 + (opsW.idxOf k : Nat), [114, 114], true) else (0, [], false)
theorem beq_F {α : Type} [BEq α] [LawfulBEq α] {a b : α} (h : ¬ a = b) : (a == b) = false := beq_eq_false_iff_ne.2 h
theorem shape_s (k : List UInt8) : text_shape_m k = some (shapeT k) := by
 unfold text_shape_m shapeT
 by_cases h1 : k = cT
 ·rw [if_pos h1, show (k == [99, 111, 110, 115, 116]) = true from beq_iff_eq.2 h1]; rfl
 rw [if_neg h1, show (k == [99, 111, 110, 115, 116]) = false from beq_F h1, br_false]
 by_cases h2 : k = tT
 ·rw [if_pos h2, show (k == [116, 117, 114, 110]) = true from beq_iff_eq.2 h2]; rfl
 rw [if_neg h2, show (k == [116, 117, 114, 110]) = false from beq_F h2, br_false]
 by_cases h3 : k = lT
 ·rw [if_pos h3, show (k == [108, 111, 97, 100]) = true from beq_iff_eq.2 h3]; rfl
 rw [if_neg h3, show (k == [108, 111, 97, 100]) = false from beq_F h3, br_false]
 by_cases h4 : k = sT
 ·rw [if_pos h4, show (k == [115, 116, 111, 114, 101]) = true from beq_iff_eq.2 h4]; rfl
 rw [if_neg h4, show (k == [115, 116, 111, 114, 101]) = false from beq_F h4, br_false, Fields_s, bd_ret]
 rcases shape_lp k with ⟨hm, e⟩ | ⟨hm, e⟩
 ·rw [if_pos hm, e, bd_ret, Out.on_ret]
 ·rw [if_neg hm, e, bd_ret, Out.on_go]
theorem step_n {body : List Stm} {words : List (List UInt8)} {x5 : Int × List UInt8 × Bool} {B N R : List Int} {i : Nat} {n0 v : Int} {b : Bool} (hi : (i : Int) < ln (sub words 1 (ln words))) (hk : (i : Int) < ln x5.2.1) (h110 : ele x5.2.1 (i : Int) = 110) (hN : N.length ≤ 100) (h0 : ele N 0 = n0) (hN0 : 0 < N.length) (hB : IX n0 (ln B))
  (hlen : i < 1000) (hw : text_small_m (ele (sub words 1 (ln words)) (i : Int)) = some (v, b)) :
  text_reader_stmt_L0 body words x5 (B, N, R, (i : Int)) = some (if b = true then .next (upd B n0 v, N.drop 1, R, ((i + 1 : Nat) : Int)) else .ret (false, body)) := by
 unfold text_reader_stmt_L0
 simp only
 have es : sub N 1 (ln N) = N.drop 1 := by
  unfold Rd.sub; rw [ln_len]
  exact List.take_of_length_le (by rw [List.length_drop]; omega)
 have hir : IR ((i : Int) + 1) := by clear hi hk hw h0; exact ⟨by omega, by omega⟩
 have e110 : ((((ele x5.2.1 (i : Int)).toNat : Int)) == 110) = true := by rw [h110]; rfl
 have hx0 : IX 0 (ln N) := ⟨Int.le_refl _, by rw [ln_len]; omega⟩
 rw [br_T hi, ck_IX (by omega) hi, ck_IX (by omega) hk, e110, br_true, ck_yes hx0, hw, bd_ret, h0, ck_yes hB, ck_SX (by omega) (by rw [ln_len]; omega) (Int.le_refl _), es]
 cases b with
 | true => rw [Bool.not_true, br_false, if_pos rfl, ck_yes hir]; rfl
 | false => rw [Bool.not_false, br_true, if_neg (by decide)]
theorem step_r {body : List Stm} {words : List (List UInt8)} {x5 : Int × List UInt8 × Bool} {B N R : List Int} {i : Nat} {r0 : Int} {v : Rf} {b : Bool} (hi : (i : Int) < ln (sub words 1 (ln words))) (hk : (i : Int) < ln x5.2.1) (h114 : ele x5.2.1 (i : Int) = 114) (hN : R.length ≤ 100) (h0 : ele R 0 = r0) (hN0 : 0 < R.length) (hB : IX r0 (ln B)) (hB2 : IX (r0 + 1) (ln B))
  (hlen : i < 1000) (hw : text_reads_m (ele (sub words 1 (ln words)) (i : Int)) = some (v, b)) :
  text_reader_stmt_L0 body words x5 (B, N, R, (i : Int)) = some (if b = true then .next (upd (upd B r0 v.st) (r0 + 1) v.bk, N, R.drop 1, ((i + 1 : Nat) : Int)) else .ret (false, body)) := by
 unfold text_reader_stmt_L0
 simp only
 have es : sub R 1 (ln R) = R.drop 1 := by
  unfold Rd.sub; rw [ln_len]
  exact List.take_of_length_le (by rw [List.length_drop]; omega)
 have hir : IR ((i : Int) + 1) := by clear hi hk hw h0; exact ⟨by omega, by omega⟩
 have e110 : ((((ele x5.2.1 (i : Int)).toNat : Int)) == 110) = false := by rw [h114]; rfl
 have hx0 : IX 0 (ln R) := ⟨Int.le_refl _, by rw [ln_len]; omega⟩
 rw [br_T hi, ck_IX (by omega) hi, ck_IX (by omega) hk, e110, br_false, ck_yes hx0, hw, bd_ret, h0, ck_yes hB, ck_yes hB2, ck_SX (by omega) (by rw [ln_len]; omega) (Int.le_refl _), es]
 cases b with
 | true => rw [Bool.not_true, br_false, if_pos rfl, ck_yes hir]; rfl
 | false => rw [Bool.not_false, br_true, if_neg (by decide)]
theorem step_end {body : List Stm} {words : List (List UInt8)} {x5 : Int × List UInt8 × Bool} {B N R : List Int} {i : Nat} (hi : ¬ ((i : Int) < ln (sub words 1 (ln words)))) :
  text_reader_stmt_L0 body words x5 (B, N, R, (i : Int)) = some (.brk (B, N, R, (i : Int))) := by
 unfold text_reader_stmt_L0
 simp only
 rw [br_F hi]
theorem sub_tail (k : List UInt8) (a : List (List UInt8)) : sub (k :: a) 1 (ln (k :: a)) = a := by unfold Rd.sub; rw [ln_len]; simp
def StmIs (o : Option Stm) (body : List Stm) (b : Bool) (B : List Stm) : Prop :=
 match o with
 | some s => b = true ∧ B = body ++ [s]
 | none => b = false
theorem stmt_op {logs : List Int} {body : List Stm} {outs : List Int} {k : List UInt8} {a : List (List UInt8)} (hb : body.length ≤ 4000000) (hl : a.length ≤ 4000000) (hp : ∀ p ∈ a, p.length ≤ 4000000) :
  ∃ b B, text_reader_stmt_m logs body outs (k :: a) = some (b, B) ∧ StmIs (if outs = [] then readS (k :: a) else none) body b B := by
 have hln : ln (k :: a) = (a.length : Int) + 1 := by rw [ln_len]; simp
 have hal : ∀ s : Stm, AL (body ++ [s]).length 72 := fun s => ⟨by rw [maxLen_eq]; simp; omega, by simp; omega⟩
 unfold text_reader_stmt_m
 rw [ck_IX (Int.le_refl _) (by omega), show ele (k :: a) 0 = k from rfl, shape_s, bd_ret, ck_imp (fun _ => ⟨by omega, by omega⟩)]
 by_cases ho : outs = []
 case neg =>
  have : (decide ((ln outs) > 0)) = true := decide_eq_true (by rw [ln_len]; have := List.length_pos_iff.2 ho; omega)
  rw [this, Bool.or_true, br_true, if_neg ho]
  exact ⟨_, _, rfl, rfl⟩
 subst ho
 rw [show (decide ((ln ([] : List Int)) > 0)) = false from rfl, Bool.or_false, if_pos rfl]
 -- shapes that do not fit
 have bad : ∀ (op : Int) (kinds : List UInt8), shapeT k = (op, kinds, true) → a.length ≠ kinds.length → readS (k :: a) = none → ∃ b B, (br ((!(shapeT k).2.2) || (((ln (k :: a)) - 1) != (ln (shapeT k).2.1))) (some (false, body)) (br ((shapeT k).1 == 1) (
   ck (IX 1 (ln (k :: a))) <| bd (text_whole_m (ele (k :: a) 1) 19) fun x20 => ck (AL (body ++ [(Stm.mk (shapeT k).1 (Rf.mk 0 0) (Rf.mk 0 0) 0 0 0 x20.1)]).length 72) <| some (x20.2, (body ++ [(Stm.mk (shapeT k).1 (Rf.mk 0 0) (Rf.mk 0 0) 0 0 0 x20.1)]))) (
   ck (SX 1 (ln (k :: a)) (ln (k :: a))) <| bd (lp (text_reader_stmt_L0 body (k :: a) (shapeT k)) (([(shapeT k).1, 0, 0, 0, 0, 0, 0, 0, 0] : List Int), ([5, 6, 7] : List Int), ([1, 3] : List Int), 0)) fun o36 => o36.on (fun (b13n_1, numbers9_1, refs10_1, x75_1) =>
    ck (b13n_1.length = 9) <| ck (AL (body ++ [(stmOf b13n_1)]).length 72) <| some (true, (body ++ [(stmOf b13n_1)]))) (fun r => some r)))) = some (b, B) ∧ StmIs (readS (k :: a)) body b B := by
  intro op kinds hs hne hr
  rw [hs, hr]
  have : ((ln (k :: a)) - 1 != ln kinds) = true := by rw [bne_iff_ne, hln, ln_len]; omega
  simp only [this, Bool.or_true, br_true]
  exact ⟨_, _, rfl, rfl⟩
 by_cases h1 : k = cT
 ·have hs : shapeT k = (1, [110], true) := by unfold shapeT; rw [if_pos h1]
  by_cases hk : a.length = 1
  case neg => exact bad _ _ hs (by simpa using hk) (by
   rw [readS_k]; unfold readK; rw [if_pos h1]
   exact rdC_no hk)
  match a, hk, hp with
  | [x], _, hp =>
   rw [hs]
   have : (ln [k, x] - 1 != ln ([110] : List UInt8)) = false := rfl
   simp only [this, Bool.not_true, Bool.or_self, br_false]
   rw [show ((1 : Int) == 1) = true from rfl, br_true, ck_IX (by omega) (by rw [ln_len]; simp), show ele [k, x] 1 = x from rfl]
   obtain ⟨v, b, e, h⟩ := (whole_s (s := x) (most := 19) (hp x (by simp))).val
   rw [e, bd_ret, ck_yes (hal _)]
   refine ⟨_, _, rfl, ?_⟩
   rw [readS_k]; unfold readK; rw [if_pos h1]; unfold rdC
   simp only
   cases hn : numT 19 x with
   | none => rw [hn] at h; exact h
   | some n => rw [hn] at h; obtain ⟨rfl, rfl⟩ := h; exact ⟨rfl, rfl⟩
 by_cases h2 : k = tT
 ·have hs : shapeT k = (2, [], true) := by unfold shapeT; rw [if_neg h1, if_pos h2]
  by_cases hk : a.length = 0
  case neg => exact bad _ _ hs (by simpa using hk) (by
   rw [readS_k]; unfold readK; rw [if_neg h1, if_pos h2]
   exact rdU_no hk)
  obtain rfl : a = [] := List.length_eq_zero_iff.1 hk
  rw [hs]
  have : (ln [k] - 1 != ln ([] : List UInt8)) = false := rfl
  simp only [this, Bool.not_true, Bool.or_self, br_false]
  rw [show ((2 : Int) == 1) = false from rfl, br_false, ck_SX (by omega) (by rw [ln_len]; simp) (Int.le_refl _)]
  have e0 := step_end (body := body) (words := [k]) (x5 := (2, [], true)) (B := [2, 0, 0, 0, 0, 0, 0, 0, 0]) (N := [5, 6, 7]) (R := [1, 3]) (i := 0) (by rw [sub_tail]; simp [ln])
  rw [show lp (text_reader_stmt_L0 body [k] (2, [], true)) (([2, 0, 0, 0, 0, 0, 0, 0, 0] : List Int), ([5, 6, 7] : List Int), ([1, 3] : List Int), 0) = _ from lp_brk e0, bd_ret, Out.on_go]
  simp only
  rw [ck_yes (by rfl), ck_yes (hal _)]
  refine ⟨_, _, rfl, ?_⟩
  rw [readS_k]; unfold readK; rw [if_neg h1, if_pos h2]
  exact ⟨rfl, rfl⟩
 by_cases h3 : k = lT
 ·have hs : shapeT k = (3, [110, 110, 110], true) := by unfold shapeT; rw [if_neg h1, if_neg h2, if_pos h3]
  have hrd : ∀ a, readS (k :: a) = rdL a := fun a => by rw [readS_k]; unfold readK; rw [if_neg h1, if_neg h2, if_pos h3]
  by_cases hk : a.length = 3
  case neg => exact bad _ _ hs (by simpa using hk) (by
   rw [hrd]; exact rdL_no hk)
  match a, hk, hp with
  | [x, y, z], _, hp =>
   rw [hs]
   have : (ln [k, x, y, z] - 1 != ln ([110, 110, 110] : List UInt8)) = false := rfl
   simp only [this, Bool.not_true, Bool.or_self, br_false]
   rw [show ((3 : Int) == 1) = false from rfl, br_false, ck_SX (by omega) (by rw [ln_len]; simp) (Int.le_refl _), hrd]; unfold rdL
   simp only
   obtain ⟨v1, b1, e1, g1⟩ := (small_s (s := x) (hp x (by simp))).val
   obtain ⟨v2, b2, e2, g2⟩ := (small_s (s := y) (hp y (by simp))).val
   obtain ⟨v3, b3, e3, g3⟩ := (small_s (s := z) (hp z (by simp))).val
   have t1 := step_n (body := body) (words := [k, x, y, z]) (x5 := (3, [110, 110, 110], true)) (B := [3, 0, 0, 0, 0, 0, 0, 0, 0]) (N := [5, 6, 7]) (R := [1, 3]) (i := 0) (n0 := 5) (by rw [sub_tail]; simp [ln]) (by decide) rfl (by decide) rfl (by decide) ⟨by decide, by simp [ln]⟩ (by decide) (by rw [sub_tail]; exact e1)
   cases hn1 : numT 18 x with
   | none =>
    rw [hn1] at g1; rw [show b1 = false from g1, if_neg (by decide)] at t1
    have run := lp_ret t1
    rw [show lp _ (_, _, _, (0 : Int)) = _ from run, bd_ret, Out.on_ret]
    exact ⟨_, _, rfl, rfl⟩
   | some n1 =>
    rw [hn1] at g1; obtain ⟨rfl, rfl⟩ := g1
    rw [if_pos rfl] at t1
    have t2 := step_n (body := body) (words := [k, x, y, z]) (x5 := (3, [110, 110, 110], true)) (B := [3, 0, 0, 0, 0, v1, 0, 0, 0]) (N := [6, 7]) (R := [1, 3]) (i := 1) (n0 := 6) (by rw [sub_tail]; simp [ln]) (by decide) rfl (by decide) rfl (by decide) ⟨by decide, by simp [ln]⟩ (by decide) (by rw [sub_tail]; exact e2)
    cases hn2 : numT 18 y with
    | none =>
     rw [hn2] at g2; rw [show b2 = false from g2, if_neg (by decide)] at t2
     have run := lp_step t1 (lp_ret t2)
     rw [show lp _ (_, _, _, (0 : Int)) = _ from run, bd_ret, Out.on_ret]
     exact ⟨_, _, rfl, rfl⟩
    | some n2 =>
     rw [hn2] at g2; obtain ⟨rfl, rfl⟩ := g2
     rw [if_pos rfl] at t2
     have t3 := step_n (body := body) (words := [k, x, y, z]) (x5 := (3, [110, 110, 110], true)) (B := [3, 0, 0, 0, 0, v1, v2, 0, 0]) (N := [7]) (R := [1, 3]) (i := 2) (n0 := 7) (by rw [sub_tail]; simp [ln]) (by decide) rfl (by decide) rfl (by decide) ⟨by decide, by simp [ln]⟩ (by decide) (by rw [sub_tail]; exact e3)
     cases hn3 : numT 18 z with
     | none =>
      rw [hn3] at g3; rw [show b3 = false from g3, if_neg (by decide)] at t3
      have run := lp_step t1 (lp_step t2 (lp_ret t3))
      rw [show lp _ (_, _, _, (0 : Int)) = _ from run, bd_ret, Out.on_ret]
      exact ⟨_, _, rfl, rfl⟩
     | some n3 =>
      rw [hn3] at g3; obtain ⟨rfl, rfl⟩ := g3
      rw [if_pos rfl] at t3
      have t4 := step_end (body := body) (words := [k, x, y, z]) (x5 := (3, [110, 110, 110], true)) (B := [3, 0, 0, 0, 0, v1, v2, v3, 0]) (N := []) (R := [1, 3]) (i := 3) (by rw [sub_tail]; simp [ln])
      have run := lp_step t1 (lp_step t2 (lp_step t3 (lp_brk t4)))
      rw [show lp _ (_, _, _, (0 : Int)) = _ from run, bd_ret, Out.on_go]
      simp only
      rw [ck_yes (by rfl), ck_yes (hal _)]
      exact ⟨_, _, rfl, rfl, rfl⟩
 by_cases h4 : k = sT
 ·have hs : shapeT k = (4, [110, 110, 110, 114], true) := by unfold shapeT; rw [if_neg h1, if_neg h2, if_neg h3, if_pos h4]
  have hrd : ∀ a, readS (k :: a) = rdS a := fun a => by rw [readS_k]; unfold readK; rw [if_neg h1, if_neg h2, if_neg h3, if_pos h4]
  by_cases hk : a.length = 4
  case neg => exact bad _ _ hs (by simpa using hk) (by
   rw [hrd]; exact rdS_no hk)
  match a, hk, hp with
  | [x, y, z, q], _, hp =>
   rw [hs]
   have : (ln [k, x, y, z, q] - 1 != ln ([110, 110, 110, 114] : List UInt8)) = false := rfl
   simp only [this, Bool.not_true, Bool.or_self, br_false]
   rw [show ((4 : Int) == 1) = false from rfl, br_false, ck_SX (by omega) (by rw [ln_len]; simp) (Int.le_refl _), hrd]; unfold rdS
   simp only
   obtain ⟨v1, b1, e1, g1⟩ := (small_s (s := x) (hp x (by simp))).val
   obtain ⟨v2, b2, e2, g2⟩ := (small_s (s := y) (hp y (by simp))).val
   obtain ⟨v3, b3, e3, g3⟩ := (small_s (s := z) (hp z (by simp))).val
   obtain ⟨v4, b4, e4, g4⟩ := (reads_s (s := q) (hp q (by simp))).val
   have t1 := step_n (body := body) (words := [k, x, y, z, q]) (x5 := (4, [110, 110, 110, 114], true)) (B := [4, 0, 0, 0, 0, 0, 0, 0, 0]) (N := [5, 6, 7]) (R := [1, 3]) (i := 0) (n0 := 5) (by rw [sub_tail]; simp [ln]) (by decide) rfl (by decide) rfl (by decide) ⟨by decide, by simp [ln]⟩ (by decide) (by rw [sub_tail]; exact e1)
   cases hn1 : numT 18 x with
   | none =>
    rw [hn1] at g1; rw [show b1 = false from g1, if_neg (by decide)] at t1
    have run := lp_ret t1
    rw [show lp _ (_, _, _, (0 : Int)) = _ from run, bd_ret, Out.on_ret]
    exact ⟨_, _, rfl, rfl⟩
   | some n1 =>
    rw [hn1] at g1; obtain ⟨rfl, rfl⟩ := g1
    rw [if_pos rfl] at t1
    have t2 := step_n (body := body) (words := [k, x, y, z, q]) (x5 := (4, [110, 110, 110, 114], true)) (B := [4, 0, 0, 0, 0, v1, 0, 0, 0]) (N := [6, 7]) (R := [1, 3]) (i := 1) (n0 := 6) (by rw [sub_tail]; simp [ln]) (by decide) rfl (by decide) rfl (by decide) ⟨by decide, by simp [ln]⟩ (by decide) (by rw [sub_tail]; exact e2)
    cases hn2 : numT 18 y with
    | none =>
     rw [hn2] at g2; rw [show b2 = false from g2, if_neg (by decide)] at t2
     have run := lp_step t1 (lp_ret t2)
     rw [show lp _ (_, _, _, (0 : Int)) = _ from run, bd_ret, Out.on_ret]
     exact ⟨_, _, rfl, rfl⟩
    | some n2 =>
     rw [hn2] at g2; obtain ⟨rfl, rfl⟩ := g2
     rw [if_pos rfl] at t2
     have t3 := step_n (body := body) (words := [k, x, y, z, q]) (x5 := (4, [110, 110, 110, 114], true)) (B := [4, 0, 0, 0, 0, v1, v2, 0, 0]) (N := [7]) (R := [1, 3]) (i := 2) (n0 := 7) (by rw [sub_tail]; simp [ln]) (by decide) rfl (by decide) rfl (by decide) ⟨by decide, by simp [ln]⟩ (by decide) (by rw [sub_tail]; exact e3)
     cases hn3 : numT 18 z with
     | none =>
      rw [hn3] at g3; rw [show b3 = false from g3, if_neg (by decide)] at t3
      have run := lp_step t1 (lp_step t2 (lp_ret t3))
      rw [show lp _ (_, _, _, (0 : Int)) = _ from run, bd_ret, Out.on_ret]
      exact ⟨_, _, rfl, rfl⟩
     | some n3 =>
      rw [hn3] at g3; obtain ⟨rfl, rfl⟩ := g3
      rw [if_pos rfl] at t3
      have t4 := step_r (body := body) (words := [k, x, y, z, q]) (x5 := (4, [110, 110, 110, 114], true)) (B := [4, 0, 0, 0, 0, v1, v2, v3, 0]) (N := []) (R := [1, 3]) (i := 3) (r0 := 1) (by rw [sub_tail]; simp [ln]) (by decide) rfl (by decide) rfl (by decide) ⟨by decide, by simp [ln]⟩ ⟨by decide, by simp [ln]⟩ (by decide) (by rw [sub_tail]; exact e4)
      cases hn4 : readR q with
      | none =>
       rw [hn4] at g4; rw [show b4 = false from g4, if_neg (by decide)] at t4
       have run := lp_step t1 (lp_step t2 (lp_step t3 (lp_ret t4)))
       rw [show lp _ (_, _, _, (0 : Int)) = _ from run, bd_ret, Out.on_ret]
       exact ⟨_, _, rfl, rfl⟩
      | some n4 =>
       rw [hn4] at g4; obtain ⟨rfl, rfl⟩ := g4
       rw [if_pos rfl] at t4
       have t5 := step_end (body := body) (words := [k, x, y, z, q]) (x5 := (4, [110, 110, 110, 114], true)) (B := [4, v4.st, v4.bk, 0, 0, v1, v2, v3, 0]) (N := []) (R := [3]) (i := 4) (by rw [sub_tail]; simp [ln])
       have run := lp_step t1 (lp_step t2 (lp_step t3 (lp_step t4 (lp_brk t5))))
       rw [show lp _ (_, _, _, (0 : Int)) = _ from run, bd_ret, Out.on_go]
       simp only
       rw [ck_yes (by rfl), ck_yes (hal _)]
       exact ⟨_, _, rfl, rfl, rfl⟩
 by_cases h5 : k ∈ opsW
 ·have hs : shapeT k = ((11 + ((opsW.idxOf k : Nat) : Int)), ([114, 114] : List UInt8), true) := by unfold shapeT; rw [if_neg h1, if_neg h2, if_neg h3, if_neg h4, if_pos h5]
  have hrd : ∀ a, readS (k :: a) = rdO (11 + (opsW.idxOf k : Nat)) a := fun a => by rw [readS_k]; unfold readK; rw [if_neg h1, if_neg h2, if_neg h3, if_neg h4, if_pos h5]
  by_cases hk : a.length = 2
  case neg => exact bad _ _ hs (by simpa using hk) (by
   rw [hrd]; exact rdO_no hk)
  match a, hk, hp with
  | [x, y], _, hp =>
   rw [hs]
   generalize opsW.idxOf k = j at hrd ⊢
   have : (ln [k, x, y] - 1 != ln ([114, 114] : List UInt8)) = false := rfl
   simp only [this, Bool.not_true, Bool.or_self, br_false]
   rw [show ((11 + (j : Int)) == 1) = false from beq_F (by omega), br_false, ck_SX (by omega) (by rw [ln_len]; simp) (Int.le_refl _), hrd]; unfold rdO
   simp only
   obtain ⟨v1, b1, e1, g1⟩ := (reads_s (s := x) (hp x (by simp))).val
   obtain ⟨v2, b2, e2, g2⟩ := (reads_s (s := y) (hp y (by simp))).val
   have t1 := step_r (body := body) (words := [k, x, y]) (x5 := (11 + (j : Int), [114, 114], true)) (B := [11 + (j : Int), 0, 0, 0, 0, 0, 0, 0, 0]) (N := [5, 6, 7]) (R := [1, 3]) (i := 0) (r0 := 1) (by rw [sub_tail]; simp [ln]) (by simp [ln]) rfl (by decide) rfl (by decide) ⟨by decide, by simp [ln]⟩ ⟨by decide, by simp [ln]⟩ (by decide) (by rw [sub_tail]; exact e1)
   cases hn1 : readR x with
   | none =>
    rw [hn1] at g1; rw [show b1 = false from g1, if_neg (by decide)] at t1
    have run := lp_ret t1
    rw [show lp _ (_, _, _, (0 : Int)) = _ from run, bd_ret, Out.on_ret]
    exact ⟨_, _, rfl, rfl⟩
   | some n1 =>
    rw [hn1] at g1; obtain ⟨rfl, rfl⟩ := g1
    rw [if_pos rfl] at t1
    have t2 := step_r (body := body) (words := [k, x, y]) (x5 := (11 + (j : Int), [114, 114], true)) (B := [11 + (j : Int), v1.st, v1.bk, 0, 0, 0, 0, 0, 0]) (N := [5, 6, 7]) (R := [3]) (i := 1) (r0 := 3) (by rw [sub_tail]; simp [ln]) (by simp [ln]) rfl (by decide) rfl (by decide) ⟨by decide, by simp [ln]⟩ ⟨by decide, by simp [ln]⟩ (by decide) (by rw [sub_tail]; exact e2)
    cases hn2 : readR y with
    | none =>
     rw [hn2] at g2; rw [show b2 = false from g2, if_neg (by decide)] at t2
     have run := lp_step t1 (lp_ret t2)
     rw [show lp _ (_, _, _, (0 : Int)) = _ from run, bd_ret, Out.on_ret]
     exact ⟨_, _, rfl, rfl⟩
    | some n2 =>
     rw [hn2] at g2; obtain ⟨rfl, rfl⟩ := g2
     rw [if_pos rfl] at t2
     have t3 := step_end (body := body) (words := [k, x, y]) (x5 := (11 + (j : Int), [114, 114], true)) (B := [11 + (j : Int), v1.st, v1.bk, v2.st, v2.bk, 0, 0, 0, 0]) (N := [5, 6, 7]) (R := []) (i := 2) (by rw [sub_tail]; simp [ln])
     have run := lp_step t1 (lp_step t2 (lp_brk t3))
     rw [show lp _ (_, _, _, (0 : Int)) = _ from run, bd_ret, Out.on_go]
     simp only
     rw [ck_yes (by rfl), ck_yes (hal _)]
     exact ⟨_, _, rfl, rfl, rfl⟩
 ·have hs : shapeT k = (0, [], false) := by unfold shapeT; rw [if_neg h1, if_neg h2, if_neg h3, if_neg h4, if_neg h5]
  rw [hs]
  simp only [Bool.not_false, Bool.true_or, br_true]
  refine ⟨_, _, rfl, ?_⟩
  rw [readS_k]; unfold readK; rw [if_neg h1, if_neg h2, if_neg h3, if_neg h4, if_neg h5]
  rfl
theorem tells_ret {α : Type} {v : α} {b : Bool} {o : Option α} (h : IsT o v b) : Tells (some (v, b)) o := tells_mk rfl h
theorem rops_lp {k : List UInt8} {a : List (List UInt8)} (hp : ∀ p ∈ a, p.length ≤ 4000000) (hl : a.length ≤ 4000000) :
  (∃ v b, lp (R14_stmt_L1 (k :: a) opsW) 0 = some (.ret (v, b)) ∧ IsT (if k ∈ opsW then rdO (11 + (opsW.idxOf k : Nat)) a else none) v b) ∨ (lp (R14_stmt_L1 (k :: a) opsW) 0 = some (.go 8) ∧ (k ∈ opsW → a.length ≠ 2)) := by
 have hln : ln (k :: a) = (a.length : Int) + 1 := by rw [ln_len]; simp
 by_cases h2 : a.length = 2
 ·match a, h2, hp with
  | [x, y], _, hp =>
   obtain ⟨v1, b1, e1, g1⟩ := (rreads_s (s := x) (hp x (by simp))).val
   obtain ⟨v2, b2, e2, g2⟩ := (rreads_s (s := y) (hp y (by simp))).val
   have key := lp_scan (f := R14_stmt_L1 [k, x, y] opsW) (n := 8) (p := fun i => ele opsW (i : Int) ≠ k) (fun i => ((Stm.mk (11 + (i : Int)) v1 v2 0 0 0 0), (b1 && b2))) 8 0 (by omega) (fun i _ hi => ?_) ?_
   ·rcases key with ⟨h, e⟩ | ⟨i, _, hi, hpi, _, e⟩
    ·right
     refine ⟨e, fun hm => ?_⟩
     obtain ⟨i, hi, he⟩ := ops_mem.1 hm
     exact absurd he (h i (by omega) hi)
    ·left
     have he := Classical.not_not.1 hpi
     have hix := ops_idx i hi
     rw [he] at hix
     refine ⟨_, _, e, ?_⟩
     rw [if_pos (ops_mem.2 ⟨i, hi, he⟩), hix]; unfold rdO
     simp only
     cases hn1 : readR x with
     | none => rw [hn1] at g1; rw [show b1 = false from g1]; rfl
     | some n1 =>
      rw [hn1] at g1; obtain ⟨rfl, rfl⟩ := g1
      cases hn2 : readR y with
      | none => rw [hn2] at g2; rw [show b2 = false from g2]; rfl
      | some n2 => rw [hn2] at g2; obtain ⟨rfl, rfl⟩ := g2; exact ⟨rfl, rfl⟩
   ·have e : R14_stmt_L1 [k, x, y] opsW (i : Int) = br (ele opsW (i : Int) == k) (some (.ret ((Stm.mk (11 + (i : Int)) v1 v2 0 0 0 0), (b1 && b2)))) (some (.next ((i : Int) + 1))) := by
     unfold R14_stmt_L1
     have c0 : IX 0 (ln [k, x, y]) := ⟨by decide, by simp [ln]⟩
     have c1 : IX 1 (ln [k, x, y]) := ⟨by decide, by simp [ln]⟩
     have c2 : IX 2 (ln [k, x, y]) := ⟨by decide, by simp [ln]⟩
     have e3 : (ln [k, x, y] - 1 == 2) = true := rfl
     rw [ops_eight, br_T (by omega), ck_IX (by omega) (by omega), ck_yes c0, show ele [k, x, y] 0 = k from rfl, e3, Bool.and_true, ck_yes c1, show ele [k, x, y] 1 = x from rfl, e1, bd_ret, ck_yes c2, show ele [k, x, y] 2 = y from rfl, e2, bd_ret,
      ck_IR (by omega) (by omega), ck_IR (by omega) (by omega), ck_IR (by omega) (by omega), show (10 + (i : Int) + 1) = 11 + (i : Int) by omega]
    rw [e]
    refine ⟨fun h => ?_, fun h => ?_⟩
    ·rw [beq_F h]; rfl
    ·rw [beq_iff_eq.2 (Classical.not_not.1 h)]; rfl
   ·unfold R14_stmt_L1
    rw [ops_eight, br_F (by omega)]
 ·right
  refine ⟨?_, fun _ => h2⟩
  refine lp_det (f := R14_stmt_L1 (k :: a) opsW) (fun i => (i : Int)) 8 (fun i hi => ?_) ?_
  ·unfold R14_stmt_L1
   have c0 : IX 0 (ln (k :: a)) := ⟨by decide, by omega⟩
   have e3 : (ln (k :: a) - 1 == 2) = false := beq_F (by omega)
   rw [ops_eight, br_T (by omega), ck_IX (by omega) (by omega), ck_yes c0, e3, Bool.and_false, br_false, ck_IR (by omega) (by omega)]
   rfl
  ·unfold R14_stmt_L1
   rw [ops_eight, br_F (by omega)]
theorem rstmt_s {k : List UInt8} {a : List (List UInt8)} (hl : a.length ≤ 4000000) (hp : ∀ p ∈ a, p.length ≤ 4000000) : Tells (R14_stmt_m (k :: a)) (readS (k :: a)) := by
 have hln : ln (k :: a) = (a.length : Int) + 1 := by rw [ln_len]; simp
 have c0 : IX 0 (ln (k :: a)) := ⟨by decide, by omega⟩
 have cI : ∀ j : Nat, j < a.length + 1 → IX (j : Int) (ln (k :: a)) := fun j hj => ⟨by omega, by omega⟩
 unfold R14_stmt_m
 rw [ck_IR (by omega) (by omega), ck_yes c0, show ele (k :: a) 0 = k from rfl, readS_k]
 unfold readK
 by_cases h1 : k = cT
 ·rw [if_pos h1, show (k == [99, 111, 110, 115, 116]) = true from beq_iff_eq.2 h1, br_true]
  by_cases hk : a.length = 1
  ·match a, hk, hp with
   | [x], _, hp =>
    rw [show (ln [k, x] - 1 != 1) = false from rfl, br_false, ck_yes (show IX 1 (ln [k, x]) from ⟨by decide, by simp [ln]⟩), show ele [k, x] 1 = x from rfl]
    obtain ⟨v, b, e, h⟩ := (rnumber_s (s := x) (most := 19) (hp x (by simp))).val
    rw [e, bd_ret]
    refine tells_ret ?_
    unfold rdC; simp only
    cases hn : numT 19 x with
    | none => rw [hn] at h; exact h
    | some n => rw [hn] at h; obtain ⟨rfl, rfl⟩ := h; exact ⟨rfl, rfl⟩
  ·rw [show (ln (k :: a) - 1 != 1) = true by rw [bne_iff_ne]; omega, br_true]
   refine tells_ret ?_
   rw [rdC_no hk]; rfl
 rw [if_neg h1, show (k == [99, 111, 110, 115, 116]) = false from beq_F h1, br_false]
 by_cases h2 : k = tT
 ·rw [if_pos h2, show (k == [116, 117, 114, 110]) = true from beq_iff_eq.2 h2, br_true]
  refine tells_ret ?_
  by_cases hk : a.length = 0
  ·obtain rfl := List.length_eq_zero_iff.1 hk
   exact ⟨rfl, rfl⟩
  ·rw [rdU_no hk]; exact beq_F (by omega)
 rw [if_neg h2, show (k == [116, 117, 114, 110]) = false from beq_F h2, br_false]
 -- the words of a place
 have place : ∀ (op want : Int) (w : Nat), (want = 3 ∧ w = 3 ∧ k ≠ sT ∧ op = 3) ∨ (want = 4 ∧ w = 4 ∧ k = sT ∧ op = 4) → ∀ o : Option Stm, o = (if want = 3 then rdL a else rdS a) → Tells (br (((ln (k :: a)) - 1) != want) (
   some ((Stm.mk op (Rf.mk 0 0) (Rf.mk 0 0) 0 0 0 0), false)) (
   ck (IX 1 (ln (k :: a))) <| bd (R14_number_m (ele (k :: a) 1) 18) fun x44 => ck (IX 2 (ln (k :: a))) <| bd (R14_number_m (ele (k :: a) 2) 18) fun x51 => ck (IX 3 (ln (k :: a))) <| bd (R14_number_m (ele (k :: a) 3) 18) fun x58 =>
   br (want == 3) (some ((Stm.mk op (Rf.mk 0 0) (Rf.mk 0 0) x44.1 x51.1 x58.1 0), ((x44.2 && x51.2) && x58.2))) (
   ck (IX 4 (ln (k :: a))) <| bd (R14_reads_m (ele (k :: a) 4)) fun x68 => some ((Stm.mk op x68.1 (Rf.mk 0 0) x44.1 x51.1 x58.1 0), (((x44.2 && x51.2) && x58.2) && x68.2))))) o := by
  rintro op want w hw o rfl
  by_cases hk : a.length = w
  ·rcases hw with ⟨rfl, rfl, hk1, rfl⟩ | ⟨rfl, rfl, hk1, rfl⟩
   ·match a, hk, hp with
    | [x, y, z], _, hp =>
     obtain ⟨v1, b1, e1, g1⟩ := (rnumber_s (s := x) (most := 18) (hp x (by simp))).val
     obtain ⟨v2, b2, e2, g2⟩ := (rnumber_s (s := y) (most := 18) (hp y (by simp))).val
     obtain ⟨v3, b3, e3, g3⟩ := (rnumber_s (s := z) (most := 18) (hp z (by simp))).val
     rw [show (ln [k, x, y, z] - 1 != 3) = false from rfl, br_false, ck_yes (show IX 1 (ln [k, x, y, z]) from ⟨by decide, by simp [ln]⟩), show ele [k, x, y, z] 1 = x from rfl, e1, bd_ret, ck_yes (show IX 2 (ln [k, x, y, z]) from ⟨by decide, by simp [ln]⟩), show ele [k, x, y, z] 2 = y from rfl, e2, bd_ret,
      ck_yes (show IX 3 (ln [k, x, y, z]) from ⟨by decide, by simp [ln]⟩), show ele [k, x, y, z] 3 = z from rfl, e3, bd_ret, show ((3 : Int) == 3) = true from rfl, br_true, if_pos rfl]
     refine tells_ret ?_
     unfold rdL; simp only
     cases hn1 : numT 18 x with
     | none => rw [hn1] at g1; rw [show b1 = false from g1]; rfl
     | some n1 =>
      rw [hn1] at g1; obtain ⟨rfl, rfl⟩ := g1
      cases hn2 : numT 18 y with
      | none => rw [hn2] at g2; rw [show b2 = false from g2]; rfl
      | some n2 =>
       rw [hn2] at g2; obtain ⟨rfl, rfl⟩ := g2
       cases hn3 : numT 18 z with
       | none => rw [hn3] at g3; rw [show b3 = false from g3]; rfl
       | some n3 => rw [hn3] at g3; obtain ⟨rfl, rfl⟩ := g3; exact ⟨rfl, rfl⟩
   ·match a, hk, hp with
    | [x, y, z, q], _, hp =>
     obtain ⟨v1, b1, e1, g1⟩ := (rnumber_s (s := x) (most := 18) (hp x (by simp))).val
     obtain ⟨v2, b2, e2, g2⟩ := (rnumber_s (s := y) (most := 18) (hp y (by simp))).val
     obtain ⟨v3, b3, e3, g3⟩ := (rnumber_s (s := z) (most := 18) (hp z (by simp))).val
     obtain ⟨v4, b4, e4, g4⟩ := (rreads_s (s := q) (hp q (by simp))).val
     rw [show (ln [k, x, y, z, q] - 1 != 4) = false from rfl, br_false, ck_yes (show IX 1 (ln [k, x, y, z, q]) from ⟨by decide, by simp [ln]⟩), show ele [k, x, y, z, q] 1 = x from rfl, e1, bd_ret, ck_yes (show IX 2 (ln [k, x, y, z, q]) from ⟨by decide, by simp [ln]⟩), show ele [k, x, y, z, q] 2 = y from rfl, e2, bd_ret,
      ck_yes (show IX 3 (ln [k, x, y, z, q]) from ⟨by decide, by simp [ln]⟩), show ele [k, x, y, z, q] 3 = z from rfl, e3, bd_ret, show ((4 : Int) == 3) = false from rfl, br_false, ck_yes (show IX 4 (ln [k, x, y, z, q]) from ⟨by decide, by simp [ln]⟩), show ele [k, x, y, z, q] 4 = q from rfl, e4, bd_ret, if_neg (by decide)]
     refine tells_ret ?_
     unfold rdS; simp only
     cases hn1 : numT 18 x with
     | none => rw [hn1] at g1; rw [show b1 = false from g1]; rfl
     | some n1 =>
      rw [hn1] at g1; obtain ⟨rfl, rfl⟩ := g1
      cases hn2 : numT 18 y with
      | none => rw [hn2] at g2; rw [show b2 = false from g2]; rfl
      | some n2 =>
       rw [hn2] at g2; obtain ⟨rfl, rfl⟩ := g2
       cases hn3 : numT 18 z with
       | none => rw [hn3] at g3; rw [show b3 = false from g3]; rfl
       | some n3 =>
        rw [hn3] at g3; obtain ⟨rfl, rfl⟩ := g3
        cases hn4 : readR q with
        | none => rw [hn4] at g4; rw [show b4 = false from g4]; rfl
        | some n4 => rw [hn4] at g4; obtain ⟨rfl, rfl⟩ := g4; exact ⟨rfl, rfl⟩
  ·have hww : want = (w : Int) := by omega
   rw [show (ln (k :: a) - 1 != want) = true by rw [bne_iff_ne]; omega, br_true]
   refine tells_ret ?_
   rcases hw with ⟨rfl, rfl, _, _⟩ | ⟨rfl, rfl, _, _⟩
   ·rw [if_pos rfl, rdL_no hk]; rfl
   ·rw [if_neg (by decide), rdS_no hk]; rfl
 by_cases h3 : k = lT
 ·have h43 : k ≠ sT := by rw [h3]; decide
  rw [if_pos h3, show (k == [108, 111, 97, 100]) = true from beq_iff_eq.2 h3, br_true, bd_ret, Out.on_go, br_true, ck_yes c0, show (k == [115, 116, 111, 114, 101]) = false from beq_F h43, br_false, bd_ret, Out.on_go]
  exact place 3 3 3 (.inl ⟨rfl, rfl, h43, rfl⟩) _ (by rw [if_pos rfl])
 rw [if_neg h3, show (k == [108, 111, 97, 100]) = false from beq_F h3, br_false, bd_ret, Out.on_go]
 by_cases h4 : k = sT
 ·rw [if_pos h4, show (k == [115, 116, 111, 114, 101]) = true from beq_iff_eq.2 h4, br_true, ck_yes c0, br_true, bd_ret, Out.on_go]
  exact place 4 4 4 (.inr ⟨rfl, rfl, h4, rfl⟩) _ (by rw [if_neg (by decide)])
 rw [if_neg h4, show (k == [115, 116, 111, 114, 101]) = false from beq_F h4, br_false, show R14_words_m = some opsW from rfl, bd_ret]
 rcases rops_lp (k := k) hp hl with ⟨v, b, e, h⟩ | ⟨e, h⟩
 ·rw [e, bd_ret, Out.on_ret]
  exact tells_ret h
 ·rw [e, bd_ret, Out.on_go]
  refine tells_ret ?_
  by_cases h5 : k ∈ opsW
  ·rw [if_pos h5, rdO_no (h h5)]; rfl
  ·rw [if_neg h5]; rfl
end Go.Rd
end
section
namespace Go.Rd
def aW : List UInt8 := [97, 114, 114, 97, 121]
def oW : List UInt8 := [111, 117, 116]
noncomputable def rdA (l : Lp) (a : List (List UInt8)) : Option Lp := match a with
 | [x] => match numT 18 x with
  | some n => some ⟨l.logs ++ [n], l.body, l.outs⟩
  | none => none
 | _ => none
noncomputable def rdT (l : Lp) (a : List (List UInt8)) : Option Lp := match a with
 | [x] => match numT 18 x with
  | some n => some ⟨l.logs, l.body, l.outs ++ [n]⟩
  | none => none
 | _ => none
def rdB (l : Lp) (o : Option Stm) : Option Lp := match o with
 | some s => some ⟨l.logs, l.body ++ [s], l.outs⟩
 | none => none
theorem rdA_no {l : Lp} {a : List (List UInt8)} (h : a.length ≠ 1) : rdA l a = none := by unfold rdA; split <;> first | exact absurd rfl h | rfl
theorem rdT_no {l : Lp} {a : List (List UInt8)} (h : a.length ≠ 1) : rdT l a = none := by unfold rdT; split <;> first | exact absurd rfl h | rfl
noncomputable def readW (l : Lp) (k : List UInt8) (a : List (List UInt8)) : Option Lp :=
 if k = aW then (if l.body = [] ∧ l.outs = [] then rdA l a else none)
 else if k = oW then rdT l a
 else rdB l (if l.outs = [] then readK k a else none)
noncomputable def readL (l : Lp) (s : List UInt8) : Option Lp := match spl 32 s with
 | [] => none
 | k :: a => readW l k a
def LineIs (o : Option Lp) (b : Bool) (r : Lp) : Prop := match o with
 | some l => b = true ∧ r = l
 | none => b = false
structure Sz (i : Nat) (l : Lp) : Prop where
 lo : l.logs.length ≤ i
 bo : l.body.length ≤ i
 ou : l.outs.length ≤ i
 rlogs : ∀ x ∈ l.logs, InR x
 rbody : ∀ x ∈ l.body, x.InR
 routs : ∀ x ∈ l.outs, InR x
theorem Sz.fine {i : Nat} {l : Lp} (h : Sz i l) (hi : i ≤ 4000000) : l.Fine := by
 have := h.lo; have := h.bo; have := h.ou
 exact ⟨h.rlogs, h.rbody, h.routs, by rw [maxLen_eq]; omega, by rw [maxLen_eq]; omega, by rw [maxLen_eq]; omega⟩
theorem sz_zero : Sz 0 ⟨[], [], []⟩ := ⟨Nat.le_refl _, Nat.le_refl _, Nat.le_refl _, by simp, by simp, by simp⟩
theorem InR.z : InR 0 := ⟨by decide, by decide⟩
theorem InR.s {n : Int} (h : -5 ≤ n) (k : n ≤ 5) : InR n := ⟨by omega, by omega⟩
theorem readK_in {k : List UInt8} {a : List (List UInt8)} {s : Stm} (h : readK k a = some s) : s.InR := by
 unfold readK at h
 split at h
 ·unfold rdC at h
  split at h
  ·split at h
   ·rename_i n hn; injection h with h; subst h
    exact ⟨InR.s (show -5 ≤ (1 : Int) by decide) (show (1 : Int) ≤ 5 by decide), .z, .z, .z, .z, .z, .z, .z, (numT_iff.1 hn).1⟩
   ·cases h
  ·cases h
 split at h
 ·unfold rdU at h
  split at h
  ·injection h with h; subst h; exact ⟨InR.s (show -5 ≤ (2 : Int) by decide) (show (2 : Int) ≤ 5 by decide), .z, .z, .z, .z, .z, .z, .z, .z⟩
  ·cases h
 split at h
 ·unfold rdL at h
  split at h
  ·split at h
   ·rename_i n m p h1 h2 h3; injection h with h; subst h
    exact ⟨InR.s (show -5 ≤ (3 : Int) by decide) (show (3 : Int) ≤ 5 by decide), .z, .z, .z, .z, (numT_iff.1 h1).1, (numT_iff.1 h2).1, (numT_iff.1 h3).1, .z⟩
   ·cases h
  ·cases h
 split at h
 ·unfold rdS at h
  split at h
  ·split at h
   ·rename_i n m p r h1 h2 h3 h4; injection h with h; subst h
    exact ⟨InR.s (show -5 ≤ (4 : Int) by decide) (show (4 : Int) ≤ 5 by decide), (readR_in h4).1, (readR_in h4).2.1, .z, .z, (numT_iff.1 h1).1, (numT_iff.1 h2).1, (numT_iff.1 h3).1, .z⟩
   ·cases h
  ·cases h
 split at h
 ·rename_i hk
  have hk := List.idxOf_lt_length_of_mem hk
  rw [show opsW.length = 8 from rfl] at hk
  unfold rdO at h
  split at h
  ·split at h
   ·rename_i r q h1 h2; injection h with h; subst h
    exact ⟨⟨by show _ ≤ (11 + (opsW.idxOf k : Nat) : Int); omega, by show (11 + (opsW.idxOf k : Nat) : Int) ≤ _; omega⟩, (readR_in h1).1, (readR_in h1).2.1, (readR_in h2).1, (readR_in h2).2.1, .z, .z, .z, .z⟩
   ·cases h
  ·cases h
 ·cases h
theorem all_snoc {α : Type} {p : α → Prop} {l : List α} {x : α} (h : ∀ y ∈ l, p y) (hx : p x) : ∀ y ∈ l ++ [x], p y := fun y hy => by
 rcases List.mem_append.1 hy with hy | hy
 ·exact h y hy
 ·rw [List.mem_singleton] at hy; subst hy; exact hx
theorem readL_sz {i : Nat} {l r : Lp} {s : List UInt8} (hs : Sz i l) (h : readL l s = some r) : Sz (i + 1) r := by
 obtain ⟨h1, h2, h3, h4, h5, h6⟩ := hs
 unfold readL at h
 split at h
 ·cases h
 unfold readW at h
 split at h
 ·split at h
  ·unfold rdA at h
   split at h
   ·split at h
    ·rename_i n hn; injection h with h; subst h
     exact ⟨by simp; omega, by show l.body.length ≤ _; omega, by show l.outs.length ≤ _; omega, all_snoc h4 (numT_iff.1 hn).1, h5, h6⟩
    ·cases h
   ·cases h
  ·cases h
 split at h
 ·unfold rdT at h
  split at h
  ·split at h
   ·rename_i n hn; injection h with h; subst h
    exact ⟨by show l.logs.length ≤ _; omega, by show l.body.length ≤ _; omega, by simp; omega, h4, h5, all_snoc h6 (numT_iff.1 hn).1⟩
   ·cases h
  ·cases h
 ·unfold rdB at h
  split at h
  ·rename_i st hst; injection h with h; subst h
   split at hst
   ·exact ⟨by show l.logs.length ≤ _; omega, by simp; omega, by show l.outs.length ≤ _; omega, h4, all_snoc h5 (readK_in hst), h6⟩
   ·cases hst
  ·cases h
theorem spl_word {c : UInt8} {s : List UInt8} : ∃ k a, spl c s = k :: a ∧ a.length ≤ s.length ∧ (∀ p ∈ a, p.length ≤ s.length) ∧ k.length ≤ s.length := by
 cases h : spl c s with
 | nil => exact absurd h (spl_ne s)
 | cons k a =>
  have hl := spl_len (c := c) s
  rw [h] at hl
  simp only [List.length_cons] at hl
  exact ⟨k, a, rfl, by omega, fun p hp => (spl_mem (c := c) (s := s) (by rw [h]; simp [hp])).2, (spl_mem (c := c) (s := s) (by rw [h]; simp)).2⟩
theorem al_snoc {α : Type} {l : List α} {x : α} {k : Nat} (h : l.length ≤ 2000000) (hk : k ≤ 100) : AL (l ++ [x]).length k := by
 have e : (l ++ [x]).length = l.length + 1 := by simp
 rw [e]
 refine ⟨by rw [maxLen_eq]; omega, ?_⟩
 have : (l.length + 1) * k ≤ 2000001 * 100 := Nat.mul_le_mul (by omega) hk
 omega
theorem nil_sum {l : Lp} : (((ln l.body + ln l.outs) == 0) = true) ↔ (l.body = [] ∧ l.outs = []) := by
 rw [beq_iff_eq, ln_len, ln_len]
 constructor
 ·intro h; exact ⟨List.length_eq_zero_iff.1 (by omega), List.length_eq_zero_iff.1 (by omega)⟩
 ·rintro ⟨h1, h2⟩; rw [h1, h2]; rfl
theorem tline_s {l : Lp} {s : List UInt8} (h1 : l.logs.length ≤ 2000000) (h2 : l.body.length ≤ 2000000) (h3 : l.outs.length ≤ 2000000) (hs : s.length ≤ 2000000) :
  ∃ b r, text_reader_line_m l.logs l.body l.outs s = some (b, r.logs, r.body, r.outs) ∧ LineIs (readL l s) b r := by
 obtain ⟨k, a, e, la, lp, lk⟩ := spl_word (c := 32) (s := s)
 unfold text_reader_line_m readL
 rw [Split_s _ (by omega), bd_ret, e]
 have hln : ln (k :: a) = (a.length : Int) + 1 := by rw [ln_len]; simp
 have c0 : IX 0 (ln (k :: a)) := ⟨by decide, by omega⟩
 rw [ck_yes c0, ck_imp (fun _ => c0), show ele (k :: a) 0 = k from rfl]
 simp only
 unfold readW
 -- a line of one number
 have one : ∀ (isA : Bool), isA = (k == [97, 114, 114, 97, 121]) → ∃ b r, (br ((ln (k :: a)) != 2) (some (false, l.logs, l.body, l.outs)) (
   ck (IX 1 (ln (k :: a))) <| bd (text_small_m (ele (k :: a) 1)) fun x27 => ck (IX 0 (ln (k :: a))) <| br isA (
   ck ((x27.2) = true → IR ((ln l.body) + (ln l.outs))) <| ck (AL (l.logs ++ [x27.1]).length 8) <|
   some ((x27.2 && (((ln l.body) + (ln l.outs)) == 0)), (l.logs ++ [x27.1]), l.body, l.outs)) (
   ck (AL (l.outs ++ [x27.1]).length 8) <| some (x27.2, l.logs, l.body, (l.outs ++ [x27.1]))))) = some (b, r.logs, r.body, r.outs) ∧
   LineIs (if isA = true then (if l.body = [] ∧ l.outs = [] then rdA l a else none) else rdT l a) b r := by
  intro isA hA
  by_cases hk : a.length = 1
  ·match a, hk, lp with
   | [x], _, lp =>
    rw [show (ln [k, x] != 2) = false from rfl, br_false, ck_yes (show IX 1 (ln [k, x]) from ⟨by decide, by simp [ln]⟩), show ele [k, x] 1 = x from rfl]
    have hx := lp x (by simp)
    obtain ⟨v, b, e1, g1⟩ := (small_s (s := x) (by omega)).val
    rw [e1, bd_ret, ck_yes (show IX 0 (ln [k, x]) from ⟨by decide, by simp [ln]⟩)]
    cases isA with
    | true =>
     rw [br_true, ck_imp (fun _ => ⟨by rw [ln_len, ln_len]; omega, by rw [ln_len, ln_len]; omega⟩), ck_yes (al_snoc h1 (by decide)), if_pos rfl]
     refine ⟨_, ⟨l.logs ++ [v], l.body, l.outs⟩, rfl, ?_⟩
     by_cases hz : l.body = [] ∧ l.outs = []
     ·rw [nil_sum.2 hz, Bool.and_true, if_pos hz]
      unfold rdA
      simp only
      cases hn : numT 18 x with
      | none => rw [hn] at g1; exact g1
      | some n => rw [hn] at g1; obtain ⟨rfl, rfl⟩ := g1; exact ⟨rfl, rfl⟩
     ·rw [Bool.eq_false_iff.2 (fun h => hz (nil_sum.1 h)), Bool.and_false, if_neg hz]; rfl
    | false =>
     rw [br_false, ck_yes (al_snoc h3 (by decide)), if_neg (by decide)]
     refine ⟨_, ⟨l.logs, l.body, l.outs ++ [v]⟩, rfl, ?_⟩
     unfold rdT
     simp only
     cases hn : numT 18 x with
     | none => rw [hn] at g1; exact g1
     | some n => rw [hn] at g1; obtain ⟨rfl, rfl⟩ := g1; exact ⟨rfl, rfl⟩
  ·rw [show (ln (k :: a) != 2) = true by rw [bne_iff_ne]; omega, br_true, rdA_no hk, rdT_no hk, ite_self]
   exact ⟨_, l, rfl, by rw [ite_self]; rfl⟩
 by_cases k1 : k = aW
 ·have e1 : (k == [97, 114, 114, 97, 121]) = true := beq_iff_eq.2 k1
  have := one true e1.symm
  rw [if_pos rfl] at this
  rw [if_pos k1, show (k != [97, 114, 114, 97, 121]) = false by unfold bne; rw [e1]; rfl, Bool.false_and, br_false, e1]
  exact this
 have e1 : (k == [97, 114, 114, 97, 121]) = false := beq_F k1
 rw [if_neg k1, show (k != [97, 114, 114, 97, 121]) = true by unfold bne; rw [e1]; rfl, Bool.true_and]
 by_cases k2 : k = oW
 ·have e2 : (k == [111, 117, 116]) = true := beq_iff_eq.2 k2
  have := one false e1.symm
  rw [if_neg (by decide)] at this
  rw [if_pos k2, show (k != [111, 117, 116]) = false by unfold bne; rw [e2]; rfl, br_false, e1]
  exact this
 have e2 : (k == [111, 117, 116]) = false := beq_F k2
 rw [if_neg k2, show (k != [111, 117, 116]) = true by unfold bne; rw [e2]; rfl, br_true]
 obtain ⟨b, B, e3, h3'⟩ := stmt_op (logs := l.logs) (body := l.body) (outs := l.outs) (k := k) (a := a) (by omega) (by omega) (fun p hp => by have := lp p hp; omega)
 rw [e3, bd_ret]
 refine ⟨b, ⟨l.logs, B, l.outs⟩, rfl, ?_⟩
 rw [readS_k] at h3'
 unfold rdB
 split
 ·rename_i st hst; rw [hst] at h3'; obtain ⟨rfl, rfl⟩ := h3'; exact ⟨rfl, rfl⟩
 ·rename_i hst; rw [hst] at h3'; exact h3'
def stepOf {γ : Type} (o : Option Lp) (f : Lp → γ) (k : Int) : Stp γ (Lp × Flt) := match o with
 | some r => .next (f r)
 | none => .ret (⟨[], [], []⟩, ⟨2, k⟩)
theorem rround {X : List (List UInt8)} {l : Lp} {i : Nat} (hi : (i : Int) < ln X - 1) (hX : X.length ≤ 2000001) (hs : (ele X (i : Int)).length ≤ 2000000) (z : Sz i l) :
  R14_Parse_L0 X (l.logs, l.outs, l.body, (i : Int)) = some (stepOf (readL l (ele X (i : Int))) (fun r => (r.logs, r.outs, r.body, ((i + 1 : Nat) : Int))) (i : Int)) := by
 rw [ln_len] at hi
 have h1 := z.lo; have h2 := z.bo; have h3 := z.ou
 have hir : IR ((i : Int) + 1) := ⟨by omega, by omega⟩
 have hix : IX (i : Int) (ln X) := ⟨by omega, by rw [ln_len]; omega⟩
 unfold R14_Parse_L0 readL
 simp only
 generalize ele X (i : Int) = s at hs
 obtain ⟨k, a, e, la, lp, lk⟩ := spl_word (c := 32) (s := s)
 rw [br_T (by rw [ln_len]; omega), ck_yes hix, rsplit_s _ (by omega), bd_ret, e]
 have hln : ln (k :: a) = (a.length : Int) + 1 := by rw [ln_len]; simp
 have c0 : IX 0 (ln (k :: a)) := ⟨by decide, by omega⟩
 rw [ck_yes c0, ck_imp (fun _ => c0), show ele (k :: a) 0 = k from rfl]
 simp only
 unfold readW
 by_cases k12 : k = aW ∨ k = oW
 ·have e12 : ((k == [97, 114, 114, 97, 121]) || (k == [111, 117, 116])) = true := by
   rw [Bool.or_eq_true]; exact k12.imp beq_iff_eq.2 beq_iff_eq.2
  rw [e12, br_true, ck_imp (fun _ => c0), ck_imp (fun _ => ⟨by rw [ln_len, ln_len]; omega, by rw [ln_len, ln_len]; omega⟩)]
  by_cases hk : a.length = 1
  case neg =>
   rw [show (ln (k :: a) != 2) = true by rw [bne_iff_ne]; omega, Bool.true_or, br_true, rdA_no hk, rdT_no hk, ite_self]
   rcases k12 with k1 | k2
   ·rw [if_pos k1]; rfl
   ·rw [if_pos k2, ite_self]; rfl
  match a, hk, lp with
  | [x], _, lp =>
   have hx := lp x (by simp)
   obtain ⟨v, b, e1, g1⟩ := (rnumber_s (s := x) (most := 18) (by omega)).val
   rw [show (ln [k, x] != 2) = false from rfl, Bool.false_or]
   have c1 : IX 1 (ln [k, x]) := ⟨by decide, by simp [ln]⟩
   have c0' : IX 0 (ln [k, x]) := ⟨by decide, by simp [ln]⟩
   by_cases k1 : k = aW
   ·rw [if_pos k1, show (k == [97, 114, 114, 97, 121]) = true from beq_iff_eq.2 k1, Bool.true_and]
    by_cases hz : l.body = [] ∧ l.outs = []
    ·have hz0 : ¬ (ln l.body + ln l.outs > 0) := by have := beq_iff_eq.1 (nil_sum.2 hz); omega
     rw [decide_eq_false hz0, br_false, ck_yes c1, show ele [k, x] 1 = x from rfl, e1, bd_ret, if_pos hz]
     unfold rdA
     simp only
     cases hn : numT 18 x with
     | none => rw [hn] at g1; rw [show b = false from g1]; rfl
     | some n =>
      rw [hn] at g1; obtain ⟨rfl, rfl⟩ := g1
      rw [Bool.not_true, br_false, ck_yes c0', br_true, ck_yes (al_snoc (by omega) (by decide)), ck_yes hir]
      rfl
    ·have hz0 : ln l.body + ln l.outs > 0 := by
      have h0 : ¬ (ln l.body + ln l.outs = 0) := fun h => hz (nil_sum.1 (beq_iff_eq.2 h))
      rw [ln_len, ln_len] at h0 ⊢; omega
     rw [decide_eq_true hz0, br_true, if_neg hz]; rfl
   ·have k2 : k = oW := k12.resolve_left k1
    rw [if_neg k1, if_pos k2, show (k == [97, 114, 114, 97, 121]) = false from beq_F k1, Bool.false_and, br_false, ck_yes c1, show ele [k, x] 1 = x from rfl, e1, bd_ret]
    unfold rdT
    simp only
    cases hn : numT 18 x with
    | none => rw [hn] at g1; rw [show b = false from g1]; rfl
    | some n =>
     rw [hn] at g1; obtain ⟨rfl, rfl⟩ := g1
     rw [Bool.not_true, br_false, ck_yes c0', br_false, ck_yes (al_snoc (by omega) (by decide)), ck_yes hir]
     rfl
 ·have k1 : ¬ k = aW := fun h => k12 (.inl h)
  have k2 : ¬ k = oW := fun h => k12 (.inr h)
  rw [if_neg k1, if_neg k2, show (k == [97, 114, 114, 97, 121]) = false from beq_F k1, show (k == [111, 117, 116]) = false from beq_F k2, Bool.or_self, br_false]
  obtain ⟨v, b, e1, g1⟩ := (rstmt_s (k := k) (a := a) (by omega) (fun p hp => by have := lp p hp; omega)).val
  rw [readS_k] at g1
  rw [e1, bd_ret]
  by_cases ho : l.outs = []
  ·rw [if_pos ho, show (decide (ln l.outs > 0)) = false by rw [ho]; rfl, Bool.or_false]
   cases hn : readK k a with
   | none => rw [hn] at g1; rw [show b = false from g1]; rfl
   | some n =>
    rw [hn] at g1; obtain ⟨rfl, rfl⟩ := g1
    rw [Bool.not_true, br_false, ck_yes (al_snoc (by omega) (by decide)), ck_yes hir]
    rfl
  ·rw [if_neg ho, show (decide (ln l.outs > 0)) = true from decide_eq_true (by rw [ln_len]; have := List.length_pos_iff.2 ho; omega), Bool.or_true, br_true]
   rfl
theorem tround {X V : List (List UInt8)} {l : Lp} {i : Nat} (hV : sub X 0 (ln X - 1) = V) (hi : (i : Int) < ln V) (hX : V.length ≤ 2000000) (hs : (ele V (i : Int)).length ≤ 2000000) (z : Sz i l) :
  text_Parse_L0 X (l.outs, l.body, l.logs, (i : Int)) = some (stepOf (readL l (ele V (i : Int))) (fun r => (r.outs, r.body, r.logs, ((i + 1 : Nat) : Int))) (i : Int)) := by
 have h1 := z.lo; have h2 := z.bo; have h3 := z.ou
 have hi' := hi
 rw [ln_len] at hi'
 have hir : IR ((i : Int) + 1) := ⟨by omega, by omega⟩
 have hix : IX (i : Int) (ln V) := ⟨by omega, hi⟩
 obtain ⟨b, r, e, h⟩ := tline_s (l := l) (s := ele V (i : Int)) (by omega) (by omega) (by omega) hs
 unfold text_Parse_L0
 simp only
 rw [hV, br_T hi, ck_yes hix, e, bd_ret]
 cases hr : readL l (ele V (i : Int)) with
 | none => rw [hr] at h; rw [show b = false from h]; rfl
 | some l' =>
  rw [hr] at h; obtain ⟨rfl, rfl⟩ := h
  rw [Bool.not_true, br_false, ck_yes hir]
  rfl
noncomputable def rdAll : Lp → Nat → List (List UInt8) → Option Lp × Nat
 | l, i, [] => (some l, i)
 | l, i, s :: r => match readL l s with
  | some l' => rdAll l' (i + 1) r
  | none => (none, i)
def outOf {γ : Type} (o : Option Lp × Nat) (f : Lp → Nat → γ) : Out γ (Lp × Flt) := match o.1 with
 | some l => .go (f l o.2)
 | none => .ret (⟨[], [], []⟩, ⟨2, (o.2 : Int)⟩)
theorem rdAll_none {l : Lp} {i : Nat} {s : List UInt8} {r : List (List UInt8)} (h : readL l s = none) : rdAll l i (s :: r) = (none, i) := by rw [rdAll, h]
theorem rdAll_some {l l' : Lp} {i : Nat} {s : List UInt8} {r : List (List UInt8)} (h : readL l s = some l') : rdAll l i (s :: r) = rdAll l' (i + 1) r := by rw [rdAll, h]
theorem rdAll_sz {l l' : Lp} {i j : Nat} {A : List (List UInt8)} (h : rdAll l i A = (some l', j)) (hz : Sz i l) : Sz j l' ∧ j = i + A.length := by
 induction A generalizing l i with
 | nil => rw [rdAll] at h; injection h with h1 h2; injection h1 with h1; subst h1; subst h2; exact ⟨hz, rfl⟩
 | cons s r ih =>
  cases hr : readL l s with
  | none => rw [rdAll_none hr] at h; cases h
  | some m =>
   rw [rdAll_some hr] at h
   have := ih h (readL_sz hz hr)
   exact ⟨this.1, by simp only [List.length_cons]; omega⟩
theorem lines_lp {γ : Type} {F : γ → Option (Stp γ (Lp × Flt))} {f : Lp → Nat → γ} (V : List (List UInt8)) (step : ∀ (i : Nat) l, i < V.length → Sz i l → F (f l i) = some (stepOf (readL l (ele V (i : Int))) (fun r => f r (i + 1)) (i : Int))) (hend : ∀ l, F (f l V.length) = some (.brk (f l V.length))) :
  ∀ (r : List (List UInt8)) (i : Nat) (l : Lp), V.drop i = r → i + r.length = V.length → Sz i l → lp F (f l i) = some (outOf (rdAll l i r) f) := by
 intro r
 induction r with
 | nil =>
  intro i l h1 h2 hz
  obtain rfl : i = V.length := by simpa using h2
  exact lp_brk (hend l)
 | cons s r ih =>
  intro i l h1 h2 hz
  simp only [List.length_cons] at h2
  have hlt : i < V.length := by omega
  have hd := drop_cons hlt
  rw [h1] at hd
  injection hd with hd1 hd2
  have st := step i l hlt hz
  rw [← hd1] at st
  cases hr : readL l s with
  | none => rw [hr] at st; rw [rdAll_none hr]; exact lp_ret st
  | some m => rw [hr] at st; rw [rdAll_some hr]; exact lp_step st (ih (i + 1) m hd2.symm (by omega) (readL_sz hz hr))
open Classical in
noncomputable def endT (o : Option Lp × Nat) (last : List UInt8) : Lp × Flt := match o.1 with
 | some l => if last = [] ∧ LoopOk l then (l, ⟨0, 0⟩) else (⟨[], [], []⟩, ⟨2, (o.2 : Int)⟩)
 | none => (⟨[], [], []⟩, ⟨2, (o.2 : Int)⟩)
noncomputable def parseT (s : List UInt8) : Lp × Flt := endT (rdAll ⟨[], [], []⟩ 0 (spl 10 s).dropLast) (ele (spl 10 s) (ln (spl 10 s) - 1))
theorem end_s {X : List (List UInt8)} {l : Lp} {n : Nat} {m : Option Bool} (hX : ln X - 1 = (n : Int)) (hn : X.length ≤ 4000000) (hm : m = some (tb (LoopOk l))) :
  (ck (IX (ln X - 1) (ln X)) <| bdG (!((ele X ((ln X) - 1)) != [])) m fun x22 => br (((ele X ((ln X) - 1)) != []) || (!x22)) (some ((Lp.mk [] [] []), (Flt.mk 2 ((ln X) - 1)))) (some (l, (Flt.mk 0 0)))) = some (endT (some l, n) (ele X (ln X - 1))) := by
 rw [ck_yes ⟨by omega, by omega⟩, hX, hm]
 unfold endT
 simp only
 by_cases hl : ele X (n : Int) = []
 ·have : (ele X (n : Int) != []) = false := by rw [hl]; rfl
  rw [this, Bool.not_false, bdG_t, bd_ret, Bool.false_or]
  by_cases ho : LoopOk l
  ·rw [tb_t ho, if_pos ⟨hl, ho⟩]; rfl
  ·rw [tb_f ho, if_neg (fun h => ho h.2)]; rfl
 ·have : (ele X (n : Int) != []) = true := by rw [bne_iff_ne]; exact hl
  rw [this, Bool.not_true, bdG_f, Bool.true_or, br_true, if_neg (fun h => hl h.1)]
theorem lines_of {s : List UInt8} (hs : s.length ≤ 1048576) : ∃ n : Nat, ln (spl 10 s) - 1 = (n : Int) ∧ (spl 10 s).dropLast.length = n ∧ n ≤ 1048576 ∧ (spl 10 s).length = n + 1 ∧ sub (spl 10 s) 0 (ln (spl 10 s) - 1) = (spl 10 s).dropLast ∧
  (∀ i : Nat, i < n → ele (spl 10 s).dropLast (i : Int) = ele (spl 10 s) (i : Int) ∧ (ele (spl 10 s) (i : Int)).length ≤ 1048576) := by
 have hl := spl_len (c := 10) s
 have h0 := List.length_pos_iff.2 (spl_ne (c := 10) s)
 refine ⟨(spl 10 s).length - 1, by rw [ln_len]; omega, by simp, by omega, by omega, ?_, fun i hi => ⟨?_, ?_⟩⟩
 ·unfold Rd.sub
  rw [ln_len, List.dropLast_eq_take]
  congr 1
  omega
 ·rw [ele_nat, ele_nat, List.getD_eq_getElem?_getD, List.getD_eq_getElem?_getD, List.getElem?_dropLast, if_pos hi]
 ·exact Nat.le_trans (spl_mem (ele_mem' (l := spl 10 s) (by omega))).2 hs
theorem tparse_s {s : List UInt8} (hs : s.length ≤ 1048576) : text_Parse_m s = some (parseT s) := by
 obtain ⟨n, e1, e2, e3, e4, e5, e6⟩ := lines_of hs
 unfold text_Parse_m parseT
 rw [Split_s _ (by omega), bd_ret]
 generalize hX : spl 10 s = X at *
 generalize hV : X.dropLast = V at *
 rw [ck_yes ⟨by omega, by omega⟩, ck_SX (by omega) (by omega) (by omega)]
 have hll := lines_lp (F := text_Parse_L0 X) (f := fun l i => (l.outs, l.body, l.logs, (i : Int))) V (fun i l hi hz => by
   have := e6 i (by omega)
   exact tround e5 (by rw [ln_len]; omega) (by omega) (by rw [this.1]; omega) hz) (fun l => by
   unfold text_Parse_L0; simp only; rw [e5, br_F (by rw [ln_len]; omega)]) V 0 ⟨[], [], []⟩ rfl (by omega) sz_zero
 rw [show lp (text_Parse_L0 X) ([], [], [], (0 : Int)) = _ from hll, bd_ret]
 cases hr : rdAll ⟨[], [], []⟩ 0 V with
 | mk o j =>
  cases o with
  | none => simp only [outOf, Out.on_ret]; rfl
  | some l =>
   obtain ⟨hz, hj⟩ := rdAll_sz hr sz_zero
   obtain rfl : j = n := by omega
   simp only [outOf, Out.on_go]
   exact end_s e1 (by omega) (May_s l (hz.fine (by omega)))
theorem rparse_s {s : List UInt8} (hs : s.length ≤ 1048576) : R14_Parse_m s = some (parseT s) := by
 obtain ⟨n, e1, e2, e3, e4, e5, e6⟩ := lines_of hs
 unfold R14_Parse_m parseT
 rw [rsplit_s _ (by omega), bd_ret]
 generalize hX : spl 10 s = X at *
 generalize hV : X.dropLast = V at *
 rw [ck_yes ⟨by omega, by omega⟩]
 have hll := lines_lp (F := R14_Parse_L0 X) (f := fun l i => (l.logs, l.outs, l.body, (i : Int))) V (fun i l hi hz => by
   have := e6 i (by omega)
   rw [this.1]
   exact rround (by omega) (by omega) (by omega) hz) (fun l => by
   unfold R14_Parse_L0; simp only; rw [br_F (by omega)]) V 0 ⟨[], [], []⟩ rfl (by omega) sz_zero
 rw [show lp (R14_Parse_L0 X) ([], [], [], (0 : Int)) = _ from hll, bd_ret]
 cases hr : rdAll ⟨[], [], []⟩ 0 V with
 | mk o j =>
  cases o with
  | none => simp only [outOf, Out.on_ret]; rfl
  | some l =>
   obtain ⟨hz, hj⟩ := rdAll_sz hr sz_zero
   obtain rfl : j = n := by omega
   simp only [outOf, Out.on_go]
   exact end_s e1 (by omega) (ref_May_s l (hz.fine (by omega)))
theorem parse_fine {s : List UInt8} (hs : s.length ≤ 1048576) : Sz 1048576 (parseT s).1 := by
 obtain ⟨n, e1, e2, e3, e4, e5, e6⟩ := lines_of hs
 unfold parseT
 have big : Sz 1048576 ⟨[], [], []⟩ := ⟨by simp, by simp, by simp, by simp, by simp, by simp⟩
 cases hr : rdAll ⟨[], [], []⟩ 0 (spl 10 s).dropLast with
 | mk o j =>
  cases o with
  | none => exact big
  | some l =>
   obtain ⟨hz, hj⟩ := rdAll_sz hr sz_zero
   unfold endT
   simp only
   split
   ·obtain ⟨a, b, c, d, e, f⟩ := hz
    exact ⟨by simp only; omega, by simp only; omega, by simp only; omega, d, e, f⟩
   ·exact big
theorem Same_s {l : Lp} (z : Sz 1048576 l) : R14_Same_m l l = some true := by
 have h1 := z.lo; have h2 := z.bo; have h3 := z.ou
 unfold R14_Same_m
 rw [show (((ln l.logs != ln l.logs) || (ln l.body != ln l.body)) || (ln l.outs != ln l.outs)) = false by simp, br_false]
 have A := lp_det (f := R14_Same_L0 l l) (fun i => (i : Int)) l.logs.length (fun i hi => by
  have hx : IX (i : Int) (ln l.logs) := ⟨by omega, by rw [ln_len]; omega⟩
  unfold R14_Same_L0
  rw [br_T hx.2, ck_yes hx, ck_yes hx, show (ele l.logs (i : Int) != ele l.logs (i : Int)) = false by simp, br_false, ck_IR (by omega) (by omega)]; rfl) (by
  unfold R14_Same_L0; rw [br_F (by rw [ln_len]; omega)])
 have B := lp_det (f := R14_Same_L2 l l) (fun i => (i : Int)) l.body.length (fun i hi => by
  have hx : IX (i : Int) (ln l.body) := ⟨by omega, by rw [ln_len]; omega⟩
  unfold R14_Same_L2
  rw [br_T hx.2, ck_yes hx, ck_yes hx, beq_self_eq_true, Bool.not_true, br_false, ck_IR (by omega) (by omega)]; rfl) (by
  unfold R14_Same_L2; rw [br_F (by rw [ln_len]; omega)])
 have C := lp_det (f := R14_Same_L4 l l) (fun i => (i : Int)) l.outs.length (fun i hi => by
  have hx : IX (i : Int) (ln l.outs) := ⟨by omega, by rw [ln_len]; omega⟩
  unfold R14_Same_L4
  rw [br_T hx.2, ck_yes hx, ck_yes hx, show (ele l.outs (i : Int) != ele l.outs (i : Int)) = false by simp, br_false, ck_IR (by omega) (by omega)]; rfl) (by
  unfold R14_Same_L4; rw [br_F (by rw [ln_len]; omega)])
 rw [show lp (R14_Same_L0 l l) 0 = _ from A, bd_ret, Out.on_go, show lp (R14_Same_L2 l l) 0 = _ from B, bd_ret, Out.on_go, show lp (R14_Same_L4 l l) 0 = _ from C, bd_ret, Out.on_go]
end Go.Rd
end
section
namespace Go.Rd
noncomputable def roundelaylaw_TextParses_m (s : List UInt8) : Option (Bool) :=
 bd (text_Parse_m s) fun x1 =>
 bd (R14_Parse_m s) fun x7 =>
 bdG ([x1.2.code, x1.2.at'] == [x7.2.code, x7.2.at']) (R14_Same_m x1.1 x7.1) fun x13 =>
 some (([x1.2.code, x1.2.at'] == [x7.2.code, x7.2.at']) && x13)
theorem TextParses_true (s : List UInt8) (h : s.length ≤ 1048576) : roundelaylaw_TextParses_m s = some true := by
 unfold roundelaylaw_TextParses_m
 rw [tparse_s h, bd_ret, rparse_s h, bd_ret, beq_self_eq_true, bdG_t, Same_s (parse_fine h), bd_ret]
 rfl
end Go.Rd
end
section
namespace Go.Rd
section
variable {P : Program} {n : Nat} {σ : Env} {M : Nat → Prop} {w0 : World} {H : List Res} {C : World → Prop} {rest l : List Oper} {ops : Array Oper} {Q : Exit → Act → World → Prop} {d id : Nat} {v : Value} {x : Operand} {T U : TypeId} {pos : String} {after : Array Edge} {c : Op} {y : Code}
theorem wq (h : Nat.blt d n = true) (hq : QV P ⟨some d, c, T, pos, after, none⟩ σ (Own M w0 H) v) (kk : WK n (wpList P ops Q rest) ((d, (true, v)) :: σ) (Own M w0 H)) : WK n (wpList P ops Q (⟨some d, c, T, pos, after, none⟩ :: rest)) σ (Own M w0 H) := WL.q rfl rfl h hq kk
theorem wm (h : (Nat.blt d n, σ.ev x) = (true, some (true, v))) (kk : WK n (wpList P ops Q rest) ((d, (true, v)) :: σ) (Own M w0 H)) : WK n (wpList P ops Q (⟨some d, .move x, T, pos, after, none⟩ :: rest)) σ (Own M w0 H) :=
 wq (congrArg Prod.fst h) (QV.move (congrArg Prod.snd h) rfl) kk
theorem wa (h : (Nat.blt d n, σ.ev x) = (true, some (true, v))) (kk : WK n (wpList P ops Q rest) ((d, (true, v)) :: σ) (Own M w0 H)) : WK n (wpList P ops Q (⟨some d, .assign x, T, pos, after, none⟩ :: rest)) σ (Own M w0 H) :=
 wq (congrArg Prod.fst h) (QV.assign (congrArg Prod.snd h) rfl) kk
theorem wf {f off : Nat} {q : Addr} (hT : FieldT P U f off) (h : (Nat.blt d n, σ.ev x) = (true, some (true, .pointer (some q)))) (kk : WK n (wpList P ops Q rest) ((d, (true, .pointer (some (q.add off)))) :: σ) (Own M w0 H)) : WK n (wpList P ops Q (⟨some d, .fieldAddr U x f, T, pos, after, none⟩ :: rest)) σ (Own M w0 H) :=
 wq (congrArg Prod.fst h) (QV.fieldAddr hT (congrArg Prod.snd h) rfl) kk
theorem wl {q : Addr} (hT : Plain P U) (h : (Nat.blt d n, σ.ev x) = (true, some (true, .pointer (some q)))) (hc : ∀ w, Own M w0 H w → w.cell? q = some v) (kk : WK n (wpList P ops Q rest) ((d, (true, v)) :: σ) (Own M w0 H)) : WK n (wpList P ops Q (⟨some d, .load U x, T, pos, after, none⟩ :: rest)) σ (Own M w0 H) :=
 wq (congrArg Prod.fst h) (QV.load hT (congrArg Prod.snd h) rfl hc) kk
theorem wz (i : Nat) {m fuel : Nat} {S : World → Prop} [hQ : POk Q] (hi : ops[i]? = some ⟨some d, c, T, pos, after, none⟩) (hn : Nat.blt d n = true) (hq : QV P ⟨some d, c, T, pos, after, none⟩ σ S v)
  (kk : WD P n ops Q S fuel (upto (i + 1) m) ((d, (true, v)) :: σ) (Own M w0 H)) (ht : takeOk ops i m = true := by kernel_rfl) : WD P n ops Q S (fuel + 1) (upto i m) σ (Own M w0 H) := WD.q i hi ht rfl rfl hn hq kk
theorem zm (i : Nat) {m fuel : Nat} {S : World → Prop} [hQ : POk Q] (hi : ops[i]? = some ⟨some d, .move x, T, pos, after, none⟩) (h : (Nat.blt d n, σ.ev x) = (true, some (true, v)))
  (kk : WD P n ops Q S fuel (upto (i + 1) m) ((d, (true, v)) :: σ) (Own M w0 H)) (ht : takeOk ops i m = true := by kernel_rfl) : WD P n ops Q S (fuel + 1) (upto i m) σ (Own M w0 H) := WD.q i hi ht rfl rfl (congrArg Prod.fst h) (QV.move (congrArg Prod.snd h) rfl) kk
theorem zf (i : Nat) {m fuel f off : Nat} {q : Addr} {S : World → Prop} [hQ : POk Q] (hT : FieldT P U f off) (hi : ops[i]? = some ⟨some d, .fieldAddr U x f, T, pos, after, none⟩) (h : (Nat.blt d n, σ.ev x) = (true, some (true, .pointer (some q))))
  (kk : WD P n ops Q S fuel (upto (i + 1) m) ((d, (true, .pointer (some (q.add off)))) :: σ) (Own M w0 H)) (ht : takeOk ops i m = true := by kernel_rfl) : WD P n ops Q S (fuel + 1) (upto i m) σ (Own M w0 H) := WD.q i hi ht rfl rfl (congrArg Prod.fst h) (QV.fieldAddr hT (congrArg Prod.snd h) rfl) kk
theorem zl (i : Nat) {m fuel : Nat} {q : Addr} {S : World → Prop} [hQ : POk Q] (hT : Plain P U) (hi : ops[i]? = some ⟨some d, .load U x, T, pos, after, none⟩) (h : (Nat.blt d n, σ.ev x) = (true, some (true, .pointer (some q)))) (hc : ∀ w, S w → w.cell? q = some v)
  (kk : WD P n ops Q S fuel (upto (i + 1) m) ((d, (true, v)) :: σ) (Own M w0 H)) (ht : takeOk ops i m = true := by kernel_rfl) : WD P n ops Q S (fuel + 1) (upto i m) σ (Own M w0 H) := WD.q i hi ht rfl rfl (congrArg Prod.fst h) (QV.load hT (congrArg Prod.snd h) rfl hc) kk
theorem wc {α : Type} {cc : Operand} {xx : Code} {b : Bool} {u' v' r : α} (hb : σ.ev cc = some (true, .bool b)) (hm : br b u' v' = r) (ht : b = true → u' = r → WK n (xx.wp P Q) σ C) (hf : b = false → v' = r → WK n (y.wp P Q) σ C) : WK n ((Code.cond cc xx y).wp P Q) σ C :=
 WC.cond hb (fun h => ht h (br_t h hm)) (fun h => hf h (br_f h hm))
theorem gn {j d' : Nat} {b : Bool} (h : (Nat.blt d n, (ops[j]?).bind (·.dst), σ.look d') = (true, some d', some (true, .bool b))) (hq : (!b) = true → QV P ⟨some d, c, T, pos, after, some (j, false)⟩ σ (Own M w0 H) v) (kk : WK n (wpList P ops Q rest) ((d, (!b, v)) :: σ) (Own M w0 H)) : WK n (wpList P ops Q (⟨some d, c, T, pos, after, some (j, false)⟩ :: rest)) σ (Own M w0 H) :=
 WL.g rfl (congrArg (·.1) h) (GuardIs.neg (congrArg (·.2.1) h) (congrArg (·.2.2) h)) hq kk
theorem gp {j d' : Nat} {b : Bool} (h : (Nat.blt d n, (ops[j]?).bind (·.dst), σ.look d') = (true, some d', some (true, .bool b))) (hq : b = true → QV P ⟨some d, c, T, pos, after, some (j, true)⟩ σ (Own M w0 H) v) (kk : WK n (wpList P ops Q rest) ((d, (b, v)) :: σ) (Own M w0 H)) : WK n (wpList P ops Q (⟨some d, c, T, pos, after, some (j, true)⟩ :: rest)) σ (Own M w0 H) :=
 WL.g rfl (congrArg (·.1) h) (GuardIs.pos (congrArg (·.2.1) h) (congrArg (·.2.2) h)) hq kk
theorem gnC {j d' : Nat} {b gg : Bool} (h : (Nat.blt d n, (ops[j]?).bind (·.dst), σ.look d') = (true, some d', some (gg, .bool b))) (hq : (gg && !b) = true → QV P ⟨some d, c, T, pos, after, some (j, false)⟩ σ (Own M w0 H) v) (kk : WK n (wpList P ops Q rest) ((d, (gg && !b, v)) :: σ) (Own M w0 H)) : WK n (wpList P ops Q (⟨some d, c, T, pos, after, some (j, false)⟩ :: rest)) σ (Own M w0 H) :=
 WL.g rfl (congrArg (·.1) h) (GuardIs.negC (congrArg (·.2.1) h) (congrArg (·.2.2) h)) hq kk
theorem gpC {j d' : Nat} {b gg : Bool} (h : (Nat.blt d n, (ops[j]?).bind (·.dst), σ.look d') = (true, some d', some (gg, .bool b))) (hq : (gg && b) = true → QV P ⟨some d, c, T, pos, after, some (j, true)⟩ σ (Own M w0 H) v) (kk : WK n (wpList P ops Q rest) ((d, (gg && b, v)) :: σ) (Own M w0 H)) : WK n (wpList P ops Q (⟨some d, c, T, pos, after, some (j, true)⟩ :: rest)) σ (Own M w0 H) :=
 WL.g rfl (congrArg (·.1) h) (GuardIs.posC (congrArg (·.2.1) h) (congrArg (·.2.2) h)) hq kk
theorem zn (i : Nat) {j d' m fuel : Nat} {b : Bool} {S : World → Prop} [hQ : POk Q] (hi : ops[i]? = some ⟨some d, c, T, pos, after, some (j, false)⟩) (h : (Nat.blt d n, (ops[j]?).bind (·.dst), σ.look d') = (true, some d', some (true, .bool b))) (hq : (!b) = true → QV P ⟨some d, c, T, pos, after, some (j, false)⟩ σ S v)
  (kk : WD P n ops Q S fuel (upto (i + 1) m) ((d, (!b, v)) :: σ) (Own M w0 H)) (ht : takeOk ops i m = true := by kernel_rfl) : WD P n ops Q S (fuel + 1) (upto i m) σ (Own M w0 H) := WD.g i hi ht rfl (congrArg (·.1) h) (GuardIs.neg (congrArg (·.2.1) h) (congrArg (·.2.2) h)) hq kk
theorem zp (i : Nat) {j d' m fuel : Nat} {b : Bool} {S : World → Prop} [hQ : POk Q] (hi : ops[i]? = some ⟨some d, c, T, pos, after, some (j, true)⟩) (h : (Nat.blt d n, (ops[j]?).bind (·.dst), σ.look d') = (true, some d', some (true, .bool b))) (hq : b = true → QV P ⟨some d, c, T, pos, after, some (j, true)⟩ σ S v)
  (kk : WD P n ops Q S fuel (upto (i + 1) m) ((d, (b, v)) :: σ) (Own M w0 H)) (ht : takeOk ops i m = true := by kernel_rfl) : WD P n ops Q S (fuel + 1) (upto i m) σ (Own M w0 H) := WD.g i hi ht rfl (congrArg (·.1) h) (GuardIs.pos (congrArg (·.2.1) h) (congrArg (·.2.2) h)) hq kk
theorem ec {xs : List Operand} {vs : List Value} (h : σ.ev x = some (true, v)) (h3 : EvAll σ xs vs) : EvAll σ (x :: xs) (v :: vs) := EvAll.cons h rfl h3
theorem eN : EvAll σ [] [] := EvAll.nil
theorem kg {α : Type} {a : α} {w : World} (h : Own noM w0 H w) : a = a ∧ Grow w0 w := ⟨rfl, Own.kgrow (fun _ x => x) h⟩
theorem pk (js : List Nat) (hn : js.Nodup := by decide) (w : World) (h : Own M w0 H w) : Own M w0 (pickL js H) w := h.pick js hn
theorem tr {K : Act → World → Prop} (h : WK n (Q .ret) σ C) : WK n (Exit.then K Q .ret) σ C := h
theorem te {K : Act → World → Prop} {id : Nat} (h : WK n (Q (.exit id)) σ C) : WK n (Exit.then K Q (.exit id)) σ C := h
theorem kr {id : Nat} (h : WK n (Q .ret) σ C) : WK n (Exit.inBlock id Q .ret) σ C := h
theorem sk (k : WK n (Q .normal) σ C) : WK n (Code.skip.wp P Q) σ C := WC.skip k
theorem sr (h : WK n (wpList P l.toArray (Exit.then (y.wp P Q) Q) l) σ C) : WK n (((Code.region id l.toArray false).seq y).wp P Q) σ C := WC.seq (WC.region h)
theorem nt (h : WK n (y.wp P Q) σ C) : WK n (wpList P ops (Exit.then (y.wp P Q) Q) []) σ C := WL.nil (WQ.then h)
theorem nr (h : WK n (wpList P l.toArray Q l) σ C) : WK n (wpList P ops (Exit.then ((Code.region id l.toArray false).wp P Q) Q) []) σ C := nt (WC.region h)
theorem ns {z : Code} (h : WK n (wpList P l.toArray (Exit.then (z.wp P Q) Q) l) σ C) : WK n (wpList P ops (Exit.then (((Code.region id l.toArray false).seq z).wp P Q) Q) []) σ C := nt (sr h)
end
universe u
theorem Z {α : Sort u} {a : α} : a = a := rfl
theorem fT (sz : Nat) {P : Program} {T : TypeId} {f off : Nat} {fs : Array Field} {fd : Field} (h : P.underlying T = some (.struct fs)) (h1 : fs[f]? = some fd := by rfl) (h2 : fd.offset = off := by rfl) (h3 : (P.info? fd.type).map (·.size) = some (sz + 1) := by kernel_rfl) : FieldT P T f off := ⟨fs, fd, sz, h, h1, h2, h3⟩
theorem eT {P : Program} {f : FuncId} {fn : Func} (h : P.funcs[f]? = some fn) (h1 : fn.body.isNone = false := by kernel_rfl) (h2 : (fn.name == "runtime.NumGoroutine") = false := by kernel_rfl) : Enters P f := ⟨fn, h, h1, h2⟩
theorem nl {a b : Nat} (h : Nat.ble a b = true) : a ≤ b := Nat.le_of_ble_eq_true h
theorem oc {v : Value} {r : List Value} (h : v.oneCell' = true) (k : ∀ u ∈ r, u.oneCell' = true) : ∀ u ∈ v :: r, u.oneCell' = true := one_cons h k
abbrev u_ (i : Nat) (v : Value) : Nat × Bool × Value := (i, (true, v))
abbrev i_ (n : Int) : Value := .int .i64 n
section
variable {α : Type} {x : Option α} {r : α} {c1 c2 c3 c4 c5 c6 c7 c8 : Prop} [Decidable c1] [Decidable c2] [Decidable c3] [Decidable c4] [Decidable c5] [Decidable c6] [Decidable c7] [Decidable c8]
theorem cs (h : ck c1 x = some r) : c1 ∧ x = some r := ck_some h
theorem cs2 (h : ck c1 (ck c2 x) = some r) : c1 ∧ c2 ∧ x = some r := ⟨(cs h).1, cs (cs h).2⟩
theorem cs3 (h : ck c1 (ck c2 (ck c3 x)) = some r) : c1 ∧ c2 ∧ c3 ∧ x = some r := ⟨(cs h).1, cs2 (cs h).2⟩
theorem cs4 (h : ck c1 (ck c2 (ck c3 (ck c4 x))) = some r) : c1 ∧ c2 ∧ c3 ∧ c4 ∧ x = some r := ⟨(cs h).1, cs3 (cs h).2⟩
end
end Go.Rd
end
section
namespace Go.Rd
open Go.RowKit
section
variable {P : Program} {n : Nat} {σ : Env} {M : Nat → Prop} {w0 : World} {H : List Res} {d : Option Tmp} {T U E : TypeId} {pos : String} {after : Array Edge} {gd : Option (Nat × Bool)} {x y : Operand} {g g' : Bool} {v yv : Value}
 {K : Act → World → Prop} {Q : Exit → Act → World → Prop}
end
end Go.Rd
end
section
namespace Go.Rd
open Go.RowKit
section
variable {P : Program} {n : Nat} {ops : Array Oper} {Q : Exit → Act → World → Prop} {σ : Env} {C S : World → Prop} {T : Nat → Bool}
def FreeT (T : Nat → Bool) (md : Region.Mode) (ops : Array Oper) (listed : Array Bool) (oj : Oper) : Prop := ∀ k, listed.getD k false = true → T k = true ∨ ahead md ops 5 oj k
def wpAnyT (T : Nat → Bool) (P : Program) (md : Region.Mode) (ops : Array Oper) (Q : Exit → Act → World → Prop) : (World → Prop) → Nat → Array Bool → (World → Prop) → Act → Prop
 | S, 0, listed, C, a => Region.ready md ops listed = [] ∧ ∀ w, C w → Q .normal a w
 | S, fuel + 1, listed, C, a => DC md ops listed →
  ((Region.ready md ops listed = [] → ∀ w, C w → Q .normal a w) ∧
  ∀ i ∈ Region.ready md ops listed, ∀ w, C w → wpOp P ops Q i (fun a' w' => ∃ C' S' : World → Prop, Closed C' ∧ (∀ x, C' x → S' x) ∧ ((∀ x, S' x → S x) ∨ ∃ oi, ops[i]? = some oi ∧ FreeT T md ops listed oi) ∧ C' w' ∧ wpAnyT T P md ops Q S' fuel (listed.setIfInBounds i true) C' a') a w) ∨
  (Tail md ops listed ∧ ∀ w, C w → wpAny P md ops Q (fuel + 1) listed a w)
def YT (T : Nat → Bool) (P : Program) (ops : Array Oper) (S : World → Prop) (i : Nat) (o : Oper) (v : Value) (a : Act) : Prop := (T i = true ∧ YG P ops (fun _ => True) o v a) ∨ YG P ops S o v a
theorem wpAnyT_first {md : Region.Mode} {i : Nat} {oi : Oper} {v : Value} (hi : ops[i]? = some oi) (hsel : ∀ (j : Nat) (o : Oper) cs b, ops[j]? = some o → o.op ≠ .select cs b)
  (hQ : ∀ c a w, Q (.panic c) (a.put oi.dst v) w → Q (.panic c) a w) :
  ∀ (fuel : Nat) (S : World → Prop) (listed : Array Bool) (C : World → Prop) (a : Act), Closed C → (∀ x, C x → S x) →
   (∀ j oj, ops[j]? = some oj → j ≠ i → listed.getD j true = false → (∀ e ∈ oj.after, Region.binds md e = true → e.on ≠ i) → oi.apart ops oj = true) →
   i ∈ Region.ready md ops listed → (YT T P ops S i oi v a) → (T i = true → YG P ops (fun _ => True) oi v a) →
   wpAnyT T P md ops Q S fuel (listed.setIfInBounds i true) C (a.put oi.dst v) → wpAnyT T P md ops Q S (fuel + 1) listed C a := by
 intro fuel
 induction fuel with
 | zero =>
  intro S listed C a hc hCS _ hr hy hyT H
  intro hD
  refine .inl ⟨fun h => (by rw [h] at hr; cases hr), fun j hj w hw => ?_⟩
  by_cases hji : j = i
  ·subst hji
   rcases hy with ⟨_, hy⟩ | hy
   ·exact hy.toOp hi hw (fun _ _ => trivial) hc fun w' hw' => ⟨C, S, hc, hCS, .inl fun _ h => h, hw', H⟩
   ·exact hy.toOp hi hw hCS hc fun w' hw' => ⟨C, S, hc, hCS, .inl fun _ h => h, hw', H⟩
  ·have := ready_mono hj hji
   rw [H.1] at this
   cases this
 | succ fuel ih =>
  intro S listed C a hc hCS hfree hr hy hyT H
  intro hD
  have H0 := H
  replace H := H (hD.set hr)
  refine .inl ⟨fun h => (by rw [h] at hr; cases hr), fun j hj w hw => ?_⟩
  by_cases hji : j = i
  ·subst hji
   rcases hy with ⟨_, hy⟩ | hy
   ·exact hy.toOp hi hw (fun _ _ => trivial) hc fun w' hw' => ⟨C, S, hc, hCS, .inl fun _ h => h, hw', H0⟩
   ·exact hy.toOp hi hw hCS hc fun w' hw' => ⟨C, S, hc, hCS, .inl fun _ h => h, hw', H0⟩
  ·have hilt : i < listed.size := by
    rcases Nat.lt_or_ge i listed.size with h' | h'
    ·exact h'
    ·have h0 := (mem_ready.1 hr).1
     simp [Array.getElem?_eq_none h'] at h0
   have hun : listed.getD i false = false := by
    have h0 := (mem_ready.1 hr).1
    simp [hilt] at h0 ⊢
    exact h0
   obtain ⟨hjun0, oj0, hoj0, hall0⟩ := mem_ready.1 hj
   have hno : ∀ oj : Oper, ops[j]? = some oj → ∀ m, ¬ ahead md ops m oj i := fun oj hoj m h => by
    rw [hoj0] at hoj
    cases hoj
    have := ahead_listed hD hall0 h
    rw [hun] at this
    cases this
   rcases H with H | ⟨⟨j0, o0, ho0, hr0, hall0'⟩, _⟩
   case inr =>
    have hj0 := ready_mono hj hji
    rw [hr0, List.mem_singleton] at hj0
    subst hj0
    exact absurd (hall0' i (by simp [hilt])) (hno o0 ho0 4)
   have h1 := H.2 j (ready_mono hj hji) w hw
   obtain ⟨hjun, oj, hoj, hall⟩ := mem_ready.1 hj
   have hnot : ∀ e ∈ oj.after, Region.binds md e = true → e.on ≠ i := fun e he hb heq => hno oj hoj 1 ⟨e, he, hb, .inl heq⟩
   have hfree' : ∀ k ok, ops[k]? = some ok → k ≠ i → (listed.setIfInBounds j true).getD k true = false →
     (∀ e ∈ ok.after, Region.binds md e = true → e.on ≠ i) → oi.apart ops ok = true := fun k ok hk hki hun hno => by
    refine hfree k ok hk hki ?_ hno
    by_cases hjk : j = k
    ·subst hjk; exact hjun
    ·rw [getD_set_ne true hjk] at hun; exact hun
   have hFree : ∀ {oj' : Oper}, ops[j]? = some oj' → FreeT T md ops (listed.setIfInBounds i true) oj' → T i = true ∧ FreeT T md ops listed oj' := fun {oj'} hoj' hf => by
    refine ⟨?_, fun k hk => hf k ?_⟩
    ·rcases hf i (by simp [hilt]) with h | h
     ·exact h
     ·exact absurd h (hno _ hoj' 5)
    ·by_cases hik : i = k
     ·subst hik; simp [hilt]
     ·rw [getD_set_ne false hik]; exact hk
   by_cases hTi : T i = true
   ·have h2 := wpOp_putG hoj (hfree j oj hoj hji hjun hnot) (fun cs b => hsel i oi cs b hi) (fun cs b => hsel j oj cs b hoj) hQ (hyT hTi) h1
    refine wpOp_mono (fun a' w' h3 => ?_) h2
    obtain ⟨hy', C', S', hc', hsub, hSS, hw', hrest⟩ := h3
    refine ⟨C', S', hc', hsub, ?_, hw', ih S' (listed.setIfInBounds j true) C' a' hc' hsub hfree' (ready_mono hr (Ne.symm hji)) (.inl ⟨hTi, hy'⟩) (fun _ => hy') ?_⟩
    ·rcases hSS with h | ⟨oj', hoj', hf⟩
     ·exact .inl h
     ·exact .inr ⟨oj', hoj', (hFree hoj' hf).2⟩
    ·rw [Array.setIfInBounds_comm _ _ hji]
     exact hrest
   ·have hyS : YG P ops S oi v a := by
     rcases hy with ⟨h, _⟩ | h
     ·exact absurd h hTi
     ·exact h
    have h2 := wpOp_putG hoj (hfree j oj hoj hji hjun hnot) (fun cs b => hsel i oi cs b hi) (fun cs b => hsel j oj cs b hoj) hQ hyS h1
    refine wpOp_mono (fun a' w' h3 => ?_) h2
    obtain ⟨hy', C', S', hc', hsub, hSS, hw', hrest⟩ := h3
    rcases hSS with hSS | ⟨oj', hoj', hf⟩
    case inr => exact absurd (hFree hoj' hf).1 hTi
    refine ⟨C', S', hc', hsub, .inl hSS, hw', ih S' (listed.setIfInBounds j true) C' a' hc' hsub hfree' (ready_mono hr (Ne.symm hji)) (.inr (hy'.mono hSS)) (fun h => absurd h hTi) ?_⟩
    rw [Array.setIfInBounds_comm _ _ hji]
    exact hrest
def WT (T : Nat → Bool) (P : Program) (n : Nat) (ops : Array Oper) (Q : Exit → Act → World → Prop) (S : World → Prop) (fuel : Nat) (listed : Array Bool) (σ : Env) (C : World → Prop) : Prop :=
 (∀ x, C x → S x) → ∀ a, Has n a σ → wpAnyT T P .any ops Q S fuel listed C a
theorem WT.take (i : Nat) {oi : Oper} {fuel : Nat} {listed listed' : Array Bool} {G : Bool} {v : Value} {d : Nat} (hi : ops[i]? = some oi)
  (hs : Region.noSelect ops = true) (hf : Region.free .any ops listed i = true) (hr : (Region.ready .any ops listed).contains i = true) (hl : listed.setIfInBounds i true = listed')
  (hQ : PanicOk Q) (hc : Closed C) (hd : oi.dst = some d) (hn : d < n) (hG : GuardIs ops σ oi.guard G) (hq : G = true → QV P oi σ S v) (hqT : T i = true → G = true → QV P oi σ (fun _ => True) v)
  (k : WT T P n ops Q S fuel listed' ((d, (G, v)) :: σ) C) : WT T P n ops Q S (fuel + 1) listed σ C := fun hCS a ha => by
 subst hl
 have hp := k hCS _ (ha.put hn G v)
 rw [← hd] at hp
 have hg := hG n a ha
 refine wpAnyT_first hi (Region.noSelect_spec hs) (fun c a w => hQ c a _ _ w) fuel S listed C a hc hCS (Region.free_spec hi hf) (by simpa using hr) (.inr ?_) (fun hT => ?_) hp
 ·cases G with
  | true => exact .inl ⟨hg, fun w hw => hq rfl n a ha w hw⟩
  | false => exact .inr ⟨hg, rfl⟩
 ·cases G with
  | true => exact .inl ⟨hg, fun w hw => hqT hT rfl n a ha w hw⟩
  | false => exact .inr ⟨hg, rfl⟩
def freeB (T : Nat → Bool) (ops : Array Oper) (oj : Oper) (listed : Array Bool) : Bool := (List.range listed.size).all fun k => !listed.getD k false || (T k || aheadB ops 5 oj k)
theorem freeB_spec {oj : Oper} {listed : Array Bool} (h : freeB T ops oj listed = true) : FreeT T .any ops listed oj := fun k hk => by
 have hlt : k < listed.size := by
  rcases Nat.lt_or_ge k listed.size with h' | h'
  ·exact h'
  ·simp [Array.getElem?_eq_none h'] at hk
 have := List.all_eq_true.1 h k (List.mem_range.2 hlt)
 rw [hk, Bool.not_true, Bool.false_or, Bool.or_eq_true] at this
 rcases this with h0 | this
 ·exact .inl h0
 ·exact .inr (aheadB_spec this)
theorem WT.free (i : Nat) {oi : Oper} {fuel : Nat} {listed listed' : Array Bool} {τ : Env} {C' : World → Prop} (hi : ops[i]? = some oi) (hr : Region.ready .any ops listed = [i]) (hl : listed.setIfInBounds i true = listed')
  (hg : oi.guard = none) (hf : freeB T ops oi listed = true) (hc : Closed C') (h : EV P n oi σ C (fun a' w' => Has n a' τ ∧ C' w') Q) (k : WT T P n ops Q C' fuel listed' τ C') : WT T P n ops Q S (fuel + 1) listed σ C := fun hCS a ha => by
 subst hl
 intro _
 refine .inl ⟨fun h0 => (by rw [hr] at h0; cases h0), fun j hj w hw => ?_⟩
 rw [hr, List.mem_singleton] at hj
 subst hj
 refine wpOp_mono (K := fun a' w' => Has n a' τ ∧ C' w') (fun a' w' hq => ⟨C', C', hc, fun _ h => h, .inr ⟨oi, hi, freeB_spec hf⟩, hq.2, k (fun _ h => h) a' hq.1⟩) ?_
 unfold Go.wpOp
 simp only [hi]
 rw [if_pos (by simp [Region.wanted, hg])]
 exact h a w ha hw
theorem WT.last (i : Nat) {oi : Oper} {fuel : Nat} {listed : Array Bool} (hi : ops[i]? = some oi) (hr : Region.ready .any ops listed = [i]) (ht : tailB ops oi listed = true) (hl : Region.ready .any ops (listed.setIfInBounds i true) = [])
  (hg : oi.guard = none) (h : EV P n oi σ C (Q .normal) Q) : WT T P n ops Q S (fuel + 1) listed σ C := fun hCS a ha => by
 intro _
 refine .inr ⟨⟨i, oi, hi, hr, tailB_spec ht⟩, fun w hw => ⟨fun h0 => (by rw [hr] at h0; cases h0), fun j hj => ?_⟩⟩
 rw [hr, List.mem_singleton] at hj
 subst hj
 refine wpOp_mono (K := Q .normal) (fun a' w' hq => ?_) ?_
 ·cases fuel with
  | zero => exact ⟨hl, hq⟩
  | succ f => exact ⟨fun _ => hq, by rw [hl]; simp⟩
 ·unfold Go.wpOp
  simp only [hi]
  rw [if_pos (by simp [Region.wanted, hg])]
  exact h a w ha hw
end
section
variable {P : Program} {n : Nat} {ops : Array Oper} {Q : Exit → Act → World → Prop} {oi : Oper} {σ : Env} {M : Nat → Prop} {w0 : World} {H H' : List Res} {v : Value} {d : Nat} {S : World → Prop} {T : Nat → Bool}
theorem WT.q (i k k' : Nat) {m fuel : Nat} [hQ : POk Q] (hi : ops[i]? = some oi) (ht : takeOkL ops i m k k' = true) (hd : oi.dst = some d) (hg : oi.guard = none) (hn : Nat.blt d n = true) (hT : T i = false) (hq : QV P oi σ S v)
  (kk : WT T P n ops Q S fuel (lst m k') ((d, (true, v)) :: σ) (Own M w0 H)) : WT T P n ops Q S (fuel + 1) (lst m k) σ (Own M w0 H) := by
 unfold takeOkL at ht
 simp only [Bool.and_eq_true, beq_iff_eq] at ht
 exact WT.take i hi ht.1.1.1 ht.1.1.2 ht.1.2 ht.2 hQ.ok Own.closed hd (by simpa [Nat.blt_eq] using hn) (hg ▸ GuardIs.none) (fun _ => hq) (fun h => by rw [hT] at h; cases h) kk
theorem WT.o (i k k' : Nat) {m fuel : Nat} (hi : ops[i]? = some oi) (ht : onlyOkL ops i m k k' = true) (hg : oi.guard = none) (hf : freeB T ops oi (lst m k) = true)
  (h : EV P n oi σ (Own M w0 H) (fun a' w' => Has n a' σ ∧ Own M w0 H' w') Q) (kk : WT T P n ops Q (Own M w0 H') fuel (lst m k') σ (Own M w0 H')) : WT T P n ops Q S (fuel + 1) (lst m k) σ (Own M w0 H) := by
 unfold onlyOkL at ht
 simp only [Bool.and_eq_true, beq_iff_eq] at ht
 exact WT.free i hi ht.1 ht.2 hg hf Own.closed h kk
theorem WT.b (hs : ∀ w, Own M w0 H w → Own M w0 H' w) : WK n (fun a' w' => Has n a' σ ∧ Own M w0 H' w') σ (Own M w0 H) := fun a w ha hw => ⟨ha, hs w hw⟩
theorem WT.l (i k k' : Nat) {m fuel : Nat} (hi : ops[i]? = some oi) (ht : lastOkL ops i m k k' = true) (hg : oi.guard = none) (h : EV P n oi σ (Own M w0 H) (Q .normal) Q) : WT T P n ops Q S (fuel + 1) (lst m k) σ (Own M w0 H) := by
 unfold lastOkL at ht
 rw [hi] at ht
 simp only [Bool.and_eq_true, beq_iff_eq] at ht
 exact WT.last i hi ht.1.1 ht.1.2 (by rw [ht.2.2]; exact ht.2.1) hg h
end
section
variable {P : Program} {σ : Env} {C : World → Prop} {d : Option Tmp} {T U z : TypeId} {pos : String} {after : Array Edge} {gd : Option (Nat × Bool)} {x y : Operand} {g g' : Bool} {i j : Int}
end
end Go.Rd
end
section
namespace Go.Proofs.YtaimbkndebaaiacDoor
open Go.Rd
namespace TLib
end TLib
open TLib
def lren : Go.Shelf.Ren := ⟨fun n => match n with | 129 => 75 | 157 => 36 | 171 => 19 | 173 => 48 | 199 => 50 | 229 => 49 | 240 => 32 | 243 => 33 | 246 => 47 | 261 => 63 | 276 => 46 | 283 => 59 | 284 => 60 | 285 => 61 | 286 => 62 | 311 => 79 | 312 => 80 | 317 => 74 | 318 => 76 | 319 => 77 | 320 => 78 | 337 => 89 | 338 => 90 | n => n, fun n => match n with | 31 => 36 | 37 => 51 | 40 => 91 | 46 => 116 | 49 => 127 | 51 => 112 | 53 => 104 | 70 => 50 | 71 => 52 | 72 => 53 | 119 => 89 | 141 => 114 | 152 => 109 | 154 => 111 | 164 => 86 | 171 => 103 | 173 => 107 | 193 => 123 | 194 => 124 | 196 => 126 | 198 => 129 | 201 => 132 | 212 => 119 | 213 => 120 | 226 => 147 | 227 => 148 | 232 => 154 | 233 => 155 | n => n, fun n => match n with | 6 => 1 | 17 => 3 | 18 => 8 | 19 => 9 | n => n⟩
theorem lay_171 : Go.Proofs.LaysM.n171 Tryd.prog lren where
  mixed := by kernel_rfl
  f129 := Tryd.func75.trans (congrArg some (by kernel_rfl))
  f171 := Tryd.func19.trans (congrArg some (by kernel_rfl))
  f243 := Tryd.func33.trans (congrArg some (by kernel_rfl))
  f246 := Tryd.func47.trans (congrArg some (by kernel_rfl))
  f283 := Tryd.func59.trans (congrArg some (by kernel_rfl))
  f284 := Tryd.func60.trans (congrArg some (by kernel_rfl))
  f285 := Tryd.func61.trans (congrArg some (by kernel_rfl))
  f286 := Tryd.func62.trans (congrArg some (by kernel_rfl))
  f317 := Tryd.func74.trans (congrArg some (by kernel_rfl))
  f318 := Tryd.func76.trans (congrArg some (by kernel_rfl))
  f319 := Tryd.func77.trans (congrArg some (by kernel_rfl))
  f320 := Tryd.func78.trans (congrArg some (by kernel_rfl))
  f337 := Tryd.func89.trans (congrArg some (by kernel_rfl))
  f338 := Tryd.func90.trans (congrArg some (by kernel_rfl))
  t0 := Tryd.underlying0
  a0 := Tryd.isAgg0
  z0 := Tryd.sizeOf0
  v0 := Tryd.zeroValue0
  t2 := Tryd.underlying2
  a2 := Tryd.isAgg2
  z2 := Tryd.sizeOf2
  v2 := Tryd.zeroValue2
  t3 := Tryd.underlying3
  a3 := Tryd.isAgg3
  z3 := Tryd.sizeOf3
  v3 := Tryd.zeroValue3
  t4 := Tryd.underlying4
  a4 := Tryd.isAgg4
  z4 := Tryd.sizeOf4
  v4 := Tryd.zeroValue4
  t5 := Tryd.underlying5
  a5 := Tryd.isAgg5
  z5 := Tryd.sizeOf5
  v5 := Tryd.zeroValue5
  t9 := Tryd.underlying9
  a9 := Tryd.isAgg9
  z9 := Tryd.sizeOf9
  v9 := Tryd.zeroValue9
  t20 := Tryd.underlying20
  a20 := Tryd.isAgg20
  z20 := Tryd.sizeOf20
  v20 := Tryd.zeroValue20
  t37 := Tryd.underlying51
  a37 := Tryd.isAgg51
  z37 := Tryd.sizeOf51
  v37 := Tryd.zeroValue51
  t46 := Tryd.underlying116
  a46 := Tryd.isAgg116
  z46 := Tryd.sizeOf116
  v46 := Tryd.zeroValue116
  t51 := Tryd.underlying112
  a51 := Tryd.isAgg112
  z51 := Tryd.sizeOf112
  v51 := Tryd.zeroValue112
  t53 := Tryd.underlying104
  a53 := Tryd.isAgg104
  z53 := Tryd.sizeOf104
  v53 := Tryd.zeroValue104
  t171 := Tryd.underlying103
  a171 := Tryd.isAgg103
  z171 := Tryd.sizeOf103
  v171 := Tryd.zeroValue103
  t173 := Tryd.underlying107
  a173 := Tryd.isAgg107
  z173 := Tryd.sizeOf107
  v173 := Tryd.zeroValue107
  t212 := Tryd.underlying119
  a212 := Tryd.isAgg119
  z212 := Tryd.sizeOf119
  v212 := Tryd.zeroValue119
  t213 := Tryd.underlying120
  a213 := Tryd.isAgg120
  z213 := Tryd.sizeOf120
  t232 := Tryd.underlying154
  a232 := Tryd.isAgg154
  z232 := Tryd.sizeOf154
  v232 := Tryd.zeroValue154
  t233 := Tryd.underlying155
  a233 := Tryd.isAgg155
  z233 := Tryd.sizeOf155
  v233 := Tryd.zeroValue155
  g17 := by kernel_rfl
  g18 := by kernel_rfl
  g19 := by kernel_rfl
  i0 := by kernel_rfl
  i2 := by kernel_rfl
  i3 := by kernel_rfl
  i4 := by kernel_rfl
  i5 := by kernel_rfl
  i9 := by kernel_rfl
  i20 := by kernel_rfl
  i37 := by kernel_rfl
  i46 := by kernel_rfl
  i51 := by kernel_rfl
  i53 := by kernel_rfl
  i171 := by kernel_rfl
  i173 := by kernel_rfl
  i212 := by kernel_rfl
  i232 := by kernel_rfl
  i233 := by kernel_rfl
  m17 := by kernel_rfl
  m18 := by kernel_rfl
  m19 := by kernel_rfl
theorem lay_173 : Go.Proofs.LaysM.n173 Tryd.prog lren where
  mixed := by kernel_rfl
  f129 := lay_171.f129
  f173 := Tryd.func48.trans (congrArg some (by kernel_rfl))
  f246 := lay_171.f246
  f283 := lay_171.f283
  f284 := lay_171.f284
  f285 := lay_171.f285
  f286 := lay_171.f286
  f317 := lay_171.f317
  f318 := lay_171.f318
  f319 := lay_171.f319
  f320 := lay_171.f320
  f337 := lay_171.f337
  f338 := lay_171.f338
  t0 := Tryd.underlying0
  a0 := Tryd.isAgg0
  z0 := Tryd.sizeOf0
  v0 := Tryd.zeroValue0
  t2 := Tryd.underlying2
  a2 := Tryd.isAgg2
  z2 := Tryd.sizeOf2
  v2 := Tryd.zeroValue2
  t3 := Tryd.underlying3
  a3 := Tryd.isAgg3
  z3 := Tryd.sizeOf3
  v3 := Tryd.zeroValue3
  t4 := Tryd.underlying4
  a4 := Tryd.isAgg4
  z4 := Tryd.sizeOf4
  v4 := Tryd.zeroValue4
  t5 := Tryd.underlying5
  a5 := Tryd.isAgg5
  z5 := Tryd.sizeOf5
  v5 := Tryd.zeroValue5
  t9 := Tryd.underlying9
  a9 := Tryd.isAgg9
  z9 := Tryd.sizeOf9
  v9 := Tryd.zeroValue9
  t20 := Tryd.underlying20
  a20 := Tryd.isAgg20
  z20 := Tryd.sizeOf20
  v20 := Tryd.zeroValue20
  t37 := Tryd.underlying51
  a37 := Tryd.isAgg51
  z37 := Tryd.sizeOf51
  v37 := Tryd.zeroValue51
  t46 := Tryd.underlying116
  a46 := Tryd.isAgg116
  z46 := Tryd.sizeOf116
  v46 := Tryd.zeroValue116
  t51 := Tryd.underlying112
  a51 := Tryd.isAgg112
  z51 := Tryd.sizeOf112
  v51 := Tryd.zeroValue112
  t53 := Tryd.underlying104
  a53 := Tryd.isAgg104
  z53 := Tryd.sizeOf104
  v53 := Tryd.zeroValue104
  t171 := Tryd.underlying103
  a171 := Tryd.isAgg103
  z171 := Tryd.sizeOf103
  v171 := Tryd.zeroValue103
  t173 := Tryd.underlying107
  a173 := Tryd.isAgg107
  z173 := Tryd.sizeOf107
  v173 := Tryd.zeroValue107
  t212 := Tryd.underlying119
  a212 := Tryd.isAgg119
  z212 := Tryd.sizeOf119
  v212 := Tryd.zeroValue119
  t213 := Tryd.underlying120
  a213 := Tryd.isAgg120
  z213 := Tryd.sizeOf120
  t232 := Tryd.underlying154
  a232 := Tryd.isAgg154
  z232 := Tryd.sizeOf154
  v232 := Tryd.zeroValue154
  t233 := Tryd.underlying155
  a233 := Tryd.isAgg155
  z233 := Tryd.sizeOf155
  v233 := Tryd.zeroValue155
  g17 := by kernel_rfl
  g18 := by kernel_rfl
  g19 := by kernel_rfl
  i0 := by kernel_rfl
  i2 := by kernel_rfl
  i3 := by kernel_rfl
  i4 := by kernel_rfl
  i5 := by kernel_rfl
  i9 := by kernel_rfl
  i20 := by kernel_rfl
  i37 := by kernel_rfl
  i46 := by kernel_rfl
  i51 := by kernel_rfl
  i53 := by kernel_rfl
  i171 := by kernel_rfl
  i173 := by kernel_rfl
  i212 := by kernel_rfl
  i232 := by kernel_rfl
  i233 := by kernel_rfl
  m17 := by kernel_rfl
  m18 := by kernel_rfl
  m19 := by kernel_rfl
theorem lay_157 : Go.Proofs.Lays.n157 Tryd.prog lren where
  mixed := by kernel_rfl
  f157 := Tryd.func36.trans (congrArg some (by kernel_rfl))
  f199 := Tryd.func50.trans (congrArg some (by kernel_rfl))
  f229 := Tryd.func49.trans (congrArg some (by kernel_rfl))
  f261 := Tryd.func63.trans (congrArg some (by kernel_rfl))
  f311 := Tryd.func79.trans (congrArg some (by kernel_rfl))
  f312 := Tryd.func80.trans (congrArg some (by kernel_rfl))
  t0 := Tryd.underlying0
  a0 := Tryd.isAgg0
  z0 := Tryd.sizeOf0
  v0 := Tryd.zeroValue0
  t3 := Tryd.underlying3
  a3 := Tryd.isAgg3
  z3 := Tryd.sizeOf3
  v3 := Tryd.zeroValue3
  t4 := Tryd.underlying4
  a4 := Tryd.isAgg4
  z4 := Tryd.sizeOf4
  v4 := Tryd.zeroValue4
  t5 := Tryd.underlying5
  a5 := Tryd.isAgg5
  z5 := Tryd.sizeOf5
  v5 := Tryd.zeroValue5
  t9 := Tryd.underlying9
  a9 := Tryd.isAgg9
  z9 := Tryd.sizeOf9
  v9 := Tryd.zeroValue9
  t21 := Tryd.underlying21
  a21 := Tryd.isAgg21
  z21 := Tryd.sizeOf21
  v21 := Tryd.zeroValue21
  t31 := Tryd.underlying36
  a31 := Tryd.isAgg36
  z31 := Tryd.sizeOf36
  v31 := Tryd.zeroValue36
  t40 := Tryd.underlying91
  a40 := Tryd.isAgg91
  z40 := Tryd.sizeOf91
  v40 := Tryd.zeroValue91
  t46 := Tryd.underlying116
  a46 := Tryd.isAgg116
  z46 := Tryd.sizeOf116
  v46 := Tryd.zeroValue116
  t49 := Tryd.underlying127
  a49 := Tryd.isAgg127
  z49 := Tryd.sizeOf127
  v49 := Tryd.zeroValue127
  t51 := Tryd.underlying112
  a51 := Tryd.isAgg112
  z51 := Tryd.sizeOf112
  v51 := Tryd.zeroValue112
  t119 := Tryd.underlying89
  a119 := Tryd.isAgg89
  z119 := Tryd.sizeOf89
  t141 := Tryd.underlying114
  a141 := Tryd.isAgg114
  z141 := Tryd.sizeOf114
  v141 := Tryd.zeroValue114
  t152 := Tryd.underlying109
  a152 := Tryd.isAgg109
  z152 := Tryd.sizeOf109
  v152 := Tryd.zeroValue109
  t154 := Tryd.underlying111
  a154 := Tryd.isAgg111
  z154 := Tryd.sizeOf111
  v154 := Tryd.zeroValue111
  t193 := Tryd.underlying123
  a193 := Tryd.isAgg123
  z193 := Tryd.sizeOf123
  v193 := Tryd.zeroValue123
  t194 := Tryd.underlying124
  a194 := Tryd.isAgg124
  z194 := Tryd.sizeOf124
  v194 := Tryd.zeroValue124
  t196 := Tryd.underlying126
  a196 := Tryd.isAgg126
  z196 := Tryd.sizeOf126
  v196 := Tryd.zeroValue126
  t198 := Tryd.underlying129
  a198 := Tryd.isAgg129
  z198 := Tryd.sizeOf129
  v198 := Tryd.zeroValue129
  t201 := Tryd.underlying132
  a201 := Tryd.isAgg132
  z201 := Tryd.sizeOf132
  v201 := Tryd.zeroValue132
  t226 := Tryd.underlying147
  a226 := Tryd.isAgg147
  z226 := Tryd.sizeOf147
  v226 := Tryd.zeroValue147
  t227 := Tryd.underlying148
  a227 := Tryd.isAgg148
  z227 := Tryd.sizeOf148
  v227 := Tryd.zeroValue148
  g0 := by kernel_rfl
  g6 := by kernel_rfl
theorem FormatInt_w {n b : Int} {r : List UInt8} (w : World) (hm : FormatInt_m n b = some r) (hg : Glb Tryd.prog w) : Calls Tryd.prog 48 #[.int .i64 n, .int .i64 b] w (fun e w' => e = .returned (strV r) ∧ Grow w w') := fmtInt_own lay_173 w hm hg
theorem Fields_w {s : List UInt8} {r : List (List UInt8)} {K0 : World} (hm : Fields_m s = some r) (M : Nat → Prop) (w : World) (hG : GlbM Tryd.prog M w) (hk : Base M K0 w) (hw0 : Own M w [] w) : Calls Tryd.prog 36 #[strV s] w (fun e w' => ∃ X : Value × World, e = .returned (X.1) ∧ Own M w (kn M w.heap.size K0 X.2 :: []) w' ∧ Arr X.2 X.1 1 (r.map scell)) := fields_own lay_157 (by kernel_rfl) (by kernel_rfl) hm M w hG hk hw0
end Go.Proofs.YtaimbkndebaaiacDoor
end