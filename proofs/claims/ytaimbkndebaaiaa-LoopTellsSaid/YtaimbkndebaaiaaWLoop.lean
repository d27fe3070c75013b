/- Walks. -/
import Derived.Test.YtaimbkndebaaiaaTypes
import Derived.Test.YtaimbkndebaaiaaModel
import Derived.Test.YtaimbkndebaaiaaWNum
namespace Go.Proofs.Ytaimbkndebaaiaa
open Go.Rd
set_option linter.unusedVariables false
set_option linter.unusedSimpArgs false
set_option maxRecDepth 4000 in
theorem loop_in (n lo hi : Int) (w : World)  : Calls Try.prog 48 #[.int .i64 n, .int .i64 lo, .int .i64 hi] w (fun e w' => e = .returned (.bool (decide (n ≥ lo) && decide (n < hi))) ∧ Grow w w') := by
  refine calls_of_WC (n := 15) (args := [.int .i64 n, .int .i64 lo, .int .i64 hi]) Try.func48 rfl rfl (Nat.le_of_ble_eq_true rfl) ?_ (Own.start w)
  refine WC.seq ?_
  refine WC.region ?_
  refine WL.quiet Own.closed rfl (by decide) (GuardIs.none) (fun _ => QV.assign rfl rfl) ?_
  refine WL.nil ?_
  refine WQ.then ?_
  refine WC.seq ?_
  refine WC.region ?_
  refine WL.quiet Own.closed rfl (by decide) (GuardIs.none) (fun _ => QV.move rfl rfl) ?_
  refine WL.quiet Own.closed rfl (by decide) (GuardIs.none) (fun _ => QV.move rfl rfl) ?_
  refine WL.quiet Own.closed rfl (by decide) (GuardIs.none) (fun _ => QV.geq rfl rfl rfl rfl) ?_
  refine WL.quiet Own.closed rfl (by decide) (GuardIs.none) (fun _ => QV.move rfl rfl) ?_
  refine WL.quiet Own.closed rfl (by decide) (GuardIs.pos rfl rfl) (fun hG => QV.move rfl rfl) ?_
  refine WL.quiet Own.closed rfl (by decide) (GuardIs.pos rfl rfl) (fun hG => QV.move rfl rfl) ?_
  refine WL.quiet Own.closed rfl (by decide) (GuardIs.pos rfl rfl) (fun hG => QV.lss rfl hG rfl hG) ?_
  refine WL.quiet Own.closed rfl (by decide) (GuardIs.none) (fun _ => QV.pickAnd rfl rfl rfl (fun h => h)) ?_
  refine WL.quiet Own.closed rfl (by decide) (GuardIs.none) (fun _ => QV.assign rfl rfl) ?_
  refine WL.nil ?_
  refine WQ.then ?_
  refine WC.ret ?_
  refine WQ.ret1 rfl rfl (fun w hw => ?_)
  exact ⟨rfl, hw.grow⟩

set_option maxRecDepth 4000 in
theorem roundelayref2_Within (n lo hi : Int) (w : World)  : Calls Try.prog 50 #[.int .i64 n, .int .i64 lo, .int .i64 hi] w (fun e w' => e = .returned (.bool (decide (n ≥ lo) && decide (n ≤ hi))) ∧ Grow w w') := by
  refine calls_of_WC (n := 15) (args := [.int .i64 n, .int .i64 lo, .int .i64 hi]) Try.func50 rfl rfl (Nat.le_of_ble_eq_true rfl) ?_ (Own.start w)
  refine WC.seq ?_
  refine WC.region ?_
  refine WL.quiet Own.closed rfl (by decide) (GuardIs.none) (fun _ => QV.assign rfl rfl) ?_
  refine WL.nil ?_
  refine WQ.then ?_
  refine WC.seq ?_
  refine WC.region ?_
  refine WL.quiet Own.closed rfl (by decide) (GuardIs.none) (fun _ => QV.move rfl rfl) ?_
  refine WL.quiet Own.closed rfl (by decide) (GuardIs.none) (fun _ => QV.move rfl rfl) ?_
  refine WL.quiet Own.closed rfl (by decide) (GuardIs.none) (fun _ => QV.geq rfl rfl rfl rfl) ?_
  refine WL.quiet Own.closed rfl (by decide) (GuardIs.none) (fun _ => QV.move rfl rfl) ?_
  refine WL.quiet Own.closed rfl (by decide) (GuardIs.pos rfl rfl) (fun hG => QV.move rfl rfl) ?_
  refine WL.quiet Own.closed rfl (by decide) (GuardIs.pos rfl rfl) (fun hG => QV.move rfl rfl) ?_
  refine WL.quiet Own.closed rfl (by decide) (GuardIs.pos rfl rfl) (fun hG => QV.leq rfl hG rfl hG) ?_
  refine WL.quiet Own.closed rfl (by decide) (GuardIs.none) (fun _ => QV.pickAnd rfl rfl rfl (fun h => h)) ?_
  refine WL.quiet Own.closed rfl (by decide) (GuardIs.none) (fun _ => QV.assign rfl rfl) ?_
  refine WL.nil ?_
  refine WQ.then ?_
  refine WC.ret ?_
  refine WQ.ret1 rfl rfl (fun w hw => ?_)
  exact ⟨rfl, hw.grow⟩

set_option maxRecDepth 4000 in
theorem loop_Uses (s : Stm) (w : World)  : Calls Try.prog 57 #[.agg #[.int .i64 s.op, .int .i64 s.a.st, .int .i64 s.a.bk, .int .i64 s.b.st, .int .i64 s.b.bk, .int .i64 s.ar, .int .i64 s.sp, .int .i64 s.pl, .int .i64 s.n]] w (fun e w' => ∃ u, e = .returned u ∧ Grow w w' ∧ Made (arr u 2 ((usesL s).map Rf.cells)) w w' ∧ SliceLen u (usesL s).length) := by
  refine calls_of_WC (n := 19) (args := [.agg #[.int .i64 s.op, .int .i64 s.a.st, .int .i64 s.a.bk, .int .i64 s.b.st, .int .i64 s.b.bk, .int .i64 s.ar, .int .i64 s.sp, .int .i64 s.pl, .int .i64 s.n]]) Try.func57 rfl rfl (Nat.le_of_ble_eq_true rfl) ?_ (Own.start w)
  refine WC.seq ?_
  refine WC.region ?_
  refine WL.effect rfl (EV.boxAgg (by decide) rfl rfl (fun b0 => ?_))
  refine WL.quiet Own.closed rfl (by decide) (GuardIs.none) (fun _ => QV.assign rfl rfl) ?_
  refine WL.nil ?_
  refine WQ.then ?_
  refine WC.seq ?_
  refine WC.block ?_
  refine WC.seq ?_
  refine WC.region ?_
  refine WL.quiet Own.closed rfl (by decide) (GuardIs.none) (fun _ => QV.fieldAddr fd93_0 rfl rfl) ?_
  refine WL.quiet Own.closed rfl (by decide) (GuardIs.none) (fun _ => QV.load pl3 rfl rfl (Own.cell 0 rfl rfl)) ?_
  refine WL.quiet Own.closed rfl (by decide) (GuardIs.none) (fun _ => QV.eql rfl rfl rfl rfl) ?_
  refine WL.quiet Own.closed rfl (by decide) (GuardIs.none) (fun _ => QV.assign rfl rfl) ?_
  refine WL.nil ?_
  refine WQ.then ?_
  refine WC.cond rfl (fun h3 => ?_) (fun h3 => ?_)
  · skip
    refine WC.seq ?_
    refine WC.region ?_
    refine WL.quiet Own.closed rfl (by decide) (GuardIs.none) (fun _ => QV.fieldAddr fd93_1 rfl rfl) ?_
    refine WL.quiet Own.closed rfl (by decide) (GuardIs.none) (fun _ => QV.loadAgg ag91 rfl rfl rfl (fun w hw => (Own.cellsBlk 0 rfl w hw).sub 1 2 rfl)) ?_
    refine WL.effect rfl (EV.buildSlice (by decide) sz_96 (by decide) (by decide) (ps := [(0, .tmp 8)]) (cells := [.int .i64 s.a.st, .int .i64 s.a.bk]) (EvAll.cons rfl rfl EvAll.nil) (by kernel_rfl) (fun b1 => ?_))
    refine WL.quiet Own.closed rfl (by decide) (GuardIs.none) (fun _ => QV.assign rfl rfl) ?_
    refine WL.nil ?_
    refine WQ.then ?_
    refine WC.ret ?_
    refine WQ.block_ret ?_
    refine WQ.then_ret ?_
    refine WQ.ret1 rfl rfl (fun w hw => ?_)
    first | (have e0 : usesL s = [s.a] := (by unfold usesL; rw [if_pos (by have hx : (s.op == 4) = true := h3; simpa using hx)]); exact ⟨_, rfl, hw.grow, e0 ▸ Own.madeArr (rows := [Rf.cells s.a]) 0 rfl rfl (by simp [Rf.cells]) (by simp) w hw, e0 ▸ SliceLen.blk⟩) | (have e0 : usesL s = [s.a, s.b] := (by unfold usesL; rw [if_neg (by simpa using h3), if_pos (by have hx : decide (s.op > 10) = true := h10; simpa using hx)]); exact ⟨_, rfl, hw.grow, e0 ▸ Own.madeArr (rows := [Rf.cells s.a, Rf.cells s.b]) 0 rfl rfl (by simp [Rf.cells]) (by simp) w hw, e0 ▸ SliceLen.blk⟩) | (have e0 : usesL s = [] := (by unfold usesL; rw [if_neg (by simpa using h3), if_neg (by simpa using h10)]); exact ⟨_, rfl, hw.grow, e0 ▸ Own.madeNil w hw, e0 ▸ SliceLen.nil⟩)
  · skip
    refine WC.seq ?_
    refine WC.region ?_
    refine WL.quiet Own.closed rfl (by decide) (GuardIs.none) (fun _ => QV.fieldAddr fd93_0 rfl rfl) ?_
    refine WL.quiet Own.closed rfl (by decide) (GuardIs.none) (fun _ => QV.load pl3 rfl rfl (Own.cell 0 rfl rfl)) ?_
    refine WL.quiet Own.closed rfl (by decide) (GuardIs.none) (fun _ => QV.gtr rfl rfl rfl rfl) ?_
    refine WL.quiet Own.closed rfl (by decide) (GuardIs.none) (fun _ => QV.assign rfl rfl) ?_
    refine WL.nil ?_
    refine WQ.then ?_
    refine WC.cond rfl (fun h10 => ?_) (fun h10 => ?_)
    · skip
      refine WC.seq ?_
      refine WC.region ?_
      refine WL.quiet Own.closed rfl (by decide) (GuardIs.none) (fun _ => QV.fieldAddr fd93_1 rfl rfl) ?_
      refine WL.quiet Own.closed rfl (by decide) (GuardIs.none) (fun _ => QV.loadAgg ag91 rfl rfl rfl (fun w hw => (Own.cellsBlk 0 rfl w hw).sub 1 2 rfl)) ?_
      refine WL.quiet Own.closed rfl (by decide) (GuardIs.none) (fun _ => QV.fieldAddr fd93_2 rfl rfl) ?_
      refine WL.quiet Own.closed rfl (by decide) (GuardIs.none) (fun _ => QV.loadAgg ag91 rfl rfl rfl (fun w hw => (Own.cellsBlk 0 rfl w hw).sub 3 2 rfl)) ?_
      refine WL.effect rfl (EV.buildSlice (by decide) sz_96 (by decide) (by decide) (ps := [(0, .tmp 15), (1, .tmp 17)]) (cells := [.int .i64 s.a.st, .int .i64 s.a.bk, .int .i64 s.b.st, .int .i64 s.b.bk]) (EvAll.cons rfl rfl (EvAll.cons rfl rfl EvAll.nil)) (by kernel_rfl) (fun b2 => ?_))
      refine WL.quiet Own.closed rfl (by decide) (GuardIs.none) (fun _ => QV.assign rfl rfl) ?_
      refine WL.nil ?_
      refine WQ.then ?_
      refine WC.ret ?_
      refine WQ.block_ret ?_
      refine WQ.then_ret ?_
      refine WQ.ret1 rfl rfl (fun w hw => ?_)
      first | (have e0 : usesL s = [s.a] := (by unfold usesL; rw [if_pos (by have hx : (s.op == 4) = true := h3; simpa using hx)]); exact ⟨_, rfl, hw.grow, e0 ▸ Own.madeArr (rows := [Rf.cells s.a]) 0 rfl rfl (by simp [Rf.cells]) (by simp) w hw, e0 ▸ SliceLen.blk⟩) | (have e0 : usesL s = [s.a, s.b] := (by unfold usesL; rw [if_neg (by simpa using h3), if_pos (by have hx : decide (s.op > 10) = true := h10; simpa using hx)]); exact ⟨_, rfl, hw.grow, e0 ▸ Own.madeArr (rows := [Rf.cells s.a, Rf.cells s.b]) 0 rfl rfl (by simp [Rf.cells]) (by simp) w hw, e0 ▸ SliceLen.blk⟩) | (have e0 : usesL s = [] := (by unfold usesL; rw [if_neg (by simpa using h3), if_neg (by simpa using h10)]); exact ⟨_, rfl, hw.grow, e0 ▸ Own.madeNil w hw, e0 ▸ SliceLen.nil⟩)
    · skip
      refine WC.skip ?_
      refine WQ.block ?_
      refine WQ.then ?_
      refine WC.seq ?_
      refine WC.region ?_
      refine WL.quiet Own.closed rfl (by decide) (GuardIs.none) (fun _ => QV.assign rfl rfl) ?_
      refine WL.nil ?_
      refine WQ.then ?_
      refine WC.ret ?_
      refine WQ.ret1 rfl rfl (fun w hw => ?_)
      first | (have e0 : usesL s = [s.a] := (by unfold usesL; rw [if_pos (by have hx : (s.op == 4) = true := h3; simpa using hx)]); exact ⟨_, rfl, hw.grow, e0 ▸ Own.madeArr (rows := [Rf.cells s.a]) 0 rfl rfl (by simp [Rf.cells]) (by simp) w hw, e0 ▸ SliceLen.blk⟩) | (have e0 : usesL s = [s.a, s.b] := (by unfold usesL; rw [if_neg (by simpa using h3), if_pos (by have hx : decide (s.op > 10) = true := h10; simpa using hx)]); exact ⟨_, rfl, hw.grow, e0 ▸ Own.madeArr (rows := [Rf.cells s.a, Rf.cells s.b]) 0 rfl rfl (by simp [Rf.cells]) (by simp) w hw, e0 ▸ SliceLen.blk⟩) | (have e0 : usesL s = [] := (by unfold usesL; rw [if_neg (by simpa using h3), if_neg (by simpa using h10)]); exact ⟨_, rfl, hw.grow, e0 ▸ Own.madeNil w hw, e0 ▸ SliceLen.nil⟩)

set_option maxRecDepth 4000 in
theorem roundelayref2_Uses (s : Stm) (w : World)  : Calls Try.prog 59 #[.agg #[.int .i64 s.op, .int .i64 s.a.st, .int .i64 s.a.bk, .int .i64 s.b.st, .int .i64 s.b.bk, .int .i64 s.ar, .int .i64 s.sp, .int .i64 s.pl, .int .i64 s.n]] w (fun e w' => ∃ u, e = .returned u ∧ Grow w w' ∧ Made (arr u 2 ((usesL s).map Rf.cells)) w w' ∧ SliceLen u (usesL s).length) := by
  refine calls_of_WC (n := 17) (args := [.agg #[.int .i64 s.op, .int .i64 s.a.st, .int .i64 s.a.bk, .int .i64 s.b.st, .int .i64 s.b.bk, .int .i64 s.ar, .int .i64 s.sp, .int .i64 s.pl, .int .i64 s.n]]) Try.func59 rfl rfl (Nat.le_of_ble_eq_true rfl) ?_ (Own.start w)
  refine WC.seq ?_
  refine WC.region ?_
  refine WL.effect rfl (EV.boxAgg (by decide) rfl rfl (fun b0 => ?_))
  refine WL.quiet Own.closed rfl (by decide) (GuardIs.none) (fun _ => QV.assign rfl rfl) ?_
  refine WL.nil ?_
  refine WQ.then ?_
  refine WC.seq ?_
  refine WC.seq ?_
  refine WC.region ?_
  refine WL.quiet Own.closed rfl (by decide) (GuardIs.none) (fun _ => QV.fieldAddr fd93_0 rfl rfl) ?_
  refine WL.quiet Own.closed rfl (by decide) (GuardIs.none) (fun _ => QV.load pl3 rfl rfl (Own.cell 0 rfl rfl)) ?_
  refine WL.quiet Own.closed rfl (by decide) (GuardIs.none) (fun _ => QV.eql rfl rfl rfl rfl) ?_
  refine WL.nil ?_
  refine WQ.then ?_
  refine WC.cond rfl (fun h5 => ?_) (fun h5 => ?_)
  · skip
    refine WC.seq ?_
    refine WC.region ?_
    refine WL.quiet Own.closed rfl (by decide) (GuardIs.none) (fun _ => QV.fieldAddr fd93_1 rfl rfl) ?_
    refine WL.quiet Own.closed rfl (by decide) (GuardIs.none) (fun _ => QV.loadAgg ag91 rfl rfl rfl (fun w hw => (Own.cellsBlk 0 rfl w hw).sub 1 2 rfl)) ?_
    refine WL.effect rfl (EV.buildSlice (by decide) sz_96 (by decide) (by decide) (ps := [(0, .tmp 7)]) (cells := [.int .i64 s.a.st, .int .i64 s.a.bk]) (EvAll.cons rfl rfl EvAll.nil) (by kernel_rfl) (fun b1 => ?_))
    refine WL.quiet Own.closed rfl (by decide) (GuardIs.none) (fun _ => QV.assign rfl rfl) ?_
    refine WL.nil ?_
    refine WQ.then ?_
    refine WC.ret ?_
    refine WQ.then_ret ?_
    refine WQ.ret1 rfl rfl (fun w hw => ?_)
    first | (have e0 : usesL s = [s.a] := (by unfold usesL; rw [if_pos (by have hx : (s.op == 4) = true := h5; simpa using hx)]); exact ⟨_, rfl, hw.grow, e0 ▸ Own.madeArr (rows := [Rf.cells s.a]) 0 rfl rfl (by simp [Rf.cells]) (by simp) w hw, e0 ▸ SliceLen.blk⟩) | (have e0 : usesL s = [s.a, s.b] := (by unfold usesL; rw [if_neg (by simpa using h5), if_pos (by have hx : decide (s.op > 10) = true := h11; simpa using hx)]); exact ⟨_, rfl, hw.grow, e0 ▸ Own.madeArr (rows := [Rf.cells s.a, Rf.cells s.b]) 0 rfl rfl (by simp [Rf.cells]) (by simp) w hw, e0 ▸ SliceLen.blk⟩) | (have e0 : usesL s = [] := (by unfold usesL; rw [if_neg (by simpa using h5), if_neg (by simpa using h11)]); exact ⟨_, rfl, hw.grow, e0 ▸ Own.madeNil w hw, e0 ▸ SliceLen.nil⟩)
  · skip
    refine WC.skip ?_
    refine WQ.then ?_
    refine WC.seq ?_
    refine WC.seq ?_
    refine WC.region ?_
    refine WL.quiet Own.closed rfl (by decide) (GuardIs.none) (fun _ => QV.fieldAddr fd93_0 rfl rfl) ?_
    refine WL.quiet Own.closed rfl (by decide) (GuardIs.none) (fun _ => QV.load pl3 rfl rfl (Own.cell 0 rfl rfl)) ?_
    refine WL.quiet Own.closed rfl (by decide) (GuardIs.none) (fun _ => QV.gtr rfl rfl rfl rfl) ?_
    refine WL.nil ?_
    refine WQ.then ?_
    refine WC.cond rfl (fun h11 => ?_) (fun h11 => ?_)
    · skip
      refine WC.seq ?_
      refine WC.region ?_
      refine WL.quiet Own.closed rfl (by decide) (GuardIs.none) (fun _ => QV.fieldAddr fd93_1 rfl rfl) ?_
      refine WL.quiet Own.closed rfl (by decide) (GuardIs.none) (fun _ => QV.loadAgg ag91 rfl rfl rfl (fun w hw => (Own.cellsBlk 0 rfl w hw).sub 1 2 rfl)) ?_
      refine WL.quiet Own.closed rfl (by decide) (GuardIs.none) (fun _ => QV.fieldAddr fd93_2 rfl rfl) ?_
      refine WL.quiet Own.closed rfl (by decide) (GuardIs.none) (fun _ => QV.loadAgg ag91 rfl rfl rfl (fun w hw => (Own.cellsBlk 0 rfl w hw).sub 3 2 rfl)) ?_
      refine WL.effect rfl (EV.buildSlice (by decide) sz_96 (by decide) (by decide) (ps := [(0, .tmp 13), (1, .tmp 15)]) (cells := [.int .i64 s.a.st, .int .i64 s.a.bk, .int .i64 s.b.st, .int .i64 s.b.bk]) (EvAll.cons rfl rfl (EvAll.cons rfl rfl EvAll.nil)) (by kernel_rfl) (fun b2 => ?_))
      refine WL.quiet Own.closed rfl (by decide) (GuardIs.none) (fun _ => QV.assign rfl rfl) ?_
      refine WL.nil ?_
      refine WQ.then ?_
      refine WC.ret ?_
      refine WQ.then_ret ?_
      refine WQ.ret1 rfl rfl (fun w hw => ?_)
      first | (have e0 : usesL s = [s.a] := (by unfold usesL; rw [if_pos (by have hx : (s.op == 4) = true := h5; simpa using hx)]); exact ⟨_, rfl, hw.grow, e0 ▸ Own.madeArr (rows := [Rf.cells s.a]) 0 rfl rfl (by simp [Rf.cells]) (by simp) w hw, e0 ▸ SliceLen.blk⟩) | (have e0 : usesL s = [s.a, s.b] := (by unfold usesL; rw [if_neg (by simpa using h5), if_pos (by have hx : decide (s.op > 10) = true := h11; simpa using hx)]); exact ⟨_, rfl, hw.grow, e0 ▸ Own.madeArr (rows := [Rf.cells s.a, Rf.cells s.b]) 0 rfl rfl (by simp [Rf.cells]) (by simp) w hw, e0 ▸ SliceLen.blk⟩) | (have e0 : usesL s = [] := (by unfold usesL; rw [if_neg (by simpa using h5), if_neg (by simpa using h11)]); exact ⟨_, rfl, hw.grow, e0 ▸ Own.madeNil w hw, e0 ▸ SliceLen.nil⟩)
    · skip
      refine WC.skip ?_
      refine WQ.then ?_
      refine WC.seq ?_
      refine WC.region ?_
      refine WL.quiet Own.closed rfl (by decide) (GuardIs.none) (fun _ => QV.assign rfl rfl) ?_
      refine WL.nil ?_
      refine WQ.then ?_
      refine WC.ret ?_
      refine WQ.ret1 rfl rfl (fun w hw => ?_)
      first | (have e0 : usesL s = [s.a] := (by unfold usesL; rw [if_pos (by have hx : (s.op == 4) = true := h5; simpa using hx)]); exact ⟨_, rfl, hw.grow, e0 ▸ Own.madeArr (rows := [Rf.cells s.a]) 0 rfl rfl (by simp [Rf.cells]) (by simp) w hw, e0 ▸ SliceLen.blk⟩) | (have e0 : usesL s = [s.a, s.b] := (by unfold usesL; rw [if_neg (by simpa using h5), if_pos (by have hx : decide (s.op > 10) = true := h11; simpa using hx)]); exact ⟨_, rfl, hw.grow, e0 ▸ Own.madeArr (rows := [Rf.cells s.a, Rf.cells s.b]) 0 rfl rfl (by simp [Rf.cells]) (by simp) w hw, e0 ▸ SliceLen.blk⟩) | (have e0 : usesL s = [] := (by unfold usesL; rw [if_neg (by simpa using h5), if_neg (by simpa using h11)]); exact ⟨_, rfl, hw.grow, e0 ▸ Own.madeNil w hw, e0 ▸ SliceLen.nil⟩)

set_option maxRecDepth 4000 in
theorem loop_ref {v1 v2 v3 : Value} (l : Lp) (k : Int) (r : Rf) (w : World) (hL : LpRep w v1 v2 v3 l) : Calls Try.prog 58 #[.agg #[v1, v2, v3], .int .i64 k, .agg #[.int .i64 r.st, .int .i64 r.bk]] w (fun e w' => e = .returned (.bool (tb (RefOk l.body.length k r))) ∧ Grow w w') := by
  refine calls_of_WC (n := 24) (args := [.agg #[v1, v2, v3], .int .i64 k, .agg #[.int .i64 r.st, .int .i64 r.bk]]) Try.func58 rfl rfl (Nat.le_of_ble_eq_true rfl) ?_ (Own.start w)
  refine WC.seq ?_
  refine WC.region ?_
  refine WL.effect rfl (EV.boxAgg (by decide) rfl rfl (fun b0 => ?_))
  refine WL.effect rfl (EV.boxAgg (by decide) rfl rfl (fun b1 => ?_))
  refine WL.quiet Own.closed rfl (by decide) (GuardIs.none) (fun _ => QV.assign rfl rfl) ?_
  refine WL.nil ?_
  refine WQ.then ?_
  refine WC.seq ?_
  refine WC.region ?_
  refine WL.quiet Own.closed rfl (by decide) (GuardIs.none) (fun _ => QV.fieldAddr fd51_1 rfl rfl) ?_
  refine WL.quiet Own.closed rfl (by decide) (GuardIs.none) (fun _ => QV.load pl49 rfl rfl (Own.cell 1 rfl rfl)) ?_
  refine WL.quiet Own.closed rfl (by decide) (GuardIs.none) (fun _ => QV.lenS Try.underlying49 rfl rfl hL.body.lenMap) ?_
  refine WL.quiet Own.closed rfl (by decide) (GuardIs.none) (fun _ => QV.assign rfl rfl) ?_
  refine WL.nil ?_
  refine WQ.then ?_
  refine WC.seq ?_
  refine WC.seq ?_
  refine WC.region ?_
  refine WL.quiet Own.closed rfl (by decide) (GuardIs.none) (fun _ => QV.fieldAddr fd91_1 rfl rfl) ?_
  refine WL.quiet Own.closed rfl (by decide) (GuardIs.none) (fun _ => QV.load pl3 rfl rfl (Own.cell 0 rfl rfl)) ?_
  refine WL.quiet Own.closed rfl (by decide) (GuardIs.none) (fun _ => QV.eql rfl rfl rfl rfl) ?_
  refine WL.nil ?_
  refine WQ.then ?_
  refine WC.cond rfl (fun h13 => ?_) (fun h13 => ?_)
  · skip
    refine WC.region ?_
    refine WL.quiet Own.closed rfl (by decide) (GuardIs.none) (fun _ => QV.move rfl rfl) ?_
    refine WL.quiet Own.closed rfl (by decide) (GuardIs.none) (fun _ => QV.assign rfl rfl) ?_
    refine WL.nil ?_
    refine WQ.then ?_
    refine WC.seq ?_
    refine WC.region ?_
    refine WL.quiet Own.closed rfl (by decide) (GuardIs.none) (fun _ => QV.fieldAddr fd91_1 rfl rfl) ?_
    refine WL.quiet Own.closed rfl (by decide) (GuardIs.none) (fun _ => QV.load pl3 rfl rfl (Own.cell 0 rfl rfl)) ?_
    refine WL.quiet Own.closed rfl (by decide) (GuardIs.none) (fun _ => QV.call en48 (EvAll.cons rfl rfl (EvAll.cons rfl rfl (EvAll.cons rfl rfl EvAll.nil))) (fun w hw => loop_in _ _ _ w)) ?_
    refine WL.quiet Own.closed rfl (by decide) (GuardIs.none) (fun _ => QV.move rfl rfl) ?_
    refine WL.quiet Own.closed rfl (by decide) (GuardIs.pos rfl rfl) (fun hG => QV.fieldAddr fd91_0 rfl rfl) ?_
    refine WL.quiet Own.closed rfl (by decide) (GuardIs.pos rfl rfl) (fun hG => QV.load pl3 rfl hG (Own.cell 0 rfl rfl)) ?_
    refine WL.quiet Own.closed rfl (by decide) (GuardIs.pos rfl rfl) (fun hG => QV.move rfl rfl) ?_
    refine WL.quiet Own.closed rfl (by decide) (GuardIs.pos rfl rfl) (fun hG => QV.call en48 (EvAll.cons rfl hG (EvAll.cons rfl rfl (EvAll.cons rfl hG EvAll.nil))) (fun w hw => loop_in _ _ _ w)) ?_
    refine WL.quiet Own.closed rfl (by decide) (GuardIs.none) (fun _ => QV.pickAnd rfl rfl rfl (fun h => h)) ?_
    refine WL.quiet Own.closed rfl (by decide) (GuardIs.none) (fun _ => QV.assign rfl rfl) ?_
    refine WL.nil ?_
    refine WQ.then ?_
    refine WC.ret ?_
    refine WQ.ret1 rfl rfl (fun w hw => ?_)
    refine ⟨ret_bool (tb_eq ?_), hw.grow⟩; unfold RefOk; simp [-List.getD_eq_getElem?_getD, -Int.pred_toNat] at *; omega
  · skip
    refine WC.skip ?_
    refine WQ.then ?_
    refine WC.seq ?_
    refine WC.region ?_
    refine WL.quiet Own.closed rfl (by decide) (GuardIs.none) (fun _ => QV.fieldAddr fd91_1 rfl rfl) ?_
    refine WL.quiet Own.closed rfl (by decide) (GuardIs.none) (fun _ => QV.load pl3 rfl rfl (Own.cell 0 rfl rfl)) ?_
    refine WL.quiet Own.closed rfl (by decide) (GuardIs.none) (fun _ => QV.call en48 (EvAll.cons rfl rfl (EvAll.cons rfl rfl (EvAll.cons rfl rfl EvAll.nil))) (fun w hw => loop_in _ _ _ w)) ?_
    refine WL.quiet Own.closed rfl (by decide) (GuardIs.none) (fun _ => QV.move rfl rfl) ?_
    refine WL.quiet Own.closed rfl (by decide) (GuardIs.pos rfl rfl) (fun hG => QV.fieldAddr fd91_0 rfl rfl) ?_
    refine WL.quiet Own.closed rfl (by decide) (GuardIs.pos rfl rfl) (fun hG => QV.load pl3 rfl hG (Own.cell 0 rfl rfl)) ?_
    refine WL.quiet Own.closed rfl (by decide) (GuardIs.pos rfl rfl) (fun hG => QV.move rfl rfl) ?_
    refine WL.quiet Own.closed rfl (by decide) (GuardIs.pos rfl rfl) (fun hG => QV.call en48 (EvAll.cons rfl hG (EvAll.cons rfl rfl (EvAll.cons rfl hG EvAll.nil))) (fun w hw => loop_in _ _ _ w)) ?_
    refine WL.quiet Own.closed rfl (by decide) (GuardIs.none) (fun _ => QV.pickAnd rfl rfl rfl (fun h => h)) ?_
    refine WL.quiet Own.closed rfl (by decide) (GuardIs.none) (fun _ => QV.assign rfl rfl) ?_
    refine WL.nil ?_
    refine WQ.then ?_
    refine WC.ret ?_
    refine WQ.ret1 rfl rfl (fun w hw => ?_)
    refine ⟨ret_bool (tb_eq ?_), hw.grow⟩; unfold RefOk; simp [-List.getD_eq_getElem?_getD, -Int.pred_toNat] at *; omega
end Go.Proofs.Ytaimbkndebaaiaa
