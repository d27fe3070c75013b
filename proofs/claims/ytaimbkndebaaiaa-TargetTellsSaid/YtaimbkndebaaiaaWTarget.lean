/- Walks. -/
import Derived.Test.YtaimbkndebaaiaaTypes
import Derived.Test.YtaimbkndebaaiaaModel
import Derived.Test.YtaimbkndebaaiaaWNum
namespace Go.Proofs.Ytaimbkndebaaiaa
open Go.Rd
set_option linter.unusedVariables false
set_option linter.unusedSimpArgs false
set_option maxRecDepth 4000 in
theorem target_May (t : Tgt) (w : World)  : Calls Try.prog 14 #[.agg #[.int .i64 t.u0, .int .i64 t.u1, .int .i64 t.u2, .int .i64 t.w0, .int .i64 t.w1, .int .i64 t.w2, .int .i64 t.regs]] w (fun e w' => e = .returned (.bool (tgtOk t)) ∧ Grow w w') := by
  refine calls_of_WC (n := 42) (args := [.agg #[.int .i64 t.u0, .int .i64 t.u1, .int .i64 t.u2, .int .i64 t.w0, .int .i64 t.w1, .int .i64 t.w2, .int .i64 t.regs]]) Try.func14 rfl rfl (Nat.le_of_ble_eq_true rfl) ?_ (Own.start w)
  refine WC.seq ?_
  refine WC.region ?_
  refine WL.effect rfl (EV.boxAgg (by decide) rfl rfl (fun b0 => ?_))
  refine WL.quiet Own.closed rfl (by decide) (GuardIs.none) (fun _ => QV.assign rfl rfl) ?_
  refine WL.nil ?_
  refine WQ.then ?_
  refine WC.seq ?_
  refine WC.seq ?_
  refine WC.region ?_
  refine WL.quiet Own.closed rfl (by decide) (GuardIs.none) (fun _ => QV.move rfl rfl) ?_
  refine WL.nil ?_
  refine WQ.then ?_
  refine WC.block ?_
  refine WC.loopC (τ := [(1, (true, _))]) (fun i : Int => [(4, (true, .int .i64 i))]) _ (fun i : Int => tgtTo t i) (fun i : Int => (3 - i).toNat) 0 (by unfold tgtTo; omega) ⟨rfl, rfl, trivial⟩ (fun w hw => hw) ?_
  rintro i hi
  have hi2 := hi; unfold tgtTo at hi2
  refine WC.seq ?_
  refine WC.region ?_
  refine WL.quiet Own.closed rfl (by decide) (GuardIs.none) (fun _ => QV.lss rfl rfl rfl rfl) ?_
  refine WL.nil ?_
  refine WQ.then ?_
  refine WC.seq ?_
  refine WC.cond rfl (fun h5 => ?_) (fun h5 => ?_)
  · skip
    have hlt := of_decide_eq_true h5
    refine WC.skip ?_
    refine WQ.then ?_
    refine WC.seq ?_
    refine WC.block ?_
    refine WC.seq ?_
    refine WC.region ?_
    refine WL.quiet Own.closed rfl (by decide) (GuardIs.none) (fun _ => QV.move rfl rfl) ?_
    refine WL.quiet Own.closed rfl (by decide) (GuardIs.none) (fun _ => QV.assign rfl rfl) ?_
    refine WL.nil ?_
    refine WQ.then ?_
    refine WC.seq ?_
    refine WC.region ?_
    refine WL.quiet Own.closed rfl (by decide) (GuardIs.none) (fun _ => QV.move rfl rfl) ?_
    refine WL.quiet Own.closed rfl (by decide) (GuardIs.none) (fun _ => QV.fieldAddr fd26_0 rfl rfl) ?_
    refine WL.quiet Own.closed rfl (by decide) (GuardIs.none) (fun _ => QV.indexArray ar24 rfl rfl rfl rfl (by omega) (by omega)) ?_
    refine WL.quiet Own.closed rfl (by decide) (GuardIs.none) (fun _ => QV.load pl3 rfl rfl (Own.cellSym 0 rfl (sel3_get (off := 0) (i := i) (by omega) (by omega) rfl rfl rfl) (addr_sym _ _ _))) ?_
    refine WL.quiet Own.closed rfl (by decide) (GuardIs.none) (fun _ => QV.lss rfl rfl rfl rfl) ?_
    refine WL.quiet Own.closed rfl (by decide) (GuardIs.none) (fun _ => QV.move rfl rfl) ?_
    refine WL.quiet Own.closed rfl (by decide) (GuardIs.neg rfl rfl) (fun hG => QV.move rfl rfl) ?_
    refine WL.quiet Own.closed rfl (by decide) (GuardIs.neg rfl rfl) (fun hG => QV.fieldAddr fd26_0 rfl rfl) ?_
    refine WL.quiet Own.closed rfl (by decide) (GuardIs.neg rfl rfl) (fun hG => QV.indexArray ar24 rfl hG rfl hG (by omega) (by omega)) ?_
    refine WL.quiet Own.closed rfl (by decide) (GuardIs.neg rfl rfl) (fun hG => QV.load pl3 rfl hG (Own.cellSym 0 rfl (sel3_get (off := 0) (i := i) (by omega) (by omega) rfl rfl rfl) (addr_sym _ _ _))) ?_
    refine WL.quiet Own.closed rfl (by decide) (GuardIs.neg rfl rfl) (fun hG => QV.gtr rfl hG rfl rfl) ?_
    refine WL.quiet Own.closed rfl (by decide) (GuardIs.none) (fun _ => QV.pickOr rfl rfl rfl (fun h => notF h)) ?_
    refine WL.quiet Own.closed rfl (by decide) (GuardIs.none) (fun _ => QV.move rfl rfl) ?_
    refine WL.quiet Own.closed rfl (by decide) (GuardIs.neg rfl rfl) (fun hG => QV.move rfl rfl) ?_
    refine WL.quiet Own.closed rfl (by decide) (GuardIs.neg rfl rfl) (fun hG => QV.fieldAddr fd26_1 rfl rfl) ?_
    refine WL.quiet Own.closed rfl (by decide) (GuardIs.neg rfl rfl) (fun hG => QV.indexArray ar24 rfl hG rfl hG (by omega) (by omega)) ?_
    refine WL.quiet Own.closed rfl (by decide) (GuardIs.neg rfl rfl) (fun hG => QV.load pl3 rfl hG (Own.cellSym 0 rfl (sel3_get (off := 3) (i := i) (by omega) (by omega) rfl rfl rfl) (addr_sym _ _ _))) ?_
    refine WL.quiet Own.closed rfl (by decide) (GuardIs.neg rfl rfl) (fun hG => QV.lss rfl hG rfl rfl) ?_
    refine WL.quiet Own.closed rfl (by decide) (GuardIs.none) (fun _ => QV.pickOr rfl rfl rfl (fun h => notF h)) ?_
    refine WL.quiet Own.closed rfl (by decide) (GuardIs.none) (fun _ => QV.move rfl rfl) ?_
    refine WL.quiet Own.closed rfl (by decide) (GuardIs.neg rfl rfl) (fun hG => QV.move rfl rfl) ?_
    refine WL.quiet Own.closed rfl (by decide) (GuardIs.neg rfl rfl) (fun hG => QV.fieldAddr fd26_1 rfl rfl) ?_
    refine WL.quiet Own.closed rfl (by decide) (GuardIs.neg rfl rfl) (fun hG => QV.indexArray ar24 rfl hG rfl hG (by omega) (by omega)) ?_
    refine WL.quiet Own.closed rfl (by decide) (GuardIs.neg rfl rfl) (fun hG => QV.load pl3 rfl hG (Own.cellSym 0 rfl (sel3_get (off := 3) (i := i) (by omega) (by omega) rfl rfl rfl) (addr_sym _ _ _))) ?_
    refine WL.quiet Own.closed rfl (by decide) (GuardIs.neg rfl rfl) (fun hG => QV.gtr rfl hG rfl rfl) ?_
    refine WL.quiet Own.closed rfl (by decide) (GuardIs.none) (fun _ => QV.pickOr rfl rfl rfl (fun h => notF h)) ?_
    refine WL.nil ?_
    refine WQ.then ?_
    refine WC.cond rfl (fun h32 => ?_) (fun h32 => ?_)
    · skip
      refine WC.seq ?_
      refine WC.region ?_
      refine WL.quiet Own.closed rfl (by decide) (GuardIs.none) (fun _ => QV.assign rfl rfl) ?_
      refine WL.nil ?_
      refine WQ.then ?_
      refine WC.ret ?_
      refine WQ.block_ret ?_
      refine WQ.then_ret ?_
      refine WQ.then_ret ?_
      refine WQ.block_ret ?_
      refine WQ.then_ret ?_
      refine WQ.ret1 rfl rfl (fun w hw => ?_)
      refine ⟨ret_bool ?_, hw.grow⟩; first | exact (tgt_bad (by omega) (by omega) h32).symm | exact tgt_end hi (of_decide_eq_false h5)
    · skip
      refine WC.skip ?_
      refine WQ.block ?_
      refine WQ.then ?_
      refine WC.region ?_
      refine WL.quiet Own.closed rfl (by decide) (GuardIs.none) (fun _ => QV.add rfl rfl rfl rfl (by omega)) ?_
      refine WL.quiet Own.closed rfl (by decide) (GuardIs.none) (fun _ => QV.move rfl rfl) ?_
      refine WL.nil ?_
      refine WQ.againC (i + 1) ?_ ?_ ⟨rfl, rfl, trivial⟩ (fun w hw => hw)
      · exact tgt_next hi (of_decide_eq_true h5) (by unfold tgtBad; assumption)
      · have := of_decide_eq_true h5; omega
  · skip
    refine WC.exit ?_
    refine WQ.then_exit ?_
    refine WQ.then_exit ?_
    refine WQ.block_exit ?_
    refine WQ.then ?_
    refine WC.seq ?_
    refine WC.region ?_
    refine WL.quiet Own.closed rfl (by decide) (GuardIs.none) (fun _ => QV.fieldAddr fd26_2 rfl rfl) ?_
    refine WL.quiet Own.closed rfl (by decide) (GuardIs.none) (fun _ => QV.load pl3 rfl rfl (Own.cell 0 rfl rfl)) ?_
    refine WL.quiet Own.closed rfl (by decide) (GuardIs.none) (fun _ => QV.geq rfl rfl rfl rfl) ?_
    refine WL.quiet Own.closed rfl (by decide) (GuardIs.none) (fun _ => QV.move rfl rfl) ?_
    refine WL.quiet Own.closed rfl (by decide) (GuardIs.pos rfl rfl) (fun hG => QV.fieldAddr fd26_2 rfl rfl) ?_
    refine WL.quiet Own.closed rfl (by decide) (GuardIs.pos rfl rfl) (fun hG => QV.load pl3 rfl hG (Own.cell 0 rfl rfl)) ?_
    refine WL.quiet Own.closed rfl (by decide) (GuardIs.pos rfl rfl) (fun hG => QV.leq rfl hG rfl rfl) ?_
    refine WL.quiet Own.closed rfl (by decide) (GuardIs.none) (fun _ => QV.pickAnd rfl rfl rfl (fun h => h)) ?_
    refine WL.quiet Own.closed rfl (by decide) (GuardIs.none) (fun _ => QV.assign rfl rfl) ?_
    refine WL.nil ?_
    refine WQ.then ?_
    refine WC.ret ?_
    refine WQ.ret1 rfl rfl (fun w hw => ?_)
    refine ⟨ret_bool ?_, hw.grow⟩; first | exact (tgt_bad (by omega) (by omega) h32).symm | exact tgt_end hi (of_decide_eq_false h5)

set_option maxRecDepth 4000 in
theorem roundelayref4_May (t : Tgt) (w : World)  : Calls Try.prog 16 #[.agg #[.int .i64 t.u0, .int .i64 t.u1, .int .i64 t.u2, .int .i64 t.w0, .int .i64 t.w1, .int .i64 t.w2, .int .i64 t.regs]] w (fun e w' => e = .returned (.bool (tgtOk t)) ∧ Grow w w') := by
  refine calls_of_WC (n := 42) (args := [.agg #[.int .i64 t.u0, .int .i64 t.u1, .int .i64 t.u2, .int .i64 t.w0, .int .i64 t.w1, .int .i64 t.w2, .int .i64 t.regs]]) Try.func16 rfl rfl (Nat.le_of_ble_eq_true rfl) ?_ (Own.start w)
  refine WC.seq ?_
  refine WC.region ?_
  refine WL.effect rfl (EV.boxAgg (by decide) rfl rfl (fun b0 => ?_))
  refine WL.quiet Own.closed rfl (by decide) (GuardIs.none) (fun _ => QV.assign rfl rfl) ?_
  refine WL.nil ?_
  refine WQ.then ?_
  refine WC.seq ?_
  refine WC.seq ?_
  refine WC.region ?_
  refine WL.quiet Own.closed rfl (by decide) (GuardIs.none) (fun _ => QV.assign rfl rfl) ?_
  refine WL.nil ?_
  refine WQ.then ?_
  refine WC.block ?_
  refine WC.loopC (τ := [(1, (true, _))]) (fun i : Int => [(3, (true, .int .i64 i))]) _ (fun i : Int => tgtTo t i) (fun i : Int => (3 - i).toNat) 0 (by unfold tgtTo; omega) ⟨rfl, rfl, trivial⟩ (fun w hw => hw) ?_
  rintro i hi
  have hi2 := hi; unfold tgtTo at hi2
  refine WC.seq ?_
  refine WC.seq ?_
  refine WC.region ?_
  refine WL.quiet Own.closed rfl (by decide) (GuardIs.none) (fun _ => QV.move rfl rfl) ?_
  refine WL.quiet Own.closed rfl (by decide) (GuardIs.none) (fun _ => QV.lss rfl rfl rfl rfl) ?_
  refine WL.nil ?_
  refine WQ.then ?_
  refine WC.cond rfl (fun h5 => ?_) (fun h5 => ?_)
  · skip
    have hlt := of_decide_eq_true h5
    refine WC.skip ?_
    refine WQ.then ?_
    refine WC.seq ?_
    refine WC.block ?_
    refine WC.seq ?_
    refine WC.region ?_
    refine WL.quiet Own.closed rfl (by decide) (GuardIs.none) (fun _ => QV.move rfl rfl) ?_
    refine WL.quiet Own.closed rfl (by decide) (GuardIs.none) (fun _ => QV.fieldAddr fd26_0 rfl rfl) ?_
    refine WL.quiet Own.closed rfl (by decide) (GuardIs.none) (fun _ => QV.indexArray ar24 rfl rfl rfl rfl (by omega) (by omega)) ?_
    refine WL.quiet Own.closed rfl (by decide) (GuardIs.none) (fun _ => QV.load pl3 rfl rfl (Own.cellSym 0 rfl (sel3_get (off := 0) (i := i) (by omega) (by omega) rfl rfl rfl) (addr_sym _ _ _))) ?_
    refine WL.quiet Own.closed rfl (by decide) (GuardIs.none) (fun _ => QV.lss rfl rfl rfl rfl) ?_
    refine WL.quiet Own.closed rfl (by decide) (GuardIs.none) (fun _ => QV.move rfl rfl) ?_
    refine WL.quiet Own.closed rfl (by decide) (GuardIs.neg rfl rfl) (fun hG => QV.move rfl rfl) ?_
    refine WL.quiet Own.closed rfl (by decide) (GuardIs.neg rfl rfl) (fun hG => QV.fieldAddr fd26_0 rfl rfl) ?_
    refine WL.quiet Own.closed rfl (by decide) (GuardIs.neg rfl rfl) (fun hG => QV.indexArray ar24 rfl hG rfl hG (by omega) (by omega)) ?_
    refine WL.quiet Own.closed rfl (by decide) (GuardIs.neg rfl rfl) (fun hG => QV.load pl3 rfl hG (Own.cellSym 0 rfl (sel3_get (off := 0) (i := i) (by omega) (by omega) rfl rfl rfl) (addr_sym _ _ _))) ?_
    refine WL.quiet Own.closed rfl (by decide) (GuardIs.neg rfl rfl) (fun hG => QV.gtr rfl hG rfl rfl) ?_
    refine WL.quiet Own.closed rfl (by decide) (GuardIs.none) (fun _ => QV.pickOr rfl rfl rfl (fun h => notF h)) ?_
    refine WL.quiet Own.closed rfl (by decide) (GuardIs.none) (fun _ => QV.move rfl rfl) ?_
    refine WL.quiet Own.closed rfl (by decide) (GuardIs.neg rfl rfl) (fun hG => QV.move rfl rfl) ?_
    refine WL.quiet Own.closed rfl (by decide) (GuardIs.neg rfl rfl) (fun hG => QV.fieldAddr fd26_1 rfl rfl) ?_
    refine WL.quiet Own.closed rfl (by decide) (GuardIs.neg rfl rfl) (fun hG => QV.indexArray ar24 rfl hG rfl hG (by omega) (by omega)) ?_
    refine WL.quiet Own.closed rfl (by decide) (GuardIs.neg rfl rfl) (fun hG => QV.load pl3 rfl hG (Own.cellSym 0 rfl (sel3_get (off := 3) (i := i) (by omega) (by omega) rfl rfl rfl) (addr_sym _ _ _))) ?_
    refine WL.quiet Own.closed rfl (by decide) (GuardIs.neg rfl rfl) (fun hG => QV.lss rfl hG rfl rfl) ?_
    refine WL.quiet Own.closed rfl (by decide) (GuardIs.none) (fun _ => QV.pickOr rfl rfl rfl (fun h => notF h)) ?_
    refine WL.quiet Own.closed rfl (by decide) (GuardIs.none) (fun _ => QV.move rfl rfl) ?_
    refine WL.quiet Own.closed rfl (by decide) (GuardIs.neg rfl rfl) (fun hG => QV.move rfl rfl) ?_
    refine WL.quiet Own.closed rfl (by decide) (GuardIs.neg rfl rfl) (fun hG => QV.fieldAddr fd26_1 rfl rfl) ?_
    refine WL.quiet Own.closed rfl (by decide) (GuardIs.neg rfl rfl) (fun hG => QV.indexArray ar24 rfl hG rfl hG (by omega) (by omega)) ?_
    refine WL.quiet Own.closed rfl (by decide) (GuardIs.neg rfl rfl) (fun hG => QV.load pl3 rfl hG (Own.cellSym 0 rfl (sel3_get (off := 3) (i := i) (by omega) (by omega) rfl rfl rfl) (addr_sym _ _ _))) ?_
    refine WL.quiet Own.closed rfl (by decide) (GuardIs.neg rfl rfl) (fun hG => QV.gtr rfl hG rfl rfl) ?_
    refine WL.quiet Own.closed rfl (by decide) (GuardIs.none) (fun _ => QV.pickOr rfl rfl rfl (fun h => notF h)) ?_
    refine WL.nil ?_
    refine WQ.then ?_
    refine WC.cond rfl (fun h33 => ?_) (fun h33 => ?_)
    · skip
      refine WC.seq ?_
      refine WC.region ?_
      refine WL.quiet Own.closed rfl (by decide) (GuardIs.none) (fun _ => QV.assign rfl rfl) ?_
      refine WL.nil ?_
      refine WQ.then ?_
      refine WC.ret ?_
      refine WQ.block_ret ?_
      refine WQ.then_ret ?_
      refine WQ.then_ret ?_
      refine WQ.block_ret ?_
      refine WQ.then_ret ?_
      refine WQ.ret1 rfl rfl (fun w hw => ?_)
      refine ⟨ret_bool ?_, hw.grow⟩; first | exact (tgt_bad (by omega) (by omega) h33).symm | exact tgt_end' hi (of_decide_eq_false h5)
    · skip
      refine WC.skip ?_
      refine WQ.block ?_
      refine WQ.then ?_
      refine WC.region ?_
      refine WL.quiet Own.closed rfl (by decide) (GuardIs.none) (fun _ => QV.move rfl rfl) ?_
      refine WL.quiet Own.closed rfl (by decide) (GuardIs.none) (fun _ => QV.add rfl rfl rfl rfl (by omega)) ?_
      refine WL.quiet Own.closed rfl (by decide) (GuardIs.none) (fun _ => QV.assign rfl rfl) ?_
      refine WL.nil ?_
      refine WQ.againC (i + 1) ?_ ?_ ⟨rfl, rfl, trivial⟩ (fun w hw => hw)
      · exact tgt_next hi (of_decide_eq_true h5) (by unfold tgtBad; assumption)
      · have := of_decide_eq_true h5; omega
  · skip
    refine WC.exit ?_
    refine WQ.then_exit ?_
    refine WQ.then_exit ?_
    refine WQ.block_exit ?_
    refine WQ.then ?_
    refine WC.seq ?_
    refine WC.region ?_
    refine WL.quiet Own.closed rfl (by decide) (GuardIs.none) (fun _ => QV.fieldAddr fd26_2 rfl rfl) ?_
    refine WL.quiet Own.closed rfl (by decide) (GuardIs.none) (fun _ => QV.load pl3 rfl rfl (Own.cell 0 rfl rfl)) ?_
    refine WL.quiet Own.closed rfl (by decide) (GuardIs.none) (fun _ => QV.gtr rfl rfl rfl rfl) ?_
    refine WL.quiet Own.closed rfl (by decide) (GuardIs.none) (fun _ => QV.move rfl rfl) ?_
    refine WL.quiet Own.closed rfl (by decide) (GuardIs.pos rfl rfl) (fun hG => QV.fieldAddr fd26_2 rfl rfl) ?_
    refine WL.quiet Own.closed rfl (by decide) (GuardIs.pos rfl rfl) (fun hG => QV.load pl3 rfl hG (Own.cell 0 rfl rfl)) ?_
    refine WL.quiet Own.closed rfl (by decide) (GuardIs.pos rfl rfl) (fun hG => QV.leq rfl hG rfl rfl) ?_
    refine WL.quiet Own.closed rfl (by decide) (GuardIs.none) (fun _ => QV.pickAnd rfl rfl rfl (fun h => h)) ?_
    refine WL.quiet Own.closed rfl (by decide) (GuardIs.none) (fun _ => QV.assign rfl rfl) ?_
    refine WL.nil ?_
    refine WQ.then ?_
    refine WC.ret ?_
    refine WQ.ret1 rfl rfl (fun w hw => ?_)
    refine ⟨ret_bool ?_, hw.grow⟩; first | exact (tgt_bad (by omega) (by omega) h33).symm | exact tgt_end' hi (of_decide_eq_false h5)

set_option maxRecDepth 4000 in
theorem target_Wait (t : Tgt) (op : Int) (w : World)  : Calls Try.prog 15 #[.agg #[.int .i64 t.u0, .int .i64 t.u1, .int .i64 t.u2, .int .i64 t.w0, .int .i64 t.w1, .int .i64 t.w2, .int .i64 t.regs], .int .i64 op] w (fun e w' => e = .returned (.int .i64 (waitV t op)) ∧ Grow w w') := by
  refine calls_of_WC (n := 13) (args := [.agg #[.int .i64 t.u0, .int .i64 t.u1, .int .i64 t.u2, .int .i64 t.w0, .int .i64 t.w1, .int .i64 t.w2, .int .i64 t.regs], .int .i64 op]) Try.func15 rfl rfl (Nat.le_of_ble_eq_true rfl) ?_ (Own.start w)
  have hcl := clsV_range op
  refine WC.seq ?_
  refine WC.region ?_
  refine WL.effect rfl (EV.boxAgg (by decide) rfl rfl (fun b0 => ?_))
  refine WL.quiet Own.closed rfl (by decide) (GuardIs.none) (fun _ => QV.assign rfl rfl) ?_
  refine WL.nil ?_
  refine WQ.then ?_
  refine WC.seq ?_
  refine WC.seq ?_
  refine WC.region ?_
  refine WL.quiet Own.closed rfl (by decide) (GuardIs.none) (fun _ => QV.loadAgg ag26 rfl rfl rfl (Own.cellsBlk 0 rfl)) ?_
  refine WL.quiet Own.closed rfl (by decide) (GuardIs.none) (fun _ => QV.call en14 (EvAll.cons rfl rfl EvAll.nil) (fun w hw => target_May t w)) ?_
  refine WL.quiet Own.closed rfl (by decide) (GuardIs.none) (fun _ => QV.not rfl rfl) ?_
  refine WL.nil ?_
  refine WQ.then ?_
  refine WC.cond rfl (fun h7 => ?_) (fun h7 => ?_)
  · skip
    refine WC.seq ?_
    refine WC.region ?_
    refine WL.quiet Own.closed rfl (by decide) (GuardIs.none) (fun _ => QV.assign rfl rfl) ?_
    refine WL.nil ?_
    refine WQ.then ?_
    refine WC.ret ?_
    refine WQ.then_ret ?_
    refine WQ.ret1 rfl rfl (fun w hw => ?_)
    refine ⟨ret_int ?_, hw.grow⟩; unfold waitV; first | (rw [if_pos (by simpa using h7)]) | (rw [if_neg (by simpa using h7)]) | (rw [if_pos (by simpa using h8)]) | (rw [if_neg (by simpa using h8)])
  · skip
    refine WC.skip ?_
    refine WQ.then ?_
    refine WC.seq ?_
    refine WC.region ?_
    refine WL.quiet Own.closed rfl (by decide) (GuardIs.none) (fun _ => QV.move rfl rfl) ?_
    refine WL.quiet Own.closed rfl (by decide) (GuardIs.none) (fun _ => QV.call en24 (EvAll.cons rfl rfl EvAll.nil) (fun w hw => num_Class _ w)) ?_
    refine WL.quiet Own.closed rfl (by decide) (GuardIs.none) (fun _ => QV.fieldAddr fd26_1 rfl rfl) ?_
    refine WL.quiet Own.closed rfl (by decide) (GuardIs.none) (fun _ => QV.indexArray ar24 rfl rfl rfl rfl (by omega) (by omega)) ?_
    refine WL.quiet Own.closed rfl (by decide) (GuardIs.none) (fun _ => QV.load pl3 rfl rfl (Own.cellSym 0 rfl (sel3_get (off := 3) (i := (clsV (op))) (by omega) (by omega) rfl rfl rfl) (addr_sym _ _ _))) ?_
    refine WL.quiet Own.closed rfl (by decide) (GuardIs.none) (fun _ => QV.assign rfl rfl) ?_
    refine WL.nil ?_
    refine WQ.then ?_
    refine WC.ret ?_
    refine WQ.ret1 rfl rfl (fun w hw => ?_)
    refine ⟨ret_int ?_, hw.grow⟩; unfold waitV; first | (rw [if_pos (by simpa using h7)]) | (rw [if_neg (by simpa using h7)]) | (rw [if_pos (by simpa using h8)]) | (rw [if_neg (by simpa using h8)])

set_option maxRecDepth 4000 in
theorem roundelayref4_Wait (t : Tgt) (op : Int) (w : World)  : Calls Try.prog 17 #[.agg #[.int .i64 t.u0, .int .i64 t.u1, .int .i64 t.u2, .int .i64 t.w0, .int .i64 t.w1, .int .i64 t.w2, .int .i64 t.regs], .int .i64 op] w (fun e w' => e = .returned (.int .i64 (waitV t op)) ∧ Grow w w') := by
  refine calls_of_WC (n := 15) (args := [.agg #[.int .i64 t.u0, .int .i64 t.u1, .int .i64 t.u2, .int .i64 t.w0, .int .i64 t.w1, .int .i64 t.w2, .int .i64 t.regs], .int .i64 op]) Try.func17 rfl rfl (Nat.le_of_ble_eq_true rfl) ?_ (Own.start w)
  have hcl := clsV_range op
  refine WC.seq ?_
  refine WC.region ?_
  refine WL.effect rfl (EV.boxAgg (by decide) rfl rfl (fun b0 => ?_))
  refine WL.quiet Own.closed rfl (by decide) (GuardIs.none) (fun _ => QV.assign rfl rfl) ?_
  refine WL.nil ?_
  refine WQ.then ?_
  refine WC.seq ?_
  refine WC.seq ?_
  refine WC.region ?_
  refine WL.quiet Own.closed rfl (by decide) (GuardIs.none) (fun _ => QV.loadAgg ag26 rfl rfl rfl (Own.cellsBlk 0 rfl)) ?_
  refine WL.quiet Own.closed rfl (by decide) (GuardIs.none) (fun _ => QV.call en16 (EvAll.cons rfl rfl EvAll.nil) (fun w hw => roundelayref4_May t w)) ?_
  refine WL.quiet Own.closed rfl (by decide) (GuardIs.none) (fun _ => QV.not rfl rfl) ?_
  refine WL.nil ?_
  refine WQ.then ?_
  refine WC.cond rfl (fun h8 => ?_) (fun h8 => ?_)
  · skip
    refine WC.seq ?_
    refine WC.region ?_
    refine WL.quiet Own.closed rfl (by decide) (GuardIs.none) (fun _ => QV.assign rfl rfl) ?_
    refine WL.nil ?_
    refine WQ.then ?_
    refine WC.ret ?_
    refine WQ.then_ret ?_
    refine WQ.ret1 rfl rfl (fun w hw => ?_)
    refine ⟨ret_int ?_, hw.grow⟩; unfold waitV; first | (rw [if_pos (by simpa using h7)]) | (rw [if_neg (by simpa using h7)]) | (rw [if_pos (by simpa using h8)]) | (rw [if_neg (by simpa using h8)])
  · skip
    refine WC.skip ?_
    refine WQ.then ?_
    refine WC.seq ?_
    refine WC.region ?_
    refine WL.quiet Own.closed rfl (by decide) (GuardIs.none) (fun _ => QV.move rfl rfl) ?_
    refine WL.quiet Own.closed rfl (by decide) (GuardIs.none) (fun _ => QV.call en26 (EvAll.cons rfl rfl EvAll.nil) (fun w hw => roundelayref1_Class _ w)) ?_
    refine WL.quiet Own.closed rfl (by decide) (GuardIs.none) (fun _ => QV.assign rfl rfl) ?_
    refine WL.nil ?_
    refine WQ.then ?_
    refine WC.seq ?_
    refine WC.region ?_
    refine WL.quiet Own.closed rfl (by decide) (GuardIs.none) (fun _ => QV.move rfl rfl) ?_
    refine WL.quiet Own.closed rfl (by decide) (GuardIs.none) (fun _ => QV.fieldAddr fd26_1 rfl rfl) ?_
    refine WL.quiet Own.closed rfl (by decide) (GuardIs.none) (fun _ => QV.indexArray ar24 rfl rfl rfl rfl (by omega) (by omega)) ?_
    refine WL.quiet Own.closed rfl (by decide) (GuardIs.none) (fun _ => QV.load pl3 rfl rfl (Own.cellSym 0 rfl (sel3_get (off := 3) (i := (clsV (op))) (by omega) (by omega) rfl rfl rfl) (addr_sym _ _ _))) ?_
    refine WL.quiet Own.closed rfl (by decide) (GuardIs.none) (fun _ => QV.assign rfl rfl) ?_
    refine WL.nil ?_
    refine WQ.then ?_
    refine WC.ret ?_
    refine WQ.ret1 rfl rfl (fun w hw => ?_)
    refine ⟨ret_int ?_, hw.grow⟩; unfold waitV; first | (rw [if_pos (by simpa using h7)]) | (rw [if_neg (by simpa using h7)]) | (rw [if_pos (by simpa using h8)]) | (rw [if_neg (by simpa using h8)])

set_option maxRecDepth 4000 in
theorem roundelaylaw_TargetTells (t : Tgt) (op : Int) (w : World)  : Calls Try.prog 4 #[.agg #[.int .i64 t.u0, .int .i64 t.u1, .int .i64 t.u2, .int .i64 t.w0, .int .i64 t.w1, .int .i64 t.w2, .int .i64 t.regs], .int .i64 op] w (fun e w' => e = .returned (.bool true) ∧ Grow w w') := by
  refine calls_of_WC (n := 23) (args := [.agg #[.int .i64 t.u0, .int .i64 t.u1, .int .i64 t.u2, .int .i64 t.w0, .int .i64 t.w1, .int .i64 t.w2, .int .i64 t.regs], .int .i64 op]) Try.func4 rfl rfl (Nat.le_of_ble_eq_true rfl) ?_ (Own.start w)
  refine WC.seq ?_
  refine WC.region ?_
  refine WL.effect rfl (EV.boxAgg (by decide) rfl rfl (fun b0 => ?_))
  refine WL.quiet Own.closed rfl (by decide) (GuardIs.none) (fun _ => QV.assign rfl rfl) ?_
  refine WL.nil ?_
  refine WQ.then ?_
  refine WC.seq ?_
  refine WC.region ?_
  refine WL.quiet Own.closed rfl (by decide) (GuardIs.none) (fun _ => QV.loadAgg ag26 rfl rfl rfl (Own.cellsBlk 0 rfl)) ?_
  refine WL.quiet Own.closed rfl (by decide) (GuardIs.none) (fun _ => QV.call en14 (EvAll.cons rfl rfl EvAll.nil) (fun w hw => target_May t w)) ?_
  refine WL.quiet Own.closed rfl (by decide) (GuardIs.none) (fun _ => QV.assign rfl rfl) ?_
  refine WL.nil ?_
  refine WQ.then ?_
  refine WC.seq ?_
  refine WC.region ?_
  refine WL.quiet Own.closed rfl (by decide) (GuardIs.none) (fun _ => QV.loadAgg ag26 rfl rfl rfl (Own.cellsBlk 0 rfl)) ?_
  refine WL.quiet Own.closed rfl (by decide) (GuardIs.none) (fun _ => QV.move rfl rfl) ?_
  refine WL.quiet Own.closed rfl (by decide) (GuardIs.none) (fun _ => QV.call en15 (EvAll.cons rfl rfl (EvAll.cons rfl rfl EvAll.nil)) (fun w hw => target_Wait t _ w)) ?_
  refine WL.quiet Own.closed rfl (by decide) (GuardIs.none) (fun _ => QV.assign rfl rfl) ?_
  refine WL.nil ?_
  refine WQ.then ?_
  refine WC.seq ?_
  refine WC.region ?_
  refine WL.quiet Own.closed rfl (by decide) (GuardIs.none) (fun _ => QV.move rfl rfl) ?_
  refine WL.quiet Own.closed rfl (by decide) (GuardIs.none) (fun _ => QV.loadAgg ag26 rfl rfl rfl (Own.cellsBlk 0 rfl)) ?_
  refine WL.quiet Own.closed rfl (by decide) (GuardIs.none) (fun _ => QV.call en16 (EvAll.cons rfl rfl EvAll.nil) (fun w hw => roundelayref4_May t w)) ?_
  refine WL.quiet Own.closed rfl (by decide) (GuardIs.none) (fun _ => QV.eqlB Try.underlying4 rfl rfl rfl rfl) ?_
  refine WL.quiet Own.closed rfl (by decide) (GuardIs.none) (fun _ => QV.move rfl rfl) ?_
  refine WL.quiet Own.closed rfl (by decide) (GuardIs.pos rfl rfl) (fun hG => QV.move rfl rfl) ?_
  refine WL.quiet Own.closed rfl (by decide) (GuardIs.pos rfl rfl) (fun hG => QV.loadAgg ag26 rfl rfl rfl (Own.cellsBlk 0 rfl)) ?_
  refine WL.quiet Own.closed rfl (by decide) (GuardIs.pos rfl rfl) (fun hG => QV.move rfl rfl) ?_
  refine WL.quiet Own.closed rfl (by decide) (GuardIs.pos rfl rfl) (fun hG => QV.call en17 (EvAll.cons rfl hG (EvAll.cons rfl hG EvAll.nil)) (fun w hw => roundelayref4_Wait t _ w)) ?_
  refine WL.quiet Own.closed rfl (by decide) (GuardIs.pos rfl rfl) (fun hG => QV.eql rfl hG rfl hG) ?_
  refine WL.quiet Own.closed rfl (by decide) (GuardIs.none) (fun _ => QV.pickAnd rfl rfl rfl (fun h => h)) ?_
  refine WL.quiet Own.closed rfl (by decide) (GuardIs.none) (fun _ => QV.assign rfl rfl) ?_
  refine WL.nil ?_
  refine WQ.then ?_
  refine WC.ret ?_
  refine WQ.ret1 rfl rfl (fun w hw => ?_)
  exact ⟨ret_bool (by simp), hw.grow⟩
end Go.Proofs.Ytaimbkndebaaiaa
