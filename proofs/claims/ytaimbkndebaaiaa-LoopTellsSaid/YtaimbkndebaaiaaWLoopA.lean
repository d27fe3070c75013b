/- Walks. -/
import Derived.Test.YtaimbkndebaaiaaTypes
import Derived.Test.YtaimbkndebaaiaaWLoop
namespace Go.Proofs.Ytaimbkndebaaiaa
open Go.Rd
set_option linter.unusedVariables false
set_option linter.unusedSimpArgs false
set_option maxRecDepth 8000 in
set_option maxHeartbeats 1000000 in
theorem loop_stmt {v1 v2 v3 : Value} (l : Lp) (k : Int) (w : World) (hL : LpRep w v1 v2 v3 l) (hk : 0 ≤ k ∧ k < l.body.length) : Calls Try.prog 49 #[.agg #[v1, v2, v3], .int .i64 k] w (fun e w' => e = .returned (.bool (tb (StmtOk l.logs.length l.body.length k (l.body.getD k.toNat Stm.zero)))) ∧ Grow w w') := by
  refine calls_of_WC (n := 132) (args := [.agg #[v1, v2, v3], .int .i64 k]) Try.func49 rfl rfl (Nat.le_of_ble_eq_true rfl) ?_ (Own.start w)
  have hb1 := hL.lbody; have hb2 := hL.llogs; have hb3 := hL.louts; unfold maxLen at hb1 hb2 hb3
  refine WC.seq ?_
  refine WC.region ?_
  refine WL.effect rfl (EV.boxAgg (by decide) rfl rfl (fun b0 => ?_))
  refine WL.quiet Own.closed rfl (by decide) (GuardIs.none) (fun _ => QV.assign rfl rfl) ?_
  refine WL.nil ?_
  refine WQ.then ?_
  refine WC.seq ?_
  refine WC.region ?_
  refine WL.quiet Own.closed rfl (by decide) (GuardIs.none) (fun _ => QV.fieldAddr fd51_1 rfl rfl) ?_
  refine WL.quiet Own.closed rfl (by decide) (GuardIs.none) (fun _ => QV.load pl49 rfl rfl (Own.cell 0 rfl rfl)) ?_
  refine WL.quiet Own.closed rfl (by decide) (GuardIs.none) (fun _ => QV.move rfl rfl) ?_
  obtain ⟨p1, hp1, hc1⟩ := hL.body.at Stm.zero k (by omega) (by omega)
  refine WL.quiet Own.closed rfl (by decide) (GuardIs.none) (fun _ => QV.indexSlice sl49 rfl rfl rfl rfl hp1) ?_
  refine WL.quiet Own.closed rfl (by decide) (GuardIs.none) (fun _ => QV.loadAgg ag93 rfl rfl rfl (Own.cells hc1)) ?_
  refine WL.effect rfl (EV.alloc (by decide) ze93 (fun b2 => ?_))
  refine WL.effect rfl (EV.store 0 rfl rfl rfl rfl rfl rfl (vs := _) (show Value.cells _ = List.toArray _ from rfl) sz93 (Nat.le_of_ble_eq_true rfl) (one_cons rfl (one_cons rfl (one_cons rfl (one_cons rfl (one_cons rfl (one_cons rfl (one_cons rfl (one_cons rfl (one_cons rfl one_nil))))))))) ?_)
  refine WL.nil ?_
  refine WQ.then ?_
  refine WC.seq ?_
  refine WC.region ?_
  refine WL.quiet Own.closed rfl (by decide) (GuardIs.none) (fun _ => QV.build (ps := []) (cells := [.int .i64 0, .int .i64 0]) EvAll.nil (by kernel_rfl)) ?_
  refine WL.effect rfl (EV.alloc (by decide) ze91 (fun b3 => ?_))
  refine WL.effect rfl (EV.store 0 rfl rfl rfl rfl rfl rfl (vs := _) (show Value.cells _ = List.toArray _ from rfl) sz91 (Nat.le_of_ble_eq_true rfl) (one_cons rfl (one_cons rfl one_nil)) ?_)
  refine WL.nil ?_
  refine WQ.then ?_
  refine WC.seq ?_
  refine WC.region ?_
  refine WL.quiet Own.closed rfl (by decide) (GuardIs.none) (fun _ => QV.fieldAddr fd93_3 rfl rfl) ?_
  refine WL.quiet Own.closed rfl (by decide) (GuardIs.none) (fun _ => QV.load pl3 rfl rfl (Own.cell 1 rfl rfl)) ?_
  refine WL.quiet Own.closed rfl (by decide) (GuardIs.none) (fun _ => QV.fieldAddr fd51_0 rfl rfl) ?_
  refine WL.quiet Own.closed rfl (by decide) (GuardIs.none) (fun _ => QV.load pl48 rfl rfl (Own.cell 2 rfl rfl)) ?_
  refine WL.quiet Own.closed rfl (by decide) (GuardIs.none) (fun _ => QV.lenS Try.underlying48 rfl rfl hL.logs.lenMap) ?_
  refine WL.quiet Own.closed rfl (by decide) (GuardIs.none) (fun _ => QV.call en48 (EvAll.cons rfl rfl (EvAll.cons rfl rfl (EvAll.cons rfl rfl EvAll.nil))) (fun w hw => loop_in _ _ _ w)) ?_
  refine WL.quiet Own.closed rfl (by decide) (GuardIs.none) (fun _ => QV.move rfl rfl) ?_
  refine WL.quiet Own.closed rfl (by decide) (GuardIs.pos rfl rfl) (fun hG => QV.fieldAddr fd93_4 rfl rfl) ?_
  refine WL.quiet Own.closed rfl (by decide) (GuardIs.pos rfl rfl) (fun hG => QV.load pl3 rfl hG (Own.cell 1 rfl rfl)) ?_
  refine WL.quiet Own.closed rfl (by decide) (GuardIs.pos rfl rfl) (fun hG => QV.call en48 (EvAll.cons rfl hG (EvAll.cons rfl rfl (EvAll.cons rfl rfl EvAll.nil))) (fun w hw => loop_in _ _ _ w)) ?_
  refine WL.quiet Own.closed rfl (by decide) (GuardIs.none) (fun _ => QV.pickAnd rfl rfl rfl (fun h => h)) ?_
  refine WL.quiet Own.closed rfl (by decide) (GuardIs.none) (fun _ => QV.move rfl rfl) ?_
  refine WL.quiet Own.closed rfl (by decide) (GuardIs.pos rfl rfl) (fun hG => QV.fieldAddr fd93_5 rfl rfl) ?_
  refine WL.quiet Own.closed rfl (by decide) (GuardIs.pos rfl rfl) (fun hG => QV.load pl3 rfl hG (Own.cell 1 rfl rfl)) ?_
  refine WL.quiet Own.closed rfl (by decide) (GuardIs.pos rfl rfl) (fun hG => QV.call en48 (EvAll.cons rfl hG (EvAll.cons rfl rfl (EvAll.cons rfl rfl EvAll.nil))) (fun w hw => loop_in _ _ _ w)) ?_
  refine WL.quiet Own.closed rfl (by decide) (GuardIs.none) (fun _ => QV.pickAnd rfl rfl rfl (fun h => h)) ?_
  refine WL.quiet Own.closed rfl (by decide) (GuardIs.none) (fun _ => QV.assign rfl rfl) ?_
  refine WL.nil ?_
  refine WQ.then ?_
  refine WC.seq ?_
  refine WC.region ?_
  refine WL.quiet Own.closed rfl (by decide) (GuardIs.none) (fun _ => QV.fieldAddr fd93_3 rfl rfl) ?_
  refine WL.quiet Own.closed rfl (by decide) (GuardIs.none) (fun _ => QV.load pl3 rfl rfl (Own.cell 1 rfl rfl)) ?_
  refine WL.quiet Own.closed rfl (by decide) (GuardIs.none) (fun _ => QV.eql rfl rfl rfl rfl) ?_
  refine WL.quiet Own.closed rfl (by decide) (GuardIs.none) (fun _ => QV.move rfl rfl) ?_
  refine WL.quiet Own.closed rfl (by decide) (GuardIs.pos rfl rfl) (fun hG => QV.fieldAddr fd93_4 rfl rfl) ?_
  refine WL.quiet Own.closed rfl (by decide) (GuardIs.pos rfl rfl) (fun hG => QV.load pl3 rfl hG (Own.cell 1 rfl rfl)) ?_
  refine WL.quiet Own.closed rfl (by decide) (GuardIs.pos rfl rfl) (fun hG => QV.eql rfl hG rfl rfl) ?_
  refine WL.quiet Own.closed rfl (by decide) (GuardIs.none) (fun _ => QV.pickAnd rfl rfl rfl (fun h => h)) ?_
  refine WL.quiet Own.closed rfl (by decide) (GuardIs.none) (fun _ => QV.move rfl rfl) ?_
  refine WL.quiet Own.closed rfl (by decide) (GuardIs.pos rfl rfl) (fun hG => QV.fieldAddr fd93_5 rfl rfl) ?_
  refine WL.quiet Own.closed rfl (by decide) (GuardIs.pos rfl rfl) (fun hG => QV.load pl3 rfl hG (Own.cell 1 rfl rfl)) ?_
  refine WL.quiet Own.closed rfl (by decide) (GuardIs.pos rfl rfl) (fun hG => QV.eql rfl hG rfl rfl) ?_
  refine WL.quiet Own.closed rfl (by decide) (GuardIs.none) (fun _ => QV.pickAnd rfl rfl rfl (fun h => h)) ?_
  refine WL.quiet Own.closed rfl (by decide) (GuardIs.none) (fun _ => QV.assign rfl rfl) ?_
  refine WL.nil ?_
  refine WQ.then ?_
  refine WC.seq ?_
  refine WC.seq ?_
  refine WC.region ?_
  refine WL.quiet Own.closed rfl (by decide) (GuardIs.none) (fun _ => QV.loadAgg ag93 rfl rfl rfl (Own.cellsBlk 1 rfl)) ?_
  refine WL.effect rfl (EV.callM (fun u => u) (fun u => arr u 2 ((usesL (l.body.getD k.toNat Stm.zero)).map Rf.cells)) (fun u => SliceLen u (usesL (l.body.getD k.toNat Stm.zero)).length) (by decide) en57 (EvAll.cons rfl rfl EvAll.nil) (fun w hw => loop_Uses (l.body.getD k.toNat Stm.zero) w) (fun u4 hF4 => ?_))
  have hul4 := usesL_len (l.body.getD k.toNat Stm.zero)
  refine WL.quiet Own.closed rfl (by decide) (GuardIs.none) (fun _ => QV.lenS Try.underlying96 rfl rfl hF4) ?_
  refine WL.quiet Own.closed rfl (by decide) (GuardIs.none) (fun _ => QV.move rfl rfl) ?_
  refine WL.nil ?_
  refine WQ.then ?_
  refine WC.block ?_
  refine WC.loopC (τ := [(1, (true, _)), (2, (true, _)), (5, (true, _)), (6, (true, _)), (7, (true, _)), (8, (true, _)), (47, (true, _)), (48, (true, _))]) (fun i : Int => [(49, (true, .int .i64 i))]) _ (fun i : Int => 0 ≤ i ∧ i ≤ (usesL (l.body.getD k.toNat Stm.zero)).length ∧ UsesTo l.body.length k i (l.body.getD k.toNat Stm.zero)) (fun i : Int => ((usesL (l.body.getD k.toNat Stm.zero)).length - i).toNat) 0 (⟨by omega, by omega, uses_start⟩) ⟨rfl, rfl, rfl, rfl, rfl, rfl, rfl, rfl, rfl, trivial⟩ (fun w hw => hw) ?_
  rintro i ⟨hi0, hi1, hiU⟩
  refine WC.seq ?_
  refine WC.region ?_
  refine WL.quiet Own.closed rfl (by decide) (GuardIs.none) (fun _ => QV.lss rfl rfl rfl rfl) ?_
  refine WL.nil ?_
  refine WQ.then ?_
  refine WC.seq ?_
  refine WC.cond rfl (fun h50 => ?_) (fun h50 => ?_)
  · skip
    have hlt := of_decide_eq_true h50
    refine WC.skip ?_
    refine WQ.then ?_
    refine WC.seq ?_
    refine WC.block ?_
    refine WC.seq ?_
    refine WC.region ?_
    have hl5 : i < ((usesL (l.body.getD k.toNat Stm.zero)).length : Int) := (by omega)
    obtain ⟨p5, hp5⟩ := SliceLen.elem hF4 2 i (by omega) hl5
    refine WL.quiet Own.closed rfl (by decide) (GuardIs.none) (fun _ => QV.indexSlice sl96 rfl rfl rfl rfl hp5) ?_
    refine WL.quiet Own.closed rfl (by decide) (GuardIs.none) (fun _ => QV.loadAgg ag91 rfl rfl rfl (Own.arrCells 0 Rf.zero rfl hp5 hl5)) ?_
    refine WL.effect rfl (EV.alloc (by decide) ze91 (fun b6 => ?_))
    refine WL.effect rfl (EV.store 0 rfl rfl rfl rfl rfl rfl (vs := _) (show Value.cells _ = List.toArray _ from rfl) sz91 (Nat.le_of_ble_eq_true rfl) (one_cons rfl (one_cons rfl one_nil)) ?_)
    refine WL.nil ?_
    refine WQ.then ?_
    refine WC.seq ?_
    refine WC.region ?_
    refine WL.quiet Own.closed rfl (by decide) (GuardIs.none) (fun _ => QV.loadAgg ag51 rfl rfl rfl (Own.cellsBlk 4 rfl)) ?_
    refine WL.quiet Own.closed rfl (by decide) (GuardIs.none) (fun _ => QV.move rfl rfl) ?_
    refine WL.quiet Own.closed rfl (by decide) (GuardIs.none) (fun _ => QV.loadAgg ag91 rfl rfl rfl (Own.cellsBlk 0 rfl)) ?_
    refine WL.quiet Own.closed rfl (by decide) (GuardIs.none) (fun _ => QV.call en58 (EvAll.cons rfl rfl (EvAll.cons rfl rfl (EvAll.cons rfl rfl EvAll.nil))) (fun w hw => loop_ref l _ ((usesL (l.body.getD k.toNat Stm.zero)).getD i.toNat Rf.zero) w (hL.grow hw.grow))) ?_
    refine WL.quiet Own.closed rfl (by decide) (GuardIs.none) (fun _ => QV.not rfl rfl) ?_
    refine WL.nil ?_
    refine WQ.then ?_
    refine WC.cond rfl (fun h57 => ?_) (fun h57 => ?_)
    · skip
      refine WC.seq ?_
      refine WC.region ?_
      refine WL.quiet Own.closed rfl (by decide) (GuardIs.none) (fun _ => QV.assign rfl rfl) ?_
      refine WL.nil ?_
      refine WQ.then ?_
      refine WC.ret ?_
      refine WQ.block_ret ?_
      refine WQ.then_ret ?_
      refine WQ.then_ret ?_
      refine WQ.block_ret ?_
      refine WQ.then_ret ?_
      refine WQ.ret1 rfl rfl (fun w hw => ?_)
      refine ⟨ret_bool ?_, hw.grow⟩; first | exact (tb_nof (uses_bad hi0 hlt (by simpa [tb_not] using h57))).symm | (rw [tb_congr hse, tb_congr (rest_1 e1)]; apply tb_eq; simp [StillOk, Rf.isZero, and_assoc]; done) | (rw [tb_congr hse]; exact (tb_nof (rest_n e1 en)).symm) | (rw [tb_congr hse, tb_congr (rest_2 e2 en)]; apply tb_eq; simp [StillOk, Rf.isZero, and_assoc]; done) | (rw [tb_congr hse, tb_congr (rest_3 e3 en)]; apply tb_eq; simp [WordOk, Rf.isZero, and_assoc]; omega) | (rw [tb_congr hse, tb_congr (rest_4 e4 en)]; apply tb_eq; simp [WordOk, Rf.isZero, and_assoc]; omega) | (rw [tb_congr hse, tb_congr (rest_5 e1 e2 e3 e4 en), ← hs10]; apply tb_eq; simp [StillOk, Rf.isZero, and_assoc]; done)
    · skip
      refine WC.skip ?_
      refine WQ.block ?_
      refine WQ.then ?_
      refine WC.region ?_
      refine WL.quiet Own.closed rfl (by decide) (GuardIs.none) (fun _ => QV.add rfl rfl rfl rfl (by omega)) ?_
      refine WL.quiet Own.closed rfl (by decide) (GuardIs.none) (fun _ => QV.move rfl rfl) ?_
      refine WL.nil ?_
      refine WQ.againC (i + 1) ?_ ?_ ⟨rfl, rfl, rfl, rfl, rfl, rfl, rfl, rfl, rfl, trivial⟩ (fun w hw => hw.tail)
      · exact ⟨by omega, by have := of_decide_eq_true h50; omega, uses_next hiU hi0 (by simpa [tb_iff] using h57)⟩
      · have := of_decide_eq_true h50; omega
  · skip
    have hse := stmt_rest (nl := l.logs.length) hiU (of_decide_eq_false h50); have hs10 := op_sub10 (hL.sR k.toNat).1
    refine WC.exit ?_
    refine WQ.then_exit ?_
    refine WQ.then_exit ?_
    refine WQ.block_exit ?_
    refine WQ.then ?_
    refine WC.seq ?_
    refine WC.block ?_
    refine WC.seq ?_
    refine WC.region ?_
    refine WL.quiet Own.closed rfl (by decide) (GuardIs.none) (fun _ => QV.fieldAddr fd93_0 rfl rfl) ?_
    refine WL.quiet Own.closed rfl (by decide) (GuardIs.none) (fun _ => QV.load pl3 rfl rfl (Own.cell 2 rfl rfl)) ?_
    refine WL.quiet Own.closed rfl (by decide) (GuardIs.none) (fun _ => QV.eql rfl rfl rfl rfl) ?_
    refine WL.quiet Own.closed rfl (by decide) (GuardIs.none) (fun _ => QV.assign rfl rfl) ?_
    refine WL.nil ?_
    refine WQ.then ?_
    refine WC.cond rfl (fun h59 => ?_) (fun h59 => ?_)
    · skip
      have e1 := beq_iff_eq.1 h59
      refine WC.seq ?_
      refine WC.region ?_
      refine WL.quiet Own.closed rfl (by decide) (GuardIs.none) (fun _ => QV.move rfl rfl) ?_
      refine WL.quiet Own.closed rfl (by decide) (GuardIs.none) (fun _ => QV.move rfl rfl) ?_
      refine WL.quiet Own.closed rfl (by decide) (GuardIs.pos rfl rfl) (fun hG => QV.fieldAddr fd93_1 rfl rfl) ?_
      refine WL.quiet Own.closed rfl (by decide) (GuardIs.pos rfl rfl) (fun hG => QV.loadAgg ag91 rfl rfl hG (fun w hw => (Own.cellsBlk 2 rfl w hw).sub 1 2 rfl)) ?_
      refine WL.quiet Own.closed rfl (by decide) (GuardIs.pos rfl rfl) (fun hG => QV.loadAgg ag91 rfl rfl rfl (Own.cellsBlk 1 rfl)) ?_
      refine WL.quiet Own.closed rfl (by decide) (GuardIs.pos rfl rfl) (fun hG => QV.eqlF eq91 (ns := [(l.body.getD k.toNat Stm.zero).a.st, (l.body.getD k.toNat Stm.zero).a.bk]) (ms := [0, 0]) rfl hG rfl hG rfl rfl) ?_
      refine WL.quiet Own.closed rfl (by decide) (GuardIs.none) (fun _ => QV.pickAnd rfl rfl rfl (fun h => h)) ?_
      refine WL.quiet Own.closed rfl (by decide) (GuardIs.none) (fun _ => QV.move rfl rfl) ?_
      refine WL.quiet Own.closed rfl (by decide) (GuardIs.pos rfl rfl) (fun hG => QV.fieldAddr fd93_2 rfl rfl) ?_
      refine WL.quiet Own.closed rfl (by decide) (GuardIs.pos rfl rfl) (fun hG => QV.loadAgg ag91 rfl rfl hG (fun w hw => (Own.cellsBlk 2 rfl w hw).sub 3 2 rfl)) ?_
      refine WL.quiet Own.closed rfl (by decide) (GuardIs.pos rfl rfl) (fun hG => QV.loadAgg ag91 rfl rfl rfl (Own.cellsBlk 1 rfl)) ?_
      refine WL.quiet Own.closed rfl (by decide) (GuardIs.pos rfl rfl) (fun hG => QV.eqlF eq91 (ns := [(l.body.getD k.toNat Stm.zero).b.st, (l.body.getD k.toNat Stm.zero).b.bk]) (ms := [0, 0]) rfl hG rfl hG rfl rfl) ?_
      refine WL.quiet Own.closed rfl (by decide) (GuardIs.none) (fun _ => QV.pickAnd rfl rfl rfl (fun h => h)) ?_
      refine WL.quiet Own.closed rfl (by decide) (GuardIs.none) (fun _ => QV.assign rfl rfl) ?_
      refine WL.nil ?_
      refine WQ.then ?_
      refine WC.ret ?_
      refine WQ.block_ret ?_
      refine WQ.then_ret ?_
      refine WQ.ret1 rfl rfl (fun w hw => ?_)
      refine ⟨ret_bool ?_, hw.grow⟩; first | exact (tb_nof (uses_bad hi0 hlt (by simpa [tb_not] using h57))).symm | (rw [tb_congr hse, tb_congr (rest_1 e1)]; apply tb_eq; simp [StillOk, Rf.isZero, and_assoc]; done) | (rw [tb_congr hse]; exact (tb_nof (rest_n e1 en)).symm) | (rw [tb_congr hse, tb_congr (rest_2 e2 en)]; apply tb_eq; simp [StillOk, Rf.isZero, and_assoc]; done) | (rw [tb_congr hse, tb_congr (rest_3 e3 en)]; apply tb_eq; simp [WordOk, Rf.isZero, and_assoc]; omega) | (rw [tb_congr hse, tb_congr (rest_4 e4 en)]; apply tb_eq; simp [WordOk, Rf.isZero, and_assoc]; omega) | (rw [tb_congr hse, tb_congr (rest_5 e1 e2 e3 e4 en), ← hs10]; apply tb_eq; simp [StillOk, Rf.isZero, and_assoc]; done)
    · skip
      have e1 := beq_eq_false_iff_ne.1 h59
      refine WC.seq ?_
      refine WC.region ?_
      refine WL.quiet Own.closed rfl (by decide) (GuardIs.none) (fun _ => QV.fieldAddr fd93_6 rfl rfl) ?_
      refine WL.quiet Own.closed rfl (by decide) (GuardIs.none) (fun _ => QV.load pl2 rfl rfl (Own.cell 2 rfl rfl)) ?_
      refine WL.quiet Own.closed rfl (by decide) (GuardIs.none) (fun _ => QV.neq rfl rfl rfl rfl) ?_
      refine WL.quiet Own.closed rfl (by decide) (GuardIs.none) (fun _ => QV.assign rfl rfl) ?_
      refine WL.nil ?_
      refine WQ.then ?_
      refine WC.cond rfl (fun h76 => ?_) (fun h76 => ?_)
      · skip
        have en := bne_iff_ne.1 h76
        refine WC.seq ?_
        refine WC.region ?_
        refine WL.quiet Own.closed rfl (by decide) (GuardIs.none) (fun _ => QV.assign rfl rfl) ?_
        refine WL.nil ?_
        refine WQ.then ?_
        refine WC.ret ?_
        refine WQ.block_ret ?_
        refine WQ.then_ret ?_
        refine WQ.ret1 rfl rfl (fun w hw => ?_)
        refine ⟨ret_bool ?_, hw.grow⟩; first | exact (tb_nof (uses_bad hi0 hlt (by simpa [tb_not] using h57))).symm | (rw [tb_congr hse, tb_congr (rest_1 e1)]; apply tb_eq; simp [StillOk, Rf.isZero, and_assoc]; done) | (rw [tb_congr hse]; exact (tb_nof (rest_n e1 en)).symm) | (rw [tb_congr hse, tb_congr (rest_2 e2 en)]; apply tb_eq; simp [StillOk, Rf.isZero, and_assoc]; done) | (rw [tb_congr hse, tb_congr (rest_3 e3 en)]; apply tb_eq; simp [WordOk, Rf.isZero, and_assoc]; omega) | (rw [tb_congr hse, tb_congr (rest_4 e4 en)]; apply tb_eq; simp [WordOk, Rf.isZero, and_assoc]; omega) | (rw [tb_congr hse, tb_congr (rest_5 e1 e2 e3 e4 en), ← hs10]; apply tb_eq; simp [StillOk, Rf.isZero, and_assoc]; done)
      · skip
        have en := bne_eq_false_iff_eq.1 h76
        refine WC.seq ?_
        refine WC.region ?_
        refine WL.quiet Own.closed rfl (by decide) (GuardIs.none) (fun _ => QV.fieldAddr fd93_0 rfl rfl) ?_
        refine WL.quiet Own.closed rfl (by decide) (GuardIs.none) (fun _ => QV.load pl3 rfl rfl (Own.cell 2 rfl rfl)) ?_
        refine WL.quiet Own.closed rfl (by decide) (GuardIs.none) (fun _ => QV.eql rfl rfl rfl rfl) ?_
        refine WL.quiet Own.closed rfl (by decide) (GuardIs.none) (fun _ => QV.assign rfl rfl) ?_
        refine WL.nil ?_
        refine WQ.then ?_
        refine WC.cond rfl (fun h80 => ?_) (fun h80 => ?_)
        · skip
          have e2 := beq_iff_eq.1 h80
          refine WC.seq ?_
          refine WC.region ?_
          refine WL.quiet Own.closed rfl (by decide) (GuardIs.none) (fun _ => QV.move rfl rfl) ?_
          refine WL.quiet Own.closed rfl (by decide) (GuardIs.none) (fun _ => QV.move rfl rfl) ?_
          refine WL.quiet Own.closed rfl (by decide) (GuardIs.pos rfl rfl) (fun hG => QV.fieldAddr fd93_1 rfl rfl) ?_
          refine WL.quiet Own.closed rfl (by decide) (GuardIs.pos rfl rfl) (fun hG => QV.loadAgg ag91 rfl rfl hG (fun w hw => (Own.cellsBlk 2 rfl w hw).sub 1 2 rfl)) ?_
          refine WL.quiet Own.closed rfl (by decide) (GuardIs.pos rfl rfl) (fun hG => QV.loadAgg ag91 rfl rfl rfl (Own.cellsBlk 1 rfl)) ?_
          refine WL.quiet Own.closed rfl (by decide) (GuardIs.pos rfl rfl) (fun hG => QV.eqlF eq91 (ns := [(l.body.getD k.toNat Stm.zero).a.st, (l.body.getD k.toNat Stm.zero).a.bk]) (ms := [0, 0]) rfl hG rfl hG rfl rfl) ?_
          refine WL.quiet Own.closed rfl (by decide) (GuardIs.none) (fun _ => QV.pickAnd rfl rfl rfl (fun h => h)) ?_
          refine WL.quiet Own.closed rfl (by decide) (GuardIs.none) (fun _ => QV.move rfl rfl) ?_
          refine WL.quiet Own.closed rfl (by decide) (GuardIs.pos rfl rfl) (fun hG => QV.fieldAddr fd93_2 rfl rfl) ?_
          refine WL.quiet Own.closed rfl (by decide) (GuardIs.pos rfl rfl) (fun hG => QV.loadAgg ag91 rfl rfl hG (fun w hw => (Own.cellsBlk 2 rfl w hw).sub 3 2 rfl)) ?_
          refine WL.quiet Own.closed rfl (by decide) (GuardIs.pos rfl rfl) (fun hG => QV.loadAgg ag91 rfl rfl rfl (Own.cellsBlk 1 rfl)) ?_
          refine WL.quiet Own.closed rfl (by decide) (GuardIs.pos rfl rfl) (fun hG => QV.eqlF eq91 (ns := [(l.body.getD k.toNat Stm.zero).b.st, (l.body.getD k.toNat Stm.zero).b.bk]) (ms := [0, 0]) rfl hG rfl hG rfl rfl) ?_
          refine WL.quiet Own.closed rfl (by decide) (GuardIs.none) (fun _ => QV.pickAnd rfl rfl rfl (fun h => h)) ?_
          refine WL.quiet Own.closed rfl (by decide) (GuardIs.none) (fun _ => QV.assign rfl rfl) ?_
          refine WL.nil ?_
          refine WQ.then ?_
          refine WC.ret ?_
          refine WQ.block_ret ?_
          refine WQ.then_ret ?_
          refine WQ.ret1 rfl rfl (fun w hw => ?_)
          refine ⟨ret_bool ?_, hw.grow⟩; first | exact (tb_nof (uses_bad hi0 hlt (by simpa [tb_not] using h57))).symm | (rw [tb_congr hse, tb_congr (rest_1 e1)]; apply tb_eq; simp [StillOk, Rf.isZero, and_assoc]; done) | (rw [tb_congr hse]; exact (tb_nof (rest_n e1 en)).symm) | (rw [tb_congr hse, tb_congr (rest_2 e2 en)]; apply tb_eq; simp [StillOk, Rf.isZero, and_assoc]; done) | (rw [tb_congr hse, tb_congr (rest_3 e3 en)]; apply tb_eq; simp [WordOk, Rf.isZero, and_assoc]; omega) | (rw [tb_congr hse, tb_congr (rest_4 e4 en)]; apply tb_eq; simp [WordOk, Rf.isZero, and_assoc]; omega) | (rw [tb_congr hse, tb_congr (rest_5 e1 e2 e3 e4 en), ← hs10]; apply tb_eq; simp [StillOk, Rf.isZero, and_assoc]; done)
        · skip
          have e2 := beq_eq_false_iff_ne.1 h80
          refine WC.seq ?_
          refine WC.region ?_
          refine WL.quiet Own.closed rfl (by decide) (GuardIs.none) (fun _ => QV.fieldAddr fd93_0 rfl rfl) ?_
          refine WL.quiet Own.closed rfl (by decide) (GuardIs.none) (fun _ => QV.load pl3 rfl rfl (Own.cell 2 rfl rfl)) ?_
          refine WL.quiet Own.closed rfl (by decide) (GuardIs.none) (fun _ => QV.eql rfl rfl rfl rfl) ?_
          refine WL.quiet Own.closed rfl (by decide) (GuardIs.none) (fun _ => QV.assign rfl rfl) ?_
          refine WL.nil ?_
          refine WQ.then ?_
          refine WC.cond rfl (fun h97 => ?_) (fun h97 => ?_)
          · skip
            have e3 := beq_iff_eq.1 h97
            refine WC.seq ?_
            refine WC.region ?_
            refine WL.quiet Own.closed rfl (by decide) (GuardIs.none) (fun _ => QV.move rfl rfl) ?_
            refine WL.quiet Own.closed rfl (by decide) (GuardIs.none) (fun _ => QV.move rfl rfl) ?_
            refine WL.quiet Own.closed rfl (by decide) (GuardIs.pos rfl rfl) (fun hG => QV.fieldAddr fd93_1 rfl rfl) ?_
            refine WL.quiet Own.closed rfl (by decide) (GuardIs.pos rfl rfl) (fun hG => QV.loadAgg ag91 rfl rfl hG (fun w hw => (Own.cellsBlk 2 rfl w hw).sub 1 2 rfl)) ?_
            refine WL.quiet Own.closed rfl (by decide) (GuardIs.pos rfl rfl) (fun hG => QV.loadAgg ag91 rfl rfl rfl (Own.cellsBlk 1 rfl)) ?_
            refine WL.quiet Own.closed rfl (by decide) (GuardIs.pos rfl rfl) (fun hG => QV.eqlF eq91 (ns := [(l.body.getD k.toNat Stm.zero).a.st, (l.body.getD k.toNat Stm.zero).a.bk]) (ms := [0, 0]) rfl hG rfl hG rfl rfl) ?_
            refine WL.quiet Own.closed rfl (by decide) (GuardIs.none) (fun _ => QV.pickAnd rfl rfl rfl (fun h => h)) ?_
            refine WL.quiet Own.closed rfl (by decide) (GuardIs.none) (fun _ => QV.move rfl rfl) ?_
            refine WL.quiet Own.closed rfl (by decide) (GuardIs.pos rfl rfl) (fun hG => QV.fieldAddr fd93_2 rfl rfl) ?_
            refine WL.quiet Own.closed rfl (by decide) (GuardIs.pos rfl rfl) (fun hG => QV.loadAgg ag91 rfl rfl hG (fun w hw => (Own.cellsBlk 2 rfl w hw).sub 3 2 rfl)) ?_
            refine WL.quiet Own.closed rfl (by decide) (GuardIs.pos rfl rfl) (fun hG => QV.loadAgg ag91 rfl rfl rfl (Own.cellsBlk 1 rfl)) ?_
            refine WL.quiet Own.closed rfl (by decide) (GuardIs.pos rfl rfl) (fun hG => QV.eqlF eq91 (ns := [(l.body.getD k.toNat Stm.zero).b.st, (l.body.getD k.toNat Stm.zero).b.bk]) (ms := [0, 0]) rfl hG rfl hG rfl rfl) ?_
            refine WL.quiet Own.closed rfl (by decide) (GuardIs.none) (fun _ => QV.pickAnd rfl rfl rfl (fun h => h)) ?_
            refine WL.quiet Own.closed rfl (by decide) (GuardIs.none) (fun _ => QV.assign rfl rfl) ?_
            refine WL.nil ?_
            refine WQ.then ?_
            refine WC.ret ?_
            refine WQ.block_ret ?_
            refine WQ.then_ret ?_
            refine WQ.ret1 rfl rfl (fun w hw => ?_)
            refine ⟨ret_bool ?_, hw.grow⟩; first | exact (tb_nof (uses_bad hi0 hlt (by simpa [tb_not] using h57))).symm | (rw [tb_congr hse, tb_congr (rest_1 e1)]; apply tb_eq; simp [StillOk, Rf.isZero, and_assoc]; done) | (rw [tb_congr hse]; exact (tb_nof (rest_n e1 en)).symm) | (rw [tb_congr hse, tb_congr (rest_2 e2 en)]; apply tb_eq; simp [StillOk, Rf.isZero, and_assoc]; done) | (rw [tb_congr hse, tb_congr (rest_3 e3 en)]; apply tb_eq; simp [WordOk, Rf.isZero, and_assoc]; omega) | (rw [tb_congr hse, tb_congr (rest_4 e4 en)]; apply tb_eq; simp [WordOk, Rf.isZero, and_assoc]; omega) | (rw [tb_congr hse, tb_congr (rest_5 e1 e2 e3 e4 en), ← hs10]; apply tb_eq; simp [StillOk, Rf.isZero, and_assoc]; done)
          · skip
            have e3 := beq_eq_false_iff_ne.1 h97
            refine WC.seq ?_
            refine WC.region ?_
            refine WL.quiet Own.closed rfl (by decide) (GuardIs.none) (fun _ => QV.fieldAddr fd93_0 rfl rfl) ?_
            refine WL.quiet Own.closed rfl (by decide) (GuardIs.none) (fun _ => QV.load pl3 rfl rfl (Own.cell 2 rfl rfl)) ?_
            refine WL.quiet Own.closed rfl (by decide) (GuardIs.none) (fun _ => QV.eql rfl rfl rfl rfl) ?_
            refine WL.quiet Own.closed rfl (by decide) (GuardIs.none) (fun _ => QV.assign rfl rfl) ?_
            refine WL.nil ?_
            refine WQ.then ?_
            refine WC.cond rfl (fun h114 => ?_) (fun h114 => ?_)
            · skip
              have e4 := beq_iff_eq.1 h114
              refine WC.seq ?_
              refine WC.region ?_
              refine WL.quiet Own.closed rfl (by decide) (GuardIs.none) (fun _ => QV.move rfl rfl) ?_
              refine WL.quiet Own.closed rfl (by decide) (GuardIs.none) (fun _ => QV.move rfl rfl) ?_
              refine WL.quiet Own.closed rfl (by decide) (GuardIs.pos rfl rfl) (fun hG => QV.fieldAddr fd93_2 rfl rfl) ?_
              refine WL.quiet Own.closed rfl (by decide) (GuardIs.pos rfl rfl) (fun hG => QV.loadAgg ag91 rfl rfl hG (fun w hw => (Own.cellsBlk 2 rfl w hw).sub 3 2 rfl)) ?_
              refine WL.quiet Own.closed rfl (by decide) (GuardIs.pos rfl rfl) (fun hG => QV.loadAgg ag91 rfl rfl rfl (Own.cellsBlk 1 rfl)) ?_
              refine WL.quiet Own.closed rfl (by decide) (GuardIs.pos rfl rfl) (fun hG => QV.eqlF eq91 (ns := [(l.body.getD k.toNat Stm.zero).b.st, (l.body.getD k.toNat Stm.zero).b.bk]) (ms := [0, 0]) rfl hG rfl hG rfl rfl) ?_
              refine WL.quiet Own.closed rfl (by decide) (GuardIs.none) (fun _ => QV.pickAnd rfl rfl rfl (fun h => h)) ?_
              refine WL.quiet Own.closed rfl (by decide) (GuardIs.none) (fun _ => QV.assign rfl rfl) ?_
              refine WL.nil ?_
              refine WQ.then ?_
              refine WC.ret ?_
              refine WQ.block_ret ?_
              refine WQ.then_ret ?_
              refine WQ.ret1 rfl rfl (fun w hw => ?_)
              refine ⟨ret_bool ?_, hw.grow⟩; first | exact (tb_nof (uses_bad hi0 hlt (by simpa [tb_not] using h57))).symm | (rw [tb_congr hse, tb_congr (rest_1 e1)]; apply tb_eq; simp [StillOk, Rf.isZero, and_assoc]; done) | (rw [tb_congr hse]; exact (tb_nof (rest_n e1 en)).symm) | (rw [tb_congr hse, tb_congr (rest_2 e2 en)]; apply tb_eq; simp [StillOk, Rf.isZero, and_assoc]; done) | (rw [tb_congr hse, tb_congr (rest_3 e3 en)]; apply tb_eq; simp [WordOk, Rf.isZero, and_assoc]; omega) | (rw [tb_congr hse, tb_congr (rest_4 e4 en)]; apply tb_eq; simp [WordOk, Rf.isZero, and_assoc]; omega) | (rw [tb_congr hse, tb_congr (rest_5 e1 e2 e3 e4 en), ← hs10]; apply tb_eq; simp [StillOk, Rf.isZero, and_assoc]; done)
            · skip
              have e4 := beq_eq_false_iff_ne.1 h114
              refine WC.skip ?_
              refine WQ.block ?_
              refine WQ.then ?_
              refine WC.seq ?_
              refine WC.region ?_
              refine WL.quiet Own.closed rfl (by decide) (GuardIs.none) (fun _ => QV.move rfl rfl) ?_
              refine WL.quiet Own.closed rfl (by decide) (GuardIs.none) (fun _ => QV.move rfl rfl) ?_
              refine WL.quiet Own.closed rfl (by decide) (GuardIs.pos rfl rfl) (fun hG => QV.fieldAddr fd93_0 rfl rfl) ?_
              refine WL.quiet Own.closed rfl (by decide) (GuardIs.pos rfl rfl) (fun hG => QV.load pl3 rfl hG (Own.cell 2 rfl rfl)) ?_
              refine WL.quiet Own.closed rfl (by decide) (GuardIs.pos rfl rfl) (fun hG => QV.subW rfl hG rfl rfl) ?_
              refine WL.quiet Own.closed rfl (by decide) (GuardIs.pos rfl rfl) (fun hG => QV.call en48 (EvAll.cons rfl hG (EvAll.cons rfl rfl (EvAll.cons rfl rfl EvAll.nil))) (fun w hw => loop_in _ _ _ w)) ?_
              refine WL.quiet Own.closed rfl (by decide) (GuardIs.none) (fun _ => QV.pickAnd rfl rfl rfl (fun h => h)) ?_
              refine WL.quiet Own.closed rfl (by decide) (GuardIs.none) (fun _ => QV.assign rfl rfl) ?_
              refine WL.nil ?_
              refine WQ.then ?_
              refine WC.ret ?_
              refine WQ.ret1 rfl rfl (fun w hw => ?_)
              refine ⟨ret_bool ?_, hw.grow⟩; first | exact (tb_nof (uses_bad hi0 hlt (by simpa [tb_not] using h57))).symm | (rw [tb_congr hse, tb_congr (rest_1 e1)]; apply tb_eq; simp [StillOk, Rf.isZero, and_assoc]; done) | (rw [tb_congr hse]; exact (tb_nof (rest_n e1 en)).symm) | (rw [tb_congr hse, tb_congr (rest_2 e2 en)]; apply tb_eq; simp [StillOk, Rf.isZero, and_assoc]; done) | (rw [tb_congr hse, tb_congr (rest_3 e3 en)]; apply tb_eq; simp [WordOk, Rf.isZero, and_assoc]; omega) | (rw [tb_congr hse, tb_congr (rest_4 e4 en)]; apply tb_eq; simp [WordOk, Rf.isZero, and_assoc]; omega) | (rw [tb_congr hse, tb_congr (rest_5 e1 e2 e3 e4 en), ← hs10]; apply tb_eq; simp [StillOk, Rf.isZero, and_assoc]; done)
end Go.Proofs.Ytaimbkndebaaiaa
