/- Walks. -/
import Derived.Test.YtaimbkndebaaiaaTypes
import Derived.Test.YtaimbkndebaaiaaWLoopC
import Derived.Test.YtaimbkndebaaiaaWLoopD
namespace Go.Proofs.Ytaimbkndebaaiaa
open Go.Rd
set_option linter.unusedVariables false
set_option linter.unusedSimpArgs false
set_option maxRecDepth 4000 in
theorem loop_Fits {v1 v2 v3 v4 v5 : Value} (l : Lp) (B M : List (Value × List Int)) (w : World) (hL : LpRep w v1 v2 v3 l) (hB : RowsRep w v4 B) (hM : RowsRep w v5 M) : Calls Try.prog 29 #[.agg #[v1, v2, v3], .agg #[v4, v5]] w (fun e w' => e = .returned (.bool (tb (FitsOk l B M))) ∧ Grow w w') := by
  refine calls_of_WC (n := 59) (args := [.agg #[v1, v2, v3], .agg #[v4, v5]]) Try.func29 rfl rfl (Nat.le_of_ble_eq_true rfl) ?_ (Own.start w)
  have hb1 := hL.lbody; have hb2 := hL.llogs; have hb3 := hL.louts; unfold maxLen at hb1 hb2 hb3; have hb4 := hB.len; have hb5 := hM.len; unfold maxLen at hb4 hb5
  refine WC.seq ?_
  refine WC.region ?_
  refine WL.effect rfl (EV.boxAgg (by decide) rfl rfl (fun b0 => ?_))
  refine WL.effect rfl (EV.boxAgg (by decide) rfl rfl (fun b1 => ?_))
  refine WL.quiet Own.closed rfl (by decide) (GuardIs.none) (fun _ => QV.assign rfl rfl) ?_
  refine WL.nil ?_
  refine WQ.then ?_
  refine WC.seq ?_
  refine WC.seq ?_
  refine WC.region ?_
  refine WL.quiet Own.closed rfl (by decide) (GuardIs.none) (fun _ => QV.loadAgg ag51 rfl rfl rfl (Own.cellsBlk 1 rfl)) ?_
  refine WL.quiet Own.closed rfl (by decide) (GuardIs.none) (fun _ => QV.call en28 (EvAll.cons rfl rfl EvAll.nil) (fun w hw => loop_May l w (hL.grow hw.grow))) ?_
  refine WL.quiet Own.closed rfl (by decide) (GuardIs.none) (fun _ => QV.not rfl rfl) ?_
  refine WL.quiet Own.closed rfl (by decide) (GuardIs.none) (fun _ => QV.move rfl rfl) ?_
  refine WL.quiet Own.closed rfl (by decide) (GuardIs.neg rfl rfl) (fun hG => QV.fieldAddr fd54_0 rfl rfl) ?_
  refine WL.quiet Own.closed rfl (by decide) (GuardIs.neg rfl rfl) (fun hG => QV.load pl52 rfl hG (Own.cell 0 rfl rfl)) ?_
  refine WL.quiet Own.closed rfl (by decide) (GuardIs.neg rfl rfl) (fun hG => QV.lenS Try.underlying52 rfl hG hB.rows.lenMap) ?_
  refine WL.quiet Own.closed rfl (by decide) (GuardIs.neg rfl rfl) (fun hG => QV.fieldAddr fd51_1 rfl rfl) ?_
  refine WL.quiet Own.closed rfl (by decide) (GuardIs.neg rfl rfl) (fun hG => QV.load pl49 rfl hG (Own.cell 1 rfl rfl)) ?_
  refine WL.quiet Own.closed rfl (by decide) (GuardIs.neg rfl rfl) (fun hG => QV.lenS Try.underlying49 rfl hG hL.body.lenMap) ?_
  refine WL.quiet Own.closed rfl (by decide) (GuardIs.neg rfl rfl) (fun hG => QV.neq rfl hG rfl hG) ?_
  refine WL.quiet Own.closed rfl (by decide) (GuardIs.none) (fun _ => QV.pickOr rfl rfl rfl (fun h => notF h)) ?_
  refine WL.quiet Own.closed rfl (by decide) (GuardIs.none) (fun _ => QV.move rfl rfl) ?_
  refine WL.quiet Own.closed rfl (by decide) (GuardIs.neg rfl rfl) (fun hG => QV.fieldAddr fd54_1 rfl rfl) ?_
  refine WL.quiet Own.closed rfl (by decide) (GuardIs.neg rfl rfl) (fun hG => QV.load pl52 rfl hG (Own.cell 0 rfl rfl)) ?_
  refine WL.quiet Own.closed rfl (by decide) (GuardIs.neg rfl rfl) (fun hG => QV.lenS Try.underlying52 rfl hG hM.rows.lenMap) ?_
  refine WL.quiet Own.closed rfl (by decide) (GuardIs.neg rfl rfl) (fun hG => QV.fieldAddr fd51_0 rfl rfl) ?_
  refine WL.quiet Own.closed rfl (by decide) (GuardIs.neg rfl rfl) (fun hG => QV.load pl48 rfl hG (Own.cell 1 rfl rfl)) ?_
  refine WL.quiet Own.closed rfl (by decide) (GuardIs.neg rfl rfl) (fun hG => QV.lenS Try.underlying48 rfl hG hL.logs.lenMap) ?_
  refine WL.quiet Own.closed rfl (by decide) (GuardIs.neg rfl rfl) (fun hG => QV.neq rfl hG rfl hG) ?_
  refine WL.quiet Own.closed rfl (by decide) (GuardIs.none) (fun _ => QV.pickOr rfl rfl rfl (fun h => notF h)) ?_
  refine WL.nil ?_
  refine WQ.then ?_
  refine WC.cond rfl (fun h29 => ?_) (fun h29 => ?_)
  · skip
    refine WC.seq ?_
    refine WC.region ?_
    refine WL.quiet Own.closed rfl (by decide) (GuardIs.none) (fun _ => QV.assign rfl rfl) ?_
    refine WL.nil ?_
    refine WQ.then ?_
    refine WC.ret ?_
    refine WQ.then_ret ?_
    refine WQ.ret1 rfl rfl (fun w hw => ?_)
    refine ⟨ret_bool ?_, hw.grow⟩; first | (refine (tb_nof fun hX => ?_).symm; have h1 := hX.1; have h2 := hX.2.1; have h3 := hX.2.2.1; simp [tb_of h1] at h29; omega) | (refine (tb_nof fun hX => ?_).symm; have := hX.2.2.2.1 i.toNat (by omega); simp [-List.getD_eq_getElem?_getD, -Int.pred_toNat] at h39; omega) | (refine (tb_nof fun hX => ?_).symm; have := hX.2.2.2.2 i.toNat (by omega); simp [-List.getD_eq_getElem?_getD, -Int.pred_toNat] at h57; omega) | exact (tb_of ⟨hl0.1, by omega, by omega, hC', hD'⟩).symm
  · skip
    have hl0 : LoopOk l ∧ (B.length : Int) = l.body.length ∧ (M.length : Int) = l.logs.length := (by simp [tb_iff] at h29; exact ⟨h29.1.1, by omega, by omega⟩)
    refine WC.skip ?_
    refine WQ.then ?_
    refine WC.seq ?_
    refine WC.seq ?_
    refine WC.region ?_
    refine WL.quiet Own.closed rfl (by decide) (GuardIs.none) (fun _ => QV.fieldAddr fd54_0 rfl rfl) ?_
    refine WL.quiet Own.closed rfl (by decide) (GuardIs.none) (fun _ => QV.load pl52 rfl rfl (Own.cell 0 rfl rfl)) ?_
    refine WL.quiet Own.closed rfl (by decide) (GuardIs.none) (fun _ => QV.lenS Try.underlying52 rfl rfl hB.rows.lenMap) ?_
    refine WL.quiet Own.closed rfl (by decide) (GuardIs.none) (fun _ => QV.move rfl rfl) ?_
    refine WL.nil ?_
    refine WQ.then ?_
    refine WC.block ?_
    refine WC.loopC (τ := [(2, (true, _)), (3, (true, _)), (31, (true, _)), (32, (true, _))]) (fun i : Int => [(33, (true, .int .i64 i))]) _ (fun i : Int => 0 ≤ i ∧ i ≤ B.length ∧ BeforeTo B i) (fun i : Int => (B.length - i).toNat) 0 (⟨by omega, by omega, to_zero⟩) ⟨rfl, rfl, rfl, rfl, rfl, trivial⟩ (fun w hw => hw) ?_
    rintro i ⟨hi0, hi1, hC⟩
    refine WC.seq ?_
    refine WC.region ?_
    refine WL.quiet Own.closed rfl (by decide) (GuardIs.none) (fun _ => QV.lss rfl rfl rfl rfl) ?_
    refine WL.nil ?_
    refine WQ.then ?_
    refine WC.seq ?_
    refine WC.cond rfl (fun h34 => ?_) (fun h34 => ?_)
    · skip
      have hlt := of_decide_eq_true h34
      refine WC.skip ?_
      refine WQ.then ?_
      refine WC.seq ?_
      refine WC.block ?_
      refine WC.seq ?_
      refine WC.region ?_
      obtain ⟨p2, hp2, hc2⟩ := hB.rows.at dV i (by omega) (by omega)
      refine WL.quiet Own.closed rfl (by decide) (GuardIs.none) (fun _ => QV.indexSlice sl52 rfl rfl rfl rfl hp2) ?_
      refine WL.quiet Own.closed rfl (by decide) (GuardIs.none) (fun _ => QV.load pl57 rfl rfl (Own.base (CellsAt.one 0 hc2 rfl))) ?_
      refine WL.quiet Own.closed rfl (by decide) (GuardIs.none) (fun _ => QV.assign rfl rfl) ?_
      refine WL.nil ?_
      refine WQ.then ?_
      refine WC.seq ?_
      refine WC.region ?_
      refine WL.quiet Own.closed rfl (by decide) (GuardIs.none) (fun _ => QV.move rfl rfl) ?_
      refine WL.quiet Own.closed rfl (by decide) (GuardIs.none) (fun _ => QV.lenS Try.underlying57 rfl rfl (hB.arr i.toNat).lenMap) ?_
      refine WL.quiet Own.closed rfl (by decide) (GuardIs.none) (fun _ => QV.neq rfl rfl rfl rfl) ?_
      refine WL.nil ?_
      refine WQ.then ?_
      refine WC.cond rfl (fun h39 => ?_) (fun h39 => ?_)
      · skip
        refine WC.seq ?_
        refine WC.region ?_
        refine WL.quiet Own.closed rfl (by decide) (GuardIs.none) (fun _ => QV.assign rfl rfl) ?_
        refine WL.nil ?_
        refine WQ.then ?_
        refine WC.ret ?_
        refine WQ.block_ret ?_
        refine WQ.then_ret ?_
        refine WQ.then_ret ?_
        refine WQ.block_ret ?_
        refine WQ.then_ret ?_
        refine WQ.ret1 rfl rfl (fun w hw => ?_)
        refine ⟨ret_bool ?_, hw.grow⟩; first | (refine (tb_nof fun hX => ?_).symm; have h1 := hX.1; have h2 := hX.2.1; have h3 := hX.2.2.1; simp [tb_of h1] at h29; omega) | (refine (tb_nof fun hX => ?_).symm; have := hX.2.2.2.1 i.toNat (by omega); simp [-List.getD_eq_getElem?_getD, -Int.pred_toNat] at h39; omega) | (refine (tb_nof fun hX => ?_).symm; have := hX.2.2.2.2 i.toNat (by omega); simp [-List.getD_eq_getElem?_getD, -Int.pred_toNat] at h57; omega) | exact (tb_of ⟨hl0.1, by omega, by omega, hC', hD'⟩).symm
      · skip
        refine WC.skip ?_
        refine WQ.block ?_
        refine WQ.then ?_
        refine WC.region ?_
        refine WL.quiet Own.closed rfl (by decide) (GuardIs.none) (fun _ => QV.add rfl rfl rfl rfl (by omega)) ?_
        refine WL.quiet Own.closed rfl (by decide) (GuardIs.none) (fun _ => QV.move rfl rfl) ?_
        refine WL.nil ?_
        refine WQ.againC (i + 1) ?_ ?_ ⟨rfl, rfl, rfl, rfl, rfl, trivial⟩ (fun w hw => hw)
        · exact ⟨by omega, by omega, to_next hC hi0 (by simp [-List.getD_eq_getElem?_getD, -Int.pred_toNat] at h39; omega)⟩
        · have := of_decide_eq_true h34; omega
    · skip
      have hC' : BeforeTo B B.length := to_le hC (by have := of_decide_eq_false h34; omega)
      refine WC.exit ?_
      refine WQ.then_exit ?_
      refine WQ.then_exit ?_
      refine WQ.block_exit ?_
      refine WQ.then ?_
      refine WC.seq ?_
      refine WC.seq ?_
      refine WC.region ?_
      refine WL.quiet Own.closed rfl (by decide) (GuardIs.none) (fun _ => QV.fieldAddr fd54_1 rfl rfl) ?_
      refine WL.quiet Own.closed rfl (by decide) (GuardIs.none) (fun _ => QV.load pl52 rfl rfl (Own.cell 0 rfl rfl)) ?_
      refine WL.quiet Own.closed rfl (by decide) (GuardIs.none) (fun _ => QV.lenS Try.underlying52 rfl rfl hM.rows.lenMap) ?_
      refine WL.quiet Own.closed rfl (by decide) (GuardIs.none) (fun _ => QV.move rfl rfl) ?_
      refine WL.nil ?_
      refine WQ.then ?_
      refine WC.block ?_
      refine WC.loopC (τ := [(2, (true, _)), (42, (true, _)), (43, (true, _))]) (fun i : Int => [(44, (true, .int .i64 i))]) _ (fun i : Int => 0 ≤ i ∧ i ≤ M.length ∧ MemTo l M i) (fun i : Int => (M.length - i).toNat) 0 (⟨by omega, by omega, to_zero⟩) ⟨rfl, rfl, rfl, rfl, trivial⟩ (fun w hw => hw) ?_
      rintro i ⟨hi0, hi1, hD⟩
      refine WC.seq ?_
      refine WC.region ?_
      refine WL.quiet Own.closed rfl (by decide) (GuardIs.none) (fun _ => QV.lss rfl rfl rfl rfl) ?_
      refine WL.nil ?_
      refine WQ.then ?_
      refine WC.seq ?_
      refine WC.cond rfl (fun h45 => ?_) (fun h45 => ?_)
      · skip
        have hlt := of_decide_eq_true h45; have hlg := hl0.1.2.2.2.1 i.toNat (by omega); have hp2 := two_pow_5 (l.logs.getD i.toNat 0).toNat (by omega)
        refine WC.skip ?_
        refine WQ.then ?_
        refine WC.seq ?_
        refine WC.block ?_
        refine WC.seq ?_
        refine WC.region ?_
        refine WL.quiet Own.closed rfl (by decide) (GuardIs.none) (fun _ => QV.move rfl rfl) ?_
        obtain ⟨p3, hp3, hc3⟩ := hM.rows.at dV i (by omega) (by omega)
        refine WL.quiet Own.closed rfl (by decide) (GuardIs.none) (fun _ => QV.indexSlice sl52 rfl rfl rfl rfl hp3) ?_
        refine WL.quiet Own.closed rfl (by decide) (GuardIs.none) (fun _ => QV.load pl57 rfl rfl (Own.base (CellsAt.one 0 hc3 rfl))) ?_
        refine WL.quiet Own.closed rfl (by decide) (GuardIs.none) (fun _ => QV.assign rfl rfl) ?_
        refine WL.quiet Own.closed rfl (by decide) (GuardIs.none) (fun _ => QV.assign rfl rfl) ?_
        refine WL.nil ?_
        refine WQ.then ?_
        refine WC.seq ?_
        refine WC.region ?_
        refine WL.quiet Own.closed rfl (by decide) (GuardIs.none) (fun _ => QV.move rfl rfl) ?_
        refine WL.quiet Own.closed rfl (by decide) (GuardIs.none) (fun _ => QV.lenS Try.underlying57 rfl rfl (hM.arr i.toNat).lenMap) ?_
        refine WL.quiet Own.closed rfl (by decide) (GuardIs.none) (fun _ => QV.fieldAddr fd51_0 rfl rfl) ?_
        refine WL.quiet Own.closed rfl (by decide) (GuardIs.none) (fun _ => QV.load pl48 rfl rfl (Own.cell 1 rfl rfl)) ?_
        refine WL.quiet Own.closed rfl (by decide) (GuardIs.none) (fun _ => QV.move rfl rfl) ?_
        obtain ⟨p4, hp4, hc4⟩ := hL.logs.at 0 i (by omega) (by omega)
        refine WL.quiet Own.closed rfl (by decide) (GuardIs.none) (fun _ => QV.indexSlice sl48 rfl rfl rfl rfl hp4) ?_
        refine WL.quiet Own.closed rfl (by decide) (GuardIs.none) (fun _ => QV.load pl3 rfl rfl (Own.base (CellsAt.one 0 hc4 rfl))) ?_
        refine WL.quiet Own.closed rfl (by decide) (GuardIs.none) (fun _ => QV.shlOne rfl rfl rfl rfl (by omega) (by omega)) ?_
        refine WL.quiet Own.closed rfl (by decide) (GuardIs.none) (fun _ => QV.neq rfl rfl rfl rfl) ?_
        refine WL.nil ?_
        refine WQ.then ?_
        refine WC.cond rfl (fun h57 => ?_) (fun h57 => ?_)
        · skip
          refine WC.seq ?_
          refine WC.region ?_
          refine WL.quiet Own.closed rfl (by decide) (GuardIs.none) (fun _ => QV.assign rfl rfl) ?_
          refine WL.nil ?_
          refine WQ.then ?_
          refine WC.ret ?_
          refine WQ.block_ret ?_
          refine WQ.then_ret ?_
          refine WQ.then_ret ?_
          refine WQ.block_ret ?_
          refine WQ.then_ret ?_
          refine WQ.ret1 rfl rfl (fun w hw => ?_)
          refine ⟨ret_bool ?_, hw.grow⟩; first | (refine (tb_nof fun hX => ?_).symm; have h1 := hX.1; have h2 := hX.2.1; have h3 := hX.2.2.1; simp [tb_of h1] at h29; omega) | (refine (tb_nof fun hX => ?_).symm; have := hX.2.2.2.1 i.toNat (by omega); simp [-List.getD_eq_getElem?_getD, -Int.pred_toNat] at h39; omega) | (refine (tb_nof fun hX => ?_).symm; have := hX.2.2.2.2 i.toNat (by omega); simp [-List.getD_eq_getElem?_getD, -Int.pred_toNat] at h57; omega) | exact (tb_of ⟨hl0.1, by omega, by omega, hC', hD'⟩).symm
        · skip
          refine WC.skip ?_
          refine WQ.block ?_
          refine WQ.then ?_
          refine WC.region ?_
          refine WL.quiet Own.closed rfl (by decide) (GuardIs.none) (fun _ => QV.add rfl rfl rfl rfl (by omega)) ?_
          refine WL.quiet Own.closed rfl (by decide) (GuardIs.none) (fun _ => QV.move rfl rfl) ?_
          refine WL.nil ?_
          refine WQ.againC (i + 1) ?_ ?_ ⟨rfl, rfl, rfl, rfl, trivial⟩ (fun w hw => hw)
          · exact ⟨by omega, by omega, to_next hD hi0 (by simp [-List.getD_eq_getElem?_getD, -Int.pred_toNat] at h57; omega)⟩
          · have := of_decide_eq_true h45; omega
      · skip
        have hD' : MemTo l M M.length := to_le hD (by have := of_decide_eq_false h45; omega)
        refine WC.exit ?_
        refine WQ.then_exit ?_
        refine WQ.then_exit ?_
        refine WQ.block_exit ?_
        refine WQ.then ?_
        refine WC.seq ?_
        refine WC.region ?_
        refine WL.quiet Own.closed rfl (by decide) (GuardIs.none) (fun _ => QV.assign rfl rfl) ?_
        refine WL.nil ?_
        refine WQ.then ?_
        refine WC.ret ?_
        refine WQ.ret1 rfl rfl (fun w hw => ?_)
        refine ⟨ret_bool ?_, hw.grow⟩; first | (refine (tb_nof fun hX => ?_).symm; have h1 := hX.1; have h2 := hX.2.1; have h3 := hX.2.2.1; simp [tb_of h1] at h29; omega) | (refine (tb_nof fun hX => ?_).symm; have := hX.2.2.2.1 i.toNat (by omega); simp [-List.getD_eq_getElem?_getD, -Int.pred_toNat] at h39; omega) | (refine (tb_nof fun hX => ?_).symm; have := hX.2.2.2.2 i.toNat (by omega); simp [-List.getD_eq_getElem?_getD, -Int.pred_toNat] at h57; omega) | exact (tb_of ⟨hl0.1, by omega, by omega, hC', hD'⟩).symm

set_option maxRecDepth 4000 in
theorem roundelayref2_Fits {v1 v2 v3 v4 v5 : Value} (l : Lp) (B M : List (Value × List Int)) (w : World) (hL : LpRep w v1 v2 v3 l) (hB : RowsRep w v4 B) (hM : RowsRep w v5 M) : Calls Try.prog 31 #[.agg #[v1, v2, v3], .agg #[v4, v5]] w (fun e w' => e = .returned (.bool (tb (FitsOk l B M))) ∧ Grow w w') := by
  refine calls_of_WC (n := 64) (args := [.agg #[v1, v2, v3], .agg #[v4, v5]]) Try.func31 rfl rfl (Nat.le_of_ble_eq_true rfl) ?_ (Own.start w)
  have hb1 := hL.lbody; have hb2 := hL.llogs; have hb3 := hL.louts; unfold maxLen at hb1 hb2 hb3; have hb4 := hB.len; have hb5 := hM.len; unfold maxLen at hb4 hb5
  refine WC.seq ?_
  refine WC.region ?_
  refine WL.effect rfl (EV.boxAgg (by decide) rfl rfl (fun b0 => ?_))
  refine WL.effect rfl (EV.boxAgg (by decide) rfl rfl (fun b1 => ?_))
  refine WL.quiet Own.closed rfl (by decide) (GuardIs.none) (fun _ => QV.assign rfl rfl) ?_
  refine WL.nil ?_
  refine WQ.then ?_
  refine WC.seq ?_
  refine WC.seq ?_
  refine WC.region ?_
  refine WL.quiet Own.closed rfl (by decide) (GuardIs.none) (fun _ => QV.loadAgg ag51 rfl rfl rfl (Own.cellsBlk 1 rfl)) ?_
  refine WL.quiet Own.closed rfl (by decide) (GuardIs.none) (fun _ => QV.call en30 (EvAll.cons rfl rfl EvAll.nil) (fun w hw => roundelayref2_May l w (hL.grow hw.grow))) ?_
  refine WL.quiet Own.closed rfl (by decide) (GuardIs.none) (fun _ => QV.not rfl rfl) ?_
  refine WL.quiet Own.closed rfl (by decide) (GuardIs.none) (fun _ => QV.move rfl rfl) ?_
  refine WL.quiet Own.closed rfl (by decide) (GuardIs.neg rfl rfl) (fun hG => QV.fieldAddr fd54_0 rfl rfl) ?_
  refine WL.quiet Own.closed rfl (by decide) (GuardIs.neg rfl rfl) (fun hG => QV.load pl52 rfl hG (Own.cell 0 rfl rfl)) ?_
  refine WL.quiet Own.closed rfl (by decide) (GuardIs.neg rfl rfl) (fun hG => QV.lenS Try.underlying52 rfl hG hB.rows.lenMap) ?_
  refine WL.quiet Own.closed rfl (by decide) (GuardIs.neg rfl rfl) (fun hG => QV.fieldAddr fd51_1 rfl rfl) ?_
  refine WL.quiet Own.closed rfl (by decide) (GuardIs.neg rfl rfl) (fun hG => QV.load pl49 rfl hG (Own.cell 1 rfl rfl)) ?_
  refine WL.quiet Own.closed rfl (by decide) (GuardIs.neg rfl rfl) (fun hG => QV.lenS Try.underlying49 rfl hG hL.body.lenMap) ?_
  refine WL.quiet Own.closed rfl (by decide) (GuardIs.neg rfl rfl) (fun hG => QV.neq rfl hG rfl hG) ?_
  refine WL.quiet Own.closed rfl (by decide) (GuardIs.none) (fun _ => QV.pickOr rfl rfl rfl (fun h => notF h)) ?_
  refine WL.quiet Own.closed rfl (by decide) (GuardIs.none) (fun _ => QV.move rfl rfl) ?_
  refine WL.quiet Own.closed rfl (by decide) (GuardIs.neg rfl rfl) (fun hG => QV.fieldAddr fd54_1 rfl rfl) ?_
  refine WL.quiet Own.closed rfl (by decide) (GuardIs.neg rfl rfl) (fun hG => QV.load pl52 rfl hG (Own.cell 0 rfl rfl)) ?_
  refine WL.quiet Own.closed rfl (by decide) (GuardIs.neg rfl rfl) (fun hG => QV.lenS Try.underlying52 rfl hG hM.rows.lenMap) ?_
  refine WL.quiet Own.closed rfl (by decide) (GuardIs.neg rfl rfl) (fun hG => QV.fieldAddr fd51_0 rfl rfl) ?_
  refine WL.quiet Own.closed rfl (by decide) (GuardIs.neg rfl rfl) (fun hG => QV.load pl48 rfl hG (Own.cell 1 rfl rfl)) ?_
  refine WL.quiet Own.closed rfl (by decide) (GuardIs.neg rfl rfl) (fun hG => QV.lenS Try.underlying48 rfl hG hL.logs.lenMap) ?_
  refine WL.quiet Own.closed rfl (by decide) (GuardIs.neg rfl rfl) (fun hG => QV.neq rfl hG rfl hG) ?_
  refine WL.quiet Own.closed rfl (by decide) (GuardIs.none) (fun _ => QV.pickOr rfl rfl rfl (fun h => notF h)) ?_
  refine WL.nil ?_
  refine WQ.then ?_
  refine WC.cond rfl (fun h28 => ?_) (fun h28 => ?_)
  · skip
    refine WC.seq ?_
    refine WC.region ?_
    refine WL.quiet Own.closed rfl (by decide) (GuardIs.none) (fun _ => QV.assign rfl rfl) ?_
    refine WL.nil ?_
    refine WQ.then ?_
    refine WC.ret ?_
    refine WQ.then_ret ?_
    refine WQ.ret1 rfl rfl (fun w hw => ?_)
    refine ⟨ret_bool ?_, hw.grow⟩; first | (refine (tb_nof fun hX => ?_).symm; have h1 := hX.1; have h2 := hX.2.1; have h3 := hX.2.2.1; simp [tb_of h1] at h28; omega) | (refine (tb_nof fun hX => ?_).symm; have := hX.2.2.2.1 i.toNat (by omega); simp [-List.getD_eq_getElem?_getD, -Int.pred_toNat] at h42; omega) | (refine (tb_nof fun hX => ?_).symm; have := hX.2.2.2.2 i.toNat (by omega); simp [-List.getD_eq_getElem?_getD, -Int.pred_toNat] at h63; omega) | exact (tb_of ⟨hl0.1, by omega, by omega, hC', hD'⟩).symm
  · skip
    have hl0 : LoopOk l ∧ (B.length : Int) = l.body.length ∧ (M.length : Int) = l.logs.length := (by simp [tb_iff] at h28; exact ⟨h28.1.1, by omega, by omega⟩)
    refine WC.skip ?_
    refine WQ.then ?_
    refine WC.seq ?_
    refine WC.seq ?_
    refine WC.region ?_
    refine WL.quiet Own.closed rfl (by decide) (GuardIs.none) (fun _ => QV.assign rfl rfl) ?_
    refine WL.nil ?_
    refine WQ.then ?_
    refine WC.block ?_
    refine WC.loopC (τ := [(2, (true, _)), (3, (true, _))]) (fun i : Int => [(5, (true, .int .i64 i))]) _ (fun i : Int => 0 ≤ i ∧ i ≤ B.length ∧ BeforeTo B i) (fun i : Int => (B.length - i).toNat) 0 (⟨by omega, by omega, to_zero⟩) ⟨rfl, rfl, rfl, trivial⟩ (fun w hw => hw) ?_
    rintro i ⟨hi0, hi1, hC⟩
    refine WC.seq ?_
    refine WC.seq ?_
    refine WC.region ?_
    refine WL.quiet Own.closed rfl (by decide) (GuardIs.none) (fun _ => QV.move rfl rfl) ?_
    refine WL.quiet Own.closed rfl (by decide) (GuardIs.none) (fun _ => QV.fieldAddr fd54_0 rfl rfl) ?_
    refine WL.quiet Own.closed rfl (by decide) (GuardIs.none) (fun _ => QV.load pl52 rfl rfl (Own.cell 0 rfl rfl)) ?_
    refine WL.quiet Own.closed rfl (by decide) (GuardIs.none) (fun _ => QV.lenS Try.underlying52 rfl rfl hB.rows.lenMap) ?_
    refine WL.quiet Own.closed rfl (by decide) (GuardIs.none) (fun _ => QV.lss rfl rfl rfl rfl) ?_
    refine WL.nil ?_
    refine WQ.then ?_
    refine WC.cond rfl (fun h33 => ?_) (fun h33 => ?_)
    · skip
      have hlt := of_decide_eq_true h33
      refine WC.skip ?_
      refine WQ.then ?_
      refine WC.seq ?_
      refine WC.block ?_
      refine WC.seq ?_
      refine WC.region ?_
      refine WL.quiet Own.closed rfl (by decide) (GuardIs.none) (fun _ => QV.fieldAddr fd54_0 rfl rfl) ?_
      refine WL.quiet Own.closed rfl (by decide) (GuardIs.none) (fun _ => QV.load pl52 rfl rfl (Own.cell 0 rfl rfl)) ?_
      refine WL.quiet Own.closed rfl (by decide) (GuardIs.none) (fun _ => QV.move rfl rfl) ?_
      obtain ⟨p2, hp2, hc2⟩ := hB.rows.at dV i (by omega) (by omega)
      refine WL.quiet Own.closed rfl (by decide) (GuardIs.none) (fun _ => QV.indexSlice sl52 rfl rfl rfl rfl hp2) ?_
      refine WL.quiet Own.closed rfl (by decide) (GuardIs.none) (fun _ => QV.load pl57 rfl rfl (Own.base (CellsAt.one 0 hc2 rfl))) ?_
      refine WL.quiet Own.closed rfl (by decide) (GuardIs.none) (fun _ => QV.lenS Try.underlying57 rfl rfl (hB.arr i.toNat).lenMap) ?_
      refine WL.quiet Own.closed rfl (by decide) (GuardIs.none) (fun _ => QV.neq rfl rfl rfl rfl) ?_
      refine WL.nil ?_
      refine WQ.then ?_
      refine WC.cond rfl (fun h42 => ?_) (fun h42 => ?_)
      · skip
        refine WC.seq ?_
        refine WC.region ?_
        refine WL.quiet Own.closed rfl (by decide) (GuardIs.none) (fun _ => QV.assign rfl rfl) ?_
        refine WL.nil ?_
        refine WQ.then ?_
        refine WC.ret ?_
        refine WQ.block_ret ?_
        refine WQ.then_ret ?_
        refine WQ.then_ret ?_
        refine WQ.block_ret ?_
        refine WQ.then_ret ?_
        refine WQ.ret1 rfl rfl (fun w hw => ?_)
        refine ⟨ret_bool ?_, hw.grow⟩; first | (refine (tb_nof fun hX => ?_).symm; have h1 := hX.1; have h2 := hX.2.1; have h3 := hX.2.2.1; simp [tb_of h1] at h28; omega) | (refine (tb_nof fun hX => ?_).symm; have := hX.2.2.2.1 i.toNat (by omega); simp [-List.getD_eq_getElem?_getD, -Int.pred_toNat] at h42; omega) | (refine (tb_nof fun hX => ?_).symm; have := hX.2.2.2.2 i.toNat (by omega); simp [-List.getD_eq_getElem?_getD, -Int.pred_toNat] at h63; omega) | exact (tb_of ⟨hl0.1, by omega, by omega, hC', hD'⟩).symm
      · skip
        refine WC.skip ?_
        refine WQ.block ?_
        refine WQ.then ?_
        refine WC.region ?_
        refine WL.quiet Own.closed rfl (by decide) (GuardIs.none) (fun _ => QV.move rfl rfl) ?_
        refine WL.quiet Own.closed rfl (by decide) (GuardIs.none) (fun _ => QV.add rfl rfl rfl rfl (by omega)) ?_
        refine WL.quiet Own.closed rfl (by decide) (GuardIs.none) (fun _ => QV.assign rfl rfl) ?_
        refine WL.nil ?_
        refine WQ.againC (i + 1) ?_ ?_ ⟨rfl, rfl, rfl, trivial⟩ (fun w hw => hw)
        · exact ⟨by omega, by omega, to_next hC hi0 (by simp [-List.getD_eq_getElem?_getD, -Int.pred_toNat] at h42; omega)⟩
        · have := of_decide_eq_true h33; omega
    · skip
      have hC' : BeforeTo B B.length := to_le hC (by have := of_decide_eq_false h33; omega)
      refine WC.exit ?_
      refine WQ.then_exit ?_
      refine WQ.then_exit ?_
      refine WQ.block_exit ?_
      refine WQ.then ?_
      refine WC.seq ?_
      refine WC.seq ?_
      refine WC.region ?_
      refine WL.quiet Own.closed rfl (by decide) (GuardIs.none) (fun _ => QV.assign rfl rfl) ?_
      refine WL.nil ?_
      refine WQ.then ?_
      refine WC.block ?_
      refine WC.loopC (τ := [(2, (true, _)), (3, (true, _))]) (fun i : Int => [(6, (true, .int .i64 i))]) _ (fun i : Int => 0 ≤ i ∧ i ≤ M.length ∧ MemTo l M i) (fun i : Int => (M.length - i).toNat) 0 (⟨by omega, by omega, to_zero⟩) ⟨rfl, rfl, rfl, trivial⟩ (fun w hw => hw) ?_
      rintro i ⟨hi0, hi1, hD⟩
      refine WC.seq ?_
      refine WC.seq ?_
      refine WC.region ?_
      refine WL.quiet Own.closed rfl (by decide) (GuardIs.none) (fun _ => QV.move rfl rfl) ?_
      refine WL.quiet Own.closed rfl (by decide) (GuardIs.none) (fun _ => QV.fieldAddr fd54_1 rfl rfl) ?_
      refine WL.quiet Own.closed rfl (by decide) (GuardIs.none) (fun _ => QV.load pl52 rfl rfl (Own.cell 0 rfl rfl)) ?_
      refine WL.quiet Own.closed rfl (by decide) (GuardIs.none) (fun _ => QV.lenS Try.underlying52 rfl rfl hM.rows.lenMap) ?_
      refine WL.quiet Own.closed rfl (by decide) (GuardIs.none) (fun _ => QV.lss rfl rfl rfl rfl) ?_
      refine WL.nil ?_
      refine WQ.then ?_
      refine WC.cond rfl (fun h47 => ?_) (fun h47 => ?_)
      · skip
        have hlt := of_decide_eq_true h47; have hlg := hl0.1.2.2.2.1 i.toNat (by omega); have hp2 := two_pow_5 (l.logs.getD i.toNat 0).toNat (by omega)
        refine WC.skip ?_
        refine WQ.then ?_
        refine WC.seq ?_
        refine WC.block ?_
        refine WC.seq ?_
        refine WC.region ?_
        refine WL.quiet Own.closed rfl (by decide) (GuardIs.none) (fun _ => QV.fieldAddr fd51_0 rfl rfl) ?_
        refine WL.quiet Own.closed rfl (by decide) (GuardIs.none) (fun _ => QV.load pl48 rfl rfl (Own.cell 1 rfl rfl)) ?_
        refine WL.quiet Own.closed rfl (by decide) (GuardIs.none) (fun _ => QV.move rfl rfl) ?_
        obtain ⟨p3, hp3, hc3⟩ := hL.logs.at 0 i (by omega) (by omega)
        refine WL.quiet Own.closed rfl (by decide) (GuardIs.none) (fun _ => QV.indexSlice sl48 rfl rfl rfl rfl hp3) ?_
        refine WL.quiet Own.closed rfl (by decide) (GuardIs.none) (fun _ => QV.load pl3 rfl rfl (Own.base (CellsAt.one 0 hc3 rfl))) ?_
        refine WL.quiet Own.closed rfl (by decide) (GuardIs.none) (fun _ => QV.call en47 (EvAll.cons rfl rfl EvAll.nil) (fun w hw => roundelayref1_Size _ w (by omega))) ?_
        refine WL.quiet Own.closed rfl (by decide) (GuardIs.none) (fun _ => QV.assign rfl rfl) ?_
        refine WL.nil ?_
        refine WQ.then ?_
        refine WC.seq ?_
        refine WC.region ?_
        refine WL.quiet Own.closed rfl (by decide) (GuardIs.none) (fun _ => QV.fieldAddr fd54_1 rfl rfl) ?_
        refine WL.quiet Own.closed rfl (by decide) (GuardIs.none) (fun _ => QV.load pl52 rfl rfl (Own.cell 0 rfl rfl)) ?_
        refine WL.quiet Own.closed rfl (by decide) (GuardIs.none) (fun _ => QV.move rfl rfl) ?_
        obtain ⟨p4, hp4, hc4⟩ := hM.rows.at dV i (by omega) (by omega)
        refine WL.quiet Own.closed rfl (by decide) (GuardIs.none) (fun _ => QV.indexSlice sl52 rfl rfl rfl rfl hp4) ?_
        refine WL.quiet Own.closed rfl (by decide) (GuardIs.none) (fun _ => QV.load pl57 rfl rfl (Own.base (CellsAt.one 0 hc4 rfl))) ?_
        refine WL.quiet Own.closed rfl (by decide) (GuardIs.none) (fun _ => QV.lenS Try.underlying57 rfl rfl (hM.arr i.toNat).lenMap) ?_
        refine WL.quiet Own.closed rfl (by decide) (GuardIs.none) (fun _ => QV.move rfl rfl) ?_
        refine WL.quiet Own.closed rfl (by decide) (GuardIs.none) (fun _ => QV.neq rfl rfl rfl rfl) ?_
        refine WL.nil ?_
        refine WQ.then ?_
        refine WC.cond rfl (fun h63 => ?_) (fun h63 => ?_)
        · skip
          refine WC.seq ?_
          refine WC.region ?_
          refine WL.quiet Own.closed rfl (by decide) (GuardIs.none) (fun _ => QV.assign rfl rfl) ?_
          refine WL.nil ?_
          refine WQ.then ?_
          refine WC.ret ?_
          refine WQ.block_ret ?_
          refine WQ.then_ret ?_
          refine WQ.then_ret ?_
          refine WQ.block_ret ?_
          refine WQ.then_ret ?_
          refine WQ.ret1 rfl rfl (fun w hw => ?_)
          refine ⟨ret_bool ?_, hw.grow⟩; first | (refine (tb_nof fun hX => ?_).symm; have h1 := hX.1; have h2 := hX.2.1; have h3 := hX.2.2.1; simp [tb_of h1] at h28; omega) | (refine (tb_nof fun hX => ?_).symm; have := hX.2.2.2.1 i.toNat (by omega); simp [-List.getD_eq_getElem?_getD, -Int.pred_toNat] at h42; omega) | (refine (tb_nof fun hX => ?_).symm; have := hX.2.2.2.2 i.toNat (by omega); simp [-List.getD_eq_getElem?_getD, -Int.pred_toNat] at h63; omega) | exact (tb_of ⟨hl0.1, by omega, by omega, hC', hD'⟩).symm
        · skip
          refine WC.skip ?_
          refine WQ.block ?_
          refine WQ.then ?_
          refine WC.region ?_
          refine WL.quiet Own.closed rfl (by decide) (GuardIs.none) (fun _ => QV.move rfl rfl) ?_
          refine WL.quiet Own.closed rfl (by decide) (GuardIs.none) (fun _ => QV.add rfl rfl rfl rfl (by omega)) ?_
          refine WL.quiet Own.closed rfl (by decide) (GuardIs.none) (fun _ => QV.assign rfl rfl) ?_
          refine WL.nil ?_
          refine WQ.againC (i + 1) ?_ ?_ ⟨rfl, rfl, rfl, trivial⟩ (fun w hw => hw)
          · exact ⟨by omega, by omega, to_next hD hi0 (by simp [-List.getD_eq_getElem?_getD, -Int.pred_toNat] at h63; omega)⟩
          · have := of_decide_eq_true h47; omega
      · skip
        have hD' : MemTo l M M.length := to_le hD (by have := of_decide_eq_false h47; omega)
        refine WC.exit ?_
        refine WQ.then_exit ?_
        refine WQ.then_exit ?_
        refine WQ.block_exit ?_
        refine WQ.then ?_
        refine WC.seq ?_
        refine WC.region ?_
        refine WL.quiet Own.closed rfl (by decide) (GuardIs.none) (fun _ => QV.assign rfl rfl) ?_
        refine WL.nil ?_
        refine WQ.then ?_
        refine WC.ret ?_
        refine WQ.ret1 rfl rfl (fun w hw => ?_)
        refine ⟨ret_bool ?_, hw.grow⟩; first | (refine (tb_nof fun hX => ?_).symm; have h1 := hX.1; have h2 := hX.2.1; have h3 := hX.2.2.1; simp [tb_of h1] at h28; omega) | (refine (tb_nof fun hX => ?_).symm; have := hX.2.2.2.1 i.toNat (by omega); simp [-List.getD_eq_getElem?_getD, -Int.pred_toNat] at h42; omega) | (refine (tb_nof fun hX => ?_).symm; have := hX.2.2.2.2 i.toNat (by omega); simp [-List.getD_eq_getElem?_getD, -Int.pred_toNat] at h63; omega) | exact (tb_of ⟨hl0.1, by omega, by omega, hC', hD'⟩).symm

set_option maxRecDepth 4000 in
theorem roundelaylaw_LoopTells {v1 v2 v3 v4 v5 : Value} (l : Lp) (B M : List (Value × List Int)) (w : World) (hL : LpRep w v1 v2 v3 l) (hB : RowsRep w v4 B) (hM : RowsRep w v5 M) : Calls Try.prog 10 #[.agg #[v1, v2, v3], .agg #[v4, v5]] w (fun e w' => e = .returned (.bool true) ∧ Grow w w') := by
  refine calls_of_WC (n := 23) (args := [.agg #[v1, v2, v3], .agg #[v4, v5]]) Try.func10 rfl rfl (Nat.le_of_ble_eq_true rfl) ?_ (Own.start w)
  refine WC.seq ?_
  refine WC.region ?_
  refine WL.effect rfl (EV.boxAgg (by decide) rfl rfl (fun b0 => ?_))
  refine WL.effect rfl (EV.boxAgg (by decide) rfl rfl (fun b1 => ?_))
  refine WL.quiet Own.closed rfl (by decide) (GuardIs.none) (fun _ => QV.assign rfl rfl) ?_
  refine WL.nil ?_
  refine WQ.then ?_
  refine WC.seq ?_
  refine WC.region ?_
  refine WL.quiet Own.closed rfl (by decide) (GuardIs.none) (fun _ => QV.loadAgg ag51 rfl rfl rfl (Own.cellsBlk 1 rfl)) ?_
  refine WL.quiet Own.closed rfl (by decide) (GuardIs.none) (fun _ => QV.call en28 (EvAll.cons rfl rfl EvAll.nil) (fun w hw => loop_May l w (hL.grow hw.grow))) ?_
  refine WL.quiet Own.closed rfl (by decide) (GuardIs.none) (fun _ => QV.assign rfl rfl) ?_
  refine WL.nil ?_
  refine WQ.then ?_
  refine WC.seq ?_
  refine WC.region ?_
  refine WL.quiet Own.closed rfl (by decide) (GuardIs.none) (fun _ => QV.loadAgg ag51 rfl rfl rfl (Own.cellsBlk 1 rfl)) ?_
  refine WL.quiet Own.closed rfl (by decide) (GuardIs.none) (fun _ => QV.loadAgg ag54 rfl rfl rfl (Own.cellsBlk 0 rfl)) ?_
  refine WL.quiet Own.closed rfl (by decide) (GuardIs.none) (fun _ => QV.call en29 (EvAll.cons rfl rfl (EvAll.cons rfl rfl EvAll.nil)) (fun w hw => loop_Fits l B M w (hL.grow hw.grow) (hB.grow hw.grow) (hM.grow hw.grow))) ?_
  refine WL.quiet Own.closed rfl (by decide) (GuardIs.none) (fun _ => QV.assign rfl rfl) ?_
  refine WL.nil ?_
  refine WQ.then ?_
  refine WC.seq ?_
  refine WC.region ?_
  refine WL.quiet Own.closed rfl (by decide) (GuardIs.none) (fun _ => QV.move rfl rfl) ?_
  refine WL.quiet Own.closed rfl (by decide) (GuardIs.none) (fun _ => QV.loadAgg ag51 rfl rfl rfl (Own.cellsBlk 1 rfl)) ?_
  refine WL.quiet Own.closed rfl (by decide) (GuardIs.none) (fun _ => QV.call en30 (EvAll.cons rfl rfl EvAll.nil) (fun w hw => roundelayref2_May l w (hL.grow hw.grow))) ?_
  refine WL.quiet Own.closed rfl (by decide) (GuardIs.none) (fun _ => QV.eqlB Try.underlying4 rfl rfl rfl rfl) ?_
  refine WL.quiet Own.closed rfl (by decide) (GuardIs.none) (fun _ => QV.move rfl rfl) ?_
  refine WL.quiet Own.closed rfl (by decide) (GuardIs.pos rfl rfl) (fun hG => QV.move rfl rfl) ?_
  refine WL.quiet Own.closed rfl (by decide) (GuardIs.pos rfl rfl) (fun hG => QV.loadAgg ag51 rfl rfl rfl (Own.cellsBlk 1 rfl)) ?_
  refine WL.quiet Own.closed rfl (by decide) (GuardIs.pos rfl rfl) (fun hG => QV.loadAgg ag54 rfl rfl rfl (Own.cellsBlk 0 rfl)) ?_
  refine WL.quiet Own.closed rfl (by decide) (GuardIs.pos rfl rfl) (fun hG => QV.call en31 (EvAll.cons rfl hG (EvAll.cons rfl hG EvAll.nil)) (fun w hw => roundelayref2_Fits l B M w (hL.grow hw.grow) (hB.grow hw.grow) (hM.grow hw.grow))) ?_
  refine WL.quiet Own.closed rfl (by decide) (GuardIs.pos rfl rfl) (fun hG => QV.eqlB Try.underlying4 rfl hG rfl hG) ?_
  refine WL.quiet Own.closed rfl (by decide) (GuardIs.none) (fun _ => QV.pickAnd rfl rfl rfl (fun h => h)) ?_
  refine WL.quiet Own.closed rfl (by decide) (GuardIs.none) (fun _ => QV.assign rfl rfl) ?_
  refine WL.nil ?_
  refine WQ.then ?_
  refine WC.ret ?_
  refine WQ.ret1 rfl rfl (fun w hw => ?_)
  exact ⟨ret_bool (by simp), hw.grow⟩
end Go.Proofs.Ytaimbkndebaaiaa
