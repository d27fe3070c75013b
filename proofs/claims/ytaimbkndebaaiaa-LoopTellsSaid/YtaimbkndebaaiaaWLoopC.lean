/- Walks. -/
import Derived.Test.YtaimbkndebaaiaaTypes
import Derived.Test.YtaimbkndebaaiaaWLoopA
namespace Go.Proofs.Ytaimbkndebaaiaa
open Go.Rd
set_option linter.unusedVariables false
set_option linter.unusedSimpArgs false
set_option maxRecDepth 4000 in
theorem loop_May {v1 v2 v3 : Value} (l : Lp) (w : World) (hL : LpRep w v1 v2 v3 l) : Calls Try.prog 28 #[.agg #[v1, v2, v3]] w (fun e w' => e = .returned (.bool (tb (LoopOk l))) ∧ Grow w w') := by
  refine calls_of_WC (n := 64) (args := [.agg #[v1, v2, v3]]) Try.func28 rfl rfl (Nat.le_of_ble_eq_true rfl) ?_ (Own.start w)
  have hb1 := hL.lbody; have hb2 := hL.llogs; have hb3 := hL.louts; unfold maxLen at hb1 hb2 hb3
  refine WC.seq ?_
  refine WC.region ?_
  refine WL.effect rfl (EV.boxAgg (by decide) rfl rfl (fun b0 => ?_))
  refine WL.quiet Own.closed rfl (by decide) (GuardIs.none) (fun _ => QV.assign rfl rfl) ?_
  refine WL.nil ?_
  refine WQ.then ?_
  refine WC.seq ?_
  refine WC.seq ?_
  refine WC.region ?_
  refine WL.quiet Own.closed rfl (by decide) (GuardIs.none) (fun _ => QV.fieldAddr fd51_0 rfl rfl) ?_
  refine WL.quiet Own.closed rfl (by decide) (GuardIs.none) (fun _ => QV.load pl48 rfl rfl (Own.cell 0 rfl rfl)) ?_
  refine WL.quiet Own.closed rfl (by decide) (GuardIs.none) (fun _ => QV.lenS Try.underlying48 rfl rfl hL.logs.lenMap) ?_
  refine WL.quiet Own.closed rfl (by decide) (GuardIs.none) (fun _ => QV.move rfl rfl) ?_
  refine WL.nil ?_
  refine WQ.then ?_
  refine WC.block ?_
  refine WC.loopC (τ := [(1, (true, _)), (10, (true, _)), (11, (true, _))]) (fun i : Int => [(12, (true, .int .i64 i))]) _ (fun i : Int => 0 ≤ i ∧ i ≤ l.logs.length ∧ LogsTo l i) (fun i : Int => (l.logs.length - i).toNat) 0 (⟨by omega, by omega, to_zero⟩) ⟨rfl, rfl, rfl, rfl, trivial⟩ (fun w hw => hw) ?_
  rintro i ⟨hi0, hi1, hA⟩
  refine WC.seq ?_
  refine WC.region ?_
  refine WL.quiet Own.closed rfl (by decide) (GuardIs.none) (fun _ => QV.lss rfl rfl rfl rfl) ?_
  refine WL.nil ?_
  refine WQ.then ?_
  refine WC.seq ?_
  refine WC.cond rfl (fun h13 => ?_) (fun h13 => ?_)
  · skip
    have hlt := of_decide_eq_true h13
    refine WC.skip ?_
    refine WQ.then ?_
    refine WC.seq ?_
    refine WC.block ?_
    refine WC.seq ?_
    refine WC.region ?_
    obtain ⟨p1, hp1, hc1⟩ := hL.logs.at 0 i (by omega) (by omega)
    refine WL.quiet Own.closed rfl (by decide) (GuardIs.none) (fun _ => QV.indexSlice sl48 rfl rfl rfl rfl hp1) ?_
    refine WL.quiet Own.closed rfl (by decide) (GuardIs.none) (fun _ => QV.load pl3 rfl rfl (Own.base (CellsAt.one 0 hc1 rfl))) ?_
    refine WL.quiet Own.closed rfl (by decide) (GuardIs.none) (fun _ => QV.assign rfl rfl) ?_
    refine WL.nil ?_
    refine WQ.then ?_
    refine WC.seq ?_
    refine WC.region ?_
    refine WL.quiet Own.closed rfl (by decide) (GuardIs.none) (fun _ => QV.move rfl rfl) ?_
    refine WL.quiet Own.closed rfl (by decide) (GuardIs.none) (fun _ => QV.call en48 (EvAll.cons rfl rfl (EvAll.cons rfl rfl (EvAll.cons rfl rfl EvAll.nil))) (fun w hw => loop_in _ _ _ w)) ?_
    refine WL.quiet Own.closed rfl (by decide) (GuardIs.none) (fun _ => QV.not rfl rfl) ?_
    refine WL.nil ?_
    refine WQ.then ?_
    refine WC.cond rfl (fun h18 => ?_) (fun h18 => ?_)
    · skip
      refine WC.seq ?_
      refine WC.region ?_
      refine WL.quiet Own.closed rfl (by decide) (GuardIs.none) (fun _ => QV.assign rfl rfl) ?_
      refine WL.nil ?_
      refine WQ.then ?_
      refine WC.ret ?_
      refine WQ.block_ret ?_
      refine WQ.then_ret ?_
      refine WQ.then_ret ?_
      refine WQ.block_ret ?_
      refine WQ.then_ret ?_
      refine WQ.ret1 rfl rfl (fun w hw => ?_)
      refine ⟨ret_bool ?_, hw.grow⟩; first | (refine (tb_nof fun hX => ?_).symm; have := hX.2.2.2.1 i.toNat (by omega); simp [-List.getD_eq_getElem?_getD, -Int.pred_toNat] at h18; omega) | (refine (tb_nof fun hX => ?_).symm; have := (out_step hi0 hB).2 (hX.2.2.2.2.1 i.toNat (by omega)); simp [-List.getD_eq_getElem?_getD, -Int.pred_toNat] at h34; omega) | (refine (tb_nof fun hX => ?_).symm; simp only [Bool.or_eq_true, decide_eq_true_eq, Bool.not_eq_true', tb_not] at h52; rcases h52 with h52 | h52; (have := hX.2.2.1; omega); (have := hX.2.2.2.2.2 i.toNat (by omega); rw [Int.toNat_of_nonneg hi0] at this; exact h52 this)) | (apply tb_eq; constructor; (intro hx; simp [-List.getD_eq_getElem?_getD, -Int.pred_toNat] at hx; exact ⟨by omega, by omega, by omega, hA', hB', hD'⟩); (intro hx; have h1 := hx.1; have h2 := hx.2.1; have h3 := hx.2.2.1; simp; omega))
    · skip
      refine WC.skip ?_
      refine WQ.block ?_
      refine WQ.then ?_
      refine WC.region ?_
      refine WL.quiet Own.closed rfl (by decide) (GuardIs.none) (fun _ => QV.add rfl rfl rfl rfl (by omega)) ?_
      refine WL.quiet Own.closed rfl (by decide) (GuardIs.none) (fun _ => QV.move rfl rfl) ?_
      refine WL.nil ?_
      refine WQ.againC (i + 1) ?_ ?_ ⟨rfl, rfl, rfl, rfl, trivial⟩ (fun w hw => hw)
      · exact ⟨by omega, by have := of_decide_eq_true h13; omega, to_next hA hi0 (by simp [-List.getD_eq_getElem?_getD, -Int.pred_toNat] at h18; omega)⟩
      · have := of_decide_eq_true h13; omega
  · skip
    have hA' : LogsTo l l.logs.length := to_le hA (by have := of_decide_eq_false h13; omega)
    refine WC.exit ?_
    refine WQ.then_exit ?_
    refine WQ.then_exit ?_
    refine WQ.block_exit ?_
    refine WQ.then ?_
    refine WC.seq ?_
    refine WC.region ?_
    refine WL.quiet Own.closed rfl (by decide) (GuardIs.none) (fun _ => QV.assign rfl rfl) ?_
    refine WL.nil ?_
    refine WQ.then ?_
    refine WC.seq ?_
    refine WC.seq ?_
    refine WC.region ?_
    refine WL.quiet Own.closed rfl (by decide) (GuardIs.none) (fun _ => QV.fieldAddr fd51_2 rfl rfl) ?_
    refine WL.quiet Own.closed rfl (by decide) (GuardIs.none) (fun _ => QV.load pl48 rfl rfl (Own.cell 0 rfl rfl)) ?_
    refine WL.quiet Own.closed rfl (by decide) (GuardIs.none) (fun _ => QV.lenS Try.underlying48 rfl rfl hL.outs.lenMap) ?_
    refine WL.quiet Own.closed rfl (by decide) (GuardIs.none) (fun _ => QV.move rfl rfl) ?_
    refine WL.nil ?_
    refine WQ.then ?_
    refine WC.block ?_
    refine WC.loopC (τ := [(1, (true, _)), (21, (true, _)), (22, (true, _))]) (fun i : Int => [(23, (true, .int .i64 i)), (5, (true, .int .i64 (lastOut l i)))]) _ (fun i : Int => 0 ≤ i ∧ i ≤ l.outs.length ∧ OutsTo l i) (fun i : Int => (l.outs.length - i).toNat) 0 (⟨by omega, by omega, to_zero⟩) ⟨rfl, rfl, rfl, rfl, rfl, trivial⟩ (fun w hw => hw) ?_
    rintro i ⟨hi0, hi1, hB⟩
    have hlb := lastOut_bd hi0 hB
    refine WC.seq ?_
    refine WC.region ?_
    refine WL.quiet Own.closed rfl (by decide) (GuardIs.none) (fun _ => QV.lss rfl rfl rfl rfl) ?_
    refine WL.nil ?_
    refine WQ.then ?_
    refine WC.seq ?_
    refine WC.cond rfl (fun h24 => ?_) (fun h24 => ?_)
    · skip
      have hlt := of_decide_eq_true h24
      refine WC.skip ?_
      refine WQ.then ?_
      refine WC.seq ?_
      refine WC.block ?_
      refine WC.seq ?_
      refine WC.region ?_
      obtain ⟨p2, hp2, hc2⟩ := hL.outs.at 0 i (by omega) (by omega)
      refine WL.quiet Own.closed rfl (by decide) (GuardIs.none) (fun _ => QV.indexSlice sl48 rfl rfl rfl rfl hp2) ?_
      refine WL.quiet Own.closed rfl (by decide) (GuardIs.none) (fun _ => QV.load pl3 rfl rfl (Own.base (CellsAt.one 0 hc2 rfl))) ?_
      refine WL.quiet Own.closed rfl (by decide) (GuardIs.none) (fun _ => QV.assign rfl rfl) ?_
      refine WL.nil ?_
      refine WQ.then ?_
      refine WC.seq ?_
      refine WC.seq ?_
      refine WC.region ?_
      refine WL.quiet Own.closed rfl (by decide) (GuardIs.none) (fun _ => QV.move rfl rfl) ?_
      refine WL.quiet Own.closed rfl (by decide) (GuardIs.none) (fun _ => QV.move rfl rfl) ?_
      refine WL.quiet Own.closed rfl (by decide) (GuardIs.none) (fun _ => QV.add rfl rfl rfl rfl (by omega)) ?_
      refine WL.quiet Own.closed rfl (by decide) (GuardIs.none) (fun _ => QV.fieldAddr fd51_1 rfl rfl) ?_
      refine WL.quiet Own.closed rfl (by decide) (GuardIs.none) (fun _ => QV.load pl49 rfl rfl (Own.cell 0 rfl rfl)) ?_
      refine WL.quiet Own.closed rfl (by decide) (GuardIs.none) (fun _ => QV.lenS Try.underlying49 rfl rfl hL.body.lenMap) ?_
      refine WL.quiet Own.closed rfl (by decide) (GuardIs.none) (fun _ => QV.call en48 (EvAll.cons rfl rfl (EvAll.cons rfl rfl (EvAll.cons rfl rfl EvAll.nil))) (fun w hw => loop_in _ _ _ w)) ?_
      refine WL.quiet Own.closed rfl (by decide) (GuardIs.none) (fun _ => QV.not rfl rfl) ?_
      refine WL.nil ?_
      refine WQ.then ?_
      refine WC.cond rfl (fun h34 => ?_) (fun h34 => ?_)
      · skip
        refine WC.seq ?_
        refine WC.region ?_
        refine WL.quiet Own.closed rfl (by decide) (GuardIs.none) (fun _ => QV.assign rfl rfl) ?_
        refine WL.nil ?_
        refine WQ.then ?_
        refine WC.ret ?_
        refine WQ.then_ret ?_
        refine WQ.block_ret ?_
        refine WQ.then_ret ?_
        refine WQ.then_ret ?_
        refine WQ.block_ret ?_
        refine WQ.then_ret ?_
        refine WQ.ret1 rfl rfl (fun w hw => ?_)
        refine ⟨ret_bool ?_, hw.grow⟩; first | (refine (tb_nof fun hX => ?_).symm; have := hX.2.2.2.1 i.toNat (by omega); simp [-List.getD_eq_getElem?_getD, -Int.pred_toNat] at h18; omega) | (refine (tb_nof fun hX => ?_).symm; have := (out_step hi0 hB).2 (hX.2.2.2.2.1 i.toNat (by omega)); simp [-List.getD_eq_getElem?_getD, -Int.pred_toNat] at h34; omega) | (refine (tb_nof fun hX => ?_).symm; simp only [Bool.or_eq_true, decide_eq_true_eq, Bool.not_eq_true', tb_not] at h52; rcases h52 with h52 | h52; (have := hX.2.2.1; omega); (have := hX.2.2.2.2.2 i.toNat (by omega); rw [Int.toNat_of_nonneg hi0] at this; exact h52 this)) | (apply tb_eq; constructor; (intro hx; simp [-List.getD_eq_getElem?_getD, -Int.pred_toNat] at hx; exact ⟨by omega, by omega, by omega, hA', hB', hD'⟩); (intro hx; have h1 := hx.1; have h2 := hx.2.1; have h3 := hx.2.2.1; simp; omega))
      · skip
        refine WC.skip ?_
        refine WQ.then ?_
        refine WC.region ?_
        refine WL.quiet Own.closed rfl (by decide) (GuardIs.none) (fun _ => QV.move rfl rfl) ?_
        refine WL.quiet Own.closed rfl (by decide) (GuardIs.none) (fun _ => QV.assign rfl rfl) ?_
        refine WL.nil ?_
        refine WQ.block ?_
        refine WQ.then ?_
        refine WC.region ?_
        refine WL.quiet Own.closed rfl (by decide) (GuardIs.none) (fun _ => QV.add rfl rfl rfl rfl (by omega)) ?_
        refine WL.quiet Own.closed rfl (by decide) (GuardIs.none) (fun _ => QV.move rfl rfl) ?_
        refine WL.nil ?_
        refine WQ.againC (i + 1) ?_ ?_ ⟨rfl, look_int rfl (lastOut_next hi0).symm, rfl, rfl, rfl, trivial⟩ (fun w hw => hw)
        · exact ⟨by omega, by omega, to_next hB hi0 ((out_step hi0 hB).1 (by simp [-List.getD_eq_getElem?_getD, -Int.pred_toNat] at h34; omega))⟩
        · have := of_decide_eq_true h24; omega
    · skip
      have hB' : OutsTo l l.outs.length := to_le hB (by have := of_decide_eq_false h24; omega)
      refine WC.exit ?_
      refine WQ.then_exit ?_
      refine WQ.then_exit ?_
      refine WQ.block_exit ?_
      refine WQ.then ?_
      refine WC.seq ?_
      refine WC.seq ?_
      refine WC.region ?_
      refine WL.quiet Own.closed rfl (by decide) (GuardIs.none) (fun _ => QV.fieldAddr fd51_1 rfl rfl) ?_
      refine WL.quiet Own.closed rfl (by decide) (GuardIs.none) (fun _ => QV.load pl49 rfl rfl (Own.cell 0 rfl rfl)) ?_
      refine WL.quiet Own.closed rfl (by decide) (GuardIs.none) (fun _ => QV.lenS Try.underlying49 rfl rfl hL.body.lenMap) ?_
      refine WL.quiet Own.closed rfl (by decide) (GuardIs.none) (fun _ => QV.move rfl rfl) ?_
      refine WL.nil ?_
      refine WQ.then ?_
      refine WC.block ?_
      refine WC.loopC (τ := [(1, (true, _)), (39, (true, _))]) (fun i : Int => [(40, (true, .int .i64 i))]) _ (fun i : Int => 0 ≤ i ∧ i ≤ l.body.length ∧ BodyTo l i ∧ (0 < i → l.body.length ≤ 16)) (fun i : Int => (l.body.length - i).toNat) 0 (⟨by omega, by omega, to_zero, by omega⟩) ⟨rfl, rfl, rfl, trivial⟩ (fun w hw => hw) ?_
      rintro i ⟨hi0, hi1, hD, hE⟩
      refine WC.seq ?_
      refine WC.region ?_
      refine WL.quiet Own.closed rfl (by decide) (GuardIs.none) (fun _ => QV.lss rfl rfl rfl rfl) ?_
      refine WL.nil ?_
      refine WQ.then ?_
      refine WC.seq ?_
      refine WC.cond rfl (fun h41 => ?_) (fun h41 => ?_)
      · skip
        have hlt := of_decide_eq_true h41
        refine WC.skip ?_
        refine WQ.then ?_
        refine WC.seq ?_
        refine WC.block ?_
        refine WC.seq ?_
        refine WC.region ?_
        refine WL.quiet Own.closed rfl (by decide) (GuardIs.none) (fun _ => QV.move rfl rfl) ?_
        refine WL.quiet Own.closed rfl (by decide) (GuardIs.none) (fun _ => QV.assign rfl rfl) ?_
        refine WL.nil ?_
        refine WQ.then ?_
        refine WC.seq ?_
        refine WC.region ?_
        refine WL.quiet Own.closed rfl (by decide) (GuardIs.none) (fun _ => QV.fieldAddr fd51_1 rfl rfl) ?_
        refine WL.quiet Own.closed rfl (by decide) (GuardIs.none) (fun _ => QV.load pl49 rfl rfl (Own.cell 0 rfl rfl)) ?_
        refine WL.quiet Own.closed rfl (by decide) (GuardIs.none) (fun _ => QV.lenS Try.underlying49 rfl rfl hL.body.lenMap) ?_
        refine WL.quiet Own.closed rfl (by decide) (GuardIs.none) (fun _ => QV.gtr rfl rfl rfl rfl) ?_
        refine WL.quiet Own.closed rfl (by decide) (GuardIs.none) (fun _ => QV.move rfl rfl) ?_
        refine WL.quiet Own.closed rfl (by decide) (GuardIs.neg rfl rfl) (fun hG => QV.loadAgg ag51 rfl rfl rfl (Own.cellsBlk 0 rfl)) ?_
        refine WL.quiet Own.closed rfl (by decide) (GuardIs.neg rfl rfl) (fun hG => QV.move rfl rfl) ?_
        refine WL.quiet Own.closed rfl (by decide) (GuardIs.neg rfl rfl) (fun hG => QV.call en49 (EvAll.cons rfl hG (EvAll.cons rfl hG EvAll.nil)) (fun w hw => loop_stmt l _ w (hL.grow hw.grow) (by omega))) ?_
        refine WL.quiet Own.closed rfl (by decide) (GuardIs.neg rfl rfl) (fun hG => QV.not rfl hG) ?_
        refine WL.quiet Own.closed rfl (by decide) (GuardIs.none) (fun _ => QV.pickOr rfl rfl rfl (fun h => notF h)) ?_
        refine WL.nil ?_
        refine WQ.then ?_
        refine WC.cond rfl (fun h52 => ?_) (fun h52 => ?_)
        · skip
          refine WC.seq ?_
          refine WC.region ?_
          refine WL.quiet Own.closed rfl (by decide) (GuardIs.none) (fun _ => QV.assign rfl rfl) ?_
          refine WL.nil ?_
          refine WQ.then ?_
          refine WC.ret ?_
          refine WQ.block_ret ?_
          refine WQ.then_ret ?_
          refine WQ.then_ret ?_
          refine WQ.block_ret ?_
          refine WQ.then_ret ?_
          refine WQ.ret1 rfl rfl (fun w hw => ?_)
          refine ⟨ret_bool ?_, hw.grow⟩; first | (refine (tb_nof fun hX => ?_).symm; have := hX.2.2.2.1 i.toNat (by omega); simp [-List.getD_eq_getElem?_getD, -Int.pred_toNat] at h18; omega) | (refine (tb_nof fun hX => ?_).symm; have := (out_step hi0 hB).2 (hX.2.2.2.2.1 i.toNat (by omega)); simp [-List.getD_eq_getElem?_getD, -Int.pred_toNat] at h34; omega) | (refine (tb_nof fun hX => ?_).symm; simp only [Bool.or_eq_true, decide_eq_true_eq, Bool.not_eq_true', tb_not] at h52; rcases h52 with h52 | h52; (have := hX.2.2.1; omega); (have := hX.2.2.2.2.2 i.toNat (by omega); rw [Int.toNat_of_nonneg hi0] at this; exact h52 this)) | (apply tb_eq; constructor; (intro hx; simp [-List.getD_eq_getElem?_getD, -Int.pred_toNat] at hx; exact ⟨by omega, by omega, by omega, hA', hB', hD'⟩); (intro hx; have h1 := hx.1; have h2 := hx.2.1; have h3 := hx.2.2.1; simp; omega))
        · skip
          refine WC.skip ?_
          refine WQ.block ?_
          refine WQ.then ?_
          refine WC.region ?_
          refine WL.quiet Own.closed rfl (by decide) (GuardIs.none) (fun _ => QV.add rfl rfl rfl rfl (by omega)) ?_
          refine WL.quiet Own.closed rfl (by decide) (GuardIs.none) (fun _ => QV.move rfl rfl) ?_
          refine WL.nil ?_
          refine WQ.againC (i + 1) ?_ ?_ ⟨rfl, rfl, rfl, trivial⟩ (fun w hw => hw)
          · simp [tb_iff] at h52; exact ⟨by omega, by omega, to_next hD hi0 (by rw [Int.toNat_of_nonneg hi0]; exact h52.2), by omega⟩
          · have := of_decide_eq_true h41; omega
      · skip
        have hge := of_decide_eq_false h41; have hD' : BodyTo l l.body.length := to_le hD (by omega)
        refine WC.exit ?_
        refine WQ.then_exit ?_
        refine WQ.then_exit ?_
        refine WQ.block_exit ?_
        refine WQ.then ?_
        refine WC.seq ?_
        refine WC.region ?_
        refine WL.quiet Own.closed rfl (by decide) (GuardIs.none) (fun _ => QV.fieldAddr fd51_0 rfl rfl) ?_
        refine WL.quiet Own.closed rfl (by decide) (GuardIs.none) (fun _ => QV.load pl48 rfl rfl (Own.cell 0 rfl rfl)) ?_
        refine WL.quiet Own.closed rfl (by decide) (GuardIs.none) (fun _ => QV.lenS Try.underlying48 rfl rfl hL.logs.lenMap) ?_
        refine WL.quiet Own.closed rfl (by decide) (GuardIs.none) (fun _ => QV.leq rfl rfl rfl rfl) ?_
        refine WL.quiet Own.closed rfl (by decide) (GuardIs.none) (fun _ => QV.move rfl rfl) ?_
        refine WL.quiet Own.closed rfl (by decide) (GuardIs.pos rfl rfl) (fun hG => QV.fieldAddr fd51_1 rfl rfl) ?_
        refine WL.quiet Own.closed rfl (by decide) (GuardIs.pos rfl rfl) (fun hG => QV.load pl49 rfl hG (Own.cell 0 rfl rfl)) ?_
        refine WL.quiet Own.closed rfl (by decide) (GuardIs.pos rfl rfl) (fun hG => QV.lenS Try.underlying49 rfl hG hL.body.lenMap) ?_
        refine WL.quiet Own.closed rfl (by decide) (GuardIs.pos rfl rfl) (fun hG => QV.gtr rfl hG rfl rfl) ?_
        refine WL.quiet Own.closed rfl (by decide) (GuardIs.none) (fun _ => QV.pickAnd rfl rfl rfl (fun h => h)) ?_
        refine WL.quiet Own.closed rfl (by decide) (GuardIs.none) (fun _ => QV.assign rfl rfl) ?_
        refine WL.nil ?_
        refine WQ.then ?_
        refine WC.ret ?_
        refine WQ.ret1 rfl rfl (fun w hw => ?_)
        refine ⟨ret_bool ?_, hw.grow⟩; first | (refine (tb_nof fun hX => ?_).symm; have := hX.2.2.2.1 i.toNat (by omega); simp [-List.getD_eq_getElem?_getD, -Int.pred_toNat] at h18; omega) | (refine (tb_nof fun hX => ?_).symm; have := (out_step hi0 hB).2 (hX.2.2.2.2.1 i.toNat (by omega)); simp [-List.getD_eq_getElem?_getD, -Int.pred_toNat] at h34; omega) | (refine (tb_nof fun hX => ?_).symm; simp only [Bool.or_eq_true, decide_eq_true_eq, Bool.not_eq_true', tb_not] at h52; rcases h52 with h52 | h52; (have := hX.2.2.1; omega); (have := hX.2.2.2.2.2 i.toNat (by omega); rw [Int.toNat_of_nonneg hi0] at this; exact h52 this)) | (apply tb_eq; constructor; (intro hx; simp [-List.getD_eq_getElem?_getD, -Int.pred_toNat] at hx; exact ⟨by omega, by omega, by omega, hA', hB', hD'⟩); (intro hx; have h1 := hx.1; have h2 := hx.2.1; have h3 := hx.2.2.1; simp; omega))
end Go.Proofs.Ytaimbkndebaaiaa
