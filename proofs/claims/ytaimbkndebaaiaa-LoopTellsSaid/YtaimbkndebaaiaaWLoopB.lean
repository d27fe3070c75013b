/- Walks. -/
import Derived.Test.YtaimbkndebaaiaaTypes
import Derived.Test.YtaimbkndebaaiaaWLoop
namespace Go.Proofs.Ytaimbkndebaaiaa
open Go.Rd
set_option linter.unusedVariables false
set_option linter.unusedSimpArgs false
set_option maxRecDepth 8000 in
set_option maxHeartbeats 1000000 in
theorem roundelayref2_stmt {v1 v2 v3 : Value} (l : Lp) (k : Int) (w : World) (hL : LpRep w v1 v2 v3 l) (hk : 0 ≤ k ∧ k < l.body.length) : Calls Try.prog 51 #[.agg #[v1, v2, v3], .int .i64 k] w (fun e w' => e = .returned (.bool (tb (StmtOk l.logs.length l.body.length k (l.body.getD k.toNat Stm.zero)))) ∧ Grow w w') := by
  refine calls_of_WC (n := 142) (args := [.agg #[v1, v2, v3], .int .i64 k]) Try.func51 rfl rfl (Nat.le_of_ble_eq_true rfl) ?_ (Own.start w)
  have hb1 := hL.lbody; have hb2 := hL.llogs; have hb3 := hL.louts; unfold maxLen at hb1 hb2 hb3
  refine WC.seq ?_
  refine WC.region ?_
  refine WL.effect rfl (EV.boxAgg (by decide) rfl rfl (fun b0 => ?_))
  refine WL.quiet Own.closed rfl (by decide) (GuardIs.none) (fun _ => QV.assign rfl rfl) ?_
  refine WL.nil ?_
  refine WQ.then ?_
  refine WC.seq ?_
  refine WC.region ?_
  refine WL.quiet Own.closed rfl (by decide) (GuardIs.none) (fun _ => QV.fieldAddr fd51_1 rfl rfl) ?_
  refine WL.quiet Own.closed rfl (by decide) (GuardIs.none) (fun _ => QV.load pl49 rfl rfl (Own.cell 0 rfl rfl)) ?_
  refine WL.quiet Own.closed rfl (by decide) (GuardIs.none) (fun _ => QV.move rfl rfl) ?_
  obtain ⟨p1, hp1, hc1⟩ := hL.body.at Stm.zero k (by omega) (by omega)
  refine WL.quiet Own.closed rfl (by decide) (GuardIs.none) (fun _ => QV.indexSlice sl49 rfl rfl rfl rfl hp1) ?_
  refine WL.quiet Own.closed rfl (by decide) (GuardIs.none) (fun _ => QV.loadAgg ag93 rfl rfl rfl (Own.cells hc1)) ?_
  refine WL.effect rfl (EV.alloc (by decide) ze93 (fun b2 => ?_))
  refine WL.effect rfl (EV.store 0 rfl rfl rfl rfl rfl rfl (vs := _) (show Value.cells _ = List.toArray _ from rfl) sz93 (Nat.le_of_ble_eq_true rfl) (one_cons rfl (one_cons rfl (one_cons rfl (one_cons rfl (one_cons rfl (one_cons rfl (one_cons rfl (one_cons rfl (one_cons rfl one_nil))))))))) ?_)
  refine WL.nil ?_
  refine WQ.then ?_
  refine WC.seq ?_
  refine WC.region ?_
  refine WL.quiet Own.closed rfl (by decide) (GuardIs.none) (fun _ => QV.loadAgg ag93 rfl rfl rfl (Own.cellsBlk 0 rfl)) ?_
  refine WL.effect rfl (EV.callM (fun u => u) (fun u => arr u 2 ((usesL (l.body.getD k.toNat Stm.zero)).map Rf.cells)) (fun u => SliceLen u (usesL (l.body.getD k.toNat Stm.zero)).length) (by decide) en59 (EvAll.cons rfl rfl EvAll.nil) (fun w hw => roundelayref2_Uses (l.body.getD k.toNat Stm.zero) w) (fun u3 hF3 => ?_))
  have hul3 := usesL_len (l.body.getD k.toNat Stm.zero)
  refine WL.quiet Own.closed rfl (by decide) (GuardIs.none) (fun _ => QV.assign rfl rfl) ?_
  refine WL.nil ?_
  refine WQ.then ?_
  refine WC.seq ?_
  refine WC.seq ?_
  refine WC.region ?_
  refine WL.quiet Own.closed rfl (by decide) (GuardIs.none) (fun _ => QV.assign rfl rfl) ?_
  refine WL.nil ?_
  refine WQ.then ?_
  refine WC.block ?_
  refine WC.loopC (τ := [(1, (true, _)), (2, (true, _)), (5, (true, _)), (6, (true, _))]) (fun i : Int => [(7, (true, .int .i64 i))]) _ (fun i : Int => 0 ≤ i ∧ i ≤ (usesL (l.body.getD k.toNat Stm.zero)).length ∧ UsesTo l.body.length k i (l.body.getD k.toNat Stm.zero)) (fun i : Int => ((usesL (l.body.getD k.toNat Stm.zero)).length - i).toNat) 0 (⟨by omega, by omega, uses_start⟩) ⟨rfl, rfl, rfl, rfl, rfl, trivial⟩ (fun w hw => hw) ?_
  rintro i ⟨hi0, hi1, hiU⟩
  refine WC.seq ?_
  refine WC.seq ?_
  refine WC.region ?_
  refine WL.quiet Own.closed rfl (by decide) (GuardIs.none) (fun _ => QV.move rfl rfl) ?_
  refine WL.quiet Own.closed rfl (by decide) (GuardIs.none) (fun _ => QV.move rfl rfl) ?_
  refine WL.quiet Own.closed rfl (by decide) (GuardIs.none) (fun _ => QV.lenS Try.underlying96 rfl rfl hF3) ?_
  refine WL.quiet Own.closed rfl (by decide) (GuardIs.none) (fun _ => QV.lss rfl rfl rfl rfl) ?_
  refine WL.nil ?_
  refine WQ.then ?_
  refine WC.cond rfl (fun h19 => ?_) (fun h19 => ?_)
  · skip
    have hlt := of_decide_eq_true h19
    refine WC.skip ?_
    refine WQ.then ?_
    refine WC.seq ?_
    refine WC.block ?_
    refine WC.seq ?_
    refine WC.region ?_
    refine WL.quiet Own.closed rfl (by decide) (GuardIs.none) (fun _ => QV.fieldAddr fd51_1 rfl rfl) ?_
    refine WL.quiet Own.closed rfl (by decide) (GuardIs.none) (fun _ => QV.load pl49 rfl rfl (Own.cell 2 rfl rfl)) ?_
    refine WL.quiet Own.closed rfl (by decide) (GuardIs.none) (fun _ => QV.lenS Try.underlying49 rfl rfl hL.body.lenMap) ?_
    refine WL.quiet Own.closed rfl (by decide) (GuardIs.none) (fun _ => QV.sub rfl rfl rfl rfl (by omega)) ?_
    refine WL.quiet Own.closed rfl (by decide) (GuardIs.none) (fun _ => QV.assign rfl rfl) ?_
    refine WL.nil ?_
    refine WQ.then ?_
    refine WC.seq ?_
    refine WC.seq ?_
    refine WC.region ?_
    refine WL.quiet Own.closed rfl (by decide) (GuardIs.none) (fun _ => QV.move rfl rfl) ?_
    refine WL.quiet Own.closed rfl (by decide) (GuardIs.none) (fun _ => QV.move rfl rfl) ?_
    have hl4 : i < ((usesL (l.body.getD k.toNat Stm.zero)).length : Int) := (by omega)
    obtain ⟨p4, hp4⟩ := SliceLen.elem hF3 2 i (by omega) hl4
    refine WL.quiet Own.closed rfl (by decide) (GuardIs.none) (fun _ => QV.indexSlice sl96 rfl rfl rfl rfl hp4) ?_
    refine WL.quiet Own.closed rfl (by decide) (GuardIs.none) (fun _ => QV.fieldAddr fd91_1 rfl rfl) ?_
    refine WL.quiet Own.closed rfl (by decide) (GuardIs.none) (fun _ => QV.load pl3 rfl rfl (fun w hw => CellsAt.one 1 ((Own.arrCells 0 Rf.zero rfl hp4 hl4) w hw) rfl)) ?_
    refine WL.quiet Own.closed rfl (by decide) (GuardIs.none) (fun _ => QV.eql rfl rfl rfl rfl) ?_
    refine WL.nil ?_
    refine WQ.then ?_
    refine WC.cond rfl (fun h31 => ?_) (fun h31 => ?_)
    · skip
      refine WC.region ?_
      refine WL.quiet Own.closed rfl (by decide) (GuardIs.none) (fun _ => QV.move rfl rfl) ?_
      refine WL.quiet Own.closed rfl (by decide) (GuardIs.none) (fun _ => QV.sub rfl rfl rfl rfl (by omega)) ?_
      refine WL.quiet Own.closed rfl (by decide) (GuardIs.none) (fun _ => QV.assign rfl rfl) ?_
      refine WL.nil ?_
      refine WQ.then ?_
      refine WC.seq ?_
      refine WC.region ?_
      refine WL.quiet Own.closed rfl (by decide) (GuardIs.none) (fun _ => QV.move rfl rfl) ?_
      refine WL.quiet Own.closed rfl (by decide) (GuardIs.none) (fun _ => QV.move rfl rfl) ?_
      have hl5 : i < ((usesL (l.body.getD k.toNat Stm.zero)).length : Int) := (by omega)
      obtain ⟨p5, hp5⟩ := SliceLen.elem hF3 2 i (by omega) hl5
      refine WL.quiet Own.closed rfl (by decide) (GuardIs.none) (fun _ => QV.indexSlice sl96 rfl rfl rfl rfl hp5) ?_
      refine WL.quiet Own.closed rfl (by decide) (GuardIs.none) (fun _ => QV.fieldAddr fd91_1 rfl rfl) ?_
      refine WL.quiet Own.closed rfl (by decide) (GuardIs.none) (fun _ => QV.load pl3 rfl rfl (fun w hw => CellsAt.one 1 ((Own.arrCells 0 Rf.zero rfl hp5 hl5) w hw) rfl)) ?_
      refine WL.quiet Own.closed rfl (by decide) (GuardIs.none) (fun _ => QV.call en50 (EvAll.cons rfl rfl (EvAll.cons rfl rfl (EvAll.cons rfl rfl EvAll.nil))) (fun w hw => roundelayref2_Within _ _ _ w)) ?_
      refine WL.quiet Own.closed rfl (by decide) (GuardIs.none) (fun _ => QV.not rfl rfl) ?_
      refine WL.quiet Own.closed rfl (by decide) (GuardIs.none) (fun _ => QV.move rfl rfl) ?_
      refine WL.quiet Own.closed rfl (by decide) (GuardIs.neg rfl rfl) (fun hG => QV.move rfl rfl) ?_
      refine WL.quiet Own.closed rfl (by decide) (GuardIs.neg rfl rfl) (fun hG => QV.move rfl rfl) ?_
      have hl6 : i < ((usesL (l.body.getD k.toNat Stm.zero)).length : Int) := (by omega)
      obtain ⟨p6, hp6⟩ := SliceLen.elem hF3 2 i (by omega) hl6
      refine WL.quiet Own.closed rfl (by decide) (GuardIs.neg rfl rfl) (fun hG => QV.indexSlice sl96 rfl hG rfl hG hp6) ?_
      refine WL.quiet Own.closed rfl (by decide) (GuardIs.neg rfl rfl) (fun hG => QV.fieldAddr fd91_0 rfl hG) ?_
      refine WL.quiet Own.closed rfl (by decide) (GuardIs.neg rfl rfl) (fun hG => QV.load pl3 rfl hG (fun w hw => CellsAt.one 0 ((Own.arrCells 0 Rf.zero rfl hp6 hl6) w hw) rfl)) ?_
      refine WL.quiet Own.closed rfl (by decide) (GuardIs.neg rfl rfl) (fun hG => QV.move rfl rfl) ?_
      refine WL.quiet Own.closed rfl (by decide) (GuardIs.neg rfl rfl) (fun hG => QV.call en50 (EvAll.cons rfl hG (EvAll.cons rfl rfl (EvAll.cons rfl hG EvAll.nil))) (fun w hw => roundelayref2_Within _ _ _ w)) ?_
      refine WL.quiet Own.closed rfl (by decide) (GuardIs.neg rfl rfl) (fun hG => QV.not rfl hG) ?_
      refine WL.quiet Own.closed rfl (by decide) (GuardIs.none) (fun _ => QV.pickOr rfl rfl rfl (fun h => notF h)) ?_
      refine WL.nil ?_
      refine WQ.then ?_
      refine WC.cond rfl (fun h50 => ?_) (fun h50 => ?_)
      · skip
        refine WC.seq ?_
        refine WC.region ?_
        refine WL.quiet Own.closed rfl (by decide) (GuardIs.none) (fun _ => QV.assign rfl rfl) ?_
        refine WL.nil ?_
        refine WQ.then ?_
        refine WC.ret ?_
        refine WQ.block_ret ?_
        refine WQ.then_ret ?_
        refine WQ.then_ret ?_
        refine WQ.block_ret ?_
        refine WQ.then_ret ?_
        refine WQ.ret1 rfl rfl (fun w hw => ?_)
        refine ⟨ret_bool ?_, hw.grow⟩; first | exact (tb_nof (uses_bad hi0 hlt (by unfold RefOk; simp [-List.getD_eq_getElem?_getD, -Int.pred_toNat] at h50 h31; omega))).symm | (rw [tb_congr hse]; refine (tb_nof fun hX => ?_).symm; have hq := rest_zero hX; unfold Zeros Rf.isZero at hq; simp [-List.getD_eq_getElem?_getD, -Int.pred_toNat] at h82; omega) | (rw [tb_congr hse]; simp [-List.getD_eq_getElem?_getD, -Int.pred_toNat] at h90; exact (tb_nof (rest_n h90.1 h90.2)).symm) | (rw [tb_congr hse, tb_congr (rest_34 e34 hz (by omega))]; apply tb_eq; simp [WordOk, and_assoc]; omega) | (rw [tb_congr hse]; refine (tb_nof fun hX => ?_).symm; have hq := rest_still e34 hX; unfold StillOk at hq; simp [-List.getD_eq_getElem?_getD, -Int.pred_toNat] at h128; omega) | (rw [tb_congr hse, tb_congr (rest_end e34 hz hst en)]; apply tb_eq; simp [or_assoc]; done)
      · skip
        refine WC.skip ?_
        refine WQ.block ?_
        refine WQ.then ?_
        refine WC.region ?_
        refine WL.quiet Own.closed rfl (by decide) (GuardIs.none) (fun _ => QV.move rfl rfl) ?_
        refine WL.quiet Own.closed rfl (by decide) (GuardIs.none) (fun _ => QV.add rfl rfl rfl rfl (by omega)) ?_
        refine WL.quiet Own.closed rfl (by decide) (GuardIs.none) (fun _ => QV.assign rfl rfl) ?_
        refine WL.nil ?_
        refine WQ.againC (i + 1) ?_ ?_ ⟨rfl, rfl, rfl, rfl, rfl, trivial⟩ (fun w hw => hw)
        · exact ⟨by omega, by have := of_decide_eq_true h19; omega, uses_next hiU hi0 (by unfold RefOk; simp [-List.getD_eq_getElem?_getD, -Int.pred_toNat] at h50 h31; omega)⟩
        · have := of_decide_eq_true h19; omega
    · skip
      refine WC.skip ?_
      refine WQ.then ?_
      refine WC.seq ?_
      refine WC.region ?_
      refine WL.quiet Own.closed rfl (by decide) (GuardIs.none) (fun _ => QV.move rfl rfl) ?_
      refine WL.quiet Own.closed rfl (by decide) (GuardIs.none) (fun _ => QV.move rfl rfl) ?_
      have hl7 : i < ((usesL (l.body.getD k.toNat Stm.zero)).length : Int) := (by omega)
      obtain ⟨p7, hp7⟩ := SliceLen.elem hF3 2 i (by omega) hl7
      refine WL.quiet Own.closed rfl (by decide) (GuardIs.none) (fun _ => QV.indexSlice sl96 rfl rfl rfl rfl hp7) ?_
      refine WL.quiet Own.closed rfl (by decide) (GuardIs.none) (fun _ => QV.fieldAddr fd91_1 rfl rfl) ?_
      refine WL.quiet Own.closed rfl (by decide) (GuardIs.none) (fun _ => QV.load pl3 rfl rfl (fun w hw => CellsAt.one 1 ((Own.arrCells 0 Rf.zero rfl hp7 hl7) w hw) rfl)) ?_
      refine WL.quiet Own.closed rfl (by decide) (GuardIs.none) (fun _ => QV.call en50 (EvAll.cons rfl rfl (EvAll.cons rfl rfl (EvAll.cons rfl rfl EvAll.nil))) (fun w hw => roundelayref2_Within _ _ _ w)) ?_
      refine WL.quiet Own.closed rfl (by decide) (GuardIs.none) (fun _ => QV.not rfl rfl) ?_
      refine WL.quiet Own.closed rfl (by decide) (GuardIs.none) (fun _ => QV.move rfl rfl) ?_
      refine WL.quiet Own.closed rfl (by decide) (GuardIs.neg rfl rfl) (fun hG => QV.move rfl rfl) ?_
      refine WL.quiet Own.closed rfl (by decide) (GuardIs.neg rfl rfl) (fun hG => QV.move rfl rfl) ?_
      have hl8 : i < ((usesL (l.body.getD k.toNat Stm.zero)).length : Int) := (by omega)
      obtain ⟨p8, hp8⟩ := SliceLen.elem hF3 2 i (by omega) hl8
      refine WL.quiet Own.closed rfl (by decide) (GuardIs.neg rfl rfl) (fun hG => QV.indexSlice sl96 rfl hG rfl hG hp8) ?_
      refine WL.quiet Own.closed rfl (by decide) (GuardIs.neg rfl rfl) (fun hG => QV.fieldAddr fd91_0 rfl hG) ?_
      refine WL.quiet Own.closed rfl (by decide) (GuardIs.neg rfl rfl) (fun hG => QV.load pl3 rfl hG (fun w hw => CellsAt.one 0 ((Own.arrCells 0 Rf.zero rfl hp8 hl8) w hw) rfl)) ?_
      refine WL.quiet Own.closed rfl (by decide) (GuardIs.neg rfl rfl) (fun hG => QV.move rfl rfl) ?_
      refine WL.quiet Own.closed rfl (by decide) (GuardIs.neg rfl rfl) (fun hG => QV.call en50 (EvAll.cons rfl hG (EvAll.cons rfl rfl (EvAll.cons rfl hG EvAll.nil))) (fun w hw => roundelayref2_Within _ _ _ w)) ?_
      refine WL.quiet Own.closed rfl (by decide) (GuardIs.neg rfl rfl) (fun hG => QV.not rfl hG) ?_
      refine WL.quiet Own.closed rfl (by decide) (GuardIs.none) (fun _ => QV.pickOr rfl rfl rfl (fun h => notF h)) ?_
      refine WL.nil ?_
      refine WQ.then ?_
      refine WC.cond rfl (fun h50 => ?_) (fun h50 => ?_)
      · skip
        refine WC.seq ?_
        refine WC.region ?_
        refine WL.quiet Own.closed rfl (by decide) (GuardIs.none) (fun _ => QV.assign rfl rfl) ?_
        refine WL.nil ?_
        refine WQ.then ?_
        refine WC.ret ?_
        refine WQ.block_ret ?_
        refine WQ.then_ret ?_
        refine WQ.then_ret ?_
        refine WQ.block_ret ?_
        refine WQ.then_ret ?_
        refine WQ.ret1 rfl rfl (fun w hw => ?_)
        refine ⟨ret_bool ?_, hw.grow⟩; first | exact (tb_nof (uses_bad hi0 hlt (by unfold RefOk; simp [-List.getD_eq_getElem?_getD, -Int.pred_toNat] at h50 h31; omega))).symm | (rw [tb_congr hse]; refine (tb_nof fun hX => ?_).symm; have hq := rest_zero hX; unfold Zeros Rf.isZero at hq; simp [-List.getD_eq_getElem?_getD, -Int.pred_toNat] at h82; omega) | (rw [tb_congr hse]; simp [-List.getD_eq_getElem?_getD, -Int.pred_toNat] at h90; exact (tb_nof (rest_n h90.1 h90.2)).symm) | (rw [tb_congr hse, tb_congr (rest_34 e34 hz (by omega))]; apply tb_eq; simp [WordOk, and_assoc]; omega) | (rw [tb_congr hse]; refine (tb_nof fun hX => ?_).symm; have hq := rest_still e34 hX; unfold StillOk at hq; simp [-List.getD_eq_getElem?_getD, -Int.pred_toNat] at h128; omega) | (rw [tb_congr hse, tb_congr (rest_end e34 hz hst en)]; apply tb_eq; simp [or_assoc]; done)
      · skip
        refine WC.skip ?_
        refine WQ.block ?_
        refine WQ.then ?_
        refine WC.region ?_
        refine WL.quiet Own.closed rfl (by decide) (GuardIs.none) (fun _ => QV.move rfl rfl) ?_
        refine WL.quiet Own.closed rfl (by decide) (GuardIs.none) (fun _ => QV.add rfl rfl rfl rfl (by omega)) ?_
        refine WL.quiet Own.closed rfl (by decide) (GuardIs.none) (fun _ => QV.assign rfl rfl) ?_
        refine WL.nil ?_
        refine WQ.againC (i + 1) ?_ ?_ ⟨rfl, rfl, rfl, rfl, rfl, trivial⟩ (fun w hw => hw)
        · exact ⟨by omega, by have := of_decide_eq_true h19; omega, uses_next hiU hi0 (by unfold RefOk; simp [-List.getD_eq_getElem?_getD, -Int.pred_toNat] at h50 h31; omega)⟩
        · have := of_decide_eq_true h19; omega
  · skip
    have hse := stmt_rest (nl := l.logs.length) hiU (of_decide_eq_false h19)
    refine WC.exit ?_
    refine WQ.then_exit ?_
    refine WQ.then_exit ?_
    refine WQ.block_exit ?_
    refine WQ.then ?_
    refine WC.seq ?_
    refine WC.seq ?_
    refine WC.region ?_
    refine WL.quiet Own.closed rfl (by decide) (GuardIs.none) (fun _ => QV.move rfl rfl) ?_
    refine WL.quiet Own.closed rfl (by decide) (GuardIs.none) (fun _ => QV.lenS Try.underlying96 rfl rfl hF3) ?_
    refine WL.quiet Own.closed rfl (by decide) (GuardIs.none) (fun _ => QV.lss rfl rfl rfl rfl) ?_
    refine WL.quiet Own.closed rfl (by decide) (GuardIs.none) (fun _ => QV.move rfl rfl) ?_
    refine WL.quiet Own.closed rfl (by decide) (GuardIs.pos rfl rfl) (fun hG => QV.fieldAddr fd93_2 rfl rfl) ?_
    refine WL.quiet Own.closed rfl (by decide) (GuardIs.pos rfl rfl) (fun hG => QV.fieldAddr fd91_0 rfl hG) ?_
    refine WL.quiet Own.closed rfl (by decide) (GuardIs.pos rfl rfl) (fun hG => QV.load pl3 rfl hG (Own.cell 1 rfl rfl)) ?_
    refine WL.quiet Own.closed rfl (by decide) (GuardIs.pos rfl rfl) (fun hG => QV.neq rfl hG rfl rfl) ?_
    refine WL.quiet Own.closed rfl (by decide) (GuardIs.pos rfl rfl) (fun hG => QV.move rfl hG) ?_
    refine WL.quiet Own.closed rfl (by decide) (GuardIs.negC rfl rfl) (fun hG => QV.fieldAddr fd93_2 rfl rfl) ?_
    refine WL.quiet Own.closed rfl (by decide) (GuardIs.negC rfl rfl) (fun hG => QV.fieldAddr fd91_1 rfl hG) ?_
    refine WL.quiet Own.closed rfl (by decide) (GuardIs.negC rfl rfl) (fun hG => QV.load pl3 rfl hG (Own.cell 1 rfl rfl)) ?_
    refine WL.quiet Own.closed rfl (by decide) (GuardIs.negC rfl rfl) (fun hG => QV.neq rfl hG rfl rfl) ?_
    refine WL.quiet Own.closed rfl (by decide) (GuardIs.pos rfl rfl) (fun hG => QV.pickOr rfl hG rfl (fun h => andN hG h)) ?_
    refine WL.quiet Own.closed rfl (by decide) (GuardIs.none) (fun _ => QV.pickAnd rfl rfl rfl (fun h => h)) ?_
    refine WL.quiet Own.closed rfl (by decide) (GuardIs.none) (fun _ => QV.move rfl rfl) ?_
    refine WL.quiet Own.closed rfl (by decide) (GuardIs.neg rfl rfl) (fun hG => QV.move rfl rfl) ?_
    refine WL.quiet Own.closed rfl (by decide) (GuardIs.neg rfl rfl) (fun hG => QV.lenS Try.underlying96 rfl hG hF3) ?_
    refine WL.quiet Own.closed rfl (by decide) (GuardIs.neg rfl rfl) (fun hG => QV.lss rfl hG rfl rfl) ?_
    refine WL.quiet Own.closed rfl (by decide) (GuardIs.neg rfl rfl) (fun hG => QV.move rfl hG) ?_
    refine WL.quiet Own.closed rfl (by decide) (GuardIs.posC rfl rfl) (fun hG => QV.fieldAddr fd93_1 rfl rfl) ?_
    refine WL.quiet Own.closed rfl (by decide) (GuardIs.posC rfl rfl) (fun hG => QV.fieldAddr fd91_0 rfl hG) ?_
    refine WL.quiet Own.closed rfl (by decide) (GuardIs.posC rfl rfl) (fun hG => QV.load pl3 rfl hG (Own.cell 1 rfl rfl)) ?_
    refine WL.quiet Own.closed rfl (by decide) (GuardIs.posC rfl rfl) (fun hG => QV.neq rfl hG rfl rfl) ?_
    refine WL.quiet Own.closed rfl (by decide) (GuardIs.posC rfl rfl) (fun hG => QV.move rfl hG) ?_
    refine WL.quiet Own.closed rfl (by decide) (GuardIs.negC rfl rfl) (fun hG => QV.fieldAddr fd93_1 rfl rfl) ?_
    refine WL.quiet Own.closed rfl (by decide) (GuardIs.negC rfl rfl) (fun hG => QV.fieldAddr fd91_1 rfl hG) ?_
    refine WL.quiet Own.closed rfl (by decide) (GuardIs.negC rfl rfl) (fun hG => QV.load pl3 rfl hG (Own.cell 1 rfl rfl)) ?_
    refine WL.quiet Own.closed rfl (by decide) (GuardIs.negC rfl rfl) (fun hG => QV.neq rfl hG rfl rfl) ?_
    refine WL.quiet Own.closed rfl (by decide) (GuardIs.posC rfl rfl) (fun hG => QV.pickOr rfl hG rfl (fun h => andN hG h)) ?_
    refine WL.quiet Own.closed rfl (by decide) (GuardIs.neg rfl rfl) (fun hG => QV.pickAnd rfl hG rfl (fun h => andT hG h)) ?_
    refine WL.quiet Own.closed rfl (by decide) (GuardIs.none) (fun _ => QV.pickOr rfl rfl rfl (fun h => notF h)) ?_
    refine WL.nil ?_
    refine WQ.then ?_
    refine WC.cond rfl (fun h82 => ?_) (fun h82 => ?_)
    · skip
      refine WC.seq ?_
      refine WC.region ?_
      refine WL.quiet Own.closed rfl (by decide) (GuardIs.none) (fun _ => QV.assign rfl rfl) ?_
      refine WL.nil ?_
      refine WQ.then ?_
      refine WC.ret ?_
      refine WQ.then_ret ?_
      refine WQ.ret1 rfl rfl (fun w hw => ?_)
      refine ⟨ret_bool ?_, hw.grow⟩; first | exact (tb_nof (uses_bad hi0 hlt (by unfold RefOk; simp [-List.getD_eq_getElem?_getD, -Int.pred_toNat] at h50 h31; omega))).symm | (rw [tb_congr hse]; refine (tb_nof fun hX => ?_).symm; have hq := rest_zero hX; unfold Zeros Rf.isZero at hq; simp [-List.getD_eq_getElem?_getD, -Int.pred_toNat] at h82; omega) | (rw [tb_congr hse]; simp [-List.getD_eq_getElem?_getD, -Int.pred_toNat] at h90; exact (tb_nof (rest_n h90.1 h90.2)).symm) | (rw [tb_congr hse, tb_congr (rest_34 e34 hz (by omega))]; apply tb_eq; simp [WordOk, and_assoc]; omega) | (rw [tb_congr hse]; refine (tb_nof fun hX => ?_).symm; have hq := rest_still e34 hX; unfold StillOk at hq; simp [-List.getD_eq_getElem?_getD, -Int.pred_toNat] at h128; omega) | (rw [tb_congr hse, tb_congr (rest_end e34 hz hst en)]; apply tb_eq; simp [or_assoc]; done)
    · skip
      have hz : Zeros (l.body.getD k.toNat Stm.zero) := (by unfold Zeros Rf.isZero; simp [-List.getD_eq_getElem?_getD, -Int.pred_toNat] at h82; omega)
      refine WC.skip ?_
      refine WQ.then ?_
      refine WC.seq ?_
      refine WC.seq ?_
      refine WC.region ?_
      refine WL.quiet Own.closed rfl (by decide) (GuardIs.none) (fun _ => QV.fieldAddr fd93_0 rfl rfl) ?_
      refine WL.quiet Own.closed rfl (by decide) (GuardIs.none) (fun _ => QV.load pl3 rfl rfl (Own.cell 1 rfl rfl)) ?_
      refine WL.quiet Own.closed rfl (by decide) (GuardIs.none) (fun _ => QV.neq rfl rfl rfl rfl) ?_
      refine WL.quiet Own.closed rfl (by decide) (GuardIs.none) (fun _ => QV.move rfl rfl) ?_
      refine WL.quiet Own.closed rfl (by decide) (GuardIs.pos rfl rfl) (fun hG => QV.fieldAddr fd93_6 rfl rfl) ?_
      refine WL.quiet Own.closed rfl (by decide) (GuardIs.pos rfl rfl) (fun hG => QV.load pl2 rfl hG (Own.cell 1 rfl rfl)) ?_
      refine WL.quiet Own.closed rfl (by decide) (GuardIs.pos rfl rfl) (fun hG => QV.neq rfl hG rfl rfl) ?_
      refine WL.quiet Own.closed rfl (by decide) (GuardIs.none) (fun _ => QV.pickAnd rfl rfl rfl (fun h => h)) ?_
      refine WL.nil ?_
      refine WQ.then ?_
      refine WC.cond rfl (fun h90 => ?_) (fun h90 => ?_)
      · skip
        refine WC.seq ?_
        refine WC.region ?_
        refine WL.quiet Own.closed rfl (by decide) (GuardIs.none) (fun _ => QV.assign rfl rfl) ?_
        refine WL.nil ?_
        refine WQ.then ?_
        refine WC.ret ?_
        refine WQ.then_ret ?_
        refine WQ.ret1 rfl rfl (fun w hw => ?_)
        refine ⟨ret_bool ?_, hw.grow⟩; first | exact (tb_nof (uses_bad hi0 hlt (by unfold RefOk; simp [-List.getD_eq_getElem?_getD, -Int.pred_toNat] at h50 h31; omega))).symm | (rw [tb_congr hse]; refine (tb_nof fun hX => ?_).symm; have hq := rest_zero hX; unfold Zeros Rf.isZero at hq; simp [-List.getD_eq_getElem?_getD, -Int.pred_toNat] at h82; omega) | (rw [tb_congr hse]; simp [-List.getD_eq_getElem?_getD, -Int.pred_toNat] at h90; exact (tb_nof (rest_n h90.1 h90.2)).symm) | (rw [tb_congr hse, tb_congr (rest_34 e34 hz (by omega))]; apply tb_eq; simp [WordOk, and_assoc]; omega) | (rw [tb_congr hse]; refine (tb_nof fun hX => ?_).symm; have hq := rest_still e34 hX; unfold StillOk at hq; simp [-List.getD_eq_getElem?_getD, -Int.pred_toNat] at h128; omega) | (rw [tb_congr hse, tb_congr (rest_end e34 hz hst en)]; apply tb_eq; simp [or_assoc]; done)
      · skip
        have en : (l.body.getD k.toNat Stm.zero).op = 1 ∨ (l.body.getD k.toNat Stm.zero).n = 0 := (by simp [-List.getD_eq_getElem?_getD, -Int.pred_toNat] at h90; omega)
        refine WC.skip ?_
        refine WQ.then ?_
        refine WC.seq ?_
        refine WC.seq ?_
        refine WC.region ?_
        refine WL.quiet Own.closed rfl (by decide) (GuardIs.none) (fun _ => QV.fieldAddr fd93_0 rfl rfl) ?_
        refine WL.quiet Own.closed rfl (by decide) (GuardIs.none) (fun _ => QV.load pl3 rfl rfl (Own.cell 1 rfl rfl)) ?_
        refine WL.quiet Own.closed rfl (by decide) (GuardIs.none) (fun _ => QV.eql rfl rfl rfl rfl) ?_
        refine WL.quiet Own.closed rfl (by decide) (GuardIs.none) (fun _ => QV.move rfl rfl) ?_
        refine WL.quiet Own.closed rfl (by decide) (GuardIs.neg rfl rfl) (fun hG => QV.fieldAddr fd93_0 rfl rfl) ?_
        refine WL.quiet Own.closed rfl (by decide) (GuardIs.neg rfl rfl) (fun hG => QV.load pl3 rfl hG (Own.cell 1 rfl rfl)) ?_
        refine WL.quiet Own.closed rfl (by decide) (GuardIs.neg rfl rfl) (fun hG => QV.eql rfl hG rfl rfl) ?_
        refine WL.quiet Own.closed rfl (by decide) (GuardIs.none) (fun _ => QV.pickOr rfl rfl rfl (fun h => notF h)) ?_
        refine WL.nil ?_
        refine WQ.then ?_
        refine WC.cond rfl (fun h98 => ?_) (fun h98 => ?_)
        · skip
          have e34 : (l.body.getD k.toNat Stm.zero).op = 3 ∨ (l.body.getD k.toNat Stm.zero).op = 4 := (by simpa using h98)
          refine WC.seq ?_
          refine WC.region ?_
          refine WL.quiet Own.closed rfl (by decide) (GuardIs.none) (fun _ => QV.fieldAddr fd93_3 rfl rfl) ?_
          refine WL.quiet Own.closed rfl (by decide) (GuardIs.none) (fun _ => QV.load pl3 rfl rfl (Own.cell 1 rfl rfl)) ?_
          refine WL.quiet Own.closed rfl (by decide) (GuardIs.none) (fun _ => QV.fieldAddr fd51_0 rfl rfl) ?_
          refine WL.quiet Own.closed rfl (by decide) (GuardIs.none) (fun _ => QV.load pl48 rfl rfl (Own.cell 2 rfl rfl)) ?_
          refine WL.quiet Own.closed rfl (by decide) (GuardIs.none) (fun _ => QV.lenS Try.underlying48 rfl rfl hL.logs.lenMap) ?_
          refine WL.quiet Own.closed rfl (by decide) (GuardIs.none) (fun _ => QV.sub rfl rfl rfl rfl (by omega)) ?_
          refine WL.quiet Own.closed rfl (by decide) (GuardIs.none) (fun _ => QV.call en50 (EvAll.cons rfl rfl (EvAll.cons rfl rfl (EvAll.cons rfl rfl EvAll.nil))) (fun w hw => roundelayref2_Within _ _ _ w)) ?_
          refine WL.quiet Own.closed rfl (by decide) (GuardIs.none) (fun _ => QV.move rfl rfl) ?_
          refine WL.quiet Own.closed rfl (by decide) (GuardIs.pos rfl rfl) (fun hG => QV.fieldAddr fd93_4 rfl rfl) ?_
          refine WL.quiet Own.closed rfl (by decide) (GuardIs.pos rfl rfl) (fun hG => QV.load pl3 rfl hG (Own.cell 1 rfl rfl)) ?_
          refine WL.quiet Own.closed rfl (by decide) (GuardIs.pos rfl rfl) (fun hG => QV.call en50 (EvAll.cons rfl hG (EvAll.cons rfl rfl (EvAll.cons rfl rfl EvAll.nil))) (fun w hw => roundelayref2_Within _ _ _ w)) ?_
          refine WL.quiet Own.closed rfl (by decide) (GuardIs.none) (fun _ => QV.pickAnd rfl rfl rfl (fun h => h)) ?_
          refine WL.quiet Own.closed rfl (by decide) (GuardIs.none) (fun _ => QV.move rfl rfl) ?_
          refine WL.quiet Own.closed rfl (by decide) (GuardIs.pos rfl rfl) (fun hG => QV.fieldAddr fd93_5 rfl rfl) ?_
          refine WL.quiet Own.closed rfl (by decide) (GuardIs.pos rfl rfl) (fun hG => QV.load pl3 rfl hG (Own.cell 1 rfl rfl)) ?_
          refine WL.quiet Own.closed rfl (by decide) (GuardIs.pos rfl rfl) (fun hG => QV.call en50 (EvAll.cons rfl hG (EvAll.cons rfl rfl (EvAll.cons rfl rfl EvAll.nil))) (fun w hw => roundelayref2_Within _ _ _ w)) ?_
          refine WL.quiet Own.closed rfl (by decide) (GuardIs.none) (fun _ => QV.pickAnd rfl rfl rfl (fun h => h)) ?_
          refine WL.quiet Own.closed rfl (by decide) (GuardIs.none) (fun _ => QV.assign rfl rfl) ?_
          refine WL.nil ?_
          refine WQ.then ?_
          refine WC.ret ?_
          refine WQ.then_ret ?_
          refine WQ.ret1 rfl rfl (fun w hw => ?_)
          refine ⟨ret_bool ?_, hw.grow⟩; first | exact (tb_nof (uses_bad hi0 hlt (by unfold RefOk; simp [-List.getD_eq_getElem?_getD, -Int.pred_toNat] at h50 h31; omega))).symm | (rw [tb_congr hse]; refine (tb_nof fun hX => ?_).symm; have hq := rest_zero hX; unfold Zeros Rf.isZero at hq; simp [-List.getD_eq_getElem?_getD, -Int.pred_toNat] at h82; omega) | (rw [tb_congr hse]; simp [-List.getD_eq_getElem?_getD, -Int.pred_toNat] at h90; exact (tb_nof (rest_n h90.1 h90.2)).symm) | (rw [tb_congr hse, tb_congr (rest_34 e34 hz (by omega))]; apply tb_eq; simp [WordOk, and_assoc]; omega) | (rw [tb_congr hse]; refine (tb_nof fun hX => ?_).symm; have hq := rest_still e34 hX; unfold StillOk at hq; simp [-List.getD_eq_getElem?_getD, -Int.pred_toNat] at h128; omega) | (rw [tb_congr hse, tb_congr (rest_end e34 hz hst en)]; apply tb_eq; simp [or_assoc]; done)
        · skip
          have e34 : ¬ ((l.body.getD k.toNat Stm.zero).op = 3 ∨ (l.body.getD k.toNat Stm.zero).op = 4) := (by simpa using h98)
          refine WC.skip ?_
          refine WQ.then ?_
          refine WC.seq ?_
          refine WC.seq ?_
          refine WC.region ?_
          refine WL.quiet Own.closed rfl (by decide) (GuardIs.none) (fun _ => QV.fieldAddr fd93_3 rfl rfl) ?_
          refine WL.quiet Own.closed rfl (by decide) (GuardIs.none) (fun _ => QV.load pl3 rfl rfl (Own.cell 1 rfl rfl)) ?_
          refine WL.quiet Own.closed rfl (by decide) (GuardIs.none) (fun _ => QV.neq rfl rfl rfl rfl) ?_
          refine WL.quiet Own.closed rfl (by decide) (GuardIs.none) (fun _ => QV.move rfl rfl) ?_
          refine WL.quiet Own.closed rfl (by decide) (GuardIs.neg rfl rfl) (fun hG => QV.fieldAddr fd93_4 rfl rfl) ?_
          refine WL.quiet Own.closed rfl (by decide) (GuardIs.neg rfl rfl) (fun hG => QV.load pl3 rfl hG (Own.cell 1 rfl rfl)) ?_
          refine WL.quiet Own.closed rfl (by decide) (GuardIs.neg rfl rfl) (fun hG => QV.neq rfl hG rfl rfl) ?_
          refine WL.quiet Own.closed rfl (by decide) (GuardIs.none) (fun _ => QV.pickOr rfl rfl rfl (fun h => notF h)) ?_
          refine WL.quiet Own.closed rfl (by decide) (GuardIs.none) (fun _ => QV.move rfl rfl) ?_
          refine WL.quiet Own.closed rfl (by decide) (GuardIs.neg rfl rfl) (fun hG => QV.fieldAddr fd93_5 rfl rfl) ?_
          refine WL.quiet Own.closed rfl (by decide) (GuardIs.neg rfl rfl) (fun hG => QV.load pl3 rfl hG (Own.cell 1 rfl rfl)) ?_
          refine WL.quiet Own.closed rfl (by decide) (GuardIs.neg rfl rfl) (fun hG => QV.neq rfl hG rfl rfl) ?_
          refine WL.quiet Own.closed rfl (by decide) (GuardIs.none) (fun _ => QV.pickOr rfl rfl rfl (fun h => notF h)) ?_
          refine WL.nil ?_
          refine WQ.then ?_
          refine WC.cond rfl (fun h128 => ?_) (fun h128 => ?_)
          · skip
            refine WC.seq ?_
            refine WC.region ?_
            refine WL.quiet Own.closed rfl (by decide) (GuardIs.none) (fun _ => QV.assign rfl rfl) ?_
            refine WL.nil ?_
            refine WQ.then ?_
            refine WC.ret ?_
            refine WQ.then_ret ?_
            refine WQ.ret1 rfl rfl (fun w hw => ?_)
            refine ⟨ret_bool ?_, hw.grow⟩; first | exact (tb_nof (uses_bad hi0 hlt (by unfold RefOk; simp [-List.getD_eq_getElem?_getD, -Int.pred_toNat] at h50 h31; omega))).symm | (rw [tb_congr hse]; refine (tb_nof fun hX => ?_).symm; have hq := rest_zero hX; unfold Zeros Rf.isZero at hq; simp [-List.getD_eq_getElem?_getD, -Int.pred_toNat] at h82; omega) | (rw [tb_congr hse]; simp [-List.getD_eq_getElem?_getD, -Int.pred_toNat] at h90; exact (tb_nof (rest_n h90.1 h90.2)).symm) | (rw [tb_congr hse, tb_congr (rest_34 e34 hz (by omega))]; apply tb_eq; simp [WordOk, and_assoc]; omega) | (rw [tb_congr hse]; refine (tb_nof fun hX => ?_).symm; have hq := rest_still e34 hX; unfold StillOk at hq; simp [-List.getD_eq_getElem?_getD, -Int.pred_toNat] at h128; omega) | (rw [tb_congr hse, tb_congr (rest_end e34 hz hst en)]; apply tb_eq; simp [or_assoc]; done)
          · skip
            have hst : StillOk (l.body.getD k.toNat Stm.zero) := (by unfold StillOk; simp [-List.getD_eq_getElem?_getD, -Int.pred_toNat] at h128; omega)
            refine WC.skip ?_
            refine WQ.then ?_
            refine WC.seq ?_
            refine WC.region ?_
            refine WL.quiet Own.closed rfl (by decide) (GuardIs.none) (fun _ => QV.fieldAddr fd93_0 rfl rfl) ?_
            refine WL.quiet Own.closed rfl (by decide) (GuardIs.none) (fun _ => QV.load pl3 rfl rfl (Own.cell 1 rfl rfl)) ?_
            refine WL.quiet Own.closed rfl (by decide) (GuardIs.none) (fun _ => QV.eql rfl rfl rfl rfl) ?_
            refine WL.quiet Own.closed rfl (by decide) (GuardIs.none) (fun _ => QV.move rfl rfl) ?_
            refine WL.quiet Own.closed rfl (by decide) (GuardIs.neg rfl rfl) (fun hG => QV.fieldAddr fd93_0 rfl rfl) ?_
            refine WL.quiet Own.closed rfl (by decide) (GuardIs.neg rfl rfl) (fun hG => QV.load pl3 rfl hG (Own.cell 1 rfl rfl)) ?_
            refine WL.quiet Own.closed rfl (by decide) (GuardIs.neg rfl rfl) (fun hG => QV.eql rfl hG rfl rfl) ?_
            refine WL.quiet Own.closed rfl (by decide) (GuardIs.none) (fun _ => QV.pickOr rfl rfl rfl (fun h => notF h)) ?_
            refine WL.quiet Own.closed rfl (by decide) (GuardIs.none) (fun _ => QV.move rfl rfl) ?_
            refine WL.quiet Own.closed rfl (by decide) (GuardIs.neg rfl rfl) (fun hG => QV.fieldAddr fd93_0 rfl rfl) ?_
            refine WL.quiet Own.closed rfl (by decide) (GuardIs.neg rfl rfl) (fun hG => QV.load pl3 rfl hG (Own.cell 1 rfl rfl)) ?_
            refine WL.quiet Own.closed rfl (by decide) (GuardIs.neg rfl rfl) (fun hG => QV.call en50 (EvAll.cons rfl hG (EvAll.cons rfl rfl (EvAll.cons rfl rfl EvAll.nil))) (fun w hw => roundelayref2_Within _ _ _ w)) ?_
            refine WL.quiet Own.closed rfl (by decide) (GuardIs.none) (fun _ => QV.pickOr rfl rfl rfl (fun h => notF h)) ?_
            refine WL.quiet Own.closed rfl (by decide) (GuardIs.none) (fun _ => QV.assign rfl rfl) ?_
            refine WL.nil ?_
            refine WQ.then ?_
            refine WC.ret ?_
            refine WQ.ret1 rfl rfl (fun w hw => ?_)
            refine ⟨ret_bool ?_, hw.grow⟩; first | exact (tb_nof (uses_bad hi0 hlt (by unfold RefOk; simp [-List.getD_eq_getElem?_getD, -Int.pred_toNat] at h50 h31; omega))).symm | (rw [tb_congr hse]; refine (tb_nof fun hX => ?_).symm; have hq := rest_zero hX; unfold Zeros Rf.isZero at hq; simp [-List.getD_eq_getElem?_getD, -Int.pred_toNat] at h82; omega) | (rw [tb_congr hse]; simp [-List.getD_eq_getElem?_getD, -Int.pred_toNat] at h90; exact (tb_nof (rest_n h90.1 h90.2)).symm) | (rw [tb_congr hse, tb_congr (rest_34 e34 hz (by omega))]; apply tb_eq; simp [WordOk, and_assoc]; omega) | (rw [tb_congr hse]; refine (tb_nof fun hX => ?_).symm; have hq := rest_still e34 hX; unfold StillOk at hq; simp [-List.getD_eq_getElem?_getD, -Int.pred_toNat] at h128; omega) | (rw [tb_congr hse, tb_congr (rest_end e34 hz hst en)]; apply tb_eq; simp [or_assoc]; done)
end Go.Proofs.Ytaimbkndebaaiaa
