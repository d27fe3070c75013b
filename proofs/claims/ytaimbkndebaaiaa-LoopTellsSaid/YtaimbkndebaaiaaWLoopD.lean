/- Walks. -/
import Derived.Test.YtaimbkndebaaiaaTypes
import Derived.Test.YtaimbkndebaaiaaWLoopB
namespace Go.Proofs.Ytaimbkndebaaiaa
open Go.Rd
set_option linter.unusedVariables false
set_option linter.unusedSimpArgs false
set_option maxRecDepth 4000 in
theorem roundelayref2_May {v1 v2 v3 : Value} (l : Lp) (w : World) (hL : LpRep w v1 v2 v3 l) : Calls Try.prog 30 #[.agg #[v1, v2, v3]] w (fun e w' => e = .returned (.bool (tb (LoopOk l))) ∧ Grow w w') := by
  refine calls_of_WC (n := 79) (args := [.agg #[v1, v2, v3]]) Try.func30 rfl rfl (Nat.le_of_ble_eq_true rfl) ?_ (Own.start w)
  have hb1 := hL.lbody; have hb2 := hL.llogs; have hb3 := hL.louts; unfold maxLen at hb1 hb2 hb3
  refine WC.seq ?_
  refine WC.region ?_
  refine WL.effect rfl (EV.boxAgg (by decide) rfl rfl (fun b0 => ?_))
  refine WL.quiet Own.closed rfl (by decide) (GuardIs.none) (fun _ => QV.assign rfl rfl) ?_
  refine WL.nil ?_
  refine WQ.then ?_
  refine WC.seq ?_
  refine WC.region ?_
  refine WL.quiet Own.closed rfl (by decide) (GuardIs.none) (fun _ => QV.fieldAddr fd51_1 rfl rfl) ?_
  refine WL.quiet Own.closed rfl (by decide) (GuardIs.none) (fun _ => QV.load pl49 rfl rfl (Own.cell 0 rfl rfl)) ?_
  refine WL.quiet Own.closed rfl (by decide) (GuardIs.none) (fun _ => QV.lenS Try.underlying49 rfl rfl hL.body.lenMap) ?_
  refine WL.quiet Own.closed rfl (by decide) (GuardIs.none) (fun _ => QV.assign rfl rfl) ?_
  refine WL.nil ?_
  refine WQ.then ?_
  refine WC.seq ?_
  refine WC.seq ?_
  refine WC.region ?_
  refine WL.quiet Own.closed rfl (by decide) (GuardIs.none) (fun _ => QV.fieldAddr fd51_0 rfl rfl) ?_
  refine WL.quiet Own.closed rfl (by decide) (GuardIs.none) (fun _ => QV.load pl48 rfl rfl (Own.cell 0 rfl rfl)) ?_
  refine WL.quiet Own.closed rfl (by decide) (GuardIs.none) (fun _ => QV.lenS Try.underlying48 rfl rfl hL.logs.lenMap) ?_
  refine WL.quiet Own.closed rfl (by decide) (GuardIs.none) (fun _ => QV.gtr rfl rfl rfl rfl) ?_
  refine WL.quiet Own.closed rfl (by decide) (GuardIs.none) (fun _ => QV.move rfl rfl) ?_
  refine WL.quiet Own.closed rfl (by decide) (GuardIs.neg rfl rfl) (fun hG => QV.move rfl rfl) ?_
  refine WL.quiet Own.closed rfl (by decide) (GuardIs.neg rfl rfl) (fun hG => QV.lss rfl hG rfl rfl) ?_
  refine WL.quiet Own.closed rfl (by decide) (GuardIs.none) (fun _ => QV.pickOr rfl rfl rfl (fun h => notF h)) ?_
  refine WL.quiet Own.closed rfl (by decide) (GuardIs.none) (fun _ => QV.move rfl rfl) ?_
  refine WL.quiet Own.closed rfl (by decide) (GuardIs.neg rfl rfl) (fun hG => QV.move rfl rfl) ?_
  refine WL.quiet Own.closed rfl (by decide) (GuardIs.neg rfl rfl) (fun hG => QV.gtr rfl hG rfl rfl) ?_
  refine WL.quiet Own.closed rfl (by decide) (GuardIs.none) (fun _ => QV.pickOr rfl rfl rfl (fun h => notF h)) ?_
  refine WL.nil ?_
  refine WQ.then ?_
  refine WC.cond rfl (fun h21 => ?_) (fun h21 => ?_)
  · skip
    refine WC.seq ?_
    refine WC.region ?_
    refine WL.quiet Own.closed rfl (by decide) (GuardIs.none) (fun _ => QV.assign rfl rfl) ?_
    refine WL.nil ?_
    refine WQ.then ?_
    refine WC.ret ?_
    refine WQ.then_ret ?_
    refine WQ.ret1 rfl rfl (fun w hw => ?_)
    refine ⟨ret_bool ?_, hw.grow⟩; first | (refine (tb_nof fun hX => ?_).symm; have h1 := hX.1; have h2 := hX.2.1; have h3 := hX.2.2.1; simp [-List.getD_eq_getElem?_getD, -Int.pred_toNat] at h21; omega) | (refine (tb_nof fun hX => ?_).symm; have := hX.2.2.2.1 i.toNat (by omega); simp [-List.getD_eq_getElem?_getD, -Int.pred_toNat] at h35; omega) | (refine (tb_nof fun hX => ?_).symm; have hq := (out_step hi0 hB).2 (hX.2.2.2.2.1 i.toNat (by omega)); have hq0 := (hX.2.2.2.2.1 i.toNat (by omega)).1; unfold lastOut at hq; simp [-List.getD_eq_getElem?_getD, -Int.pred_toNat] at h69; split at hq <;> omega) | (refine (tb_nof fun hX => ?_).symm; have := hX.2.2.2.2.2 i.toNat (by omega); rw [Int.toNat_of_nonneg hi0] at this; simp [tb_not] at h78; exact h78 this) | exact (tb_of ⟨by omega, by omega, by omega, hA', hB', hD'⟩).symm
  · skip
    have hne : 1 ≤ (l.body.length : Int) ∧ (l.body.length : Int) ≤ 16 ∧ (l.logs.length : Int) ≤ 3 := (by simp [-List.getD_eq_getElem?_getD, -Int.pred_toNat] at h21; omega)
    refine WC.skip ?_
    refine WQ.then ?_
    refine WC.seq ?_
    refine WC.seq ?_
    refine WC.region ?_
    refine WL.quiet Own.closed rfl (by decide) (GuardIs.none) (fun _ => QV.assign rfl rfl) ?_
    refine WL.nil ?_
    refine WQ.then ?_
    refine WC.block ?_
    refine WC.loopC (τ := [(1, (true, _)), (3, (true, _))]) (fun i : Int => [(4, (true, .int .i64 i))]) _ (fun i : Int => 0 ≤ i ∧ i ≤ l.logs.length ∧ LogsTo l i) (fun i : Int => (l.logs.length - i).toNat) 0 (⟨by omega, by omega, to_zero⟩) ⟨rfl, rfl, rfl, trivial⟩ (fun w hw => hw) ?_
    rintro i ⟨hi0, hi1, hA⟩
    refine WC.seq ?_
    refine WC.seq ?_
    refine WC.region ?_
    refine WL.quiet Own.closed rfl (by decide) (GuardIs.none) (fun _ => QV.move rfl rfl) ?_
    refine WL.quiet Own.closed rfl (by decide) (GuardIs.none) (fun _ => QV.fieldAddr fd51_0 rfl rfl) ?_
    refine WL.quiet Own.closed rfl (by decide) (GuardIs.none) (fun _ => QV.load pl48 rfl rfl (Own.cell 0 rfl rfl)) ?_
    refine WL.quiet Own.closed rfl (by decide) (GuardIs.none) (fun _ => QV.lenS Try.underlying48 rfl rfl hL.logs.lenMap) ?_
    refine WL.quiet Own.closed rfl (by decide) (GuardIs.none) (fun _ => QV.lss rfl rfl rfl rfl) ?_
    refine WL.nil ?_
    refine WQ.then ?_
    refine WC.cond rfl (fun h26 => ?_) (fun h26 => ?_)
    · skip
      have hlt := of_decide_eq_true h26
      refine WC.skip ?_
      refine WQ.then ?_
      refine WC.seq ?_
      refine WC.block ?_
      refine WC.seq ?_
      refine WC.region ?_
      refine WL.quiet Own.closed rfl (by decide) (GuardIs.none) (fun _ => QV.fieldAddr fd51_0 rfl rfl) ?_
      refine WL.quiet Own.closed rfl (by decide) (GuardIs.none) (fun _ => QV.load pl48 rfl rfl (Own.cell 0 rfl rfl)) ?_
      refine WL.quiet Own.closed rfl (by decide) (GuardIs.none) (fun _ => QV.move rfl rfl) ?_
      obtain ⟨p1, hp1, hc1⟩ := hL.logs.at 0 i (by omega) (by omega)
      refine WL.quiet Own.closed rfl (by decide) (GuardIs.none) (fun _ => QV.indexSlice sl48 rfl rfl rfl rfl hp1) ?_
      refine WL.quiet Own.closed rfl (by decide) (GuardIs.none) (fun _ => QV.load pl3 rfl rfl (Own.base (CellsAt.one 0 hc1 rfl))) ?_
      refine WL.quiet Own.closed rfl (by decide) (GuardIs.none) (fun _ => QV.call en50 (EvAll.cons rfl rfl (EvAll.cons rfl rfl (EvAll.cons rfl rfl EvAll.nil))) (fun w hw => roundelayref2_Within _ _ _ w)) ?_
      refine WL.quiet Own.closed rfl (by decide) (GuardIs.none) (fun _ => QV.not rfl rfl) ?_
      refine WL.nil ?_
      refine WQ.then ?_
      refine WC.cond rfl (fun h35 => ?_) (fun h35 => ?_)
      · skip
        refine WC.seq ?_
        refine WC.region ?_
        refine WL.quiet Own.closed rfl (by decide) (GuardIs.none) (fun _ => QV.assign rfl rfl) ?_
        refine WL.nil ?_
        refine WQ.then ?_
        refine WC.ret ?_
        refine WQ.block_ret ?_
        refine WQ.then_ret ?_
        refine WQ.then_ret ?_
        refine WQ.block_ret ?_
        refine WQ.then_ret ?_
        refine WQ.ret1 rfl rfl (fun w hw => ?_)
        refine ⟨ret_bool ?_, hw.grow⟩; first | (refine (tb_nof fun hX => ?_).symm; have h1 := hX.1; have h2 := hX.2.1; have h3 := hX.2.2.1; simp [-List.getD_eq_getElem?_getD, -Int.pred_toNat] at h21; omega) | (refine (tb_nof fun hX => ?_).symm; have := hX.2.2.2.1 i.toNat (by omega); simp [-List.getD_eq_getElem?_getD, -Int.pred_toNat] at h35; omega) | (refine (tb_nof fun hX => ?_).symm; have hq := (out_step hi0 hB).2 (hX.2.2.2.2.1 i.toNat (by omega)); have hq0 := (hX.2.2.2.2.1 i.toNat (by omega)).1; unfold lastOut at hq; simp [-List.getD_eq_getElem?_getD, -Int.pred_toNat] at h69; split at hq <;> omega) | (refine (tb_nof fun hX => ?_).symm; have := hX.2.2.2.2.2 i.toNat (by omega); rw [Int.toNat_of_nonneg hi0] at this; simp [tb_not] at h78; exact h78 this) | exact (tb_of ⟨by omega, by omega, by omega, hA', hB', hD'⟩).symm
      · skip
        refine WC.skip ?_
        refine WQ.block ?_
        refine WQ.then ?_
        refine WC.region ?_
        refine WL.quiet Own.closed rfl (by decide) (GuardIs.none) (fun _ => QV.move rfl rfl) ?_
        refine WL.quiet Own.closed rfl (by decide) (GuardIs.none) (fun _ => QV.add rfl rfl rfl rfl (by omega)) ?_
        refine WL.quiet Own.closed rfl (by decide) (GuardIs.none) (fun _ => QV.assign rfl rfl) ?_
        refine WL.nil ?_
        refine WQ.againC (i + 1) ?_ ?_ ⟨rfl, rfl, rfl, trivial⟩ (fun w hw => hw)
        · exact ⟨by omega, by have := of_decide_eq_true h26; omega, to_next hA hi0 (by simp [-List.getD_eq_getElem?_getD, -Int.pred_toNat] at h35; omega)⟩
        · have := of_decide_eq_true h26; omega
    · skip
      have hA' : LogsTo l l.logs.length := to_le hA (by have := of_decide_eq_false h26; omega)
      refine WC.exit ?_
      refine WQ.then_exit ?_
      refine WQ.then_exit ?_
      refine WQ.block_exit ?_
      refine WQ.then ?_
      refine WC.seq ?_
      refine WC.seq ?_
      refine WC.region ?_
      refine WL.quiet Own.closed rfl (by decide) (GuardIs.none) (fun _ => QV.assign rfl rfl) ?_
      refine WL.nil ?_
      refine WQ.then ?_
      refine WC.block ?_
      refine WC.loopC (τ := [(1, (true, _)), (3, (true, _))]) (fun i : Int => [(5, (true, .int .i64 i))]) _ (fun i : Int => 0 ≤ i ∧ i ≤ l.outs.length ∧ OutsTo l i) (fun i : Int => (l.outs.length - i).toNat) 0 (⟨by omega, by omega, to_zero⟩) ⟨rfl, rfl, rfl, trivial⟩ (fun w hw => hw) ?_
      rintro i ⟨hi0, hi1, hB⟩
      refine WC.seq ?_
      refine WC.seq ?_
      refine WC.region ?_
      refine WL.quiet Own.closed rfl (by decide) (GuardIs.none) (fun _ => QV.move rfl rfl) ?_
      refine WL.quiet Own.closed rfl (by decide) (GuardIs.none) (fun _ => QV.fieldAddr fd51_2 rfl rfl) ?_
      refine WL.quiet Own.closed rfl (by decide) (GuardIs.none) (fun _ => QV.load pl48 rfl rfl (Own.cell 0 rfl rfl)) ?_
      refine WL.quiet Own.closed rfl (by decide) (GuardIs.none) (fun _ => QV.lenS Try.underlying48 rfl rfl hL.outs.lenMap) ?_
      refine WL.quiet Own.closed rfl (by decide) (GuardIs.none) (fun _ => QV.lss rfl rfl rfl rfl) ?_
      refine WL.nil ?_
      refine WQ.then ?_
      refine WC.cond rfl (fun h40 => ?_) (fun h40 => ?_)
      · skip
        have hlt := of_decide_eq_true h40
        refine WC.skip ?_
        refine WQ.then ?_
        refine WC.seq ?_
        refine WC.block ?_
        refine WC.seq ?_
        refine WC.drawnL 27 #[false, false, false, false, false, false, false, false, false, false, false, false, false, false, false, false, false, false, false, false, false, false, false, false, false, false, false] (by kernel_rfl) (by kernel_rfl) (by kernel_rfl) Own.closed ?_
        refine WD.take 0 rfl (by kernel_rfl) (by kernel_rfl) (by kernel_rfl) (show _ = #[true, false, false, false, false, false, false, false, false, false, false, false, false, false, false, false, false, false, false, false, false, false, false, false, false, false, false] by kernel_rfl) (PanicOk.then (PanicOk.block (PanicOk.then (PanicOk.then (PanicOk.block (PanicOk.then PanicOk.body)))))) Own.closed rfl (by decide) (GuardIs.none) (fun _ => QV.fieldAddr fd51_2 rfl rfl) ?_
        refine WD.take 1 rfl (by kernel_rfl) (by kernel_rfl) (by kernel_rfl) (show _ = #[true, true, false, false, false, false, false, false, false, false, false, false, false, false, false, false, false, false, false, false, false, false, false, false, false, false, false] by kernel_rfl) (PanicOk.then (PanicOk.block (PanicOk.then (PanicOk.then (PanicOk.block (PanicOk.then PanicOk.body)))))) Own.closed rfl (by decide) (GuardIs.none) (fun _ => QV.load pl48 rfl rfl (Own.cell 0 rfl rfl)) ?_
        refine WD.take 2 rfl (by kernel_rfl) (by kernel_rfl) (by kernel_rfl) (show _ = #[true, true, true, false, false, false, false, false, false, false, false, false, false, false, false, false, false, false, false, false, false, false, false, false, false, false, false] by kernel_rfl) (PanicOk.then (PanicOk.block (PanicOk.then (PanicOk.then (PanicOk.block (PanicOk.then PanicOk.body)))))) Own.closed rfl (by decide) (GuardIs.none) (fun _ => QV.move rfl rfl) ?_
        obtain ⟨p2, hp2, hc2⟩ := hL.outs.at 0 i (by omega) (by omega)
        refine WD.take 3 rfl (by kernel_rfl) (by kernel_rfl) (by kernel_rfl) (show _ = #[true, true, true, true, false, false, false, false, false, false, false, false, false, false, false, false, false, false, false, false, false, false, false, false, false, false, false] by kernel_rfl) (PanicOk.then (PanicOk.block (PanicOk.then (PanicOk.then (PanicOk.block (PanicOk.then PanicOk.body)))))) Own.closed rfl (by decide) (GuardIs.none) (fun _ => QV.indexSlice sl48 rfl rfl rfl rfl hp2) ?_
        refine WD.take 4 rfl (by kernel_rfl) (by kernel_rfl) (by kernel_rfl) (show _ = #[true, true, true, true, true, false, false, false, false, false, false, false, false, false, false, false, false, false, false, false, false, false, false, false, false, false, false] by kernel_rfl) (PanicOk.then (PanicOk.block (PanicOk.then (PanicOk.then (PanicOk.block (PanicOk.then PanicOk.body)))))) Own.closed rfl (by decide) (GuardIs.none) (fun _ => QV.load pl3 rfl rfl (Own.base (CellsAt.one 0 hc2 rfl))) ?_
        refine WD.take 5 rfl (by kernel_rfl) (by kernel_rfl) (by kernel_rfl) (show _ = #[true, true, true, true, true, true, false, false, false, false, false, false, false, false, false, false, false, false, false, false, false, false, false, false, false, false, false] by kernel_rfl) (PanicOk.then (PanicOk.block (PanicOk.then (PanicOk.then (PanicOk.block (PanicOk.then PanicOk.body)))))) Own.closed rfl (by decide) (GuardIs.none) (fun _ => QV.move rfl rfl) ?_
        refine WD.take 6 rfl (by kernel_rfl) (by kernel_rfl) (by kernel_rfl) (show _ = #[true, true, true, true, true, true, true, false, false, false, false, false, false, false, false, false, false, false, false, false, false, false, false, false, false, false, false] by kernel_rfl) (PanicOk.then (PanicOk.block (PanicOk.then (PanicOk.then (PanicOk.block (PanicOk.then PanicOk.body)))))) Own.closed rfl (by decide) (GuardIs.none) (fun _ => QV.sub rfl rfl rfl rfl (by omega)) ?_
        refine WD.take 7 rfl (by kernel_rfl) (by kernel_rfl) (by kernel_rfl) (show _ = #[true, true, true, true, true, true, true, true, false, false, false, false, false, false, false, false, false, false, false, false, false, false, false, false, false, false, false] by kernel_rfl) (PanicOk.then (PanicOk.block (PanicOk.then (PanicOk.then (PanicOk.block (PanicOk.then PanicOk.body)))))) Own.closed rfl (by decide) (GuardIs.none) (fun _ => QV.call en50 (EvAll.cons rfl rfl (EvAll.cons rfl rfl (EvAll.cons rfl rfl EvAll.nil))) (fun w hw => roundelayref2_Within _ _ _ w)) ?_
        refine WD.take 8 rfl (by kernel_rfl) (by kernel_rfl) (by kernel_rfl) (show _ = #[true, true, true, true, true, true, true, true, true, false, false, false, false, false, false, false, false, false, false, false, false, false, false, false, false, false, false] by kernel_rfl) (PanicOk.then (PanicOk.block (PanicOk.then (PanicOk.then (PanicOk.block (PanicOk.then PanicOk.body)))))) Own.closed rfl (by decide) (GuardIs.none) (fun _ => QV.not rfl rfl) ?_
        refine WD.take 9 rfl (by kernel_rfl) (by kernel_rfl) (by kernel_rfl) (show _ = #[true, true, true, true, true, true, true, true, true, true, false, false, false, false, false, false, false, false, false, false, false, false, false, false, false, false, false] by kernel_rfl) (PanicOk.then (PanicOk.block (PanicOk.then (PanicOk.then (PanicOk.block (PanicOk.then PanicOk.body)))))) Own.closed rfl (by decide) (GuardIs.none) (fun _ => QV.move rfl rfl) ?_
        refine WD.take 10 rfl (by kernel_rfl) (by kernel_rfl) (by kernel_rfl) (show _ = #[true, true, true, true, true, true, true, true, true, true, true, false, false, false, false, false, false, false, false, false, false, false, false, false, false, false, false] by kernel_rfl) (PanicOk.then (PanicOk.block (PanicOk.then (PanicOk.then (PanicOk.block (PanicOk.then PanicOk.body)))))) Own.closed rfl (by decide) (GuardIs.neg rfl rfl) (fun hG => QV.move rfl rfl) ?_
        refine WD.take 11 rfl (by kernel_rfl) (by kernel_rfl) (by kernel_rfl) (show _ = #[true, true, true, true, true, true, true, true, true, true, true, true, false, false, false, false, false, false, false, false, false, false, false, false, false, false, false] by kernel_rfl) (PanicOk.then (PanicOk.block (PanicOk.then (PanicOk.then (PanicOk.block (PanicOk.then PanicOk.body)))))) Own.closed rfl (by decide) (GuardIs.neg rfl rfl) (fun hG => QV.gtr rfl hG rfl rfl) ?_
        refine WD.take 12 rfl (by kernel_rfl) (by kernel_rfl) (by kernel_rfl) (show _ = #[true, true, true, true, true, true, true, true, true, true, true, true, true, false, false, false, false, false, false, false, false, false, false, false, false, false, false] by kernel_rfl) (PanicOk.then (PanicOk.block (PanicOk.then (PanicOk.then (PanicOk.block (PanicOk.then PanicOk.body)))))) Own.closed rfl (by decide) (GuardIs.neg rfl rfl) (fun hG => QV.move rfl hG) ?_
        refine WD.take 13 rfl (by kernel_rfl) (by kernel_rfl) (by kernel_rfl) (show _ = #[true, true, true, true, true, true, true, true, true, true, true, true, true, true, false, false, false, false, false, false, false, false, false, false, false, false, false] by kernel_rfl) (PanicOk.then (PanicOk.block (PanicOk.then (PanicOk.then (PanicOk.block (PanicOk.then PanicOk.body)))))) Own.closed rfl (by decide) (GuardIs.posC rfl rfl) (fun hG => QV.fieldAddr fd51_2 rfl rfl) ?_
        refine WD.take 14 rfl (by kernel_rfl) (by kernel_rfl) (by kernel_rfl) (show _ = #[true, true, true, true, true, true, true, true, true, true, true, true, true, true, true, false, false, false, false, false, false, false, false, false, false, false, false] by kernel_rfl) (PanicOk.then (PanicOk.block (PanicOk.then (PanicOk.then (PanicOk.block (PanicOk.then PanicOk.body)))))) Own.closed rfl (by decide) (GuardIs.posC rfl rfl) (fun hG => QV.load pl48 rfl hG (Own.cell 0 rfl rfl)) ?_
        refine WD.take 15 rfl (by kernel_rfl) (by kernel_rfl) (by kernel_rfl) (show _ = #[true, true, true, true, true, true, true, true, true, true, true, true, true, true, true, true, false, false, false, false, false, false, false, false, false, false, false] by kernel_rfl) (PanicOk.then (PanicOk.block (PanicOk.then (PanicOk.then (PanicOk.block (PanicOk.then PanicOk.body)))))) Own.closed rfl (by decide) (GuardIs.posC rfl rfl) (fun hG => QV.move rfl rfl) ?_
        obtain ⟨p3, hp3', hc3'⟩ := hL.outs.atIf 0 i
        have hb3 : ((!(!(decide ((l.outs.getD i.toNat 0) ≥ 0) && decide ((l.outs.getD i.toNat 0) ≤ ((l.body.length : Int) - 1))))) && (decide (i > 0))) = true → 0 ≤ i ∧ i < (l.outs.length : Int) := fun hG => (by simp [-List.getD_eq_getElem?_getD, -Int.pred_toNat] at hG; omega)
        have hp3 := fun hG : ((!(!(decide ((l.outs.getD i.toNat 0) ≥ 0) && decide ((l.outs.getD i.toNat 0) ≤ ((l.body.length : Int) - 1))))) && (decide (i > 0))) = true => hp3' (hb3 hG).1 (hb3 hG).2
        have hc3 := fun hG : ((!(!(decide ((l.outs.getD i.toNat 0) ≥ 0) && decide ((l.outs.getD i.toNat 0) ≤ ((l.body.length : Int) - 1))))) && (decide (i > 0))) = true => hc3' (hb3 hG).1 (hb3 hG).2
        refine WD.take 16 rfl (by kernel_rfl) (by kernel_rfl) (by kernel_rfl) (show _ = #[true, true, true, true, true, true, true, true, true, true, true, true, true, true, true, true, true, false, false, false, false, false, false, false, false, false, false] by kernel_rfl) (PanicOk.then (PanicOk.block (PanicOk.then (PanicOk.then (PanicOk.block (PanicOk.then PanicOk.body)))))) Own.closed rfl (by decide) (GuardIs.posC rfl rfl) (fun hG => QV.indexSlice sl48 rfl hG rfl hG (hp3 hG)) ?_
        refine WD.take 17 rfl (by kernel_rfl) (by kernel_rfl) (by kernel_rfl) (show _ = #[true, true, true, true, true, true, true, true, true, true, true, true, true, true, true, true, true, true, false, false, false, false, false, false, false, false, false] by kernel_rfl) (PanicOk.then (PanicOk.block (PanicOk.then (PanicOk.then (PanicOk.block (PanicOk.then PanicOk.body)))))) Own.closed rfl (by decide) (GuardIs.posC rfl rfl) (fun hG => QV.load pl3 rfl hG (Own.base (CellsAt.one 0 (hc3 hG) rfl))) ?_
        refine WD.take 18 rfl (by kernel_rfl) (by kernel_rfl) (by kernel_rfl) (show _ = #[true, true, true, true, true, true, true, true, true, true, true, true, true, true, true, true, true, true, true, false, false, false, false, false, false, false, false] by kernel_rfl) (PanicOk.then (PanicOk.block (PanicOk.then (PanicOk.then (PanicOk.block (PanicOk.then PanicOk.body)))))) Own.closed rfl (by decide) (GuardIs.posC rfl rfl) (fun hG => QV.fieldAddr fd51_2 rfl rfl) ?_
        refine WD.take 19 rfl (by kernel_rfl) (by kernel_rfl) (by kernel_rfl) (show _ = #[true, true, true, true, true, true, true, true, true, true, true, true, true, true, true, true, true, true, true, true, false, false, false, false, false, false, false] by kernel_rfl) (PanicOk.then (PanicOk.block (PanicOk.then (PanicOk.then (PanicOk.block (PanicOk.then PanicOk.body)))))) Own.closed rfl (by decide) (GuardIs.posC rfl rfl) (fun hG => QV.load pl48 rfl hG (Own.cell 0 rfl rfl)) ?_
        refine WD.take 20 rfl (by kernel_rfl) (by kernel_rfl) (by kernel_rfl) (show _ = #[true, true, true, true, true, true, true, true, true, true, true, true, true, true, true, true, true, true, true, true, true, false, false, false, false, false, false] by kernel_rfl) (PanicOk.then (PanicOk.block (PanicOk.then (PanicOk.then (PanicOk.block (PanicOk.then PanicOk.body)))))) Own.closed rfl (by decide) (GuardIs.posC rfl rfl) (fun hG => QV.move rfl rfl) ?_
        refine WD.take 21 rfl (by kernel_rfl) (by kernel_rfl) (by kernel_rfl) (show _ = #[true, true, true, true, true, true, true, true, true, true, true, true, true, true, true, true, true, true, true, true, true, true, false, false, false, false, false] by kernel_rfl) (PanicOk.then (PanicOk.block (PanicOk.then (PanicOk.then (PanicOk.block (PanicOk.then PanicOk.body)))))) Own.closed rfl (by decide) (GuardIs.posC rfl rfl) (fun hG => QV.sub rfl hG rfl rfl (by omega)) ?_
        obtain ⟨p4, hp4', hc4'⟩ := hL.outs.atIf 0 (i - 1)
        have hb4 : ((!(!(decide ((l.outs.getD i.toNat 0) ≥ 0) && decide ((l.outs.getD i.toNat 0) ≤ ((l.body.length : Int) - 1))))) && (decide (i > 0))) = true → 0 ≤ (i - 1) ∧ (i - 1) < (l.outs.length : Int) := fun hG => (by simp [-List.getD_eq_getElem?_getD, -Int.pred_toNat] at hG; omega)
        have hp4 := fun hG : ((!(!(decide ((l.outs.getD i.toNat 0) ≥ 0) && decide ((l.outs.getD i.toNat 0) ≤ ((l.body.length : Int) - 1))))) && (decide (i > 0))) = true => hp4' (hb4 hG).1 (hb4 hG).2
        have hc4 := fun hG : ((!(!(decide ((l.outs.getD i.toNat 0) ≥ 0) && decide ((l.outs.getD i.toNat 0) ≤ ((l.body.length : Int) - 1))))) && (decide (i > 0))) = true => hc4' (hb4 hG).1 (hb4 hG).2
        refine WD.take 22 rfl (by kernel_rfl) (by kernel_rfl) (by kernel_rfl) (show _ = #[true, true, true, true, true, true, true, true, true, true, true, true, true, true, true, true, true, true, true, true, true, true, true, false, false, false, false] by kernel_rfl) (PanicOk.then (PanicOk.block (PanicOk.then (PanicOk.then (PanicOk.block (PanicOk.then PanicOk.body)))))) Own.closed rfl (by decide) (GuardIs.posC rfl rfl) (fun hG => QV.indexSlice sl48 rfl hG rfl hG (hp4 hG)) ?_
        refine WD.take 23 rfl (by kernel_rfl) (by kernel_rfl) (by kernel_rfl) (show _ = #[true, true, true, true, true, true, true, true, true, true, true, true, true, true, true, true, true, true, true, true, true, true, true, true, false, false, false] by kernel_rfl) (PanicOk.then (PanicOk.block (PanicOk.then (PanicOk.then (PanicOk.block (PanicOk.then PanicOk.body)))))) Own.closed rfl (by decide) (GuardIs.posC rfl rfl) (fun hG => QV.load pl3 rfl hG (Own.base (CellsAt.one 0 (hc4 hG) rfl))) ?_
        refine WD.take 24 rfl (by kernel_rfl) (by kernel_rfl) (by kernel_rfl) (show _ = #[true, true, true, true, true, true, true, true, true, true, true, true, true, true, true, true, true, true, true, true, true, true, true, true, true, false, false] by kernel_rfl) (PanicOk.then (PanicOk.block (PanicOk.then (PanicOk.then (PanicOk.block (PanicOk.then PanicOk.body)))))) Own.closed rfl (by decide) (GuardIs.posC rfl rfl) (fun hG => QV.leq rfl hG rfl hG) ?_
        refine WD.take 25 rfl (by kernel_rfl) (by kernel_rfl) (by kernel_rfl) (show _ = #[true, true, true, true, true, true, true, true, true, true, true, true, true, true, true, true, true, true, true, true, true, true, true, true, true, true, false] by kernel_rfl) (PanicOk.then (PanicOk.block (PanicOk.then (PanicOk.then (PanicOk.block (PanicOk.then PanicOk.body)))))) Own.closed rfl (by decide) (GuardIs.neg rfl rfl) (fun hG => QV.pickAnd rfl hG rfl (fun h => andT hG h)) ?_
        refine WD.take 26 rfl (by kernel_rfl) (by kernel_rfl) (by kernel_rfl) (show _ = #[true, true, true, true, true, true, true, true, true, true, true, true, true, true, true, true, true, true, true, true, true, true, true, true, true, true, true] by kernel_rfl) (PanicOk.then (PanicOk.block (PanicOk.then (PanicOk.then (PanicOk.block (PanicOk.then PanicOk.body)))))) Own.closed rfl (by decide) (GuardIs.none) (fun _ => QV.pickOr rfl rfl rfl (fun h => notF h)) ?_
        refine WD.done (by kernel_rfl) ?_
        refine WQ.then ?_
        refine WC.cond rfl (fun h69 => ?_) (fun h69 => ?_)
        · skip
          refine WC.seq ?_
          refine WC.region ?_
          refine WL.quiet Own.closed rfl (by decide) (GuardIs.none) (fun _ => QV.assign rfl rfl) ?_
          refine WL.nil ?_
          refine WQ.then ?_
          refine WC.ret ?_
          refine WQ.block_ret ?_
          refine WQ.then_ret ?_
          refine WQ.then_ret ?_
          refine WQ.block_ret ?_
          refine WQ.then_ret ?_
          refine WQ.ret1 rfl rfl (fun w hw => ?_)
          refine ⟨ret_bool ?_, hw.grow⟩; first | (refine (tb_nof fun hX => ?_).symm; have h1 := hX.1; have h2 := hX.2.1; have h3 := hX.2.2.1; simp [-List.getD_eq_getElem?_getD, -Int.pred_toNat] at h21; omega) | (refine (tb_nof fun hX => ?_).symm; have := hX.2.2.2.1 i.toNat (by omega); simp [-List.getD_eq_getElem?_getD, -Int.pred_toNat] at h35; omega) | (refine (tb_nof fun hX => ?_).symm; have hq := (out_step hi0 hB).2 (hX.2.2.2.2.1 i.toNat (by omega)); have hq0 := (hX.2.2.2.2.1 i.toNat (by omega)).1; unfold lastOut at hq; simp [-List.getD_eq_getElem?_getD, -Int.pred_toNat] at h69; split at hq <;> omega) | (refine (tb_nof fun hX => ?_).symm; have := hX.2.2.2.2.2 i.toNat (by omega); rw [Int.toNat_of_nonneg hi0] at this; simp [tb_not] at h78; exact h78 this) | exact (tb_of ⟨by omega, by omega, by omega, hA', hB', hD'⟩).symm
        · skip
          refine WC.skip ?_
          refine WQ.block ?_
          refine WQ.then ?_
          refine WC.region ?_
          refine WL.quiet Own.closed rfl (by decide) (GuardIs.none) (fun _ => QV.move rfl rfl) ?_
          refine WL.quiet Own.closed rfl (by decide) (GuardIs.none) (fun _ => QV.add rfl rfl rfl rfl (by omega)) ?_
          refine WL.quiet Own.closed rfl (by decide) (GuardIs.none) (fun _ => QV.assign rfl rfl) ?_
          refine WL.nil ?_
          refine WQ.againC (i + 1) ?_ ?_ ⟨rfl, rfl, rfl, trivial⟩ (fun w hw => hw)
          · exact ⟨by omega, by omega, to_next hB hi0 ((out_step hi0 hB).1 (by unfold lastOut; simp [-List.getD_eq_getElem?_getD, -Int.pred_toNat] at h69; split <;> omega))⟩
          · have := of_decide_eq_true h40; omega
      · skip
        have hB' : OutsTo l l.outs.length := to_le hB (by have := of_decide_eq_false h40; omega)
        refine WC.exit ?_
        refine WQ.then_exit ?_
        refine WQ.then_exit ?_
        refine WQ.block_exit ?_
        refine WQ.then ?_
        refine WC.seq ?_
        refine WC.seq ?_
        refine WC.region ?_
        refine WL.quiet Own.closed rfl (by decide) (GuardIs.none) (fun _ => QV.assign rfl rfl) ?_
        refine WL.nil ?_
        refine WQ.then ?_
        refine WC.block ?_
        refine WC.loopC (τ := [(1, (true, _)), (3, (true, _))]) (fun i : Int => [(6, (true, .int .i64 i))]) _ (fun i : Int => 0 ≤ i ∧ i ≤ l.body.length ∧ BodyTo l i) (fun i : Int => (l.body.length - i).toNat) 0 (⟨by omega, by omega, to_zero⟩) ⟨rfl, rfl, rfl, trivial⟩ (fun w hw => hw) ?_
        rintro i ⟨hi0, hi1, hD⟩
        refine WC.seq ?_
        refine WC.seq ?_
        refine WC.region ?_
        refine WL.quiet Own.closed rfl (by decide) (GuardIs.none) (fun _ => QV.move rfl rfl) ?_
        refine WL.quiet Own.closed rfl (by decide) (GuardIs.none) (fun _ => QV.move rfl rfl) ?_
        refine WL.quiet Own.closed rfl (by decide) (GuardIs.none) (fun _ => QV.lss rfl rfl rfl rfl) ?_
        refine WL.nil ?_
        refine WQ.then ?_
        refine WC.cond rfl (fun h72 => ?_) (fun h72 => ?_)
        · skip
          have hlt := of_decide_eq_true h72
          refine WC.skip ?_
          refine WQ.then ?_
          refine WC.seq ?_
          refine WC.block ?_
          refine WC.seq ?_
          refine WC.region ?_
          refine WL.quiet Own.closed rfl (by decide) (GuardIs.none) (fun _ => QV.loadAgg ag51 rfl rfl rfl (Own.cellsBlk 0 rfl)) ?_
          refine WL.quiet Own.closed rfl (by decide) (GuardIs.none) (fun _ => QV.move rfl rfl) ?_
          refine WL.quiet Own.closed rfl (by decide) (GuardIs.none) (fun _ => QV.call en51 (EvAll.cons rfl rfl (EvAll.cons rfl rfl EvAll.nil)) (fun w hw => roundelayref2_stmt l _ w (hL.grow hw.grow) (by omega))) ?_
          refine WL.quiet Own.closed rfl (by decide) (GuardIs.none) (fun _ => QV.not rfl rfl) ?_
          refine WL.nil ?_
          refine WQ.then ?_
          refine WC.cond rfl (fun h78 => ?_) (fun h78 => ?_)
          · skip
            refine WC.seq ?_
            refine WC.region ?_
            refine WL.quiet Own.closed rfl (by decide) (GuardIs.none) (fun _ => QV.assign rfl rfl) ?_
            refine WL.nil ?_
            refine WQ.then ?_
            refine WC.ret ?_
            refine WQ.block_ret ?_
            refine WQ.then_ret ?_
            refine WQ.then_ret ?_
            refine WQ.block_ret ?_
            refine WQ.then_ret ?_
            refine WQ.ret1 rfl rfl (fun w hw => ?_)
            refine ⟨ret_bool ?_, hw.grow⟩; first | (refine (tb_nof fun hX => ?_).symm; have h1 := hX.1; have h2 := hX.2.1; have h3 := hX.2.2.1; simp [-List.getD_eq_getElem?_getD, -Int.pred_toNat] at h21; omega) | (refine (tb_nof fun hX => ?_).symm; have := hX.2.2.2.1 i.toNat (by omega); simp [-List.getD_eq_getElem?_getD, -Int.pred_toNat] at h35; omega) | (refine (tb_nof fun hX => ?_).symm; have hq := (out_step hi0 hB).2 (hX.2.2.2.2.1 i.toNat (by omega)); have hq0 := (hX.2.2.2.2.1 i.toNat (by omega)).1; unfold lastOut at hq; simp [-List.getD_eq_getElem?_getD, -Int.pred_toNat] at h69; split at hq <;> omega) | (refine (tb_nof fun hX => ?_).symm; have := hX.2.2.2.2.2 i.toNat (by omega); rw [Int.toNat_of_nonneg hi0] at this; simp [tb_not] at h78; exact h78 this) | exact (tb_of ⟨by omega, by omega, by omega, hA', hB', hD'⟩).symm
          · skip
            refine WC.skip ?_
            refine WQ.block ?_
            refine WQ.then ?_
            refine WC.region ?_
            refine WL.quiet Own.closed rfl (by decide) (GuardIs.none) (fun _ => QV.move rfl rfl) ?_
            refine WL.quiet Own.closed rfl (by decide) (GuardIs.none) (fun _ => QV.add rfl rfl rfl rfl (by omega)) ?_
            refine WL.quiet Own.closed rfl (by decide) (GuardIs.none) (fun _ => QV.assign rfl rfl) ?_
            refine WL.nil ?_
            refine WQ.againC (i + 1) ?_ ?_ ⟨rfl, rfl, rfl, trivial⟩ (fun w hw => hw)
            · simp [tb_iff] at h78; exact ⟨by omega, by omega, to_next hD hi0 (by rw [Int.toNat_of_nonneg hi0]; exact h78)⟩
            · have := of_decide_eq_true h72; omega
        · skip
          have hge := of_decide_eq_false h72; have hD' : BodyTo l l.body.length := to_le hD (by omega)
          refine WC.exit ?_
          refine WQ.then_exit ?_
          refine WQ.then_exit ?_
          refine WQ.block_exit ?_
          refine WQ.then ?_
          refine WC.seq ?_
          refine WC.region ?_
          refine WL.quiet Own.closed rfl (by decide) (GuardIs.none) (fun _ => QV.assign rfl rfl) ?_
          refine WL.nil ?_
          refine WQ.then ?_
          refine WC.ret ?_
          refine WQ.ret1 rfl rfl (fun w hw => ?_)
          refine ⟨ret_bool ?_, hw.grow⟩; first | (refine (tb_nof fun hX => ?_).symm; have h1 := hX.1; have h2 := hX.2.1; have h3 := hX.2.2.1; simp [-List.getD_eq_getElem?_getD, -Int.pred_toNat] at h21; omega) | (refine (tb_nof fun hX => ?_).symm; have := hX.2.2.2.1 i.toNat (by omega); simp [-List.getD_eq_getElem?_getD, -Int.pred_toNat] at h35; omega) | (refine (tb_nof fun hX => ?_).symm; have hq := (out_step hi0 hB).2 (hX.2.2.2.2.1 i.toNat (by omega)); have hq0 := (hX.2.2.2.2.1 i.toNat (by omega)).1; unfold lastOut at hq; simp [-List.getD_eq_getElem?_getD, -Int.pred_toNat] at h69; split at hq <;> omega) | (refine (tb_nof fun hX => ?_).symm; have := hX.2.2.2.2.2 i.toNat (by omega); rw [Int.toNat_of_nonneg hi0] at this; simp [tb_not] at h78; exact h78 this) | exact (tb_of ⟨by omega, by omega, by omega, hA', hB', hD'⟩).symm
end Go.Proofs.Ytaimbkndebaaiaa
