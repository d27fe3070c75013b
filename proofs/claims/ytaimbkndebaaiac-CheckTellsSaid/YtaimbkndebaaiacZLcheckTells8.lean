/- Texts that the law stands on: part 8. -/
import Derived.Test.YtaimbkndebaaiacZLcheckTells7
import Derived.Test.YtaimbkndebaaiacProg
import Derived.KernelRfl
section
namespace Go.Proofs.Ytaimbkndebaaiac
open Go.Rd
set_option linter.unusedVariables false
set_option linter.unusedSimpArgs false
namespace TLawCheck
theorem ag25 : AggT Try.prog 25 3 := ⟨_, Try.underlying25, rfl, by kernel_rfl⟩
theorem ag28 : AggT Try.prog 28 7 := ⟨_, Try.underlying28, rfl, by kernel_rfl⟩
theorem ag31 : AggT Try.prog 31 3 := ⟨_, Try.underlying31, rfl, by kernel_rfl⟩
theorem en10 : Go.Rd.Enters Try.prog 10 := ⟨Try.f10, Try.func10, by kernel_rfl, by kernel_rfl⟩
theorem en11 : Go.Rd.Enters Try.prog 11 := ⟨Try.f11, Try.func11, by kernel_rfl, by kernel_rfl⟩
theorem en12 : Go.Rd.Enters Try.prog 12 := ⟨Try.f12, Try.func12, by kernel_rfl, by kernel_rfl⟩
theorem en13 : Go.Rd.Enters Try.prog 13 := ⟨Try.f13, Try.func13, by kernel_rfl, by kernel_rfl⟩
theorem en14 : Go.Rd.Enters Try.prog 14 := ⟨Try.f14, Try.func14, by kernel_rfl, by kernel_rfl⟩
theorem en7 : Go.Rd.Enters Try.prog 7 := ⟨Try.f7, Try.func7, by kernel_rfl, by kernel_rfl⟩
theorem en8 : Go.Rd.Enters Try.prog 8 := ⟨Try.f8, Try.func8, by kernel_rfl, by kernel_rfl⟩
theorem en9 : Go.Rd.Enters Try.prog 9 := ⟨Try.f9, Try.func9, by kernel_rfl, by kernel_rfl⟩
theorem fd28_2 : FieldT Try.prog 28 2 6 := ⟨_, _, 0, Try.underlying28, rfl, rfl, by kernel_rfl⟩
theorem pl3 : Plain Try.prog 3 := ⟨_, Try.underlying3, rfl⟩
end TLawCheck
open TLawCheck
set_option maxRecDepth 8000 in
theorem roundelaylaw_CheckTells_w {v_l_logs : Value} {v_l_body : Value} {v_l_outs : Value} {v_k__ops : Value} {v_order : Value} {v_before : Value} {v_regs : Value} {l : Lp} {t : Tgt} {k_ : Krn} {order : List Int} {before : List (List Int)} {regs : List Int} {turns : Int} {r : Bool} (w : World) (hm : roundelaylaw_CheckTells_m l t k_ order before regs turns = some r) (h_l_logs : Arr w v_l_logs 1 (l.logs.map icell)) (h_l_body : Arr w v_l_body 9 (l.body.map Stm.cells)) (h_l_outs : Arr w v_l_outs 1 (l.outs.map icell)) (h_k__ops : Arr w v_k__ops 10 (k_.ops.map Opr.cells)) (h_order : Arr w v_order 1 (order.map icell)) (h_before : RowsA w v_before before) (h_regs : Arr w v_regs 1 (regs.map icell)) : Calls Try.prog 3 #[.agg #[v_l_logs, v_l_body, v_l_outs], .agg #[.int .i64 t.u0, .int .i64 t.u1, .int .i64 t.u2, .int .i64 t.w0, .int .i64 t.w1, .int .i64 t.w2, .int .i64 t.regs], .agg #[.int .i64 k_.pace, .int .i64 k_.stages, v_k__ops], v_order, v_before, v_regs, .int .i64 turns] w (fun e w' => e = .returned (.bool r) ∧ Grow w w') := by
  unfold roundelaylaw_CheckTells_m at hm
  have hk := Base.rfl (w := w)
  refine calls_of_WC (n := 126) (args := [.agg #[v_l_logs, v_l_body, v_l_outs], .agg #[.int .i64 t.u0, .int .i64 t.u1, .int .i64 t.u2, .int .i64 t.w0, .int .i64 t.w1, .int .i64 t.w2, .int .i64 t.regs], .agg #[.int .i64 k_.pace, .int .i64 k_.stages, v_k__ops], v_order, v_before, v_regs, .int .i64 turns]) Try.func3 rfl rfl (Nat.le_of_ble_eq_true rfl) ?_ (Own.startK hk (Own.start w))
  refine WC.seq ?_
  refine WC.region ?_
  refine WL.effect rfl ?_
  refine (EV.boxAgg (by decide) rfl rfl (fun b1 => ?_))
  refine WL.effect rfl ?_
  refine (EV.boxAgg (by decide) rfl rfl (fun b2 => ?_))
  refine WL.effect rfl ?_
  refine (EV.boxAgg (by decide) rfl rfl (fun b3 => ?_))
  refine WL.q rfl rfl rfl (QV.assign rfl rfl) ?_
  refine WL.nil ?_
  refine WQ.then ?_
  refine WC.seq ?_
  refine WC.region ?_
  refine WL.q rfl rfl rfl (QV.loadAgg ag25 rfl rfl rfl (Own.cellsBlk 2 rfl)) ?_
  refine WL.q rfl rfl rfl (QV.loadAgg ag28 rfl rfl rfl (Own.cellsBlk 1 rfl)) ?_
  refine WL.q rfl rfl rfl (QV.loadAgg ag31 rfl rfl rfl (Own.cellsBlk 0 rfl)) ?_
  refine WL.q rfl rfl rfl (QV.move rfl rfl) ?_
  obtain ⟨x4, hx5, hm6⟩ := bd_some hm; clear hm
  refine WL.q rfl rfl rfl (QV.call en7 (EvAll.cons rfl rfl (EvAll.cons rfl rfl (EvAll.cons rfl rfl (EvAll.cons rfl rfl EvAll.nil)))) (fun w hw => have h := check_Takes_w w hx5 ((Own.karr 3 rfl hk h_l_logs) w hw) ((Own.karr 3 rfl hk h_l_body) w hw) ((Own.karr 3 rfl hk h_l_outs) w hw) ((Own.karr 3 rfl hk h_k__ops) w hw) ((Own.karr 3 rfl hk h_order) w hw); h)) ?_
  refine WL.q rfl rfl rfl (QV.assign rfl rfl) ?_
  refine WL.nil ?_
  refine WQ.then ?_
  refine WC.seq ?_
  refine WC.seq ?_
  refine WC.region ?_
  refine WL.q rfl rfl rfl (QV.move rfl rfl) ?_
  refine WL.q rfl rfl rfl (QV.loadAgg ag25 rfl rfl rfl (Own.cellsBlk 2 rfl)) ?_
  refine WL.q rfl rfl rfl (QV.loadAgg ag28 rfl rfl rfl (Own.cellsBlk 1 rfl)) ?_
  refine WL.q rfl rfl rfl (QV.loadAgg ag31 rfl rfl rfl (Own.cellsBlk 0 rfl)) ?_
  refine WL.q rfl rfl rfl (QV.move rfl rfl) ?_
  obtain ⟨x7, hx8, hm9⟩ := bd_some hm6; clear hm6
  refine WL.q rfl rfl rfl (QV.call en8 (EvAll.cons rfl rfl (EvAll.cons rfl rfl (EvAll.cons rfl rfl (EvAll.cons rfl rfl EvAll.nil)))) (fun w hw => have h := roundelayref10_Takes_w w hx8 ((Own.karr 3 rfl hk h_l_logs) w hw) ((Own.karr 3 rfl hk h_l_body) w hw) ((Own.karr 3 rfl hk h_l_outs) w hw) ((Own.karr 3 rfl hk h_k__ops) w hw) ((Own.karr 3 rfl hk h_order) w hw); h)) ?_
  refine WL.q rfl rfl rfl (QV.neqB Try.underlying4 rfl rfl rfl rfl) ?_
  refine WL.nil ?_
  refine WQ.then ?_
  refine WC.cond rfl (fun h10 => ?_) (fun h10 => ?_)
  · skip
    have hm11 := br_t h10 hm9; clear hm9
    refine WC.seq ?_
    refine WC.region ?_
    refine WL.q rfl rfl rfl (QV.assign rfl rfl) ?_
    refine WL.nil ?_
    refine WQ.then ?_
    refine WC.ret ?_
    refine WQ.then_ret ?_
    obtain rfl := (eq_of_some hm11).symm
    refine WQ.ret1 rfl rfl (fun w hw => ?_)
    exact ⟨rfl, Own.kgrow (fun _ x => x) hw⟩
  · skip
    have hm12 := br_f h10 hm9; clear hm9
    refine WC.skip ?_
    refine WQ.then ?_
    refine WC.seq ?_
    refine WC.region ?_
    refine WL.q rfl rfl rfl (QV.loadAgg ag25 rfl rfl rfl (Own.cellsBlk 2 rfl)) ?_
    refine WL.q rfl rfl rfl (QV.loadAgg ag28 rfl rfl rfl (Own.cellsBlk 1 rfl)) ?_
    refine WL.q rfl rfl rfl (QV.loadAgg ag31 rfl rfl rfl (Own.cellsBlk 0 rfl)) ?_
    refine WL.q rfl rfl rfl (QV.move rfl rfl) ?_
    refine WL.q rfl rfl rfl (QV.move rfl rfl) ?_
    refine WL.effect rfl ?_
    obtain ⟨x13, hx14, hm15⟩ := bd_some hm12; clear hm12
    refine EV.of (C' := Own noM w [kn noM w.heap.size w w, blk b3 [.int .i64 k_.pace, .int .i64 k_.stages, v_k__ops] 31, blk b2 [.int .i64 t.u0, .int .i64 t.u1, .int .i64 t.u2, .int .i64 t.w0, .int .i64 t.w1, .int .i64 t.w2, .int .i64 t.regs] 28, blk b1 [v_l_logs, v_l_body, v_l_outs] 25]) (fun w hw => hw.pick [3, 0, 1, 2] (by decide)) ?_
    refine (EV.callR (X := Value × World) (R := []) (fun X => .tuple #[X.1, .int .i64 x13.2]) (fun X => []) (fun X => X.2) (fun X => Arr X.2 X.1 1 (x13.1.map icell)) hk (fun _ h => by cases h; decide) en9 (EvAll.cons rfl rfl (EvAll.cons rfl rfl (EvAll.cons rfl rfl (EvAll.cons rfl rfl (EvAll.cons rfl rfl EvAll.nil))))) (fun M w h1 h2 => have h := check_Enter_w hx14 h_l_logs h_l_body h_l_outs h_k__ops h_order h_before M w h1 h2; h) (fun X16 hF16 hle16 => ?_))
    refine WL.q rfl rfl rfl (QV.move rfl rfl) ?_
    refine WL.q rfl rfl rfl (QV.extract rfl rfl rfl) ?_
    refine WL.q rfl rfl rfl (QV.extract rfl rfl rfl) ?_
    refine WL.q rfl rfl rfl (QV.assign rfl rfl) ?_
    refine WL.q rfl rfl rfl (QV.assign rfl rfl) ?_
    refine WL.nil ?_
    refine WQ.then ?_
    refine WC.seq ?_
    refine WC.region ?_
    refine WL.q rfl rfl rfl (QV.loadAgg ag25 rfl rfl rfl (Own.cellsBlk 3 rfl)) ?_
    refine WL.q rfl rfl rfl (QV.loadAgg ag28 rfl rfl rfl (Own.cellsBlk 2 rfl)) ?_
    refine WL.q rfl rfl rfl (QV.loadAgg ag31 rfl rfl rfl (Own.cellsBlk 1 rfl)) ?_
    refine WL.q rfl rfl rfl (QV.move rfl rfl) ?_
    refine WL.q rfl rfl rfl (QV.move rfl rfl) ?_
    refine WL.q rfl rfl rfl (QV.move rfl rfl) ?_
    refine WL.q rfl rfl rfl (QV.move rfl rfl) ?_
    refine WL.effect rfl ?_
    obtain ⟨x17, hx18, hm19⟩ := bd_some hm15; clear hm15
    refine (EV.callR (X := Value × World) (R := []) (fun X => .tuple #[X.1, .int .i64 x17.2]) (fun X => []) (fun X => X.2) (fun X => Arr X.2 X.1 1 (x17.1.map icell)) hk (fun _ h => by cases h; decide) en10 (EvAll.cons rfl rfl (EvAll.cons rfl rfl (EvAll.cons rfl rfl (EvAll.cons rfl rfl (EvAll.cons rfl rfl (EvAll.cons rfl rfl (EvAll.cons rfl rfl EvAll.nil))))))) (fun M w h1 h2 => have h := check_Leave_w hx18 (h_l_logs.le hle16) (h_l_body.le hle16) (h_l_outs.le hle16) (h_k__ops.le hle16) (h_order.le hle16) (h_before.le hle16) (h_regs.le hle16) M w h1 h2; h) (fun X20 hF20 hle20 => ?_))
    refine WL.q rfl rfl rfl (QV.move rfl rfl) ?_
    refine WL.q rfl rfl rfl (QV.extract rfl rfl rfl) ?_
    refine WL.q rfl rfl rfl (QV.extract rfl rfl rfl) ?_
    refine WL.q rfl rfl rfl (QV.assign rfl rfl) ?_
    refine WL.q rfl rfl rfl (QV.assign rfl rfl) ?_
    refine WL.nil ?_
    refine WQ.then ?_
    refine WC.seq ?_
    refine WC.seq ?_
    refine WC.region ?_
    refine WL.q rfl rfl rfl (QV.move rfl rfl) ?_
    refine WL.q rfl rfl rfl (QV.not rfl rfl) ?_
    refine WL.q rfl rfl rfl (QV.move rfl rfl) ?_
    refine WL.g rfl rfl (GuardIs.neg rfl rfl) (fun hG => QV.loadAgg ag25 rfl rfl rfl (Own.cellsBlk 3 rfl)) ?_
    refine WL.g rfl rfl (GuardIs.neg rfl rfl) (fun hG => QV.move rfl rfl) ?_
    obtain ⟨x21, hx22, hm23⟩ := bdG_some hm19; clear hm19
    refine WL.g rfl rfl (GuardIs.neg rfl rfl) (fun hG => QV.call en11 (EvAll.cons rfl hG (EvAll.cons rfl hG EvAll.nil)) (fun w hw => have h := roundelayref10_Before_w w (hx22 hG) ((Own.karr 0 rfl hk (h_l_logs.le (hle16.trans hle20))) w hw) ((Own.karr 0 rfl hk (h_l_body.le (hle16.trans hle20))) w hw) ((Own.karr 0 rfl hk (h_l_outs.le (hle16.trans hle20))) w hw) (Own.krows 0 rfl hk (h_before.le (hle16.trans hle20)) w hw); h)) ?_
    refine WL.g rfl rfl (GuardIs.neg rfl rfl) (fun hG => QV.not rfl hG) ?_
    refine WL.q rfl rfl rfl (QV.pickOr rfl rfl rfl (fun h => notF h)) ?_
    refine WL.nil ?_
    refine WQ.then ?_
    refine WC.cond rfl (fun h24 => ?_) (fun h24 => ?_)
    · skip
      have hm25 := br_t h24 hm23; clear hm23
      refine WC.seq ?_
      refine WC.region ?_
      refine WL.q rfl rfl rfl (QV.move rfl rfl) ?_
      refine WL.q rfl rfl rfl (QV.eql rfl rfl rfl rfl) ?_
      refine WL.q rfl rfl rfl (QV.move rfl rfl) ?_
      refine WL.g rfl rfl (GuardIs.pos rfl rfl) (fun hG => QV.move rfl rfl) ?_
      refine WL.g rfl rfl (GuardIs.pos rfl rfl) (fun hG => QV.eql rfl hG rfl rfl) ?_
      refine WL.q rfl rfl rfl (QV.pickAnd rfl rfl rfl (fun h => h)) ?_
      refine WL.q rfl rfl rfl (QV.move rfl rfl) ?_
      refine WL.g rfl rfl (GuardIs.pos rfl rfl) (fun hG => QV.move rfl rfl) ?_
      refine WL.g rfl rfl (GuardIs.pos rfl rfl) (fun hG => QV.lenS Try.underlying33 rfl hG (hF16.le hle20).lenMap) ?_
      refine WL.g rfl rfl (GuardIs.pos rfl rfl) (fun hG => QV.move rfl rfl) ?_
      refine WL.g rfl rfl (GuardIs.pos rfl rfl) (fun hG => QV.lenS Try.underlying33 rfl hG hF20.lenMap) ?_
      obtain ⟨c26, hm27⟩ := ck_some hm25; clear hm25
      refine WL.g rfl rfl (GuardIs.pos rfl rfl) (fun hG => QV.add rfl hG rfl hG (c26 hG)) ?_
      refine WL.g rfl rfl (GuardIs.pos rfl rfl) (fun hG => QV.eql rfl hG rfl rfl) ?_
      refine WL.q rfl rfl rfl (QV.pickAnd rfl rfl rfl (fun h => h)) ?_
      refine WL.q rfl rfl rfl (QV.assign rfl rfl) ?_
      refine WL.nil ?_
      refine WQ.then ?_
      refine WC.ret ?_
      refine WQ.then_ret ?_
      obtain rfl := (eq_of_some hm27).symm
      refine WQ.ret1 rfl rfl (fun w hw => ?_)
      exact ⟨rfl, Own.kgrow (fun _ x => x) hw⟩
    · skip
      have hm28 := br_f h24 hm23; clear hm23
      refine WC.skip ?_
      refine WQ.then ?_
      refine WC.seq ?_
      refine WC.seq ?_
      refine WC.region ?_
      refine WL.q rfl rfl rfl (QV.move rfl rfl) ?_
      refine WL.q rfl rfl rfl (QV.neq rfl rfl rfl rfl) ?_
      refine WL.q rfl rfl rfl (QV.move rfl rfl) ?_
      refine WL.g rfl rfl (GuardIs.neg rfl rfl) (fun hG => QV.move rfl rfl) ?_
      refine WL.g rfl rfl (GuardIs.neg rfl rfl) (fun hG => QV.loadAgg ag25 rfl rfl rfl (Own.cellsBlk 3 rfl)) ?_
      refine WL.g rfl rfl (GuardIs.neg rfl rfl) (fun hG => QV.loadAgg ag28 rfl rfl rfl (Own.cellsBlk 2 rfl)) ?_
      refine WL.g rfl rfl (GuardIs.neg rfl rfl) (fun hG => QV.loadAgg ag31 rfl rfl rfl (Own.cellsBlk 1 rfl)) ?_
      refine WL.g rfl rfl (GuardIs.neg rfl rfl) (fun hG => QV.move rfl rfl) ?_
      refine WL.g rfl rfl (GuardIs.neg rfl rfl) (fun hG => QV.move rfl rfl) ?_
      refine bothWays (!(x13.2 != 0)) (fun hb29 => ?_) (fun hb29 => ?_)
      · skip
        have hm30 := br_t hb29 hm28; clear hm28
        refine WL.effectG (GuardIs.neg rfl rfl) hb29 ?_
        obtain ⟨x31, hx32, hm33⟩ := bd_some hm30; clear hm30
        refine (EV.callR (X := Value × World) (R := []) (fun X => X.1) (fun X => []) (fun X => X.2) (fun X => Arr X.2 X.1 1 (x31.map icell)) hk (fun _ h => by cases h; decide) en13 (EvAll.cons rfl hb29 (EvAll.cons rfl hb29 (EvAll.cons rfl hb29 (EvAll.cons rfl hb29 (EvAll.cons rfl hb29 EvAll.nil))))) (fun M w h1 h2 => have h := roundelayref10_Enter_w hx32 (h_l_logs.le (hle16.trans hle20)) (h_l_body.le (hle16.trans hle20)) (h_l_outs.le (hle16.trans hle20)) (h_k__ops.le (hle16.trans hle20)) (h_order.le (hle16.trans hle20)) (h_before.le (hle16.trans hle20)) M w h1 h2; h) (fun X34 hF34 hle34 => ?_))
        obtain ⟨x35, hx36, hm37⟩ := bdG_some hm33; clear hm33
        refine WL.g rfl rfl (GuardIs.neg rfl rfl) (fun hG => QV.call en12 (EvAll.cons rfl hb29 (EvAll.cons rfl rfl EvAll.nil)) (fun w hw => have h := roundelayref3_Numbers_w w (hx36 hG) ((Own.karr 0 rfl hk (hF16.le (hle20.trans hle34))) w hw) ((Own.karr 0 rfl hk hF34) w hw); h)) ?_
        refine WL.g rfl rfl (GuardIs.neg rfl rfl) (fun hG => QV.not rfl hb29) ?_
        refine WL.q rfl rfl rfl (QV.pickOr rfl rfl rfl (fun h => notF h)) ?_
        refine WL.nil ?_
        refine WQ.then ?_
        refine WC.cond rfl (fun h38 => ?_) (fun h38 => ?_)
        · skip
          have hm39 := br_t h38 hm37; clear hm37
          refine WC.seq ?_
          refine WC.region ?_
          refine WL.q rfl rfl rfl (QV.assign rfl rfl) ?_
          refine WL.nil ?_
          refine WQ.then ?_
          refine WC.ret ?_
          refine WQ.then_ret ?_
          obtain rfl := (eq_of_some hm39).symm
          refine WQ.ret1 rfl rfl (fun w hw => ?_)
          exact ⟨rfl, Own.kgrow (fun _ x => x) hw⟩
        · skip
          have hm40 := br_f h38 hm37; clear hm37
          refine WC.skip ?_
          refine WQ.then ?_
          refine WC.seq ?_
          refine WC.seq ?_
          refine WC.region ?_
          refine WL.q rfl rfl rfl (QV.move rfl rfl) ?_
          refine WL.q rfl rfl rfl (QV.lenS Try.underlying33 rfl rfl (h_regs.le ((hle16.trans hle20).trans hle34)).lenMap) ?_
          refine WL.q rfl rfl rfl (QV.fieldAddr fd28_2 rfl rfl) ?_
          refine WL.q rfl rfl rfl (QV.load pl3 rfl rfl (Own.cell 2 rfl rfl)) ?_
          refine WL.q rfl rfl rfl (QV.neq rfl rfl rfl rfl) ?_
          refine WL.nil ?_
          refine WQ.then ?_
          refine WC.cond rfl (fun h41 => ?_) (fun h41 => ?_)
          · skip
            have hm42 := br_t h41 hm40; clear hm40
            refine WC.seq ?_
            refine WC.region ?_
            refine WL.q rfl rfl rfl (QV.move rfl rfl) ?_
            refine WL.q rfl rfl rfl (QV.eql rfl rfl rfl rfl) ?_
            refine WL.q rfl rfl rfl (QV.move rfl rfl) ?_
            refine WL.g rfl rfl (GuardIs.pos rfl rfl) (fun hG => QV.move rfl rfl) ?_
            refine WL.g rfl rfl (GuardIs.pos rfl rfl) (fun hG => QV.lenS Try.underlying33 rfl hG (hF20.le hle34).lenMap) ?_
            refine WL.g rfl rfl (GuardIs.pos rfl rfl) (fun hG => QV.eql rfl hG rfl rfl) ?_
            refine WL.q rfl rfl rfl (QV.pickAnd rfl rfl rfl (fun h => h)) ?_
            refine WL.q rfl rfl rfl (QV.assign rfl rfl) ?_
            refine WL.nil ?_
            refine WQ.then ?_
            refine WC.ret ?_
            refine WQ.then_ret ?_
            obtain rfl := (eq_of_some hm42).symm
            refine WQ.ret1 rfl rfl (fun w hw => ?_)
            exact ⟨rfl, Own.kgrow (fun _ x => x) hw⟩
          · skip
            have hm43 := br_f h41 hm40; clear hm40
            refine WC.skip ?_
            refine WQ.then ?_
            refine WC.seq ?_
            refine WC.seq ?_
            refine WC.region ?_
            refine WL.q rfl rfl rfl (QV.move rfl rfl) ?_
            refine WL.q rfl rfl rfl (QV.lss rfl rfl rfl rfl) ?_
            refine WL.q rfl rfl rfl (QV.move rfl rfl) ?_
            refine WL.g rfl rfl (GuardIs.neg rfl rfl) (fun hG => QV.move rfl rfl) ?_
            refine WL.g rfl rfl (GuardIs.neg rfl rfl) (fun hG => QV.gtr rfl hG rfl rfl) ?_
            refine WL.q rfl rfl rfl (QV.pickOr rfl rfl rfl (fun h => notF h)) ?_
            refine WL.nil ?_
            refine WQ.then ?_
            refine WC.cond rfl (fun h44 => ?_) (fun h44 => ?_)
            · skip
              have hm45 := br_t h44 hm43; clear hm43
              refine WC.seq ?_
              refine WC.region ?_
              refine WL.q rfl rfl rfl (QV.move rfl rfl) ?_
              refine WL.q rfl rfl rfl (QV.eql rfl rfl rfl rfl) ?_
              refine WL.q rfl rfl rfl (QV.move rfl rfl) ?_
              refine WL.g rfl rfl (GuardIs.pos rfl rfl) (fun hG => QV.move rfl rfl) ?_
              refine WL.g rfl rfl (GuardIs.pos rfl rfl) (fun hG => QV.lenS Try.underlying33 rfl hG (hF20.le hle34).lenMap) ?_
              refine WL.g rfl rfl (GuardIs.pos rfl rfl) (fun hG => QV.eql rfl hG rfl rfl) ?_
              refine WL.q rfl rfl rfl (QV.pickAnd rfl rfl rfl (fun h => h)) ?_
              refine WL.q rfl rfl rfl (QV.assign rfl rfl) ?_
              refine WL.nil ?_
              refine WQ.then ?_
              refine WC.ret ?_
              refine WQ.then_ret ?_
              obtain rfl := (eq_of_some hm45).symm
              refine WQ.ret1 rfl rfl (fun w hw => ?_)
              exact ⟨rfl, Own.kgrow (fun _ x => x) hw⟩
            · skip
              have hm46 := br_f h44 hm43; clear hm43
              refine WC.skip ?_
              refine WQ.then ?_
              refine WC.seq ?_
              refine WC.region ?_
              refine WL.q rfl rfl rfl (QV.move rfl rfl) ?_
              refine WL.q rfl rfl rfl (QV.eql rfl rfl rfl rfl) ?_
              refine WL.q rfl rfl rfl (QV.move rfl rfl) ?_
              refine WL.g rfl rfl (GuardIs.pos rfl rfl) (fun hG => QV.move rfl rfl) ?_
              refine WL.g rfl rfl (GuardIs.pos rfl rfl) (fun hG => QV.loadAgg ag25 rfl rfl rfl (Own.cellsBlk 3 rfl)) ?_
              refine WL.g rfl rfl (GuardIs.pos rfl rfl) (fun hG => QV.loadAgg ag28 rfl rfl rfl (Own.cellsBlk 2 rfl)) ?_
              refine WL.g rfl rfl (GuardIs.pos rfl rfl) (fun hG => QV.loadAgg ag31 rfl rfl rfl (Own.cellsBlk 1 rfl)) ?_
              refine WL.g rfl rfl (GuardIs.pos rfl rfl) (fun hG => QV.move rfl rfl) ?_
              refine WL.g rfl rfl (GuardIs.pos rfl rfl) (fun hG => QV.move rfl rfl) ?_
              refine WL.g rfl rfl (GuardIs.pos rfl rfl) (fun hG => QV.move rfl rfl) ?_
              refine WL.g rfl rfl (GuardIs.pos rfl rfl) (fun hG => QV.move rfl rfl) ?_
              refine bothWays (x17.2 == 0) (fun hb47 => ?_) (fun hb47 => ?_)
              · skip
                have hm48 := br_t hb47 hm46; clear hm46
                refine WL.effectG (GuardIs.pos rfl rfl) hb47 ?_
                obtain ⟨x49, hx50, hm51⟩ := bd_some hm48; clear hm48
                refine (EV.callR (X := Value × World) (R := []) (fun X => X.1) (fun X => []) (fun X => X.2) (fun X => Arr X.2 X.1 1 (x49.map icell)) hk (fun _ h => by cases h; decide) en14 (EvAll.cons rfl hb47 (EvAll.cons rfl hb47 (EvAll.cons rfl hb47 (EvAll.cons rfl hb47 (EvAll.cons rfl hb47 (EvAll.cons rfl hb47 (EvAll.cons rfl hb47 EvAll.nil))))))) (fun M w h1 h2 => have h := roundelayref10_Leave_w hx50 (h_l_logs.le ((hle16.trans hle20).trans hle34)) (h_l_body.le ((hle16.trans hle20).trans hle34)) (h_l_outs.le ((hle16.trans hle20).trans hle34)) (h_k__ops.le ((hle16.trans hle20).trans hle34)) (h_order.le ((hle16.trans hle20).trans hle34)) (h_before.le ((hle16.trans hle20).trans hle34)) (h_regs.le ((hle16.trans hle20).trans hle34)) M w h1 h2; h) (fun X52 hF52 hle52 => ?_))
                obtain ⟨x53, hx54, hm55⟩ := bdG_some hm51; clear hm51
                refine WL.g rfl rfl (GuardIs.pos rfl rfl) (fun hG => QV.call en12 (EvAll.cons rfl hb47 (EvAll.cons rfl rfl EvAll.nil)) (fun w hw => have h := roundelayref3_Numbers_w w (hx54 hG) ((Own.karr 0 rfl hk (hF20.le (hle34.trans hle52))) w hw) ((Own.karr 0 rfl hk hF52) w hw); h)) ?_
                refine WL.q rfl rfl rfl (QV.pickAnd rfl rfl rfl (fun h => h)) ?_
                refine WL.q rfl rfl rfl (QV.assign rfl rfl) ?_
                refine WL.nil ?_
                refine WQ.then ?_
                refine WC.ret ?_
                obtain rfl := (eq_of_some hm55).symm
                refine WQ.ret1 rfl rfl (fun w hw => ?_)
                exact ⟨rfl, Own.kgrow (fun _ x => x) hw⟩
              · skip
                have hm56 := br_f hb47 hm46; clear hm46
                refine WL.g (v := .bool false) rfl rfl (GuardIs.pos rfl rfl) (fun hG => absurd (hb47.symm.trans hG) (by decide)) ?_
                refine WL.g (v := .bool false) rfl rfl (GuardIs.pos rfl rfl) (fun hG => absurd (hb47.symm.trans hG) (by decide)) ?_
                refine WL.q rfl rfl rfl (QV.pickAnd rfl rfl rfl (fun h => h)) ?_
                refine WL.q rfl rfl rfl (QV.assign rfl rfl) ?_
                refine WL.nil ?_
                refine WQ.then ?_
                refine WC.ret ?_
                obtain rfl := (eq_of_some hm56).symm
                refine WQ.ret1 rfl rfl (fun w hw => ?_)
                exact ⟨rfl, Own.kgrow (fun _ x => x) hw⟩
      · skip
        have hm57 := br_f hb29 hm28; clear hm28
        refine WL.g (v := .bool false) rfl rfl (GuardIs.neg rfl rfl) (fun hG => absurd (hb29.symm.trans hG) (by decide)) ?_
        refine WL.g (v := .bool false) rfl rfl (GuardIs.neg rfl rfl) (fun hG => absurd (hb29.symm.trans hG) (by decide)) ?_
        refine WL.g (v := .bool false) rfl rfl (GuardIs.neg rfl rfl) (fun hG => absurd (hb29.symm.trans hG) (by decide)) ?_
        refine WL.q rfl rfl rfl (QV.pickOr rfl rfl rfl (fun h => notF h)) ?_
        refine WL.nil ?_
        refine WQ.then ?_
        refine WC.cond rfl (fun h58 => ?_) (fun h58 => ?_)
        · skip
          have hm59 := br_t h58 hm57; clear hm57
          refine WC.seq ?_
          refine WC.region ?_
          refine WL.q rfl rfl rfl (QV.assign rfl rfl) ?_
          refine WL.nil ?_
          refine WQ.then ?_
          refine WC.ret ?_
          refine WQ.then_ret ?_
          obtain rfl := (eq_of_some hm59).symm
          refine WQ.ret1 rfl rfl (fun w hw => ?_)
          exact ⟨rfl, Own.kgrow (fun _ x => x) hw⟩
        · skip
          have hm60 := br_f h58 hm57; clear hm57
          refine WC.skip ?_
          refine WQ.then ?_
          refine WC.seq ?_
          refine WC.seq ?_
          refine WC.region ?_
          refine WL.q rfl rfl rfl (QV.move rfl rfl) ?_
          refine WL.q rfl rfl rfl (QV.lenS Try.underlying33 rfl rfl (h_regs.le (hle16.trans hle20)).lenMap) ?_
          refine WL.q rfl rfl rfl (QV.fieldAddr fd28_2 rfl rfl) ?_
          refine WL.q rfl rfl rfl (QV.load pl3 rfl rfl (Own.cell 2 rfl rfl)) ?_
          refine WL.q rfl rfl rfl (QV.neq rfl rfl rfl rfl) ?_
          refine WL.nil ?_
          refine WQ.then ?_
          refine WC.cond rfl (fun h61 => ?_) (fun h61 => ?_)
          · skip
            have hm62 := br_t h61 hm60; clear hm60
            refine WC.seq ?_
            refine WC.region ?_
            refine WL.q rfl rfl rfl (QV.move rfl rfl) ?_
            refine WL.q rfl rfl rfl (QV.eql rfl rfl rfl rfl) ?_
            refine WL.q rfl rfl rfl (QV.move rfl rfl) ?_
            refine WL.g rfl rfl (GuardIs.pos rfl rfl) (fun hG => QV.move rfl rfl) ?_
            refine WL.g rfl rfl (GuardIs.pos rfl rfl) (fun hG => QV.lenS Try.underlying33 rfl hG hF20.lenMap) ?_
            refine WL.g rfl rfl (GuardIs.pos rfl rfl) (fun hG => QV.eql rfl hG rfl rfl) ?_
            refine WL.q rfl rfl rfl (QV.pickAnd rfl rfl rfl (fun h => h)) ?_
            refine WL.q rfl rfl rfl (QV.assign rfl rfl) ?_
            refine WL.nil ?_
            refine WQ.then ?_
            refine WC.ret ?_
            refine WQ.then_ret ?_
            obtain rfl := (eq_of_some hm62).symm
            refine WQ.ret1 rfl rfl (fun w hw => ?_)
            exact ⟨rfl, Own.kgrow (fun _ x => x) hw⟩
          · skip
            have hm63 := br_f h61 hm60; clear hm60
            refine WC.skip ?_
            refine WQ.then ?_
            refine WC.seq ?_
            refine WC.seq ?_
            refine WC.region ?_
            refine WL.q rfl rfl rfl (QV.move rfl rfl) ?_
            refine WL.q rfl rfl rfl (QV.lss rfl rfl rfl rfl) ?_
            refine WL.q rfl rfl rfl (QV.move rfl rfl) ?_
            refine WL.g rfl rfl (GuardIs.neg rfl rfl) (fun hG => QV.move rfl rfl) ?_
            refine WL.g rfl rfl (GuardIs.neg rfl rfl) (fun hG => QV.gtr rfl hG rfl rfl) ?_
            refine WL.q rfl rfl rfl (QV.pickOr rfl rfl rfl (fun h => notF h)) ?_
            refine WL.nil ?_
            refine WQ.then ?_
            refine WC.cond rfl (fun h64 => ?_) (fun h64 => ?_)
            · skip
              have hm65 := br_t h64 hm63; clear hm63
              refine WC.seq ?_
              refine WC.region ?_
              refine WL.q rfl rfl rfl (QV.move rfl rfl) ?_
              refine WL.q rfl rfl rfl (QV.eql rfl rfl rfl rfl) ?_
              refine WL.q rfl rfl rfl (QV.move rfl rfl) ?_
              refine WL.g rfl rfl (GuardIs.pos rfl rfl) (fun hG => QV.move rfl rfl) ?_
              refine WL.g rfl rfl (GuardIs.pos rfl rfl) (fun hG => QV.lenS Try.underlying33 rfl hG hF20.lenMap) ?_
              refine WL.g rfl rfl (GuardIs.pos rfl rfl) (fun hG => QV.eql rfl hG rfl rfl) ?_
              refine WL.q rfl rfl rfl (QV.pickAnd rfl rfl rfl (fun h => h)) ?_
              refine WL.q rfl rfl rfl (QV.assign rfl rfl) ?_
              refine WL.nil ?_
              refine WQ.then ?_
              refine WC.ret ?_
              refine WQ.then_ret ?_
              obtain rfl := (eq_of_some hm65).symm
              refine WQ.ret1 rfl rfl (fun w hw => ?_)
              exact ⟨rfl, Own.kgrow (fun _ x => x) hw⟩
            · skip
              have hm66 := br_f h64 hm63; clear hm63
              refine WC.skip ?_
              refine WQ.then ?_
              refine WC.seq ?_
              refine WC.region ?_
              refine WL.q rfl rfl rfl (QV.move rfl rfl) ?_
              refine WL.q rfl rfl rfl (QV.eql rfl rfl rfl rfl) ?_
              refine WL.q rfl rfl rfl (QV.move rfl rfl) ?_
              refine WL.g rfl rfl (GuardIs.pos rfl rfl) (fun hG => QV.move rfl rfl) ?_
              refine WL.g rfl rfl (GuardIs.pos rfl rfl) (fun hG => QV.loadAgg ag25 rfl rfl rfl (Own.cellsBlk 3 rfl)) ?_
              refine WL.g rfl rfl (GuardIs.pos rfl rfl) (fun hG => QV.loadAgg ag28 rfl rfl rfl (Own.cellsBlk 2 rfl)) ?_
              refine WL.g rfl rfl (GuardIs.pos rfl rfl) (fun hG => QV.loadAgg ag31 rfl rfl rfl (Own.cellsBlk 1 rfl)) ?_
              refine WL.g rfl rfl (GuardIs.pos rfl rfl) (fun hG => QV.move rfl rfl) ?_
              refine WL.g rfl rfl (GuardIs.pos rfl rfl) (fun hG => QV.move rfl rfl) ?_
              refine WL.g rfl rfl (GuardIs.pos rfl rfl) (fun hG => QV.move rfl rfl) ?_
              refine WL.g rfl rfl (GuardIs.pos rfl rfl) (fun hG => QV.move rfl rfl) ?_
              refine bothWays (x17.2 == 0) (fun hb67 => ?_) (fun hb67 => ?_)
              · skip
                have hm68 := br_t hb67 hm66; clear hm66
                refine WL.effectG (GuardIs.pos rfl rfl) hb67 ?_
                obtain ⟨x69, hx70, hm71⟩ := bd_some hm68; clear hm68
                refine (EV.callR (X := Value × World) (R := []) (fun X => X.1) (fun X => []) (fun X => X.2) (fun X => Arr X.2 X.1 1 (x69.map icell)) hk (fun _ h => by cases h; decide) en14 (EvAll.cons rfl hb67 (EvAll.cons rfl hb67 (EvAll.cons rfl hb67 (EvAll.cons rfl hb67 (EvAll.cons rfl hb67 (EvAll.cons rfl hb67 (EvAll.cons rfl hb67 EvAll.nil))))))) (fun M w h1 h2 => have h := roundelayref10_Leave_w hx70 (h_l_logs.le (hle16.trans hle20)) (h_l_body.le (hle16.trans hle20)) (h_l_outs.le (hle16.trans hle20)) (h_k__ops.le (hle16.trans hle20)) (h_order.le (hle16.trans hle20)) (h_before.le (hle16.trans hle20)) (h_regs.le (hle16.trans hle20)) M w h1 h2; h) (fun X72 hF72 hle72 => ?_))
                obtain ⟨x73, hx74, hm75⟩ := bdG_some hm71; clear hm71
                refine WL.g rfl rfl (GuardIs.pos rfl rfl) (fun hG => QV.call en12 (EvAll.cons rfl hb67 (EvAll.cons rfl rfl EvAll.nil)) (fun w hw => have h := roundelayref3_Numbers_w w (hx74 hG) ((Own.karr 0 rfl hk (hF20.le hle72)) w hw) ((Own.karr 0 rfl hk hF72) w hw); h)) ?_
                refine WL.q rfl rfl rfl (QV.pickAnd rfl rfl rfl (fun h => h)) ?_
                refine WL.q rfl rfl rfl (QV.assign rfl rfl) ?_
                refine WL.nil ?_
                refine WQ.then ?_
                refine WC.ret ?_
                obtain rfl := (eq_of_some hm75).symm
                refine WQ.ret1 rfl rfl (fun w hw => ?_)
                exact ⟨rfl, Own.kgrow (fun _ x => x) hw⟩
              · skip
                have hm76 := br_f hb67 hm66; clear hm66
                refine WL.g (v := .bool false) rfl rfl (GuardIs.pos rfl rfl) (fun hG => absurd (hb67.symm.trans hG) (by decide)) ?_
                refine WL.g (v := .bool false) rfl rfl (GuardIs.pos rfl rfl) (fun hG => absurd (hb67.symm.trans hG) (by decide)) ?_
                refine WL.q rfl rfl rfl (QV.pickAnd rfl rfl rfl (fun h => h)) ?_
                refine WL.q rfl rfl rfl (QV.assign rfl rfl) ?_
                refine WL.nil ?_
                refine WQ.then ?_
                refine WC.ret ?_
                obtain rfl := (eq_of_some hm76).symm
                refine WQ.ret1 rfl rfl (fun w hw => ?_)
                exact ⟨rfl, Own.kgrow (fun _ x => x) hw⟩
end Go.Proofs.Ytaimbkndebaaiac
end
