/- Texts that the law stands on: part 6. -/
import Derived.Test.YtaimbkndebaaiacZLcheckTells5
import Derived.Test.YtaimbkndebaaiacProg
import Derived.KernelRfl
section
namespace Go.Proofs.Ytaimbkndebaaiac
open Go.Rd
set_option linter.unusedVariables false
set_option linter.unusedSimpArgs false
namespace TCheck
theorem ag25 : AggT Try.prog 25 3 := ⟨_, Try.underlying25, rfl, by kernel_rfl⟩
theorem ag28 : AggT Try.prog 28 7 := ⟨_, Try.underlying28, rfl, by kernel_rfl⟩
theorem ag31 : AggT Try.prog 31 3 := ⟨_, Try.underlying31, rfl, by kernel_rfl⟩
theorem ag71 : AggT Try.prog 71 4 := ⟨_, Try.underlying71, rfl, by kernel_rfl⟩
theorem ag75 : AggT Try.prog 75 10 := ⟨_, Try.underlying75, rfl, by kernel_rfl⟩
theorem ag79 : AggT Try.prog 79 2 := ⟨_, Try.underlying79, rfl, by kernel_rfl⟩
theorem ag81 : AggT Try.prog 81 9 := ⟨_, Try.underlying81, rfl, by kernel_rfl⟩
theorem en28 : Go.Rd.Enters Try.prog 28 := ⟨Try.f28, Try.func28, by kernel_rfl, by kernel_rfl⟩
theorem en37 : Go.Rd.Enters Try.prog 37 := ⟨Try.f37, Try.func37, by kernel_rfl, by kernel_rfl⟩
theorem en38 : Go.Rd.Enters Try.prog 38 := ⟨Try.f38, Try.func38, by kernel_rfl, by kernel_rfl⟩
theorem en56 : Go.Rd.Enters Try.prog 56 := ⟨Try.f56, Try.func56, by kernel_rfl, by kernel_rfl⟩
theorem en60 : Go.Rd.Enters Try.prog 60 := ⟨Try.f60, Try.func60, by kernel_rfl, by kernel_rfl⟩
theorem en61 : Go.Rd.Enters Try.prog 61 := ⟨Try.f61, Try.func61, by kernel_rfl, by kernel_rfl⟩
theorem en62 : Go.Rd.Enters Try.prog 62 := ⟨Try.f62, Try.func62, by kernel_rfl, by kernel_rfl⟩
theorem en63 : Go.Rd.Enters Try.prog 63 := ⟨Try.f63, Try.func63, by kernel_rfl, by kernel_rfl⟩
theorem en64 : Go.Rd.Enters Try.prog 64 := ⟨Try.f64, Try.func64, by kernel_rfl, by kernel_rfl⟩
theorem en66 : Go.Rd.Enters Try.prog 66 := ⟨Try.f66, Try.func66, by kernel_rfl, by kernel_rfl⟩
theorem en69 : Go.Rd.Enters Try.prog 69 := ⟨Try.f69, Try.func69, by kernel_rfl, by kernel_rfl⟩
theorem en95 : Go.Rd.Enters Try.prog 95 := ⟨Try.f95, Try.func95, by kernel_rfl, by kernel_rfl⟩
theorem en96 : Go.Rd.Enters Try.prog 96 := ⟨Try.f96, Try.func96, by kernel_rfl, by kernel_rfl⟩
theorem eq81 : EqT Try.prog 81 9 := ⟨by kernel_rfl, ⟨_, Try.underlying81⟩, by kernel_rfl, by kernel_rfl⟩
theorem fd25_0 : FieldT Try.prog 25 0 0 := ⟨_, _, 0, Try.underlying25, rfl, rfl, by kernel_rfl⟩
theorem fd25_1 : FieldT Try.prog 25 1 1 := ⟨_, _, 0, Try.underlying25, rfl, rfl, by kernel_rfl⟩
theorem fd28_2 : FieldT Try.prog 28 2 6 := ⟨_, _, 0, Try.underlying28, rfl, rfl, by kernel_rfl⟩
theorem fd31_0 : FieldT Try.prog 31 0 0 := ⟨_, _, 0, Try.underlying31, rfl, rfl, by kernel_rfl⟩
theorem fd31_2 : FieldT Try.prog 31 2 2 := ⟨_, _, 0, Try.underlying31, rfl, rfl, by kernel_rfl⟩
theorem fd71_0 : FieldT Try.prog 71 0 0 := ⟨_, _, 0, Try.underlying71, rfl, rfl, by kernel_rfl⟩
theorem fd71_1 : FieldT Try.prog 71 1 1 := ⟨_, _, 0, Try.underlying71, rfl, rfl, by kernel_rfl⟩
theorem fd71_2 : FieldT Try.prog 71 2 2 := ⟨_, _, 0, Try.underlying71, rfl, rfl, by kernel_rfl⟩
theorem fd71_3 : FieldT Try.prog 71 3 3 := ⟨_, _, 0, Try.underlying71, rfl, rfl, by kernel_rfl⟩
theorem fd75_1 : FieldT Try.prog 75 1 1 := ⟨_, _, 0, Try.underlying75, rfl, rfl, by kernel_rfl⟩
theorem fd75_2 : FieldT Try.prog 75 2 2 := ⟨_, _, 0, Try.underlying75, rfl, rfl, by kernel_rfl⟩
theorem fd75_3 : FieldT Try.prog 75 3 3 := ⟨_, _, 0, Try.underlying75, rfl, rfl, by kernel_rfl⟩
theorem fd75_4 : FieldT Try.prog 75 4 4 := ⟨_, _, 0, Try.underlying75, rfl, rfl, by kernel_rfl⟩
theorem fd75_5 : FieldT Try.prog 75 5 5 := ⟨_, _, 0, Try.underlying75, rfl, rfl, by kernel_rfl⟩
theorem fd79_0 : FieldT Try.prog 79 0 0 := ⟨_, _, 0, Try.underlying79, rfl, rfl, by kernel_rfl⟩
theorem fd79_1 : FieldT Try.prog 79 1 1 := ⟨_, _, 0, Try.underlying79, rfl, rfl, by kernel_rfl⟩
theorem fd81_1 : FieldT Try.prog 81 1 1 := ⟨_, _, 1, Try.underlying81, rfl, rfl, by kernel_rfl⟩
theorem fd81_2 : FieldT Try.prog 81 2 3 := ⟨_, _, 1, Try.underlying81, rfl, rfl, by kernel_rfl⟩
theorem fd87_3 : FieldT Try.prog 87 3 5 := ⟨_, _, 0, Try.underlying87, rfl, rfl, by kernel_rfl⟩
theorem fd87_4 : FieldT Try.prog 87 4 6 := ⟨_, _, 0, Try.underlying87, rfl, rfl, by kernel_rfl⟩
theorem fd87_5 : FieldT Try.prog 87 5 7 := ⟨_, _, 0, Try.underlying87, rfl, rfl, by kernel_rfl⟩
theorem kt3 : KeyT Try.prog 3 kI := KeyT.int Try.underlying3
theorem mt154 : MapT Try.prog 154 3 4 := Try.underlying154
theorem pl22 : Plain Try.prog 22 := ⟨_, Try.underlying22, rfl⟩
theorem pl23 : Plain Try.prog 23 := ⟨_, Try.underlying23, rfl⟩
theorem pl29 : Plain Try.prog 29 := ⟨_, Try.underlying29, rfl⟩
theorem pl3 : Plain Try.prog 3 := ⟨_, Try.underlying3, rfl⟩
theorem sl22 : SliceT Try.prog 22 3 1 := ⟨Try.underlying22, by kernel_rfl⟩
theorem sl23 : SliceT Try.prog 23 81 9 := ⟨Try.underlying23, by kernel_rfl⟩
theorem sl29 : SliceT Try.prog 29 75 10 := ⟨Try.underlying29, by kernel_rfl⟩
theorem sl68 : SliceT Try.prog 68 71 4 := ⟨Try.underlying68, by kernel_rfl⟩
theorem sl76 : SliceT Try.prog 76 79 2 := ⟨Try.underlying76, by kernel_rfl⟩
theorem sz22 : SizeT Try.prog 22 1 := by unfold SizeT; kernel_rfl
theorem sz3 : SizeT Try.prog 3 1 := by unfold SizeT; kernel_rfl
theorem sz71 : SizeT Try.prog 71 4 := by unfold SizeT; kernel_rfl
theorem sz75 : SizeT Try.prog 75 10 := by unfold SizeT; kernel_rfl
theorem sz79 : SizeT Try.prog 79 2 := by unfold SizeT; kernel_rfl
theorem sz81 : SizeT Try.prog 81 9 := by unfold SizeT; kernel_rfl
theorem sz_22 : SliceZ Try.prog 22 3 1 [.int .i64 0] := ⟨Try.underlying22, by kernel_rfl⟩
theorem ve22 : VecT Try.prog 22 3 1 8 := ⟨Try.underlying22, by kernel_rfl, by decide⟩
theorem ze71 : ZeroT Try.prog 71 [.int .i64 0, .int .i64 0, .int .i64 0, .int .i64 0] := by unfold ZeroT; kernel_rfl
theorem ze75 : ZeroT Try.prog 75 [.int .i64 0, .int .i64 0, .int .i64 0, .int .i64 0, .int .i64 0, .int .i64 0, .int .i64 0, .int .i64 0, .int .i64 0, .int .i64 0] := by unfold ZeroT; kernel_rfl
theorem ze79 : ZeroT Try.prog 79 [.int .i64 0, .int .i64 0] := by unfold ZeroT; kernel_rfl
theorem ze81 : ZeroT Try.prog 81 [.int .i64 0, .int .i64 0, .int .i64 0, .int .i64 0, .int .i64 0, .int .i64 0, .int .i64 0, .int .i64 0, .int .i64 0] := by unfold ZeroT; kernel_rfl
theorem zv4bv : ZVal Try.prog 4 (bv false) := by unfold ZVal; kernel_rfl
end TCheck
open TCheck
set_option maxRecDepth 8000 in
theorem check_layout_w {v_l_logs : Value} {v_l_body : Value} {v_l_outs : Value} {v_k__ops : Value} {v_order : Value} {l : Lp} {t : Tgt} {k_ : Krn} {order : List Int} {r : Option LayT × Bool} {K0 : World} (hm : check_layout_m l t k_ order = some r) (h_l_logs : Arr K0 v_l_logs 1 (l.logs.map icell)) (h_l_body : Arr K0 v_l_body 9 (l.body.map Stm.cells)) (h_l_outs : Arr K0 v_l_outs 1 (l.outs.map icell)) (h_k__ops : Arr K0 v_k__ops 10 (k_.ops.map Opr.cells)) (h_order : Arr K0 v_order 1 (order.map icell)) (M : Nat → Prop) (w : World) (hk : Base M K0 w) (hw0 : Own M w [] w) : Calls Try.prog 60 #[.agg #[v_l_logs, v_l_body, v_l_outs], .agg #[.int .i64 t.u0, .int .i64 t.u1, .int .i64 t.u2, .int .i64 t.w0, .int .i64 t.w1, .int .i64 t.w2, .int .i64 t.regs], .agg #[.int .i64 k_.pace, .int .i64 k_.stages, v_k__ops], v_order] w (fun e w' => ∃ X : Value × World, e = .returned (.tuple #[X.1, .bool r.2]) ∧ Own M w (kn M w.heap.size K0 X.2 :: []) w' ∧ LayAt X.2 X.1 r.1) := by
  unfold check_layout_m at hm
  refine calls_of_WC (n := 138) (args := [.agg #[v_l_logs, v_l_body, v_l_outs], .agg #[.int .i64 t.u0, .int .i64 t.u1, .int .i64 t.u2, .int .i64 t.w0, .int .i64 t.w1, .int .i64 t.w2, .int .i64 t.regs], .agg #[.int .i64 k_.pace, .int .i64 k_.stages, v_k__ops], v_order]) Try.func60 rfl rfl (Nat.le_of_ble_eq_true rfl) ?_ (Own.startK hk hw0)
  refine WC.seq ?_
  refine WC.region ?_
  refine WL.effect rfl ?_
  refine (EV.boxAgg (by decide) rfl rfl (fun b1 => ?_))
  refine WL.effect rfl ?_
  refine (EV.boxAgg (by decide) rfl rfl (fun b2 => ?_))
  refine WL.effect rfl ?_
  refine (EV.boxAgg (by decide) rfl rfl (fun b3 => ?_))
  refine WL.q rfl rfl rfl (QV.assign rfl rfl) ?_
  refine WL.q rfl rfl rfl (QV.assign rfl rfl) ?_
  refine WL.nil ?_
  refine WQ.then ?_
  refine WC.seq ?_
  refine WC.seq ?_
  refine WC.region ?_
  refine WL.q rfl rfl rfl (QV.loadAgg ag25 rfl rfl rfl (Own.cellsBlk 2 rfl)) ?_
  obtain ⟨x4, hx5, hm6⟩ := bd_some hm; clear hm
  refine WL.q rfl rfl rfl (QV.call en38 (EvAll.cons rfl rfl EvAll.nil) (fun w hw => have h := loop_May_w w hx5 ((Own.karr 3 rfl hk h_l_logs) w hw) ((Own.karr 3 rfl hk h_l_body) w hw) ((Own.karr 3 rfl hk h_l_outs) w hw); h)) ?_
  refine WL.q rfl rfl rfl (QV.not rfl rfl) ?_
  refine WL.q rfl rfl rfl (QV.move rfl rfl) ?_
  refine WL.g rfl rfl (GuardIs.neg rfl rfl) (fun hG => QV.loadAgg ag28 rfl rfl rfl (Own.cellsBlk 1 rfl)) ?_
  refine WL.g rfl rfl (GuardIs.neg rfl rfl) (fun hG => QV.loadAgg ag31 rfl rfl rfl (Own.cellsBlk 0 rfl)) ?_
  refine WL.g rfl rfl (GuardIs.neg rfl rfl) (fun hG => QV.fieldAddr fd25_0 rfl rfl) ?_
  refine WL.g rfl rfl (GuardIs.neg rfl rfl) (fun hG => QV.load pl22 rfl hG (Own.cell 2 rfl rfl)) ?_
  obtain ⟨x7, hx8, hm9⟩ := bdG_some hm6; clear hm6
  refine WL.g rfl rfl (GuardIs.neg rfl rfl) (fun hG => QV.call en56 (EvAll.cons rfl hG (EvAll.cons rfl hG (EvAll.cons rfl hG EvAll.nil))) (fun w hw => have h := kernel_May_w w (hx8 hG) ((Own.karr 3 rfl hk h_k__ops) w hw) ((Own.karr 3 rfl hk h_l_logs) w hw); h)) ?_
  refine WL.g rfl rfl (GuardIs.neg rfl rfl) (fun hG => QV.not rfl hG) ?_
  refine WL.q rfl rfl rfl (QV.pickOr rfl rfl rfl (fun h => notF h)) ?_
  refine WL.q rfl rfl rfl (QV.move rfl rfl) ?_
  refine WL.g rfl rfl (GuardIs.neg rfl rfl) (fun hG => QV.fieldAddr fd31_2 rfl rfl) ?_
  refine WL.g rfl rfl (GuardIs.neg rfl rfl) (fun hG => QV.load pl29 rfl hG (Own.cell 0 rfl rfl)) ?_
  refine WL.g rfl rfl (GuardIs.neg rfl rfl) (fun hG => QV.lenS Try.underlying29 rfl hG h_k__ops.lenMap) ?_
  refine WL.g rfl rfl (GuardIs.neg rfl rfl) (fun hG => QV.fieldAddr fd25_1 rfl rfl) ?_
  refine WL.g rfl rfl (GuardIs.neg rfl rfl) (fun hG => QV.load pl23 rfl hG (Own.cell 2 rfl rfl)) ?_
  refine WL.g rfl rfl (GuardIs.neg rfl rfl) (fun hG => QV.lenS Try.underlying23 rfl hG h_l_body.lenMap) ?_
  refine WL.g rfl rfl (GuardIs.neg rfl rfl) (fun hG => QV.neq rfl hG rfl hG) ?_
  refine WL.q rfl rfl rfl (QV.pickOr rfl rfl rfl (fun h => notF h)) ?_
  refine WL.q rfl rfl rfl (QV.move rfl rfl) ?_
  refine WL.g rfl rfl (GuardIs.neg rfl rfl) (fun hG => QV.move rfl rfl) ?_
  refine WL.g rfl rfl (GuardIs.neg rfl rfl) (fun hG => QV.lenS Try.underlying22 rfl hG h_order.lenMap) ?_
  refine WL.g rfl rfl (GuardIs.neg rfl rfl) (fun hG => QV.fieldAddr fd25_1 rfl rfl) ?_
  refine WL.g rfl rfl (GuardIs.neg rfl rfl) (fun hG => QV.load pl23 rfl hG (Own.cell 2 rfl rfl)) ?_
  refine WL.g rfl rfl (GuardIs.neg rfl rfl) (fun hG => QV.lenS Try.underlying23 rfl hG h_l_body.lenMap) ?_
  refine WL.g rfl rfl (GuardIs.neg rfl rfl) (fun hG => QV.neq rfl hG rfl hG) ?_
  refine WL.q rfl rfl rfl (QV.pickOr rfl rfl rfl (fun h => notF h)) ?_
  refine WL.nil ?_
  refine WQ.then ?_
  refine WC.cond rfl (fun h10 => ?_) (fun h10 => ?_)
  · skip
    have hm11 := br_t h10 hm9; clear hm9
    refine WC.seq ?_
    refine WC.region ?_
    refine WL.q rfl rfl rfl (QV.assign rfl rfl) ?_
    refine WL.q rfl rfl rfl (QV.assign rfl rfl) ?_
    refine WL.nil ?_
    refine WQ.then ?_
    refine WC.ret ?_
    refine WQ.then_ret ?_
    obtain rfl := (eq_of_some hm11).symm
    refine WQ.ret2 rfl rfl rfl (fun w hw => ?_)
    exact ⟨(.pointer none, K0), rfl, hw.pick [3] (by decide), LayAt.none⟩
  · skip
    have hm12 := br_f h10 hm9; clear hm9
    refine WC.skip ?_
    refine WQ.then ?_
    refine WC.seq ?_
    refine WC.region ?_
    refine WL.q rfl rfl rfl (QV.loadAgg ag25 rfl rfl rfl (Own.cellsBlk 2 rfl)) ?_
    refine WL.q rfl rfl rfl (QV.fieldAddr fd31_0 rfl rfl) ?_
    refine WL.q rfl rfl rfl (QV.load pl3 rfl rfl (Own.cell 0 rfl rfl)) ?_
    refine WL.q rfl rfl rfl (QV.fieldAddr fd28_2 rfl rfl) ?_
    refine WL.q rfl rfl rfl (QV.load pl3 rfl rfl (Own.cell 1 rfl rfl)) ?_
    refine WL.q rfl rfl rfl (QV.buildS (ps := [(0, .tmp 44), (1, .tmp 46), (2, .tmp 48)]) (cells := [v_l_logs, v_l_body, v_l_outs, .int .i64 k_.pace, .int .i64 t.regs, .slice none 0 0, .slice none 0 0, .slice none 0 0]) (css := [[v_l_logs, v_l_body, v_l_outs], [.int .i64 k_.pace], [.int .i64 t.regs]]) (EvAll.cons rfl rfl (EvAll.cons rfl rfl (EvAll.cons rfl rfl EvAll.nil))) (CellsAll.cons rfl (CellsAll.cons rfl (CellsAll.cons rfl CellsAll.nil))) (by kernel_rfl)) ?_
    refine WL.effect rfl ?_
    refine (EV.boxAgg (by decide) rfl rfl (fun b13 => ?_))
    refine WL.q rfl rfl rfl (QV.assign rfl rfl) ?_
    refine WL.nil ?_
    refine WQ.then ?_
    refine WC.seq ?_
    refine WC.region ?_
    refine WL.effect rfl ?_
    refine (EV.makeMap (ke := kI) (ve := bv) (by decide) (fun b14 => ?_))
    refine WL.q rfl rfl rfl (QV.assign rfl rfl) ?_
    refine WL.nil ?_
    refine WQ.then ?_
    refine WC.seq ?_
    refine WC.seq ?_
    refine WC.region ?_
    refine WL.q rfl rfl rfl (QV.move rfl rfl) ?_
    refine WL.q rfl rfl rfl (QV.lenS Try.underlying22 rfl rfl h_order.lenMap) ?_
    refine WL.q rfl rfl rfl (QV.move rfl rfl) ?_
    refine WL.nil ?_
    refine WQ.then ?_
    refine WK.of (fun w hw => hw.vecNil (E := 3) (sz := 1) (enc := icell)) ?_
    refine WK.of (fun w hw => hw.vecNil (E := 3) (sz := 1) (enc := icell)) ?_
    refine WK.of (fun w hw => hw.vecNil (E := 3) (sz := 1) (enc := icell)) ?_
    obtain ⟨o18, ho19, hm20⟩ := bd_some hm12; clear hm12; obtain ⟨n21, ho22⟩ := lp_some ho19
    refine WC.bloop8 (H2 := [blk b3 [.int .i64 k_.pace, .int .i64 k_.stages, v_k__ops] 31, blk b2 [.int .i64 t.u0, .int .i64 t.u1, .int .i64 t.u2, .int .i64 t.w0, .int .i64 t.w1, .int .i64 t.w2, .int .i64 t.regs] 28, blk b1 [v_l_logs, v_l_body, v_l_outs] 25, kn M w.heap.size K0 K0]) (τ := [(4, (true, _)), (5, (true, _)), (6, (true, _)), (10, (true, _)), (11, (true, _)), (52, (true, _)), (53, (true, _))]) (fun (v17_1 : List Int) (v16_1 : List Int) (v15_1 : List Int) (m14n_1 : List (Int × Bool)) (x54_1 : Int) (uv17_1 : Value) (uv16_1 : Value) (uv15_1 : Value) => [(54, (true, .int .i64 x54_1))]) (fun (v17_1 : List Int) (v16_1 : List Int) (v15_1 : List Int) (m14n_1 : List (Int × Bool)) (x54_1 : Int) (uv17_1 : Value) (uv16_1 : Value) (uv15_1 : Value) => [vec uv17_1 3 1 (List.map icell v17_1), vec uv16_1 3 1 (List.map icell v16_1), vec uv15_1 3 1 (List.map icell v15_1), mapR b14 kI bv m14n_1, blk b13 [v_l_logs, v_l_body, v_l_outs, .int .i64 k_.pace, .int .i64 t.regs, uv15_1, uv16_1, uv17_1] 87]) (fun (v17_1 : List Int) (v16_1 : List Int) (v15_1 : List Int) (m14n_1 : List (Int × Bool)) (x54_1 : Int) (uv17_1 : Value) (uv16_1 : Value) (uv15_1 : Value) (m : Nat) => iter (check_layout_L0 l t k_ order) m (v17_1, v16_1, v15_1, m14n_1, x54_1) = some o18 ∧ SliceLen uv17_1 v17_1.length ∧ SliceLen uv16_1 v16_1.length ∧ SliceLen uv15_1 v15_1.length) (fun (v17_1 : List Int) (v16_1 : List Int) (v15_1 : List Int) (m14n_1 : List (Int × Bool)) (x54_1 : Int) (uv17_1 : Value) (uv16_1 : Value) (uv15_1 : Value) => o18 = .go (v17_1, v16_1, v15_1, m14n_1, x54_1) ∧ SliceLen uv17_1 v17_1.length ∧ SliceLen uv16_1 v16_1.length ∧ SliceLen uv15_1 v15_1.length) [] [] [] ([] : List (Int × Bool)) 0 (.slice none 0 0) (.slice none 0 0) (.slice none 0 0) n21 ⟨ho22, SliceLen.nil, SliceLen.nil, SliceLen.nil⟩ ⟨rfl, rfl, rfl, rfl, rfl, rfl, rfl, rfl, trivial⟩ (fun w hw => hw.pick [0, 1, 2, 3, 4, 5, 6, 7, 8] (by decide)) ?_ ?_
    · skip
      rintro v17_1 v16_1 v15_1 m14n_1 x54_1 uv17_1 uv16_1 uv15_1 ⟨rfl, hlv17_1, hlv16_1, hlv15_1⟩
      refine WQ.then ?_
      refine WC.seq ?_
      refine WC.region ?_
      refine WL.q rfl rfl rfl (QV.move rfl rfl) ?_
      refine WL.q rfl rfl rfl (QV.assign rfl rfl) ?_
      refine WL.q rfl rfl rfl (QV.assign rfl rfl) ?_
      refine WL.nil ?_
      refine WQ.then ?_
      refine WC.ret ?_
      obtain rfl := (eq_of_some hm20).symm
      refine WK.of (C' := Own M w [kn M w.heap.size K0 K0, vec uv15_1 3 1 (List.map icell v15_1), vec uv17_1 3 1 (List.map icell v17_1), vec uv16_1 3 1 (List.map icell v16_1), mapR b14 kI bv m14n_1, blk b13 [v_l_logs, v_l_body, v_l_outs, .int .i64 k_.pace, .int .i64 t.regs, uv15_1, uv16_1, uv17_1] 87, blk b3 [.int .i64 k_.pace, .int .i64 k_.stages, v_k__ops] 31, blk b2 [.int .i64 t.u0, .int .i64 t.u1, .int .i64 t.u2, .int .i64 t.w0, .int .i64 t.w1, .int .i64 t.w2, .int .i64 t.regs] 28, blk b1 [v_l_logs, v_l_body, v_l_outs] 25]) (fun w hw => hw.pick [8, 2, 0, 1, 3, 4, 5, 6, 7] (by decide)) ?_
      refine WK.freeze hk (fun k23 hle23 hr23 => ?_)
      have hA23 := vec_arr hr23
      refine WK.of (C' := Own M w [kn M w.heap.size K0 k23, vec uv16_1 3 1 (List.map icell v16_1), vec uv17_1 3 1 (List.map icell v17_1), mapR b14 kI bv m14n_1, blk b13 [v_l_logs, v_l_body, v_l_outs, .int .i64 k_.pace, .int .i64 t.regs, uv15_1, uv16_1, uv17_1] 87, blk b3 [.int .i64 k_.pace, .int .i64 k_.stages, v_k__ops] 31, blk b2 [.int .i64 t.u0, .int .i64 t.u1, .int .i64 t.u2, .int .i64 t.w0, .int .i64 t.w1, .int .i64 t.w2, .int .i64 t.regs] 28, blk b1 [v_l_logs, v_l_body, v_l_outs] 25]) (fun w hw => hw.pick [0, 2, 1, 3, 4, 5, 6, 7] (by decide)) ?_
      refine WK.freeze hk (fun k24 hle24 hr24 => ?_)
      have hA24 := vec_arr hr24
      refine WK.freeze hk (fun k25 hle25 hr25 => ?_)
      have hA25 := vec_arr hr25
      refine WK.of (C' := Own M w [kn M w.heap.size K0 k25, blk b13 [v_l_logs, v_l_body, v_l_outs, .int .i64 k_.pace, .int .i64 t.regs, uv15_1, uv16_1, uv17_1] 87, mapR b14 kI bv m14n_1, blk b3 [.int .i64 k_.pace, .int .i64 k_.stages, v_k__ops] 31, blk b2 [.int .i64 t.u0, .int .i64 t.u1, .int .i64 t.u2, .int .i64 t.w0, .int .i64 t.w1, .int .i64 t.w2, .int .i64 t.regs] 28, blk b1 [v_l_logs, v_l_body, v_l_outs] 25]) (fun w hw => hw.pick [0, 2, 1, 3, 4, 5] (by decide)) ?_
      refine WK.freeze hk (fun k26 hle26 hr26 => ?_)
      have hc26 := blk_cells hr26
      refine WQ.ret2 rfl rfl rfl (fun w hw => ?_)
      exact ⟨(.pointer (some (⟨b13, 0, none⟩)), k26), rfl, hw.pick [0] (by decide), (LayAt.mk hc26 (h_l_logs.le (((hle23.trans hle24).trans hle25).trans hle26)) (h_l_body.le (((hle23.trans hle24).trans hle25).trans hle26)) (h_l_outs.le (((hle23.trans hle24).trans hle25).trans hle26)) (hA23.le ((hle24.trans hle25).trans hle26)) (hA24.le (hle25.trans hle26)) (hA25.le hle26))⟩
    · skip
      rintro v17_1 v16_1 v15_1 m14n_1 x54_1 uv17_1 uv16_1 uv15_1 m27 ⟨hI28, hlv17_1, hlv16_1, hlv15_1⟩
      obtain ⟨m29, s30, rfl, hm31, hn32⟩ := iter_step hI28; clear hI28; unfold check_layout_L0 at hm31; simp only at hm31
      refine WC.seq ?_
      refine WC.region ?_
      refine WL.q rfl rfl rfl (QV.lss rfl rfl rfl rfl) ?_
      refine WL.nil ?_
      refine WQ.then ?_
      refine WC.seq ?_
      refine WC.cond rfl (fun h33 => ?_) (fun h33 => ?_)
      · skip
        have hm34 := br_t h33 hm31; clear hm31
        refine WC.skip ?_
        refine WQ.then ?_
        refine WC.seq ?_
        refine WC.block ?_
        refine WC.seq ?_
        refine WC.region ?_
        refine WL.q rfl rfl rfl (QV.move rfl rfl) ?_
        obtain ⟨c35, hm36⟩ := ck_some hm34; clear hm34
        obtain ⟨p37, hp38⟩ := h_order.lenMap.ix (sz := 1) ln_len c35
        refine WL.q rfl rfl rfl (QV.indexSlice sl22 rfl rfl rfl rfl hp38) ?_
        refine WL.q rfl rfl rfl (QV.load pl3 rfl rfl (fun w hw => CellsAt.one 0 (((Own.karr 8 rfl hk h_order) w hw).ele hp38 c35) rfl)) ?_
        refine WL.q rfl rfl rfl (QV.assign rfl rfl) ?_
        refine WL.q rfl rfl rfl (QV.assign rfl rfl) ?_
        refine WL.nil ?_
        refine WQ.then ?_
        refine WC.seq ?_
        refine WC.seq ?_
        refine WC.region ?_
        refine WL.q rfl rfl rfl (QV.move rfl rfl) ?_
        refine WL.q rfl rfl rfl (QV.lss rfl rfl rfl rfl) ?_
        refine WL.q rfl rfl rfl (QV.move rfl rfl) ?_
        refine WL.g rfl rfl (GuardIs.neg rfl rfl) (fun hG => QV.move rfl rfl) ?_
        refine WL.g rfl rfl (GuardIs.neg rfl rfl) (fun hG => QV.fieldAddr fd31_2 rfl rfl) ?_
        refine WL.g rfl rfl (GuardIs.neg rfl rfl) (fun hG => QV.load pl29 rfl hG (Own.cell 5 rfl rfl)) ?_
        refine WL.g rfl rfl (GuardIs.neg rfl rfl) (fun hG => QV.lenS Try.underlying29 rfl hG h_k__ops.lenMap) ?_
        refine WL.g rfl rfl (GuardIs.neg rfl rfl) (fun hG => QV.geq rfl hG rfl hG) ?_
        refine WL.q rfl rfl rfl (QV.pickOr rfl rfl rfl (fun h => notF h)) ?_
        refine WL.q rfl rfl rfl (QV.move rfl rfl) ?_
        refine WL.g rfl rfl (GuardIs.neg rfl rfl) (fun hG => QV.move rfl rfl) ?_
        refine WL.g rfl rfl (GuardIs.neg rfl rfl) (fun hG => QV.move rfl rfl) ?_
        refine WL.g rfl rfl (GuardIs.neg rfl rfl) (fun hG => QV.lookup (k := (ele order x54_1)) 3 false mt154 kt3 zv4bv rfl hG rfl hG rfl) ?_
        refine WL.q rfl rfl rfl (QV.pickOr rfl rfl rfl (fun h => notF h)) ?_
        refine WL.nil ?_
        refine WQ.then ?_
        refine WC.cond rfl (fun h39 => ?_) (fun h39 => ?_)
        · skip
          have hm40 := br_t h39 hm36; clear hm36
          refine WC.seq ?_
          refine WC.region ?_
          refine WL.q rfl rfl rfl (QV.assign rfl rfl) ?_
          refine WL.q rfl rfl rfl (QV.assign rfl rfl) ?_
          refine WL.nil ?_
          refine WQ.then ?_
          refine WC.ret ?_
          refine WQ.then_ret ?_
          refine WQ.block_ret ?_
          refine WQ.then_ret ?_
          refine WQ.then_ret ?_
          refine WQ.block_ret ?_
          refine WQ.then_ret ?_
          refine WQ.then_ret ?_
          obtain rfl := up_ret hm40 hn32
          obtain rfl := (eq_of_some hm20).symm
          refine WQ.ret2 rfl rfl rfl (fun w hw => ?_)
          exact ⟨(.pointer none, K0), rfl, hw.pick [8] (by decide), LayAt.none⟩
        · skip
          have hm41 := br_f h39 hm36; clear hm36
          refine WC.skip ?_
          refine WQ.then ?_
          refine WC.seq ?_
          refine WC.region ?_
          refine WL.q rfl rfl rfl (QV.move rfl rfl) ?_
          refine WL.q rfl rfl rfl (QV.move rfl rfl) ?_
          refine WL.effect rfl ?_
          refine (EV.mapUpdate (ke := kI) (ve := bv) (ele order x54_1) 3 true mt154 kt3 rfl rfl rfl rfl rfl rfl rfl ?_)
          refine WL.nil ?_
          refine WQ.then ?_
          refine WC.seq ?_
          refine WC.dr (m := 14) (S := Own M w [kn M w.heap.size K0 K0, vec uv17_1 3 1 (List.map icell v17_1), vec uv16_1 3 1 (List.map icell v16_1), vec uv15_1 3 1 (List.map icell v15_1), mapR b14 kI bv (mput m14n_1 (ele order x54_1) true), blk b13 [v_l_logs, v_l_body, v_l_outs, .int .i64 k_.pace, .int .i64 t.regs, uv15_1, uv16_1, uv17_1] 87, blk b3 [.int .i64 k_.pace, .int .i64 k_.stages, v_k__ops] 31, blk b2 [.int .i64 t.u0, .int .i64 t.u1, .int .i64 t.u2, .int .i64 t.w0, .int .i64 t.w1, .int .i64 t.w2, .int .i64 t.regs] 28, blk b1 [v_l_logs, v_l_body, v_l_outs] 25]) (by kernel_rfl) (by kernel_rfl) (fun w hw => hw.pick [8, 0, 1, 2, 3, 4, 5, 6, 7] (by decide)) ?_
          refine WD.toL 0 (by kernel_rfl) ?_
          refine WD.qL 0 0 1 rfl (by kernel_rfl) rfl rfl rfl (QV.fieldAddr fd31_2 rfl rfl) ?_
          refine WD.qL 1 1 3 rfl (by kernel_rfl) rfl rfl rfl (QV.load pl29 rfl rfl (Own.cell 6 rfl rfl)) ?_
          refine WD.qL 2 3 7 rfl (by kernel_rfl) rfl rfl rfl (QV.move rfl rfl) ?_
          obtain ⟨c42, hm43⟩ := ck_some hm41; clear hm41
          obtain ⟨p44, hp45⟩ := h_k__ops.lenMap.ix (sz := 10) ln_len c42
          refine WD.qL 3 7 15 rfl (by kernel_rfl) rfl rfl rfl (QV.indexSlice sl29 rfl rfl rfl rfl hp45) ?_
          refine WD.qL 4 15 31 rfl (by kernel_rfl) rfl rfl rfl (QV.loadAgg ag75 rfl rfl rfl (fun w hw => ((Own.karr 0 rfl hk h_k__ops) w hw).ele hp45 c42)) ?_
          refine WD.qL 5 31 63 rfl (by kernel_rfl) rfl rfl rfl (QV.fieldAddr fd25_1 rfl rfl) ?_
          refine WD.qL 6 63 127 rfl (by kernel_rfl) rfl rfl rfl (QV.load pl23 rfl rfl (Own.cell 8 rfl rfl)) ?_
          refine WD.qL 7 127 255 rfl (by kernel_rfl) rfl rfl rfl (QV.move rfl rfl) ?_
          obtain ⟨c46, hm47⟩ := ck_some hm43; clear hm43
          obtain ⟨p48, hp49⟩ := h_l_body.lenMap.ix (sz := 9) ln_len c46
          refine WD.qL 8 255 511 rfl (by kernel_rfl) rfl rfl rfl (QV.indexSlice sl23 rfl rfl rfl rfl hp49) ?_
          refine WD.qL 9 511 1023 rfl (by kernel_rfl) rfl rfl rfl (QV.loadAgg ag81 rfl rfl rfl (fun w hw => ((Own.karr 0 rfl hk h_l_body) w hw).ele hp49 c46)) ?_
          refine WD.cut2 (fun (b50 : Nat) (b51 : Nat) => [(4, (true, .pointer (some (⟨b1, 0, none⟩)))), (5, (true, .pointer (some (⟨b2, 0, none⟩)))), (6, (true, .pointer (some (⟨b3, 0, none⟩)))), (10, (true, .pointer (some (⟨b13, 0, none⟩)))), (11, (true, .map (some b14))), (14, (true, .pointer (some (⟨b50, 0, none⟩)))), (15, (true, .pointer (some (⟨b51, 0, none⟩)))), (52, (true, v_order)), (53, (true, .int .i64 (ln order))), (54, (true, .int .i64 x54_1))]) (fun (b50 : Nat) (b51 : Nat) => Own M w [blk b51 [.int .i64 ((ele l.body x54_1).op), .int .i64 (((ele l.body x54_1).a).st), .int .i64 (((ele l.body x54_1).a).bk), .int .i64 (((ele l.body x54_1).b).st), .int .i64 (((ele l.body x54_1).b).bk), .int .i64 ((ele l.body x54_1).ar), .int .i64 ((ele l.body x54_1).sp), .int .i64 ((ele l.body x54_1).pl), .int .i64 ((ele l.body x54_1).n)] 81, blk b50 [.int .i64 ((ele k_.ops (ele order x54_1)).slot), .int .i64 ((ele k_.ops (ele order x54_1)).stage), .int .i64 ((ele k_.ops (ele order x54_1)).op), .int .i64 ((ele k_.ops (ele order x54_1)).dest), .int .i64 ((ele k_.ops (ele order x54_1)).a), .int .i64 ((ele k_.ops (ele order x54_1)).b), .int .i64 ((ele k_.ops (ele order x54_1)).ar), .int .i64 ((ele k_.ops (ele order x54_1)).sp), .int .i64 ((ele k_.ops (ele order x54_1)).pl), .int .i64 ((ele k_.ops (ele order x54_1)).n)] 75, vec uv17_1 3 1 (List.map icell v17_1), vec uv16_1 3 1 (List.map icell v16_1), vec uv15_1 3 1 (List.map icell v15_1), mapR b14 kI bv (mput m14n_1 (ele order x54_1) true), blk b13 [v_l_logs, v_l_body, v_l_outs, .int .i64 k_.pace, .int .i64 t.regs, uv15_1, uv16_1, uv17_1] 87, blk b3 [.int .i64 k_.pace, .int .i64 k_.stages, v_k__ops] 31, blk b2 [.int .i64 t.u0, .int .i64 t.u1, .int .i64 t.u2, .int .i64 t.w0, .int .i64 t.w1, .int .i64 t.w2, .int .i64 t.regs] 28, blk b1 [v_l_logs, v_l_body, v_l_outs] 25, kn M w.heap.size K0 K0]) ?_ ?_
          · skip
            rintro b50 b51
            refine WQ.then ?_
            refine WC.seq ?_
            refine WC.region ?_
            refine WL.q rfl rfl rfl (QV.build (ps := []) (cells := [.int .i64 0, .int .i64 0]) EvAll.nil (by kernel_rfl)) ?_
            refine WL.q rfl rfl rfl (QV.build (ps := []) (cells := [.int .i64 0, .int .i64 0]) EvAll.nil (by kernel_rfl)) ?_
            refine WL.q rfl rfl rfl (QV.fieldAddr fd81_1 rfl rfl) ?_
            refine WL.effect rfl ?_
            refine (EV.store 0 rfl rfl rfl rfl rfl rfl (vs := [.int .i64 0, .int .i64 0]) (show Value.cells _ = List.toArray _ from rfl) sz79 (Nat.le_of_ble_eq_true rfl) (one_cons rfl (one_cons rfl one_nil)) ?_)
            refine WL.q rfl rfl rfl (QV.fieldAddr fd81_2 rfl rfl) ?_
            refine WL.effect rfl ?_
            refine (EV.store 0 rfl rfl rfl rfl rfl rfl (vs := [.int .i64 0, .int .i64 0]) (show Value.cells _ = List.toArray _ from rfl) sz79 (Nat.le_of_ble_eq_true rfl) (one_cons rfl (one_cons rfl one_nil)) ?_)
            refine WL.nil ?_
            refine WQ.then ?_
            refine WC.seq ?_
            refine WC.seq ?_
            refine WC.dr (m := 4) (S := Own M w [kn M w.heap.size K0 K0, blk b51 [.int .i64 ((ele l.body x54_1).op), .int .i64 0, .int .i64 0, .int .i64 0, .int .i64 0, .int .i64 ((ele l.body x54_1).ar), .int .i64 ((ele l.body x54_1).sp), .int .i64 ((ele l.body x54_1).pl), .int .i64 ((ele l.body x54_1).n)] 81, blk b50 [.int .i64 ((ele k_.ops (ele order x54_1)).slot), .int .i64 ((ele k_.ops (ele order x54_1)).stage), .int .i64 ((ele k_.ops (ele order x54_1)).op), .int .i64 ((ele k_.ops (ele order x54_1)).dest), .int .i64 ((ele k_.ops (ele order x54_1)).a), .int .i64 ((ele k_.ops (ele order x54_1)).b), .int .i64 ((ele k_.ops (ele order x54_1)).ar), .int .i64 ((ele k_.ops (ele order x54_1)).sp), .int .i64 ((ele k_.ops (ele order x54_1)).pl), .int .i64 ((ele k_.ops (ele order x54_1)).n)] 75, vec uv17_1 3 1 (List.map icell v17_1), vec uv16_1 3 1 (List.map icell v16_1), vec uv15_1 3 1 (List.map icell v15_1), mapR b14 kI bv (mput m14n_1 (ele order x54_1) true), blk b13 [v_l_logs, v_l_body, v_l_outs, .int .i64 k_.pace, .int .i64 t.regs, uv15_1, uv16_1, uv17_1] 87, blk b3 [.int .i64 k_.pace, .int .i64 k_.stages, v_k__ops] 31, blk b2 [.int .i64 t.u0, .int .i64 t.u1, .int .i64 t.u2, .int .i64 t.w0, .int .i64 t.w1, .int .i64 t.w2, .int .i64 t.regs] 28, blk b1 [v_l_logs, v_l_body, v_l_outs] 25]) (by kernel_rfl) (by kernel_rfl) (fun w hw => hw.pick [10, 0, 1, 2, 3, 4, 5, 6, 7, 8, 9] (by decide)) ?_
            refine WD.q 0 rfl (by kernel_rfl) rfl rfl rfl (QV.loadAgg ag75 rfl rfl rfl (Own.cellsBlk 2 rfl)) ?_
            obtain ⟨x52, hx53, hm54⟩ := bd_some hm47; clear hm47
            refine WD.q 1 rfl (by kernel_rfl) rfl rfl rfl (QV.call en95 (EvAll.cons rfl rfl EvAll.nil) (fun w hw => have h := kernel_Stmt_w w hx53 ; h)) ?_
            refine WD.q 2 rfl (by kernel_rfl) rfl rfl rfl (QV.loadAgg ag81 rfl rfl rfl (Own.cellsBlk 1 rfl)) ?_
            refine WD.q 3 rfl (by kernel_rfl) rfl rfl rfl (QV.neqF eq81 (ns := [x52.op, x52.a.st, x52.a.bk, x52.b.st, x52.b.bk, x52.ar, x52.sp, x52.pl, x52.n]) (ms := [(ele l.body x54_1).op, 0, 0, 0, 0, (ele l.body x54_1).ar, (ele l.body x54_1).sp, (ele l.body x54_1).pl, (ele l.body x54_1).n]) rfl rfl rfl rfl rfl rfl) ?_
            refine WD.e (by kernel_rfl) ?_
            refine WQ.then ?_
            refine WC.cond rfl (fun h55 => ?_) (fun h55 => ?_)
            · skip
              have hm56 := br_t h55 hm54; clear hm54
              refine WC.seq ?_
              refine WC.region ?_
              refine WL.q rfl rfl rfl (QV.assign rfl rfl) ?_
              refine WL.q rfl rfl rfl (QV.assign rfl rfl) ?_
              refine WL.nil ?_
              refine WQ.then ?_
              refine WC.ret ?_
              refine WQ.then_ret ?_
              refine WQ.block_ret ?_
              refine WQ.then_ret ?_
              refine WQ.then_ret ?_
              refine WQ.block_ret ?_
              refine WQ.then_ret ?_
              refine WQ.then_ret ?_
              obtain rfl := up_ret hm56 hn32
              obtain rfl := (eq_of_some hm20).symm
              refine WQ.ret2 rfl rfl rfl (fun w hw => ?_)
              exact ⟨(.pointer none, K0), rfl, hw.pick [10] (by decide), LayAt.none⟩
            · skip
              have hm57 := br_f h55 hm54; clear hm54
              refine WC.skip ?_
              refine WQ.then ?_
              refine WC.seq ?_
              refine WC.dr (m := 13) (S := Own M w [kn M w.heap.size K0 K0, blk b51 [.int .i64 ((ele l.body x54_1).op), .int .i64 0, .int .i64 0, .int .i64 0, .int .i64 0, .int .i64 ((ele l.body x54_1).ar), .int .i64 ((ele l.body x54_1).sp), .int .i64 ((ele l.body x54_1).pl), .int .i64 ((ele l.body x54_1).n)] 81, blk b50 [.int .i64 ((ele k_.ops (ele order x54_1)).slot), .int .i64 ((ele k_.ops (ele order x54_1)).stage), .int .i64 ((ele k_.ops (ele order x54_1)).op), .int .i64 ((ele k_.ops (ele order x54_1)).dest), .int .i64 ((ele k_.ops (ele order x54_1)).a), .int .i64 ((ele k_.ops (ele order x54_1)).b), .int .i64 ((ele k_.ops (ele order x54_1)).ar), .int .i64 ((ele k_.ops (ele order x54_1)).sp), .int .i64 ((ele k_.ops (ele order x54_1)).pl), .int .i64 ((ele k_.ops (ele order x54_1)).n)] 75, vec uv17_1 3 1 (List.map icell v17_1), vec uv16_1 3 1 (List.map icell v16_1), mapR b14 kI bv (mput m14n_1 (ele order x54_1) true), blk b13 [v_l_logs, v_l_body, v_l_outs, .int .i64 k_.pace, .int .i64 t.regs, uv15_1, uv16_1, uv17_1] 87, blk b3 [.int .i64 k_.pace, .int .i64 k_.stages, v_k__ops] 31, blk b2 [.int .i64 t.u0, .int .i64 t.u1, .int .i64 t.u2, .int .i64 t.w0, .int .i64 t.w1, .int .i64 t.w2, .int .i64 t.regs] 28, blk b1 [v_l_logs, v_l_body, v_l_outs] 25]) (by kernel_rfl) (by kernel_rfl) (fun w hw => hw.pick [10, 0, 1, 2, 3, 5, 6, 7, 8, 9] (by decide)) ?_
              refine WD.q 0 rfl (by kernel_rfl) rfl rfl rfl (QV.move rfl rfl) ?_
              refine WD.q 1 rfl (by kernel_rfl) rfl rfl rfl (QV.move rfl rfl) ?_
              refine WD.q 2 rfl (by kernel_rfl) rfl rfl rfl (QV.nilCheck rfl rfl) ?_
              refine WD.q 3 rfl (by kernel_rfl) rfl rfl rfl (QV.fieldAddr fd87_3 rfl rfl) ?_
              refine WD.q 4 rfl (by kernel_rfl) rfl rfl rfl (QV.load pl22 rfl rfl (Own.cell 6 rfl rfl)) ?_
              refine WD.q 5 rfl (by kernel_rfl) rfl rfl rfl (QV.loadAgg ag31 rfl rfl rfl (Own.cellsBlk 7 rfl)) ?_
              refine WD.q 6 rfl (by kernel_rfl) rfl rfl rfl (QV.loadAgg ag75 rfl rfl rfl (Own.cellsBlk 2 rfl)) ?_
              obtain ⟨x58, hx59, hm60⟩ := bd_some hm57; clear hm57
              refine WD.q 7 rfl (by kernel_rfl) rfl rfl rfl (QV.call en96 (EvAll.cons rfl rfl (EvAll.cons rfl rfl EvAll.nil)) (fun w hw => have h := kernel_Time_w w hx59 ((Own.karr 0 rfl hk h_k__ops) w hw); h)) ?_
              refine WD.o 8 rfl (by kernel_rfl) rfl ?_
              refine (EV.buildSlice (by decide) sz_22 (by decide) (by decide) (ps := [(0, .tmp 100)]) (cells := [.int .i64 x58]) (EvAll.cons rfl rfl EvAll.nil) (by kernel_rfl) (fun b61 => ?_))
              refine WD.b (H' := [kn M w.heap.size K0 K0, blk b61 [.int .i64 x58] 3, blk b51 [.int .i64 ((ele l.body x54_1).op), .int .i64 0, .int .i64 0, .int .i64 0, .int .i64 0, .int .i64 ((ele l.body x54_1).ar), .int .i64 ((ele l.body x54_1).sp), .int .i64 ((ele l.body x54_1).pl), .int .i64 ((ele l.body x54_1).n)] 81, blk b50 [.int .i64 ((ele k_.ops (ele order x54_1)).slot), .int .i64 ((ele k_.ops (ele order x54_1)).stage), .int .i64 ((ele k_.ops (ele order x54_1)).op), .int .i64 ((ele k_.ops (ele order x54_1)).dest), .int .i64 ((ele k_.ops (ele order x54_1)).a), .int .i64 ((ele k_.ops (ele order x54_1)).b), .int .i64 ((ele k_.ops (ele order x54_1)).ar), .int .i64 ((ele k_.ops (ele order x54_1)).sp), .int .i64 ((ele k_.ops (ele order x54_1)).pl), .int .i64 ((ele k_.ops (ele order x54_1)).n)] 75, vec uv17_1 3 1 (List.map icell v17_1), vec uv16_1 3 1 (List.map icell v16_1), mapR b14 kI bv (mput m14n_1 (ele order x54_1) true), blk b13 [v_l_logs, v_l_body, v_l_outs, .int .i64 k_.pace, .int .i64 t.regs, uv15_1, uv16_1, uv17_1] 87, blk b3 [.int .i64 k_.pace, .int .i64 k_.stages, v_k__ops] 31, blk b2 [.int .i64 t.u0, .int .i64 t.u1, .int .i64 t.u2, .int .i64 t.w0, .int .i64 t.w1, .int .i64 t.w2, .int .i64 t.regs] 28, blk b1 [v_l_logs, v_l_body, v_l_outs] 25]) (fun w hw => hw.pick [11, 0, 1, 2, 3, 4, 6, 7, 8, 9, 10] (by decide)) (fun w hw => hw.pick [0, 2, 3, 4, 5, 6, 7, 8, 9, 10] (by decide)) ?_
              refine WD.o 9 rfl (by kernel_rfl) rfl ?_
              obtain ⟨c62, hm63⟩ := ck_some hm60; clear hm60
              refine (EV.appendL (enc := icell) (xs := v15_1) (ys := [x58]) ((v15_1 ++ [x58])) 5 (by decide) ve22 rfl rfl rfl rfl rfl (Own.blkArr 0 (rows := [x58].map icell) rfl rfl (rows_len icell_len)) icell_len (icell_one _) rfl c62.1 c62.2 (fun u64 hu65 => ?_))
              refine WD.b (H' := [kn M w.heap.size K0 K0, blk b61 [.int .i64 x58] 3, blk b51 [.int .i64 ((ele l.body x54_1).op), .int .i64 0, .int .i64 0, .int .i64 0, .int .i64 0, .int .i64 ((ele l.body x54_1).ar), .int .i64 ((ele l.body x54_1).sp), .int .i64 ((ele l.body x54_1).pl), .int .i64 ((ele l.body x54_1).n)] 81, blk b50 [.int .i64 ((ele k_.ops (ele order x54_1)).slot), .int .i64 ((ele k_.ops (ele order x54_1)).stage), .int .i64 ((ele k_.ops (ele order x54_1)).op), .int .i64 ((ele k_.ops (ele order x54_1)).dest), .int .i64 ((ele k_.ops (ele order x54_1)).a), .int .i64 ((ele k_.ops (ele order x54_1)).b), .int .i64 ((ele k_.ops (ele order x54_1)).ar), .int .i64 ((ele k_.ops (ele order x54_1)).sp), .int .i64 ((ele k_.ops (ele order x54_1)).pl), .int .i64 ((ele k_.ops (ele order x54_1)).n)] 75, vec uv17_1 3 1 (List.map icell v17_1), vec uv16_1 3 1 (List.map icell v16_1), vec u64 3 1 (List.map icell (v15_1 ++ [x58])), mapR b14 kI bv (mput m14n_1 (ele order x54_1) true), blk b13 [v_l_logs, v_l_body, v_l_outs, .int .i64 k_.pace, .int .i64 t.regs, uv15_1, uv16_1, uv17_1] 87, blk b3 [.int .i64 k_.pace, .int .i64 k_.stages, v_k__ops] 31, blk b2 [.int .i64 t.u0, .int .i64 t.u1, .int .i64 t.u2, .int .i64 t.w0, .int .i64 t.w1, .int .i64 t.w2, .int .i64 t.regs] 28, blk b1 [v_l_logs, v_l_body, v_l_outs] 25]) (fun w hw => hw.pick [11, 0, 1, 2, 3, 4, 5, 6, 7, 8, 9, 10] (by decide)) (fun w hw => hw.pick [0, 1, 2, 3, 4, 5, 7, 8, 9, 10, 11] (by decide)) ?_
              refine WD.q 10 rfl (by kernel_rfl) rfl rfl rfl (QV.nilCheck rfl rfl) ?_
              refine WD.q 11 rfl (by kernel_rfl) rfl rfl rfl (QV.fieldAddr fd87_3 rfl rfl) ?_
              refine WD.l 12 rfl (by kernel_rfl) rfl ?_
              refine (EV.store 7 rfl rfl rfl rfl rfl rfl (vs := [u64]) (SliceLen.cells hu65) sz22 (Nat.le_of_ble_eq_true rfl) (one_cons (SliceLen.one hu65) one_nil) ?_)
              refine WQ.then ?_
              refine WC.seq ?_
              refine WC.dr (m := 18) (S := Own M w [kn M w.heap.size K0 K0, blk b61 [.int .i64 x58] 3, blk b51 [.int .i64 ((ele l.body x54_1).op), .int .i64 0, .int .i64 0, .int .i64 0, .int .i64 0, .int .i64 ((ele l.body x54_1).ar), .int .i64 ((ele l.body x54_1).sp), .int .i64 ((ele l.body x54_1).pl), .int .i64 ((ele l.body x54_1).n)] 81, blk b50 [.int .i64 ((ele k_.ops (ele order x54_1)).slot), .int .i64 ((ele k_.ops (ele order x54_1)).stage), .int .i64 ((ele k_.ops (ele order x54_1)).op), .int .i64 ((ele k_.ops (ele order x54_1)).dest), .int .i64 ((ele k_.ops (ele order x54_1)).a), .int .i64 ((ele k_.ops (ele order x54_1)).b), .int .i64 ((ele k_.ops (ele order x54_1)).ar), .int .i64 ((ele k_.ops (ele order x54_1)).sp), .int .i64 ((ele k_.ops (ele order x54_1)).pl), .int .i64 ((ele k_.ops (ele order x54_1)).n)] 75, vec uv17_1 3 1 (List.map icell v17_1), vec u64 3 1 (List.map icell (v15_1 ++ [x58])), mapR b14 kI bv (mput m14n_1 (ele order x54_1) true), blk b13 [v_l_logs, v_l_body, v_l_outs, .int .i64 k_.pace, .int .i64 t.regs, u64, uv16_1, uv17_1] 87, blk b3 [.int .i64 k_.pace, .int .i64 k_.stages, v_k__ops] 31, blk b2 [.int .i64 t.u0, .int .i64 t.u1, .int .i64 t.u2, .int .i64 t.w0, .int .i64 t.w1, .int .i64 t.w2, .int .i64 t.regs] 28, blk b1 [v_l_logs, v_l_body, v_l_outs] 25]) (by kernel_rfl) (by kernel_rfl) (fun w hw => hw.pick [11, 0, 1, 2, 3, 5, 6, 7, 8, 9, 10] (by decide)) ?_
              refine WD.q 0 rfl (by kernel_rfl) rfl rfl rfl (QV.move rfl rfl) ?_
              refine WD.q 1 rfl (by kernel_rfl) rfl rfl rfl (QV.move rfl rfl) ?_
              refine WD.q 2 rfl (by kernel_rfl) rfl rfl rfl (QV.nilCheck rfl rfl) ?_
              refine WD.q 3 rfl (by kernel_rfl) rfl rfl rfl (QV.fieldAddr fd87_4 rfl rfl) ?_
              refine WD.q 4 rfl (by kernel_rfl) rfl rfl rfl (QV.load pl22 rfl rfl (Own.cell 7 rfl rfl)) ?_
              refine WD.q 5 rfl (by kernel_rfl) rfl rfl rfl (QV.loadAgg ag31 rfl rfl rfl (Own.cellsBlk 8 rfl)) ?_
              refine WD.q 6 rfl (by kernel_rfl) rfl rfl rfl (QV.loadAgg ag75 rfl rfl rfl (Own.cellsBlk 3 rfl)) ?_
              obtain ⟨x66, hx67, hm68⟩ := bd_some hm63; clear hm63
              refine WD.q 7 rfl (by kernel_rfl) rfl rfl rfl (QV.call en96 (EvAll.cons rfl rfl (EvAll.cons rfl rfl EvAll.nil)) (fun w hw => have h := kernel_Time_w w hx67 ((Own.karr 0 rfl hk h_k__ops) w hw); h)) ?_
              refine WD.q 8 rfl (by kernel_rfl) rfl rfl rfl (QV.loadAgg ag28 rfl rfl rfl (Own.cellsBlk 9 rfl)) ?_
              refine WD.q 9 rfl (by kernel_rfl) rfl rfl rfl (QV.fieldAddr fd75_2 rfl rfl) ?_
              refine WD.q 10 rfl (by kernel_rfl) rfl rfl rfl (QV.load pl3 rfl rfl (Own.cell 3 rfl rfl)) ?_
              obtain ⟨x69, hx70, hm71⟩ := bd_some hm68; clear hm68
              refine WD.q 11 rfl (by kernel_rfl) rfl rfl rfl (QV.call en69 (EvAll.cons rfl rfl (EvAll.cons rfl rfl EvAll.nil)) (fun w hw => have h := target_Wait_w w hx70 ; h)) ?_
              obtain ⟨c72, hm73⟩ := ck_some hm71; clear hm71
              refine WD.q 12 rfl (by kernel_rfl) rfl rfl rfl (QV.add rfl rfl rfl rfl c72) ?_
              refine WD.o 13 rfl (by kernel_rfl) rfl ?_
              refine (EV.buildSlice (by decide) sz_22 (by decide) (by decide) (ps := [(0, .tmp 117)]) (cells := [.int .i64 (x66 + x69)]) (EvAll.cons rfl rfl EvAll.nil) (by kernel_rfl) (fun b74 => ?_))
              refine WD.b (H' := [kn M w.heap.size K0 K0, blk b74 [.int .i64 (x66 + x69)] 3, blk b61 [.int .i64 x58] 3, blk b51 [.int .i64 ((ele l.body x54_1).op), .int .i64 0, .int .i64 0, .int .i64 0, .int .i64 0, .int .i64 ((ele l.body x54_1).ar), .int .i64 ((ele l.body x54_1).sp), .int .i64 ((ele l.body x54_1).pl), .int .i64 ((ele l.body x54_1).n)] 81, blk b50 [.int .i64 ((ele k_.ops (ele order x54_1)).slot), .int .i64 ((ele k_.ops (ele order x54_1)).stage), .int .i64 ((ele k_.ops (ele order x54_1)).op), .int .i64 ((ele k_.ops (ele order x54_1)).dest), .int .i64 ((ele k_.ops (ele order x54_1)).a), .int .i64 ((ele k_.ops (ele order x54_1)).b), .int .i64 ((ele k_.ops (ele order x54_1)).ar), .int .i64 ((ele k_.ops (ele order x54_1)).sp), .int .i64 ((ele k_.ops (ele order x54_1)).pl), .int .i64 ((ele k_.ops (ele order x54_1)).n)] 75, vec uv17_1 3 1 (List.map icell v17_1), vec u64 3 1 (List.map icell (v15_1 ++ [x58])), mapR b14 kI bv (mput m14n_1 (ele order x54_1) true), blk b13 [v_l_logs, v_l_body, v_l_outs, .int .i64 k_.pace, .int .i64 t.regs, u64, uv16_1, uv17_1] 87, blk b3 [.int .i64 k_.pace, .int .i64 k_.stages, v_k__ops] 31, blk b2 [.int .i64 t.u0, .int .i64 t.u1, .int .i64 t.u2, .int .i64 t.w0, .int .i64 t.w1, .int .i64 t.w2, .int .i64 t.regs] 28, blk b1 [v_l_logs, v_l_body, v_l_outs] 25]) (fun w hw => hw.pick [12, 0, 1, 2, 3, 4, 6, 7, 8, 9, 10, 11] (by decide)) (fun w hw => hw.pick [0, 2, 3, 4, 5, 6, 7, 8, 9, 10, 11] (by decide)) ?_
              refine WD.o 14 rfl (by kernel_rfl) rfl ?_
              obtain ⟨c75, hm76⟩ := ck_some hm73; clear hm73
              refine (EV.appendL (enc := icell) (xs := v16_1) (ys := [(x66 + x69)]) ((v16_1 ++ [(x66 + x69)])) 5 (by decide) ve22 rfl rfl rfl rfl rfl (Own.blkArr 0 (rows := [(x66 + x69)].map icell) rfl rfl (rows_len icell_len)) icell_len (icell_one _) rfl c75.1 c75.2 (fun u77 hu78 => ?_))
              refine WD.b (H' := [kn M w.heap.size K0 K0, blk b74 [.int .i64 (x66 + x69)] 3, blk b61 [.int .i64 x58] 3, blk b51 [.int .i64 ((ele l.body x54_1).op), .int .i64 0, .int .i64 0, .int .i64 0, .int .i64 0, .int .i64 ((ele l.body x54_1).ar), .int .i64 ((ele l.body x54_1).sp), .int .i64 ((ele l.body x54_1).pl), .int .i64 ((ele l.body x54_1).n)] 81, blk b50 [.int .i64 ((ele k_.ops (ele order x54_1)).slot), .int .i64 ((ele k_.ops (ele order x54_1)).stage), .int .i64 ((ele k_.ops (ele order x54_1)).op), .int .i64 ((ele k_.ops (ele order x54_1)).dest), .int .i64 ((ele k_.ops (ele order x54_1)).a), .int .i64 ((ele k_.ops (ele order x54_1)).b), .int .i64 ((ele k_.ops (ele order x54_1)).ar), .int .i64 ((ele k_.ops (ele order x54_1)).sp), .int .i64 ((ele k_.ops (ele order x54_1)).pl), .int .i64 ((ele k_.ops (ele order x54_1)).n)] 75, vec uv17_1 3 1 (List.map icell v17_1), vec u77 3 1 (List.map icell (v16_1 ++ [(x66 + x69)])), vec u64 3 1 (List.map icell (v15_1 ++ [x58])), mapR b14 kI bv (mput m14n_1 (ele order x54_1) true), blk b13 [v_l_logs, v_l_body, v_l_outs, .int .i64 k_.pace, .int .i64 t.regs, u64, uv16_1, uv17_1] 87, blk b3 [.int .i64 k_.pace, .int .i64 k_.stages, v_k__ops] 31, blk b2 [.int .i64 t.u0, .int .i64 t.u1, .int .i64 t.u2, .int .i64 t.w0, .int .i64 t.w1, .int .i64 t.w2, .int .i64 t.regs] 28, blk b1 [v_l_logs, v_l_body, v_l_outs] 25]) (fun w hw => hw.pick [12, 0, 1, 2, 3, 4, 5, 6, 7, 8, 9, 10, 11] (by decide)) (fun w hw => hw.pick [0, 1, 2, 3, 4, 5, 7, 8, 9, 10, 11, 12] (by decide)) ?_
              refine WD.q 15 rfl (by kernel_rfl) rfl rfl rfl (QV.nilCheck rfl rfl) ?_
              refine WD.q 16 rfl (by kernel_rfl) rfl rfl rfl (QV.fieldAddr fd87_4 rfl rfl) ?_
              refine WD.l 17 rfl (by kernel_rfl) rfl ?_
              refine (EV.store 8 rfl rfl rfl rfl rfl rfl (vs := [u77]) (SliceLen.cells hu78) sz22 (Nat.le_of_ble_eq_true rfl) (one_cons (SliceLen.one hu78) one_nil) ?_)
              refine WQ.then ?_
              refine WC.dr (m := 15) (S := Own M w [kn M w.heap.size K0 K0, blk b74 [.int .i64 (x66 + x69)] 3, blk b61 [.int .i64 x58] 3, blk b51 [.int .i64 ((ele l.body x54_1).op), .int .i64 0, .int .i64 0, .int .i64 0, .int .i64 0, .int .i64 ((ele l.body x54_1).ar), .int .i64 ((ele l.body x54_1).sp), .int .i64 ((ele l.body x54_1).pl), .int .i64 ((ele l.body x54_1).n)] 81, blk b50 [.int .i64 ((ele k_.ops (ele order x54_1)).slot), .int .i64 ((ele k_.ops (ele order x54_1)).stage), .int .i64 ((ele k_.ops (ele order x54_1)).op), .int .i64 ((ele k_.ops (ele order x54_1)).dest), .int .i64 ((ele k_.ops (ele order x54_1)).a), .int .i64 ((ele k_.ops (ele order x54_1)).b), .int .i64 ((ele k_.ops (ele order x54_1)).ar), .int .i64 ((ele k_.ops (ele order x54_1)).sp), .int .i64 ((ele k_.ops (ele order x54_1)).pl), .int .i64 ((ele k_.ops (ele order x54_1)).n)] 75, vec u77 3 1 (List.map icell (v16_1 ++ [(x66 + x69)])), vec u64 3 1 (List.map icell (v15_1 ++ [x58])), mapR b14 kI bv (mput m14n_1 (ele order x54_1) true), blk b13 [v_l_logs, v_l_body, v_l_outs, .int .i64 k_.pace, .int .i64 t.regs, u64, u77, uv17_1] 87, blk b3 [.int .i64 k_.pace, .int .i64 k_.stages, v_k__ops] 31, blk b2 [.int .i64 t.u0, .int .i64 t.u1, .int .i64 t.u2, .int .i64 t.w0, .int .i64 t.w1, .int .i64 t.w2, .int .i64 t.regs] 28, blk b1 [v_l_logs, v_l_body, v_l_outs] 25]) (by kernel_rfl) (by kernel_rfl) (fun w hw => hw.pick [12, 0, 1, 2, 3, 5, 6, 7, 8, 9, 10, 11] (by decide)) ?_
              refine WD.q 0 rfl (by kernel_rfl) rfl rfl rfl (QV.move rfl rfl) ?_
              refine WD.q 1 rfl (by kernel_rfl) rfl rfl rfl (QV.move rfl rfl) ?_
              refine WD.q 2 rfl (by kernel_rfl) rfl rfl rfl (QV.nilCheck rfl rfl) ?_
              refine WD.q 3 rfl (by kernel_rfl) rfl rfl rfl (QV.fieldAddr fd87_5 rfl rfl) ?_
              refine WD.q 4 rfl (by kernel_rfl) rfl rfl rfl (QV.load pl22 rfl rfl (Own.cell 8 rfl rfl)) ?_
              refine WD.q 5 rfl (by kernel_rfl) rfl rfl rfl (QV.fieldAddr fd75_3 rfl rfl) ?_
              refine WD.q 6 rfl (by kernel_rfl) rfl rfl rfl (QV.load pl3 rfl rfl (Own.cell 4 rfl rfl)) ?_
              refine WD.q 7 rfl (by kernel_rfl) rfl rfl rfl (QV.fieldAddr fd75_1 rfl rfl) ?_
              refine WD.q 8 rfl (by kernel_rfl) rfl rfl rfl (QV.load pl3 rfl rfl (Own.cell 4 rfl rfl)) ?_
              obtain ⟨c79, hm80⟩ := ck_some hm76; clear hm76
              refine WD.q 9 rfl (by kernel_rfl) rfl rfl rfl (QV.add rfl rfl rfl rfl c79) ?_
              refine WD.o 10 rfl (by kernel_rfl) rfl ?_
              refine (EV.buildSlice (by decide) sz_22 (by decide) (by decide) (ps := [(0, .tmp 131)]) (cells := [.int .i64 ((ele k_.ops (ele order x54_1)).dest + (ele k_.ops (ele order x54_1)).stage)]) (EvAll.cons rfl rfl EvAll.nil) (by kernel_rfl) (fun b81 => ?_))
              refine WD.b (H' := [kn M w.heap.size K0 K0, blk b81 [.int .i64 ((ele k_.ops (ele order x54_1)).dest + (ele k_.ops (ele order x54_1)).stage)] 3, blk b74 [.int .i64 (x66 + x69)] 3, blk b61 [.int .i64 x58] 3, blk b51 [.int .i64 ((ele l.body x54_1).op), .int .i64 0, .int .i64 0, .int .i64 0, .int .i64 0, .int .i64 ((ele l.body x54_1).ar), .int .i64 ((ele l.body x54_1).sp), .int .i64 ((ele l.body x54_1).pl), .int .i64 ((ele l.body x54_1).n)] 81, blk b50 [.int .i64 ((ele k_.ops (ele order x54_1)).slot), .int .i64 ((ele k_.ops (ele order x54_1)).stage), .int .i64 ((ele k_.ops (ele order x54_1)).op), .int .i64 ((ele k_.ops (ele order x54_1)).dest), .int .i64 ((ele k_.ops (ele order x54_1)).a), .int .i64 ((ele k_.ops (ele order x54_1)).b), .int .i64 ((ele k_.ops (ele order x54_1)).ar), .int .i64 ((ele k_.ops (ele order x54_1)).sp), .int .i64 ((ele k_.ops (ele order x54_1)).pl), .int .i64 ((ele k_.ops (ele order x54_1)).n)] 75, vec u77 3 1 (List.map icell (v16_1 ++ [(x66 + x69)])), vec u64 3 1 (List.map icell (v15_1 ++ [x58])), mapR b14 kI bv (mput m14n_1 (ele order x54_1) true), blk b13 [v_l_logs, v_l_body, v_l_outs, .int .i64 k_.pace, .int .i64 t.regs, u64, u77, uv17_1] 87, blk b3 [.int .i64 k_.pace, .int .i64 k_.stages, v_k__ops] 31, blk b2 [.int .i64 t.u0, .int .i64 t.u1, .int .i64 t.u2, .int .i64 t.w0, .int .i64 t.w1, .int .i64 t.w2, .int .i64 t.regs] 28, blk b1 [v_l_logs, v_l_body, v_l_outs] 25]) (fun w hw => hw.pick [13, 0, 1, 2, 3, 4, 6, 7, 8, 9, 10, 11, 12] (by decide)) (fun w hw => hw.pick [0, 2, 3, 4, 5, 6, 7, 8, 9, 10, 11, 12] (by decide)) ?_
              refine WD.o 11 rfl (by kernel_rfl) rfl ?_
              obtain ⟨c82, hm83⟩ := ck_some hm80; clear hm80
              refine (EV.appendL (enc := icell) (xs := v17_1) (ys := [((ele k_.ops (ele order x54_1)).dest + (ele k_.ops (ele order x54_1)).stage)]) ((v17_1 ++ [((ele k_.ops (ele order x54_1)).dest + (ele k_.ops (ele order x54_1)).stage)])) 5 (by decide) ve22 rfl rfl rfl rfl rfl (Own.blkArr 0 (rows := [((ele k_.ops (ele order x54_1)).dest + (ele k_.ops (ele order x54_1)).stage)].map icell) rfl rfl (rows_len icell_len)) icell_len (icell_one _) rfl c82.1 c82.2 (fun u84 hu85 => ?_))
              refine WD.b (H' := [kn M w.heap.size K0 K0, blk b81 [.int .i64 ((ele k_.ops (ele order x54_1)).dest + (ele k_.ops (ele order x54_1)).stage)] 3, blk b74 [.int .i64 (x66 + x69)] 3, blk b61 [.int .i64 x58] 3, blk b51 [.int .i64 ((ele l.body x54_1).op), .int .i64 0, .int .i64 0, .int .i64 0, .int .i64 0, .int .i64 ((ele l.body x54_1).ar), .int .i64 ((ele l.body x54_1).sp), .int .i64 ((ele l.body x54_1).pl), .int .i64 ((ele l.body x54_1).n)] 81, blk b50 [.int .i64 ((ele k_.ops (ele order x54_1)).slot), .int .i64 ((ele k_.ops (ele order x54_1)).stage), .int .i64 ((ele k_.ops (ele order x54_1)).op), .int .i64 ((ele k_.ops (ele order x54_1)).dest), .int .i64 ((ele k_.ops (ele order x54_1)).a), .int .i64 ((ele k_.ops (ele order x54_1)).b), .int .i64 ((ele k_.ops (ele order x54_1)).ar), .int .i64 ((ele k_.ops (ele order x54_1)).sp), .int .i64 ((ele k_.ops (ele order x54_1)).pl), .int .i64 ((ele k_.ops (ele order x54_1)).n)] 75, vec u84 3 1 (List.map icell (v17_1 ++ [((ele k_.ops (ele order x54_1)).dest + (ele k_.ops (ele order x54_1)).stage)])), vec u77 3 1 (List.map icell (v16_1 ++ [(x66 + x69)])), vec u64 3 1 (List.map icell (v15_1 ++ [x58])), mapR b14 kI bv (mput m14n_1 (ele order x54_1) true), blk b13 [v_l_logs, v_l_body, v_l_outs, .int .i64 k_.pace, .int .i64 t.regs, u64, u77, uv17_1] 87, blk b3 [.int .i64 k_.pace, .int .i64 k_.stages, v_k__ops] 31, blk b2 [.int .i64 t.u0, .int .i64 t.u1, .int .i64 t.u2, .int .i64 t.w0, .int .i64 t.w1, .int .i64 t.w2, .int .i64 t.regs] 28, blk b1 [v_l_logs, v_l_body, v_l_outs] 25]) (fun w hw => hw.pick [13, 0, 1, 2, 3, 4, 5, 6, 7, 8, 9, 10, 11, 12] (by decide)) (fun w hw => hw.pick [0, 1, 2, 3, 4, 5, 7, 8, 9, 10, 11, 12, 13] (by decide)) ?_
              refine WD.q 12 rfl (by kernel_rfl) rfl rfl rfl (QV.nilCheck rfl rfl) ?_
              refine WD.q 13 rfl (by kernel_rfl) rfl rfl rfl (QV.fieldAddr fd87_5 rfl rfl) ?_
              refine WD.l 14 rfl (by kernel_rfl) rfl ?_
              refine (EV.store 9 rfl rfl rfl rfl rfl rfl (vs := [u84]) (SliceLen.cells hu85) sz22 (Nat.le_of_ble_eq_true rfl) (one_cons (SliceLen.one hu85) one_nil) ?_)
              refine WQ.block ?_
              refine WQ.then ?_
              refine WC.region ?_
              obtain ⟨c86, hm87⟩ := ck_some hm83; clear hm83
              refine WL.q rfl rfl rfl (QV.add rfl rfl rfl rfl c86) ?_
              refine WL.q rfl rfl rfl (QV.move rfl rfl) ?_
              refine WL.nil ?_
              exact WQ.again8 (v17_1 ++ [((ele k_.ops (ele order x54_1)).dest + (ele k_.ops (ele order x54_1)).stage)]) (v16_1 ++ [(x66 + x69)]) (v15_1 ++ [x58]) (mput m14n_1 (ele order x54_1) true) (x54_1 + 1) u84 u77 u64 m29 ⟨up_next hm87 hn32, hu85, hu78, hu65⟩ (Nat.lt_succ_self _) ⟨rfl, rfl, rfl, rfl, rfl, rfl, rfl, rfl, trivial⟩ (fun w hw => hw.pick [5, 6, 7, 8, 9, 10, 11, 12, 13] (by decide))
          · skip
            refine WD.two 10 11 1023 2047 3071 (by kernel_rfl) rfl rfl rfl rfl (by kernel_rfl) (by kernel_rfl) ?_ ?_
            · skip
              refine (EV.alloc (by decide) ze75 (fun b88 => ?_))
              refine WD.b (H' := [kn M w.heap.size K0 K0, vec uv17_1 3 1 (List.map icell v17_1), vec uv16_1 3 1 (List.map icell v16_1), vec uv15_1 3 1 (List.map icell v15_1), mapR b14 kI bv (mput m14n_1 (ele order x54_1) true), blk b13 [v_l_logs, v_l_body, v_l_outs, .int .i64 k_.pace, .int .i64 t.regs, uv15_1, uv16_1, uv17_1] 87, blk b3 [.int .i64 k_.pace, .int .i64 k_.stages, v_k__ops] 31, blk b2 [.int .i64 t.u0, .int .i64 t.u1, .int .i64 t.u2, .int .i64 t.w0, .int .i64 t.w1, .int .i64 t.w2, .int .i64 t.regs] 28, blk b1 [v_l_logs, v_l_body, v_l_outs] 25]) (fun w hw => hw.pick [9, 1, 2, 3, 4, 5, 6, 7, 8] (by decide)) (fun w hw => hw) ?_
              refine WD.oL 11 2047 4095 rfl (by kernel_rfl) rfl ?_
              refine (EV.alloc (by decide) ze81 (fun b89 => ?_))
              refine WD.b (H' := [kn M w.heap.size K0 K0, vec uv17_1 3 1 (List.map icell v17_1), vec uv16_1 3 1 (List.map icell v16_1), vec uv15_1 3 1 (List.map icell v15_1), mapR b14 kI bv (mput m14n_1 (ele order x54_1) true), blk b13 [v_l_logs, v_l_body, v_l_outs, .int .i64 k_.pace, .int .i64 t.regs, uv15_1, uv16_1, uv17_1] 87, blk b3 [.int .i64 k_.pace, .int .i64 k_.stages, v_k__ops] 31, blk b2 [.int .i64 t.u0, .int .i64 t.u1, .int .i64 t.u2, .int .i64 t.w0, .int .i64 t.w1, .int .i64 t.w2, .int .i64 t.regs] 28, blk b1 [v_l_logs, v_l_body, v_l_outs] 25]) (fun w hw => hw.pick [10, 2, 3, 4, 5, 6, 7, 8, 9] (by decide)) (fun w hw => hw) ?_
              refine WD.oL 12 4095 8191 rfl (by kernel_rfl) rfl ?_
              refine (EV.store 1 rfl rfl rfl rfl rfl rfl (vs := [.int .i64 ((ele k_.ops (ele order x54_1)).slot), .int .i64 ((ele k_.ops (ele order x54_1)).stage), .int .i64 ((ele k_.ops (ele order x54_1)).op), .int .i64 ((ele k_.ops (ele order x54_1)).dest), .int .i64 ((ele k_.ops (ele order x54_1)).a), .int .i64 ((ele k_.ops (ele order x54_1)).b), .int .i64 ((ele k_.ops (ele order x54_1)).ar), .int .i64 ((ele k_.ops (ele order x54_1)).sp), .int .i64 ((ele k_.ops (ele order x54_1)).pl), .int .i64 ((ele k_.ops (ele order x54_1)).n)]) (show Value.cells _ = List.toArray _ from rfl) sz75 (Nat.le_of_ble_eq_true rfl) (one_cons rfl (one_cons rfl (one_cons rfl (one_cons rfl (one_cons rfl (one_cons rfl (one_cons rfl (one_cons rfl (one_cons rfl (one_cons rfl one_nil)))))))))) ?_)
              refine WD.b (H' := [kn M w.heap.size K0 K0, vec uv17_1 3 1 (List.map icell v17_1), vec uv16_1 3 1 (List.map icell v16_1), vec uv15_1 3 1 (List.map icell v15_1), mapR b14 kI bv (mput m14n_1 (ele order x54_1) true), blk b13 [v_l_logs, v_l_body, v_l_outs, .int .i64 k_.pace, .int .i64 t.regs, uv15_1, uv16_1, uv17_1] 87, blk b3 [.int .i64 k_.pace, .int .i64 k_.stages, v_k__ops] 31, blk b2 [.int .i64 t.u0, .int .i64 t.u1, .int .i64 t.u2, .int .i64 t.w0, .int .i64 t.w1, .int .i64 t.w2, .int .i64 t.regs] 28, blk b1 [v_l_logs, v_l_body, v_l_outs] 25]) (fun w hw => hw.pick [10, 2, 3, 4, 5, 6, 7, 8, 9] (by decide)) (fun w hw => hw) ?_
              refine WD.oL 13 8191 16383 rfl (by kernel_rfl) rfl ?_
              refine (EV.store 0 rfl rfl rfl rfl rfl rfl (vs := [.int .i64 ((ele l.body x54_1).op), .int .i64 (((ele l.body x54_1).a).st), .int .i64 (((ele l.body x54_1).a).bk), .int .i64 (((ele l.body x54_1).b).st), .int .i64 (((ele l.body x54_1).b).bk), .int .i64 ((ele l.body x54_1).ar), .int .i64 ((ele l.body x54_1).sp), .int .i64 ((ele l.body x54_1).pl), .int .i64 ((ele l.body x54_1).n)]) (show Value.cells _ = List.toArray _ from rfl) sz81 (Nat.le_of_ble_eq_true rfl) (one_cons rfl (one_cons rfl (one_cons rfl (one_cons rfl (one_cons rfl (one_cons rfl (one_cons rfl (one_cons rfl (one_cons rfl one_nil))))))))) ?_)
              refine WD.b (H' := [kn M w.heap.size K0 K0, vec uv17_1 3 1 (List.map icell v17_1), vec uv16_1 3 1 (List.map icell v16_1), vec uv15_1 3 1 (List.map icell v15_1), mapR b14 kI bv (mput m14n_1 (ele order x54_1) true), blk b13 [v_l_logs, v_l_body, v_l_outs, .int .i64 k_.pace, .int .i64 t.regs, uv15_1, uv16_1, uv17_1] 87, blk b3 [.int .i64 k_.pace, .int .i64 k_.stages, v_k__ops] 31, blk b2 [.int .i64 t.u0, .int .i64 t.u1, .int .i64 t.u2, .int .i64 t.w0, .int .i64 t.w1, .int .i64 t.w2, .int .i64 t.regs] 28, blk b1 [v_l_logs, v_l_body, v_l_outs] 25]) (fun w hw => hw.pick [10, 2, 3, 4, 5, 6, 7, 8, 9] (by decide)) (fun w hw => hw) ?_
              refine WD.eL (by kernel_rfl) ?_
              exact WQ.cutEnd2 b88 b89 ⟨rfl, rfl, rfl, rfl, rfl, rfl, rfl, rfl, rfl, rfl, trivial⟩ (fun w hw => hw.pick [0, 1, 2, 3, 4, 5, 6, 7, 8, 9, 10] (by decide))
            · skip
              refine (EV.alloc (by decide) ze81 (fun b90 => ?_))
              refine WD.b (H' := [kn M w.heap.size K0 K0, vec uv17_1 3 1 (List.map icell v17_1), vec uv16_1 3 1 (List.map icell v16_1), vec uv15_1 3 1 (List.map icell v15_1), mapR b14 kI bv (mput m14n_1 (ele order x54_1) true), blk b13 [v_l_logs, v_l_body, v_l_outs, .int .i64 k_.pace, .int .i64 t.regs, uv15_1, uv16_1, uv17_1] 87, blk b3 [.int .i64 k_.pace, .int .i64 k_.stages, v_k__ops] 31, blk b2 [.int .i64 t.u0, .int .i64 t.u1, .int .i64 t.u2, .int .i64 t.w0, .int .i64 t.w1, .int .i64 t.w2, .int .i64 t.regs] 28, blk b1 [v_l_logs, v_l_body, v_l_outs] 25]) (fun w hw => hw.pick [9, 1, 2, 3, 4, 5, 6, 7, 8] (by decide)) (fun w hw => hw) ?_
              refine WD.oL 10 3071 4095 rfl (by kernel_rfl) rfl ?_
              refine (EV.alloc (by decide) ze75 (fun b91 => ?_))
              refine WD.b (H' := [kn M w.heap.size K0 K0, vec uv17_1 3 1 (List.map icell v17_1), vec uv16_1 3 1 (List.map icell v16_1), vec uv15_1 3 1 (List.map icell v15_1), mapR b14 kI bv (mput m14n_1 (ele order x54_1) true), blk b13 [v_l_logs, v_l_body, v_l_outs, .int .i64 k_.pace, .int .i64 t.regs, uv15_1, uv16_1, uv17_1] 87, blk b3 [.int .i64 k_.pace, .int .i64 k_.stages, v_k__ops] 31, blk b2 [.int .i64 t.u0, .int .i64 t.u1, .int .i64 t.u2, .int .i64 t.w0, .int .i64 t.w1, .int .i64 t.w2, .int .i64 t.regs] 28, blk b1 [v_l_logs, v_l_body, v_l_outs] 25]) (fun w hw => hw.pick [10, 2, 3, 4, 5, 6, 7, 8, 9] (by decide)) (fun w hw => hw) ?_
              refine WD.oL 12 4095 8191 rfl (by kernel_rfl) rfl ?_
              refine (EV.store 0 rfl rfl rfl rfl rfl rfl (vs := [.int .i64 ((ele k_.ops (ele order x54_1)).slot), .int .i64 ((ele k_.ops (ele order x54_1)).stage), .int .i64 ((ele k_.ops (ele order x54_1)).op), .int .i64 ((ele k_.ops (ele order x54_1)).dest), .int .i64 ((ele k_.ops (ele order x54_1)).a), .int .i64 ((ele k_.ops (ele order x54_1)).b), .int .i64 ((ele k_.ops (ele order x54_1)).ar), .int .i64 ((ele k_.ops (ele order x54_1)).sp), .int .i64 ((ele k_.ops (ele order x54_1)).pl), .int .i64 ((ele k_.ops (ele order x54_1)).n)]) (show Value.cells _ = List.toArray _ from rfl) sz75 (Nat.le_of_ble_eq_true rfl) (one_cons rfl (one_cons rfl (one_cons rfl (one_cons rfl (one_cons rfl (one_cons rfl (one_cons rfl (one_cons rfl (one_cons rfl (one_cons rfl one_nil)))))))))) ?_)
              refine WD.b (H' := [kn M w.heap.size K0 K0, vec uv17_1 3 1 (List.map icell v17_1), vec uv16_1 3 1 (List.map icell v16_1), vec uv15_1 3 1 (List.map icell v15_1), mapR b14 kI bv (mput m14n_1 (ele order x54_1) true), blk b13 [v_l_logs, v_l_body, v_l_outs, .int .i64 k_.pace, .int .i64 t.regs, uv15_1, uv16_1, uv17_1] 87, blk b3 [.int .i64 k_.pace, .int .i64 k_.stages, v_k__ops] 31, blk b2 [.int .i64 t.u0, .int .i64 t.u1, .int .i64 t.u2, .int .i64 t.w0, .int .i64 t.w1, .int .i64 t.w2, .int .i64 t.regs] 28, blk b1 [v_l_logs, v_l_body, v_l_outs] 25]) (fun w hw => hw.pick [10, 2, 3, 4, 5, 6, 7, 8, 9] (by decide)) (fun w hw => hw) ?_
              refine WD.oL 13 8191 16383 rfl (by kernel_rfl) rfl ?_
              refine (EV.store 1 rfl rfl rfl rfl rfl rfl (vs := [.int .i64 ((ele l.body x54_1).op), .int .i64 (((ele l.body x54_1).a).st), .int .i64 (((ele l.body x54_1).a).bk), .int .i64 (((ele l.body x54_1).b).st), .int .i64 (((ele l.body x54_1).b).bk), .int .i64 ((ele l.body x54_1).ar), .int .i64 ((ele l.body x54_1).sp), .int .i64 ((ele l.body x54_1).pl), .int .i64 ((ele l.body x54_1).n)]) (show Value.cells _ = List.toArray _ from rfl) sz81 (Nat.le_of_ble_eq_true rfl) (one_cons rfl (one_cons rfl (one_cons rfl (one_cons rfl (one_cons rfl (one_cons rfl (one_cons rfl (one_cons rfl (one_cons rfl one_nil))))))))) ?_)
              refine WD.b (H' := [kn M w.heap.size K0 K0, vec uv17_1 3 1 (List.map icell v17_1), vec uv16_1 3 1 (List.map icell v16_1), vec uv15_1 3 1 (List.map icell v15_1), mapR b14 kI bv (mput m14n_1 (ele order x54_1) true), blk b13 [v_l_logs, v_l_body, v_l_outs, .int .i64 k_.pace, .int .i64 t.regs, uv15_1, uv16_1, uv17_1] 87, blk b3 [.int .i64 k_.pace, .int .i64 k_.stages, v_k__ops] 31, blk b2 [.int .i64 t.u0, .int .i64 t.u1, .int .i64 t.u2, .int .i64 t.w0, .int .i64 t.w1, .int .i64 t.w2, .int .i64 t.regs] 28, blk b1 [v_l_logs, v_l_body, v_l_outs] 25]) (fun w hw => hw.pick [10, 2, 3, 4, 5, 6, 7, 8, 9] (by decide)) (fun w hw => hw) ?_
              refine WD.eL (by kernel_rfl) ?_
              exact WQ.cutEnd2 b91 b90 ⟨rfl, rfl, rfl, rfl, rfl, rfl, rfl, rfl, rfl, rfl, trivial⟩ (fun w hw => hw.pick [1, 0, 2, 3, 4, 5, 6, 7, 8, 9, 10] (by decide))
      · skip
        have hm92 := br_f h33 hm31; clear hm31
        refine WC.exit ?_
        refine WQ.then_exit ?_
        refine WQ.then_exit ?_
        refine WQ.block_exit ?_
        exact WQ.out8 v17_1 v16_1 v15_1 m14n_1 x54_1 uv17_1 uv16_1 uv15_1 ⟨up_brk hm92 hn32, hlv17_1, hlv16_1, hlv15_1⟩ ⟨rfl, rfl, rfl, rfl, rfl, rfl, rfl, rfl, trivial⟩ (fun w hw => hw.pick [0, 1, 2, 3, 4, 5, 6, 7, 8] (by decide))

set_option maxRecDepth 8000 in
theorem check_named_w {v_l_logs : Value} {v_l_body : Value} {v_l_outs : Value} {v_k__ops : Value} {v_order : Value} {p_y : Addr} {v_y_Loop_Logs : Value} {v_y_Loop_Body : Value} {v_y_Loop_Outs : Value} {v_y_Time : Value} {v_y_Ready : Value} {v_y_Places : Value} {l : Lp} {t : Tgt} {k_ : Krn} {order : List Int} {y_Pace : Int} {y_Regs : Int} {y_Places : List Int} {r : Bool} (w : World) (hm : check_named_m l t k_ order y_Pace y_Regs y_Places = some r) (h_l_logs : Arr w v_l_logs 1 (l.logs.map icell)) (h_l_body : Arr w v_l_body 9 (l.body.map Stm.cells)) (h_l_outs : Arr w v_l_outs 1 (l.outs.map icell)) (h_k__ops : Arr w v_k__ops 10 (k_.ops.map Opr.cells)) (h_order : Arr w v_order 1 (order.map icell)) (h_y_Places : Arr w v_y_Places 1 (y_Places.map icell)) (hp_y : CellsAt w p_y [v_y_Loop_Logs, v_y_Loop_Body, v_y_Loop_Outs, .int .i64 y_Pace, .int .i64 y_Regs, v_y_Time, v_y_Ready, v_y_Places] 0) : Calls Try.prog 61 #[.agg #[v_l_logs, v_l_body, v_l_outs], .agg #[.int .i64 t.u0, .int .i64 t.u1, .int .i64 t.u2, .int .i64 t.w0, .int .i64 t.w1, .int .i64 t.w2, .int .i64 t.regs], .agg #[.int .i64 k_.pace, .int .i64 k_.stages, v_k__ops], v_order, .pointer (some p_y)] w (fun e w' => e = .returned (.bool r) ∧ Grow w w') := by
  unfold check_named_m at hm
  have hk := Base.rfl (w := w)
  refine calls_of_WC (n := 67) (args := [.agg #[v_l_logs, v_l_body, v_l_outs], .agg #[.int .i64 t.u0, .int .i64 t.u1, .int .i64 t.u2, .int .i64 t.w0, .int .i64 t.w1, .int .i64 t.w2, .int .i64 t.regs], .agg #[.int .i64 k_.pace, .int .i64 k_.stages, v_k__ops], v_order, .pointer (some p_y)]) Try.func61 rfl rfl (Nat.le_of_ble_eq_true rfl) ?_ (Own.startK hk (Own.start w))
  refine WC.seq ?_
  refine WC.region ?_
  refine WL.effect rfl ?_
  refine (EV.boxAgg (by decide) rfl rfl (fun b1 => ?_))
  refine WL.effect rfl ?_
  refine (EV.boxAgg (by decide) rfl rfl (fun b2 => ?_))
  refine WL.effect rfl ?_
  refine (EV.boxAgg (by decide) rfl rfl (fun b3 => ?_))
  refine WL.q rfl rfl rfl (QV.assign rfl rfl) ?_
  refine WL.nil ?_
  refine WQ.then ?_
  refine WC.seq ?_
  refine WC.seq ?_
  refine WC.region ?_
  refine WL.q rfl rfl rfl (QV.fieldAddr fd25_1 rfl rfl) ?_
  refine WL.q rfl rfl rfl (QV.load pl23 rfl rfl (Own.cell 2 rfl rfl)) ?_
  refine WL.q rfl rfl rfl (QV.lenS Try.underlying23 rfl rfl h_l_body.lenMap) ?_
  refine WL.q rfl rfl rfl (QV.move rfl rfl) ?_
  refine WL.nil ?_
  refine WQ.then ?_
  obtain ⟨o4, ho5, hm6⟩ := bd_some hm; clear hm; obtain ⟨n7, ho8⟩ := lp_some ho5
  refine WC.bloop2 (H2 := [blk b3 [.int .i64 k_.pace, .int .i64 k_.stages, v_k__ops] 31, blk b2 [.int .i64 t.u0, .int .i64 t.u1, .int .i64 t.u2, .int .i64 t.w0, .int .i64 t.w1, .int .i64 t.w2, .int .i64 t.regs] 28, blk b1 [v_l_logs, v_l_body, v_l_outs] 25]) (τ := [(3, (true, _)), (4, (true, _)), (6, (true, _)), (7, (true, _)), (17, (true, _)), (18, (true, _))]) (fun (x19_3 : Int) (k_3 : World) => [(19, (true, .int .i64 x19_3))]) (fun (x19_3 : Int) (k_3 : World) => [kn noM w.heap.size w k_3]) (fun (x19_3 : Int) (k_3 : World) (m : Nat) => iter (check_named_L0 l t k_ order y_Places) m x19_3 = some o4 ∧ Le w k_3) (fun (x19_3 : Int) (k_3 : World) => o4 = .go x19_3 ∧ Le w k_3) 0 w n7 ⟨ho8, (Le.refl _)⟩ ⟨rfl, rfl, rfl, rfl, rfl, rfl, rfl, trivial⟩ (fun w hw => hw.pick [3, 0, 1, 2] (by decide)) ?_ ?_
  · skip
    rintro x19_3 k_3 ⟨rfl, hle_3⟩
    refine WQ.then ?_
    refine WC.seq ?_
    refine WC.region ?_
    refine WL.q rfl rfl rfl (QV.assign rfl rfl) ?_
    refine WL.nil ?_
    refine WQ.then ?_
    refine WC.ret ?_
    obtain rfl := (eq_of_some hm6).symm
    refine WQ.ret1 rfl rfl (fun w hw => ?_)
    exact ⟨rfl, Own.kgrow (fun _ x => x) hw⟩
  · skip
    rintro x19_3 k_3 m9 ⟨hI10, hle_3⟩
    obtain ⟨m11, s12, rfl, hm13, hn14⟩ := iter_step hI10; clear hI10; unfold check_named_L0 at hm13
    refine WC.seq ?_
    refine WC.region ?_
    refine WL.q rfl rfl rfl (QV.lss rfl rfl rfl rfl) ?_
    refine WL.nil ?_
    refine WQ.then ?_
    refine WC.seq ?_
    refine WC.cond rfl (fun h15 => ?_) (fun h15 => ?_)
    · skip
      have hm16 := br_t h15 hm13; clear hm13
      refine WC.skip ?_
      refine WQ.then ?_
      refine WC.seq ?_
      refine WC.block ?_
      refine WC.seq ?_
      refine WC.region ?_
      refine WL.q rfl rfl rfl (QV.move rfl rfl) ?_
      obtain ⟨c17, hm18⟩ := ck_some hm16; clear hm16
      obtain ⟨p19, hp20⟩ := (h_l_body.le hle_3).lenMap.ix (sz := 9) ln_len c17
      refine WL.q rfl rfl rfl (QV.indexSlice sl23 rfl rfl rfl rfl hp20) ?_
      refine WL.q rfl rfl rfl (QV.loadAgg ag81 rfl rfl rfl (fun w hw => ((Own.karr 0 rfl hk (h_l_body.le hle_3)) w hw).ele hp20 c17)) ?_
      refine WL.effect rfl ?_
      refine (EV.alloc (by decide) ze81 (fun b21 => ?_))
      refine WL.q rfl rfl rfl (QV.assign rfl rfl) ?_
      refine WL.effect rfl ?_
      refine (EV.store 0 rfl rfl rfl rfl rfl rfl (vs := [.int .i64 ((ele l.body x19_3).op), .int .i64 (((ele l.body x19_3).a).st), .int .i64 (((ele l.body x19_3).a).bk), .int .i64 (((ele l.body x19_3).b).st), .int .i64 (((ele l.body x19_3).b).bk), .int .i64 ((ele l.body x19_3).ar), .int .i64 ((ele l.body x19_3).sp), .int .i64 ((ele l.body x19_3).pl), .int .i64 ((ele l.body x19_3).n)]) (show Value.cells _ = List.toArray _ from rfl) sz81 (Nat.le_of_ble_eq_true rfl) (one_cons rfl (one_cons rfl (one_cons rfl (one_cons rfl (one_cons rfl (one_cons rfl (one_cons rfl (one_cons rfl (one_cons rfl one_nil))))))))) ?_)
      refine WL.nil ?_
      refine WQ.then ?_
      refine WC.seq ?_
      refine WC.dr (m := 10) (S := Own noM w [kn noM w.heap.size w k_3, blk b21 [.int .i64 ((ele l.body x19_3).op), .int .i64 (((ele l.body x19_3).a).st), .int .i64 (((ele l.body x19_3).a).bk), .int .i64 (((ele l.body x19_3).b).st), .int .i64 (((ele l.body x19_3).b).bk), .int .i64 ((ele l.body x19_3).ar), .int .i64 ((ele l.body x19_3).sp), .int .i64 ((ele l.body x19_3).pl), .int .i64 ((ele l.body x19_3).n)] 81, blk b3 [.int .i64 k_.pace, .int .i64 k_.stages, v_k__ops] 31, blk b2 [.int .i64 t.u0, .int .i64 t.u1, .int .i64 t.u2, .int .i64 t.w0, .int .i64 t.w1, .int .i64 t.w2, .int .i64 t.regs] 28, blk b1 [v_l_logs, v_l_body, v_l_outs] 25]) (by kernel_rfl) (by kernel_rfl) (fun w hw => hw.pick [1, 0, 2, 3, 4] (by decide)) ?_
      refine WD.q 0 rfl (by kernel_rfl) rfl rfl rfl (QV.fieldAddr fd31_2 rfl rfl) ?_
      refine WD.q 1 rfl (by kernel_rfl) rfl rfl rfl (QV.load pl29 rfl rfl (Own.cell 2 rfl rfl)) ?_
      refine WD.q 2 rfl (by kernel_rfl) rfl rfl rfl (QV.move rfl rfl) ?_
      refine WD.q 3 rfl (by kernel_rfl) rfl rfl rfl (QV.move rfl rfl) ?_
      obtain ⟨c22, hm23⟩ := ck_some hm18; clear hm18
      obtain ⟨p24, hp25⟩ := (h_order.le hle_3).lenMap.ix (sz := 1) ln_len c22
      refine WD.q 4 rfl (by kernel_rfl) rfl rfl rfl (QV.indexSlice sl22 rfl rfl rfl rfl hp25) ?_
      refine WD.q 5 rfl (by kernel_rfl) rfl rfl rfl (QV.load pl3 rfl rfl (fun w hw => CellsAt.one 0 (((Own.karr 0 rfl hk (h_order.le hle_3)) w hw).ele hp25 c22) rfl)) ?_
      obtain ⟨c26, hm27⟩ := ck_some hm23; clear hm23
      obtain ⟨p28, hp29⟩ := (h_k__ops.le hle_3).lenMap.ix (sz := 10) ln_len c26
      refine WD.q 6 rfl (by kernel_rfl) rfl rfl rfl (QV.indexSlice sl29 rfl rfl rfl rfl hp29) ?_
      refine WD.q 7 rfl (by kernel_rfl) rfl rfl rfl (QV.loadAgg ag75 rfl rfl rfl (fun w hw => ((Own.karr 0 rfl hk (h_k__ops.le hle_3)) w hw).ele hp29 c26)) ?_
      refine WD.o 8 rfl (by kernel_rfl) rfl ?_
      refine (EV.alloc (by decide) ze75 (fun b30 => ?_))
      refine WD.b (H' := [kn noM w.heap.size w k_3, blk b30 [.int .i64 0, .int .i64 0, .int .i64 0, .int .i64 0, .int .i64 0, .int .i64 0, .int .i64 0, .int .i64 0, .int .i64 0, .int .i64 0] 75, blk b21 [.int .i64 ((ele l.body x19_3).op), .int .i64 (((ele l.body x19_3).a).st), .int .i64 (((ele l.body x19_3).a).bk), .int .i64 (((ele l.body x19_3).b).st), .int .i64 (((ele l.body x19_3).b).bk), .int .i64 ((ele l.body x19_3).ar), .int .i64 ((ele l.body x19_3).sp), .int .i64 ((ele l.body x19_3).pl), .int .i64 ((ele l.body x19_3).n)] 81, blk b3 [.int .i64 k_.pace, .int .i64 k_.stages, v_k__ops] 31, blk b2 [.int .i64 t.u0, .int .i64 t.u1, .int .i64 t.u2, .int .i64 t.w0, .int .i64 t.w1, .int .i64 t.w2, .int .i64 t.regs] 28, blk b1 [v_l_logs, v_l_body, v_l_outs] 25]) (fun w hw => hw.pick [2, 0, 1, 3, 4, 5] (by decide)) (fun w hw => hw.pick [0, 2, 3, 4, 5] (by decide)) ?_
      refine WD.l 9 rfl (by kernel_rfl) rfl ?_
      refine (EV.store 0 rfl rfl rfl rfl rfl rfl (vs := [.int .i64 ((ele k_.ops (ele order x19_3)).slot), .int .i64 ((ele k_.ops (ele order x19_3)).stage), .int .i64 ((ele k_.ops (ele order x19_3)).op), .int .i64 ((ele k_.ops (ele order x19_3)).dest), .int .i64 ((ele k_.ops (ele order x19_3)).a), .int .i64 ((ele k_.ops (ele order x19_3)).b), .int .i64 ((ele k_.ops (ele order x19_3)).ar), .int .i64 ((ele k_.ops (ele order x19_3)).sp), .int .i64 ((ele k_.ops (ele order x19_3)).pl), .int .i64 ((ele k_.ops (ele order x19_3)).n)]) (show Value.cells _ = List.toArray _ from rfl) sz75 (Nat.le_of_ble_eq_true rfl) (one_cons rfl (one_cons rfl (one_cons rfl (one_cons rfl (one_cons rfl (one_cons rfl (one_cons rfl (one_cons rfl (one_cons rfl (one_cons rfl one_nil)))))))))) ?_)
      refine WQ.then ?_
      refine WC.seq ?_
      refine WC.region ?_
      refine WL.q rfl rfl rfl (QV.loadAgg ag81 rfl rfl rfl (Own.cellsBlk 1 rfl)) ?_
      refine WL.effect rfl ?_
      obtain ⟨x31, hx32, hm33⟩ := bd_some hm27; clear hm27
      refine EV.of (C' := Own noM w [kn noM w.heap.size w k_3, blk b30 [.int .i64 ((ele k_.ops (ele order x19_3)).slot), .int .i64 ((ele k_.ops (ele order x19_3)).stage), .int .i64 ((ele k_.ops (ele order x19_3)).op), .int .i64 ((ele k_.ops (ele order x19_3)).dest), .int .i64 ((ele k_.ops (ele order x19_3)).a), .int .i64 ((ele k_.ops (ele order x19_3)).b), .int .i64 ((ele k_.ops (ele order x19_3)).ar), .int .i64 ((ele k_.ops (ele order x19_3)).sp), .int .i64 ((ele k_.ops (ele order x19_3)).pl), .int .i64 ((ele k_.ops (ele order x19_3)).n)] 75, blk b21 [.int .i64 ((ele l.body x19_3).op), .int .i64 (((ele l.body x19_3).a).st), .int .i64 (((ele l.body x19_3).a).bk), .int .i64 (((ele l.body x19_3).b).st), .int .i64 (((ele l.body x19_3).b).bk), .int .i64 ((ele l.body x19_3).ar), .int .i64 ((ele l.body x19_3).sp), .int .i64 ((ele l.body x19_3).pl), .int .i64 ((ele l.body x19_3).n)] 81, blk b3 [.int .i64 k_.pace, .int .i64 k_.stages, v_k__ops] 31, blk b2 [.int .i64 t.u0, .int .i64 t.u1, .int .i64 t.u2, .int .i64 t.w0, .int .i64 t.w1, .int .i64 t.w2, .int .i64 t.regs] 28, blk b1 [v_l_logs, v_l_body, v_l_outs] 25]) (fun w hw => hw.pick [2, 0, 1, 3, 4, 5] (by decide)) ?_
      refine (EV.callR (X := Value × World) (R := []) (fun X => X.1) (fun X => []) (fun X => X.2) (fun X => Arr X.2 X.1 2 (x31.map Rf.cells)) hk (fun _ h => by cases h; decide) en66 (EvAll.cons rfl rfl EvAll.nil) (fun M w h1 h2 => have h := loop_Uses_w hx32  M w h1 h2; h) (fun X34 hF34 hle34 => ?_))
      refine WL.q rfl rfl rfl (QV.lenS Try.underlying76 rfl rfl hF34.lenMap) ?_
      refine WL.q rfl rfl rfl (QV.move rfl rfl) ?_
      refine WL.nil ?_
      refine WQ.then ?_
      obtain ⟨o35, ho36, hm37⟩ := bd_some hm33; clear hm33; obtain ⟨n38, ho39⟩ := lp_some ho36
      refine WC.bloop1 (H2 := [kn noM w.heap.size w X34.2, blk b30 [.int .i64 ((ele k_.ops (ele order x19_3)).slot), .int .i64 ((ele k_.ops (ele order x19_3)).stage), .int .i64 ((ele k_.ops (ele order x19_3)).op), .int .i64 ((ele k_.ops (ele order x19_3)).dest), .int .i64 ((ele k_.ops (ele order x19_3)).a), .int .i64 ((ele k_.ops (ele order x19_3)).b), .int .i64 ((ele k_.ops (ele order x19_3)).ar), .int .i64 ((ele k_.ops (ele order x19_3)).sp), .int .i64 ((ele k_.ops (ele order x19_3)).pl), .int .i64 ((ele k_.ops (ele order x19_3)).n)] 75, blk b21 [.int .i64 ((ele l.body x19_3).op), .int .i64 (((ele l.body x19_3).a).st), .int .i64 (((ele l.body x19_3).a).bk), .int .i64 (((ele l.body x19_3).b).st), .int .i64 (((ele l.body x19_3).b).bk), .int .i64 ((ele l.body x19_3).ar), .int .i64 ((ele l.body x19_3).sp), .int .i64 ((ele l.body x19_3).pl), .int .i64 ((ele l.body x19_3).n)] 81, blk b3 [.int .i64 k_.pace, .int .i64 k_.stages, v_k__ops] 31, blk b2 [.int .i64 t.u0, .int .i64 t.u1, .int .i64 t.u2, .int .i64 t.w0, .int .i64 t.w1, .int .i64 t.w2, .int .i64 t.regs] 28, blk b1 [v_l_logs, v_l_body, v_l_outs] 25]) (τ := [(3, (true, _)), (4, (true, _)), (6, (true, _)), (7, (true, _)), (13, (true, _)), (17, (true, _)), (18, (true, _)), (19, (true, _)), (33, (true, _)), (34, (true, _))]) (fun (x35_4 : Int) => [(35, (true, .int .i64 x35_4))]) (fun (x35_4 : Int) => []) (fun (x35_4 : Int) (m : Nat) => iter (check_named_L2 t k_ order y_Places x19_3 x31) m x35_4 = some o35) (fun (x35_4 : Int) => o35 = .go x35_4) 0 n38 ho39 ⟨rfl, rfl, rfl, rfl, rfl, rfl, rfl, rfl, rfl, rfl, rfl, trivial⟩ (fun w hw => hw.pick [0, 1, 2, 3, 4, 5] (by decide)) ?_ ?_
      · skip
        rintro x35_4 rfl
        refine WQ.block ?_
        refine WQ.then ?_
        refine WC.region ?_
        obtain ⟨c40, hm41⟩ := ck_some hm37; clear hm37
        refine WL.q rfl rfl rfl (QV.add rfl rfl rfl rfl c40) ?_
        refine WL.q rfl rfl rfl (QV.move rfl rfl) ?_
        refine WL.nil ?_
        exact WQ.again2 (x19_3 + 1) X34.2 m11 ⟨up_next hm41 hn14, (hle_3.trans hle34)⟩ (Nat.lt_succ_self _) ⟨rfl, rfl, rfl, rfl, rfl, rfl, rfl, trivial⟩ (fun w hw => hw.pick [0, 3, 4, 5] (by decide))
      · skip
        rintro x35_4 m42 hI43
        obtain ⟨m44, s45, rfl, hm46, hn47⟩ := iter_step hI43; clear hI43; unfold check_named_L2 at hm46
        refine WC.seq ?_
        refine WC.region ?_
        refine WL.q rfl rfl rfl (QV.lss rfl rfl rfl rfl) ?_
        refine WL.nil ?_
        refine WQ.then ?_
        refine WC.seq ?_
        refine WC.cond rfl (fun h48 => ?_) (fun h48 => ?_)
        · skip
          have hm49 := br_t h48 hm46; clear hm46
          refine WC.skip ?_
          refine WQ.then ?_
          refine WC.seq ?_
          refine WC.block ?_
          refine WC.seq ?_
          refine WC.region ?_
          refine WL.q rfl rfl rfl (QV.move rfl rfl) ?_
          obtain ⟨c50, hm51⟩ := ck_some hm49; clear hm49
          obtain ⟨p52, hp53⟩ := hF34.lenMap.ix (sz := 2) ln_len c50
          refine WL.q rfl rfl rfl (QV.indexSlice sl76 rfl rfl rfl rfl hp53) ?_
          refine WL.q rfl rfl rfl (QV.loadAgg ag79 rfl rfl rfl (fun w hw => ((Own.karr 0 rfl hk hF34) w hw).ele hp53 c50)) ?_
          refine WL.effect rfl ?_
          refine (EV.alloc (by decide) ze79 (fun b54 => ?_))
          refine WL.q rfl rfl rfl (QV.assign rfl rfl) ?_
          refine WL.effect rfl ?_
          refine (EV.store 0 rfl rfl rfl rfl rfl rfl (vs := [.int .i64 ((ele x31 x35_4).st), .int .i64 ((ele x31 x35_4).bk)]) (show Value.cells _ = List.toArray _ from rfl) sz79 (Nat.le_of_ble_eq_true rfl) (one_cons rfl (one_cons rfl one_nil)) ?_)
          refine WL.nil ?_
          refine WQ.then ?_
          refine WC.seq ?_
          refine WC.dr (m := 25) (S := Own noM w [kn noM w.heap.size w X34.2, blk b54 [.int .i64 ((ele x31 x35_4).st), .int .i64 ((ele x31 x35_4).bk)] 79, blk b30 [.int .i64 ((ele k_.ops (ele order x19_3)).slot), .int .i64 ((ele k_.ops (ele order x19_3)).stage), .int .i64 ((ele k_.ops (ele order x19_3)).op), .int .i64 ((ele k_.ops (ele order x19_3)).dest), .int .i64 ((ele k_.ops (ele order x19_3)).a), .int .i64 ((ele k_.ops (ele order x19_3)).b), .int .i64 ((ele k_.ops (ele order x19_3)).ar), .int .i64 ((ele k_.ops (ele order x19_3)).sp), .int .i64 ((ele k_.ops (ele order x19_3)).pl), .int .i64 ((ele k_.ops (ele order x19_3)).n)] 75, blk b21 [.int .i64 ((ele l.body x19_3).op), .int .i64 (((ele l.body x19_3).a).st), .int .i64 (((ele l.body x19_3).a).bk), .int .i64 (((ele l.body x19_3).b).st), .int .i64 (((ele l.body x19_3).b).bk), .int .i64 ((ele l.body x19_3).ar), .int .i64 ((ele l.body x19_3).sp), .int .i64 ((ele l.body x19_3).pl), .int .i64 ((ele l.body x19_3).n)] 81, blk b3 [.int .i64 k_.pace, .int .i64 k_.stages, v_k__ops] 31, blk b2 [.int .i64 t.u0, .int .i64 t.u1, .int .i64 t.u2, .int .i64 t.w0, .int .i64 t.w1, .int .i64 t.w2, .int .i64 t.regs] 28, blk b1 [v_l_logs, v_l_body, v_l_outs] 25]) (by kernel_rfl) (by kernel_rfl) (fun w hw => hw.pick [1, 0, 2, 3, 4, 5, 6] (by decide)) ?_
          refine WD.q 0 rfl (by kernel_rfl) rfl rfl rfl (QV.fieldAddr fd75_4 rfl rfl) ?_
          refine WD.q 1 rfl (by kernel_rfl) rfl rfl rfl (QV.load pl3 rfl rfl (Own.cell 2 rfl rfl)) ?_
          refine WD.q 2 rfl (by kernel_rfl) rfl rfl rfl (QV.fieldAddr fd75_5 rfl rfl) ?_
          refine WD.q 3 rfl (by kernel_rfl) rfl rfl rfl (QV.load pl3 rfl rfl (Own.cell 2 rfl rfl)) ?_
          refine WD.q 4 rfl (by kernel_rfl) rfl rfl rfl (QV.build (ps := [(0, .tmp 41), (1, .tmp 43)]) (cells := [.int .i64 ((ele k_.ops (ele order x19_3)).a), .int .i64 ((ele k_.ops (ele order x19_3)).b)]) (EvAll.cons rfl rfl (EvAll.cons rfl rfl EvAll.nil)) (by kernel_rfl)) ?_
          refine WD.q 5 rfl (by kernel_rfl) rfl rfl rfl (QV.move rfl rfl) ?_
          obtain ⟨c55, hm56⟩ := ck_some hm51; clear hm51
          refine WD.q 6 rfl (by kernel_rfl) rfl rfl rfl (QV.indexL (xs := ([(ele k_.ops (ele order x19_3)).a, (ele k_.ops (ele order x19_3)).b] : List Int)) Try.underlying146 pl3 sz3 rfl rfl rfl rfl rfl c55) ?_
          refine WD.q 7 rfl (by kernel_rfl) rfl rfl rfl (QV.move rfl rfl) ?_
          refine WD.q 8 rfl (by kernel_rfl) rfl rfl rfl (QV.nilCheck rfl rfl) ?_
          refine WD.q 9 rfl (by kernel_rfl) rfl rfl rfl (QV.fieldAddr fd87_5 rfl rfl) ?_
          refine WD.q 10 rfl (by kernel_rfl) rfl rfl rfl (QV.load pl22 rfl rfl (fun w hw => CellsAt.one 7 ((Own.kcells 0 rfl hk (hp_y.le (hle_3.trans hle34))) w hw) rfl)) ?_
          refine WD.q 11 rfl (by kernel_rfl) rfl rfl rfl (QV.fieldAddr fd79_0 rfl rfl) ?_
          refine WD.q 12 rfl (by kernel_rfl) rfl rfl rfl (QV.load pl3 rfl rfl (Own.cell 1 rfl rfl)) ?_
          obtain ⟨c57, hm58⟩ := ck_some hm56; clear hm56
          obtain ⟨p59, hp60⟩ := (h_y_Places.le (hle_3.trans hle34)).lenMap.ix (sz := 1) ln_len c57
          refine WD.q 13 rfl (by kernel_rfl) rfl rfl rfl (QV.indexSlice sl22 rfl rfl rfl rfl hp60) ?_
          refine WD.q 14 rfl (by kernel_rfl) rfl rfl rfl (QV.load pl3 rfl rfl (fun w hw => CellsAt.one 0 (((Own.karr 0 rfl hk (h_y_Places.le (hle_3.trans hle34))) w hw).ele hp60 c57) rfl)) ?_
          refine WD.q 15 rfl (by kernel_rfl) rfl rfl rfl (QV.fieldAddr fd79_1 rfl rfl) ?_
          refine WD.q 16 rfl (by kernel_rfl) rfl rfl rfl (QV.load pl3 rfl rfl (Own.cell 1 rfl rfl)) ?_
          obtain ⟨c61, hm62⟩ := ck_some hm58; clear hm58
          refine WD.q 17 rfl (by kernel_rfl) rfl rfl rfl (QV.sub rfl rfl rfl rfl c61) ?_
          refine WD.q 18 rfl (by kernel_rfl) rfl rfl rfl (QV.fieldAddr fd75_1 rfl rfl) ?_
          refine WD.q 19 rfl (by kernel_rfl) rfl rfl rfl (QV.load pl3 rfl rfl (Own.cell 2 rfl rfl)) ?_
          obtain ⟨c63, hm64⟩ := ck_some hm62; clear hm62
          refine WD.q 20 rfl (by kernel_rfl) rfl rfl rfl (QV.sub rfl rfl rfl rfl c63) ?_
          refine WD.q 21 rfl (by kernel_rfl) rfl rfl rfl (QV.fieldAddr fd28_2 rfl rfl) ?_
          refine WD.q 22 rfl (by kernel_rfl) rfl rfl rfl (QV.load pl3 rfl rfl (Own.cell 5 rfl rfl)) ?_
          obtain ⟨x65, hx66, hm67⟩ := bd_some hm64; clear hm64
          refine WD.q 23 rfl (by kernel_rfl) rfl rfl rfl (QV.call en37 (EvAll.cons rfl rfl (EvAll.cons rfl rfl EvAll.nil)) (fun w hw => have h := emit_Rest_w w hx66 ; h)) ?_
          refine WD.q 24 rfl (by kernel_rfl) rfl rfl rfl (QV.neq rfl rfl rfl rfl) ?_
          refine WD.e (by kernel_rfl) ?_
          refine WQ.then ?_
          refine WC.cond rfl (fun h68 => ?_) (fun h68 => ?_)
          · skip
            have hm69 := br_t h68 hm67; clear hm67
            refine WC.seq ?_
            refine WC.region ?_
            refine WL.q rfl rfl rfl (QV.assign rfl rfl) ?_
            refine WL.nil ?_
            refine WQ.then ?_
            refine WC.ret ?_
            refine WQ.block_ret ?_
            refine WQ.then_ret ?_
            refine WQ.then_ret ?_
            refine WQ.block_ret ?_
            refine WQ.then_ret ?_
            refine WQ.block_ret ?_
            refine WQ.then_ret ?_
            refine WQ.then_ret ?_
            refine WQ.block_ret ?_
            refine WQ.then_ret ?_
            refine WQ.then_ret ?_
            obtain rfl := up_ret hm69 hn47
            obtain rfl := up_ret hm37 hn14
            obtain rfl := (eq_of_some hm6).symm
            refine WQ.ret1 rfl rfl (fun w hw => ?_)
            exact ⟨rfl, Own.kgrow (fun _ x => x) hw⟩
          · skip
            have hm70 := br_f h68 hm67; clear hm67
            refine WC.skip ?_
            refine WQ.block ?_
            refine WQ.then ?_
            refine WC.region ?_
            obtain ⟨c71, hm72⟩ := ck_some hm70; clear hm70
            refine WL.q rfl rfl rfl (QV.add rfl rfl rfl rfl c71) ?_
            refine WL.q rfl rfl rfl (QV.move rfl rfl) ?_
            refine WL.nil ?_
            exact WQ.again1 (x35_4 + 1) m44 (up_next hm72 hn47) (Nat.lt_succ_self _) ⟨rfl, rfl, rfl, rfl, rfl, rfl, rfl, rfl, rfl, rfl, rfl, trivial⟩ (fun w hw => hw.pick [1, 2, 3, 4, 5, 6] (by decide))
        · skip
          have hm73 := br_f h48 hm46; clear hm46
          refine WC.exit ?_
          refine WQ.then_exit ?_
          refine WQ.then_exit ?_
          refine WQ.block_exit ?_
          exact WQ.out1 x35_4 (up_brk hm73 hn47) ⟨rfl, rfl, rfl, rfl, rfl, rfl, rfl, rfl, rfl, rfl, rfl, trivial⟩ (fun w hw => hw.pick [0, 1, 2, 3, 4, 5] (by decide))
    · skip
      have hm74 := br_f h15 hm13; clear hm13
      refine WC.exit ?_
      refine WQ.then_exit ?_
      refine WQ.then_exit ?_
      refine WQ.block_exit ?_
      exact WQ.out2 x19_3 k_3 ⟨up_brk hm74 hn14, hle_3⟩ ⟨rfl, rfl, rfl, rfl, rfl, rfl, rfl, trivial⟩ (fun w hw => hw.pick [0, 1, 2, 3] (by decide))

set_option maxRecDepth 8000 in
theorem check_takes_w {v_l_logs : Value} {v_l_body : Value} {v_l_outs : Value} {v_k__ops : Value} {v_order : Value} {l : Lp} {t : Tgt} {k_ : Krn} {order : List Int} {r : Option LayT × Bool} {K0 : World} (hm : check_takes_m l t k_ order = some r) (h_l_logs : Arr K0 v_l_logs 1 (l.logs.map icell)) (h_l_body : Arr K0 v_l_body 9 (l.body.map Stm.cells)) (h_l_outs : Arr K0 v_l_outs 1 (l.outs.map icell)) (h_k__ops : Arr K0 v_k__ops 10 (k_.ops.map Opr.cells)) (h_order : Arr K0 v_order 1 (order.map icell)) (M : Nat → Prop) (w : World) (hk : Base M K0 w) (hw0 : Own M w [] w) : Calls Try.prog 28 #[.agg #[v_l_logs, v_l_body, v_l_outs], .agg #[.int .i64 t.u0, .int .i64 t.u1, .int .i64 t.u2, .int .i64 t.w0, .int .i64 t.w1, .int .i64 t.w2, .int .i64 t.regs], .agg #[.int .i64 k_.pace, .int .i64 k_.stages, v_k__ops], v_order] w (fun e w' => ∃ X : Value × World, e = .returned (.tuple #[X.1, .bool r.2]) ∧ Own M w (kn M w.heap.size K0 X.2 :: []) w' ∧ LayAt X.2 X.1 r.1) := by
  unfold check_takes_m at hm
  refine calls_of_WC (n := 104) (args := [.agg #[v_l_logs, v_l_body, v_l_outs], .agg #[.int .i64 t.u0, .int .i64 t.u1, .int .i64 t.u2, .int .i64 t.w0, .int .i64 t.w1, .int .i64 t.w2, .int .i64 t.regs], .agg #[.int .i64 k_.pace, .int .i64 k_.stages, v_k__ops], v_order]) Try.func28 rfl rfl (Nat.le_of_ble_eq_true rfl) ?_ (Own.startK hk hw0)
  refine WC.seq ?_
  refine WC.region ?_
  refine WL.effect rfl ?_
  refine (EV.boxAgg (by decide) rfl rfl (fun b1 => ?_))
  refine WL.effect rfl ?_
  refine (EV.boxAgg (by decide) rfl rfl (fun b2 => ?_))
  refine WL.effect rfl ?_
  refine (EV.boxAgg (by decide) rfl rfl (fun b3 => ?_))
  refine WL.q rfl rfl rfl (QV.assign rfl rfl) ?_
  refine WL.q rfl rfl rfl (QV.assign rfl rfl) ?_
  refine WL.nil ?_
  refine WQ.then ?_
  refine WC.seq ?_
  refine WC.region ?_
  refine WL.q rfl rfl rfl (QV.loadAgg ag25 rfl rfl rfl (Own.cellsBlk 2 rfl)) ?_
  refine WL.q rfl rfl rfl (QV.loadAgg ag28 rfl rfl rfl (Own.cellsBlk 1 rfl)) ?_
  refine WL.q rfl rfl rfl (QV.loadAgg ag31 rfl rfl rfl (Own.cellsBlk 0 rfl)) ?_
  refine WL.q rfl rfl rfl (QV.move rfl rfl) ?_
  refine WL.effect rfl ?_
  obtain ⟨x4, hx5, hm6⟩ := bd_some hm; clear hm
  refine EV.of (C' := Own M w [kn M w.heap.size K0 K0, blk b3 [.int .i64 k_.pace, .int .i64 k_.stages, v_k__ops] 31, blk b2 [.int .i64 t.u0, .int .i64 t.u1, .int .i64 t.u2, .int .i64 t.w0, .int .i64 t.w1, .int .i64 t.w2, .int .i64 t.regs] 28, blk b1 [v_l_logs, v_l_body, v_l_outs] 25]) (fun w hw => hw.pick [3, 0, 1, 2] (by decide)) ?_
  refine (EV.callR (X := Value × World) (R := []) (fun X => .tuple #[X.1, .bool x4.2]) (fun X => []) (fun X => X.2) (fun X => LayAt X.2 X.1 x4.1) hk (fun _ h => by cases h; decide) en60 (EvAll.cons rfl rfl (EvAll.cons rfl rfl (EvAll.cons rfl rfl (EvAll.cons rfl rfl EvAll.nil)))) (fun M w h1 h2 => have h := check_layout_w hx5 h_l_logs h_l_body h_l_outs h_k__ops h_order M w h1 h2; h) (fun X7 hF7 hle7 => ?_))
  rcases hE8 : x4.1 with _ | y9
  · skip
    have hm10 := optC_none hE8 hm6; clear hm6
    obtain ⟨c11, hm12⟩ := ck_some hm10; clear hm10
    have e13 := LayAt.nil hF7 hE8
    rw [e13, c11]
    refine WL.q rfl rfl rfl (QV.move rfl rfl) ?_
    refine WL.q rfl rfl rfl (QV.extract rfl rfl rfl) ?_
    refine WL.q rfl rfl rfl (QV.extract rfl rfl rfl) ?_
    refine WL.q rfl rfl rfl (QV.assign rfl rfl) ?_
    refine WL.q rfl rfl rfl (QV.assign rfl rfl) ?_
    refine WL.nil ?_
    refine WQ.then ?_
    refine WC.seq ?_
    refine WC.seq ?_
    refine WC.region ?_
    refine WL.q rfl rfl rfl (QV.move rfl rfl) ?_
    refine WL.q rfl rfl rfl (QV.not rfl rfl) ?_
    refine WL.q rfl rfl rfl (QV.move rfl rfl) ?_
    refine WL.g rfl rfl (GuardIs.neg rfl rfl) (fun hG => QV.loadAgg ag25 rfl rfl rfl (Own.cellsBlk 3 rfl)) ?_
    refine WL.g rfl rfl (GuardIs.neg rfl rfl) (fun hG => QV.loadAgg ag28 rfl rfl rfl (Own.cellsBlk 2 rfl)) ?_
    refine WL.g rfl rfl (GuardIs.neg rfl rfl) (fun hG => QV.loadAgg ag31 rfl rfl rfl (Own.cellsBlk 1 rfl)) ?_
    refine WL.g rfl rfl (GuardIs.neg rfl rfl) (fun hG => QV.move rfl rfl) ?_
    refine WL.g rfl rfl (GuardIs.neg rfl rfl) (fun hG => QV.move rfl rfl) ?_
    obtain ⟨c14, hm15⟩ := ck_some hm12; clear hm12
    refine WL.g rfl rfl (GuardIs.neg rfl rfl) (fun hG => show QV Try.prog _ _ _ (.bool false) from (c14 hG).elim) ?_
    refine WL.g rfl rfl (GuardIs.neg rfl rfl) (fun hG => QV.not rfl hG) ?_
    refine WL.q rfl rfl rfl (QV.pickOr rfl rfl rfl (fun h => notF h)) ?_
    refine WL.nil ?_
    refine WQ.then ?_
    refine WC.cond rfl (fun h16 => ?_) (fun h16 => ?_)
    · skip
      refine WC.seq ?_
      refine WC.region ?_
      refine WL.q rfl rfl rfl (QV.assign rfl rfl) ?_
      refine WL.q rfl rfl rfl (QV.assign rfl rfl) ?_
      refine WL.nil ?_
      refine WQ.then ?_
      refine WC.ret ?_
      refine WQ.then_ret ?_
      obtain rfl := (eq_of_some hm15).symm
      refine WQ.ret2 rfl rfl rfl (fun w hw => ?_)
      exact ⟨(.pointer none, X7.2), rfl, hw.pick [0] (by decide), LayAt.none⟩
    · skip
      exact absurd h16 (by simp)
  · skip
    have hm17 := optC_some hE8 hm6; clear hm6
    obtain ⟨p18, u18_1, u18_2, u18_3, u18_4, u18_5, u18_6, hP18, hC18, hA18_1, hA18_2, hA18_3, hA18_4, hA18_5, hA18_6⟩ := LayAt.at hF7 hE8
    rw [hP18]
    refine WL.q rfl rfl rfl (QV.move rfl rfl) ?_
    refine WL.q rfl rfl rfl (QV.extract rfl rfl rfl) ?_
    refine WL.q rfl rfl rfl (QV.extract rfl rfl rfl) ?_
    refine WL.q rfl rfl rfl (QV.assign rfl rfl) ?_
    refine WL.q rfl rfl rfl (QV.assign rfl rfl) ?_
    refine WL.nil ?_
    refine WQ.then ?_
    refine WC.seq ?_
    refine WC.seq ?_
    refine WC.region ?_
    refine WL.q rfl rfl rfl (QV.move rfl rfl) ?_
    refine WL.q rfl rfl rfl (QV.not rfl rfl) ?_
    refine WL.q rfl rfl rfl (QV.move rfl rfl) ?_
    refine WL.g rfl rfl (GuardIs.neg rfl rfl) (fun hG => QV.loadAgg ag25 rfl rfl rfl (Own.cellsBlk 3 rfl)) ?_
    refine WL.g rfl rfl (GuardIs.neg rfl rfl) (fun hG => QV.loadAgg ag28 rfl rfl rfl (Own.cellsBlk 2 rfl)) ?_
    refine WL.g rfl rfl (GuardIs.neg rfl rfl) (fun hG => QV.loadAgg ag31 rfl rfl rfl (Own.cellsBlk 1 rfl)) ?_
    refine WL.g rfl rfl (GuardIs.neg rfl rfl) (fun hG => QV.move rfl rfl) ?_
    refine WL.g rfl rfl (GuardIs.neg rfl rfl) (fun hG => QV.move rfl rfl) ?_
    obtain ⟨x19, hx20, hm21⟩ := bdG_some hm17; clear hm17
    refine WL.g rfl rfl (GuardIs.neg rfl rfl) (fun hG => QV.call en61 (EvAll.cons rfl hG (EvAll.cons rfl hG (EvAll.cons rfl hG (EvAll.cons rfl hG (EvAll.cons rfl hG EvAll.nil))))) (fun w hw => have h := check_named_w w (hx20 hG) ((Own.karr 0 rfl hk (h_l_logs.le hle7)) w hw) ((Own.karr 0 rfl hk (h_l_body.le hle7)) w hw) ((Own.karr 0 rfl hk (h_l_outs.le hle7)) w hw) ((Own.karr 0 rfl hk (h_k__ops.le hle7)) w hw) ((Own.karr 0 rfl hk (h_order.le hle7)) w hw) ((Own.karr 0 rfl hk hA18_6) w hw) (Own.kcells 0 rfl hk hC18 w hw); h)) ?_
    refine WL.g rfl rfl (GuardIs.neg rfl rfl) (fun hG => QV.not rfl hG) ?_
    refine WL.q rfl rfl rfl (QV.pickOr rfl rfl rfl (fun h => notF h)) ?_
    refine WL.nil ?_
    refine WQ.then ?_
    refine WC.cond rfl (fun h22 => ?_) (fun h22 => ?_)
    · skip
      have hm23 := br_t h22 hm21; clear hm21
      refine WC.seq ?_
      refine WC.region ?_
      refine WL.q rfl rfl rfl (QV.assign rfl rfl) ?_
      refine WL.q rfl rfl rfl (QV.assign rfl rfl) ?_
      refine WL.nil ?_
      refine WQ.then ?_
      refine WC.ret ?_
      refine WQ.then_ret ?_
      obtain rfl := (eq_of_some hm23).symm
      refine WQ.ret2 rfl rfl rfl (fun w hw => ?_)
      exact ⟨(.pointer none, X7.2), rfl, hw.pick [0] (by decide), LayAt.none⟩
    · skip
      have hm24 := br_f h22 hm21; clear hm21
      refine WC.skip ?_
      refine WQ.then ?_
      refine WC.seq ?_
      refine WC.region ?_
      refine WL.q rfl rfl rfl (QV.loadAgg ag25 rfl rfl rfl (Own.cellsBlk 3 rfl)) ?_
      refine WL.q rfl rfl rfl (QV.loadAgg ag28 rfl rfl rfl (Own.cellsBlk 2 rfl)) ?_
      refine WL.effect rfl ?_
      obtain ⟨x25, hx26, hm27⟩ := bd_some hm24; clear hm24
      refine (EV.callR (X := Value × World) (R := []) (fun X => .tuple #[X.1, .int .i64 x25.2]) (fun X => []) (fun X => X.2) (fun X => Arr X.2 X.1 4 (x25.1.map Edg.cells)) hk (fun _ h => by cases h; decide) en62 (EvAll.cons rfl rfl (EvAll.cons rfl rfl EvAll.nil)) (fun M w h1 h2 => have h := dep_Edges_w hx26 (h_l_logs.le hle7) (h_l_body.le hle7) (h_l_outs.le hle7) M w h1 h2; h) (fun X28 hF28 hle28 => ?_))
      refine WL.q rfl rfl rfl (QV.move rfl rfl) ?_
      refine WL.q rfl rfl rfl (QV.extract rfl rfl rfl) ?_
      refine WL.q rfl rfl rfl (QV.extract rfl rfl rfl) ?_
      refine WL.q rfl rfl rfl (QV.assign rfl rfl) ?_
      refine WL.q rfl rfl rfl (QV.assign rfl rfl) ?_
      refine WL.nil ?_
      refine WQ.then ?_
      refine WC.seq ?_
      refine WC.seq ?_
      refine WC.region ?_
      refine WL.q rfl rfl rfl (QV.move rfl rfl) ?_
      refine WL.q rfl rfl rfl (QV.lenS Try.underlying68 rfl rfl hF28.lenMap) ?_
      refine WL.q rfl rfl rfl (QV.move rfl rfl) ?_
      refine WL.nil ?_
      refine WQ.then ?_
      obtain ⟨o29, ho30, hm31⟩ := bd_some hm27; clear hm27; obtain ⟨n32, ho33⟩ := lp_some ho30
      refine WC.bloop1 (H2 := [kn M w.heap.size K0 X28.2, blk b3 [.int .i64 k_.pace, .int .i64 k_.stages, v_k__ops] 31, blk b2 [.int .i64 t.u0, .int .i64 t.u1, .int .i64 t.u2, .int .i64 t.w0, .int .i64 t.w1, .int .i64 t.w2, .int .i64 t.regs] 28, blk b1 [v_l_logs, v_l_body, v_l_outs] 25]) (τ := [(4, (true, _)), (6, (true, _)), (10, (true, _)), (44, (true, _)), (45, (true, _))]) (fun (x46_1 : Int) => [(46, (true, .int .i64 x46_1))]) (fun (x46_1 : Int) => []) (fun (x46_1 : Int) (m : Nat) => iter (check_takes_L0 k_ y9 x25) m x46_1 = some o29) (fun (x46_1 : Int) => o29 = .go x46_1) 0 n32 ho33 ⟨rfl, rfl, rfl, rfl, rfl, rfl, trivial⟩ (fun w hw => hw.pick [0, 1, 2, 3] (by decide)) ?_ ?_
      · skip
        rintro x46_1 rfl
        refine WQ.then ?_
        refine WC.seq ?_
        refine WC.region ?_
        refine WL.q rfl rfl rfl (QV.assign rfl rfl) ?_
        refine WL.nil ?_
        refine WQ.then ?_
        refine WC.seq ?_
        refine WC.seq ?_
        refine WC.region ?_
        refine WL.q rfl rfl rfl (QV.fieldAddr fd25_1 rfl rfl) ?_
        refine WL.q rfl rfl rfl (QV.load pl23 rfl rfl (Own.cell 3 rfl rfl)) ?_
        refine WL.q rfl rfl rfl (QV.lenS Try.underlying23 rfl rfl (h_l_body.le (hle7.trans hle28)).lenMap) ?_
        refine WL.q rfl rfl rfl (QV.move rfl rfl) ?_
        refine WL.nil ?_
        refine WQ.then ?_
        refine WK.of (fun w hw => hw.vecNil (E := 3) (sz := 1) (enc := icell)) ?_
        obtain ⟨o35, ho36, hm37⟩ := bd_some hm31; clear hm31; obtain ⟨n38, ho39⟩ := lp_some ho36
        refine WC.bloop3 (H2 := [kn M w.heap.size K0 X28.2, blk b3 [.int .i64 k_.pace, .int .i64 k_.stages, v_k__ops] 31, blk b2 [.int .i64 t.u0, .int .i64 t.u1, .int .i64 t.u2, .int .i64 t.w0, .int .i64 t.w1, .int .i64 t.w2, .int .i64 t.regs] 28, blk b1 [v_l_logs, v_l_body, v_l_outs] 25]) (τ := [(4, (true, _)), (10, (true, _)), (79, (true, _))]) (fun (v34_5 : List Int) (x80_5 : Int) (uv34_5 : Value) => [(16, (true, uv34_5)), (80, (true, .int .i64 x80_5))]) (fun (v34_5 : List Int) (x80_5 : Int) (uv34_5 : Value) => [vec uv34_5 3 1 (List.map icell v34_5)]) (fun (v34_5 : List Int) (x80_5 : Int) (uv34_5 : Value) (m : Nat) => iter (check_takes_L2 l y9) m (v34_5, x80_5) = some o35 ∧ SliceLen uv34_5 v34_5.length) (fun (v34_5 : List Int) (x80_5 : Int) (uv34_5 : Value) => o35 = .go (v34_5, x80_5) ∧ SliceLen uv34_5 v34_5.length) [] 0 (.slice none 0 0) n38 ⟨ho39, SliceLen.nil⟩ ⟨rfl, rfl, rfl, rfl, rfl, trivial⟩ (fun w hw => hw.pick [0, 1, 2, 3, 4] (by decide)) ?_ ?_
        · skip
          rintro v34_5 x80_5 uv34_5 ⟨rfl, hlv34_5⟩
          refine WQ.then ?_
          refine WC.seq ?_
          refine WC.region ?_
          refine WL.q rfl rfl rfl (QV.move rfl rfl) ?_
          refine WL.q rfl rfl rfl (QV.move rfl rfl) ?_
          refine WL.q rfl rfl rfl (QV.move rfl rfl) ?_
          obtain ⟨x40, hx41, hm42⟩ := bd_some hm37; clear hm37
          refine WL.q rfl rfl rfl (QV.call en64 (EvAll.cons rfl rfl (EvAll.cons rfl rfl EvAll.nil)) (fun w hw => have h := keep_Layout_Firsts_w w hx41 ((Own.karr 1 rfl hk (hA18_1.le hle28)) w hw) ((Own.karr 1 rfl hk (hA18_2.le hle28)) w hw) ((Own.karr 1 rfl hk (hA18_3.le hle28)) w hw) ((Own.karr 1 rfl hk (hA18_6.le hle28)) w hw) (Own.kcells 1 rfl hk (hC18.le hle28) w hw) ((Own.vecArr 0 rfl) w hw); h)) ?_
          refine WL.q rfl rfl rfl (QV.assign rfl rfl) ?_
          refine WL.q rfl rfl rfl (QV.assign rfl rfl) ?_
          refine WL.nil ?_
          refine WQ.then ?_
          refine WC.ret ?_
          obtain rfl := (eq_of_some hm42).symm
          refine WQ.ret2 rfl rfl rfl (fun w hw => ?_)
          exact ⟨(.pointer (some p18), X28.2), rfl, hw.pick [1] (by decide), (LayAt.mk (hC18.le hle28) (hA18_1.le hle28) (hA18_2.le hle28) (hA18_3.le hle28) (hA18_4.le hle28) (hA18_5.le hle28) (hA18_6.le hle28))⟩
        · skip
          rintro v34_5 x80_5 uv34_5 m43 ⟨hI44, hlv34_5⟩
          obtain ⟨m45, s46, rfl, hm47, hn48⟩ := iter_step hI44; clear hI44; unfold check_takes_L2 at hm47; simp only at hm47
          refine WC.seq ?_
          refine WC.region ?_
          refine WL.q rfl rfl rfl (QV.lss rfl rfl rfl rfl) ?_
          refine WL.nil ?_
          refine WQ.then ?_
          refine WC.seq ?_
          refine WC.cond rfl (fun h49 => ?_) (fun h49 => ?_)
          · skip
            have hm50 := br_t h49 hm47; clear hm47
            refine WC.skip ?_
            refine WQ.then ?_
            refine WC.seq ?_
            refine WC.block ?_
            refine WC.seq ?_
            refine WC.region ?_
            refine WL.q rfl rfl rfl (QV.move rfl rfl) ?_
            refine WL.q rfl rfl rfl (QV.assign rfl rfl) ?_
            refine WL.nil ?_
            refine WQ.then ?_
            refine WC.seq ?_
            refine WC.region ?_
            refine WL.q rfl rfl rfl (QV.move rfl rfl) ?_
            refine WL.q rfl rfl rfl (QV.move rfl rfl) ?_
            refine WL.effect rfl ?_
            refine (EV.buildSlice (by decide) sz_22 (by decide) (by decide) (ps := [(0, .tmp 84)]) (cells := [.int .i64 x80_5]) (EvAll.cons rfl rfl EvAll.nil) (by kernel_rfl) (fun b51 => ?_))
            refine WL.effect rfl ?_
            obtain ⟨c52, hm53⟩ := ck_some hm50; clear hm50
            refine (EV.appendL (enc := icell) (xs := v34_5) (ys := [x80_5]) ((v34_5 ++ [x80_5])) 1 (by decide) ve22 rfl rfl rfl rfl rfl (Own.blkArr 0 (rows := [x80_5].map icell) rfl rfl (rows_len icell_len)) icell_len (icell_one _) rfl c52.1 c52.2 (fun u54 hu55 => ?_))
            refine WL.q rfl rfl rfl (QV.assign rfl rfl) ?_
            refine WL.nil ?_
            refine WQ.then ?_
            refine WC.seq ?_
            refine WC.region ?_
            refine WL.q rfl rfl rfl (QV.fieldAddr fd25_1 rfl rfl) ?_
            refine WL.q rfl rfl rfl (QV.load pl23 rfl rfl (Own.cell 5 rfl rfl)) ?_
            refine WL.q rfl rfl rfl (QV.lenS Try.underlying23 rfl rfl (h_l_body.le (hle7.trans hle28)).lenMap) ?_
            refine WL.q rfl rfl rfl (QV.move rfl rfl) ?_
            refine WL.nil ?_
            refine WQ.then ?_
            obtain ⟨o56, ho57, hm58⟩ := bd_some hm53; clear hm53; obtain ⟨n59, ho60⟩ := lp_some ho57
            refine WC.bloop1 (H2 := [blk b51 [.int .i64 x80_5] 3, vec u54 3 1 (List.map icell (v34_5 ++ [x80_5])), kn M w.heap.size K0 X28.2, blk b3 [.int .i64 k_.pace, .int .i64 k_.stages, v_k__ops] 31, blk b2 [.int .i64 t.u0, .int .i64 t.u1, .int .i64 t.u2, .int .i64 t.w0, .int .i64 t.w1, .int .i64 t.w2, .int .i64 t.regs] 28, blk b1 [v_l_logs, v_l_body, v_l_outs] 25]) (τ := [(4, (true, _)), (10, (true, _)), (16, (true, _)), (17, (true, _)), (79, (true, _)), (80, (true, _)), (89, (true, _))]) (fun (x90_6 : Int) => [(90, (true, .int .i64 x90_6))]) (fun (x90_6 : Int) => []) (fun (x90_6 : Int) (m : Nat) => iter (check_takes_L4 l y9 x80_5) m x90_6 = some o56) (fun (x90_6 : Int) => o56 = .go x90_6) 0 n59 ho60 ⟨rfl, rfl, rfl, rfl, rfl, rfl, rfl, rfl, trivial⟩ (fun w hw => hw.pick [0, 1, 2, 3, 4, 5] (by decide)) ?_ ?_
            · skip
              rintro x90_6 rfl
              refine WQ.block ?_
              refine WQ.then ?_
              refine WC.region ?_
              obtain ⟨c61, hm62⟩ := ck_some hm58; clear hm58
              refine WL.q rfl rfl rfl (QV.add rfl rfl rfl rfl c61) ?_
              refine WL.q rfl rfl rfl (QV.move rfl rfl) ?_
              refine WL.nil ?_
              exact WQ.again3 (v34_5 ++ [x80_5]) (x80_5 + 1) u54 m45 ⟨up_next hm62 hn48, hu55⟩ (Nat.lt_succ_self _) ⟨rfl, rfl, rfl, rfl, rfl, trivial⟩ (fun w hw => hw.pick [1, 2, 3, 4, 5] (by decide))
            · skip
              rintro x90_6 m63 hI64
              obtain ⟨m65, s66, rfl, hm67, hn68⟩ := iter_step hI64; clear hI64; unfold check_takes_L4 at hm67
              refine WC.seq ?_
              refine WC.region ?_
              refine WL.q rfl rfl rfl (QV.lss rfl rfl rfl rfl) ?_
              refine WL.nil ?_
              refine WQ.then ?_
              refine WC.seq ?_
              refine WC.cond rfl (fun h69 => ?_) (fun h69 => ?_)
              · skip
                have hm70 := br_t h69 hm67; clear hm67
                refine WC.skip ?_
                refine WQ.then ?_
                refine WC.seq ?_
                refine WC.block ?_
                refine WC.seq ?_
                refine WC.region ?_
                refine WL.q rfl rfl rfl (QV.move rfl rfl) ?_
                refine WL.q rfl rfl rfl (QV.assign rfl rfl) ?_
                refine WL.nil ?_
                refine WQ.then ?_
                refine WC.seq ?_
                refine WC.region ?_
                refine WL.q rfl rfl rfl (QV.move rfl rfl) ?_
                refine WL.q rfl rfl rfl (QV.move rfl rfl) ?_
                refine WL.q rfl rfl rfl (QV.move rfl rfl) ?_
                obtain ⟨x71, hx72, hm73⟩ := bd_some hm70; clear hm70
                refine WL.q rfl rfl rfl (QV.call en63 (EvAll.cons rfl rfl (EvAll.cons rfl rfl (EvAll.cons rfl rfl EvAll.nil))) (fun w hw => have h := keep_Layout_Apart_w w hx72 ((Own.karr 2 rfl hk (hA18_2.le hle28)) w hw) ((Own.karr 2 rfl hk (hA18_3.le hle28)) w hw) ((Own.karr 2 rfl hk (hA18_4.le hle28)) w hw) ((Own.karr 2 rfl hk (hA18_5.le hle28)) w hw) ((Own.karr 2 rfl hk (hA18_6.le hle28)) w hw) (Own.kcells 2 rfl hk (hC18.le hle28) w hw); h)) ?_
                refine WL.q rfl rfl rfl (QV.not rfl rfl) ?_
                refine WL.nil ?_
                refine WQ.then ?_
                refine WC.cond rfl (fun h74 => ?_) (fun h74 => ?_)
                · skip
                  have hm75 := br_t h74 hm73; clear hm73
                  refine WC.seq ?_
                  refine WC.region ?_
                  refine WL.q rfl rfl rfl (QV.assign rfl rfl) ?_
                  refine WL.q rfl rfl rfl (QV.assign rfl rfl) ?_
                  refine WL.nil ?_
                  refine WQ.then ?_
                  refine WC.ret ?_
                  refine WQ.block_ret ?_
                  refine WQ.then_ret ?_
                  refine WQ.then_ret ?_
                  refine WQ.block_ret ?_
                  refine WQ.then_ret ?_
                  refine WQ.block_ret ?_
                  refine WQ.then_ret ?_
                  refine WQ.then_ret ?_
                  refine WQ.block_ret ?_
                  refine WQ.then_ret ?_
                  refine WQ.then_ret ?_
                  obtain rfl := up_ret hm75 hn68
                  obtain rfl := up_ret hm58 hn48
                  obtain rfl := (eq_of_some hm37).symm
                  refine WQ.ret2 rfl rfl rfl (fun w hw => ?_)
                  exact ⟨(.pointer none, X28.2), rfl, hw.pick [2] (by decide), LayAt.none⟩
                · skip
                  have hm76 := br_f h74 hm73; clear hm73
                  refine WC.skip ?_
                  refine WQ.block ?_
                  refine WQ.then ?_
                  refine WC.region ?_
                  obtain ⟨c77, hm78⟩ := ck_some hm76; clear hm76
                  refine WL.q rfl rfl rfl (QV.add rfl rfl rfl rfl c77) ?_
                  refine WL.q rfl rfl rfl (QV.move rfl rfl) ?_
                  refine WL.nil ?_
                  exact WQ.again1 (x90_6 + 1) m65 (up_next hm78 hn68) (Nat.lt_succ_self _) ⟨rfl, rfl, rfl, rfl, rfl, rfl, rfl, rfl, trivial⟩ (fun w hw => hw.pick [0, 1, 2, 3, 4, 5] (by decide))
              · skip
                have hm79 := br_f h69 hm67; clear hm67
                refine WC.exit ?_
                refine WQ.then_exit ?_
                refine WQ.then_exit ?_
                refine WQ.block_exit ?_
                exact WQ.out1 x90_6 (up_brk hm79 hn68) ⟨rfl, rfl, rfl, rfl, rfl, rfl, rfl, rfl, trivial⟩ (fun w hw => hw.pick [0, 1, 2, 3, 4, 5] (by decide))
          · skip
            have hm80 := br_f h49 hm47; clear hm47
            refine WC.exit ?_
            refine WQ.then_exit ?_
            refine WQ.then_exit ?_
            refine WQ.block_exit ?_
            exact WQ.out3 v34_5 x80_5 uv34_5 ⟨up_brk hm80 hn48, hlv34_5⟩ ⟨rfl, rfl, rfl, rfl, rfl, trivial⟩ (fun w hw => hw.pick [0, 1, 2, 3, 4] (by decide))
      · skip
        rintro x46_1 m81 hI82
        obtain ⟨m83, s84, rfl, hm85, hn86⟩ := iter_step hI82; clear hI82; unfold check_takes_L0 at hm85
        refine WC.seq ?_
        refine WC.region ?_
        refine WL.q rfl rfl rfl (QV.lss rfl rfl rfl rfl) ?_
        refine WL.nil ?_
        refine WQ.then ?_
        refine WC.seq ?_
        refine WC.cond rfl (fun h87 => ?_) (fun h87 => ?_)
        · skip
          have hm88 := br_t h87 hm85; clear hm85
          refine WC.skip ?_
          refine WQ.then ?_
          refine WC.seq ?_
          refine WC.block ?_
          refine WC.seq ?_
          refine WC.region ?_
          obtain ⟨c89, hm90⟩ := ck_some hm88; clear hm88
          obtain ⟨p91, hp92⟩ := hF28.lenMap.ix (sz := 4) ln_len c89
          refine WL.q rfl rfl rfl (QV.indexSlice sl68 rfl rfl rfl rfl hp92) ?_
          refine WL.q rfl rfl rfl (QV.loadAgg ag71 rfl rfl rfl (fun w hw => ((Own.karr 0 rfl hk hF28) w hw).ele hp92 c89)) ?_
          refine WL.effect rfl ?_
          refine (EV.alloc (by decide) ze71 (fun b93 => ?_))
          refine WL.effect rfl ?_
          refine (EV.store 0 rfl rfl rfl rfl rfl rfl (vs := [.int .i64 ((ele x25.1 x46_1).fr), .int .i64 ((ele x25.1 x46_1).to), .int .i64 ((ele x25.1 x46_1).bk), .int .i64 ((ele x25.1 x46_1).wt)]) (show Value.cells _ = List.toArray _ from rfl) sz71 (Nat.le_of_ble_eq_true rfl) (one_cons rfl (one_cons rfl (one_cons rfl (one_cons rfl one_nil)))) ?_)
          refine WL.nil ?_
          refine WQ.then ?_
          refine WC.seq ?_
          refine WC.dr (m := 26) (S := Own M w [kn M w.heap.size K0 X28.2, blk b93 [.int .i64 ((ele x25.1 x46_1).fr), .int .i64 ((ele x25.1 x46_1).to), .int .i64 ((ele x25.1 x46_1).bk), .int .i64 ((ele x25.1 x46_1).wt)] 71, blk b3 [.int .i64 k_.pace, .int .i64 k_.stages, v_k__ops] 31, blk b2 [.int .i64 t.u0, .int .i64 t.u1, .int .i64 t.u2, .int .i64 t.w0, .int .i64 t.w1, .int .i64 t.w2, .int .i64 t.regs] 28, blk b1 [v_l_logs, v_l_body, v_l_outs] 25]) (by kernel_rfl) (by kernel_rfl) (fun w hw => hw.pick [1, 0, 2, 3, 4] (by decide)) ?_
          refine WD.q 0 rfl (by kernel_rfl) rfl rfl rfl (QV.move rfl rfl) ?_
          refine WD.q 1 rfl (by kernel_rfl) rfl rfl rfl (QV.nilCheck rfl rfl) ?_
          refine WD.q 2 rfl (by kernel_rfl) rfl rfl rfl (QV.fieldAddr fd87_3 rfl rfl) ?_
          refine WD.q 3 rfl (by kernel_rfl) rfl rfl rfl (QV.load pl22 rfl rfl (fun w hw => CellsAt.one 5 ((Own.kcells 0 rfl hk (hC18.le hle28)) w hw) rfl)) ?_
          refine WD.q 4 rfl (by kernel_rfl) rfl rfl rfl (QV.fieldAddr fd71_1 rfl rfl) ?_
          refine WD.q 5 rfl (by kernel_rfl) rfl rfl rfl (QV.load pl3 rfl rfl (Own.cell 1 rfl rfl)) ?_
          obtain ⟨c94, hm95⟩ := ck_some hm90; clear hm90
          obtain ⟨p96, hp97⟩ := (hA18_4.le hle28).lenMap.ix (sz := 1) ln_len c94
          refine WD.q 6 rfl (by kernel_rfl) rfl rfl rfl (QV.indexSlice sl22 rfl rfl rfl rfl hp97) ?_
          refine WD.q 7 rfl (by kernel_rfl) rfl rfl rfl (QV.load pl3 rfl rfl (fun w hw => CellsAt.one 0 (((Own.karr 0 rfl hk (hA18_4.le hle28)) w hw).ele hp97 c94) rfl)) ?_
          refine WD.q 8 rfl (by kernel_rfl) rfl rfl rfl (QV.fieldAddr fd71_2 rfl rfl) ?_
          refine WD.q 9 rfl (by kernel_rfl) rfl rfl rfl (QV.load pl3 rfl rfl (Own.cell 1 rfl rfl)) ?_
          refine WD.q 10 rfl (by kernel_rfl) rfl rfl rfl (QV.fieldAddr fd31_0 rfl rfl) ?_
          refine WD.q 11 rfl (by kernel_rfl) rfl rfl rfl (QV.load pl3 rfl rfl (Own.cell 2 rfl rfl)) ?_
          obtain ⟨c98, hm99⟩ := ck_some hm95; clear hm95
          refine WD.q 12 rfl (by kernel_rfl) rfl rfl rfl (QV.mul rfl rfl rfl rfl c98) ?_
          obtain ⟨c100, hm101⟩ := ck_some hm99; clear hm99
          refine WD.q 13 rfl (by kernel_rfl) rfl rfl rfl (QV.add rfl rfl rfl rfl c100) ?_
          refine WD.q 14 rfl (by kernel_rfl) rfl rfl rfl (QV.move rfl rfl) ?_
          refine WD.q 15 rfl (by kernel_rfl) rfl rfl rfl (QV.nilCheck rfl rfl) ?_
          refine WD.q 16 rfl (by kernel_rfl) rfl rfl rfl (QV.fieldAddr fd87_3 rfl rfl) ?_
          refine WD.q 17 rfl (by kernel_rfl) rfl rfl rfl (QV.load pl22 rfl rfl (fun w hw => CellsAt.one 5 ((Own.kcells 0 rfl hk (hC18.le hle28)) w hw) rfl)) ?_
          refine WD.q 18 rfl (by kernel_rfl) rfl rfl rfl (QV.fieldAddr fd71_0 rfl rfl) ?_
          refine WD.q 19 rfl (by kernel_rfl) rfl rfl rfl (QV.load pl3 rfl rfl (Own.cell 1 rfl rfl)) ?_
          obtain ⟨c102, hm103⟩ := ck_some hm101; clear hm101
          obtain ⟨p104, hp105⟩ := (hA18_4.le hle28).lenMap.ix (sz := 1) ln_len c102
          refine WD.q 20 rfl (by kernel_rfl) rfl rfl rfl (QV.indexSlice sl22 rfl rfl rfl rfl hp105) ?_
          refine WD.q 21 rfl (by kernel_rfl) rfl rfl rfl (QV.load pl3 rfl rfl (fun w hw => CellsAt.one 0 (((Own.karr 0 rfl hk (hA18_4.le hle28)) w hw).ele hp105 c102) rfl)) ?_
          refine WD.q 22 rfl (by kernel_rfl) rfl rfl rfl (QV.fieldAddr fd71_3 rfl rfl) ?_
          refine WD.q 23 rfl (by kernel_rfl) rfl rfl rfl (QV.load pl3 rfl rfl (Own.cell 1 rfl rfl)) ?_
          obtain ⟨c106, hm107⟩ := ck_some hm103; clear hm103
          refine WD.q 24 rfl (by kernel_rfl) rfl rfl rfl (QV.add rfl rfl rfl rfl c106) ?_
          refine WD.q 25 rfl (by kernel_rfl) rfl rfl rfl (QV.lss rfl rfl rfl rfl) ?_
          refine WD.e (by kernel_rfl) ?_
          refine WQ.then ?_
          refine WC.cond rfl (fun h108 => ?_) (fun h108 => ?_)
          · skip
            have hm109 := br_t h108 hm107; clear hm107
            refine WC.seq ?_
            refine WC.region ?_
            refine WL.q rfl rfl rfl (QV.assign rfl rfl) ?_
            refine WL.q rfl rfl rfl (QV.assign rfl rfl) ?_
            refine WL.nil ?_
            refine WQ.then ?_
            refine WC.ret ?_
            refine WQ.block_ret ?_
            refine WQ.then_ret ?_
            refine WQ.then_ret ?_
            refine WQ.block_ret ?_
            refine WQ.then_ret ?_
            refine WQ.then_ret ?_
            obtain rfl := up_ret hm109 hn86
            obtain rfl := (eq_of_some hm31).symm
            refine WQ.ret2 rfl rfl rfl (fun w hw => ?_)
            exact ⟨(.pointer none, X28.2), rfl, hw.pick [1] (by decide), LayAt.none⟩
          · skip
            have hm110 := br_f h108 hm107; clear hm107
            refine WC.skip ?_
            refine WQ.block ?_
            refine WQ.then ?_
            refine WC.region ?_
            obtain ⟨c111, hm112⟩ := ck_some hm110; clear hm110
            refine WL.q rfl rfl rfl (QV.add rfl rfl rfl rfl c111) ?_
            refine WL.q rfl rfl rfl (QV.move rfl rfl) ?_
            refine WL.nil ?_
            exact WQ.again1 (x46_1 + 1) m83 (up_next hm112 hn86) (Nat.lt_succ_self _) ⟨rfl, rfl, rfl, rfl, rfl, rfl, trivial⟩ (fun w hw => hw.pick [1, 2, 3, 4] (by decide))
        · skip
          have hm113 := br_f h87 hm85; clear hm85
          refine WC.exit ?_
          refine WQ.then_exit ?_
          refine WQ.then_exit ?_
          refine WQ.block_exit ?_
          exact WQ.out1 x46_1 (up_brk hm113 hn86) ⟨rfl, rfl, rfl, rfl, rfl, rfl, trivial⟩ (fun w hw => hw.pick [0, 1, 2, 3] (by decide))

set_option maxRecDepth 8000 in
theorem check_Takes_w {v_l_logs : Value} {v_l_body : Value} {v_l_outs : Value} {v_k__ops : Value} {v_order : Value} {l : Lp} {t : Tgt} {k_ : Krn} {order : List Int} {r : Bool} (w : World) (hm : check_Takes_m l t k_ order = some r) (h_l_logs : Arr w v_l_logs 1 (l.logs.map icell)) (h_l_body : Arr w v_l_body 9 (l.body.map Stm.cells)) (h_l_outs : Arr w v_l_outs 1 (l.outs.map icell)) (h_k__ops : Arr w v_k__ops 10 (k_.ops.map Opr.cells)) (h_order : Arr w v_order 1 (order.map icell)) : Calls Try.prog 7 #[.agg #[v_l_logs, v_l_body, v_l_outs], .agg #[.int .i64 t.u0, .int .i64 t.u1, .int .i64 t.u2, .int .i64 t.w0, .int .i64 t.w1, .int .i64 t.w2, .int .i64 t.regs], .agg #[.int .i64 k_.pace, .int .i64 k_.stages, v_k__ops], v_order] w (fun e w' => e = .returned (.bool r) ∧ Grow w w') := by
  unfold check_Takes_m at hm
  have hk := Base.rfl (w := w)
  refine calls_of_WC (n := 20) (args := [.agg #[v_l_logs, v_l_body, v_l_outs], .agg #[.int .i64 t.u0, .int .i64 t.u1, .int .i64 t.u2, .int .i64 t.w0, .int .i64 t.w1, .int .i64 t.w2, .int .i64 t.regs], .agg #[.int .i64 k_.pace, .int .i64 k_.stages, v_k__ops], v_order]) Try.func7 rfl rfl (Nat.le_of_ble_eq_true rfl) ?_ (Own.startK hk (Own.start w))
  refine WC.seq ?_
  refine WC.region ?_
  refine WL.effect rfl ?_
  refine (EV.boxAgg (by decide) rfl rfl (fun b1 => ?_))
  refine WL.effect rfl ?_
  refine (EV.boxAgg (by decide) rfl rfl (fun b2 => ?_))
  refine WL.effect rfl ?_
  refine (EV.boxAgg (by decide) rfl rfl (fun b3 => ?_))
  refine WL.q rfl rfl rfl (QV.assign rfl rfl) ?_
  refine WL.nil ?_
  refine WQ.then ?_
  refine WC.seq ?_
  refine WC.region ?_
  refine WL.q rfl rfl rfl (QV.loadAgg ag25 rfl rfl rfl (Own.cellsBlk 2 rfl)) ?_
  refine WL.q rfl rfl rfl (QV.loadAgg ag28 rfl rfl rfl (Own.cellsBlk 1 rfl)) ?_
  refine WL.q rfl rfl rfl (QV.loadAgg ag31 rfl rfl rfl (Own.cellsBlk 0 rfl)) ?_
  refine WL.q rfl rfl rfl (QV.move rfl rfl) ?_
  refine WL.effect rfl ?_
  obtain ⟨x4, hx5, hm6⟩ := bd_some hm; clear hm
  refine EV.of (C' := Own noM w [kn noM w.heap.size w w, blk b3 [.int .i64 k_.pace, .int .i64 k_.stages, v_k__ops] 31, blk b2 [.int .i64 t.u0, .int .i64 t.u1, .int .i64 t.u2, .int .i64 t.w0, .int .i64 t.w1, .int .i64 t.w2, .int .i64 t.regs] 28, blk b1 [v_l_logs, v_l_body, v_l_outs] 25]) (fun w hw => hw.pick [3, 0, 1, 2] (by decide)) ?_
  refine (EV.callR (X := Value × World) (R := []) (fun X => .tuple #[X.1, .bool x4.2]) (fun X => []) (fun X => X.2) (fun X => LayAt X.2 X.1 x4.1) hk (fun _ h => by cases h; decide) en28 (EvAll.cons rfl rfl (EvAll.cons rfl rfl (EvAll.cons rfl rfl (EvAll.cons rfl rfl EvAll.nil)))) (fun M w h1 h2 => have h := check_takes_w hx5 h_l_logs h_l_body h_l_outs h_k__ops h_order M w h1 h2; h) (fun X7 hF7 hle7 => ?_))
  rcases hE8 : x4.1 with _ | y9
  · skip
    have hm10 := optC_none hE8 hm6; clear hm6
    obtain ⟨c11, hm12⟩ := ck_some hm10; clear hm10
    have e13 := LayAt.nil hF7 hE8
    rw [e13, c11]
    refine WL.q rfl rfl rfl (QV.move rfl rfl) ?_
    refine WL.q rfl rfl rfl (QV.extract rfl rfl rfl) ?_
    refine WL.q rfl rfl rfl (QV.extract rfl rfl rfl) ?_
    refine WL.q rfl rfl rfl (QV.assign rfl rfl) ?_
    refine WL.q rfl rfl rfl (QV.assign rfl rfl) ?_
    refine WL.nil ?_
    refine WQ.then ?_
    refine WC.seq ?_
    refine WC.region ?_
    refine WL.q rfl rfl rfl (QV.move rfl rfl) ?_
    refine WL.q rfl rfl rfl (QV.assign rfl rfl) ?_
    refine WL.nil ?_
    refine WQ.then ?_
    refine WC.ret ?_
    obtain rfl := (eq_of_some hm12).symm
    refine WQ.ret1 rfl rfl (fun w hw => ?_)
    exact ⟨rfl, Own.kgrow (fun _ x => x) hw⟩
  · skip
    have hm14 := optC_some hE8 hm6; clear hm6
    obtain ⟨p15, u15_1, u15_2, u15_3, u15_4, u15_5, u15_6, hP15, hC15, hA15_1, hA15_2, hA15_3, hA15_4, hA15_5, hA15_6⟩ := LayAt.at hF7 hE8
    rw [hP15]
    refine WL.q rfl rfl rfl (QV.move rfl rfl) ?_
    refine WL.q rfl rfl rfl (QV.extract rfl rfl rfl) ?_
    refine WL.q rfl rfl rfl (QV.extract rfl rfl rfl) ?_
    refine WL.q rfl rfl rfl (QV.assign rfl rfl) ?_
    refine WL.q rfl rfl rfl (QV.assign rfl rfl) ?_
    refine WL.nil ?_
    refine WQ.then ?_
    refine WC.seq ?_
    refine WC.region ?_
    refine WL.q rfl rfl rfl (QV.move rfl rfl) ?_
    refine WL.q rfl rfl rfl (QV.assign rfl rfl) ?_
    refine WL.nil ?_
    refine WQ.then ?_
    refine WC.ret ?_
    obtain rfl := (eq_of_some hm14).symm
    refine WQ.ret1 rfl rfl (fun w hw => ?_)
    exact ⟨rfl, Own.kgrow (fun _ x => x) hw⟩
end Go.Proofs.Ytaimbkndebaaiac
end

section
namespace Go.Proofs.Ytaimbkndebaaiac
open Go.Rd
set_option linter.unusedVariables false
namespace TCheck2
theorem ag25 : AggT Try.prog 25 3 := ⟨_, Try.underlying25, rfl, by kernel_rfl⟩
theorem ag28 : AggT Try.prog 28 7 := ⟨_, Try.underlying28, rfl, by kernel_rfl⟩
theorem ag31 : AggT Try.prog 31 3 := ⟨_, Try.underlying31, rfl, by kernel_rfl⟩
theorem en28 : Go.Rd.Enters Try.prog 28 := ⟨Try.f28, Try.func28, by kernel_rfl, by kernel_rfl⟩
theorem en35 : Go.Rd.Enters Try.prog 35 := ⟨Try.f35, Try.func35, by kernel_rfl, by kernel_rfl⟩
theorem en36 : Go.Rd.Enters Try.prog 36 := ⟨Try.f36, Try.func36, by kernel_rfl, by kernel_rfl⟩
theorem en37 : Go.Rd.Enters Try.prog 37 := ⟨Try.f37, Try.func37, by kernel_rfl, by kernel_rfl⟩
theorem fd25_1 : FieldT Try.prog 25 1 1 := ⟨_, _, 0, Try.underlying25, rfl, rfl, by kernel_rfl⟩
theorem fd25_2 : FieldT Try.prog 25 2 2 := ⟨_, _, 0, Try.underlying25, rfl, rfl, by kernel_rfl⟩
theorem fd28_2 : FieldT Try.prog 28 2 6 := ⟨_, _, 0, Try.underlying28, rfl, rfl, by kernel_rfl⟩
theorem fd87_5 : FieldT Try.prog 87 5 7 := ⟨_, _, 0, Try.underlying87, rfl, rfl, by kernel_rfl⟩
theorem pl2 : Plain Try.prog 2 := ⟨_, Try.underlying2, rfl⟩
theorem pl22 : Plain Try.prog 22 := ⟨_, Try.underlying22, rfl⟩
theorem pl23 : Plain Try.prog 23 := ⟨_, Try.underlying23, rfl⟩
theorem pl3 : Plain Try.prog 3 := ⟨_, Try.underlying3, rfl⟩
theorem pl33 : Plain Try.prog 33 := ⟨_, Try.underlying33, rfl⟩
theorem sl22 : SliceT Try.prog 22 3 1 := ⟨Try.underlying22, by kernel_rfl⟩
theorem sl32 : SliceT Try.prog 32 33 1 := ⟨Try.underlying32, by kernel_rfl⟩
theorem sl33 : SliceT Try.prog 33 2 1 := ⟨Try.underlying33, by kernel_rfl⟩
theorem sz2 : SizeT Try.prog 2 1 := by unfold SizeT; kernel_rfl
theorem sz_33 : SliceZ Try.prog 33 2 1 [.int .i64 0] := ⟨Try.underlying33, by kernel_rfl⟩
theorem ve33 : VecT Try.prog 33 2 1 8 := ⟨Try.underlying33, by kernel_rfl, by decide⟩
theorem ze2 : ZeroT Try.prog 2 [.int .i64 0] := by unfold ZeroT; kernel_rfl
end TCheck2
open TCheck2
set_option maxRecDepth 8000 in
theorem check_fits_w {v_l_logs : Value} {v_l_body : Value} {v_l_outs : Value} {v_before : Value} {l : Lp} {before : List (List Int)} {r : Bool} (w : World) (hm : check_fits_m l before = some r) (h_l_logs : Arr w v_l_logs 1 (l.logs.map icell)) (h_l_body : Arr w v_l_body 9 (l.body.map Stm.cells)) (h_l_outs : Arr w v_l_outs 1 (l.outs.map icell)) (h_before : RowsA w v_before before) : Calls Try.prog 35 #[.agg #[v_l_logs, v_l_body, v_l_outs], v_before] w (fun e w' => e = .returned (.bool r) ∧ Grow w w') := by
  unfold check_fits_m at hm
  have hk := Base.rfl (w := w)
  refine calls_of_WC (n := 23) (args := [.agg #[v_l_logs, v_l_body, v_l_outs], v_before]) Try.func35 rfl rfl (Nat.le_of_ble_eq_true rfl) ?_ (Own.startK hk (Own.start w))
  refine WC.seq ?_
  refine WC.region ?_
  refine WL.effect rfl ?_
  refine (EV.boxAgg (by decide) rfl rfl (fun b1 => ?_))
  refine WL.q rfl rfl rfl (QV.assign rfl rfl) ?_
  refine WL.nil ?_
  refine WQ.then ?_
  refine WC.seq ?_
  refine WC.seq ?_
  refine WC.region ?_
  refine WL.q rfl rfl rfl (QV.move rfl rfl) ?_
  refine WL.q rfl rfl rfl (QV.lenS Try.underlying32 rfl rfl h_before.slen) ?_
  refine WL.q rfl rfl rfl (QV.move rfl rfl) ?_
  refine WL.nil ?_
  refine WQ.then ?_
  obtain ⟨o2, ho3, hm4⟩ := bd_some hm; clear hm; obtain ⟨n5, ho6⟩ := lp_some ho3
  refine WC.bloop1 (H2 := [blk b1 [v_l_logs, v_l_body, v_l_outs] 25, kn noM w.heap.size w w]) (τ := [(1, (true, _)), (2, (true, _)), (7, (true, _)), (8, (true, _))]) (fun (x9_1 : Int) => [(9, (true, .int .i64 x9_1))]) (fun (x9_1 : Int) => []) (fun (x9_1 : Int) (m : Nat) => iter (check_fits_L0 before) m x9_1 = some o2) (fun (x9_1 : Int) => o2 = .go x9_1) 0 n5 ho6 ⟨rfl, rfl, rfl, rfl, rfl, trivial⟩ (fun w hw => hw.pick [0, 1] (by decide)) ?_ ?_
  · skip
    rintro x9_1 rfl
    refine WQ.then ?_
    refine WC.seq ?_
    refine WC.region ?_
    refine WL.q rfl rfl rfl (QV.move rfl rfl) ?_
    refine WL.q rfl rfl rfl (QV.lenS Try.underlying32 rfl rfl h_before.slen) ?_
    refine WL.q rfl rfl rfl (QV.fieldAddr fd25_1 rfl rfl) ?_
    refine WL.q rfl rfl rfl (QV.load pl23 rfl rfl (Own.cell 0 rfl rfl)) ?_
    refine WL.q rfl rfl rfl (QV.lenS Try.underlying23 rfl rfl h_l_body.lenMap) ?_
    refine WL.q rfl rfl rfl (QV.eql rfl rfl rfl rfl) ?_
    refine WL.q rfl rfl rfl (QV.assign rfl rfl) ?_
    refine WL.nil ?_
    refine WQ.then ?_
    refine WC.ret ?_
    obtain rfl := (eq_of_some hm4).symm
    refine WQ.ret1 rfl rfl (fun w hw => ?_)
    exact ⟨rfl, Own.kgrow (fun _ x => x) hw⟩
  · skip
    rintro x9_1 m7 hI8
    obtain ⟨m9, s10, rfl, hm11, hn12⟩ := iter_step hI8; clear hI8; unfold check_fits_L0 at hm11
    refine WC.seq ?_
    refine WC.region ?_
    refine WL.q rfl rfl rfl (QV.lss rfl rfl rfl rfl) ?_
    refine WL.nil ?_
    refine WQ.then ?_
    refine WC.seq ?_
    refine WC.cond rfl (fun h13 => ?_) (fun h13 => ?_)
    · skip
      have hm14 := br_t h13 hm11; clear hm11
      refine WC.skip ?_
      refine WQ.then ?_
      refine WC.seq ?_
      refine WC.block ?_
      refine WC.seq ?_
      refine WC.region ?_
      obtain ⟨c15, hm16⟩ := ck_some hm14; clear hm14
      obtain ⟨p17, u19, hp18, hc20, hA21⟩ := h_before.ix c15
      refine WL.q rfl rfl rfl (QV.indexSlice sl32 rfl rfl rfl rfl hp18) ?_
      refine WL.q rfl rfl rfl (QV.load pl33 rfl rfl (fun w hw => CellsAt.one 0 ((Own.kcells 1 rfl hk hc20) w hw) rfl)) ?_
      refine WL.q rfl rfl rfl (QV.assign rfl rfl) ?_
      refine WL.nil ?_
      refine WQ.then ?_
      refine WC.seq ?_
      refine WC.region ?_
      refine WL.q rfl rfl rfl (QV.move rfl rfl) ?_
      refine WL.q rfl rfl rfl (QV.lenS Try.underlying33 rfl rfl hA21.lenMap) ?_
      refine WL.q rfl rfl rfl (QV.neq rfl rfl rfl rfl) ?_
      refine WL.nil ?_
      refine WQ.then ?_
      refine WC.cond rfl (fun h22 => ?_) (fun h22 => ?_)
      · skip
        have hm23 := br_t h22 hm16; clear hm16
        refine WC.seq ?_
        refine WC.region ?_
        refine WL.q rfl rfl rfl (QV.assign rfl rfl) ?_
        refine WL.nil ?_
        refine WQ.then ?_
        refine WC.ret ?_
        refine WQ.block_ret ?_
        refine WQ.then_ret ?_
        refine WQ.then_ret ?_
        refine WQ.block_ret ?_
        refine WQ.then_ret ?_
        refine WQ.then_ret ?_
        obtain rfl := up_ret hm23 hn12
        obtain rfl := (eq_of_some hm4).symm
        refine WQ.ret1 rfl rfl (fun w hw => ?_)
        exact ⟨rfl, Own.kgrow (fun _ x => x) hw⟩
      · skip
        have hm24 := br_f h22 hm16; clear hm16
        refine WC.skip ?_
        refine WQ.block ?_
        refine WQ.then ?_
        refine WC.region ?_
        obtain ⟨c25, hm26⟩ := ck_some hm24; clear hm24
        refine WL.q rfl rfl rfl (QV.add rfl rfl rfl rfl c25) ?_
        refine WL.q rfl rfl rfl (QV.move rfl rfl) ?_
        refine WL.nil ?_
        exact WQ.again1 (x9_1 + 1) m9 (up_next hm26 hn12) (Nat.lt_succ_self _) ⟨rfl, rfl, rfl, rfl, rfl, trivial⟩ (fun w hw => hw.pick [0, 1] (by decide))
    · skip
      have hm27 := br_f h13 hm11; clear hm11
      refine WC.exit ?_
      refine WQ.then_exit ?_
      refine WQ.then_exit ?_
      refine WQ.block_exit ?_
      exact WQ.out1 x9_1 (up_brk hm27 hn12) ⟨rfl, rfl, rfl, rfl, rfl, trivial⟩ (fun w hw => hw.pick [0, 1] (by decide))

set_option maxRecDepth 8000 in
theorem check_Enter_w {v_l_logs : Value} {v_l_body : Value} {v_l_outs : Value} {v_k__ops : Value} {v_order : Value} {v_before : Value} {l : Lp} {t : Tgt} {k_ : Krn} {order : List Int} {before : List (List Int)} {r : List Int × Int} {K0 : World} (hm : check_Enter_m l t k_ order before = some r) (h_l_logs : Arr K0 v_l_logs 1 (l.logs.map icell)) (h_l_body : Arr K0 v_l_body 9 (l.body.map Stm.cells)) (h_l_outs : Arr K0 v_l_outs 1 (l.outs.map icell)) (h_k__ops : Arr K0 v_k__ops 10 (k_.ops.map Opr.cells)) (h_order : Arr K0 v_order 1 (order.map icell)) (h_before : RowsA K0 v_before before) (M : Nat → Prop) (w : World) (hk : Base M K0 w) (hw0 : Own M w [] w) : Calls Try.prog 9 #[.agg #[v_l_logs, v_l_body, v_l_outs], .agg #[.int .i64 t.u0, .int .i64 t.u1, .int .i64 t.u2, .int .i64 t.w0, .int .i64 t.w1, .int .i64 t.w2, .int .i64 t.regs], .agg #[.int .i64 k_.pace, .int .i64 k_.stages, v_k__ops], v_order, v_before] w (fun e w' => ∃ X : Value × World, e = .returned (.tuple #[X.1, .int .i64 r.2]) ∧ Own M w (kn M w.heap.size K0 X.2 :: []) w' ∧ Arr X.2 X.1 1 (r.1.map icell)) := by
  unfold check_Enter_m at hm
  refine calls_of_WC (n := 73) (args := [.agg #[v_l_logs, v_l_body, v_l_outs], .agg #[.int .i64 t.u0, .int .i64 t.u1, .int .i64 t.u2, .int .i64 t.w0, .int .i64 t.w1, .int .i64 t.w2, .int .i64 t.regs], .agg #[.int .i64 k_.pace, .int .i64 k_.stages, v_k__ops], v_order, v_before]) Try.func9 rfl rfl (Nat.le_of_ble_eq_true rfl) ?_ (Own.startK hk hw0)
  refine WC.seq ?_
  refine WC.region ?_
  refine WL.effect rfl ?_
  refine (EV.boxAgg (by decide) rfl rfl (fun b1 => ?_))
  refine WL.effect rfl ?_
  refine (EV.boxAgg (by decide) rfl rfl (fun b2 => ?_))
  refine WL.effect rfl ?_
  refine (EV.boxAgg (by decide) rfl rfl (fun b3 => ?_))
  refine WL.q rfl rfl rfl (QV.assign rfl rfl) ?_
  refine WL.q rfl rfl rfl (QV.assign rfl rfl) ?_
  refine WL.nil ?_
  refine WQ.then ?_
  refine WC.seq ?_
  refine WC.region ?_
  refine WL.q rfl rfl rfl (QV.loadAgg ag25 rfl rfl rfl (Own.cellsBlk 2 rfl)) ?_
  refine WL.q rfl rfl rfl (QV.loadAgg ag28 rfl rfl rfl (Own.cellsBlk 1 rfl)) ?_
  refine WL.q rfl rfl rfl (QV.loadAgg ag31 rfl rfl rfl (Own.cellsBlk 0 rfl)) ?_
  refine WL.q rfl rfl rfl (QV.move rfl rfl) ?_
  refine WL.effect rfl ?_
  obtain ⟨x4, hx5, hm6⟩ := bd_some hm; clear hm
  refine EV.of (C' := Own M w [kn M w.heap.size K0 K0, blk b3 [.int .i64 k_.pace, .int .i64 k_.stages, v_k__ops] 31, blk b2 [.int .i64 t.u0, .int .i64 t.u1, .int .i64 t.u2, .int .i64 t.w0, .int .i64 t.w1, .int .i64 t.w2, .int .i64 t.regs] 28, blk b1 [v_l_logs, v_l_body, v_l_outs] 25]) (fun w hw => hw.pick [3, 0, 1, 2] (by decide)) ?_
  refine (EV.callR (X := Value × World) (R := []) (fun X => .tuple #[X.1, .bool x4.2]) (fun X => []) (fun X => X.2) (fun X => LayAt X.2 X.1 x4.1) hk (fun _ h => by cases h; decide) en28 (EvAll.cons rfl rfl (EvAll.cons rfl rfl (EvAll.cons rfl rfl (EvAll.cons rfl rfl EvAll.nil)))) (fun M w h1 h2 => have h := check_takes_w hx5 h_l_logs h_l_body h_l_outs h_k__ops h_order M w h1 h2; h) (fun X7 hF7 hle7 => ?_))
  rcases hE8 : x4.1 with _ | y9
  · skip
    have hm10 := optC_none hE8 hm6; clear hm6
    obtain ⟨c11, hm12⟩ := ck_some hm10; clear hm10
    have e13 := LayAt.nil hF7 hE8
    rw [e13, c11]
    refine WL.q rfl rfl rfl (QV.move rfl rfl) ?_
    refine WL.q rfl rfl rfl (QV.extract rfl rfl rfl) ?_
    refine WL.q rfl rfl rfl (QV.extract rfl rfl rfl) ?_
    refine WL.q rfl rfl rfl (QV.assign rfl rfl) ?_
    refine WL.q rfl rfl rfl (QV.assign rfl rfl) ?_
    refine WL.nil ?_
    refine WQ.then ?_
    refine WC.seq ?_
    refine WC.seq ?_
    refine WC.region ?_
    refine WL.q rfl rfl rfl (QV.move rfl rfl) ?_
    refine WL.q rfl rfl rfl (QV.not rfl rfl) ?_
    refine WL.q rfl rfl rfl (QV.move rfl rfl) ?_
    refine WL.g rfl rfl (GuardIs.neg rfl rfl) (fun hG => QV.loadAgg ag25 rfl rfl rfl (Own.cellsBlk 3 rfl)) ?_
    refine WL.g rfl rfl (GuardIs.neg rfl rfl) (fun hG => QV.move rfl rfl) ?_
    obtain ⟨x14, hx15, hm16⟩ := bdG_some hm12; clear hm12
    refine WL.g rfl rfl (GuardIs.neg rfl rfl) (fun hG => QV.call en35 (EvAll.cons rfl hG (EvAll.cons rfl hG EvAll.nil)) (fun w hw => have h := check_fits_w w (hx15 hG) ((Own.karr 0 rfl hk (h_l_logs.le hle7)) w hw) ((Own.karr 0 rfl hk (h_l_body.le hle7)) w hw) ((Own.karr 0 rfl hk (h_l_outs.le hle7)) w hw) (Own.krows 0 rfl hk (h_before.le hle7) w hw); h)) ?_
    refine WL.g rfl rfl (GuardIs.neg rfl rfl) (fun hG => QV.not rfl hG) ?_
    refine WL.q rfl rfl rfl (QV.pickOr rfl rfl rfl (fun h => notF h)) ?_
    refine WL.nil ?_
    refine WQ.then ?_
    refine WC.cond rfl (fun h17 => ?_) (fun h17 => ?_)
    · skip
      refine WC.seq ?_
      refine WC.region ?_
      refine WL.q rfl rfl rfl (QV.assign rfl rfl) ?_
      refine WL.q rfl rfl rfl (QV.assign rfl rfl) ?_
      refine WL.nil ?_
      refine WQ.then ?_
      refine WC.ret ?_
      refine WQ.then_ret ?_
      obtain rfl := (eq_of_some hm16).symm
      refine WQ.ret2 rfl rfl rfl (fun w hw => ?_)
      exact ⟨(.slice none 0 0, X7.2), rfl, hw.pick [0] (by decide), Arr.nil⟩
    · skip
      exact absurd h17 (by simp)
  · skip
    have hm18 := optC_some hE8 hm6; clear hm6
    obtain ⟨p19, u19_1, u19_2, u19_3, u19_4, u19_5, u19_6, hP19, hC19, hA19_1, hA19_2, hA19_3, hA19_4, hA19_5, hA19_6⟩ := LayAt.at hF7 hE8
    rw [hP19]
    refine WL.q rfl rfl rfl (QV.move rfl rfl) ?_
    refine WL.q rfl rfl rfl (QV.extract rfl rfl rfl) ?_
    refine WL.q rfl rfl rfl (QV.extract rfl rfl rfl) ?_
    refine WL.q rfl rfl rfl (QV.assign rfl rfl) ?_
    refine WL.q rfl rfl rfl (QV.assign rfl rfl) ?_
    refine WL.nil ?_
    refine WQ.then ?_
    refine WC.seq ?_
    refine WC.seq ?_
    refine WC.region ?_
    refine WL.q rfl rfl rfl (QV.move rfl rfl) ?_
    refine WL.q rfl rfl rfl (QV.not rfl rfl) ?_
    refine WL.q rfl rfl rfl (QV.move rfl rfl) ?_
    refine WL.g rfl rfl (GuardIs.neg rfl rfl) (fun hG => QV.loadAgg ag25 rfl rfl rfl (Own.cellsBlk 3 rfl)) ?_
    refine WL.g rfl rfl (GuardIs.neg rfl rfl) (fun hG => QV.move rfl rfl) ?_
    obtain ⟨x20, hx21, hm22⟩ := bdG_some hm18; clear hm18
    refine WL.g rfl rfl (GuardIs.neg rfl rfl) (fun hG => QV.call en35 (EvAll.cons rfl hG (EvAll.cons rfl hG EvAll.nil)) (fun w hw => have h := check_fits_w w (hx21 hG) ((Own.karr 0 rfl hk (h_l_logs.le hle7)) w hw) ((Own.karr 0 rfl hk (h_l_body.le hle7)) w hw) ((Own.karr 0 rfl hk (h_l_outs.le hle7)) w hw) (Own.krows 0 rfl hk (h_before.le hle7) w hw); h)) ?_
    refine WL.g rfl rfl (GuardIs.neg rfl rfl) (fun hG => QV.not rfl hG) ?_
    refine WL.q rfl rfl rfl (QV.pickOr rfl rfl rfl (fun h => notF h)) ?_
    refine WL.nil ?_
    refine WQ.then ?_
    refine WC.cond rfl (fun h23 => ?_) (fun h23 => ?_)
    · skip
      have hm24 := br_t h23 hm22; clear hm22
      refine WC.seq ?_
      refine WC.region ?_
      refine WL.q rfl rfl rfl (QV.assign rfl rfl) ?_
      refine WL.q rfl rfl rfl (QV.assign rfl rfl) ?_
      refine WL.nil ?_
      refine WQ.then ?_
      refine WC.ret ?_
      refine WQ.then_ret ?_
      obtain rfl := (eq_of_some hm24).symm
      refine WQ.ret2 rfl rfl rfl (fun w hw => ?_)
      exact ⟨(.slice none 0 0, X7.2), rfl, hw.pick [0] (by decide), Arr.nil⟩
    · skip
      have hm25 := br_f h23 hm22; clear hm22
      refine WC.skip ?_
      refine WQ.then ?_
      refine WC.seq ?_
      refine WC.region ?_
      refine WL.q rfl rfl rfl (QV.fieldAddr fd28_2 rfl rfl) ?_
      refine WL.q rfl rfl rfl (QV.load pl3 rfl rfl (Own.cell 2 rfl rfl)) ?_
      refine WL.effect rfl ?_
      obtain ⟨c26, hm27⟩ := ck_some hm25; clear hm25
      obtain ⟨c28, hm29⟩ := ck_some hm27; clear hm27
      refine (EV.makeSlice (enc := icell) (0 : Int) (by decide) ve33 ze2 rfl rfl c26 rfl c28 (fun u30 hu31 => ?_))
      refine WL.q rfl rfl rfl (QV.assign rfl rfl) ?_
      refine WL.nil ?_
      refine WQ.then ?_
      refine WC.seq ?_
      refine WC.seq ?_
      refine WC.region ?_
      refine WL.q rfl rfl rfl (QV.fieldAddr fd25_1 rfl rfl) ?_
      refine WL.q rfl rfl rfl (QV.load pl23 rfl rfl (Own.cell 4 rfl rfl)) ?_
      refine WL.q rfl rfl rfl (QV.lenS Try.underlying23 rfl rfl (h_l_body.le hle7).lenMap) ?_
      refine WL.q rfl rfl rfl (QV.move rfl rfl) ?_
      refine WL.nil ?_
      refine WQ.then ?_
      obtain ⟨o33, ho34, hm35⟩ := bd_some hm29; clear hm29; obtain ⟨n36, ho37⟩ := lp_some ho34
      refine WC.bloop2 (H2 := [kn M w.heap.size K0 X7.2, blk b3 [.int .i64 k_.pace, .int .i64 k_.stages, v_k__ops] 31, blk b2 [.int .i64 t.u0, .int .i64 t.u1, .int .i64 t.u2, .int .i64 t.w0, .int .i64 t.w1, .int .i64 t.w2, .int .i64 t.regs] 28, blk b1 [v_l_logs, v_l_body, v_l_outs] 25]) (τ := [(4, (true, _)), (5, (true, _)), (6, (true, _)), (12, (true, _)), (14, (true, _)), (38, (true, _))]) (fun (v32_3 : List Int) (x39_3 : Int) => [(39, (true, .int .i64 x39_3))]) (fun (v32_3 : List Int) (x39_3 : Int) => [vec u30 2 1 (List.map icell v32_3)]) (fun (v32_3 : List Int) (x39_3 : Int) (m : Nat) => iter (check_Enter_L0 l t before y9) m (v32_3, x39_3) = some o33 ∧ SliceLen u30 v32_3.length) (fun (v32_3 : List Int) (x39_3 : Int) => o33 = .go (v32_3, x39_3) ∧ SliceLen u30 v32_3.length) (List.replicate t.regs.toNat (0 : Int)) 0 n36 ⟨ho37, hu31⟩ ⟨rfl, rfl, rfl, rfl, rfl, rfl, rfl, trivial⟩ (fun w hw => hw.pick [0, 1, 2, 3, 4] (by decide)) ?_ ?_
      · skip
        rintro v32_3 x39_3 ⟨rfl, hlv32_3⟩
        refine WQ.then ?_
        refine WC.seq ?_
        refine WC.region ?_
        refine WL.q rfl rfl rfl (QV.move rfl rfl) ?_
        refine WL.q rfl rfl rfl (QV.assign rfl rfl) ?_
        refine WL.q rfl rfl rfl (QV.assign rfl rfl) ?_
        refine WL.nil ?_
        refine WQ.then ?_
        refine WC.ret ?_
        obtain rfl := (eq_of_some hm35).symm
        refine WK.of (C' := Own M w [kn M w.heap.size K0 X7.2, vec u30 2 1 (List.map icell v32_3), blk b3 [.int .i64 k_.pace, .int .i64 k_.stages, v_k__ops] 31, blk b2 [.int .i64 t.u0, .int .i64 t.u1, .int .i64 t.u2, .int .i64 t.w0, .int .i64 t.w1, .int .i64 t.w2, .int .i64 t.regs] 28, blk b1 [v_l_logs, v_l_body, v_l_outs] 25]) (fun w hw => hw.pick [1, 0, 2, 3, 4] (by decide)) ?_
        refine WK.freeze hk (fun k38 hle38 hr38 => ?_)
        have hA38 := vec_arr hr38
        refine WQ.ret2 rfl rfl rfl (fun w hw => ?_)
        exact ⟨(u30, k38), rfl, hw.pick [0] (by decide), hA38⟩
      · skip
        rintro v32_3 x39_3 m39 ⟨hI40, hlv32_3⟩
        obtain ⟨m41, s42, rfl, hm43, hn44⟩ := iter_step hI40; clear hI40; unfold check_Enter_L0 at hm43; simp only at hm43
        refine WC.seq ?_
        refine WC.region ?_
        refine WL.q rfl rfl rfl (QV.lss rfl rfl rfl rfl) ?_
        refine WL.nil ?_
        refine WQ.then ?_
        refine WC.seq ?_
        refine WC.cond rfl (fun h45 => ?_) (fun h45 => ?_)
        · skip
          have hm46 := br_t h45 hm43; clear hm43
          refine WC.skip ?_
          refine WQ.then ?_
          refine WC.seq ?_
          refine WC.block ?_
          refine WC.seq ?_
          refine WC.region ?_
          refine WL.q rfl rfl rfl (QV.move rfl rfl) ?_
          refine WL.q rfl rfl rfl (QV.assign rfl rfl) ?_
          refine WL.nil ?_
          refine WQ.then ?_
          refine WC.seq ?_
          refine WC.region ?_
          refine WL.q rfl rfl rfl (QV.loadAgg ag25 rfl rfl rfl (Own.cellsBlk 4 rfl)) ?_
          refine WL.q rfl rfl rfl (QV.move rfl rfl) ?_
          obtain ⟨x47, hx48, hm49⟩ := bd_some hm46; clear hm46
          refine WL.q rfl rfl rfl (QV.call en36 (EvAll.cons rfl rfl (EvAll.cons rfl rfl EvAll.nil)) (fun w hw => have h := keep_Far_w w hx48 ((Own.karr 1 rfl hk (h_l_logs.le hle7)) w hw) ((Own.karr 1 rfl hk (h_l_body.le hle7)) w hw) ((Own.karr 1 rfl hk (h_l_outs.le hle7)) w hw); h)) ?_
          refine WL.q rfl rfl rfl (QV.move rfl rfl) ?_
          refine WL.nil ?_
          refine WQ.then ?_
          obtain ⟨o50, ho51, hm52⟩ := bd_some hm49; clear hm49; obtain ⟨n53, ho54⟩ := lp_some ho51
          refine WC.bloop2 (H2 := [kn M w.heap.size K0 X7.2, blk b3 [.int .i64 k_.pace, .int .i64 k_.stages, v_k__ops] 31, blk b2 [.int .i64 t.u0, .int .i64 t.u1, .int .i64 t.u2, .int .i64 t.w0, .int .i64 t.w1, .int .i64 t.w2, .int .i64 t.regs] 28, blk b1 [v_l_logs, v_l_body, v_l_outs] 25]) (τ := [(4, (true, _)), (5, (true, _)), (6, (true, _)), (12, (true, _)), (14, (true, _)), (15, (true, _)), (38, (true, _)), (39, (true, _)), (44, (true, _))]) (fun (v32_4 : List Int) (x45_4 : Int) => [(45, (true, .int .i64 x45_4))]) (fun (v32_4 : List Int) (x45_4 : Int) => [vec u30 2 1 (List.map icell v32_4)]) (fun (v32_4 : List Int) (x45_4 : Int) (m : Nat) => iter (check_Enter_L2 t before y9 x39_3 x47) m (v32_4, x45_4) = some o50 ∧ SliceLen u30 v32_4.length) (fun (v32_4 : List Int) (x45_4 : Int) => o50 = .go (v32_4, x45_4) ∧ SliceLen u30 v32_4.length) v32_3 0 n53 ⟨ho54, hlv32_3⟩ ⟨rfl, rfl, rfl, rfl, rfl, rfl, rfl, rfl, rfl, rfl, trivial⟩ (fun w hw => hw.pick [0, 1, 2, 3, 4] (by decide)) ?_ ?_
          · skip
            rintro v32_4 x45_4 ⟨rfl, hlv32_4⟩
            refine WQ.block ?_
            refine WQ.then ?_
            refine WC.region ?_
            obtain ⟨c55, hm56⟩ := ck_some hm52; clear hm52
            refine WL.q rfl rfl rfl (QV.add rfl rfl rfl rfl c55) ?_
            refine WL.q rfl rfl rfl (QV.move rfl rfl) ?_
            refine WL.nil ?_
            exact WQ.again2 v32_4 (x39_3 + 1) m41 ⟨up_next hm56 hn44, hlv32_4⟩ (Nat.lt_succ_self _) ⟨rfl, rfl, rfl, rfl, rfl, rfl, rfl, trivial⟩ (fun w hw => hw.pick [0, 1, 2, 3, 4] (by decide))
          · skip
            rintro v32_4 x45_4 m57 ⟨hI58, hlv32_4⟩
            obtain ⟨m59, s60, rfl, hm61, hn62⟩ := iter_step hI58; clear hI58; unfold check_Enter_L2 at hm61; simp only at hm61
            refine WC.seq ?_
            refine WC.region ?_
            refine WL.q rfl rfl rfl (QV.lss rfl rfl rfl rfl) ?_
            refine WL.nil ?_
            refine WQ.then ?_
            refine WC.seq ?_
            refine WC.cond rfl (fun h63 => ?_) (fun h63 => ?_)
            · skip
              have hm64 := br_t h63 hm61; clear hm61
              refine WC.skip ?_
              refine WQ.then ?_
              refine WC.seq ?_
              refine WC.block ?_
              refine WC.seq ?_
              refine WC.region ?_
              refine WL.q rfl rfl rfl (QV.move rfl rfl) ?_
              refine WL.q rfl rfl rfl (QV.assign rfl rfl) ?_
              refine WL.nil ?_
              refine WQ.then ?_
              refine WC.dr (m := 23) (S := Own M w [kn M w.heap.size K0 X7.2, vec u30 2 1 (List.map icell v32_4), blk b3 [.int .i64 k_.pace, .int .i64 k_.stages, v_k__ops] 31, blk b2 [.int .i64 t.u0, .int .i64 t.u1, .int .i64 t.u2, .int .i64 t.w0, .int .i64 t.w1, .int .i64 t.w2, .int .i64 t.regs] 28, blk b1 [v_l_logs, v_l_body, v_l_outs] 25]) (by kernel_rfl) (by kernel_rfl) (fun w hw => hw.pick [1, 0, 2, 3, 4] (by decide)) ?_
              refine WD.q 0 rfl (by kernel_rfl) rfl rfl rfl (QV.move rfl rfl) ?_
              refine WD.q 1 rfl (by kernel_rfl) rfl rfl rfl (QV.move rfl rfl) ?_
              refine WD.q 2 rfl (by kernel_rfl) rfl rfl rfl (QV.nilCheck rfl rfl) ?_
              refine WD.q 3 rfl (by kernel_rfl) rfl rfl rfl (QV.fieldAddr fd87_5 rfl rfl) ?_
              refine WD.q 4 rfl (by kernel_rfl) rfl rfl rfl (QV.load pl22 rfl rfl (fun w hw => CellsAt.one 7 ((Own.kcells 0 rfl hk hC19) w hw) rfl)) ?_
              refine WD.q 5 rfl (by kernel_rfl) rfl rfl rfl (QV.move rfl rfl) ?_
              obtain ⟨c65, hm66⟩ := ck_some hm64; clear hm64
              obtain ⟨p67, hp68⟩ := hA19_6.lenMap.ix (sz := 1) ln_len c65
              refine WD.q 6 rfl (by kernel_rfl) rfl rfl rfl (QV.indexSlice sl22 rfl rfl rfl rfl hp68) ?_
              refine WD.q 7 rfl (by kernel_rfl) rfl rfl rfl (QV.load pl3 rfl rfl (fun w hw => CellsAt.one 0 (((Own.karr 0 rfl hk hA19_6) w hw).ele hp68 c65) rfl)) ?_
              refine WD.q 8 rfl (by kernel_rfl) rfl rfl rfl (QV.move rfl rfl) ?_
              obtain ⟨c69, hm70⟩ := ck_some hm66; clear hm66
              refine WD.q 9 rfl (by kernel_rfl) rfl rfl rfl (QV.sub rfl rfl rfl rfl c69) ?_
              obtain ⟨c71, hm72⟩ := ck_some hm70; clear hm70
              refine WD.q 10 rfl (by kernel_rfl) rfl rfl rfl (QV.sub rfl rfl rfl rfl c71) ?_
              refine WD.q 11 rfl (by kernel_rfl) rfl rfl rfl (QV.fieldAddr fd28_2 rfl rfl) ?_
              refine WD.q 12 rfl (by kernel_rfl) rfl rfl rfl (QV.load pl3 rfl rfl (Own.cell 3 rfl rfl)) ?_
              obtain ⟨x73, hx74, hm75⟩ := bd_some hm72; clear hm72
              refine WD.q 13 rfl (by kernel_rfl) rfl rfl rfl (QV.call en37 (EvAll.cons rfl rfl (EvAll.cons rfl rfl EvAll.nil)) (fun w hw => have h := emit_Rest_w w hx74 ; h)) ?_
              refine WD.q 14 rfl (by kernel_rfl) rfl rfl rfl (QV.move rfl rfl) ?_
              refine WD.q 15 rfl (by kernel_rfl) rfl rfl rfl (QV.move rfl rfl) ?_
              obtain ⟨c76, hm77⟩ := ck_some hm75; clear hm75
              obtain ⟨p78, u80, hp79, hc81, hA82⟩ := (h_before.le hle7).ix c76
              refine WD.q 16 rfl (by kernel_rfl) rfl rfl rfl (QV.indexSlice sl32 rfl rfl rfl rfl hp79) ?_
              refine WD.q 17 rfl (by kernel_rfl) rfl rfl rfl (QV.load pl33 rfl rfl (fun w hw => CellsAt.one 0 ((Own.kcells 0 rfl hk hc81) w hw) rfl)) ?_
              refine WD.q 18 rfl (by kernel_rfl) rfl rfl rfl (QV.move rfl rfl) ?_
              obtain ⟨c83, hm84⟩ := ck_some hm77; clear hm77
              obtain ⟨p85, hp86⟩ := hA82.lenMap.ix (sz := 1) ln_len c83
              refine WD.q 19 rfl (by kernel_rfl) rfl rfl rfl (QV.indexSlice sl33 rfl rfl rfl rfl hp86) ?_
              refine WD.q 20 rfl (by kernel_rfl) rfl rfl rfl (QV.load pl2 rfl rfl (fun w hw => CellsAt.one 0 (((Own.karr 0 rfl hk hA82) w hw).ele hp86 c83) rfl)) ?_
              obtain ⟨c87, hm88⟩ := ck_some hm84; clear hm84
              obtain ⟨p89, hp90⟩ := hlv32_4.ix (sz := 1) ln_len c87
              refine WD.q 21 rfl (by kernel_rfl) rfl rfl rfl (QV.indexSlice sl33 rfl rfl rfl rfl hp90) ?_
              refine WD.l 22 rfl (by kernel_rfl) rfl ?_
              refine (EV.storeV 0 (ele (ele before x39_3) x45_4) icell_eq rfl rfl rfl rfl rfl hp90 rfl rfl sz2 ?_)
              have hl91 : SliceLen u30 (upd v32_4 x73 (ele (ele before x39_3) x45_4)).length := slen_upd hlv32_4
              refine WQ.block ?_
              refine WQ.then ?_
              refine WC.region ?_
              obtain ⟨c92, hm93⟩ := ck_some hm88; clear hm88
              refine WL.q rfl rfl rfl (QV.add rfl rfl rfl rfl c92) ?_
              refine WL.q rfl rfl rfl (QV.move rfl rfl) ?_
              refine WL.nil ?_
              exact WQ.again2 (upd v32_4 x73 (ele (ele before x39_3) x45_4)) (x45_4 + 1) m59 ⟨up_next hm93 hn62, hl91⟩ (Nat.lt_succ_self _) ⟨rfl, rfl, rfl, rfl, rfl, rfl, rfl, rfl, rfl, rfl, trivial⟩ (fun w hw => hw.pick [0, 1, 2, 3, 4] (by decide))
            · skip
              have hm94 := br_f h63 hm61; clear hm61
              refine WC.exit ?_
              refine WQ.then_exit ?_
              refine WQ.then_exit ?_
              refine WQ.block_exit ?_
              exact WQ.out2 v32_4 x45_4 ⟨up_brk hm94 hn62, hlv32_4⟩ ⟨rfl, rfl, rfl, rfl, rfl, rfl, rfl, rfl, rfl, rfl, trivial⟩ (fun w hw => hw.pick [0, 1, 2, 3, 4] (by decide))
        · skip
          have hm95 := br_f h45 hm43; clear hm43
          refine WC.exit ?_
          refine WQ.then_exit ?_
          refine WQ.then_exit ?_
          refine WQ.block_exit ?_
          exact WQ.out2 v32_3 x39_3 ⟨up_brk hm95 hn44, hlv32_3⟩ ⟨rfl, rfl, rfl, rfl, rfl, rfl, rfl, trivial⟩ (fun w hw => hw.pick [0, 1, 2, 3, 4] (by decide))

set_option maxRecDepth 8000 in
theorem check_Leave_w {v_l_logs : Value} {v_l_body : Value} {v_l_outs : Value} {v_k__ops : Value} {v_order : Value} {v_before : Value} {v_regs : Value} {l : Lp} {t : Tgt} {k_ : Krn} {order : List Int} {before : List (List Int)} {regs : List Int} {turns : Int} {r : List Int × Int} {K0 : World} (hm : check_Leave_m l t k_ order before regs turns = some r) (h_l_logs : Arr K0 v_l_logs 1 (l.logs.map icell)) (h_l_body : Arr K0 v_l_body 9 (l.body.map Stm.cells)) (h_l_outs : Arr K0 v_l_outs 1 (l.outs.map icell)) (h_k__ops : Arr K0 v_k__ops 10 (k_.ops.map Opr.cells)) (h_order : Arr K0 v_order 1 (order.map icell)) (h_before : RowsA K0 v_before before) (h_regs : Arr K0 v_regs 1 (regs.map icell)) (M : Nat → Prop) (w : World) (hk : Base M K0 w) (hw0 : Own M w [] w) : Calls Try.prog 10 #[.agg #[v_l_logs, v_l_body, v_l_outs], .agg #[.int .i64 t.u0, .int .i64 t.u1, .int .i64 t.u2, .int .i64 t.w0, .int .i64 t.w1, .int .i64 t.w2, .int .i64 t.regs], .agg #[.int .i64 k_.pace, .int .i64 k_.stages, v_k__ops], v_order, v_before, v_regs, .int .i64 turns] w (fun e w' => ∃ X : Value × World, e = .returned (.tuple #[X.1, .int .i64 r.2]) ∧ Own M w (kn M w.heap.size K0 X.2 :: []) w' ∧ Arr X.2 X.1 1 (r.1.map icell)) := by
  unfold check_Leave_m at hm
  refine calls_of_WC (n := 91) (args := [.agg #[v_l_logs, v_l_body, v_l_outs], .agg #[.int .i64 t.u0, .int .i64 t.u1, .int .i64 t.u2, .int .i64 t.w0, .int .i64 t.w1, .int .i64 t.w2, .int .i64 t.regs], .agg #[.int .i64 k_.pace, .int .i64 k_.stages, v_k__ops], v_order, v_before, v_regs, .int .i64 turns]) Try.func10 rfl rfl (Nat.le_of_ble_eq_true rfl) ?_ (Own.startK hk hw0)
  refine WC.seq ?_
  refine WC.region ?_
  refine WL.effect rfl ?_
  refine (EV.boxAgg (by decide) rfl rfl (fun b1 => ?_))
  refine WL.effect rfl ?_
  refine (EV.boxAgg (by decide) rfl rfl (fun b2 => ?_))
  refine WL.effect rfl ?_
  refine (EV.boxAgg (by decide) rfl rfl (fun b3 => ?_))
  refine WL.q rfl rfl rfl (QV.assign rfl rfl) ?_
  refine WL.q rfl rfl rfl (QV.assign rfl rfl) ?_
  refine WL.nil ?_
  refine WQ.then ?_
  refine WC.seq ?_
  refine WC.region ?_
  refine WL.q rfl rfl rfl (QV.loadAgg ag25 rfl rfl rfl (Own.cellsBlk 2 rfl)) ?_
  refine WL.q rfl rfl rfl (QV.loadAgg ag28 rfl rfl rfl (Own.cellsBlk 1 rfl)) ?_
  refine WL.q rfl rfl rfl (QV.loadAgg ag31 rfl rfl rfl (Own.cellsBlk 0 rfl)) ?_
  refine WL.q rfl rfl rfl (QV.move rfl rfl) ?_
  refine WL.effect rfl ?_
  obtain ⟨x4, hx5, hm6⟩ := bd_some hm; clear hm
  refine EV.of (C' := Own M w [kn M w.heap.size K0 K0, blk b3 [.int .i64 k_.pace, .int .i64 k_.stages, v_k__ops] 31, blk b2 [.int .i64 t.u0, .int .i64 t.u1, .int .i64 t.u2, .int .i64 t.w0, .int .i64 t.w1, .int .i64 t.w2, .int .i64 t.regs] 28, blk b1 [v_l_logs, v_l_body, v_l_outs] 25]) (fun w hw => hw.pick [3, 0, 1, 2] (by decide)) ?_
  refine (EV.callR (X := Value × World) (R := []) (fun X => .tuple #[X.1, .bool x4.2]) (fun X => []) (fun X => X.2) (fun X => LayAt X.2 X.1 x4.1) hk (fun _ h => by cases h; decide) en28 (EvAll.cons rfl rfl (EvAll.cons rfl rfl (EvAll.cons rfl rfl (EvAll.cons rfl rfl EvAll.nil)))) (fun M w h1 h2 => have h := check_takes_w hx5 h_l_logs h_l_body h_l_outs h_k__ops h_order M w h1 h2; h) (fun X7 hF7 hle7 => ?_))
  rcases hE8 : x4.1 with _ | y9
  · skip
    have hm10 := optC_none hE8 hm6; clear hm6
    obtain ⟨c11, hm12⟩ := ck_some hm10; clear hm10
    have e13 := LayAt.nil hF7 hE8
    rw [e13, c11]
    refine WL.q rfl rfl rfl (QV.move rfl rfl) ?_
    refine WL.q rfl rfl rfl (QV.extract rfl rfl rfl) ?_
    refine WL.q rfl rfl rfl (QV.extract rfl rfl rfl) ?_
    refine WL.q rfl rfl rfl (QV.assign rfl rfl) ?_
    refine WL.q rfl rfl rfl (QV.assign rfl rfl) ?_
    refine WL.nil ?_
    refine WQ.then ?_
    refine WC.seq ?_
    refine WC.block ?_
    refine WC.seq ?_
    refine WC.region ?_
    refine WL.q rfl rfl rfl (QV.move rfl rfl) ?_
    refine WL.q rfl rfl rfl (QV.not rfl rfl) ?_
    refine WL.q rfl rfl rfl (QV.move rfl rfl) ?_
    refine WL.g rfl rfl (GuardIs.neg rfl rfl) (fun hG => QV.loadAgg ag25 rfl rfl rfl (Own.cellsBlk 3 rfl)) ?_
    refine WL.g rfl rfl (GuardIs.neg rfl rfl) (fun hG => QV.move rfl rfl) ?_
    obtain ⟨x14, hx15, hm16⟩ := bdG_some hm12; clear hm12
    refine WL.g rfl rfl (GuardIs.neg rfl rfl) (fun hG => QV.call en35 (EvAll.cons rfl hG (EvAll.cons rfl hG EvAll.nil)) (fun w hw => have h := check_fits_w w (hx15 hG) ((Own.karr 0 rfl hk (h_l_logs.le hle7)) w hw) ((Own.karr 0 rfl hk (h_l_body.le hle7)) w hw) ((Own.karr 0 rfl hk (h_l_outs.le hle7)) w hw) (Own.krows 0 rfl hk (h_before.le hle7) w hw); h)) ?_
    refine WL.g rfl rfl (GuardIs.neg rfl rfl) (fun hG => QV.not rfl hG) ?_
    refine WL.q rfl rfl rfl (QV.pickOr rfl rfl rfl (fun h => notF h)) ?_
    refine WL.q rfl rfl rfl (QV.move rfl rfl) ?_
    refine WL.g rfl rfl (GuardIs.neg rfl rfl) (fun hG => QV.move rfl rfl) ?_
    refine WL.g rfl rfl (GuardIs.neg rfl rfl) (fun hG => QV.lenS Try.underlying33 rfl hG (h_regs.le hle7).lenMap) ?_
    refine WL.g rfl rfl (GuardIs.neg rfl rfl) (fun hG => QV.fieldAddr fd28_2 rfl rfl) ?_
    refine WL.g rfl rfl (GuardIs.neg rfl rfl) (fun hG => QV.load pl3 rfl hG (Own.cell 2 rfl rfl)) ?_
    refine WL.g rfl rfl (GuardIs.neg rfl rfl) (fun hG => QV.neq rfl hG rfl hG) ?_
    refine WL.q rfl rfl rfl (QV.pickOr rfl rfl rfl (fun h => notF h)) ?_
    refine WL.q rfl rfl rfl (QV.assign rfl rfl) ?_
    refine WL.nil ?_
    refine WQ.then ?_
    refine WC.cond rfl (fun h17 => ?_) (fun h17 => ?_)
    · skip
      refine WC.seq ?_
      refine WC.region ?_
      refine WL.q rfl rfl rfl (QV.assign rfl rfl) ?_
      refine WL.q rfl rfl rfl (QV.assign rfl rfl) ?_
      refine WL.nil ?_
      refine WQ.then ?_
      refine WC.ret ?_
      refine WQ.block_ret ?_
      refine WQ.then_ret ?_
      obtain rfl := (eq_of_some hm16).symm
      refine WQ.ret2 rfl rfl rfl (fun w hw => ?_)
      exact ⟨(.slice none 0 0, X7.2), rfl, hw.pick [0] (by decide), Arr.nil⟩
    · skip
      exact absurd h17 (by simp)
  · skip
    have hm18 := optC_some hE8 hm6; clear hm6
    obtain ⟨p19, u19_1, u19_2, u19_3, u19_4, u19_5, u19_6, hP19, hC19, hA19_1, hA19_2, hA19_3, hA19_4, hA19_5, hA19_6⟩ := LayAt.at hF7 hE8
    rw [hP19]
    refine WL.q rfl rfl rfl (QV.move rfl rfl) ?_
    refine WL.q rfl rfl rfl (QV.extract rfl rfl rfl) ?_
    refine WL.q rfl rfl rfl (QV.extract rfl rfl rfl) ?_
    refine WL.q rfl rfl rfl (QV.assign rfl rfl) ?_
    refine WL.q rfl rfl rfl (QV.assign rfl rfl) ?_
    refine WL.nil ?_
    refine WQ.then ?_
    refine WC.seq ?_
    refine WC.block ?_
    refine WC.seq ?_
    refine WC.region ?_
    refine WL.q rfl rfl rfl (QV.move rfl rfl) ?_
    refine WL.q rfl rfl rfl (QV.not rfl rfl) ?_
    refine WL.q rfl rfl rfl (QV.move rfl rfl) ?_
    refine WL.g rfl rfl (GuardIs.neg rfl rfl) (fun hG => QV.loadAgg ag25 rfl rfl rfl (Own.cellsBlk 3 rfl)) ?_
    refine WL.g rfl rfl (GuardIs.neg rfl rfl) (fun hG => QV.move rfl rfl) ?_
    obtain ⟨x20, hx21, hm22⟩ := bdG_some hm18; clear hm18
    refine WL.g rfl rfl (GuardIs.neg rfl rfl) (fun hG => QV.call en35 (EvAll.cons rfl hG (EvAll.cons rfl hG EvAll.nil)) (fun w hw => have h := check_fits_w w (hx21 hG) ((Own.karr 0 rfl hk (h_l_logs.le hle7)) w hw) ((Own.karr 0 rfl hk (h_l_body.le hle7)) w hw) ((Own.karr 0 rfl hk (h_l_outs.le hle7)) w hw) (Own.krows 0 rfl hk (h_before.le hle7) w hw); h)) ?_
    refine WL.g rfl rfl (GuardIs.neg rfl rfl) (fun hG => QV.not rfl hG) ?_
    refine WL.q rfl rfl rfl (QV.pickOr rfl rfl rfl (fun h => notF h)) ?_
    refine WL.q rfl rfl rfl (QV.move rfl rfl) ?_
    refine WL.g rfl rfl (GuardIs.neg rfl rfl) (fun hG => QV.move rfl rfl) ?_
    refine WL.g rfl rfl (GuardIs.neg rfl rfl) (fun hG => QV.lenS Try.underlying33 rfl hG (h_regs.le hle7).lenMap) ?_
    refine WL.g rfl rfl (GuardIs.neg rfl rfl) (fun hG => QV.fieldAddr fd28_2 rfl rfl) ?_
    refine WL.g rfl rfl (GuardIs.neg rfl rfl) (fun hG => QV.load pl3 rfl hG (Own.cell 2 rfl rfl)) ?_
    refine WL.g rfl rfl (GuardIs.neg rfl rfl) (fun hG => QV.neq rfl hG rfl hG) ?_
    refine WL.q rfl rfl rfl (QV.pickOr rfl rfl rfl (fun h => notF h)) ?_
    refine WL.q rfl rfl rfl (QV.assign rfl rfl) ?_
    refine WL.nil ?_
    refine WQ.then ?_
    refine WC.cond rfl (fun h23 => ?_) (fun h23 => ?_)
    · skip
      have hm24 := br_t h23 hm22; clear hm22
      refine WC.seq ?_
      refine WC.region ?_
      refine WL.q rfl rfl rfl (QV.assign rfl rfl) ?_
      refine WL.q rfl rfl rfl (QV.assign rfl rfl) ?_
      refine WL.nil ?_
      refine WQ.then ?_
      refine WC.ret ?_
      refine WQ.block_ret ?_
      refine WQ.then_ret ?_
      obtain rfl := (eq_of_some hm24).symm
      refine WQ.ret2 rfl rfl rfl (fun w hw => ?_)
      exact ⟨(.slice none 0 0, X7.2), rfl, hw.pick [0] (by decide), Arr.nil⟩
    · skip
      have hm25 := br_f h23 hm22; clear hm22
      refine WC.seq ?_
      refine WC.region ?_
      refine WL.q rfl rfl rfl (QV.move rfl rfl) ?_
      refine WL.q rfl rfl rfl (QV.lss rfl rfl rfl rfl) ?_
      refine WL.q rfl rfl rfl (QV.move rfl rfl) ?_
      refine WL.g rfl rfl (GuardIs.neg rfl rfl) (fun hG => QV.move rfl rfl) ?_
      refine WL.g rfl rfl (GuardIs.neg rfl rfl) (fun hG => QV.gtr rfl hG rfl rfl) ?_
      refine WL.q rfl rfl rfl (QV.pickOr rfl rfl rfl (fun h => notF h)) ?_
      refine WL.q rfl rfl rfl (QV.assign rfl rfl) ?_
      refine WL.nil ?_
      refine WQ.then ?_
      refine WC.cond rfl (fun h26 => ?_) (fun h26 => ?_)
      · skip
        have hm27 := br_t h26 hm25; clear hm25
        refine WC.seq ?_
        refine WC.region ?_
        refine WL.q rfl rfl rfl (QV.assign rfl rfl) ?_
        refine WL.q rfl rfl rfl (QV.assign rfl rfl) ?_
        refine WL.nil ?_
        refine WQ.then ?_
        refine WC.ret ?_
        refine WQ.block_ret ?_
        refine WQ.then_ret ?_
        obtain rfl := (eq_of_some hm27).symm
        refine WQ.ret2 rfl rfl rfl (fun w hw => ?_)
        exact ⟨(.slice none 0 0, X7.2), rfl, hw.pick [0] (by decide), Arr.nil⟩
      · skip
        have hm28 := br_f h26 hm25; clear hm25
        refine WC.skip ?_
        refine WQ.block ?_
        refine WQ.then ?_
        refine WC.seq ?_
        refine WC.region ?_
        refine WL.q rfl rfl rfl (QV.assign rfl rfl) ?_
        refine WL.nil ?_
        refine WQ.then ?_
        refine WC.seq ?_
        refine WC.seq ?_
        refine WC.region ?_
        refine WL.q rfl rfl rfl (QV.fieldAddr fd25_2 rfl rfl) ?_
        refine WL.q rfl rfl rfl (QV.load pl22 rfl rfl (Own.cell 3 rfl rfl)) ?_
        refine WL.q rfl rfl rfl (QV.lenS Try.underlying22 rfl rfl (h_l_outs.le hle7).lenMap) ?_
        refine WL.q rfl rfl rfl (QV.move rfl rfl) ?_
        refine WL.nil ?_
        refine WQ.then ?_
        refine WK.of (fun w hw => hw.vecNil (E := 2) (sz := 1) (enc := icell)) ?_
        obtain ⟨o30, ho31, hm32⟩ := bd_some hm28; clear hm28; obtain ⟨n33, ho34⟩ := lp_some ho31
        refine WC.bloop3 (H2 := [kn M w.heap.size K0 X7.2, blk b3 [.int .i64 k_.pace, .int .i64 k_.stages, v_k__ops] 31, blk b2 [.int .i64 t.u0, .int .i64 t.u1, .int .i64 t.u2, .int .i64 t.w0, .int .i64 t.w1, .int .i64 t.w2, .int .i64 t.regs] 28, blk b1 [v_l_logs, v_l_body, v_l_outs] 25]) (τ := [(4, (true, _)), (5, (true, _)), (6, (true, _)), (8, (true, _)), (16, (true, _)), (53, (true, _)), (54, (true, _))]) (fun (v29_1 : List Int) (x55_1 : Int) (uv29_1 : Value) => [(18, (true, uv29_1)), (55, (true, .int .i64 x55_1))]) (fun (v29_1 : List Int) (x55_1 : Int) (uv29_1 : Value) => [vec uv29_1 2 1 (List.map icell v29_1)]) (fun (v29_1 : List Int) (x55_1 : Int) (uv29_1 : Value) (m : Nat) => iter (check_Leave_L1 l t before regs turns y9) m (v29_1, x55_1) = some o30 ∧ SliceLen uv29_1 v29_1.length) (fun (v29_1 : List Int) (x55_1 : Int) (uv29_1 : Value) => o30 = .go (v29_1, x55_1) ∧ SliceLen uv29_1 v29_1.length) [] 0 (.slice none 0 0) n33 ⟨ho34, SliceLen.nil⟩ ⟨rfl, rfl, rfl, rfl, rfl, rfl, rfl, rfl, rfl, trivial⟩ (fun w hw => hw.pick [0, 1, 2, 3, 4] (by decide)) ?_ ?_
        · skip
          rintro v29_1 x55_1 uv29_1 ⟨rfl, hlv29_1⟩
          refine WQ.then ?_
          refine WC.seq ?_
          refine WC.region ?_
          refine WL.q rfl rfl rfl (QV.move rfl rfl) ?_
          refine WL.q rfl rfl rfl (QV.assign rfl rfl) ?_
          refine WL.q rfl rfl rfl (QV.assign rfl rfl) ?_
          refine WL.nil ?_
          refine WQ.then ?_
          refine WC.ret ?_
          obtain rfl := (eq_of_some hm32).symm
          refine WK.of (C' := Own M w [kn M w.heap.size K0 X7.2, vec uv29_1 2 1 (List.map icell v29_1), blk b3 [.int .i64 k_.pace, .int .i64 k_.stages, v_k__ops] 31, blk b2 [.int .i64 t.u0, .int .i64 t.u1, .int .i64 t.u2, .int .i64 t.w0, .int .i64 t.w1, .int .i64 t.w2, .int .i64 t.regs] 28, blk b1 [v_l_logs, v_l_body, v_l_outs] 25]) (fun w hw => hw.pick [1, 0, 2, 3, 4] (by decide)) ?_
          refine WK.freeze hk (fun k35 hle35 hr35 => ?_)
          have hA35 := vec_arr hr35
          refine WQ.ret2 rfl rfl rfl (fun w hw => ?_)
          exact ⟨(uv29_1, k35), rfl, hw.pick [0] (by decide), hA35⟩
        · skip
          rintro v29_1 x55_1 uv29_1 m36 ⟨hI37, hlv29_1⟩
          obtain ⟨m38, s39, rfl, hm40, hn41⟩ := iter_step hI37; clear hI37; unfold check_Leave_L1 at hm40; simp only at hm40
          refine WC.seq ?_
          refine WC.region ?_
          refine WL.q rfl rfl rfl (QV.lss rfl rfl rfl rfl) ?_
          refine WL.nil ?_
          refine WQ.then ?_
          refine WC.seq ?_
          refine WC.cond rfl (fun h42 => ?_) (fun h42 => ?_)
          · skip
            have hm43 := br_t h42 hm40; clear hm40
            refine WC.skip ?_
            refine WQ.then ?_
            refine WC.seq ?_
            refine WC.block ?_
            refine WC.seq ?_
            refine WC.region ?_
            obtain ⟨c44, hm45⟩ := ck_some hm43; clear hm43
            obtain ⟨p46, hp47⟩ := (h_l_outs.le hle7).lenMap.ix (sz := 1) ln_len c44
            refine WL.q rfl rfl rfl (QV.indexSlice sl22 rfl rfl rfl rfl hp47) ?_
            refine WL.q rfl rfl rfl (QV.load pl3 rfl rfl (fun w hw => CellsAt.one 0 (((Own.karr 1 rfl hk (h_l_outs.le hle7)) w hw).ele hp47 c44) rfl)) ?_
            refine WL.q rfl rfl rfl (QV.assign rfl rfl) ?_
            refine WL.nil ?_
            refine WQ.then ?_
            refine WC.seq ?_
            refine WC.region ?_
            refine WL.q rfl rfl rfl (QV.move rfl rfl) ?_
            refine WL.q rfl rfl rfl (QV.eql rfl rfl rfl rfl) ?_
            refine WL.nil ?_
            refine WQ.then ?_
            refine WC.cond rfl (fun h48 => ?_) (fun h48 => ?_)
            · skip
              have hm49 := br_t h48 hm45; clear hm45
              refine WC.region ?_
              refine WL.q rfl rfl rfl (QV.move rfl rfl) ?_
              refine WL.q rfl rfl rfl (QV.move rfl rfl) ?_
              refine WL.q rfl rfl rfl (QV.move rfl rfl) ?_
              obtain ⟨c50, hm51⟩ := ck_some hm49; clear hm49
              obtain ⟨p52, u54, hp53, hc55, hA56⟩ := (h_before.le hle7).ix c50
              refine WL.q rfl rfl rfl (QV.indexSlice sl32 rfl rfl rfl rfl hp53) ?_
              refine WL.q rfl rfl rfl (QV.load pl33 rfl rfl (fun w hw => CellsAt.one 0 ((Own.kcells 1 rfl hk hc55) w hw) rfl)) ?_
              obtain ⟨c57, hm58⟩ := ck_some hm51; clear hm51
              obtain ⟨p59, hp60⟩ := hA56.lenMap.ix (sz := 1) ln_len c57
              refine WL.q rfl rfl rfl (QV.indexSlice sl33 rfl rfl rfl rfl hp60) ?_
              refine WL.q rfl rfl rfl (QV.load pl2 rfl rfl (fun w hw => CellsAt.one 0 (((Own.karr 1 rfl hk hA56) w hw).ele hp60 c57) rfl)) ?_
              refine WL.effect rfl ?_
              refine (EV.buildSlice (by decide) sz_33 (by decide) (by decide) (ps := [(0, .tmp 67)]) (cells := [.int .i64 (ele (ele before (ele l.outs x55_1)) 0)]) (EvAll.cons rfl rfl EvAll.nil) (by kernel_rfl) (fun b61 => ?_))
              refine WL.effect rfl ?_
              obtain ⟨c62, hm63⟩ := ck_some hm58; clear hm58
              refine (EV.appendL (enc := icell) (xs := v29_1) (ys := [(ele (ele before (ele l.outs x55_1)) 0)]) ((v29_1 ++ [(ele (ele before (ele l.outs x55_1)) 0)])) 1 (by decide) ve33 rfl rfl rfl rfl rfl (Own.blkArr 0 (rows := [(ele (ele before (ele l.outs x55_1)) 0)].map icell) rfl rfl (rows_len icell_len)) icell_len (icell_one _) rfl c62.1 c62.2 (fun u64 hu65 => ?_))
              refine WL.q rfl rfl rfl (QV.assign rfl rfl) ?_
              refine WL.nil ?_
              refine WQ.block ?_
              refine WQ.then ?_
              refine WC.region ?_
              obtain ⟨c66, hm67⟩ := ck_some hm63; clear hm63
              refine WL.q rfl rfl rfl (QV.add rfl rfl rfl rfl c66) ?_
              refine WL.q rfl rfl rfl (QV.move rfl rfl) ?_
              refine WL.nil ?_
              exact WQ.again3 (v29_1 ++ [(ele (ele before (ele l.outs x55_1)) 0)]) (x55_1 + 1) u64 m38 ⟨up_next hm67 hn41, hu65⟩ (Nat.lt_succ_self _) ⟨rfl, rfl, rfl, rfl, rfl, rfl, rfl, rfl, rfl, trivial⟩ (fun w hw => hw.pick [1, 2, 3, 4, 5] (by decide))
            · skip
              have hm68 := br_f h48 hm45; clear hm45
              refine WC.dr (m := 20) (S := Own M w [kn M w.heap.size K0 X7.2, blk b3 [.int .i64 k_.pace, .int .i64 k_.stages, v_k__ops] 31, blk b2 [.int .i64 t.u0, .int .i64 t.u1, .int .i64 t.u2, .int .i64 t.w0, .int .i64 t.w1, .int .i64 t.w2, .int .i64 t.regs] 28, blk b1 [v_l_logs, v_l_body, v_l_outs] 25]) (by kernel_rfl) (by kernel_rfl) (fun w hw => hw.pick [1, 2, 3, 4] (by decide)) ?_
              refine WD.q 0 rfl (by kernel_rfl) rfl rfl rfl (QV.move rfl rfl) ?_
              refine WD.q 1 rfl (by kernel_rfl) rfl rfl rfl (QV.move rfl rfl) ?_
              refine WD.q 2 rfl (by kernel_rfl) rfl rfl rfl (QV.move rfl rfl) ?_
              refine WD.q 3 rfl (by kernel_rfl) rfl rfl rfl (QV.nilCheck rfl rfl) ?_
              refine WD.q 4 rfl (by kernel_rfl) rfl rfl rfl (QV.fieldAddr fd87_5 rfl rfl) ?_
              refine WD.q 5 rfl (by kernel_rfl) rfl rfl rfl (QV.load pl22 rfl rfl (fun w hw => CellsAt.one 7 ((Own.kcells 0 rfl hk hC19) w hw) rfl)) ?_
              refine WD.q 6 rfl (by kernel_rfl) rfl rfl rfl (QV.move rfl rfl) ?_
              obtain ⟨c69, hm70⟩ := ck_some hm68; clear hm68
              obtain ⟨p71, hp72⟩ := hA19_6.lenMap.ix (sz := 1) ln_len c69
              refine WD.q 7 rfl (by kernel_rfl) rfl rfl rfl (QV.indexSlice sl22 rfl rfl rfl rfl hp72) ?_
              refine WD.q 8 rfl (by kernel_rfl) rfl rfl rfl (QV.load pl3 rfl rfl (fun w hw => CellsAt.one 0 (((Own.karr 0 rfl hk hA19_6) w hw).ele hp72 c69) rfl)) ?_
              refine WD.q 9 rfl (by kernel_rfl) rfl rfl rfl (QV.move rfl rfl) ?_
              obtain ⟨c73, hm74⟩ := ck_some hm70; clear hm70
              refine WD.q 10 rfl (by kernel_rfl) rfl rfl rfl (QV.add rfl rfl rfl rfl c73) ?_
              obtain ⟨c75, hm76⟩ := ck_some hm74; clear hm74
              refine WD.q 11 rfl (by kernel_rfl) rfl rfl rfl (QV.sub rfl rfl rfl rfl c75) ?_
              refine WD.q 12 rfl (by kernel_rfl) rfl rfl rfl (QV.fieldAddr fd28_2 rfl rfl) ?_
              refine WD.q 13 rfl (by kernel_rfl) rfl rfl rfl (QV.load pl3 rfl rfl (Own.cell 2 rfl rfl)) ?_
              obtain ⟨x77, hx78, hm79⟩ := bd_some hm76; clear hm76
              refine WD.q 14 rfl (by kernel_rfl) rfl rfl rfl (QV.call en37 (EvAll.cons rfl rfl (EvAll.cons rfl rfl EvAll.nil)) (fun w hw => have h := emit_Rest_w w hx78 ; h)) ?_
              obtain ⟨c80, hm81⟩ := ck_some hm79; clear hm79
              obtain ⟨p82, hp83⟩ := (h_regs.le hle7).lenMap.ix (sz := 1) ln_len c80
              refine WD.q 15 rfl (by kernel_rfl) rfl rfl rfl (QV.indexSlice sl33 rfl rfl rfl rfl hp83) ?_
              refine WD.q 16 rfl (by kernel_rfl) rfl rfl rfl (QV.load pl2 rfl rfl (fun w hw => CellsAt.one 0 (((Own.karr 0 rfl hk (h_regs.le hle7)) w hw).ele hp83 c80) rfl)) ?_
              refine WD.o 17 rfl (by kernel_rfl) rfl ?_
              refine (EV.buildSlice (by decide) sz_33 (by decide) (by decide) (ps := [(0, .tmp 86)]) (cells := [.int .i64 (ele regs x77)]) (EvAll.cons rfl rfl EvAll.nil) (by kernel_rfl) (fun b84 => ?_))
              refine WD.b (H' := [kn M w.heap.size K0 X7.2, blk b84 [.int .i64 (ele regs x77)] 2, blk b3 [.int .i64 k_.pace, .int .i64 k_.stages, v_k__ops] 31, blk b2 [.int .i64 t.u0, .int .i64 t.u1, .int .i64 t.u2, .int .i64 t.w0, .int .i64 t.w1, .int .i64 t.w2, .int .i64 t.regs] 28, blk b1 [v_l_logs, v_l_body, v_l_outs] 25]) (fun w hw => hw.pick [2, 0, 3, 4, 5] (by decide)) (fun w hw => hw.pick [0, 2, 3, 4] (by decide)) ?_
              refine WD.o 18 rfl (by kernel_rfl) rfl ?_
              obtain ⟨c85, hm86⟩ := ck_some hm81; clear hm81
              refine (EV.appendL (enc := icell) (xs := v29_1) (ys := [(ele regs x77)]) ((v29_1 ++ [(ele regs x77)])) 1 (by decide) ve33 rfl rfl rfl rfl rfl (Own.blkArr 0 (rows := [(ele regs x77)].map icell) rfl rfl (rows_len icell_len)) icell_len (icell_one _) rfl c85.1 c85.2 (fun u87 hu88 => ?_))
              refine WD.b (H' := [kn M w.heap.size K0 X7.2, blk b84 [.int .i64 (ele regs x77)] 2, vec u87 2 1 (List.map icell (v29_1 ++ [(ele regs x77)])), blk b3 [.int .i64 k_.pace, .int .i64 k_.stages, v_k__ops] 31, blk b2 [.int .i64 t.u0, .int .i64 t.u1, .int .i64 t.u2, .int .i64 t.w0, .int .i64 t.w1, .int .i64 t.w2, .int .i64 t.regs] 28, blk b1 [v_l_logs, v_l_body, v_l_outs] 25]) (fun w hw => hw.pick [2, 0, 1, 3, 4, 5] (by decide)) (fun w hw => hw.pick [0, 1, 3, 4, 5] (by decide)) ?_
              refine WD.q 19 rfl (by kernel_rfl) rfl rfl rfl (QV.assign rfl rfl) ?_
              refine WD.e (by kernel_rfl) ?_
              refine WQ.block ?_
              refine WQ.then ?_
              refine WC.region ?_
              obtain ⟨c89, hm90⟩ := ck_some hm86; clear hm86
              refine WL.q rfl rfl rfl (QV.add rfl rfl rfl rfl c89) ?_
              refine WL.q rfl rfl rfl (QV.move rfl rfl) ?_
              refine WL.nil ?_
              exact WQ.again3 (v29_1 ++ [(ele regs x77)]) (x55_1 + 1) u87 m38 ⟨up_next hm90 hn41, hu88⟩ (Nat.lt_succ_self _) ⟨rfl, rfl, rfl, rfl, rfl, rfl, rfl, rfl, rfl, trivial⟩ (fun w hw => hw.pick [1, 2, 3, 4, 5] (by decide))
          · skip
            have hm91 := br_f h42 hm40; clear hm40
            refine WC.exit ?_
            refine WQ.then_exit ?_
            refine WQ.then_exit ?_
            refine WQ.block_exit ?_
            exact WQ.out3 v29_1 x55_1 uv29_1 ⟨up_brk hm91 hn41, hlv29_1⟩ ⟨rfl, rfl, rfl, rfl, rfl, rfl, rfl, rfl, rfl, trivial⟩ (fun w hw => hw.pick [0, 1, 2, 3, 4] (by decide))
end Go.Proofs.Ytaimbkndebaaiac
end

section
namespace Go.Proofs.Ytaimbkndebaaiac
open Go.Rd
set_option linter.unusedVariables false
namespace TRDep
theorem ag25 : AggT Try.prog 25 3 := ⟨_, Try.underlying25, rfl, by kernel_rfl⟩
theorem ag28 : AggT Try.prog 28 7 := ⟨_, Try.underlying28, rfl, by kernel_rfl⟩
theorem ag71 : AggT Try.prog 71 4 := ⟨_, Try.underlying71, rfl, by kernel_rfl⟩
theorem ag81 : AggT Try.prog 81 9 := ⟨_, Try.underlying81, rfl, by kernel_rfl⟩
theorem en103 : Go.Rd.Enters Try.prog 103 := ⟨Try.f103, Try.func103, by kernel_rfl, by kernel_rfl⟩
theorem en104 : Go.Rd.Enters Try.prog 104 := ⟨Try.f104, Try.func104, by kernel_rfl, by kernel_rfl⟩
theorem en30 : Go.Rd.Enters Try.prog 30 := ⟨Try.f30, Try.func30, by kernel_rfl, by kernel_rfl⟩
theorem en31 : Go.Rd.Enters Try.prog 31 := ⟨Try.f31, Try.func31, by kernel_rfl, by kernel_rfl⟩
theorem en43 : Go.Rd.Enters Try.prog 43 := ⟨Try.f43, Try.func43, by kernel_rfl, by kernel_rfl⟩
theorem en44 : Go.Rd.Enters Try.prog 44 := ⟨Try.f44, Try.func44, by kernel_rfl, by kernel_rfl⟩
theorem en47 : Go.Rd.Enters Try.prog 47 := ⟨Try.f47, Try.func47, by kernel_rfl, by kernel_rfl⟩
theorem en48 : Go.Rd.Enters Try.prog 48 := ⟨Try.f48, Try.func48, by kernel_rfl, by kernel_rfl⟩
theorem en65 : Go.Rd.Enters Try.prog 65 := ⟨Try.f65, Try.func65, by kernel_rfl, by kernel_rfl⟩
theorem fd25_0 : FieldT Try.prog 25 0 0 := ⟨_, _, 0, Try.underlying25, rfl, rfl, by kernel_rfl⟩
theorem fd25_1 : FieldT Try.prog 25 1 1 := ⟨_, _, 0, Try.underlying25, rfl, rfl, by kernel_rfl⟩
theorem fd71_0 : FieldT Try.prog 71 0 0 := ⟨_, _, 0, Try.underlying71, rfl, rfl, by kernel_rfl⟩
theorem fd71_1 : FieldT Try.prog 71 1 1 := ⟨_, _, 0, Try.underlying71, rfl, rfl, by kernel_rfl⟩
theorem fd71_2 : FieldT Try.prog 71 2 2 := ⟨_, _, 0, Try.underlying71, rfl, rfl, by kernel_rfl⟩
theorem fd71_3 : FieldT Try.prog 71 3 3 := ⟨_, _, 0, Try.underlying71, rfl, rfl, by kernel_rfl⟩
theorem fd79_0 : FieldT Try.prog 79 0 0 := ⟨_, _, 0, Try.underlying79, rfl, rfl, by kernel_rfl⟩
theorem fd79_1 : FieldT Try.prog 79 1 1 := ⟨_, _, 0, Try.underlying79, rfl, rfl, by kernel_rfl⟩
theorem fd81_0 : FieldT Try.prog 81 0 0 := ⟨_, _, 0, Try.underlying81, rfl, rfl, by kernel_rfl⟩
theorem fd81_3 : FieldT Try.prog 81 3 5 := ⟨_, _, 0, Try.underlying81, rfl, rfl, by kernel_rfl⟩
theorem fd81_4 : FieldT Try.prog 81 4 6 := ⟨_, _, 0, Try.underlying81, rfl, rfl, by kernel_rfl⟩
theorem fd81_5 : FieldT Try.prog 81 5 7 := ⟨_, _, 0, Try.underlying81, rfl, rfl, by kernel_rfl⟩
theorem pl22 : Plain Try.prog 22 := ⟨_, Try.underlying22, rfl⟩
theorem pl23 : Plain Try.prog 23 := ⟨_, Try.underlying23, rfl⟩
theorem pl3 : Plain Try.prog 3 := ⟨_, Try.underlying3, rfl⟩
theorem sl22 : SliceT Try.prog 22 3 1 := ⟨Try.underlying22, by kernel_rfl⟩
theorem sl23 : SliceT Try.prog 23 81 9 := ⟨Try.underlying23, by kernel_rfl⟩
theorem sl76 : SliceT Try.prog 76 79 2 := ⟨Try.underlying76, by kernel_rfl⟩
theorem sz71 : SizeT Try.prog 71 4 := by unfold SizeT; kernel_rfl
theorem sz81 : SizeT Try.prog 81 9 := by unfold SizeT; kernel_rfl
theorem sz_68 : SliceZ Try.prog 68 71 4 [.int .i64 0, .int .i64 0, .int .i64 0, .int .i64 0] := ⟨Try.underlying68, by kernel_rfl⟩
theorem ve68 : VecT Try.prog 68 71 4 32 := ⟨Try.underlying68, by kernel_rfl, by decide⟩
theorem ze71 : ZeroT Try.prog 71 [.int .i64 0, .int .i64 0, .int .i64 0, .int .i64 0] := by unfold ZeroT; kernel_rfl
theorem ze81 : ZeroT Try.prog 81 [.int .i64 0, .int .i64 0, .int .i64 0, .int .i64 0, .int .i64 0, .int .i64 0, .int .i64 0, .int .i64 0, .int .i64 0] := by unfold ZeroT; kernel_rfl
end TRDep
open TRDep
set_option maxRecDepth 8000 in
theorem roundelayref6_Meets_w {a : Stm} {b : Stm} {back : Int} {size : Int} {r : Bool} (w : World) (hm : roundelayref6_Meets_m a b back size = some r)  : Calls Try.prog 104 #[.agg #[.int .i64 a.op, .int .i64 a.a.st, .int .i64 a.a.bk, .int .i64 a.b.st, .int .i64 a.b.bk, .int .i64 a.ar, .int .i64 a.sp, .int .i64 a.pl, .int .i64 a.n], .agg #[.int .i64 b.op, .int .i64 b.a.st, .int .i64 b.a.bk, .int .i64 b.b.st, .int .i64 b.b.bk, .int .i64 b.ar, .int .i64 b.sp, .int .i64 b.pl, .int .i64 b.n], .int .i64 back, .int .i64 size] w (fun e w' => e = .returned (.bool r) ∧ Grow w w') := by
  unfold roundelayref6_Meets_m at hm
  have hk := Base.rfl (w := w)
  refine calls_of_WC (n := 40) (args := [.agg #[.int .i64 a.op, .int .i64 a.a.st, .int .i64 a.a.bk, .int .i64 a.b.st, .int .i64 a.b.bk, .int .i64 a.ar, .int .i64 a.sp, .int .i64 a.pl, .int .i64 a.n], .agg #[.int .i64 b.op, .int .i64 b.a.st, .int .i64 b.a.bk, .int .i64 b.b.st, .int .i64 b.b.bk, .int .i64 b.ar, .int .i64 b.sp, .int .i64 b.pl, .int .i64 b.n], .int .i64 back, .int .i64 size]) Try.func104 rfl rfl (Nat.le_of_ble_eq_true rfl) ?_ (Own.startK hk (Own.start w))
  refine WC.seq ?_
  refine WC.region ?_
  refine WL.effect rfl ?_
  refine (EV.boxAgg (by decide) rfl rfl (fun b1 => ?_))
  refine WL.effect rfl ?_
  refine (EV.boxAgg (by decide) rfl rfl (fun b2 => ?_))
  refine WL.q rfl rfl rfl (QV.assign rfl rfl) ?_
  refine WL.nil ?_
  refine WQ.then ?_
  refine WC.seq ?_
  refine WC.seq ?_
  refine WC.region ?_
  refine WL.q rfl rfl rfl (QV.assign rfl rfl) ?_
  refine WL.nil ?_
  refine WQ.then ?_
  obtain ⟨o3, ho4, hm5⟩ := bd_some hm; clear hm; obtain ⟨n6, ho7⟩ := lp_some ho4
  refine WC.bloop1 (H2 := [blk b2 [.int .i64 b.op, .int .i64 b.a.st, .int .i64 b.a.bk, .int .i64 b.b.st, .int .i64 b.b.bk, .int .i64 b.ar, .int .i64 b.sp, .int .i64 b.pl, .int .i64 b.n] 81, blk b1 [.int .i64 a.op, .int .i64 a.a.st, .int .i64 a.a.bk, .int .i64 a.b.st, .int .i64 a.b.bk, .int .i64 a.ar, .int .i64 a.sp, .int .i64 a.pl, .int .i64 a.n] 81, kn noM w.heap.size w w]) (τ := [(2, (true, _)), (3, (true, _)), (4, (true, _)), (5, (true, _))]) (fun (turn9_1 : Int) => [(9, (true, .int .i64 turn9_1))]) (fun (turn9_1 : Int) => []) (fun (turn9_1 : Int) (m : Nat) => iter (roundelayref6_Meets_L0 a b back size) m turn9_1 = some o3) (fun (turn9_1 : Int) => o3 = .go turn9_1) 0 n6 ho7 ⟨rfl, rfl, rfl, rfl, rfl, trivial⟩ (fun w hw => hw.pick [0, 1, 2] (by decide)) ?_ ?_
  · skip
    rintro turn9_1 rfl
    refine WQ.then ?_
    refine WC.seq ?_
    refine WC.region ?_
    refine WL.q rfl rfl rfl (QV.assign rfl rfl) ?_
    refine WL.nil ?_
    refine WQ.then ?_
    refine WC.ret ?_
    obtain rfl := (eq_of_some hm5).symm
    refine WQ.ret1 rfl rfl (fun w hw => ?_)
    exact ⟨rfl, Own.kgrow (fun _ x => x) hw⟩
  · skip
    rintro turn9_1 m8 hI9
    obtain ⟨m10, s11, rfl, hm12, hn13⟩ := iter_step hI9; clear hI9; unfold roundelayref6_Meets_L0 at hm12
    refine WC.seq ?_
    refine WC.seq ?_
    refine WC.region ?_
    refine WL.q rfl rfl rfl (QV.move rfl rfl) ?_
    refine WL.q rfl rfl rfl (QV.move rfl rfl) ?_
    refine WL.q rfl rfl rfl (QV.lss rfl rfl rfl rfl) ?_
    refine WL.nil ?_
    refine WQ.then ?_
    refine WC.cond rfl (fun h14 => ?_) (fun h14 => ?_)
    · skip
      have hm15 := br_t h14 hm12; clear hm12
      refine WC.skip ?_
      refine WQ.then ?_
      refine WC.seq ?_
      refine WC.block ?_
      refine WC.seq ?_
      refine WC.region ?_
      refine WL.q rfl rfl rfl (QV.fieldAddr fd81_4 rfl rfl) ?_
      refine WL.q rfl rfl rfl (QV.load pl3 rfl rfl (Own.cell 1 rfl rfl)) ?_
      refine WL.q rfl rfl rfl (QV.move rfl rfl) ?_
      obtain ⟨c16, hm17⟩ := ck_some hm15; clear hm15
      refine WL.q rfl rfl rfl (QV.mul rfl rfl rfl rfl c16) ?_
      refine WL.q rfl rfl rfl (QV.fieldAddr fd81_5 rfl rfl) ?_
      refine WL.q rfl rfl rfl (QV.load pl3 rfl rfl (Own.cell 1 rfl rfl)) ?_
      obtain ⟨c18, hm19⟩ := ck_some hm17; clear hm17
      refine WL.q rfl rfl rfl (QV.add rfl rfl rfl rfl c18) ?_
      refine WL.q rfl rfl rfl (QV.move rfl rfl) ?_
      obtain ⟨x20, hx21, hm22⟩ := bd_some hm19; clear hm19
      refine WL.q rfl rfl rfl (QV.call en31 (EvAll.cons rfl rfl (EvAll.cons rfl rfl EvAll.nil)) (fun w hw => have h := roundelayref1_Rest_w w hx21 ; h)) ?_
      refine WL.q rfl rfl rfl (QV.assign rfl rfl) ?_
      refine WL.nil ?_
      refine WQ.then ?_
      refine WC.seq ?_
      refine WC.region ?_
      refine WL.q rfl rfl rfl (QV.fieldAddr fd81_4 rfl rfl) ?_
      refine WL.q rfl rfl rfl (QV.load pl3 rfl rfl (Own.cell 0 rfl rfl)) ?_
      refine WL.q rfl rfl rfl (QV.move rfl rfl) ?_
      refine WL.q rfl rfl rfl (QV.move rfl rfl) ?_
      obtain ⟨c23, hm24⟩ := ck_some hm22; clear hm22
      refine WL.q rfl rfl rfl (QV.add rfl rfl rfl rfl c23) ?_
      obtain ⟨c25, hm26⟩ := ck_some hm24; clear hm24
      refine WL.q rfl rfl rfl (QV.mul rfl rfl rfl rfl c25) ?_
      refine WL.q rfl rfl rfl (QV.fieldAddr fd81_5 rfl rfl) ?_
      refine WL.q rfl rfl rfl (QV.load pl3 rfl rfl (Own.cell 0 rfl rfl)) ?_
      obtain ⟨c27, hm28⟩ := ck_some hm26; clear hm26
      refine WL.q rfl rfl rfl (QV.add rfl rfl rfl rfl c27) ?_
      refine WL.q rfl rfl rfl (QV.move rfl rfl) ?_
      obtain ⟨x29, hx30, hm31⟩ := bd_some hm28; clear hm28
      refine WL.q rfl rfl rfl (QV.call en31 (EvAll.cons rfl rfl (EvAll.cons rfl rfl EvAll.nil)) (fun w hw => have h := roundelayref1_Rest_w w hx30 ; h)) ?_
      refine WL.q rfl rfl rfl (QV.assign rfl rfl) ?_
      refine WL.nil ?_
      refine WQ.then ?_
      refine WC.seq ?_
      refine WC.region ?_
      refine WL.q rfl rfl rfl (QV.move rfl rfl) ?_
      refine WL.q rfl rfl rfl (QV.move rfl rfl) ?_
      refine WL.q rfl rfl rfl (QV.eql rfl rfl rfl rfl) ?_
      refine WL.nil ?_
      refine WQ.then ?_
      refine WC.cond rfl (fun h32 => ?_) (fun h32 => ?_)
      · skip
        have hm33 := br_t h32 hm31; clear hm31
        refine WC.seq ?_
        refine WC.region ?_
        refine WL.q rfl rfl rfl (QV.assign rfl rfl) ?_
        refine WL.nil ?_
        refine WQ.then ?_
        refine WC.ret ?_
        refine WQ.block_ret ?_
        refine WQ.then_ret ?_
        refine WQ.then_ret ?_
        refine WQ.block_ret ?_
        refine WQ.then_ret ?_
        refine WQ.then_ret ?_
        obtain rfl := up_ret hm33 hn13
        obtain rfl := (eq_of_some hm5).symm
        refine WQ.ret1 rfl rfl (fun w hw => ?_)
        exact ⟨rfl, Own.kgrow (fun _ x => x) hw⟩
      · skip
        have hm34 := br_f h32 hm31; clear hm31
        refine WC.skip ?_
        refine WQ.block ?_
        refine WQ.then ?_
        refine WC.region ?_
        refine WL.q rfl rfl rfl (QV.move rfl rfl) ?_
        obtain ⟨c35, hm36⟩ := ck_some hm34; clear hm34
        refine WL.q rfl rfl rfl (QV.add rfl rfl rfl rfl c35) ?_
        refine WL.q rfl rfl rfl (QV.assign rfl rfl) ?_
        refine WL.nil ?_
        exact WQ.again1 (turn9_1 + 1) m10 (up_next hm36 hn13) (Nat.lt_succ_self _) ⟨rfl, rfl, rfl, rfl, rfl, trivial⟩ (fun w hw => hw.pick [0, 1, 2] (by decide))
    · skip
      have hm37 := br_f h14 hm12; clear hm12
      refine WC.exit ?_
      refine WQ.then_exit ?_
      refine WQ.then_exit ?_
      refine WQ.block_exit ?_
      exact WQ.out1 turn9_1 (up_brk hm37 hn13) ⟨rfl, rfl, rfl, rfl, rfl, trivial⟩ (fun w hw => hw.pick [0, 1, 2] (by decide))

set_option maxRecDepth 8000 in
theorem roundelayref6_Memory_w {a : Stm} {b : Stm} {r : Bool} (w : World) (hm : roundelayref6_Memory_m a b = some r)  : Calls Try.prog 103 #[.agg #[.int .i64 a.op, .int .i64 a.a.st, .int .i64 a.a.bk, .int .i64 a.b.st, .int .i64 a.b.bk, .int .i64 a.ar, .int .i64 a.sp, .int .i64 a.pl, .int .i64 a.n], .agg #[.int .i64 b.op, .int .i64 b.a.st, .int .i64 b.a.bk, .int .i64 b.b.st, .int .i64 b.b.bk, .int .i64 b.ar, .int .i64 b.sp, .int .i64 b.pl, .int .i64 b.n]] w (fun e w' => e = .returned (.bool r) ∧ Grow w w') := by
  unfold roundelayref6_Memory_m at hm
  have hk := Base.rfl (w := w)
  refine calls_of_WC (n := 44) (args := [.agg #[.int .i64 a.op, .int .i64 a.a.st, .int .i64 a.a.bk, .int .i64 a.b.st, .int .i64 a.b.bk, .int .i64 a.ar, .int .i64 a.sp, .int .i64 a.pl, .int .i64 a.n], .agg #[.int .i64 b.op, .int .i64 b.a.st, .int .i64 b.a.bk, .int .i64 b.b.st, .int .i64 b.b.bk, .int .i64 b.ar, .int .i64 b.sp, .int .i64 b.pl, .int .i64 b.n]]) Try.func103 rfl rfl (Nat.le_of_ble_eq_true rfl) ?_ (Own.startK hk (Own.start w))
  refine WC.seq ?_
  refine WC.region ?_
  refine WL.effect rfl ?_
  refine (EV.boxAgg (by decide) rfl rfl (fun b1 => ?_))
  refine WL.effect rfl ?_
  refine (EV.boxAgg (by decide) rfl rfl (fun b2 => ?_))
  refine WL.q rfl rfl rfl (QV.assign rfl rfl) ?_
  refine WL.nil ?_
  refine WQ.then ?_
  refine WC.seq ?_
  refine WC.region ?_
  refine WL.q rfl rfl rfl (QV.fieldAddr fd81_0 rfl rfl) ?_
  refine WL.q rfl rfl rfl (QV.load pl3 rfl rfl (Own.cell 1 rfl rfl)) ?_
  refine WL.q rfl rfl rfl (QV.eql rfl rfl rfl rfl) ?_
  refine WL.q rfl rfl rfl (QV.move rfl rfl) ?_
  refine WL.g rfl rfl (GuardIs.neg rfl rfl) (fun hG => QV.fieldAddr fd81_0 rfl rfl) ?_
  refine WL.g rfl rfl (GuardIs.neg rfl rfl) (fun hG => QV.load pl3 rfl hG (Own.cell 1 rfl rfl)) ?_
  refine WL.g rfl rfl (GuardIs.neg rfl rfl) (fun hG => QV.eql rfl hG rfl rfl) ?_
  refine WL.q rfl rfl rfl (QV.pickOr rfl rfl rfl (fun h => notF h)) ?_
  refine WL.q rfl rfl rfl (QV.assign rfl rfl) ?_
  refine WL.nil ?_
  refine WQ.then ?_
  refine WC.seq ?_
  refine WC.region ?_
  refine WL.q rfl rfl rfl (QV.fieldAddr fd81_0 rfl rfl) ?_
  refine WL.q rfl rfl rfl (QV.load pl3 rfl rfl (Own.cell 0 rfl rfl)) ?_
  refine WL.q rfl rfl rfl (QV.eql rfl rfl rfl rfl) ?_
  refine WL.q rfl rfl rfl (QV.move rfl rfl) ?_
  refine WL.g rfl rfl (GuardIs.neg rfl rfl) (fun hG => QV.fieldAddr fd81_0 rfl rfl) ?_
  refine WL.g rfl rfl (GuardIs.neg rfl rfl) (fun hG => QV.load pl3 rfl hG (Own.cell 0 rfl rfl)) ?_
  refine WL.g rfl rfl (GuardIs.neg rfl rfl) (fun hG => QV.eql rfl hG rfl rfl) ?_
  refine WL.q rfl rfl rfl (QV.pickOr rfl rfl rfl (fun h => notF h)) ?_
  refine WL.q rfl rfl rfl (QV.assign rfl rfl) ?_
  refine WL.nil ?_
  refine WQ.then ?_
  refine WC.seq ?_
  refine WC.region ?_
  refine WL.q rfl rfl rfl (QV.move rfl rfl) ?_
  refine WL.q rfl rfl rfl (QV.move rfl rfl) ?_
  refine WL.g rfl rfl (GuardIs.pos rfl rfl) (fun hG => QV.move rfl rfl) ?_
  refine WL.q rfl rfl rfl (QV.pickAnd rfl rfl rfl (fun h => h)) ?_
  refine WL.q rfl rfl rfl (QV.move rfl rfl) ?_
  refine WL.g rfl rfl (GuardIs.pos rfl rfl) (fun hG => QV.fieldAddr fd81_3 rfl rfl) ?_
  refine WL.g rfl rfl (GuardIs.pos rfl rfl) (fun hG => QV.load pl3 rfl hG (Own.cell 1 rfl rfl)) ?_
  refine WL.g rfl rfl (GuardIs.pos rfl rfl) (fun hG => QV.fieldAddr fd81_3 rfl rfl) ?_
  refine WL.g rfl rfl (GuardIs.pos rfl rfl) (fun hG => QV.load pl3 rfl hG (Own.cell 0 rfl rfl)) ?_
  refine WL.g rfl rfl (GuardIs.pos rfl rfl) (fun hG => QV.eql rfl hG rfl hG) ?_
  refine WL.q rfl rfl rfl (QV.pickAnd rfl rfl rfl (fun h => h)) ?_
  refine WL.q rfl rfl rfl (QV.move rfl rfl) ?_
  refine WL.g rfl rfl (GuardIs.pos rfl rfl) (fun hG => QV.fieldAddr fd81_0 rfl rfl) ?_
  refine WL.g rfl rfl (GuardIs.pos rfl rfl) (fun hG => QV.load pl3 rfl hG (Own.cell 1 rfl rfl)) ?_
  refine WL.g rfl rfl (GuardIs.pos rfl rfl) (fun hG => QV.eql rfl hG rfl rfl) ?_
  refine WL.g rfl rfl (GuardIs.pos rfl rfl) (fun hG => QV.move rfl hG) ?_
  refine WL.g rfl rfl (GuardIs.negC rfl rfl) (fun hG => QV.fieldAddr fd81_0 rfl rfl) ?_
  refine WL.g rfl rfl (GuardIs.negC rfl rfl) (fun hG => QV.load pl3 rfl hG (Own.cell 0 rfl rfl)) ?_
  refine WL.g rfl rfl (GuardIs.negC rfl rfl) (fun hG => QV.eql rfl hG rfl rfl) ?_
  refine WL.g rfl rfl (GuardIs.pos rfl rfl) (fun hG => QV.pickOr rfl hG rfl (fun h => andN hG h)) ?_
  refine WL.q rfl rfl rfl (QV.pickAnd rfl rfl rfl (fun h => h)) ?_
  refine WL.q rfl rfl rfl (QV.assign rfl rfl) ?_
  refine WL.nil ?_
  refine WQ.then ?_
  refine WC.ret ?_
  obtain rfl := (eq_of_some hm).symm
  refine WQ.ret1 rfl rfl (fun w hw => ?_)
  exact ⟨rfl, Own.kgrow (fun _ x => x) hw⟩

set_option maxRecDepth 8000 in
theorem roundelayref6_is_w {v_l_logs : Value} {v_l_body : Value} {v_l_outs : Value} {l : Lp} {t : Tgt} {e_ : Edg} {r : Bool} (w : World) (hm : roundelayref6_is_m l t e_ = some r) (h_l_logs : Arr w v_l_logs 1 (l.logs.map icell)) (h_l_body : Arr w v_l_body 9 (l.body.map Stm.cells)) (h_l_outs : Arr w v_l_outs 1 (l.outs.map icell)) : Calls Try.prog 65 #[.agg #[v_l_logs, v_l_body, v_l_outs], .agg #[.int .i64 t.u0, .int .i64 t.u1, .int .i64 t.u2, .int .i64 t.w0, .int .i64 t.w1, .int .i64 t.w2, .int .i64 t.regs], .agg #[.int .i64 e_.fr, .int .i64 e_.to, .int .i64 e_.bk, .int .i64 e_.wt]] w (fun e w' => e = .returned (.bool r) ∧ Grow w w') := by
  unfold roundelayref6_is_m at hm
  have hk := Base.rfl (w := w)
  refine calls_of_WC (n := 128) (args := [.agg #[v_l_logs, v_l_body, v_l_outs], .agg #[.int .i64 t.u0, .int .i64 t.u1, .int .i64 t.u2, .int .i64 t.w0, .int .i64 t.w1, .int .i64 t.w2, .int .i64 t.regs], .agg #[.int .i64 e_.fr, .int .i64 e_.to, .int .i64 e_.bk, .int .i64 e_.wt]]) Try.func65 rfl rfl (Nat.le_of_ble_eq_true rfl) ?_ (Own.startK hk (Own.start w))
  refine WC.seq ?_
  refine WC.region ?_
  refine WL.effect rfl ?_
  refine (EV.boxAgg (by decide) rfl rfl (fun b1 => ?_))
  refine WL.effect rfl ?_
  refine (EV.boxAgg (by decide) rfl rfl (fun b2 => ?_))
  refine WL.effect rfl ?_
  refine (EV.boxAgg (by decide) rfl rfl (fun b3 => ?_))
  refine WL.q rfl rfl rfl (QV.assign rfl rfl) ?_
  refine WL.nil ?_
  refine WQ.then ?_
  refine WC.seq ?_
  refine WC.region ?_
  refine WL.q rfl rfl rfl (QV.fieldAddr fd25_1 rfl rfl) ?_
  refine WL.q rfl rfl rfl (QV.load pl23 rfl rfl (Own.cell 2 rfl rfl)) ?_
  refine WL.q rfl rfl rfl (QV.fieldAddr fd71_1 rfl rfl) ?_
  refine WL.q rfl rfl rfl (QV.load pl3 rfl rfl (Own.cell 0 rfl rfl)) ?_
  obtain ⟨c4, hm5⟩ := ck_some hm; clear hm
  obtain ⟨p6, hp7⟩ := h_l_body.lenMap.ix (sz := 9) ln_len c4
  refine WL.q rfl rfl rfl (QV.indexSlice sl23 rfl rfl rfl rfl hp7) ?_
  refine WL.q rfl rfl rfl (QV.loadAgg ag81 rfl rfl rfl (fun w hw => ((Own.karr 3 rfl hk h_l_body) w hw).ele hp7 c4)) ?_
  refine WL.effect rfl ?_
  obtain ⟨x8, hx9, hm10⟩ := bd_some hm5; clear hm5
  refine EV.of (C' := Own noM w [kn noM w.heap.size w w, blk b3 [.int .i64 e_.fr, .int .i64 e_.to, .int .i64 e_.bk, .int .i64 e_.wt] 71, blk b2 [.int .i64 t.u0, .int .i64 t.u1, .int .i64 t.u2, .int .i64 t.w0, .int .i64 t.w1, .int .i64 t.w2, .int .i64 t.regs] 28, blk b1 [v_l_logs, v_l_body, v_l_outs] 25]) (fun w hw => hw.pick [3, 0, 1, 2] (by decide)) ?_
  refine (EV.callR (X := Value × World) (R := []) (fun X => X.1) (fun X => []) (fun X => X.2) (fun X => Arr X.2 X.1 2 (x8.map Rf.cells)) hk (fun _ h => by cases h; decide) en30 (EvAll.cons rfl rfl EvAll.nil) (fun M w h1 h2 => have h := roundelayref2_Uses_w hx9  M w h1 h2; h) (fun X11 hF11 hle11 => ?_))
  refine WL.q rfl rfl rfl (QV.assign rfl rfl) ?_
  refine WL.nil ?_
  refine WQ.then ?_
  refine WC.seq ?_
  refine WC.seq ?_
  refine WC.region ?_
  refine WL.q rfl rfl rfl (QV.assign rfl rfl) ?_
  refine WL.nil ?_
  refine WQ.then ?_
  obtain ⟨o12, ho13, hm14⟩ := bd_some hm10; clear hm10; obtain ⟨n15, ho16⟩ := lp_some ho13
  refine WC.bloop1 (H2 := [kn noM w.heap.size w X11.2, blk b3 [.int .i64 e_.fr, .int .i64 e_.to, .int .i64 e_.bk, .int .i64 e_.wt] 71, blk b2 [.int .i64 t.u0, .int .i64 t.u1, .int .i64 t.u2, .int .i64 t.w0, .int .i64 t.w1, .int .i64 t.w2, .int .i64 t.regs] 28, blk b1 [v_l_logs, v_l_body, v_l_outs] 25]) (τ := [(3, (true, _)), (4, (true, _)), (5, (true, _)), (7, (true, _))]) (fun (i8_1 : Int) => [(8, (true, .int .i64 i8_1))]) (fun (i8_1 : Int) => []) (fun (i8_1 : Int) (m : Nat) => iter (roundelayref6_is_L0 l t e_ x8) m i8_1 = some o12) (fun (i8_1 : Int) => o12 = .go i8_1) 0 n15 ho16 ⟨rfl, rfl, rfl, rfl, rfl, trivial⟩ (fun w hw => hw.pick [0, 1, 2, 3] (by decide)) ?_ ?_
  · skip
    rintro i8_1 rfl
    refine WQ.then ?_
    refine WC.seq ?_
    refine WC.region ?_
    refine WL.q rfl rfl rfl (QV.fieldAddr fd25_1 rfl rfl) ?_
    refine WL.q rfl rfl rfl (QV.load pl23 rfl rfl (Own.cell 3 rfl rfl)) ?_
    refine WL.q rfl rfl rfl (QV.fieldAddr fd71_0 rfl rfl) ?_
    refine WL.q rfl rfl rfl (QV.load pl3 rfl rfl (Own.cell 1 rfl rfl)) ?_
    obtain ⟨c17, hm18⟩ := ck_some hm14; clear hm14
    obtain ⟨p19, hp20⟩ := (h_l_body.le hle11).lenMap.ix (sz := 9) ln_len c17
    refine WL.q rfl rfl rfl (QV.indexSlice sl23 rfl rfl rfl rfl hp20) ?_
    refine WL.q rfl rfl rfl (QV.loadAgg ag81 rfl rfl rfl (fun w hw => ((Own.karr 0 rfl hk (h_l_body.le hle11)) w hw).ele hp20 c17)) ?_
    refine WL.effect rfl ?_
    refine (EV.alloc (by decide) ze81 (fun b21 => ?_))
    refine WL.effect rfl ?_
    refine (EV.store 0 rfl rfl rfl rfl rfl rfl (vs := [.int .i64 ((ele l.body e_.fr).op), .int .i64 (((ele l.body e_.fr).a).st), .int .i64 (((ele l.body e_.fr).a).bk), .int .i64 (((ele l.body e_.fr).b).st), .int .i64 (((ele l.body e_.fr).b).bk), .int .i64 ((ele l.body e_.fr).ar), .int .i64 ((ele l.body e_.fr).sp), .int .i64 ((ele l.body e_.fr).pl), .int .i64 ((ele l.body e_.fr).n)]) (show Value.cells _ = List.toArray _ from rfl) sz81 (Nat.le_of_ble_eq_true rfl) (one_cons rfl (one_cons rfl (one_cons rfl (one_cons rfl (one_cons rfl (one_cons rfl (one_cons rfl (one_cons rfl (one_cons rfl one_nil))))))))) ?_)
    refine WL.nil ?_
    refine WQ.then ?_
    refine WC.seq ?_
    refine WC.region ?_
    refine WL.q rfl rfl rfl (QV.fieldAddr fd25_1 rfl rfl) ?_
    refine WL.q rfl rfl rfl (QV.load pl23 rfl rfl (Own.cell 4 rfl rfl)) ?_
    refine WL.q rfl rfl rfl (QV.fieldAddr fd71_1 rfl rfl) ?_
    refine WL.q rfl rfl rfl (QV.load pl3 rfl rfl (Own.cell 2 rfl rfl)) ?_
    obtain ⟨c22, hm23⟩ := ck_some hm18; clear hm18
    obtain ⟨p24, hp25⟩ := (h_l_body.le hle11).lenMap.ix (sz := 9) ln_len c22
    refine WL.q rfl rfl rfl (QV.indexSlice sl23 rfl rfl rfl rfl hp25) ?_
    refine WL.q rfl rfl rfl (QV.loadAgg ag81 rfl rfl rfl (fun w hw => ((Own.karr 1 rfl hk (h_l_body.le hle11)) w hw).ele hp25 c22)) ?_
    refine WL.effect rfl ?_
    refine (EV.alloc (by decide) ze81 (fun b26 => ?_))
    refine WL.effect rfl ?_
    refine (EV.store 0 rfl rfl rfl rfl rfl rfl (vs := [.int .i64 ((ele l.body e_.to).op), .int .i64 (((ele l.body e_.to).a).st), .int .i64 (((ele l.body e_.to).a).bk), .int .i64 (((ele l.body e_.to).b).st), .int .i64 (((ele l.body e_.to).b).bk), .int .i64 ((ele l.body e_.to).ar), .int .i64 ((ele l.body e_.to).sp), .int .i64 ((ele l.body e_.to).pl), .int .i64 ((ele l.body e_.to).n)]) (show Value.cells _ = List.toArray _ from rfl) sz81 (Nat.le_of_ble_eq_true rfl) (one_cons rfl (one_cons rfl (one_cons rfl (one_cons rfl (one_cons rfl (one_cons rfl (one_cons rfl (one_cons rfl (one_cons rfl one_nil))))))))) ?_)
    refine WL.nil ?_
    refine WQ.then ?_
    refine WC.seq ?_
    refine WC.region ?_
    refine WL.q rfl rfl rfl (QV.assign rfl rfl) ?_
    refine WL.nil ?_
    refine WQ.then ?_
    refine WC.seq ?_
    refine WC.seq ?_
    refine WC.region ?_
    refine WL.q rfl rfl rfl (QV.fieldAddr fd81_0 rfl rfl) ?_
    refine WL.q rfl rfl rfl (QV.load pl3 rfl rfl (Own.cell 1 rfl rfl)) ?_
    refine WL.q rfl rfl rfl (QV.eql rfl rfl rfl rfl) ?_
    refine WL.nil ?_
    refine WQ.then ?_
    obtain ⟨o27, hj28, hm29⟩ := bd_some hm23; clear hm23
    refine WC.joint1 (H2 := [blk b26 [.int .i64 ((ele l.body e_.to).op), .int .i64 (((ele l.body e_.to).a).st), .int .i64 (((ele l.body e_.to).a).bk), .int .i64 (((ele l.body e_.to).b).st), .int .i64 (((ele l.body e_.to).b).bk), .int .i64 ((ele l.body e_.to).ar), .int .i64 ((ele l.body e_.to).sp), .int .i64 ((ele l.body e_.to).pl), .int .i64 ((ele l.body e_.to).n)] 81, blk b21 [.int .i64 ((ele l.body e_.fr).op), .int .i64 (((ele l.body e_.fr).a).st), .int .i64 (((ele l.body e_.fr).a).bk), .int .i64 (((ele l.body e_.fr).b).st), .int .i64 (((ele l.body e_.fr).b).bk), .int .i64 ((ele l.body e_.fr).ar), .int .i64 ((ele l.body e_.fr).sp), .int .i64 ((ele l.body e_.fr).pl), .int .i64 ((ele l.body e_.fr).n)] 81, kn noM w.heap.size w X11.2, blk b3 [.int .i64 e_.fr, .int .i64 e_.to, .int .i64 e_.bk, .int .i64 e_.wt] 71, blk b2 [.int .i64 t.u0, .int .i64 t.u1, .int .i64 t.u2, .int .i64 t.w0, .int .i64 t.w1, .int .i64 t.w2, .int .i64 t.regs] 28, blk b1 [v_l_logs, v_l_body, v_l_outs] 25]) (τ := [(3, (true, _)), (5, (true, _)), (9, (true, _)), (10, (true, _))]) (fun (wait11_2 : Int) => [(11, (true, .int .i64 wait11_2))]) (fun (wait11_2 : Int) => []) (fun (wait11_2 : Int) => o27 = .go wait11_2) ⟨rfl, rfl, rfl, rfl, trivial⟩ (fun w hw => hw.pick [0, 1, 2, 3, 4, 5] (by decide)) ?_ ?_
    · skip
      rintro wait11_2 rfl
      refine WC.seq ?_
      refine WC.seq ?_
      refine WC.region ?_
      refine WL.q rfl rfl rfl (QV.loadAgg ag81 rfl rfl rfl (Own.cellsBlk 1 rfl)) ?_
      refine WL.q rfl rfl rfl (QV.loadAgg ag81 rfl rfl rfl (Own.cellsBlk 0 rfl)) ?_
      obtain ⟨x30, hx31, hm32⟩ := bd_some hm29; clear hm29
      refine WL.q rfl rfl rfl (QV.call en103 (EvAll.cons rfl rfl (EvAll.cons rfl rfl EvAll.nil)) (fun w hw => have h := roundelayref6_Memory_w w hx31 ; h)) ?_
      refine WL.q rfl rfl rfl (QV.not rfl rfl) ?_
      refine WL.q rfl rfl rfl (QV.move rfl rfl) ?_
      refine WL.g rfl rfl (GuardIs.neg rfl rfl) (fun hG => QV.fieldAddr fd71_3 rfl rfl) ?_
      refine WL.g rfl rfl (GuardIs.neg rfl rfl) (fun hG => QV.load pl3 rfl hG (Own.cell 3 rfl rfl)) ?_
      refine WL.g rfl rfl (GuardIs.neg rfl rfl) (fun hG => QV.move rfl rfl) ?_
      refine WL.g rfl rfl (GuardIs.neg rfl rfl) (fun hG => QV.neq rfl hG rfl hG) ?_
      refine WL.q rfl rfl rfl (QV.pickOr rfl rfl rfl (fun h => notF h)) ?_
      refine WL.nil ?_
      refine WQ.then ?_
      refine WC.cond rfl (fun h33 => ?_) (fun h33 => ?_)
      · skip
        have hm34 := br_t h33 hm32; clear hm32
        refine WC.seq ?_
        refine WC.region ?_
        refine WL.q rfl rfl rfl (QV.assign rfl rfl) ?_
        refine WL.nil ?_
        refine WQ.then ?_
        refine WC.ret ?_
        refine WQ.then_ret ?_
        obtain rfl := (eq_of_some hm34).symm
        refine WQ.ret1 rfl rfl (fun w hw => ?_)
        exact ⟨rfl, Own.kgrow (fun _ x => x) hw⟩
      · skip
        have hm35 := br_f h33 hm32; clear hm32
        refine WC.skip ?_
        refine WQ.then ?_
        refine WC.seq ?_
        refine WC.region ?_
        refine WL.q rfl rfl rfl (QV.fieldAddr fd25_0 rfl rfl) ?_
        refine WL.q rfl rfl rfl (QV.load pl22 rfl rfl (Own.cell 5 rfl rfl)) ?_
        refine WL.q rfl rfl rfl (QV.fieldAddr fd81_3 rfl rfl) ?_
        refine WL.q rfl rfl rfl (QV.load pl3 rfl rfl (Own.cell 1 rfl rfl)) ?_
        obtain ⟨c36, hm37⟩ := ck_some hm35; clear hm35
        obtain ⟨p38, hp39⟩ := (h_l_logs.le hle11).lenMap.ix (sz := 1) ln_len c36
        refine WL.q rfl rfl rfl (QV.indexSlice sl22 rfl rfl rfl rfl hp39) ?_
        refine WL.q rfl rfl rfl (QV.load pl3 rfl rfl (fun w hw => CellsAt.one 0 (((Own.karr 2 rfl hk (h_l_logs.le hle11)) w hw).ele hp39 c36) rfl)) ?_
        obtain ⟨x40, hx41, hm42⟩ := bd_some hm37; clear hm37
        refine WL.q rfl rfl rfl (QV.call en48 (EvAll.cons rfl rfl EvAll.nil) (fun w hw => have h := roundelayref1_Size_w w hx41 ; h)) ?_
        refine WL.q rfl rfl rfl (QV.assign rfl rfl) ?_
        refine WL.nil ?_
        refine WQ.then ?_
        refine WC.seq ?_
        refine WC.region ?_
        refine WL.q rfl rfl rfl (QV.assign rfl rfl) ?_
        refine WL.nil ?_
        refine WQ.then ?_
        refine WC.seq ?_
        refine WC.seq ?_
        refine WC.region ?_
        refine WL.q rfl rfl rfl (QV.fieldAddr fd71_0 rfl rfl) ?_
        refine WL.q rfl rfl rfl (QV.load pl3 rfl rfl (Own.cell 3 rfl rfl)) ?_
        refine WL.q rfl rfl rfl (QV.fieldAddr fd71_1 rfl rfl) ?_
        refine WL.q rfl rfl rfl (QV.load pl3 rfl rfl (Own.cell 3 rfl rfl)) ?_
        refine WL.q rfl rfl rfl (QV.geq rfl rfl rfl rfl) ?_
        refine WL.nil ?_
        refine WQ.then ?_
        obtain ⟨o43, hj44, hm45⟩ := bd_some hm42; clear hm42
        refine WC.joint1 (H2 := [blk b26 [.int .i64 ((ele l.body e_.to).op), .int .i64 (((ele l.body e_.to).a).st), .int .i64 (((ele l.body e_.to).a).bk), .int .i64 (((ele l.body e_.to).b).st), .int .i64 (((ele l.body e_.to).b).bk), .int .i64 ((ele l.body e_.to).ar), .int .i64 ((ele l.body e_.to).sp), .int .i64 ((ele l.body e_.to).pl), .int .i64 ((ele l.body e_.to).n)] 81, blk b21 [.int .i64 ((ele l.body e_.fr).op), .int .i64 (((ele l.body e_.fr).a).st), .int .i64 (((ele l.body e_.fr).a).bk), .int .i64 (((ele l.body e_.fr).b).st), .int .i64 (((ele l.body e_.fr).b).bk), .int .i64 ((ele l.body e_.fr).ar), .int .i64 ((ele l.body e_.fr).sp), .int .i64 ((ele l.body e_.fr).pl), .int .i64 ((ele l.body e_.fr).n)] 81, kn noM w.heap.size w X11.2, blk b3 [.int .i64 e_.fr, .int .i64 e_.to, .int .i64 e_.bk, .int .i64 e_.wt] 71, blk b2 [.int .i64 t.u0, .int .i64 t.u1, .int .i64 t.u2, .int .i64 t.w0, .int .i64 t.w1, .int .i64 t.w2, .int .i64 t.regs] 28, blk b1 [v_l_logs, v_l_body, v_l_outs] 25]) (τ := [(5, (true, _)), (9, (true, _)), (10, (true, _)), (12, (true, _))]) (fun (least13_3 : Int) => [(13, (true, .int .i64 least13_3))]) (fun (least13_3 : Int) => []) (fun (least13_3 : Int) => o43 = .go least13_3) ⟨rfl, rfl, rfl, rfl, trivial⟩ (fun w hw => hw.pick [0, 1, 2, 3, 4, 5] (by decide)) ?_ ?_
        · skip
          rintro least13_3 rfl
          refine WC.seq ?_
          refine WC.seq ?_
          refine WC.region ?_
          refine WL.q rfl rfl rfl (QV.fieldAddr fd71_2 rfl rfl) ?_
          refine WL.q rfl rfl rfl (QV.load pl3 rfl rfl (Own.cell 3 rfl rfl)) ?_
          refine WL.q rfl rfl rfl (QV.move rfl rfl) ?_
          refine WL.q rfl rfl rfl (QV.lss rfl rfl rfl rfl) ?_
          refine WL.q rfl rfl rfl (QV.move rfl rfl) ?_
          refine WL.g rfl rfl (GuardIs.neg rfl rfl) (fun hG => QV.fieldAddr fd71_2 rfl rfl) ?_
          refine WL.g rfl rfl (GuardIs.neg rfl rfl) (fun hG => QV.load pl3 rfl hG (Own.cell 3 rfl rfl)) ?_
          refine WL.g rfl rfl (GuardIs.neg rfl rfl) (fun hG => QV.move rfl rfl) ?_
          refine WL.g rfl rfl (GuardIs.neg rfl rfl) (fun hG => QV.gtr rfl hG rfl hG) ?_
          refine WL.q rfl rfl rfl (QV.pickOr rfl rfl rfl (fun h => notF h)) ?_
          refine WL.q rfl rfl rfl (QV.move rfl rfl) ?_
          refine WL.g rfl rfl (GuardIs.neg rfl rfl) (fun hG => QV.loadAgg ag81 rfl rfl rfl (Own.cellsBlk 1 rfl)) ?_
          refine WL.g rfl rfl (GuardIs.neg rfl rfl) (fun hG => QV.loadAgg ag81 rfl rfl rfl (Own.cellsBlk 0 rfl)) ?_
          refine WL.g rfl rfl (GuardIs.neg rfl rfl) (fun hG => QV.fieldAddr fd71_2 rfl rfl) ?_
          refine WL.g rfl rfl (GuardIs.neg rfl rfl) (fun hG => QV.load pl3 rfl hG (Own.cell 3 rfl rfl)) ?_
          refine WL.g rfl rfl (GuardIs.neg rfl rfl) (fun hG => QV.move rfl rfl) ?_
          obtain ⟨x46, hx47, hm48⟩ := bdG_some hm45; clear hm45
          refine WL.g rfl rfl (GuardIs.neg rfl rfl) (fun hG => QV.call en104 (EvAll.cons rfl hG (EvAll.cons rfl hG (EvAll.cons rfl hG (EvAll.cons rfl hG EvAll.nil)))) (fun w hw => have h := roundelayref6_Meets_w w (hx47 hG) ; h)) ?_
          refine WL.g rfl rfl (GuardIs.neg rfl rfl) (fun hG => QV.not rfl hG) ?_
          refine WL.q rfl rfl rfl (QV.pickOr rfl rfl rfl (fun h => notF h)) ?_
          refine WL.nil ?_
          refine WQ.then ?_
          refine WC.cond rfl (fun h49 => ?_) (fun h49 => ?_)
          · skip
            have hm50 := br_t h49 hm48; clear hm48
            refine WC.seq ?_
            refine WC.region ?_
            refine WL.q rfl rfl rfl (QV.assign rfl rfl) ?_
            refine WL.nil ?_
            refine WQ.then ?_
            refine WC.ret ?_
            refine WQ.then_ret ?_
            obtain rfl := (eq_of_some hm50).symm
            refine WQ.ret1 rfl rfl (fun w hw => ?_)
            exact ⟨rfl, Own.kgrow (fun _ x => x) hw⟩
          · skip
            have hm51 := br_f h49 hm48; clear hm48
            refine WC.skip ?_
            refine WQ.then ?_
            refine WC.seq ?_
            refine WC.seq ?_
            refine WC.region ?_
            refine WL.q rfl rfl rfl (QV.move rfl rfl) ?_
            refine WL.q rfl rfl rfl (QV.assign rfl rfl) ?_
            refine WL.nil ?_
            refine WQ.then ?_
            obtain ⟨o52, ho53, hm54⟩ := bd_some hm51; clear hm51; obtain ⟨n55, ho56⟩ := lp_some ho53
            refine WC.bloop1 (H2 := [blk b26 [.int .i64 ((ele l.body e_.to).op), .int .i64 (((ele l.body e_.to).a).st), .int .i64 (((ele l.body e_.to).a).bk), .int .i64 (((ele l.body e_.to).b).st), .int .i64 (((ele l.body e_.to).b).bk), .int .i64 ((ele l.body e_.to).ar), .int .i64 ((ele l.body e_.to).sp), .int .i64 ((ele l.body e_.to).pl), .int .i64 ((ele l.body e_.to).n)] 81, blk b21 [.int .i64 ((ele l.body e_.fr).op), .int .i64 (((ele l.body e_.fr).a).st), .int .i64 (((ele l.body e_.fr).a).bk), .int .i64 (((ele l.body e_.fr).b).st), .int .i64 (((ele l.body e_.fr).b).bk), .int .i64 ((ele l.body e_.fr).ar), .int .i64 ((ele l.body e_.fr).sp), .int .i64 ((ele l.body e_.fr).pl), .int .i64 ((ele l.body e_.fr).n)] 81, kn noM w.heap.size w X11.2, blk b3 [.int .i64 e_.fr, .int .i64 e_.to, .int .i64 e_.bk, .int .i64 e_.wt] 71, blk b2 [.int .i64 t.u0, .int .i64 t.u1, .int .i64 t.u2, .int .i64 t.w0, .int .i64 t.w1, .int .i64 t.w2, .int .i64 t.regs] 28, blk b1 [v_l_logs, v_l_body, v_l_outs] 25]) (τ := [(5, (true, _)), (9, (true, _)), (10, (true, _)), (12, (true, _))]) (fun (back14_4 : Int) => [(14, (true, .int .i64 back14_4))]) (fun (back14_4 : Int) => []) (fun (back14_4 : Int) (m : Nat) => iter (roundelayref6_is_L2 l e_ x40) m back14_4 = some o52) (fun (back14_4 : Int) => o52 = .go back14_4) least13_3 n55 ho56 ⟨rfl, rfl, rfl, rfl, rfl, trivial⟩ (fun w hw => hw.pick [0, 1, 2, 3, 4, 5] (by decide)) ?_ ?_
            · skip
              rintro back14_4 rfl
              refine WQ.then ?_
              refine WC.seq ?_
              refine WC.region ?_
              refine WL.q rfl rfl rfl (QV.assign rfl rfl) ?_
              refine WL.nil ?_
              refine WQ.then ?_
              refine WC.ret ?_
              obtain rfl := (eq_of_some hm54).symm
              refine WQ.ret1 rfl rfl (fun w hw => ?_)
              exact ⟨rfl, Own.kgrow (fun _ x => x) hw⟩
            · skip
              rintro back14_4 m57 hI58
              obtain ⟨m59, s60, rfl, hm61, hn62⟩ := iter_step hI58; clear hI58; unfold roundelayref6_is_L2 at hm61
              refine WC.seq ?_
              refine WC.seq ?_
              refine WC.region ?_
              refine WL.q rfl rfl rfl (QV.move rfl rfl) ?_
              refine WL.q rfl rfl rfl (QV.fieldAddr fd71_2 rfl rfl) ?_
              refine WL.q rfl rfl rfl (QV.load pl3 rfl rfl (Own.cell 3 rfl rfl)) ?_
              refine WL.q rfl rfl rfl (QV.lss rfl rfl rfl rfl) ?_
              refine WL.nil ?_
              refine WQ.then ?_
              refine WC.cond rfl (fun h63 => ?_) (fun h63 => ?_)
              · skip
                have hm64 := br_t h63 hm61; clear hm61
                refine WC.skip ?_
                refine WQ.then ?_
                refine WC.seq ?_
                refine WC.block ?_
                refine WC.seq ?_
                refine WC.region ?_
                refine WL.q rfl rfl rfl (QV.loadAgg ag81 rfl rfl rfl (Own.cellsBlk 1 rfl)) ?_
                refine WL.q rfl rfl rfl (QV.loadAgg ag81 rfl rfl rfl (Own.cellsBlk 0 rfl)) ?_
                refine WL.q rfl rfl rfl (QV.move rfl rfl) ?_
                refine WL.q rfl rfl rfl (QV.move rfl rfl) ?_
                obtain ⟨x65, hx66, hm67⟩ := bd_some hm64; clear hm64
                refine WL.q rfl rfl rfl (QV.call en104 (EvAll.cons rfl rfl (EvAll.cons rfl rfl (EvAll.cons rfl rfl (EvAll.cons rfl rfl EvAll.nil)))) (fun w hw => have h := roundelayref6_Meets_w w hx66 ; h)) ?_
                refine WL.nil ?_
                refine WQ.then ?_
                refine WC.cond rfl (fun h68 => ?_) (fun h68 => ?_)
                · skip
                  have hm69 := br_t h68 hm67; clear hm67
                  refine WC.seq ?_
                  refine WC.region ?_
                  refine WL.q rfl rfl rfl (QV.assign rfl rfl) ?_
                  refine WL.nil ?_
                  refine WQ.then ?_
                  refine WC.ret ?_
                  refine WQ.block_ret ?_
                  refine WQ.then_ret ?_
                  refine WQ.then_ret ?_
                  refine WQ.block_ret ?_
                  refine WQ.then_ret ?_
                  refine WQ.then_ret ?_
                  obtain rfl := up_ret hm69 hn62
                  obtain rfl := (eq_of_some hm54).symm
                  refine WQ.ret1 rfl rfl (fun w hw => ?_)
                  exact ⟨rfl, Own.kgrow (fun _ x => x) hw⟩
                · skip
                  have hm70 := br_f h68 hm67; clear hm67
                  refine WC.skip ?_
                  refine WQ.block ?_
                  refine WQ.then ?_
                  refine WC.region ?_
                  refine WL.q rfl rfl rfl (QV.move rfl rfl) ?_
                  obtain ⟨c71, hm72⟩ := ck_some hm70; clear hm70
                  refine WL.q rfl rfl rfl (QV.add rfl rfl rfl rfl c71) ?_
                  refine WL.q rfl rfl rfl (QV.assign rfl rfl) ?_
                  refine WL.nil ?_
                  exact WQ.again1 (back14_4 + 1) m59 (up_next hm72 hn62) (Nat.lt_succ_self _) ⟨rfl, rfl, rfl, rfl, rfl, trivial⟩ (fun w hw => hw.pick [0, 1, 2, 3, 4, 5] (by decide))
              · skip
                have hm73 := br_f h63 hm61; clear hm61
                refine WC.exit ?_
                refine WQ.then_exit ?_
                refine WQ.then_exit ?_
                refine WQ.block_exit ?_
                exact WQ.out1 back14_4 (up_brk hm73 hn62) ⟨rfl, rfl, rfl, rfl, rfl, trivial⟩ (fun w hw => hw.pick [0, 1, 2, 3, 4, 5] (by decide))
        · skip
          refine WC.cond rfl (fun h74 => ?_) (fun h74 => ?_)
          · skip
            have hm75 := br_t h74 hj44; clear hj44
            refine WC.region ?_
            refine WL.q rfl rfl rfl (QV.assign rfl rfl) ?_
            refine WL.nil ?_
            exact WQ.out1 1 (eq_of_some hm75) ⟨rfl, rfl, rfl, rfl, rfl, trivial⟩ (fun w hw => hw.pick [0, 1, 2, 3, 4, 5] (by decide))
          · skip
            have hm76 := br_f h74 hj44; clear hj44
            refine WC.skip ?_
            exact WQ.out1 0 (eq_of_some hm76) ⟨rfl, rfl, rfl, rfl, rfl, trivial⟩ (fun w hw => hw.pick [0, 1, 2, 3, 4, 5] (by decide))
    · skip
      refine WC.cond rfl (fun h77 => ?_) (fun h77 => ?_)
      · skip
        have hm78 := br_t h77 hj28; clear hj28
        refine WC.region ?_
        refine WL.q rfl rfl rfl (QV.assign rfl rfl) ?_
        refine WL.nil ?_
        exact WQ.out1 1 (eq_of_some hm78) ⟨rfl, rfl, rfl, rfl, rfl, trivial⟩ (fun w hw => hw.pick [0, 1, 2, 3, 4, 5] (by decide))
      · skip
        have hm79 := br_f h77 hj28; clear hj28
        refine WC.skip ?_
        exact WQ.out1 0 (eq_of_some hm79) ⟨rfl, rfl, rfl, rfl, rfl, trivial⟩ (fun w hw => hw.pick [0, 1, 2, 3, 4, 5] (by decide))
  · skip
    rintro i8_1 m80 hI81
    obtain ⟨m82, s83, rfl, hm84, hn85⟩ := iter_step hI81; clear hI81; unfold roundelayref6_is_L0 at hm84
    refine WC.seq ?_
    refine WC.seq ?_
    refine WC.region ?_
    refine WL.q rfl rfl rfl (QV.move rfl rfl) ?_
    refine WL.q rfl rfl rfl (QV.move rfl rfl) ?_
    refine WL.q rfl rfl rfl (QV.lenS Try.underlying76 rfl rfl hF11.lenMap) ?_
    refine WL.q rfl rfl rfl (QV.lss rfl rfl rfl rfl) ?_
    refine WL.nil ?_
    refine WQ.then ?_
    refine WC.cond rfl (fun h86 => ?_) (fun h86 => ?_)
    · skip
      have hm87 := br_t h86 hm84; clear hm84
      refine WC.skip ?_
      refine WQ.then ?_
      refine WC.seq ?_
      refine WC.block ?_
      refine WC.seq ?_
      refine WC.dr (m := 32) (by kernel_rfl) (by kernel_rfl) (fun w hw => hw) ?_
      refine WD.q 0 rfl (by kernel_rfl) rfl rfl rfl (QV.move rfl rfl) ?_
      refine WD.q 1 rfl (by kernel_rfl) rfl rfl rfl (QV.move rfl rfl) ?_
      obtain ⟨c88, hm89⟩ := ck_some hm87; clear hm87
      obtain ⟨p90, hp91⟩ := hF11.lenMap.ix (sz := 2) ln_len c88
      refine WD.q 2 rfl (by kernel_rfl) rfl rfl rfl (QV.indexSlice sl76 rfl rfl rfl rfl hp91) ?_
      refine WD.q 3 rfl (by kernel_rfl) rfl rfl rfl (QV.fieldAddr fd79_0 rfl rfl) ?_
      refine WD.q 4 rfl (by kernel_rfl) rfl rfl rfl (QV.load pl3 rfl rfl (fun w hw => CellsAt.one 0 (((Own.karr 0 rfl hk hF11) w hw).ele hp91 c88) rfl)) ?_
      refine WD.q 5 rfl (by kernel_rfl) rfl rfl rfl (QV.fieldAddr fd71_0 rfl rfl) ?_
      refine WD.q 6 rfl (by kernel_rfl) rfl rfl rfl (QV.load pl3 rfl rfl (Own.cell 1 rfl rfl)) ?_
      refine WD.q 7 rfl (by kernel_rfl) rfl rfl rfl (QV.eql rfl rfl rfl rfl) ?_
      refine WD.q 8 rfl (by kernel_rfl) rfl rfl rfl (QV.move rfl rfl) ?_
      refine WD.g 9 rfl (by kernel_rfl) rfl rfl (GuardIs.pos rfl rfl) (fun hG => QV.move rfl rfl) ?_
      refine WD.g 10 rfl (by kernel_rfl) rfl rfl (GuardIs.pos rfl rfl) (fun hG => QV.move rfl rfl) ?_
      obtain ⟨c92, hm93⟩ := ck_some hm89; clear hm89
      obtain ⟨p94, hp95⟩ := hF11.lenMap.ixG (sz := 2) ln_len c92
      refine WD.g 11 rfl (by kernel_rfl) rfl rfl (GuardIs.pos rfl rfl) (fun hG => QV.indexSlice sl76 rfl hG rfl hG (hp95 hG)) ?_
      refine WD.g 12 rfl (by kernel_rfl) rfl rfl (GuardIs.pos rfl rfl) (fun hG => QV.fieldAddr fd79_1 rfl hG) ?_
      refine WD.g 13 rfl (by kernel_rfl) rfl rfl (GuardIs.pos rfl rfl) (fun hG => QV.load pl3 rfl hG (fun w hw => CellsAt.one 1 (((Own.karr 0 rfl hk hF11) w hw).ele (hp95 hG) (c92 hG)) rfl)) ?_
      refine WD.g 14 rfl (by kernel_rfl) rfl rfl (GuardIs.pos rfl rfl) (fun hG => QV.fieldAddr fd71_2 rfl rfl) ?_
      refine WD.g 15 rfl (by kernel_rfl) rfl rfl (GuardIs.pos rfl rfl) (fun hG => QV.load pl3 rfl hG (Own.cell 1 rfl rfl)) ?_
      refine WD.g 16 rfl (by kernel_rfl) rfl rfl (GuardIs.pos rfl rfl) (fun hG => QV.eql rfl hG rfl hG) ?_
      refine WD.q 17 rfl (by kernel_rfl) rfl rfl rfl (QV.pickAnd rfl rfl rfl (fun h => h)) ?_
      refine WD.q 18 rfl (by kernel_rfl) rfl rfl rfl (QV.move rfl rfl) ?_
      refine WD.g 19 rfl (by kernel_rfl) rfl rfl (GuardIs.pos rfl rfl) (fun hG => QV.fieldAddr fd71_3 rfl rfl) ?_
      refine WD.g 20 rfl (by kernel_rfl) rfl rfl (GuardIs.pos rfl rfl) (fun hG => QV.load pl3 rfl hG (Own.cell 1 rfl rfl)) ?_
      refine WD.g 21 rfl (by kernel_rfl) rfl rfl (GuardIs.pos rfl rfl) (fun hG => QV.loadAgg ag28 rfl rfl rfl (Own.cellsBlk 2 rfl)) ?_
      refine WD.g 22 rfl (by kernel_rfl) rfl rfl (GuardIs.pos rfl rfl) (fun hG => QV.fieldAddr fd25_1 rfl rfl) ?_
      refine WD.g 23 rfl (by kernel_rfl) rfl rfl (GuardIs.pos rfl rfl) (fun hG => QV.load pl23 rfl hG (Own.cell 3 rfl rfl)) ?_
      refine WD.g 24 rfl (by kernel_rfl) rfl rfl (GuardIs.pos rfl rfl) (fun hG => QV.fieldAddr fd71_0 rfl rfl) ?_
      refine WD.g 25 rfl (by kernel_rfl) rfl rfl (GuardIs.pos rfl rfl) (fun hG => QV.load pl3 rfl hG (Own.cell 1 rfl rfl)) ?_
      obtain ⟨c96, hm97⟩ := ck_some hm93; clear hm93
      obtain ⟨p98, hp99⟩ := (h_l_body.le hle11).lenMap.ixG (sz := 9) ln_len c96
      refine WD.g 26 rfl (by kernel_rfl) rfl rfl (GuardIs.pos rfl rfl) (fun hG => QV.indexSlice sl23 rfl hG rfl hG (hp99 hG)) ?_
      refine WD.g 27 rfl (by kernel_rfl) rfl rfl (GuardIs.pos rfl rfl) (fun hG => QV.fieldAddr fd81_0 rfl hG) ?_
      refine WD.g 28 rfl (by kernel_rfl) rfl rfl (GuardIs.pos rfl rfl) (fun hG => QV.load pl3 rfl hG (fun w hw => CellsAt.one 0 (((Own.karr 0 rfl hk (h_l_body.le hle11)) w hw).ele (hp99 hG) (c96 hG)) rfl)) ?_
      obtain ⟨x100, hx101, hm102⟩ := bdG_some hm97; clear hm97
      refine WD.g 29 rfl (by kernel_rfl) rfl rfl (GuardIs.pos rfl rfl) (fun hG => QV.call en47 (EvAll.cons rfl hG (EvAll.cons rfl hG EvAll.nil)) (fun w hw => have h := roundelayref4_Wait_w w (hx101 hG) ; h)) ?_
      refine WD.g 30 rfl (by kernel_rfl) rfl rfl (GuardIs.pos rfl rfl) (fun hG => QV.eql rfl hG rfl hG) ?_
      refine WD.q 31 rfl (by kernel_rfl) rfl rfl rfl (QV.pickAnd rfl rfl rfl (fun h => h)) ?_
      refine WD.e (by kernel_rfl) ?_
      refine WQ.then ?_
      refine WC.cond rfl (fun h103 => ?_) (fun h103 => ?_)
      · skip
        have hm104 := br_t h103 hm102; clear hm102
        refine WC.seq ?_
        refine WC.region ?_
        refine WL.q rfl rfl rfl (QV.assign rfl rfl) ?_
        refine WL.nil ?_
        refine WQ.then ?_
        refine WC.ret ?_
        refine WQ.block_ret ?_
        refine WQ.then_ret ?_
        refine WQ.then_ret ?_
        refine WQ.block_ret ?_
        refine WQ.then_ret ?_
        refine WQ.then_ret ?_
        obtain rfl := up_ret hm104 hn85
        obtain rfl := (eq_of_some hm14).symm
        refine WQ.ret1 rfl rfl (fun w hw => ?_)
        exact ⟨rfl, Own.kgrow (fun _ x => x) hw⟩
      · skip
        have hm105 := br_f h103 hm102; clear hm102
        refine WC.skip ?_
        refine WQ.block ?_
        refine WQ.then ?_
        refine WC.region ?_
        refine WL.q rfl rfl rfl (QV.move rfl rfl) ?_
        obtain ⟨c106, hm107⟩ := ck_some hm105; clear hm105
        refine WL.q rfl rfl rfl (QV.add rfl rfl rfl rfl c106) ?_
        refine WL.q rfl rfl rfl (QV.assign rfl rfl) ?_
        refine WL.nil ?_
        exact WQ.again1 (i8_1 + 1) m82 (up_next hm107 hn85) (Nat.lt_succ_self _) ⟨rfl, rfl, rfl, rfl, rfl, trivial⟩ (fun w hw => hw.pick [0, 1, 2, 3] (by decide))
    · skip
      have hm108 := br_f h86 hm84; clear hm84
      refine WC.exit ?_
      refine WQ.then_exit ?_
      refine WQ.then_exit ?_
      refine WQ.block_exit ?_
      exact WQ.out1 i8_1 (up_brk hm108 hn85) ⟨rfl, rfl, rfl, rfl, rfl, trivial⟩ (fun w hw => hw.pick [0, 1, 2, 3] (by decide))

set_option maxRecDepth 8000 in
theorem roundelayref6_Edges_w {v_l_logs : Value} {v_l_body : Value} {v_l_outs : Value} {l : Lp} {t : Tgt} {r : List Edg} {K0 : World} (hm : roundelayref6_Edges_m l t = some r) (h_l_logs : Arr K0 v_l_logs 1 (l.logs.map icell)) (h_l_body : Arr K0 v_l_body 9 (l.body.map Stm.cells)) (h_l_outs : Arr K0 v_l_outs 1 (l.outs.map icell)) (M : Nat → Prop) (w : World) (hk : Base M K0 w) (hw0 : Own M w [] w) : Calls Try.prog 29 #[.agg #[v_l_logs, v_l_body, v_l_outs], .agg #[.int .i64 t.u0, .int .i64 t.u1, .int .i64 t.u2, .int .i64 t.w0, .int .i64 t.w1, .int .i64 t.w2, .int .i64 t.regs]] w (fun e w' => ∃ X : Value × World, e = .returned (X.1) ∧ Own M w (kn M w.heap.size K0 X.2 :: []) w' ∧ Arr X.2 X.1 4 (r.map Edg.cells)) := by
  unfold roundelayref6_Edges_m at hm
  refine calls_of_WC (n := 47) (args := [.agg #[v_l_logs, v_l_body, v_l_outs], .agg #[.int .i64 t.u0, .int .i64 t.u1, .int .i64 t.u2, .int .i64 t.w0, .int .i64 t.w1, .int .i64 t.w2, .int .i64 t.regs]]) Try.func29 rfl rfl (Nat.le_of_ble_eq_true rfl) ?_ (Own.startK hk hw0)
  refine WC.seq ?_
  refine WC.region ?_
  refine WL.effect rfl ?_
  refine (EV.boxAgg (by decide) rfl rfl (fun b1 => ?_))
  refine WL.effect rfl ?_
  refine (EV.boxAgg (by decide) rfl rfl (fun b2 => ?_))
  refine WL.q rfl rfl rfl (QV.assign rfl rfl) ?_
  refine WL.nil ?_
  refine WQ.then ?_
  refine WC.seq ?_
  refine WC.region ?_
  refine WL.q rfl rfl rfl (QV.assign rfl rfl) ?_
  refine WL.nil ?_
  refine WQ.then ?_
  refine WC.seq ?_
  refine WC.seq ?_
  refine WC.region ?_
  refine WL.q rfl rfl rfl (QV.assign rfl rfl) ?_
  refine WL.nil ?_
  refine WQ.then ?_
  refine WK.of (fun w hw => hw.vecNil (E := 71) (sz := 4) (enc := Edg.cells)) ?_
  obtain ⟨o4, ho5, hm6⟩ := bd_some hm; clear hm; obtain ⟨n7, ho8⟩ := lp_some ho5
  refine WC.bloop3 (H2 := [blk b2 [.int .i64 t.u0, .int .i64 t.u1, .int .i64 t.u2, .int .i64 t.w0, .int .i64 t.w1, .int .i64 t.w2, .int .i64 t.regs] 28, blk b1 [v_l_logs, v_l_body, v_l_outs] 25, kn M w.heap.size K0 K0]) (τ := [(2, (true, _)), (3, (true, _))]) (fun (v3_45 : List Edg) (from6_45 : Int) (uv3_45 : Value) => [(5, (true, uv3_45)), (6, (true, .int .i64 from6_45))]) (fun (v3_45 : List Edg) (from6_45 : Int) (uv3_45 : Value) => [vec uv3_45 71 4 (List.map Edg.cells v3_45)]) (fun (v3_45 : List Edg) (from6_45 : Int) (uv3_45 : Value) (m : Nat) => iter (roundelayref6_Edges_L0 l t) m (v3_45, from6_45) = some o4 ∧ SliceLen uv3_45 v3_45.length) (fun (v3_45 : List Edg) (from6_45 : Int) (uv3_45 : Value) => o4 = .go (v3_45, from6_45) ∧ SliceLen uv3_45 v3_45.length) [] 0 (.slice none 0 0) n7 ⟨ho8, SliceLen.nil⟩ ⟨rfl, rfl, rfl, rfl, trivial⟩ (fun w hw => hw.pick [0, 1, 2, 3] (by decide)) ?_ ?_
  · skip
    rintro v3_45 from6_45 uv3_45 ⟨rfl, hlv3_45⟩
    refine WQ.then ?_
    refine WC.seq ?_
    refine WC.region ?_
    refine WL.q rfl rfl rfl (QV.move rfl rfl) ?_
    refine WL.q rfl rfl rfl (QV.assign rfl rfl) ?_
    refine WL.nil ?_
    refine WQ.then ?_
    refine WC.ret ?_
    obtain rfl := (eq_of_some hm6).symm
    refine WK.of (C' := Own M w [kn M w.heap.size K0 K0, vec uv3_45 71 4 (List.map Edg.cells v3_45), blk b2 [.int .i64 t.u0, .int .i64 t.u1, .int .i64 t.u2, .int .i64 t.w0, .int .i64 t.w1, .int .i64 t.w2, .int .i64 t.regs] 28, blk b1 [v_l_logs, v_l_body, v_l_outs] 25]) (fun w hw => hw.pick [3, 0, 1, 2] (by decide)) ?_
    refine WK.freeze hk (fun k9 hle9 hr9 => ?_)
    have hA9 := vec_arr hr9
    refine WQ.ret1 rfl rfl (fun w hw => ?_)
    exact ⟨(uv3_45, k9), rfl, hw.pick [0] (by decide), hA9⟩
  · skip
    rintro v3_45 from6_45 uv3_45 m10 ⟨hI11, hlv3_45⟩
    obtain ⟨m12, s13, rfl, hm14, hn15⟩ := iter_step hI11; clear hI11; unfold roundelayref6_Edges_L0 at hm14; simp only at hm14
    refine WC.seq ?_
    refine WC.seq ?_
    refine WC.region ?_
    refine WL.q rfl rfl rfl (QV.move rfl rfl) ?_
    refine WL.q rfl rfl rfl (QV.fieldAddr fd25_1 rfl rfl) ?_
    refine WL.q rfl rfl rfl (QV.load pl23 rfl rfl (Own.cell 2 rfl rfl)) ?_
    refine WL.q rfl rfl rfl (QV.lenS Try.underlying23 rfl rfl h_l_body.lenMap) ?_
    refine WL.q rfl rfl rfl (QV.lss rfl rfl rfl rfl) ?_
    refine WL.nil ?_
    refine WQ.then ?_
    refine WC.cond rfl (fun h16 => ?_) (fun h16 => ?_)
    · skip
      have hm17 := br_t h16 hm14; clear hm14
      refine WC.skip ?_
      refine WQ.then ?_
      refine WC.seq ?_
      refine WC.block ?_
      refine WC.seq ?_
      refine WC.region ?_
      refine WL.q rfl rfl rfl (QV.assign rfl rfl) ?_
      refine WL.nil ?_
      refine WQ.then ?_
      obtain ⟨o18, ho19, hm20⟩ := bd_some hm17; clear hm17; obtain ⟨n21, ho22⟩ := lp_some ho19
      refine WC.bloop3 (H2 := [blk b2 [.int .i64 t.u0, .int .i64 t.u1, .int .i64 t.u2, .int .i64 t.w0, .int .i64 t.w1, .int .i64 t.w2, .int .i64 t.regs] 28, blk b1 [v_l_logs, v_l_body, v_l_outs] 25, kn M w.heap.size K0 K0]) (τ := [(2, (true, _)), (3, (true, _)), (6, (true, _))]) (fun (v3_54 : List Edg) (to7_54 : Int) (uv3_54 : Value) => [(5, (true, uv3_54)), (7, (true, .int .i64 to7_54))]) (fun (v3_54 : List Edg) (to7_54 : Int) (uv3_54 : Value) => [vec uv3_54 71 4 (List.map Edg.cells v3_54)]) (fun (v3_54 : List Edg) (to7_54 : Int) (uv3_54 : Value) (m : Nat) => iter (roundelayref6_Edges_L2 l t from6_45) m (v3_54, to7_54) = some o18 ∧ SliceLen uv3_54 v3_54.length) (fun (v3_54 : List Edg) (to7_54 : Int) (uv3_54 : Value) => o18 = .go (v3_54, to7_54) ∧ SliceLen uv3_54 v3_54.length) v3_45 0 uv3_45 n21 ⟨ho22, hlv3_45⟩ ⟨rfl, rfl, rfl, rfl, rfl, trivial⟩ (fun w hw => hw.pick [0, 1, 2, 3] (by decide)) ?_ ?_
      · skip
        rintro v3_54 to7_54 uv3_54 ⟨rfl, hlv3_54⟩
        refine WQ.block ?_
        refine WQ.then ?_
        refine WC.region ?_
        refine WL.q rfl rfl rfl (QV.move rfl rfl) ?_
        obtain ⟨c23, hm24⟩ := ck_some hm20; clear hm20
        refine WL.q rfl rfl rfl (QV.add rfl rfl rfl rfl c23) ?_
        refine WL.q rfl rfl rfl (QV.assign rfl rfl) ?_
        refine WL.nil ?_
        exact WQ.again3 v3_54 (from6_45 + 1) uv3_54 m12 ⟨up_next hm24 hn15, hlv3_54⟩ (Nat.lt_succ_self _) ⟨rfl, rfl, rfl, rfl, trivial⟩ (fun w hw => hw.pick [0, 1, 2, 3] (by decide))
      · skip
        rintro v3_54 to7_54 uv3_54 m25 ⟨hI26, hlv3_54⟩
        obtain ⟨m27, s28, rfl, hm29, hn30⟩ := iter_step hI26; clear hI26; unfold roundelayref6_Edges_L2 at hm29; simp only at hm29
        refine WC.seq ?_
        refine WC.seq ?_
        refine WC.region ?_
        refine WL.q rfl rfl rfl (QV.move rfl rfl) ?_
        refine WL.q rfl rfl rfl (QV.fieldAddr fd25_1 rfl rfl) ?_
        refine WL.q rfl rfl rfl (QV.load pl23 rfl rfl (Own.cell 2 rfl rfl)) ?_
        refine WL.q rfl rfl rfl (QV.lenS Try.underlying23 rfl rfl h_l_body.lenMap) ?_
        refine WL.q rfl rfl rfl (QV.lss rfl rfl rfl rfl) ?_
        refine WL.nil ?_
        refine WQ.then ?_
        refine WC.cond rfl (fun h31 => ?_) (fun h31 => ?_)
        · skip
          have hm32 := br_t h31 hm29; clear hm29
          refine WC.skip ?_
          refine WQ.then ?_
          refine WC.seq ?_
          refine WC.block ?_
          refine WC.seq ?_
          refine WC.region ?_
          refine WL.q rfl rfl rfl (QV.assign rfl rfl) ?_
          refine WL.nil ?_
          refine WQ.then ?_
          obtain ⟨o33, ho34, hm35⟩ := bd_some hm32; clear hm32; obtain ⟨n36, ho37⟩ := lp_some ho34
          refine WC.bloop3 (H2 := [blk b2 [.int .i64 t.u0, .int .i64 t.u1, .int .i64 t.u2, .int .i64 t.w0, .int .i64 t.w1, .int .i64 t.w2, .int .i64 t.regs] 28, blk b1 [v_l_logs, v_l_body, v_l_outs] 25, kn M w.heap.size K0 K0]) (τ := [(2, (true, _)), (3, (true, _)), (6, (true, _)), (7, (true, _))]) (fun (v3_57 : List Edg) (back8_57 : Int) (uv3_57 : Value) => [(5, (true, uv3_57)), (8, (true, .int .i64 back8_57))]) (fun (v3_57 : List Edg) (back8_57 : Int) (uv3_57 : Value) => [vec uv3_57 71 4 (List.map Edg.cells v3_57)]) (fun (v3_57 : List Edg) (back8_57 : Int) (uv3_57 : Value) (m : Nat) => iter (roundelayref6_Edges_L4 l t from6_45 to7_54) m (v3_57, back8_57) = some o33 ∧ SliceLen uv3_57 v3_57.length) (fun (v3_57 : List Edg) (back8_57 : Int) (uv3_57 : Value) => o33 = .go (v3_57, back8_57) ∧ SliceLen uv3_57 v3_57.length) v3_54 0 uv3_54 n36 ⟨ho37, hlv3_54⟩ ⟨rfl, rfl, rfl, rfl, rfl, rfl, trivial⟩ (fun w hw => hw.pick [0, 1, 2, 3] (by decide)) ?_ ?_
          · skip
            rintro v3_57 back8_57 uv3_57 ⟨rfl, hlv3_57⟩
            refine WQ.block ?_
            refine WQ.then ?_
            refine WC.region ?_
            refine WL.q rfl rfl rfl (QV.move rfl rfl) ?_
            obtain ⟨c38, hm39⟩ := ck_some hm35; clear hm35
            refine WL.q rfl rfl rfl (QV.add rfl rfl rfl rfl c38) ?_
            refine WL.q rfl rfl rfl (QV.assign rfl rfl) ?_
            refine WL.nil ?_
            exact WQ.again3 v3_57 (to7_54 + 1) uv3_57 m27 ⟨up_next hm39 hn30, hlv3_57⟩ (Nat.lt_succ_self _) ⟨rfl, rfl, rfl, rfl, rfl, trivial⟩ (fun w hw => hw.pick [0, 1, 2, 3] (by decide))
          · skip
            rintro v3_57 back8_57 uv3_57 m40 ⟨hI41, hlv3_57⟩
            obtain ⟨m42, s43, rfl, hm44, hn45⟩ := iter_step hI41; clear hI41; unfold roundelayref6_Edges_L4 at hm44; simp only at hm44
            refine WC.seq ?_
            refine WC.seq ?_
            refine WC.region ?_
            refine WL.q rfl rfl rfl (QV.move rfl rfl) ?_
            refine WL.q rfl rfl rfl (QV.leq rfl rfl rfl rfl) ?_
            refine WL.nil ?_
            refine WQ.then ?_
            refine WC.cond rfl (fun h46 => ?_) (fun h46 => ?_)
            · skip
              have hm47 := br_t h46 hm44; clear hm44
              refine WC.skip ?_
              refine WQ.then ?_
              refine WC.seq ?_
              refine WC.block ?_
              refine WC.seq ?_
              refine WC.region ?_
              refine WL.q rfl rfl rfl (QV.assign rfl rfl) ?_
              refine WL.nil ?_
              refine WQ.then ?_
              obtain ⟨o48, ho49, hm50⟩ := bd_some hm47; clear hm47; obtain ⟨n51, ho52⟩ := lp_some ho49
              refine WC.bloop3 (H2 := [blk b2 [.int .i64 t.u0, .int .i64 t.u1, .int .i64 t.u2, .int .i64 t.w0, .int .i64 t.w1, .int .i64 t.w2, .int .i64 t.regs] 28, blk b1 [v_l_logs, v_l_body, v_l_outs] 25, kn M w.heap.size K0 K0]) (τ := [(2, (true, _)), (3, (true, _)), (6, (true, _)), (7, (true, _)), (8, (true, _))]) (fun (v3_58 : List Edg) (wait9_58 : Int) (uv3_58 : Value) => [(5, (true, uv3_58)), (9, (true, .int .i64 wait9_58))]) (fun (v3_58 : List Edg) (wait9_58 : Int) (uv3_58 : Value) => [vec uv3_58 71 4 (List.map Edg.cells v3_58)]) (fun (v3_58 : List Edg) (wait9_58 : Int) (uv3_58 : Value) (m : Nat) => iter (roundelayref6_Edges_L6 l t from6_45 to7_54 back8_57) m (v3_58, wait9_58) = some o48 ∧ SliceLen uv3_58 v3_58.length) (fun (v3_58 : List Edg) (wait9_58 : Int) (uv3_58 : Value) => o48 = .go (v3_58, wait9_58) ∧ SliceLen uv3_58 v3_58.length) v3_57 0 uv3_57 n51 ⟨ho52, hlv3_57⟩ ⟨rfl, rfl, rfl, rfl, rfl, rfl, rfl, trivial⟩ (fun w hw => hw.pick [0, 1, 2, 3] (by decide)) ?_ ?_
              · skip
                rintro v3_58 wait9_58 uv3_58 ⟨rfl, hlv3_58⟩
                refine WQ.block ?_
                refine WQ.then ?_
                refine WC.region ?_
                refine WL.q rfl rfl rfl (QV.move rfl rfl) ?_
                obtain ⟨c53, hm54⟩ := ck_some hm50; clear hm50
                refine WL.q rfl rfl rfl (QV.add rfl rfl rfl rfl c53) ?_
                refine WL.q rfl rfl rfl (QV.assign rfl rfl) ?_
                refine WL.nil ?_
                exact WQ.again3 v3_58 (back8_57 + 1) uv3_58 m42 ⟨up_next hm54 hn45, hlv3_58⟩ (Nat.lt_succ_self _) ⟨rfl, rfl, rfl, rfl, rfl, rfl, trivial⟩ (fun w hw => hw.pick [0, 1, 2, 3] (by decide))
              · skip
                rintro v3_58 wait9_58 uv3_58 m55 ⟨hI56, hlv3_58⟩
                obtain ⟨m57, s58, rfl, hm59, hn60⟩ := iter_step hI56; clear hI56; unfold roundelayref6_Edges_L6 at hm59; simp only at hm59
                refine WC.seq ?_
                refine WC.seq ?_
                refine WC.region ?_
                refine WL.q rfl rfl rfl (QV.move rfl rfl) ?_
                refine WL.q rfl rfl rfl (QV.leq rfl rfl rfl rfl) ?_
                refine WL.nil ?_
                refine WQ.then ?_
                refine WC.cond rfl (fun h61 => ?_) (fun h61 => ?_)
                · skip
                  have hm62 := br_t h61 hm59; clear hm59
                  refine WC.skip ?_
                  refine WQ.then ?_
                  refine WC.seq ?_
                  refine WC.block ?_
                  refine WC.seq ?_
                  refine WC.region ?_
                  refine WL.q rfl rfl rfl (QV.move rfl rfl) ?_
                  refine WL.q rfl rfl rfl (QV.move rfl rfl) ?_
                  refine WL.q rfl rfl rfl (QV.move rfl rfl) ?_
                  refine WL.q rfl rfl rfl (QV.move rfl rfl) ?_
                  refine WL.q rfl rfl rfl (QV.build (ps := [(0, .tmp 33), (1, .tmp 34), (2, .tmp 35), (3, .tmp 36)]) (cells := [.int .i64 from6_45, .int .i64 to7_54, .int .i64 back8_57, .int .i64 wait9_58]) (EvAll.cons rfl rfl (EvAll.cons rfl rfl (EvAll.cons rfl rfl (EvAll.cons rfl rfl EvAll.nil)))) (by kernel_rfl)) ?_
                  refine WL.effect rfl ?_
                  refine (EV.alloc (by decide) ze71 (fun b63 => ?_))
                  refine WL.effect rfl ?_
                  refine (EV.store 0 rfl rfl rfl rfl rfl rfl (vs := [.int .i64 from6_45, .int .i64 to7_54, .int .i64 back8_57, .int .i64 wait9_58]) (show Value.cells _ = List.toArray _ from rfl) sz71 (Nat.le_of_ble_eq_true rfl) (one_cons rfl (one_cons rfl (one_cons rfl (one_cons rfl one_nil)))) ?_)
                  refine WL.nil ?_
                  refine WQ.then ?_
                  refine WC.seq ?_
                  refine WC.region ?_
                  refine WL.q rfl rfl rfl (QV.loadAgg ag25 rfl rfl rfl (Own.cellsBlk 3 rfl)) ?_
                  refine WL.q rfl rfl rfl (QV.loadAgg ag28 rfl rfl rfl (Own.cellsBlk 2 rfl)) ?_
                  refine WL.q rfl rfl rfl (QV.loadAgg ag71 rfl rfl rfl (Own.cellsBlk 0 rfl)) ?_
                  obtain ⟨x64, hx65, hm66⟩ := bd_some hm62; clear hm62
                  refine WL.q rfl rfl rfl (QV.call en65 (EvAll.cons rfl rfl (EvAll.cons rfl rfl (EvAll.cons rfl rfl EvAll.nil))) (fun w hw => have h := roundelayref6_is_w w hx65 ((Own.karr 4 rfl hk h_l_logs) w hw) ((Own.karr 4 rfl hk h_l_body) w hw) ((Own.karr 4 rfl hk h_l_outs) w hw); h)) ?_
                  refine WL.nil ?_
                  refine WQ.then ?_
                  refine WC.cond rfl (fun h67 => ?_) (fun h67 => ?_)
                  · skip
                    have hm68 := br_t h67 hm66; clear hm66
                    refine WC.region ?_
                    refine WL.q rfl rfl rfl (QV.move rfl rfl) ?_
                    refine WL.q rfl rfl rfl (QV.loadAgg ag71 rfl rfl rfl (Own.cellsBlk 0 rfl)) ?_
                    refine WL.effect rfl ?_
                    refine (EV.buildSlice (by decide) sz_68 (by decide) (by decide) (ps := [(0, .tmp 43)]) (cells := [.int .i64 from6_45, .int .i64 to7_54, .int .i64 back8_57, .int .i64 wait9_58]) (EvAll.cons rfl rfl EvAll.nil) (by kernel_rfl) (fun b69 => ?_))
                    refine WL.effect rfl ?_
                    obtain ⟨c70, hm71⟩ := ck_some hm68; clear hm68
                    refine (EV.appendL (enc := Edg.cells) (xs := v3_58) (ys := [(Edg.mk from6_45 to7_54 back8_57 wait9_58)]) ((v3_58 ++ [(Edg.mk from6_45 to7_54 back8_57 wait9_58)])) 2 (by decide) ve68 rfl rfl rfl rfl rfl (Own.blkArr 0 (rows := [(Edg.mk from6_45 to7_54 back8_57 wait9_58)].map Edg.cells) rfl rfl (rows_len Edg.cells_len)) Edg.cells_len (Edg.cells_one _) rfl c70.1 c70.2 (fun u72 hu73 => ?_))
                    refine WL.q rfl rfl rfl (QV.assign rfl rfl) ?_
                    refine WL.nil ?_
                    refine WQ.block ?_
                    refine WQ.then ?_
                    refine WC.region ?_
                    refine WL.q rfl rfl rfl (QV.move rfl rfl) ?_
                    obtain ⟨c74, hm75⟩ := ck_some hm71; clear hm71
                    refine WL.q rfl rfl rfl (QV.add rfl rfl rfl rfl c74) ?_
                    refine WL.q rfl rfl rfl (QV.assign rfl rfl) ?_
                    refine WL.nil ?_
                    exact WQ.again3 (v3_58 ++ [(Edg.mk from6_45 to7_54 back8_57 wait9_58)]) (wait9_58 + 1) u72 m57 ⟨up_next hm75 hn60, hu73⟩ (Nat.lt_succ_self _) ⟨rfl, rfl, rfl, rfl, rfl, rfl, rfl, trivial⟩ (fun w hw => hw.pick [2, 3, 4, 5] (by decide))
                  · skip
                    have hm76 := br_f h67 hm66; clear hm66
                    refine WC.skip ?_
                    refine WQ.block ?_
                    refine WQ.then ?_
                    refine WC.region ?_
                    refine WL.q rfl rfl rfl (QV.move rfl rfl) ?_
                    obtain ⟨c77, hm78⟩ := ck_some hm76; clear hm76
                    refine WL.q rfl rfl rfl (QV.add rfl rfl rfl rfl c77) ?_
                    refine WL.q rfl rfl rfl (QV.assign rfl rfl) ?_
                    refine WL.nil ?_
                    exact WQ.again3 v3_58 (wait9_58 + 1) uv3_58 m57 ⟨up_next hm78 hn60, hlv3_58⟩ (Nat.lt_succ_self _) ⟨rfl, rfl, rfl, rfl, rfl, rfl, rfl, trivial⟩ (fun w hw => hw.pick [1, 2, 3, 4] (by decide))
                · skip
                  have hm79 := br_f h61 hm59; clear hm59
                  refine WC.exit ?_
                  refine WQ.then_exit ?_
                  refine WQ.then_exit ?_
                  refine WQ.block_exit ?_
                  exact WQ.out3 v3_58 wait9_58 uv3_58 ⟨up_brk hm79 hn60, hlv3_58⟩ ⟨rfl, rfl, rfl, rfl, rfl, rfl, rfl, trivial⟩ (fun w hw => hw.pick [0, 1, 2, 3] (by decide))
            · skip
              have hm80 := br_f h46 hm44; clear hm44
              refine WC.exit ?_
              refine WQ.then_exit ?_
              refine WQ.then_exit ?_
              refine WQ.block_exit ?_
              exact WQ.out3 v3_57 back8_57 uv3_57 ⟨up_brk hm80 hn45, hlv3_57⟩ ⟨rfl, rfl, rfl, rfl, rfl, rfl, trivial⟩ (fun w hw => hw.pick [0, 1, 2, 3] (by decide))
        · skip
          have hm81 := br_f h31 hm29; clear hm29
          refine WC.exit ?_
          refine WQ.then_exit ?_
          refine WQ.then_exit ?_
          refine WQ.block_exit ?_
          exact WQ.out3 v3_54 to7_54 uv3_54 ⟨up_brk hm81 hn30, hlv3_54⟩ ⟨rfl, rfl, rfl, rfl, rfl, trivial⟩ (fun w hw => hw.pick [0, 1, 2, 3] (by decide))
    · skip
      have hm82 := br_f h16 hm14; clear hm14
      refine WC.exit ?_
      refine WQ.then_exit ?_
      refine WQ.then_exit ?_
      refine WQ.block_exit ?_
      exact WQ.out3 v3_45 from6_45 uv3_45 ⟨up_brk hm82 hn15, hlv3_45⟩ ⟨rfl, rfl, rfl, rfl, trivial⟩ (fun w hw => hw.pick [0, 1, 2, 3] (by decide))

set_option maxRecDepth 8000 in
theorem roundelayref6_May_w {v_l_logs : Value} {v_l_body : Value} {v_l_outs : Value} {l : Lp} {t : Tgt} {r : Bool} (w : World) (hm : roundelayref6_May_m l t = some r) (h_l_logs : Arr w v_l_logs 1 (l.logs.map icell)) (h_l_body : Arr w v_l_body 9 (l.body.map Stm.cells)) (h_l_outs : Arr w v_l_outs 1 (l.outs.map icell)) : Calls Try.prog 16 #[.agg #[v_l_logs, v_l_body, v_l_outs], .agg #[.int .i64 t.u0, .int .i64 t.u1, .int .i64 t.u2, .int .i64 t.w0, .int .i64 t.w1, .int .i64 t.w2, .int .i64 t.regs]] w (fun e w' => e = .returned (.bool r) ∧ Grow w w') := by
  unfold roundelayref6_May_m at hm
  have hk := Base.rfl (w := w)
  refine calls_of_WC (n := 11) (args := [.agg #[v_l_logs, v_l_body, v_l_outs], .agg #[.int .i64 t.u0, .int .i64 t.u1, .int .i64 t.u2, .int .i64 t.w0, .int .i64 t.w1, .int .i64 t.w2, .int .i64 t.regs]]) Try.func16 rfl rfl (Nat.le_of_ble_eq_true rfl) ?_ (Own.startK hk (Own.start w))
  refine WC.seq ?_
  refine WC.region ?_
  refine WL.effect rfl ?_
  refine (EV.boxAgg (by decide) rfl rfl (fun b1 => ?_))
  refine WL.effect rfl ?_
  refine (EV.boxAgg (by decide) rfl rfl (fun b2 => ?_))
  refine WL.q rfl rfl rfl (QV.assign rfl rfl) ?_
  refine WL.nil ?_
  refine WQ.then ?_
  refine WC.seq ?_
  refine WC.region ?_
  refine WL.q rfl rfl rfl (QV.loadAgg ag25 rfl rfl rfl (Own.cellsBlk 1 rfl)) ?_
  obtain ⟨x3, hx4, hm5⟩ := bd_some hm; clear hm
  refine WL.q rfl rfl rfl (QV.call en43 (EvAll.cons rfl rfl EvAll.nil) (fun w hw => have h := roundelayref2_May_w w hx4 ((Own.karr 2 rfl hk h_l_logs) w hw) ((Own.karr 2 rfl hk h_l_body) w hw) ((Own.karr 2 rfl hk h_l_outs) w hw); h)) ?_
  refine WL.q rfl rfl rfl (QV.move rfl rfl) ?_
  refine WL.g rfl rfl (GuardIs.pos rfl rfl) (fun hG => QV.loadAgg ag28 rfl rfl rfl (Own.cellsBlk 0 rfl)) ?_
  obtain ⟨x6, hx7, hm8⟩ := bdG_some hm5; clear hm5
  refine WL.g rfl rfl (GuardIs.pos rfl rfl) (fun hG => QV.call en44 (EvAll.cons rfl hG EvAll.nil) (fun w hw => have h := roundelayref4_May_w w (hx7 hG) ; h)) ?_
  refine WL.q rfl rfl rfl (QV.pickAnd rfl rfl rfl (fun h => h)) ?_
  refine WL.q rfl rfl rfl (QV.assign rfl rfl) ?_
  refine WL.nil ?_
  refine WQ.then ?_
  refine WC.ret ?_
  obtain rfl := (eq_of_some hm8).symm
  refine WQ.ret1 rfl rfl (fun w hw => ?_)
  exact ⟨rfl, Own.kgrow (fun _ x => x) hw⟩
end Go.Proofs.Ytaimbkndebaaiac
end
