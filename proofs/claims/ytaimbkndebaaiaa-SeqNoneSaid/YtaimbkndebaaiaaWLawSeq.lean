/- Walks: the functions do what the models say. -/
import Derived.Test.YtaimbkndebaaiaaMLawSeq
import Derived.Test.YtaimbkndebaaiaaProg
import Derived.Test.YtaimbkndebaaiaaWSeq
import Derived.Test.YtaimbkndebaaiaaWLoop
import Derived.KernelRfl
namespace Go.Proofs.Ytaimbkndebaaiaa
open Go.Rd
set_option linter.unusedVariables false
set_option linter.unusedSimpArgs false
namespace TLawSeq
theorem ag51 : AggT Try.prog 51 3 := ⟨_, Try.underlying51, rfl, by kernel_rfl⟩
theorem ag54 : AggT Try.prog 54 2 := ⟨_, Try.underlying54, rfl, by kernel_rfl⟩
theorem ag59 : AggT Try.prog 59 2 := ⟨_, Try.underlying59, rfl, by kernel_rfl⟩
theorem en32 : Enters Try.prog 32 := ⟨Try.f32, Try.func32, by kernel_rfl, by kernel_rfl⟩
theorem en33 : Enters Try.prog 33 := ⟨Try.f33, Try.func33, by kernel_rfl, by kernel_rfl⟩
theorem en34 : Enters Try.prog 34 := ⟨Try.f34, Try.func34, by kernel_rfl, by kernel_rfl⟩
theorem en35 : Enters Try.prog 35 := ⟨Try.f35, Try.func35, by kernel_rfl, by kernel_rfl⟩
theorem en36 : Enters Try.prog 36 := ⟨Try.f36, Try.func36, by kernel_rfl, by kernel_rfl⟩
theorem fd51_1 : FieldT Try.prog 51 1 1 := ⟨_, _, 0, Try.underlying51, rfl, rfl, by kernel_rfl⟩
theorem fd51_2 : FieldT Try.prog 51 2 2 := ⟨_, _, 0, Try.underlying51, rfl, rfl, by kernel_rfl⟩
theorem fd54_0 : FieldT Try.prog 54 0 0 := ⟨_, _, 0, Try.underlying54, rfl, rfl, by kernel_rfl⟩
theorem fd54_1 : FieldT Try.prog 54 1 1 := ⟨_, _, 0, Try.underlying54, rfl, rfl, by kernel_rfl⟩
theorem fd59_0 : FieldT Try.prog 59 0 0 := ⟨_, _, 0, Try.underlying59, rfl, rfl, by kernel_rfl⟩
theorem fd59_1 : FieldT Try.prog 59 1 1 := ⟨_, _, 0, Try.underlying59, rfl, rfl, by kernel_rfl⟩
theorem pl2 : Plain Try.prog 2 := ⟨_, Try.underlying2, rfl⟩
theorem pl3 : Plain Try.prog 3 := ⟨_, Try.underlying3, rfl⟩
theorem pl48 : Plain Try.prog 48 := ⟨_, Try.underlying48, rfl⟩
theorem pl49 : Plain Try.prog 49 := ⟨_, Try.underlying49, rfl⟩
theorem pl52 : Plain Try.prog 52 := ⟨_, Try.underlying52, rfl⟩
theorem pl57 : Plain Try.prog 57 := ⟨_, Try.underlying57, rfl⟩
theorem sl48 : SliceT Try.prog 48 3 1 := ⟨Try.underlying48, by kernel_rfl⟩
theorem sl52 : SliceT Try.prog 52 57 1 := ⟨Try.underlying52, by kernel_rfl⟩
theorem sl57 : SliceT Try.prog 57 2 1 := ⟨Try.underlying57, by kernel_rfl⟩
theorem sz59 : SizeT Try.prog 59 2 := by unfold SizeT; kernel_rfl
theorem ze59 : ZeroT Try.prog 59 [.slice none 0 0, .slice none 0 0] := by unfold ZeroT; kernel_rfl
end TLawSeq
open TLawSeq
set_option maxRecDepth 8000 in
theorem roundelaylaw_SeqRuns_w {v_l_logs : Value} {v_l_body : Value} {v_l_outs : Value} {v_s_bef : Value} {v_s_mem : Value} {l : Lp} {s : Sta} {turns : Int} {r : Bool} (w : World) (hm : roundelaylaw_SeqRuns_m l s turns = some r) (h_l_logs : Arr w v_l_logs 1 (l.logs.map icell)) (h_l_body : Arr w v_l_body 9 (l.body.map Stm.cells)) (h_l_outs : Arr w v_l_outs 1 (l.outs.map icell)) (h_s_bef : RowsA w v_s_bef s.bef) (h_s_mem : RowsA w v_s_mem s.mem) : Calls Try.prog 11 #[.agg #[v_l_logs, v_l_body, v_l_outs], .agg #[v_s_bef, v_s_mem], .int .i64 turns] w (fun e w' => e = .returned (.bool r) ∧ Grow w w') := by
  unfold roundelaylaw_SeqRuns_m at hm
  have hk := Base.rfl (w := w)
  refine calls_of_WC (n := 43) (args := [.agg #[v_l_logs, v_l_body, v_l_outs], .agg #[v_s_bef, v_s_mem], .int .i64 turns]) Try.func11 rfl rfl (Nat.le_of_ble_eq_true rfl) ?_ (Own.startK hk (Own.start w))
  refine WC.seq ?_
  refine WC.region ?_
  refine WL.effect rfl ?_
  refine (EV.boxAgg (by decide) rfl rfl (fun b1 => ?_))
  refine WL.effect rfl ?_
  refine (EV.boxAgg (by decide) rfl rfl (fun b2 => ?_))
  refine WL.q rfl rfl rfl (QV.assign rfl rfl) ?_
  refine WL.nil ?_
  refine WQ.then ?_
  refine WC.seq ?_
  refine WC.region ?_
  refine WL.q rfl rfl rfl (QV.loadAgg ag51 rfl rfl rfl (Own.cellsBlk 1 rfl)) ?_
  refine WL.q rfl rfl rfl (QV.loadAgg ag54 rfl rfl rfl (Own.cellsBlk 0 rfl)) ?_
  refine WL.q rfl rfl rfl (QV.move rfl rfl) ?_
  refine WL.effect rfl ?_
  obtain ⟨x3, hx4, hm5⟩ := bd_some hm; clear hm
  refine EV.of (C' := Own noM w [kn noM w.heap.size w w, blk b2 [v_s_bef, v_s_mem] 54, blk b1 [v_l_logs, v_l_body, v_l_outs] 51]) (fun w hw => hw.pick [2, 0, 1] (by decide)) ?_
  refine (EV.callR (X := Value × Value × World) (R := []) (fun X => .tuple #[.agg #[X.1, X.2.1], .int .i64 x3.2]) (fun X => []) (fun X => X.2.2) (fun X => Arr X.2.2 X.1 1 (x3.1.outs.map icell) ∧ RowsA X.2.2 X.2.1 x3.1.mem) hk (fun _ h => by cases h; decide) en32 (EvAll.cons rfl rfl (EvAll.cons rfl rfl (EvAll.cons rfl rfl EvAll.nil))) (fun M w h1 h2 => have h := seq_Run_w hx4 h_l_logs h_l_body h_l_outs h_s_bef h_s_mem M w h1 h2; h) (fun X6 hF6 hle6 => ?_))
  refine WL.q rfl rfl rfl (QV.move rfl rfl) ?_
  refine WL.q rfl rfl rfl (QV.extract rfl rfl rfl) ?_
  refine WL.q rfl rfl rfl (QV.extract rfl rfl rfl) ?_
  refine WL.effect rfl ?_
  refine (EV.alloc (by decide) ze59 (fun b7 => ?_))
  refine WL.effect rfl ?_
  refine (EV.store 0 rfl rfl rfl rfl rfl rfl (vs := [X6.1, X6.2.1]) (show Value.cells _ = List.toArray _ from rfl) sz59 (Nat.le_of_ble_eq_true rfl) (one_cons (SliceLen.one hF6.1.lenMap) (one_cons (SliceLen.one hF6.2.slen) one_nil)) ?_)
  refine WL.q rfl rfl rfl (QV.assign rfl rfl) ?_
  refine WL.nil ?_
  refine WQ.then ?_
  refine WC.seq ?_
  refine WC.region ?_
  refine WL.q rfl rfl rfl (QV.loadAgg ag51 rfl rfl rfl (Own.cellsBlk 3 rfl)) ?_
  refine WL.q rfl rfl rfl (QV.loadAgg ag54 rfl rfl rfl (Own.cellsBlk 2 rfl)) ?_
  refine WL.q rfl rfl rfl (QV.move rfl rfl) ?_
  obtain ⟨x8, hx9, hm10⟩ := bd_some hm5; clear hm5
  refine WL.q rfl rfl rfl (QV.call en33 (EvAll.cons rfl rfl (EvAll.cons rfl rfl (EvAll.cons rfl rfl EvAll.nil))) (fun w hw => have h := roundelayref3_Wrong_w w hx9 ((Own.karr 1 rfl hk (h_l_logs.le hle6)) w hw) ((Own.karr 1 rfl hk (h_l_body.le hle6)) w hw) ((Own.karr 1 rfl hk (h_l_outs.le hle6)) w hw) (Own.krows 1 rfl hk (h_s_bef.le hle6) w hw) (Own.krows 1 rfl hk (h_s_mem.le hle6) w hw); h)) ?_
  refine WL.q rfl rfl rfl (QV.assign rfl rfl) ?_
  refine WL.nil ?_
  refine WQ.then ?_
  refine WC.seq ?_
  refine WC.seq ?_
  refine WC.region ?_
  refine WL.q rfl rfl rfl (QV.move rfl rfl) ?_
  refine WL.q rfl rfl rfl (QV.neq rfl rfl rfl rfl) ?_
  refine WL.nil ?_
  refine WQ.then ?_
  refine WC.cond rfl (fun h11 => ?_) (fun h11 => ?_)
  · skip
    have hm12 := br_t h11 hm10; clear hm10
    refine WC.seq ?_
    refine WC.region ?_
    refine WL.q rfl rfl rfl (QV.move rfl rfl) ?_
    refine WL.q rfl rfl rfl (QV.move rfl rfl) ?_
    refine WL.q rfl rfl rfl (QV.eql rfl rfl rfl rfl) ?_
    refine WL.q rfl rfl rfl (QV.move rfl rfl) ?_
    refine WL.g rfl rfl (GuardIs.pos rfl rfl) (fun hG => QV.loadAgg ag59 rfl rfl rfl (Own.cellsBlk 0 rfl)) ?_
    refine WL.g rfl rfl (GuardIs.pos rfl rfl) (fun hG => QV.build (ps := []) (cells := [.slice none 0 0, .slice none 0 0]) EvAll.nil (by kernel_rfl)) ?_
    obtain ⟨x13, hx14, hm15⟩ := bdG_some hm12; clear hm12
    refine WL.g rfl rfl (GuardIs.pos rfl rfl) (fun hG => QV.call en34 (EvAll.cons rfl hG (EvAll.cons rfl hG EvAll.nil)) (fun w hw => have h := roundelayref3_Same_w w (hx14 hG) ((Own.karr 1 rfl hk hF6.1) w hw) (Own.krows 1 rfl hk hF6.2 w hw) Arr.nil RowsA.nil; h)) ?_
    refine WL.q rfl rfl rfl (QV.pickAnd rfl rfl rfl (fun h => h)) ?_
    refine WL.q rfl rfl rfl (QV.assign rfl rfl) ?_
    refine WL.nil ?_
    refine WQ.then ?_
    refine WC.ret ?_
    refine WQ.then_ret ?_
    obtain rfl := eq_of_some hm15
    refine WQ.ret1 rfl rfl (fun w hw => ?_)
    exact ⟨rfl, Own.kgrow (fun _ x => x) hw⟩
  · skip
    have hm16 := br_f h11 hm10; clear hm10
    refine WC.skip ?_
    refine WQ.then ?_
    refine WC.seq ?_
    refine WC.region ?_
    refine WL.q rfl rfl rfl (QV.loadAgg ag51 rfl rfl rfl (Own.cellsBlk 3 rfl)) ?_
    refine WL.q rfl rfl rfl (QV.loadAgg ag54 rfl rfl rfl (Own.cellsBlk 2 rfl)) ?_
    refine WL.q rfl rfl rfl (QV.move rfl rfl) ?_
    refine WL.effect rfl ?_
    obtain ⟨x17, hx18, hm19⟩ := bd_some hm16; clear hm16
    refine EV.of (C' := Own noM w [kn noM w.heap.size w X6.2.2, blk b7 [X6.1, X6.2.1] 59, blk b2 [v_s_bef, v_s_mem] 54, blk b1 [v_l_logs, v_l_body, v_l_outs] 51]) (fun w hw => hw.pick [1, 0, 2, 3] (by decide)) ?_
    refine (EV.callR (X := Value × Value × World) (R := []) (fun X => .agg #[X.1, X.2.1]) (fun X => []) (fun X => X.2.2) (fun X => Arr X.2.2 X.1 1 (x17.outs.map icell) ∧ RowsA X.2.2 X.2.1 x17.mem) hk (fun _ h => by cases h; decide) en35 (EvAll.cons rfl rfl (EvAll.cons rfl rfl (EvAll.cons rfl rfl EvAll.nil))) (fun M w h1 h2 => have h := roundelayref3_Play_w hx18 (h_l_logs.le hle6) (h_l_body.le hle6) (h_l_outs.le hle6) (h_s_bef.le hle6) (h_s_mem.le hle6) M w h1 h2; h) (fun X20 hF20 hle20 => ?_))
    refine WL.effect rfl ?_
    refine (EV.alloc (by decide) ze59 (fun b21 => ?_))
    refine WL.effect rfl ?_
    refine (EV.store 0 rfl rfl rfl rfl rfl rfl (vs := [X20.1, X20.2.1]) (show Value.cells _ = List.toArray _ from rfl) sz59 (Nat.le_of_ble_eq_true rfl) (one_cons (SliceLen.one hF20.1.lenMap) (one_cons (SliceLen.one hF20.2.slen) one_nil)) ?_)
    refine WL.nil ?_
    refine WQ.then ?_
    refine WC.seq ?_
    refine WC.region ?_
    refine WL.q rfl rfl rfl (QV.move rfl rfl) ?_
    refine WL.q rfl rfl rfl (QV.eql rfl rfl rfl rfl) ?_
    refine WL.q rfl rfl rfl (QV.move rfl rfl) ?_
    refine WL.g rfl rfl (GuardIs.pos rfl rfl) (fun hG => QV.loadAgg ag59 rfl rfl rfl (Own.cellsBlk 2 rfl)) ?_
    refine WL.g rfl rfl (GuardIs.pos rfl rfl) (fun hG => QV.loadAgg ag59 rfl rfl rfl (Own.cellsBlk 0 rfl)) ?_
    obtain ⟨x22, hx23, hm24⟩ := bdG_some hm19; clear hm19
    refine WL.g rfl rfl (GuardIs.pos rfl rfl) (fun hG => QV.call en34 (EvAll.cons rfl hG (EvAll.cons rfl hG EvAll.nil)) (fun w hw => have h := roundelayref3_Same_w w (hx23 hG) ((Own.karr 1 rfl hk (hF6.1.le hle20)) w hw) (Own.krows 1 rfl hk (hF6.2.le hle20) w hw) ((Own.karr 1 rfl hk hF20.1) w hw) (Own.krows 1 rfl hk hF20.2 w hw); h)) ?_
    refine WL.q rfl rfl rfl (QV.pickAnd rfl rfl rfl (fun h => h)) ?_
    refine WL.q rfl rfl rfl (QV.assign rfl rfl) ?_
    refine WL.nil ?_
    refine WQ.then ?_
    refine WC.ret ?_
    obtain rfl := eq_of_some hm24
    refine WQ.ret1 rfl rfl (fun w hw => ?_)
    exact ⟨rfl, Own.kgrow (fun _ x => x) hw⟩

set_option maxRecDepth 8000 in
theorem roundelaykeep_SeqNone_w {v_l_logs : Value} {v_l_body : Value} {v_l_outs : Value} {v_s_bef : Value} {v_s_mem : Value} {l : Lp} {s : Sta} {r : Bool} (w : World) (hm : roundelaykeep_SeqNone_m l s = some r) (h_l_logs : Arr w v_l_logs 1 (l.logs.map icell)) (h_l_body : Arr w v_l_body 9 (l.body.map Stm.cells)) (h_l_outs : Arr w v_l_outs 1 (l.outs.map icell)) (h_s_bef : RowsA w v_s_bef s.bef) (h_s_mem : RowsA w v_s_mem s.mem) : Calls Try.prog 12 #[.agg #[v_l_logs, v_l_body, v_l_outs], .agg #[v_s_bef, v_s_mem]] w (fun e w' => e = .returned (.bool r) ∧ Grow w w') := by
  unfold roundelaykeep_SeqNone_m at hm
  have hk := Base.rfl (w := w)
  refine calls_of_WC (n := 73) (args := [.agg #[v_l_logs, v_l_body, v_l_outs], .agg #[v_s_bef, v_s_mem]]) Try.func12 rfl rfl (Nat.le_of_ble_eq_true rfl) ?_ (Own.startK hk (Own.start w))
  refine WC.seq ?_
  refine WC.region ?_
  refine WL.effect rfl ?_
  refine (EV.boxAgg (by decide) rfl rfl (fun b1 => ?_))
  refine WL.effect rfl ?_
  refine (EV.boxAgg (by decide) rfl rfl (fun b2 => ?_))
  refine WL.q rfl rfl rfl (QV.assign rfl rfl) ?_
  refine WL.nil ?_
  refine WQ.then ?_
  refine WC.seq ?_
  refine WC.region ?_
  refine WL.q rfl rfl rfl (QV.loadAgg ag51 rfl rfl rfl (Own.cellsBlk 1 rfl)) ?_
  refine WL.q rfl rfl rfl (QV.loadAgg ag54 rfl rfl rfl (Own.cellsBlk 0 rfl)) ?_
  refine WL.effect rfl ?_
  obtain ⟨x3, hx4, hm5⟩ := bd_some hm; clear hm
  refine EV.of (C' := Own noM w [kn noM w.heap.size w w, blk b2 [v_s_bef, v_s_mem] 54, blk b1 [v_l_logs, v_l_body, v_l_outs] 51]) (fun w hw => hw.pick [2, 0, 1] (by decide)) ?_
  refine (EV.callR (X := Value × Value × World) (R := []) (fun X => .tuple #[.agg #[X.1, X.2.1], .int .i64 x3.2]) (fun X => []) (fun X => X.2.2) (fun X => Arr X.2.2 X.1 1 (x3.1.outs.map icell) ∧ RowsA X.2.2 X.2.1 x3.1.mem) hk (fun _ h => by cases h; decide) en32 (EvAll.cons rfl rfl (EvAll.cons rfl rfl (EvAll.cons rfl rfl EvAll.nil))) (fun M w h1 h2 => have h := seq_Run_w hx4 h_l_logs h_l_body h_l_outs h_s_bef h_s_mem M w h1 h2; h) (fun X6 hF6 hle6 => ?_))
  refine WL.q rfl rfl rfl (QV.move rfl rfl) ?_
  refine WL.q rfl rfl rfl (QV.extract rfl rfl rfl) ?_
  refine WL.q rfl rfl rfl (QV.extract rfl rfl rfl) ?_
  refine WL.effect rfl ?_
  refine (EV.alloc (by decide) ze59 (fun b7 => ?_))
  refine WL.effect rfl ?_
  refine (EV.store 0 rfl rfl rfl rfl rfl rfl (vs := [X6.1, X6.2.1]) (show Value.cells _ = List.toArray _ from rfl) sz59 (Nat.le_of_ble_eq_true rfl) (one_cons (SliceLen.one hF6.1.lenMap) (one_cons (SliceLen.one hF6.2.slen) one_nil)) ?_)
  refine WL.q rfl rfl rfl (QV.assign rfl rfl) ?_
  refine WL.nil ?_
  refine WQ.then ?_
  refine WC.seq ?_
  refine WC.seq ?_
  refine WC.region ?_
  refine WL.q rfl rfl rfl (QV.move rfl rfl) ?_
  refine WL.q rfl rfl rfl (QV.neq rfl rfl rfl rfl) ?_
  refine WL.nil ?_
  refine WQ.then ?_
  refine WC.cond rfl (fun h8 => ?_) (fun h8 => ?_)
  · skip
    have hm9 := br_t h8 hm5; clear hm5
    refine WC.seq ?_
    refine WC.region ?_
    refine WL.q rfl rfl rfl (QV.move rfl rfl) ?_
    refine WL.q rfl rfl rfl (QV.eql rfl rfl rfl rfl) ?_
    refine WL.q rfl rfl rfl (QV.move rfl rfl) ?_
    refine WL.g rfl rfl (GuardIs.pos rfl rfl) (fun hG => QV.fieldAddr fd59_0 rfl rfl) ?_
    refine WL.g rfl rfl (GuardIs.pos rfl rfl) (fun hG => QV.load pl57 rfl hG (Own.cell 0 rfl rfl)) ?_
    refine WL.g rfl rfl (GuardIs.pos rfl rfl) (fun hG => QV.lenS Try.underlying57 rfl hG hF6.1.lenMap) ?_
    refine WL.g rfl rfl (GuardIs.pos rfl rfl) (fun hG => QV.fieldAddr fd59_1 rfl rfl) ?_
    refine WL.g rfl rfl (GuardIs.pos rfl rfl) (fun hG => QV.load pl52 rfl hG (Own.cell 0 rfl rfl)) ?_
    refine WL.g rfl rfl (GuardIs.pos rfl rfl) (fun hG => QV.lenS Try.underlying52 rfl hG hF6.2.slen) ?_
    obtain ⟨c10, hm11⟩ := ck_some hm9; clear hm9
    refine WL.g rfl rfl (GuardIs.pos rfl rfl) (fun hG => QV.add rfl hG rfl hG (c10 hG)) ?_
    refine WL.g rfl rfl (GuardIs.pos rfl rfl) (fun hG => QV.eql rfl hG rfl rfl) ?_
    refine WL.q rfl rfl rfl (QV.pickAnd rfl rfl rfl (fun h => h)) ?_
    refine WL.q rfl rfl rfl (QV.assign rfl rfl) ?_
    refine WL.nil ?_
    refine WQ.then ?_
    refine WC.ret ?_
    refine WQ.then_ret ?_
    obtain rfl := eq_of_some hm11
    refine WQ.ret1 rfl rfl (fun w hw => ?_)
    exact ⟨rfl, Own.kgrow (fun _ x => x) hw⟩
  · skip
    have hm12 := br_f h8 hm5; clear hm5
    refine WC.skip ?_
    refine WQ.then ?_
    refine WC.seq ?_
    refine WC.seq ?_
    refine WC.region ?_
    refine WL.q rfl rfl rfl (QV.fieldAddr fd59_0 rfl rfl) ?_
    refine WL.q rfl rfl rfl (QV.load pl57 rfl rfl (Own.cell 0 rfl rfl)) ?_
    refine WL.q rfl rfl rfl (QV.lenS Try.underlying57 rfl rfl hF6.1.lenMap) ?_
    refine WL.q rfl rfl rfl (QV.fieldAddr fd51_2 rfl rfl) ?_
    refine WL.q rfl rfl rfl (QV.load pl48 rfl rfl (Own.cell 3 rfl rfl)) ?_
    refine WL.q rfl rfl rfl (QV.lenS Try.underlying48 rfl rfl (h_l_outs.le hle6).lenMap) ?_
    refine WL.q rfl rfl rfl (QV.neq rfl rfl rfl rfl) ?_
    refine WL.q rfl rfl rfl (QV.move rfl rfl) ?_
    refine WL.g rfl rfl (GuardIs.neg rfl rfl) (fun hG => QV.fieldAddr fd59_1 rfl rfl) ?_
    refine WL.g rfl rfl (GuardIs.neg rfl rfl) (fun hG => QV.load pl52 rfl hG (Own.cell 0 rfl rfl)) ?_
    refine WL.g rfl rfl (GuardIs.neg rfl rfl) (fun hG => QV.fieldAddr fd54_1 rfl rfl) ?_
    refine WL.g rfl rfl (GuardIs.neg rfl rfl) (fun hG => QV.load pl52 rfl hG (Own.cell 2 rfl rfl)) ?_
    obtain ⟨x13, hx14, hm15⟩ := bdG_some hm12; clear hm12
    refine WL.g rfl rfl (GuardIs.neg rfl rfl) (fun hG => QV.call en36 (EvAll.cons rfl hG (EvAll.cons rfl hG EvAll.nil)) (fun w hw => have h := roundelayref3_Words_w w (hx14 hG) (Own.krows 1 rfl hk hF6.2 w hw) (Own.krows 1 rfl hk (h_s_mem.le hle6) w hw); h)) ?_
    refine WL.g rfl rfl (GuardIs.neg rfl rfl) (fun hG => QV.not rfl hG) ?_
    refine WL.q rfl rfl rfl (QV.pickOr rfl rfl rfl (fun h => notF h)) ?_
    refine WL.q rfl rfl rfl (QV.move rfl rfl) ?_
    refine WL.g rfl rfl (GuardIs.neg rfl rfl) (fun hG => QV.fieldAddr fd51_1 rfl rfl) ?_
    refine WL.g rfl rfl (GuardIs.neg rfl rfl) (fun hG => QV.load pl49 rfl hG (Own.cell 3 rfl rfl)) ?_
    refine WL.g rfl rfl (GuardIs.neg rfl rfl) (fun hG => QV.lenS Try.underlying49 rfl hG (h_l_body.le hle6).lenMap) ?_
    refine WL.g rfl rfl (GuardIs.neg rfl rfl) (fun hG => QV.eql rfl hG rfl rfl) ?_
    refine WL.q rfl rfl rfl (QV.pickOr rfl rfl rfl (fun h => notF h)) ?_
    refine WL.nil ?_
    refine WQ.then ?_
    refine WC.cond rfl (fun h16 => ?_) (fun h16 => ?_)
    · skip
      have hm17 := br_t h16 hm15; clear hm15
      refine WC.seq ?_
      refine WC.region ?_
      refine WL.q rfl rfl rfl (QV.assign rfl rfl) ?_
      refine WL.nil ?_
      refine WQ.then ?_
      refine WC.ret ?_
      refine WQ.then_ret ?_
      obtain rfl := eq_of_some hm17
      refine WQ.ret1 rfl rfl (fun w hw => ?_)
      exact ⟨rfl, Own.kgrow (fun _ x => x) hw⟩
    · skip
      have hm18 := br_f h16 hm15; clear hm15
      refine WC.skip ?_
      refine WQ.then ?_
      refine WC.seq ?_
      refine WC.seq ?_
      refine WC.region ?_
      refine WL.q rfl rfl rfl (QV.assign rfl rfl) ?_
      refine WL.nil ?_
      refine WQ.then ?_
      obtain ⟨o19, ho20, hm21⟩ := bd_some hm18; clear hm18; obtain ⟨n22, ho23⟩ := lp_some ho20
      refine WC.bloop1 (H2 := [blk b7 [X6.1, X6.2.1] 59, kn noM w.heap.size w X6.2.2, blk b2 [v_s_bef, v_s_mem] 54, blk b1 [v_l_logs, v_l_body, v_l_outs] 51]) (τ := [(2, (true, _)), (3, (true, _)), (5, (true, _))]) (fun (i7_1 : Int) => [(7, (true, .int .i64 i7_1))]) (fun (i7_1 : Int) => []) (fun (i7_1 : Int) (m : Nat) => iter (roundelaykeep_SeqNone_L0 l s x3) m i7_1 = some o19) (fun (i7_1 : Int) => o19 = .go i7_1) 0 n22 ho23 ⟨rfl, rfl, rfl, rfl, trivial⟩ (fun w hw => hw.pick [0, 1, 2, 3] (by decide)) ?_ ?_
      · skip
        rintro i7_1 rfl
        refine WQ.then ?_
        refine WC.seq ?_
        refine WC.region ?_
        refine WL.q rfl rfl rfl (QV.assign rfl rfl) ?_
        refine WL.nil ?_
        refine WQ.then ?_
        refine WC.ret ?_
        obtain rfl := eq_of_some hm21
        refine WQ.ret1 rfl rfl (fun w hw => ?_)
        exact ⟨rfl, Own.kgrow (fun _ x => x) hw⟩
      · skip
        rintro i7_1 m24 hI25
        obtain ⟨m26, s27, rfl, hm28, hn29⟩ := iter_step hI25; clear hI25; unfold roundelaykeep_SeqNone_L0 at hm28
        refine WC.seq ?_
        refine WC.seq ?_
        refine WC.region ?_
        refine WL.q rfl rfl rfl (QV.move rfl rfl) ?_
        refine WL.q rfl rfl rfl (QV.fieldAddr fd51_2 rfl rfl) ?_
        refine WL.q rfl rfl rfl (QV.load pl48 rfl rfl (Own.cell 3 rfl rfl)) ?_
        refine WL.q rfl rfl rfl (QV.lenS Try.underlying48 rfl rfl (h_l_outs.le hle6).lenMap) ?_
        refine WL.q rfl rfl rfl (QV.lss rfl rfl rfl rfl) ?_
        refine WL.nil ?_
        refine WQ.then ?_
        refine WC.cond rfl (fun h30 => ?_) (fun h30 => ?_)
        · skip
          have hm31 := br_t h30 hm28; clear hm28
          refine WC.skip ?_
          refine WQ.then ?_
          refine WC.seq ?_
          refine WC.block ?_
          refine WC.seq ?_
          refine WC.dr (m := 17) (S := Own noM w [kn noM w.heap.size w X6.2.2, blk b7 [X6.1, X6.2.1] 59, blk b2 [v_s_bef, v_s_mem] 54, blk b1 [v_l_logs, v_l_body, v_l_outs] 51]) (by kernel_rfl) (by kernel_rfl) (fun w hw => hw.pick [1, 0, 2, 3] (by decide)) ?_
          refine WD.q 0 rfl (by kernel_rfl) rfl rfl rfl (QV.fieldAddr fd59_0 rfl rfl) ?_
          refine WD.q 1 rfl (by kernel_rfl) rfl rfl rfl (QV.load pl57 rfl rfl (Own.cell 1 rfl rfl)) ?_
          refine WD.q 2 rfl (by kernel_rfl) rfl rfl rfl (QV.move rfl rfl) ?_
          obtain ⟨c32, hm33⟩ := ck_some hm31; clear hm31
          obtain ⟨p34, hp35⟩ := hF6.1.lenMap.ix (sz := 1) ln_len c32
          refine WD.q 3 rfl (by kernel_rfl) rfl rfl rfl (QV.indexSlice sl57 rfl rfl rfl rfl hp35) ?_
          refine WD.q 4 rfl (by kernel_rfl) rfl rfl rfl (QV.load pl2 rfl rfl (fun w hw => CellsAt.one 0 (((Own.karr 0 rfl hk hF6.1) w hw).ele hp35 c32) rfl)) ?_
          refine WD.q 5 rfl (by kernel_rfl) rfl rfl rfl (QV.fieldAddr fd54_0 rfl rfl) ?_
          refine WD.q 6 rfl (by kernel_rfl) rfl rfl rfl (QV.load pl52 rfl rfl (Own.cell 2 rfl rfl)) ?_
          refine WD.q 7 rfl (by kernel_rfl) rfl rfl rfl (QV.fieldAddr fd51_2 rfl rfl) ?_
          refine WD.q 8 rfl (by kernel_rfl) rfl rfl rfl (QV.load pl48 rfl rfl (Own.cell 3 rfl rfl)) ?_
          refine WD.q 9 rfl (by kernel_rfl) rfl rfl rfl (QV.move rfl rfl) ?_
          obtain ⟨c36, hm37⟩ := ck_some hm33; clear hm33
          obtain ⟨p38, hp39⟩ := (h_l_outs.le hle6).lenMap.ix (sz := 1) ln_len c36
          refine WD.q 10 rfl (by kernel_rfl) rfl rfl rfl (QV.indexSlice sl48 rfl rfl rfl rfl hp39) ?_
          refine WD.q 11 rfl (by kernel_rfl) rfl rfl rfl (QV.load pl3 rfl rfl (fun w hw => CellsAt.one 0 (((Own.karr 0 rfl hk (h_l_outs.le hle6)) w hw).ele hp39 c36) rfl)) ?_
          obtain ⟨c40, hm41⟩ := ck_some hm37; clear hm37
          obtain ⟨p42, u44, hp43, hc45, hA46⟩ := (h_s_bef.le hle6).ix c40
          refine WD.q 12 rfl (by kernel_rfl) rfl rfl rfl (QV.indexSlice sl52 rfl rfl rfl rfl hp43) ?_
          refine WD.q 13 rfl (by kernel_rfl) rfl rfl rfl (QV.load pl57 rfl rfl (fun w hw => CellsAt.one 0 ((Own.kcells 0 rfl hk hc45) w hw) rfl)) ?_
          obtain ⟨c47, hm48⟩ := ck_some hm41; clear hm41
          obtain ⟨p49, hp50⟩ := hA46.lenMap.ix (sz := 1) ln_len c47
          refine WD.q 14 rfl (by kernel_rfl) rfl rfl rfl (QV.indexSlice sl57 rfl rfl rfl rfl hp50) ?_
          refine WD.q 15 rfl (by kernel_rfl) rfl rfl rfl (QV.load pl2 rfl rfl (fun w hw => CellsAt.one 0 (((Own.karr 0 rfl hk hA46) w hw).ele hp50 c47) rfl)) ?_
          refine WD.q 16 rfl (by kernel_rfl) rfl rfl rfl (QV.neq rfl rfl rfl rfl) ?_
          refine WD.e (by kernel_rfl) ?_
          refine WQ.then ?_
          refine WC.cond rfl (fun h51 => ?_) (fun h51 => ?_)
          · skip
            have hm52 := br_t h51 hm48; clear hm48
            refine WC.seq ?_
            refine WC.region ?_
            refine WL.q rfl rfl rfl (QV.assign rfl rfl) ?_
            refine WL.nil ?_
            refine WQ.then ?_
            refine WC.ret ?_
            refine WQ.block_ret ?_
            refine WQ.then_ret ?_
            refine WQ.then_ret ?_
            refine WQ.block_ret ?_
            refine WQ.then_ret ?_
            refine WQ.then_ret ?_
            obtain rfl := up_ret hm52 hn29
            obtain rfl := eq_of_some hm21
            refine WQ.ret1 rfl rfl (fun w hw => ?_)
            exact ⟨rfl, Own.kgrow (fun _ x => x) hw⟩
          · skip
            have hm53 := br_f h51 hm48; clear hm48
            refine WC.skip ?_
            refine WQ.block ?_
            refine WQ.then ?_
            refine WC.region ?_
            refine WL.q rfl rfl rfl (QV.move rfl rfl) ?_
            obtain ⟨c54, hm55⟩ := ck_some hm53; clear hm53
            refine WL.q rfl rfl rfl (QV.add rfl rfl rfl rfl c54) ?_
            refine WL.q rfl rfl rfl (QV.assign rfl rfl) ?_
            refine WL.nil ?_
            exact WQ.again1 (i7_1 + 1) m26 (up_next hm55 hn29) (Nat.lt_succ_self _) ⟨rfl, rfl, rfl, rfl, trivial⟩ (fun w hw => hw.pick [0, 1, 2, 3] (by decide))
        · skip
          have hm56 := br_f h30 hm28; clear hm28
          refine WC.exit ?_
          refine WQ.then_exit ?_
          refine WQ.then_exit ?_
          refine WQ.block_exit ?_
          exact WQ.out1 i7_1 (up_brk hm56 hn29) ⟨rfl, rfl, rfl, rfl, trivial⟩ (fun w hw => hw.pick [0, 1, 2, 3] (by decide))
end Go.Proofs.Ytaimbkndebaaiaa
