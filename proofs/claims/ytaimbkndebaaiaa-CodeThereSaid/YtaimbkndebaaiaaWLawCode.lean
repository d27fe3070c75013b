/- Walks: the functions do what the models say. -/
import Derived.Test.YtaimbkndebaaiaaMLawCode
import Derived.Test.YtaimbkndebaaiaaProg
import Derived.Test.YtaimbkndebaaiaaWCode
import Derived.KernelRfl
namespace Go.Proofs.Ytaimbkndebaaiaa
open Go.Rd
set_option linter.unusedVariables false
set_option linter.unusedSimpArgs false
namespace TLawCode
theorem ag32 : AggT Try.prog 32 3 := ⟨_, Try.underlying32, rfl, by kernel_rfl⟩
theorem en18 : Enters Try.prog 18 := ⟨Try.f18, Try.func18, by kernel_rfl, by kernel_rfl⟩
theorem en19 : Enters Try.prog 19 := ⟨Try.f19, Try.func19, by kernel_rfl, by kernel_rfl⟩
theorem en20 : Enters Try.prog 20 := ⟨Try.f20, Try.func20, by kernel_rfl, by kernel_rfl⟩
theorem en21 : Enters Try.prog 21 := ⟨Try.f21, Try.func21, by kernel_rfl, by kernel_rfl⟩
theorem en22 : Enters Try.prog 22 := ⟨Try.f22, Try.func22, by kernel_rfl, by kernel_rfl⟩
theorem fd32_2 : FieldT Try.prog 32 2 2 := ⟨_, _, 0, Try.underlying32, rfl, rfl, by kernel_rfl⟩
theorem pl30 : Plain Try.prog 30 := ⟨_, Try.underlying30, rfl⟩
theorem sl33 : SliceT Try.prog 33 5 1 := ⟨Try.underlying33, by kernel_rfl⟩
theorem sz32 : SizeT Try.prog 32 3 := by unfold SizeT; kernel_rfl
theorem ze32 : ZeroT Try.prog 32 [.int .i64 0, .int .i64 0, .slice none 0 0] := by unfold ZeroT; kernel_rfl
end TLawCode
open TLawCode
set_option maxRecDepth 8000 in
theorem roundelaylaw_CodePuts_w {v_k__ops : Value} {k_ : Krn} {r : Bool} (w : World) (hm : roundelaylaw_CodePuts_m k_ = some r) (h_k__ops : Arr w v_k__ops 10 (k_.ops.map Opr.cells)) : Calls Try.prog 5 #[.agg #[.int .i64 k_.pace, .int .i64 k_.stages, v_k__ops]] w (fun e w' => e = .returned (.bool r) ∧ Grow w w') := by
  unfold roundelaylaw_CodePuts_m at hm
  have hk := Base.rfl (w := w)
  refine calls_of_WC (n := 32) (args := [.agg #[.int .i64 k_.pace, .int .i64 k_.stages, v_k__ops]]) Try.func5 rfl rfl (Nat.le_of_ble_eq_true rfl) ?_ (Own.startK hk (Own.start w))
  refine WC.seq ?_
  refine WC.region ?_
  refine WL.effect rfl ?_
  refine (EV.boxAgg (by decide) rfl rfl (fun b1 => ?_))
  refine WL.q rfl rfl rfl (QV.assign rfl rfl) ?_
  refine WL.nil ?_
  refine WQ.then ?_
  refine WC.seq ?_
  refine WC.region ?_
  refine WL.q rfl rfl rfl (QV.loadAgg ag32 rfl rfl rfl (Own.cellsBlk 0 rfl)) ?_
  refine WL.effect rfl ?_
  obtain ⟨x2, hx3, hm4⟩ := bd_some hm; clear hm
  refine EV.of (C' := Own noM w [kn noM w.heap.size w w, blk b1 [.int .i64 k_.pace, .int .i64 k_.stages, v_k__ops] 32]) (fun w hw => hw.pick [1, 0] (by decide)) ?_
  refine (EV.callR (X := Value × World) (R := []) (fun X => .tuple #[X.1, .int .i64 x2.2]) (fun X => []) (fun X => X.2) (fun X => Arr X.2 X.1 1 (x2.1.map bcell)) hk (fun _ h => by cases h; decide) en18 (EvAll.cons rfl rfl EvAll.nil) (fun M w h1 h2 => have h := code_Put_w hx3 h_k__ops M w h1 h2; h) (fun X5 hF5 hle5 => ?_))
  refine WL.q rfl rfl rfl (QV.move rfl rfl) ?_
  refine WL.q rfl rfl rfl (QV.extract rfl rfl rfl) ?_
  refine WL.q rfl rfl rfl (QV.extract rfl rfl rfl) ?_
  refine WL.q rfl rfl rfl (QV.assign rfl rfl) ?_
  refine WL.q rfl rfl rfl (QV.assign rfl rfl) ?_
  refine WL.nil ?_
  refine WQ.then ?_
  refine WC.seq ?_
  refine WC.seq ?_
  refine WC.region ?_
  refine WL.q rfl rfl rfl (QV.fieldAddr fd32_2 rfl rfl) ?_
  refine WL.q rfl rfl rfl (QV.load pl30 rfl rfl (Own.cell 1 rfl rfl)) ?_
  refine WL.q rfl rfl rfl (QV.lenS Try.underlying30 rfl rfl (h_k__ops.le hle5).lenMap) ?_
  refine WL.q rfl rfl rfl (QV.gtr rfl rfl rfl rfl) ?_
  refine WL.nil ?_
  refine WQ.then ?_
  refine WC.cond rfl (fun h6 => ?_) (fun h6 => ?_)
  · skip
    have hm7 := br_t h6 hm4; clear hm4
    refine WC.seq ?_
    refine WC.region ?_
    refine WL.q rfl rfl rfl (QV.move rfl rfl) ?_
    refine WL.q rfl rfl rfl (QV.eql rfl rfl rfl rfl) ?_
    refine WL.q rfl rfl rfl (QV.move rfl rfl) ?_
    refine WL.g rfl rfl (GuardIs.pos rfl rfl) (fun hG => QV.move rfl rfl) ?_
    refine WL.g rfl rfl (GuardIs.pos rfl rfl) (fun hG => QV.lenS Try.underlying33 rfl hG hF5.lenMap) ?_
    refine WL.g rfl rfl (GuardIs.pos rfl rfl) (fun hG => QV.eql rfl hG rfl rfl) ?_
    refine WL.q rfl rfl rfl (QV.pickAnd rfl rfl rfl (fun h => h)) ?_
    refine WL.q rfl rfl rfl (QV.assign rfl rfl) ?_
    refine WL.nil ?_
    refine WQ.then ?_
    refine WC.ret ?_
    refine WQ.then_ret ?_
    obtain rfl := eq_of_some hm7
    refine WQ.ret1 rfl rfl (fun w hw => ?_)
    exact ⟨rfl, Own.kgrow (fun _ x => x) hw⟩
  · skip
    have hm8 := br_f h6 hm4; clear hm4
    refine WC.skip ?_
    refine WQ.then ?_
    refine WC.seq ?_
    refine WC.region ?_
    refine WL.q rfl rfl rfl (QV.loadAgg ag32 rfl rfl rfl (Own.cellsBlk 1 rfl)) ?_
    obtain ⟨x9, hx10, hm11⟩ := bd_some hm8; clear hm8
    refine WL.q rfl rfl rfl (QV.call en19 (EvAll.cons rfl rfl EvAll.nil) (fun w hw => have h := roundelayref13_Bytes_w w hx10 ((Own.karr 0 rfl hk (h_k__ops.le hle5)) w hw); h)) ?_
    refine WL.q rfl rfl rfl (QV.assign rfl rfl) ?_
    refine WL.nil ?_
    refine WQ.then ?_
    refine WC.seq ?_
    refine WC.region ?_
    refine WL.q rfl rfl rfl (QV.move rfl rfl) ?_
    refine WL.q rfl rfl rfl (QV.eql rfl rfl rfl rfl) ?_
    refine WL.q rfl rfl rfl (QV.move rfl rfl) ?_
    refine WL.g rfl rfl (GuardIs.pos rfl rfl) (fun hG => QV.move rfl rfl) ?_
    refine WL.g rfl rfl (GuardIs.pos rfl rfl) (fun hG => QV.strOf Try.underlying33 Try.underlying5 Try.underlying9 rfl hG (Own.karr 0 rfl hk hF5)) ?_
    refine WL.g rfl rfl (GuardIs.pos rfl rfl) (fun hG => QV.move rfl rfl) ?_
    refine WL.g rfl rfl (GuardIs.pos rfl rfl) (fun hG => QV.strEql rfl hG rfl hG) ?_
    refine WL.q rfl rfl rfl (QV.pickAnd rfl rfl rfl (fun h => h)) ?_
    refine WL.q rfl rfl rfl (QV.assign rfl rfl) ?_
    refine WL.nil ?_
    refine WQ.then ?_
    refine WC.ret ?_
    obtain rfl := eq_of_some hm11
    refine WQ.ret1 rfl rfl (fun w hw => ?_)
    exact ⟨rfl, Own.kgrow (fun _ x => x) hw⟩

set_option maxRecDepth 8000 in
theorem roundelaylaw_CodeGets_w {v_b : Value} {b : List UInt8} {r : Bool} (w : World) (hm : roundelaylaw_CodeGets_m b = some r) (h_b : Arr w v_b 1 (b.map bcell)) : Calls Try.prog 6 #[v_b] w (fun e w' => e = .returned (.bool r) ∧ Grow w w') := by
  unfold roundelaylaw_CodeGets_m at hm
  have hk := Base.rfl (w := w)
  refine calls_of_WC (n := 25) (args := [v_b]) Try.func6 rfl rfl (Nat.le_of_ble_eq_true rfl) ?_ (Own.startK hk (Own.start w))
  refine WC.seq ?_
  refine WC.region ?_
  refine WL.q rfl rfl rfl (QV.assign rfl rfl) ?_
  refine WL.nil ?_
  refine WQ.then ?_
  refine WC.seq ?_
  refine WC.region ?_
  refine WL.q rfl rfl rfl (QV.move rfl rfl) ?_
  refine WL.effect rfl ?_
  obtain ⟨x1, hx2, hm3⟩ := bd_some hm; clear hm
  refine (EV.callR (X := Value × World) (R := []) (fun X => .tuple #[.agg #[.int .i64 x1.1.pace, .int .i64 x1.1.stages, X.1], .int .i64 x1.2]) (fun X => []) (fun X => X.2) (fun X => Arr X.2 X.1 10 (x1.1.ops.map Opr.cells)) hk (fun _ h => by cases h; decide) en20 (EvAll.cons rfl rfl EvAll.nil) (fun M w h1 h2 => have h := code_Get_w hx2 h_b M w h1 h2; h) (fun X4 hF4 hle4 => ?_))
  refine WL.q rfl rfl rfl (QV.move rfl rfl) ?_
  refine WL.q rfl rfl rfl (QV.extract rfl rfl rfl) ?_
  refine WL.q rfl rfl rfl (QV.extract rfl rfl rfl) ?_
  refine WL.effect rfl ?_
  refine (EV.alloc (by decide) ze32 (fun b5 => ?_))
  refine WL.effect rfl ?_
  refine (EV.store 0 rfl rfl rfl rfl rfl rfl (vs := [.int .i64 x1.1.pace, .int .i64 x1.1.stages, X4.1]) (show Value.cells _ = List.toArray _ from rfl) sz32 (Nat.le_of_ble_eq_true rfl) (one_cons rfl (one_cons rfl (one_cons (SliceLen.one hF4.lenMap) one_nil))) ?_)
  refine WL.q rfl rfl rfl (QV.assign rfl rfl) ?_
  refine WL.nil ?_
  refine WQ.then ?_
  refine WC.seq ?_
  refine WC.region ?_
  refine WL.q rfl rfl rfl (QV.move rfl rfl) ?_
  refine WL.effect rfl ?_
  obtain ⟨x6, hx7, hm8⟩ := bd_some hm3; clear hm3
  refine EV.of (C' := Own noM w [kn noM w.heap.size w X4.2, blk b5 [.int .i64 x1.1.pace, .int .i64 x1.1.stages, X4.1] 32]) (fun w hw => hw.pick [1, 0] (by decide)) ?_
  refine (EV.callR (X := Value × World) (R := []) (fun X => .tuple #[.agg #[.int .i64 x6.1.pace, .int .i64 x6.1.stages, X.1], .int .i64 x6.2]) (fun X => []) (fun X => X.2) (fun X => Arr X.2 X.1 10 (x6.1.ops.map Opr.cells)) hk (fun _ h => by cases h; decide) en21 (EvAll.cons rfl rfl EvAll.nil) (fun M w h1 h2 => have h := roundelayref13_Get_w hx7 (h_b.le hle4) M w h1 h2; h) (fun X9 hF9 hle9 => ?_))
  refine WL.q rfl rfl rfl (QV.move rfl rfl) ?_
  refine WL.q rfl rfl rfl (QV.extract rfl rfl rfl) ?_
  refine WL.q rfl rfl rfl (QV.extract rfl rfl rfl) ?_
  refine WL.effect rfl ?_
  refine (EV.alloc (by decide) ze32 (fun b10 => ?_))
  refine WL.effect rfl ?_
  refine (EV.store 0 rfl rfl rfl rfl rfl rfl (vs := [.int .i64 x6.1.pace, .int .i64 x6.1.stages, X9.1]) (show Value.cells _ = List.toArray _ from rfl) sz32 (Nat.le_of_ble_eq_true rfl) (one_cons rfl (one_cons rfl (one_cons (SliceLen.one hF9.lenMap) one_nil))) ?_)
  refine WL.q rfl rfl rfl (QV.assign rfl rfl) ?_
  refine WL.nil ?_
  refine WQ.then ?_
  refine WC.seq ?_
  refine WC.region ?_
  refine WL.q rfl rfl rfl (QV.move rfl rfl) ?_
  refine WL.q rfl rfl rfl (QV.move rfl rfl) ?_
  refine WL.q rfl rfl rfl (QV.eql rfl rfl rfl rfl) ?_
  refine WL.q rfl rfl rfl (QV.move rfl rfl) ?_
  refine WL.g rfl rfl (GuardIs.pos rfl rfl) (fun hG => QV.loadAgg ag32 rfl rfl rfl (Own.cellsBlk 2 rfl)) ?_
  refine WL.g rfl rfl (GuardIs.pos rfl rfl) (fun hG => QV.loadAgg ag32 rfl rfl rfl (Own.cellsBlk 0 rfl)) ?_
  obtain ⟨x11, hx12, hm13⟩ := bdG_some hm8; clear hm8
  refine WL.g rfl rfl (GuardIs.pos rfl rfl) (fun hG => QV.call en22 (EvAll.cons rfl hG (EvAll.cons rfl hG EvAll.nil)) (fun w hw => have h := roundelayref13_Same_w w (hx12 hG) ((Own.karr 1 rfl hk (hF4.le hle9)) w hw) ((Own.karr 1 rfl hk hF9) w hw); h)) ?_
  refine WL.q rfl rfl rfl (QV.pickAnd rfl rfl rfl (fun h => h)) ?_
  refine WL.q rfl rfl rfl (QV.assign rfl rfl) ?_
  refine WL.nil ?_
  refine WQ.then ?_
  refine WC.ret ?_
  obtain rfl := eq_of_some hm13
  refine WQ.ret1 rfl rfl (fun w hw => ?_)
  exact ⟨rfl, Own.kgrow (fun _ x => x) hw⟩

set_option maxRecDepth 8000 in
theorem roundelaykeep_CodeBack_w {v_k__ops : Value} {k_ : Krn} {cut : Int} {r : Bool} (w : World) (hm : roundelaykeep_CodeBack_m k_ cut = some r) (h_k__ops : Arr w v_k__ops 10 (k_.ops.map Opr.cells)) : Calls Try.prog 8 #[.agg #[.int .i64 k_.pace, .int .i64 k_.stages, v_k__ops], .int .u16 cut] w (fun e w' => e = .returned (.bool r) ∧ Grow w w') := by
  unfold roundelaykeep_CodeBack_m at hm
  have hk := Base.rfl (w := w)
  refine calls_of_WC (n := 78) (args := [.agg #[.int .i64 k_.pace, .int .i64 k_.stages, v_k__ops], .int .u16 cut]) Try.func8 rfl rfl (Nat.le_of_ble_eq_true rfl) ?_ (Own.startK hk (Own.start w))
  refine WC.seq ?_
  refine WC.region ?_
  refine WL.effect rfl ?_
  refine (EV.boxAgg (by decide) rfl rfl (fun b1 => ?_))
  refine WL.q rfl rfl rfl (QV.assign rfl rfl) ?_
  refine WL.nil ?_
  refine WQ.then ?_
  refine WC.seq ?_
  refine WC.region ?_
  refine WL.q rfl rfl rfl (QV.loadAgg ag32 rfl rfl rfl (Own.cellsBlk 0 rfl)) ?_
  refine WL.effect rfl ?_
  obtain ⟨x2, hx3, hm4⟩ := bd_some hm; clear hm
  refine EV.of (C' := Own noM w [kn noM w.heap.size w w, blk b1 [.int .i64 k_.pace, .int .i64 k_.stages, v_k__ops] 32]) (fun w hw => hw.pick [1, 0] (by decide)) ?_
  refine (EV.callR (X := Value × World) (R := []) (fun X => .tuple #[X.1, .int .i64 x2.2]) (fun X => []) (fun X => X.2) (fun X => Arr X.2 X.1 1 (x2.1.map bcell)) hk (fun _ h => by cases h; decide) en18 (EvAll.cons rfl rfl EvAll.nil) (fun M w h1 h2 => have h := code_Put_w hx3 h_k__ops M w h1 h2; h) (fun X5 hF5 hle5 => ?_))
  refine WL.q rfl rfl rfl (QV.move rfl rfl) ?_
  refine WL.q rfl rfl rfl (QV.extract rfl rfl rfl) ?_
  refine WL.q rfl rfl rfl (QV.extract rfl rfl rfl) ?_
  refine WL.q rfl rfl rfl (QV.assign rfl rfl) ?_
  refine WL.q rfl rfl rfl (QV.assign rfl rfl) ?_
  refine WL.nil ?_
  refine WQ.then ?_
  refine WC.seq ?_
  refine WC.seq ?_
  refine WC.region ?_
  refine WL.q rfl rfl rfl (QV.move rfl rfl) ?_
  refine WL.q rfl rfl rfl (QV.neq rfl rfl rfl rfl) ?_
  refine WL.nil ?_
  refine WQ.then ?_
  refine WC.cond rfl (fun h6 => ?_) (fun h6 => ?_)
  · skip
    have hm7 := br_t h6 hm4; clear hm4
    refine WC.seq ?_
    refine WC.region ?_
    refine WL.q rfl rfl rfl (QV.move rfl rfl) ?_
    refine WL.q rfl rfl rfl (QV.lenS Try.underlying33 rfl rfl hF5.lenMap) ?_
    refine WL.q rfl rfl rfl (QV.eql rfl rfl rfl rfl) ?_
    refine WL.q rfl rfl rfl (QV.move rfl rfl) ?_
    refine WL.g rfl rfl (GuardIs.pos rfl rfl) (fun hG => QV.fieldAddr fd32_2 rfl rfl) ?_
    refine WL.g rfl rfl (GuardIs.pos rfl rfl) (fun hG => QV.load pl30 rfl hG (Own.cell 1 rfl rfl)) ?_
    refine WL.g rfl rfl (GuardIs.pos rfl rfl) (fun hG => QV.lenS Try.underlying30 rfl hG (h_k__ops.le hle5).lenMap) ?_
    refine WL.g rfl rfl (GuardIs.pos rfl rfl) (fun hG => QV.gtr rfl hG rfl rfl) ?_
    refine WL.q rfl rfl rfl (QV.pickAnd rfl rfl rfl (fun h => h)) ?_
    refine WL.q rfl rfl rfl (QV.assign rfl rfl) ?_
    refine WL.nil ?_
    refine WQ.then ?_
    refine WC.ret ?_
    refine WQ.then_ret ?_
    obtain rfl := eq_of_some hm7
    refine WQ.ret1 rfl rfl (fun w hw => ?_)
    exact ⟨rfl, Own.kgrow (fun _ x => x) hw⟩
  · skip
    have hm8 := br_f h6 hm4; clear hm4
    refine WC.skip ?_
    refine WQ.then ?_
    refine WC.seq ?_
    refine WC.region ?_
    refine WL.q rfl rfl rfl (QV.move rfl rfl) ?_
    refine WL.effect rfl ?_
    obtain ⟨x9, hx10, hm11⟩ := bd_some hm8; clear hm8
    refine (EV.callR (X := Value × World) (R := []) (fun X => .tuple #[.agg #[.int .i64 x9.1.pace, .int .i64 x9.1.stages, X.1], .int .i64 x9.2]) (fun X => []) (fun X => X.2) (fun X => Arr X.2 X.1 10 (x9.1.ops.map Opr.cells)) hk (fun _ h => by cases h; decide) en20 (EvAll.cons rfl rfl EvAll.nil) (fun M w h1 h2 => have h := code_Get_w hx10 hF5 M w h1 h2; h) (fun X12 hF12 hle12 => ?_))
    refine WL.q rfl rfl rfl (QV.move rfl rfl) ?_
    refine WL.q rfl rfl rfl (QV.extract rfl rfl rfl) ?_
    refine WL.q rfl rfl rfl (QV.extract rfl rfl rfl) ?_
    refine WL.effect rfl ?_
    refine (EV.alloc (by decide) ze32 (fun b13 => ?_))
    refine WL.effect rfl ?_
    refine (EV.store 0 rfl rfl rfl rfl rfl rfl (vs := [.int .i64 x9.1.pace, .int .i64 x9.1.stages, X12.1]) (show Value.cells _ = List.toArray _ from rfl) sz32 (Nat.le_of_ble_eq_true rfl) (one_cons rfl (one_cons rfl (one_cons (SliceLen.one hF12.lenMap) one_nil))) ?_)
    refine WL.q rfl rfl rfl (QV.assign rfl rfl) ?_
    refine WL.nil ?_
    refine WQ.then ?_
    refine WC.seq ?_
    refine WC.region ?_
    refine WL.q rfl rfl rfl (QV.loadAgg ag32 rfl rfl rfl (Own.cellsBlk 0 rfl)) ?_
    refine WL.effect rfl ?_
    obtain ⟨x14, hx15, hm16⟩ := bd_some hm11; clear hm11
    refine EV.of (C' := Own noM w [kn noM w.heap.size w X12.2, blk b13 [.int .i64 x9.1.pace, .int .i64 x9.1.stages, X12.1] 32, blk b1 [.int .i64 k_.pace, .int .i64 k_.stages, v_k__ops] 32]) (fun w hw => hw.pick [1, 0, 2] (by decide)) ?_
    refine (EV.callR (X := Value × World) (R := []) (fun X => .tuple #[X.1, .int .i64 x14.2]) (fun X => []) (fun X => X.2) (fun X => Arr X.2 X.1 1 (x14.1.map bcell)) hk (fun _ h => by cases h; decide) en18 (EvAll.cons rfl rfl EvAll.nil) (fun M w h1 h2 => have h := code_Put_w hx15 hF12 M w h1 h2; h) (fun X17 hF17 hle17 => ?_))
    refine WL.q rfl rfl rfl (QV.move rfl rfl) ?_
    refine WL.q rfl rfl rfl (QV.extract rfl rfl rfl) ?_
    refine WL.q rfl rfl rfl (QV.extract rfl rfl rfl) ?_
    refine WL.q rfl rfl rfl (QV.assign rfl rfl) ?_
    refine WL.q rfl rfl rfl (QV.assign rfl rfl) ?_
    refine WL.nil ?_
    refine WQ.then ?_
    refine WC.seq ?_
    refine WC.region ?_
    refine WL.q rfl rfl rfl (QV.move rfl rfl) ?_
    refine WL.q rfl rfl rfl (QV.intToInt Try.underlying3 Try.underlying46 rfl rfl) ?_
    refine WL.q rfl rfl rfl (QV.assign rfl rfl) ?_
    refine WL.nil ?_
    refine WQ.then ?_
    refine WC.seq ?_
    refine WC.seq ?_
    refine WC.region ?_
    refine WL.q rfl rfl rfl (QV.move rfl rfl) ?_
    refine WL.q rfl rfl rfl (QV.move rfl rfl) ?_
    refine WL.q rfl rfl rfl (QV.lenS Try.underlying33 rfl rfl (hF5.le (hle12.trans hle17)).lenMap) ?_
    refine WL.q rfl rfl rfl (QV.lss rfl rfl rfl rfl) ?_
    refine WL.nil ?_
    refine WQ.then ?_
    refine WC.cond rfl (fun h18 => ?_) (fun h18 => ?_)
    · skip
      have hm19 := br_t h18 hm16; clear hm16
      refine WC.seq ?_
      refine WC.region ?_
      refine WL.q rfl rfl rfl (QV.move rfl rfl) ?_
      refine WL.q rfl rfl rfl (QV.move rfl rfl) ?_
      obtain ⟨c20, hm21⟩ := ck_some hm19; clear hm19
      have hA22 := subS_sub (hF5.le (hle12.trans hle17)) c20
      refine WL.q rfl rfl rfl (QV.sliceHd sl33 rfl rfl (hF5.le (hle12.trans hle17)).lenMap rfl rfl c20) ?_
      refine WL.effect rfl ?_
      obtain ⟨x23, hx24, hm25⟩ := bd_some hm21; clear hm21
      refine (EV.callR (X := Value × World) (R := []) (fun X => .tuple #[.agg #[.int .i64 x23.1.pace, .int .i64 x23.1.stages, X.1], .int .i64 x23.2]) (fun X => []) (fun X => X.2) (fun X => Arr X.2 X.1 10 (x23.1.ops.map Opr.cells)) hk (fun _ h => by cases h; decide) en20 (EvAll.cons rfl rfl EvAll.nil) (fun M w h1 h2 => have h := code_Get_w hx24 hA22 M w h1 h2; h) (fun X26 hF26 hle26 => ?_))
      refine WL.q rfl rfl rfl (QV.move rfl rfl) ?_
      refine WL.q rfl rfl rfl (QV.extract rfl rfl rfl) ?_
      refine WL.q rfl rfl rfl (QV.extract rfl rfl rfl) ?_
      refine WL.effect rfl ?_
      refine (EV.alloc (by decide) ze32 (fun b27 => ?_))
      refine WL.effect rfl ?_
      refine (EV.store 0 rfl rfl rfl rfl rfl rfl (vs := [.int .i64 x23.1.pace, .int .i64 x23.1.stages, X26.1]) (show Value.cells _ = List.toArray _ from rfl) sz32 (Nat.le_of_ble_eq_true rfl) (one_cons rfl (one_cons rfl (one_cons (SliceLen.one hF26.lenMap) one_nil))) ?_)
      refine WL.q rfl rfl rfl (QV.assign rfl rfl) ?_
      refine WL.nil ?_
      refine WQ.then ?_
      refine WC.seq ?_
      refine WC.region ?_
      refine WL.q rfl rfl rfl (QV.move rfl rfl) ?_
      refine WL.q rfl rfl rfl (QV.neq rfl rfl rfl rfl) ?_
      refine WL.nil ?_
      refine WQ.then ?_
      refine WC.cond rfl (fun h28 => ?_) (fun h28 => ?_)
      · skip
        have hm29 := br_t h28 hm25; clear hm25
        refine WC.seq ?_
        refine WC.region ?_
        refine WL.q rfl rfl rfl (QV.assign rfl rfl) ?_
        refine WL.nil ?_
        refine WQ.then ?_
        refine WC.ret ?_
        refine WQ.then_ret ?_
        obtain rfl := eq_of_some hm29
        refine WQ.ret1 rfl rfl (fun w hw => ?_)
        exact ⟨rfl, Own.kgrow (fun _ x => x) hw⟩
      · skip
        have hm30 := br_f h28 hm25; clear hm25
        refine WC.skip ?_
        refine WQ.then ?_
        refine WC.seq ?_
        refine WC.region ?_
        refine WL.q rfl rfl rfl (QV.move rfl rfl) ?_
        refine WL.q rfl rfl rfl (QV.eql rfl rfl rfl rfl) ?_
        refine WL.q rfl rfl rfl (QV.move rfl rfl) ?_
        refine WL.g rfl rfl (GuardIs.pos rfl rfl) (fun hG => QV.move rfl rfl) ?_
        refine WL.g rfl rfl (GuardIs.pos rfl rfl) (fun hG => QV.eql rfl hG rfl rfl) ?_
        refine WL.q rfl rfl rfl (QV.pickAnd rfl rfl rfl (fun h => h)) ?_
        refine WL.q rfl rfl rfl (QV.move rfl rfl) ?_
        refine WL.g rfl rfl (GuardIs.pos rfl rfl) (fun hG => QV.move rfl rfl) ?_
        refine WL.g rfl rfl (GuardIs.pos rfl rfl) (fun hG => QV.strOf Try.underlying33 Try.underlying5 Try.underlying9 rfl hG (Own.karr 1 rfl hk (hF5.le ((hle12.trans hle17).trans hle26)))) ?_
        refine WL.g rfl rfl (GuardIs.pos rfl rfl) (fun hG => QV.move rfl rfl) ?_
        refine WL.g rfl rfl (GuardIs.pos rfl rfl) (fun hG => QV.strOf Try.underlying33 Try.underlying5 Try.underlying9 rfl hG (Own.karr 1 rfl hk (hF17.le hle26))) ?_
        refine WL.g rfl rfl (GuardIs.pos rfl rfl) (fun hG => QV.strEql rfl hG rfl hG) ?_
        refine WL.q rfl rfl rfl (QV.pickAnd rfl rfl rfl (fun h => h)) ?_
        refine WL.q rfl rfl rfl (QV.move rfl rfl) ?_
        refine WL.g rfl rfl (GuardIs.pos rfl rfl) (fun hG => QV.move rfl rfl) ?_
        refine WL.g rfl rfl (GuardIs.pos rfl rfl) (fun hG => QV.lenS Try.underlying33 rfl hG (hF5.le ((hle12.trans hle17).trans hle26)).lenMap) ?_
        refine WL.g rfl rfl (GuardIs.pos rfl rfl) (fun hG => QV.gtr rfl hG rfl rfl) ?_
        refine WL.q rfl rfl rfl (QV.pickAnd rfl rfl rfl (fun h => h)) ?_
        refine WL.q rfl rfl rfl (QV.move rfl rfl) ?_
        refine WL.g rfl rfl (GuardIs.pos rfl rfl) (fun hG => QV.loadAgg ag32 rfl rfl rfl (Own.cellsBlk 3 rfl)) ?_
        refine WL.g rfl rfl (GuardIs.pos rfl rfl) (fun hG => QV.loadAgg ag32 rfl rfl rfl (Own.cellsBlk 2 rfl)) ?_
        obtain ⟨x31, hx32, hm33⟩ := bdG_some hm30; clear hm30
        refine WL.g rfl rfl (GuardIs.pos rfl rfl) (fun hG => QV.call en22 (EvAll.cons rfl hG (EvAll.cons rfl hG EvAll.nil)) (fun w hw => have h := roundelayref13_Same_w w (hx32 hG) ((Own.karr 1 rfl hk (h_k__ops.le (((hle5.trans hle12).trans hle17).trans hle26))) w hw) ((Own.karr 1 rfl hk (hF12.le (hle17.trans hle26))) w hw); h)) ?_
        refine WL.q rfl rfl rfl (QV.pickAnd rfl rfl rfl (fun h => h)) ?_
        refine WL.q rfl rfl rfl (QV.assign rfl rfl) ?_
        refine WL.nil ?_
        refine WQ.then ?_
        refine WC.ret ?_
        obtain rfl := eq_of_some hm33
        refine WQ.ret1 rfl rfl (fun w hw => ?_)
        exact ⟨rfl, Own.kgrow (fun _ x => x) hw⟩
    · skip
      have hm34 := br_f h18 hm16; clear hm16
      refine WC.skip ?_
      refine WQ.then ?_
      refine WC.seq ?_
      refine WC.region ?_
      refine WL.q rfl rfl rfl (QV.move rfl rfl) ?_
      refine WL.q rfl rfl rfl (QV.eql rfl rfl rfl rfl) ?_
      refine WL.q rfl rfl rfl (QV.move rfl rfl) ?_
      refine WL.g rfl rfl (GuardIs.pos rfl rfl) (fun hG => QV.move rfl rfl) ?_
      refine WL.g rfl rfl (GuardIs.pos rfl rfl) (fun hG => QV.eql rfl hG rfl rfl) ?_
      refine WL.q rfl rfl rfl (QV.pickAnd rfl rfl rfl (fun h => h)) ?_
      refine WL.q rfl rfl rfl (QV.move rfl rfl) ?_
      refine WL.g rfl rfl (GuardIs.pos rfl rfl) (fun hG => QV.move rfl rfl) ?_
      refine WL.g rfl rfl (GuardIs.pos rfl rfl) (fun hG => QV.strOf Try.underlying33 Try.underlying5 Try.underlying9 rfl hG (Own.karr 0 rfl hk (hF5.le (hle12.trans hle17)))) ?_
      refine WL.g rfl rfl (GuardIs.pos rfl rfl) (fun hG => QV.move rfl rfl) ?_
      refine WL.g rfl rfl (GuardIs.pos rfl rfl) (fun hG => QV.strOf Try.underlying33 Try.underlying5 Try.underlying9 rfl hG (Own.karr 0 rfl hk hF17)) ?_
      refine WL.g rfl rfl (GuardIs.pos rfl rfl) (fun hG => QV.strEql rfl hG rfl hG) ?_
      refine WL.q rfl rfl rfl (QV.pickAnd rfl rfl rfl (fun h => h)) ?_
      refine WL.q rfl rfl rfl (QV.move rfl rfl) ?_
      refine WL.g rfl rfl (GuardIs.pos rfl rfl) (fun hG => QV.move rfl rfl) ?_
      refine WL.g rfl rfl (GuardIs.pos rfl rfl) (fun hG => QV.lenS Try.underlying33 rfl hG (hF5.le (hle12.trans hle17)).lenMap) ?_
      refine WL.g rfl rfl (GuardIs.pos rfl rfl) (fun hG => QV.gtr rfl hG rfl rfl) ?_
      refine WL.q rfl rfl rfl (QV.pickAnd rfl rfl rfl (fun h => h)) ?_
      refine WL.q rfl rfl rfl (QV.move rfl rfl) ?_
      refine WL.g rfl rfl (GuardIs.pos rfl rfl) (fun hG => QV.loadAgg ag32 rfl rfl rfl (Own.cellsBlk 2 rfl)) ?_
      refine WL.g rfl rfl (GuardIs.pos rfl rfl) (fun hG => QV.loadAgg ag32 rfl rfl rfl (Own.cellsBlk 1 rfl)) ?_
      obtain ⟨x35, hx36, hm37⟩ := bdG_some hm34; clear hm34
      refine WL.g rfl rfl (GuardIs.pos rfl rfl) (fun hG => QV.call en22 (EvAll.cons rfl hG (EvAll.cons rfl hG EvAll.nil)) (fun w hw => have h := roundelayref13_Same_w w (hx36 hG) ((Own.karr 0 rfl hk (h_k__ops.le ((hle5.trans hle12).trans hle17))) w hw) ((Own.karr 0 rfl hk (hF12.le hle17)) w hw); h)) ?_
      refine WL.q rfl rfl rfl (QV.pickAnd rfl rfl rfl (fun h => h)) ?_
      refine WL.q rfl rfl rfl (QV.assign rfl rfl) ?_
      refine WL.nil ?_
      refine WQ.then ?_
      refine WC.ret ?_
      obtain rfl := eq_of_some hm37
      refine WQ.ret1 rfl rfl (fun w hw => ?_)
      exact ⟨rfl, Own.kgrow (fun _ x => x) hw⟩

set_option maxRecDepth 8000 in
theorem roundelaykeep_CodeThere_w {v_b : Value} {b : List UInt8} {r : Bool} (w : World) (hm : roundelaykeep_CodeThere_m b = some r) (h_b : Arr w v_b 1 (b.map bcell)) : Calls Try.prog 9 #[v_b] w (fun e w' => e = .returned (.bool r) ∧ Grow w w') := by
  unfold roundelaykeep_CodeThere_m at hm
  have hk := Base.rfl (w := w)
  refine calls_of_WC (n := 45) (args := [v_b]) Try.func9 rfl rfl (Nat.le_of_ble_eq_true rfl) ?_ (Own.startK hk (Own.start w))
  refine WC.seq ?_
  refine WC.region ?_
  refine WL.q rfl rfl rfl (QV.assign rfl rfl) ?_
  refine WL.nil ?_
  refine WQ.then ?_
  refine WC.seq ?_
  refine WC.region ?_
  refine WL.q rfl rfl rfl (QV.build (ps := []) (cells := [.int .i64 0, .int .i64 0, .slice none 0 0]) EvAll.nil (by kernel_rfl)) ?_
  refine WL.effect rfl ?_
  obtain ⟨x1, hx2, hm3⟩ := bd_some hm; clear hm
  refine (EV.callR (X := Value × World) (R := []) (fun X => .tuple #[X.1, .int .i64 x1.2]) (fun X => []) (fun X => X.2) (fun X => Arr X.2 X.1 1 (x1.1.map bcell)) hk (fun _ h => by cases h; decide) en18 (EvAll.cons rfl rfl EvAll.nil) (fun M w h1 h2 => have h := code_Put_w hx2 Arr.nil M w h1 h2; h) (fun X4 hF4 hle4 => ?_))
  refine WL.q rfl rfl rfl (QV.move rfl rfl) ?_
  refine WL.q rfl rfl rfl (QV.extract rfl rfl rfl) ?_
  refine WL.q rfl rfl rfl (QV.extract rfl rfl rfl) ?_
  refine WL.q rfl rfl rfl (QV.assign rfl rfl) ?_
  refine WL.q rfl rfl rfl (QV.assign rfl rfl) ?_
  refine WL.nil ?_
  refine WQ.then ?_
  refine WC.seq ?_
  refine WC.seq ?_
  refine WC.region ?_
  refine WL.q rfl rfl rfl (QV.move rfl rfl) ?_
  refine WL.q rfl rfl rfl (QV.neq rfl rfl rfl rfl) ?_
  refine WL.q rfl rfl rfl (QV.move rfl rfl) ?_
  refine WL.g rfl rfl (GuardIs.neg rfl rfl) (fun hG => QV.move rfl rfl) ?_
  refine WL.g rfl rfl (GuardIs.neg rfl rfl) (fun hG => QV.lenS Try.underlying33 rfl hG hF4.lenMap) ?_
  refine WL.g rfl rfl (GuardIs.neg rfl rfl) (fun hG => QV.neq rfl hG rfl rfl) ?_
  refine WL.q rfl rfl rfl (QV.pickOr rfl rfl rfl (fun h => notF h)) ?_
  refine WL.nil ?_
  refine WQ.then ?_
  refine WC.cond rfl (fun h5 => ?_) (fun h5 => ?_)
  · skip
    have hm6 := br_t h5 hm3; clear hm3
    refine WC.seq ?_
    refine WC.region ?_
    refine WL.q rfl rfl rfl (QV.assign rfl rfl) ?_
    refine WL.nil ?_
    refine WQ.then ?_
    refine WC.ret ?_
    refine WQ.then_ret ?_
    obtain rfl := eq_of_some hm6
    refine WQ.ret1 rfl rfl (fun w hw => ?_)
    exact ⟨rfl, Own.kgrow (fun _ x => x) hw⟩
  · skip
    have hm7 := br_f h5 hm3; clear hm3
    refine WC.skip ?_
    refine WQ.then ?_
    refine WC.seq ?_
    refine WC.region ?_
    refine WL.q rfl rfl rfl (QV.move rfl rfl) ?_
    refine WL.effect rfl ?_
    obtain ⟨x8, hx9, hm10⟩ := bd_some hm7; clear hm7
    refine (EV.callR (X := Value × World) (R := []) (fun X => .tuple #[.agg #[.int .i64 x8.1.pace, .int .i64 x8.1.stages, X.1], .int .i64 x8.2]) (fun X => []) (fun X => X.2) (fun X => Arr X.2 X.1 10 (x8.1.ops.map Opr.cells)) hk (fun _ h => by cases h; decide) en20 (EvAll.cons rfl rfl EvAll.nil) (fun M w h1 h2 => have h := code_Get_w hx9 (h_b.le hle4) M w h1 h2; h) (fun X11 hF11 hle11 => ?_))
    refine WL.q rfl rfl rfl (QV.move rfl rfl) ?_
    refine WL.q rfl rfl rfl (QV.extract rfl rfl rfl) ?_
    refine WL.q rfl rfl rfl (QV.extract rfl rfl rfl) ?_
    refine WL.effect rfl ?_
    refine (EV.alloc (by decide) ze32 (fun b12 => ?_))
    refine WL.effect rfl ?_
    refine (EV.store 0 rfl rfl rfl rfl rfl rfl (vs := [.int .i64 x8.1.pace, .int .i64 x8.1.stages, X11.1]) (show Value.cells _ = List.toArray _ from rfl) sz32 (Nat.le_of_ble_eq_true rfl) (one_cons rfl (one_cons rfl (one_cons (SliceLen.one hF11.lenMap) one_nil))) ?_)
    refine WL.q rfl rfl rfl (QV.assign rfl rfl) ?_
    refine WL.nil ?_
    refine WQ.then ?_
    refine WC.seq ?_
    refine WC.seq ?_
    refine WC.region ?_
    refine WL.q rfl rfl rfl (QV.move rfl rfl) ?_
    refine WL.q rfl rfl rfl (QV.neq rfl rfl rfl rfl) ?_
    refine WL.nil ?_
    refine WQ.then ?_
    refine WC.cond rfl (fun h13 => ?_) (fun h13 => ?_)
    · skip
      have hm14 := br_t h13 hm10; clear hm10
      refine WC.seq ?_
      refine WC.region ?_
      refine WL.q rfl rfl rfl (QV.loadAgg ag32 rfl rfl rfl (Own.cellsBlk 0 rfl)) ?_
      refine WL.q rfl rfl rfl (QV.build (ps := []) (cells := [.int .i64 0, .int .i64 0, .slice none 0 0]) EvAll.nil (by kernel_rfl)) ?_
      obtain ⟨x15, hx16, hm17⟩ := bd_some hm14; clear hm14
      refine WL.q rfl rfl rfl (QV.call en22 (EvAll.cons rfl rfl (EvAll.cons rfl rfl EvAll.nil)) (fun w hw => have h := roundelayref13_Same_w w hx16 ((Own.karr 1 rfl hk hF11) w hw) Arr.nil; h)) ?_
      refine WL.q rfl rfl rfl (QV.assign rfl rfl) ?_
      refine WL.nil ?_
      refine WQ.then ?_
      refine WC.ret ?_
      refine WQ.then_ret ?_
      obtain rfl := eq_of_some hm17
      refine WQ.ret1 rfl rfl (fun w hw => ?_)
      exact ⟨rfl, Own.kgrow (fun _ x => x) hw⟩
    · skip
      have hm18 := br_f h13 hm10; clear hm10
      refine WC.skip ?_
      refine WQ.then ?_
      refine WC.seq ?_
      refine WC.region ?_
      refine WL.q rfl rfl rfl (QV.loadAgg ag32 rfl rfl rfl (Own.cellsBlk 0 rfl)) ?_
      refine WL.effect rfl ?_
      obtain ⟨x19, hx20, hm21⟩ := bd_some hm18; clear hm18
      refine EV.of (C' := Own noM w [kn noM w.heap.size w X11.2, blk b12 [.int .i64 x8.1.pace, .int .i64 x8.1.stages, X11.1] 32]) (fun w hw => hw.pick [1, 0] (by decide)) ?_
      refine (EV.callR (X := Value × World) (R := []) (fun X => .tuple #[X.1, .int .i64 x19.2]) (fun X => []) (fun X => X.2) (fun X => Arr X.2 X.1 1 (x19.1.map bcell)) hk (fun _ h => by cases h; decide) en18 (EvAll.cons rfl rfl EvAll.nil) (fun M w h1 h2 => have h := code_Put_w hx20 hF11 M w h1 h2; h) (fun X22 hF22 hle22 => ?_))
      refine WL.q rfl rfl rfl (QV.move rfl rfl) ?_
      refine WL.q rfl rfl rfl (QV.extract rfl rfl rfl) ?_
      refine WL.q rfl rfl rfl (QV.extract rfl rfl rfl) ?_
      refine WL.q rfl rfl rfl (QV.assign rfl rfl) ?_
      refine WL.q rfl rfl rfl (QV.assign rfl rfl) ?_
      refine WL.nil ?_
      refine WQ.then ?_
      refine WC.seq ?_
      refine WC.region ?_
      refine WL.q rfl rfl rfl (QV.move rfl rfl) ?_
      refine WL.q rfl rfl rfl (QV.eql rfl rfl rfl rfl) ?_
      refine WL.q rfl rfl rfl (QV.move rfl rfl) ?_
      refine WL.g rfl rfl (GuardIs.pos rfl rfl) (fun hG => QV.move rfl rfl) ?_
      refine WL.g rfl rfl (GuardIs.pos rfl rfl) (fun hG => QV.strOf Try.underlying33 Try.underlying5 Try.underlying9 rfl hG (Own.karr 0 rfl hk (h_b.le ((hle4.trans hle11).trans hle22)))) ?_
      refine WL.g rfl rfl (GuardIs.pos rfl rfl) (fun hG => QV.move rfl rfl) ?_
      refine WL.g rfl rfl (GuardIs.pos rfl rfl) (fun hG => QV.strOf Try.underlying33 Try.underlying5 Try.underlying9 rfl hG (Own.karr 0 rfl hk hF22)) ?_
      refine WL.g rfl rfl (GuardIs.pos rfl rfl) (fun hG => QV.strEql rfl hG rfl hG) ?_
      refine WL.q rfl rfl rfl (QV.pickAnd rfl rfl rfl (fun h => h)) ?_
      refine WL.q rfl rfl rfl (QV.assign rfl rfl) ?_
      refine WL.nil ?_
      refine WQ.then ?_
      refine WC.ret ?_
      obtain rfl := eq_of_some hm21
      refine WQ.ret1 rfl rfl (fun w hw => ?_)
      exact ⟨rfl, Own.kgrow (fun _ x => x) hw⟩
end Go.Proofs.Ytaimbkndebaaiaa
