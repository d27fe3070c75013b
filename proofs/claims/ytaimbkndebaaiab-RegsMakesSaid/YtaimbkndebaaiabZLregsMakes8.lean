/- Texts that the law stands on: part 8. -/
import Derived.Test.YtaimbkndebaaiabZLregsMakes7
import Derived.Test.YtaimbkndebaaiabProg
import Derived.KernelRfl
section
namespace Go.Proofs.Ytaimbkndebaaiab
open Go.Rd
set_option linter.unusedVariables false
set_option linter.unusedSimpArgs false
namespace TREmit
theorem ag24 : AggT Try.prog 24 7 := ⟨_, Try.underlying24, rfl, by kernel_rfl⟩
theorem ag27 : AggT Try.prog 27 3 := ⟨_, Try.underlying27, rfl, by kernel_rfl⟩
theorem ag45 : AggT Try.prog 45 10 := ⟨_, Try.underlying45, rfl, by kernel_rfl⟩
theorem ag49 : AggT Try.prog 49 3 := ⟨_, Try.underlying49, rfl, by kernel_rfl⟩
theorem ag59 : AggT Try.prog 59 9 := ⟨_, Try.underlying59, rfl, by kernel_rfl⟩
theorem ag63 : AggT Try.prog 63 2 := ⟨_, Try.underlying63, rfl, by kernel_rfl⟩
theorem en28 : Go.Rd.Enters Try.prog 28 := ⟨Try.f28, Try.func28, by kernel_rfl, by kernel_rfl⟩
theorem en74 : Go.Rd.Enters Try.prog 74 := ⟨Try.f74, Try.func74, by kernel_rfl, by kernel_rfl⟩
theorem en75 : Go.Rd.Enters Try.prog 75 := ⟨Try.f75, Try.func75, by kernel_rfl, by kernel_rfl⟩
theorem fd24_2 : FieldT Try.prog 24 2 6 := ⟨_, _, 0, Try.underlying24, rfl, rfl, by kernel_rfl⟩
theorem fd27_1 : FieldT Try.prog 27 1 1 := ⟨_, _, 0, Try.underlying27, rfl, rfl, by kernel_rfl⟩
theorem fd27_2 : FieldT Try.prog 27 2 2 := ⟨_, _, 0, Try.underlying27, rfl, rfl, by kernel_rfl⟩
theorem fd45_0 : FieldT Try.prog 45 0 0 := ⟨_, _, 0, Try.underlying45, rfl, rfl, by kernel_rfl⟩
theorem fd45_1 : FieldT Try.prog 45 1 1 := ⟨_, _, 0, Try.underlying45, rfl, rfl, by kernel_rfl⟩
theorem fd45_3 : FieldT Try.prog 45 3 3 := ⟨_, _, 0, Try.underlying45, rfl, rfl, by kernel_rfl⟩
theorem fd45_4 : FieldT Try.prog 45 4 4 := ⟨_, _, 0, Try.underlying45, rfl, rfl, by kernel_rfl⟩
theorem fd45_5 : FieldT Try.prog 45 5 5 := ⟨_, _, 0, Try.underlying45, rfl, rfl, by kernel_rfl⟩
theorem fd49_1 : FieldT Try.prog 49 1 1 := ⟨_, _, 0, Try.underlying49, rfl, rfl, by kernel_rfl⟩
theorem fd57_0 : FieldT Try.prog 57 0 0 := ⟨_, _, 0, Try.underlying57, rfl, rfl, by kernel_rfl⟩
theorem fd57_1 : FieldT Try.prog 57 1 1 := ⟨_, _, 0, Try.underlying57, rfl, rfl, by kernel_rfl⟩
theorem fd59_0 : FieldT Try.prog 59 0 0 := ⟨_, _, 0, Try.underlying59, rfl, rfl, by kernel_rfl⟩
theorem fd59_3 : FieldT Try.prog 59 3 5 := ⟨_, _, 0, Try.underlying59, rfl, rfl, by kernel_rfl⟩
theorem fd59_4 : FieldT Try.prog 59 4 6 := ⟨_, _, 0, Try.underlying59, rfl, rfl, by kernel_rfl⟩
theorem fd59_5 : FieldT Try.prog 59 5 7 := ⟨_, _, 0, Try.underlying59, rfl, rfl, by kernel_rfl⟩
theorem fd59_6 : FieldT Try.prog 59 6 8 := ⟨_, _, 0, Try.underlying59, rfl, rfl, by kernel_rfl⟩
theorem fd63_0 : FieldT Try.prog 63 0 0 := ⟨_, _, 0, Try.underlying63, rfl, rfl, by kernel_rfl⟩
theorem fd63_1 : FieldT Try.prog 63 1 1 := ⟨_, _, 0, Try.underlying63, rfl, rfl, by kernel_rfl⟩
theorem pl2 : Plain Try.prog 2 := ⟨_, Try.underlying2, rfl⟩
theorem pl25 : Plain Try.prog 25 := ⟨_, Try.underlying25, rfl⟩
theorem pl3 : Plain Try.prog 3 := ⟨_, Try.underlying3, rfl⟩
theorem pl30 : Plain Try.prog 30 := ⟨_, Try.underlying30, rfl⟩
theorem pl47 : Plain Try.prog 47 := ⟨_, Try.underlying47, rfl⟩
theorem sl106 : SliceT Try.prog 106 57 2 := ⟨Try.underlying106, by kernel_rfl⟩
theorem sl25 : SliceT Try.prog 25 45 10 := ⟨Try.underlying25, by kernel_rfl⟩
theorem sl30 : SliceT Try.prog 30 3 1 := ⟨Try.underlying30, by kernel_rfl⟩
theorem sl47 : SliceT Try.prog 47 59 9 := ⟨Try.underlying47, by kernel_rfl⟩
theorem sz25 : SizeT Try.prog 25 1 := by unfold SizeT; kernel_rfl
theorem sz27 : SizeT Try.prog 27 3 := by unfold SizeT; kernel_rfl
theorem sz3 : SizeT Try.prog 3 1 := by unfold SizeT; kernel_rfl
theorem sz45 : SizeT Try.prog 45 10 := by unfold SizeT; kernel_rfl
theorem sz59 : SizeT Try.prog 59 9 := by unfold SizeT; kernel_rfl
theorem sz_25 : SliceZ Try.prog 25 45 10 [.int .i64 0, .int .i64 0, .int .i64 0, .int .i64 0, .int .i64 0, .int .i64 0, .int .i64 0, .int .i64 0, .int .i64 0, .int .i64 0] := ⟨Try.underlying25, by kernel_rfl⟩
theorem ve25 : VecT Try.prog 25 45 10 80 := ⟨Try.underlying25, by kernel_rfl, by decide⟩
theorem ze27 : ZeroT Try.prog 27 [.int .i64 0, .int .i64 0, .slice none 0 0] := by unfold ZeroT; kernel_rfl
theorem ze45 : ZeroT Try.prog 45 [.int .i64 0, .int .i64 0, .int .i64 0, .int .i64 0, .int .i64 0, .int .i64 0, .int .i64 0, .int .i64 0, .int .i64 0, .int .i64 0] := by unfold ZeroT; kernel_rfl
theorem ze59 : ZeroT Try.prog 59 [.int .i64 0, .int .i64 0, .int .i64 0, .int .i64 0, .int .i64 0, .int .i64 0, .int .i64 0, .int .i64 0, .int .i64 0] := by unfold ZeroT; kernel_rfl
end TREmit
open TREmit
set_option maxRecDepth 8000 in
theorem roundelayref11_Emit_w {v_l_logs : Value} {v_l_body : Value} {v_l_outs : Value} {v_p_times : Value} {v_dests : Value} {l : Lp} {t : Tgt} {p : Pln} {dests : List Int} {r : Krn × Int} {K0 : World} (hm : roundelayref11_Emit_m l t p dests = some r) (h_l_logs : Arr K0 v_l_logs 1 (l.logs.map icell)) (h_l_body : Arr K0 v_l_body 9 (l.body.map Stm.cells)) (h_l_outs : Arr K0 v_l_outs 1 (l.outs.map icell)) (h_p_times : Arr K0 v_p_times 1 (p.times.map icell)) (h_dests : Arr K0 v_dests 1 (dests.map icell)) (M : Nat → Prop) (w : World) (hk : Base M K0 w) (hw0 : Own M w [] w) : Calls Try.prog 33 #[.agg #[v_l_logs, v_l_body, v_l_outs], .agg #[.int .i64 t.u0, .int .i64 t.u1, .int .i64 t.u2, .int .i64 t.w0, .int .i64 t.w1, .int .i64 t.w2, .int .i64 t.regs], .agg #[.int .i64 p.pace, v_p_times], v_dests] w (fun e w' => ∃ X : Value × World, e = .returned (.tuple #[.agg #[.int .i64 r.1.pace, .int .i64 r.1.stages, X.1], .int .i64 r.2]) ∧ Own M w (kn M w.heap.size K0 X.2 :: []) w' ∧ Arr X.2 X.1 10 (r.1.ops.map Opr.cells)) := by
  unfold roundelayref11_Emit_m at hm
  refine calls_of_WC (n := 178) (args := [.agg #[v_l_logs, v_l_body, v_l_outs], .agg #[.int .i64 t.u0, .int .i64 t.u1, .int .i64 t.u2, .int .i64 t.w0, .int .i64 t.w1, .int .i64 t.w2, .int .i64 t.regs], .agg #[.int .i64 p.pace, v_p_times], v_dests]) Try.func33 rfl rfl (Nat.le_of_ble_eq_true rfl) ?_ (Own.startK hk hw0)
  refine WC.seq ?_
  refine WC.region ?_
  refine WL.effect rfl ?_
  refine (EV.boxAgg (by decide) rfl rfl (fun b1 => ?_))
  refine WL.effect rfl ?_
  refine (EV.boxAgg (by decide) rfl rfl (fun b2 => ?_))
  refine WL.effect rfl ?_
  refine (EV.boxAgg (by decide) rfl rfl (fun b3 => ?_))
  refine WL.effect rfl ?_
  refine (EV.alloc (by decide) ze27 (fun b4 => ?_))
  refine WL.q rfl rfl rfl (QV.assign rfl rfl) ?_
  refine WL.nil ?_
  refine WQ.then ?_
  refine WC.seq ?_
  refine WC.region ?_
  refine WL.q rfl rfl rfl (QV.build (ps := []) (cells := [.int .i64 0, .int .i64 0, .slice none 0 0]) EvAll.nil (by kernel_rfl)) ?_
  refine WL.effect rfl ?_
  refine (EV.alloc (by decide) ze27 (fun b5 => ?_))
  refine WL.effect rfl ?_
  refine (EV.store 0 rfl rfl rfl rfl rfl rfl (vs := [.int .i64 0, .int .i64 0, .slice none 0 0]) (show Value.cells _ = List.toArray _ from rfl) sz27 (Nat.le_of_ble_eq_true rfl) (one_cons rfl (one_cons rfl (one_cons rfl one_nil))) ?_)
  refine WL.nil ?_
  refine WQ.then ?_
  refine WC.seq ?_
  refine WC.seq ?_
  refine WC.region ?_
  refine WL.q rfl rfl rfl (QV.loadAgg ag49 rfl rfl rfl (Own.cellsBlk 4 rfl)) ?_
  refine WL.q rfl rfl rfl (QV.loadAgg ag24 rfl rfl rfl (Own.cellsBlk 3 rfl)) ?_
  refine WL.q rfl rfl rfl (QV.loadAgg ag63 rfl rfl rfl (Own.cellsBlk 2 rfl)) ?_
  obtain ⟨x6, hx7, hm8⟩ := bd_some hm; clear hm
  refine WL.q rfl rfl rfl (QV.call en28 (EvAll.cons rfl rfl (EvAll.cons rfl rfl (EvAll.cons rfl rfl EvAll.nil))) (fun w hw => have h := roundelayref8_Legal_w w hx7 ((Own.karr 5 rfl hk h_l_logs) w hw) ((Own.karr 5 rfl hk h_l_body) w hw) ((Own.karr 5 rfl hk h_l_outs) w hw) ((Own.karr 5 rfl hk h_p_times) w hw); h)) ?_
  refine WL.q rfl rfl rfl (QV.not rfl rfl) ?_
  refine WL.q rfl rfl rfl (QV.move rfl rfl) ?_
  refine WL.g rfl rfl (GuardIs.neg rfl rfl) (fun hG => QV.move rfl rfl) ?_
  refine WL.g rfl rfl (GuardIs.neg rfl rfl) (fun hG => QV.lenS Try.underlying30 rfl hG h_dests.lenMap) ?_
  refine WL.g rfl rfl (GuardIs.neg rfl rfl) (fun hG => QV.fieldAddr fd49_1 rfl rfl) ?_
  refine WL.g rfl rfl (GuardIs.neg rfl rfl) (fun hG => QV.load pl47 rfl hG (Own.cell 4 rfl rfl)) ?_
  refine WL.g rfl rfl (GuardIs.neg rfl rfl) (fun hG => QV.lenS Try.underlying47 rfl hG h_l_body.lenMap) ?_
  refine WL.g rfl rfl (GuardIs.neg rfl rfl) (fun hG => QV.neq rfl hG rfl hG) ?_
  refine WL.q rfl rfl rfl (QV.pickOr rfl rfl rfl (fun h => notF h)) ?_
  refine WL.nil ?_
  refine WQ.then ?_
  refine WC.cond rfl (fun h9 => ?_) (fun h9 => ?_)
  · skip
    have hm10 := br_t h9 hm8; clear hm8
    refine WC.seq ?_
    refine WC.region ?_
    refine WL.q rfl rfl rfl (QV.loadAgg ag27 rfl rfl rfl (Own.cellsBlk 0 rfl)) ?_
    refine WL.effect rfl ?_
    refine (EV.store 1 rfl rfl rfl rfl rfl rfl (vs := [.int .i64 0, .int .i64 0, .slice none 0 0]) (show Value.cells _ = List.toArray _ from rfl) sz27 (Nat.le_of_ble_eq_true rfl) (one_cons rfl (one_cons rfl (one_cons rfl one_nil))) ?_)
    refine WL.q rfl rfl rfl (QV.assign rfl rfl) ?_
    refine WL.nil ?_
    refine WQ.then ?_
    refine WC.ret ?_
    refine WQ.then_ret ?_
    obtain rfl := (eq_of_some hm10).symm
    refine WQ.retCellTmp rfl ag27 rfl rfl rfl (Own.cellsBlk 1 rfl) (fun w hw => ?_)
    exact ⟨(.slice none 0 0, K0), rfl, hw.pick [5] (by decide), Arr.nil⟩
  · skip
    have hm11 := br_f h9 hm8; clear hm8
    refine WC.skip ?_
    refine WQ.then ?_
    refine WC.seq ?_
    refine WC.region ?_
    refine WL.q rfl rfl rfl (QV.fieldAddr fd63_0 rfl rfl) ?_
    refine WL.q rfl rfl rfl (QV.load pl3 rfl rfl (Own.cell 2 rfl rfl)) ?_
    refine WL.q rfl rfl rfl (QV.build (ps := [(0, .tmp 36)]) (cells := [.int .i64 p.pace, .int .i64 0, .slice none 0 0]) (EvAll.cons rfl rfl EvAll.nil) (by kernel_rfl)) ?_
    refine WL.effect rfl ?_
    refine (EV.alloc (by decide) ze27 (fun b12 => ?_))
    refine WL.effect rfl ?_
    refine (EV.store 0 rfl rfl rfl rfl rfl rfl (vs := [.int .i64 p.pace, .int .i64 0, .slice none 0 0]) (show Value.cells _ = List.toArray _ from rfl) sz27 (Nat.le_of_ble_eq_true rfl) (one_cons rfl (one_cons rfl (one_cons rfl one_nil))) ?_)
    refine WL.nil ?_
    refine WQ.then ?_
    refine WC.seq ?_
    refine WC.seq ?_
    refine WC.region ?_
    refine WL.q rfl rfl rfl (QV.assign rfl rfl) ?_
    refine WL.nil ?_
    refine WQ.then ?_
    refine WK.of (fun w hw => hw.vecNil (E := 45) (sz := 10) (enc := Opr.cells)) ?_
    obtain ⟨o14, ho15, hm16⟩ := bd_some hm11; clear hm11; obtain ⟨n17, ho18⟩ := lp_some ho15
    refine WC.bloop4 (H2 := [blk b5 [.int .i64 0, .int .i64 0, .slice none 0 0] 27, blk b4 [.int .i64 0, .int .i64 0, .slice none 0 0] 27, blk b3 [.int .i64 p.pace, v_p_times] 63, blk b2 [.int .i64 t.u0, .int .i64 t.u1, .int .i64 t.u2, .int .i64 t.w0, .int .i64 t.w1, .int .i64 t.w2, .int .i64 t.regs] 24, blk b1 [v_l_logs, v_l_body, v_l_outs] 49, kn M w.heap.size K0 K0]) (τ := [(3, (true, _)), (4, (true, _)), (5, (true, _)), (6, (true, _)), (8, (true, _)), (10, (true, _)), (11, (true, _))]) (fun (v13_1 : List Opr) (b12c1_1 : Int) (i12_1 : Int) (uv13_1 : Value) => [(12, (true, .int .i64 i12_1))]) (fun (v13_1 : List Opr) (b12c1_1 : Int) (i12_1 : Int) (uv13_1 : Value) => [vec uv13_1 45 10 (List.map Opr.cells v13_1), blk b12 [.int .i64 p.pace, .int .i64 b12c1_1, uv13_1] 27]) (fun (v13_1 : List Opr) (b12c1_1 : Int) (i12_1 : Int) (uv13_1 : Value) (m : Nat) => iter (roundelayref11_Emit_L0 l t p dests) m (v13_1, b12c1_1, i12_1) = some o14 ∧ SliceLen uv13_1 v13_1.length) (fun (v13_1 : List Opr) (b12c1_1 : Int) (i12_1 : Int) (uv13_1 : Value) => o14 = .go (v13_1, b12c1_1, i12_1) ∧ SliceLen uv13_1 v13_1.length) [] 0 0 (.slice none 0 0) n17 ⟨ho18, SliceLen.nil⟩ ⟨rfl, rfl, rfl, rfl, rfl, rfl, rfl, rfl, trivial⟩ (fun w hw => hw.pick [0, 1, 2, 3, 4, 5, 6, 7] (by decide)) ?_ ?_
    · skip
      rintro v13_1 b12c1_1 i12_1 uv13_1 ⟨rfl, hlv13_1⟩
      refine WQ.then ?_
      refine WC.seq ?_
      refine WC.seq ?_
      refine WC.region ?_
      refine WL.q rfl rfl rfl (QV.assign rfl rfl) ?_
      refine WL.nil ?_
      refine WQ.then ?_
      obtain ⟨o19, ho20, hm21⟩ := bd_some hm16; clear hm16; obtain ⟨n22, ho23⟩ := lp_some ho20
      refine WC.bloop3 (H2 := [blk b12 [.int .i64 p.pace, .int .i64 b12c1_1, uv13_1] 27, blk b5 [.int .i64 0, .int .i64 0, .slice none 0 0] 27, blk b4 [.int .i64 0, .int .i64 0, .slice none 0 0] 27, blk b3 [.int .i64 p.pace, v_p_times] 63, blk b2 [.int .i64 t.u0, .int .i64 t.u1, .int .i64 t.u2, .int .i64 t.w0, .int .i64 t.w1, .int .i64 t.w2, .int .i64 t.regs] 24, blk b1 [v_l_logs, v_l_body, v_l_outs] 49]) (τ := [(3, (true, _)), (4, (true, _)), (5, (true, _)), (8, (true, _)), (11, (true, _))]) (fun (v13_4 : List Opr) (i15_4 : Int) (k_4 : World) => [(15, (true, .int .i64 i15_4))]) (fun (v13_4 : List Opr) (i15_4 : Int) (k_4 : World) => [vec uv13_1 45 10 (List.map Opr.cells v13_4), kn M w.heap.size K0 k_4]) (fun (v13_4 : List Opr) (i15_4 : Int) (k_4 : World) (m : Nat) => iter (roundelayref11_Emit_L2 l t dests) m (v13_4, i15_4) = some o19 ∧ SliceLen uv13_1 v13_4.length ∧ Le K0 k_4) (fun (v13_4 : List Opr) (i15_4 : Int) (k_4 : World) => o19 = .go (v13_4, i15_4) ∧ SliceLen uv13_1 v13_4.length ∧ Le K0 k_4) v13_1 0 K0 n22 ⟨ho23, hlv13_1, (Le.refl _)⟩ ⟨rfl, rfl, rfl, rfl, rfl, rfl, trivial⟩ (fun w hw => hw.pick [0, 7, 1, 2, 3, 4, 5, 6] (by decide)) ?_ ?_
      · skip
        rintro v13_4 i15_4 k_4 ⟨rfl, hlv13_4, hle_4⟩
        refine WQ.then ?_
        refine WC.seq ?_
        refine WC.region ?_
        refine WL.q rfl rfl rfl (QV.loadAgg ag27 rfl rfl rfl (Own.cellsBlk 2 rfl)) ?_
        refine WL.effect rfl ?_
        refine (EV.store 4 rfl rfl rfl rfl rfl rfl (vs := [.int .i64 p.pace, .int .i64 b12c1_1, uv13_1]) (show Value.cells _ = List.toArray _ from rfl) sz27 (Nat.le_of_ble_eq_true rfl) (one_cons rfl (one_cons rfl (one_cons (SliceLen.one hlv13_4) one_nil))) ?_)
        refine WL.q rfl rfl rfl (QV.assign rfl rfl) ?_
        refine WL.nil ?_
        refine WQ.then ?_
        refine WC.ret ?_
        obtain rfl := (eq_of_some hm21).symm
        refine WK.of (C' := Own M w [kn M w.heap.size K0 k_4, vec uv13_1 45 10 (List.map Opr.cells v13_4), blk b12 [.int .i64 p.pace, .int .i64 b12c1_1, uv13_1] 27, blk b5 [.int .i64 0, .int .i64 0, .slice none 0 0] 27, blk b4 [.int .i64 p.pace, .int .i64 b12c1_1, uv13_1] 27, blk b3 [.int .i64 p.pace, v_p_times] 63, blk b2 [.int .i64 t.u0, .int .i64 t.u1, .int .i64 t.u2, .int .i64 t.w0, .int .i64 t.w1, .int .i64 t.w2, .int .i64 t.regs] 24, blk b1 [v_l_logs, v_l_body, v_l_outs] 49]) (fun w hw => hw.pick [1, 0, 2, 3, 4, 5, 6, 7] (by decide)) ?_
        refine WK.freeze hk (fun k24 hle24 hr24 => ?_)
        have hA24 := vec_arr hr24
        refine WQ.retCellTmp rfl ag27 rfl rfl rfl (Own.cellsBlk 3 rfl) (fun w hw => ?_)
        exact ⟨(uv13_1, k24), rfl, hw.pick [0] (by decide), hA24⟩
      · skip
        rintro v13_4 i15_4 k_4 m25 ⟨hI26, hlv13_4, hle_4⟩
        obtain ⟨m27, s28, rfl, hm29, hn30⟩ := iter_step hI26; clear hI26; unfold roundelayref11_Emit_L2 at hm29; simp only at hm29
        refine WC.seq ?_
        refine WC.seq ?_
        refine WC.region ?_
        refine WL.q rfl rfl rfl (QV.move rfl rfl) ?_
        refine WL.q rfl rfl rfl (QV.move rfl rfl) ?_
        refine WL.q rfl rfl rfl (QV.lenS Try.underlying30 rfl rfl (h_dests.le hle_4).lenMap) ?_
        refine WL.q rfl rfl rfl (QV.lss rfl rfl rfl rfl) ?_
        refine WL.nil ?_
        refine WQ.then ?_
        refine WC.cond rfl (fun h31 => ?_) (fun h31 => ?_)
        · skip
          have hm32 := br_t h31 hm29; clear hm29
          refine WC.skip ?_
          refine WQ.then ?_
          refine WC.seq ?_
          refine WC.block ?_
          refine WC.seq ?_
          refine WC.region ?_
          refine WL.q rfl rfl rfl (QV.fieldAddr fd49_1 rfl rfl) ?_
          refine WL.q rfl rfl rfl (QV.load pl47 rfl rfl (Own.cell 7 rfl rfl)) ?_
          refine WL.q rfl rfl rfl (QV.move rfl rfl) ?_
          obtain ⟨c33, hm34⟩ := ck_some hm32; clear hm32
          obtain ⟨p35, hp36⟩ := (h_l_body.le hle_4).lenMap.ix (sz := 9) ln_len c33
          refine WL.q rfl rfl rfl (QV.indexSlice sl47 rfl rfl rfl rfl hp36) ?_
          refine WL.q rfl rfl rfl (QV.loadAgg ag59 rfl rfl rfl (fun w hw => ((Own.karr 1 rfl hk (h_l_body.le hle_4)) w hw).ele hp36 c33)) ?_
          refine WL.effect rfl ?_
          obtain ⟨x37, hx38, hm39⟩ := bd_some hm34; clear hm34
          refine EV.of (C' := Own M w [kn M w.heap.size K0 k_4, vec uv13_1 45 10 (List.map Opr.cells v13_4), blk b12 [.int .i64 p.pace, .int .i64 b12c1_1, uv13_1] 27, blk b5 [.int .i64 0, .int .i64 0, .slice none 0 0] 27, blk b4 [.int .i64 0, .int .i64 0, .slice none 0 0] 27, blk b3 [.int .i64 p.pace, v_p_times] 63, blk b2 [.int .i64 t.u0, .int .i64 t.u1, .int .i64 t.u2, .int .i64 t.w0, .int .i64 t.w1, .int .i64 t.w2, .int .i64 t.regs] 24, blk b1 [v_l_logs, v_l_body, v_l_outs] 49]) (fun w hw => hw.pick [1, 0, 2, 3, 4, 5, 6, 7] (by decide)) ?_
          refine (EV.callR (X := Value × World) (R := []) (fun X => X.1) (fun X => []) (fun X => X.2) (fun X => Arr X.2 X.1 2 (x37.map Rf.cells)) hk (fun _ h => by cases h; decide) en74 (EvAll.cons rfl rfl EvAll.nil) (fun M w h1 h2 => have h := roundelayref2_Uses_w hx38  M w h1 h2; h) (fun X40 hF40 hle40 => ?_))
          refine WL.q rfl rfl rfl (QV.assign rfl rfl) ?_
          refine WL.nil ?_
          refine WQ.then ?_
          refine WC.seq ?_
          refine WC.region ?_
          refine WL.q rfl rfl rfl (QV.assign rfl rfl) ?_
          refine WL.nil ?_
          refine WQ.then ?_
          obtain ⟨o41, ho42, hm43⟩ := bd_some hm39; clear hm39; obtain ⟨n44, ho45⟩ := lp_some ho42
          refine WC.bloop2 (H2 := [kn M w.heap.size K0 X40.2, blk b12 [.int .i64 p.pace, .int .i64 b12c1_1, uv13_1] 27, blk b5 [.int .i64 0, .int .i64 0, .slice none 0 0] 27, blk b4 [.int .i64 0, .int .i64 0, .slice none 0 0] 27, blk b3 [.int .i64 p.pace, v_p_times] 63, blk b2 [.int .i64 t.u0, .int .i64 t.u1, .int .i64 t.u2, .int .i64 t.w0, .int .i64 t.w1, .int .i64 t.w2, .int .i64 t.regs] 24, blk b1 [v_l_logs, v_l_body, v_l_outs] 49]) (τ := [(3, (true, _)), (4, (true, _)), (5, (true, _)), (8, (true, _)), (11, (true, _)), (15, (true, _)), (16, (true, _))]) (fun (v13_5 : List Opr) (j17_5 : Int) => [(17, (true, .int .i64 j17_5))]) (fun (v13_5 : List Opr) (j17_5 : Int) => [vec uv13_1 45 10 (List.map Opr.cells v13_5)]) (fun (v13_5 : List Opr) (j17_5 : Int) (m : Nat) => iter (roundelayref11_Emit_L4 t i15_4 x37) m (v13_5, j17_5) = some o41 ∧ SliceLen uv13_1 v13_5.length) (fun (v13_5 : List Opr) (j17_5 : Int) => o41 = .go (v13_5, j17_5) ∧ SliceLen uv13_1 v13_5.length) v13_4 0 n44 ⟨ho45, hlv13_4⟩ ⟨rfl, rfl, rfl, rfl, rfl, rfl, rfl, rfl, trivial⟩ (fun w hw => hw.pick [1, 0, 2, 3, 4, 5, 6, 7] (by decide)) ?_ ?_
          · skip
            rintro v13_5 j17_5 ⟨rfl, hlv13_5⟩
            refine WQ.block ?_
            refine WQ.then ?_
            refine WC.region ?_
            refine WL.q rfl rfl rfl (QV.move rfl rfl) ?_
            obtain ⟨c46, hm47⟩ := ck_some hm43; clear hm43
            refine WL.q rfl rfl rfl (QV.add rfl rfl rfl rfl c46) ?_
            refine WL.q rfl rfl rfl (QV.assign rfl rfl) ?_
            refine WL.nil ?_
            exact WQ.again3 v13_5 (i15_4 + 1) X40.2 m27 ⟨up_next hm47 hn30, hlv13_5, (hle_4.trans hle40)⟩ (Nat.lt_succ_self _) ⟨rfl, rfl, rfl, rfl, rfl, rfl, trivial⟩ (fun w hw => hw.pick [0, 1, 2, 3, 4, 5, 6, 7] (by decide))
          · skip
            rintro v13_5 j17_5 m48 ⟨hI49, hlv13_5⟩
            obtain ⟨m50, s51, rfl, hm52, hn53⟩ := iter_step hI49; clear hI49; unfold roundelayref11_Emit_L4 at hm52; simp only at hm52
            refine WC.seq ?_
            refine WC.seq ?_
            refine WC.region ?_
            refine WL.q rfl rfl rfl (QV.move rfl rfl) ?_
            refine WL.q rfl rfl rfl (QV.move rfl rfl) ?_
            refine WL.q rfl rfl rfl (QV.lenS Try.underlying106 rfl rfl hF40.lenMap) ?_
            refine WL.q rfl rfl rfl (QV.lss rfl rfl rfl rfl) ?_
            refine WL.nil ?_
            refine WQ.then ?_
            refine WC.cond rfl (fun h54 => ?_) (fun h54 => ?_)
            · skip
              have hm55 := br_t h54 hm52; clear hm52
              refine WC.skip ?_
              refine WQ.then ?_
              refine WC.seq ?_
              refine WC.block ?_
              refine WC.seq ?_
              refine WC.dr (m := 11) (S := Own M w [kn M w.heap.size K0 X40.2, vec uv13_1 45 10 (List.map Opr.cells v13_5), blk b12 [.int .i64 p.pace, .int .i64 b12c1_1, uv13_1] 27, blk b5 [.int .i64 0, .int .i64 0, .slice none 0 0] 27, blk b4 [.int .i64 0, .int .i64 0, .slice none 0 0] 27, blk b3 [.int .i64 p.pace, v_p_times] 63, blk b2 [.int .i64 t.u0, .int .i64 t.u1, .int .i64 t.u2, .int .i64 t.w0, .int .i64 t.w1, .int .i64 t.w2, .int .i64 t.regs] 24, blk b1 [v_l_logs, v_l_body, v_l_outs] 49]) (by kernel_rfl) (by kernel_rfl) (fun w hw => hw.pick [1, 0, 2, 3, 4, 5, 6, 7] (by decide)) ?_
              refine WD.q 0 rfl (by kernel_rfl) rfl rfl rfl (QV.fieldAddr fd27_2 rfl rfl) ?_
              refine WD.q 1 rfl (by kernel_rfl) rfl rfl rfl (QV.load pl25 rfl rfl (Own.cell 2 rfl rfl)) ?_
              refine WD.q 2 rfl (by kernel_rfl) rfl rfl rfl (QV.move rfl rfl) ?_
              refine WD.q 3 rfl (by kernel_rfl) rfl rfl rfl (QV.move rfl rfl) ?_
              obtain ⟨c56, hm57⟩ := ck_some hm55; clear hm55
              obtain ⟨p58, hp59⟩ := hF40.lenMap.ix (sz := 2) ln_len c56
              refine WD.q 4 rfl (by kernel_rfl) rfl rfl rfl (QV.indexSlice sl106 rfl rfl rfl rfl hp59) ?_
              refine WD.q 5 rfl (by kernel_rfl) rfl rfl rfl (QV.fieldAddr fd57_0 rfl rfl) ?_
              refine WD.q 6 rfl (by kernel_rfl) rfl rfl rfl (QV.load pl3 rfl rfl (fun w hw => CellsAt.one 0 (((Own.karr 0 rfl hk hF40) w hw).ele hp59 c56) rfl)) ?_
              obtain ⟨c60, hm61⟩ := ck_some hm57; clear hm57
              obtain ⟨p62, hp63⟩ := hlv13_5.ix (sz := 10) ln_len c60
              refine WD.q 7 rfl (by kernel_rfl) rfl rfl rfl (QV.indexSlice sl25 rfl rfl rfl rfl hp63) ?_
              refine WD.q 8 rfl (by kernel_rfl) rfl rfl rfl (QV.loadAgg ag45 rfl rfl rfl (fun w hw => ((Own.vecArr 1 rfl) w hw).ele hp63 c60)) ?_
              refine WD.o 9 rfl (by kernel_rfl) rfl ?_
              refine (EV.alloc (by decide) ze45 (fun b64 => ?_))
              refine WD.b (H' := [kn M w.heap.size K0 X40.2, blk b64 [.int .i64 0, .int .i64 0, .int .i64 0, .int .i64 0, .int .i64 0, .int .i64 0, .int .i64 0, .int .i64 0, .int .i64 0, .int .i64 0] 45, vec uv13_1 45 10 (List.map Opr.cells v13_5), blk b12 [.int .i64 p.pace, .int .i64 b12c1_1, uv13_1] 27, blk b5 [.int .i64 0, .int .i64 0, .slice none 0 0] 27, blk b4 [.int .i64 0, .int .i64 0, .slice none 0 0] 27, blk b3 [.int .i64 p.pace, v_p_times] 63, blk b2 [.int .i64 t.u0, .int .i64 t.u1, .int .i64 t.u2, .int .i64 t.w0, .int .i64 t.w1, .int .i64 t.w2, .int .i64 t.regs] 24, blk b1 [v_l_logs, v_l_body, v_l_outs] 49]) (fun w hw => hw.pick [2, 0, 1, 3, 4, 5, 6, 7, 8] (by decide)) (fun w hw => hw.pick [0, 2, 3, 4, 5, 6, 7, 8] (by decide)) ?_
              refine WD.l 10 rfl (by kernel_rfl) rfl ?_
              refine (EV.store 0 rfl rfl rfl rfl rfl rfl (vs := [.int .i64 ((ele v13_5 ((ele x37 j17_5).st)).slot), .int .i64 ((ele v13_5 ((ele x37 j17_5).st)).stage), .int .i64 ((ele v13_5 ((ele x37 j17_5).st)).op), .int .i64 ((ele v13_5 ((ele x37 j17_5).st)).dest), .int .i64 ((ele v13_5 ((ele x37 j17_5).st)).a), .int .i64 ((ele v13_5 ((ele x37 j17_5).st)).b), .int .i64 ((ele v13_5 ((ele x37 j17_5).st)).ar), .int .i64 ((ele v13_5 ((ele x37 j17_5).st)).sp), .int .i64 ((ele v13_5 ((ele x37 j17_5).st)).pl), .int .i64 ((ele v13_5 ((ele x37 j17_5).st)).n)]) (show Value.cells _ = List.toArray _ from rfl) sz45 (Nat.le_of_ble_eq_true rfl) (one_cons rfl (one_cons rfl (one_cons rfl (one_cons rfl (one_cons rfl (one_cons rfl (one_cons rfl (one_cons rfl (one_cons rfl (one_cons rfl one_nil)))))))))) ?_)
              refine WQ.then ?_
              refine WC.seq ?_
              refine WC.dr (m := 22) (S := Own M w [kn M w.heap.size K0 X40.2, blk b64 [.int .i64 ((ele v13_5 ((ele x37 j17_5).st)).slot), .int .i64 ((ele v13_5 ((ele x37 j17_5).st)).stage), .int .i64 ((ele v13_5 ((ele x37 j17_5).st)).op), .int .i64 ((ele v13_5 ((ele x37 j17_5).st)).dest), .int .i64 ((ele v13_5 ((ele x37 j17_5).st)).a), .int .i64 ((ele v13_5 ((ele x37 j17_5).st)).b), .int .i64 ((ele v13_5 ((ele x37 j17_5).st)).ar), .int .i64 ((ele v13_5 ((ele x37 j17_5).st)).sp), .int .i64 ((ele v13_5 ((ele x37 j17_5).st)).pl), .int .i64 ((ele v13_5 ((ele x37 j17_5).st)).n)] 45, vec uv13_1 45 10 (List.map Opr.cells v13_5), blk b12 [.int .i64 p.pace, .int .i64 b12c1_1, uv13_1] 27, blk b5 [.int .i64 0, .int .i64 0, .slice none 0 0] 27, blk b4 [.int .i64 0, .int .i64 0, .slice none 0 0] 27, blk b3 [.int .i64 p.pace, v_p_times] 63, blk b2 [.int .i64 t.u0, .int .i64 t.u1, .int .i64 t.u2, .int .i64 t.w0, .int .i64 t.w1, .int .i64 t.w2, .int .i64 t.regs] 24, blk b1 [v_l_logs, v_l_body, v_l_outs] 49]) (by kernel_rfl) (by kernel_rfl) (fun w hw => hw.pick [2, 0, 1, 3, 4, 5, 6, 7, 8] (by decide)) ?_
              refine WD.q 0 rfl (by kernel_rfl) rfl rfl rfl (QV.fieldAddr fd45_3 rfl rfl) ?_
              refine WD.q 1 rfl (by kernel_rfl) rfl rfl rfl (QV.load pl3 rfl rfl (Own.cell 1 rfl rfl)) ?_
              refine WD.q 2 rfl (by kernel_rfl) rfl rfl rfl (QV.fieldAddr fd45_1 rfl rfl) ?_
              refine WD.q 3 rfl (by kernel_rfl) rfl rfl rfl (QV.load pl3 rfl rfl (Own.cell 1 rfl rfl)) ?_
              obtain ⟨c65, hm66⟩ := ck_some hm61; clear hm61
              refine WD.q 4 rfl (by kernel_rfl) rfl rfl rfl (QV.add rfl rfl rfl rfl c65) ?_
              refine WD.q 5 rfl (by kernel_rfl) rfl rfl rfl (QV.move rfl rfl) ?_
              refine WD.q 6 rfl (by kernel_rfl) rfl rfl rfl (QV.move rfl rfl) ?_
              obtain ⟨c67, hm68⟩ := ck_some hm66; clear hm66
              obtain ⟨p69, hp70⟩ := hF40.lenMap.ix (sz := 2) ln_len c67
              refine WD.q 7 rfl (by kernel_rfl) rfl rfl rfl (QV.indexSlice sl106 rfl rfl rfl rfl hp70) ?_
              refine WD.q 8 rfl (by kernel_rfl) rfl rfl rfl (QV.fieldAddr fd57_1 rfl rfl) ?_
              refine WD.q 9 rfl (by kernel_rfl) rfl rfl rfl (QV.load pl3 rfl rfl (fun w hw => CellsAt.one 1 (((Own.karr 0 rfl hk hF40) w hw).ele hp70 c67) rfl)) ?_
              obtain ⟨c71, hm72⟩ := ck_some hm68; clear hm68
              refine WD.q 10 rfl (by kernel_rfl) rfl rfl rfl (QV.sub rfl rfl rfl rfl c71) ?_
              refine WD.q 11 rfl (by kernel_rfl) rfl rfl rfl (QV.fieldAddr fd27_2 rfl rfl) ?_
              refine WD.q 12 rfl (by kernel_rfl) rfl rfl rfl (QV.load pl25 rfl rfl (Own.cell 3 rfl rfl)) ?_
              refine WD.q 13 rfl (by kernel_rfl) rfl rfl rfl (QV.move rfl rfl) ?_
              obtain ⟨c73, hm74⟩ := ck_some hm72; clear hm72
              obtain ⟨p75, hp76⟩ := hlv13_5.ix (sz := 10) ln_len c73
              refine WD.q 14 rfl (by kernel_rfl) rfl rfl rfl (QV.indexSlice sl25 rfl rfl rfl rfl hp76) ?_
              refine WD.q 15 rfl (by kernel_rfl) rfl rfl rfl (QV.fieldAddr fd45_1 rfl rfl) ?_
              refine WD.q 16 rfl (by kernel_rfl) rfl rfl rfl (QV.load pl3 rfl rfl (fun w hw => CellsAt.one 1 (((Own.vecArr 2 rfl) w hw).ele hp76 c73) rfl)) ?_
              obtain ⟨c77, hm78⟩ := ck_some hm74; clear hm74
              refine WD.q 17 rfl (by kernel_rfl) rfl rfl rfl (QV.sub rfl rfl rfl rfl c77) ?_
              refine WD.q 18 rfl (by kernel_rfl) rfl rfl rfl (QV.fieldAddr fd24_2 rfl rfl) ?_
              refine WD.q 19 rfl (by kernel_rfl) rfl rfl rfl (QV.load pl3 rfl rfl (Own.cell 7 rfl rfl)) ?_
              obtain ⟨x79, hx80, hm81⟩ := bd_some hm78; clear hm78
              refine WD.q 20 rfl (by kernel_rfl) rfl rfl rfl (QV.call en75 (EvAll.cons rfl rfl (EvAll.cons rfl rfl EvAll.nil)) (fun w hw => have h := roundelayref1_Rest_w w hx80 ; h)) ?_
              refine WD.q 21 rfl (by kernel_rfl) rfl rfl rfl (QV.assign rfl rfl) ?_
              refine WD.e (by kernel_rfl) ?_
              refine WQ.then ?_
              refine WC.seq ?_
              refine WC.region ?_
              refine WL.q rfl rfl rfl (QV.move rfl rfl) ?_
              refine WL.q rfl rfl rfl (QV.eql rfl rfl rfl rfl) ?_
              refine WL.nil ?_
              refine WQ.then ?_
              refine WC.cond rfl (fun h82 => ?_) (fun h82 => ?_)
              · skip
                have hm83 := br_t h82 hm81; clear hm81
                refine WC.region ?_
                refine WL.q rfl rfl rfl (QV.fieldAddr fd27_2 rfl rfl) ?_
                refine WL.q rfl rfl rfl (QV.load pl25 rfl rfl (Own.cell 3 rfl rfl)) ?_
                refine WL.q rfl rfl rfl (QV.move rfl rfl) ?_
                refine WL.q rfl rfl rfl (QV.move rfl rfl) ?_
                obtain ⟨c84, hm85⟩ := ck_some hm83; clear hm83
                obtain ⟨p86, hp87⟩ := hlv13_5.ix (sz := 10) ln_len c84
                refine WL.q rfl rfl rfl (QV.indexSlice sl25 rfl rfl rfl rfl hp87) ?_
                refine WL.q rfl rfl rfl (QV.fieldAddr fd45_4 rfl rfl) ?_
                refine WL.effect rfl ?_
                refine (EV.storeE (enc := Opr.cells) (off := 4) (vs := [.int .i64 x79]) 1 (Opr.mk ((ele v13_5 i15_4).slot) ((ele v13_5 i15_4).stage) ((ele v13_5 i15_4).op) ((ele v13_5 i15_4).dest) x79 ((ele v13_5 i15_4).b) ((ele v13_5 i15_4).ar) ((ele v13_5 i15_4).sp) ((ele v13_5 i15_4).pl) ((ele v13_5 i15_4).n)) rfl rfl rfl rfl rfl hp87 c84 (by first | rfl | exact addr_zero _) (show Value.cells _ = List.toArray _ from rfl) sz3 (Nat.le_of_ble_eq_true rfl) (one_cons rfl one_nil) rfl ?_)
                have hl88 : SliceLen uv13_1 (upd v13_5 i15_4 (Opr.mk ((ele v13_5 i15_4).slot) ((ele v13_5 i15_4).stage) ((ele v13_5 i15_4).op) ((ele v13_5 i15_4).dest) x79 ((ele v13_5 i15_4).b) ((ele v13_5 i15_4).ar) ((ele v13_5 i15_4).sp) ((ele v13_5 i15_4).pl) ((ele v13_5 i15_4).n))).length := slen_upd hlv13_5
                refine WL.nil ?_
                refine WQ.block ?_
                refine WQ.then ?_
                refine WC.region ?_
                refine WL.q rfl rfl rfl (QV.move rfl rfl) ?_
                obtain ⟨c89, hm90⟩ := ck_some hm85; clear hm85
                refine WL.q rfl rfl rfl (QV.add rfl rfl rfl rfl c89) ?_
                refine WL.q rfl rfl rfl (QV.assign rfl rfl) ?_
                refine WL.nil ?_
                exact WQ.again2 (upd v13_5 i15_4 (Opr.mk ((ele v13_5 i15_4).slot) ((ele v13_5 i15_4).stage) ((ele v13_5 i15_4).op) ((ele v13_5 i15_4).dest) x79 ((ele v13_5 i15_4).b) ((ele v13_5 i15_4).ar) ((ele v13_5 i15_4).sp) ((ele v13_5 i15_4).pl) ((ele v13_5 i15_4).n))) (j17_5 + 1) m50 ⟨up_next hm90 hn53, hl88⟩ (Nat.lt_succ_self _) ⟨rfl, rfl, rfl, rfl, rfl, rfl, rfl, rfl, trivial⟩ (fun w hw => hw.pick [1, 2, 3, 4, 5, 6, 7, 8] (by decide))
              · skip
                have hm91 := br_f h82 hm81; clear hm81
                refine WC.region ?_
                refine WL.q rfl rfl rfl (QV.fieldAddr fd27_2 rfl rfl) ?_
                refine WL.q rfl rfl rfl (QV.load pl25 rfl rfl (Own.cell 3 rfl rfl)) ?_
                refine WL.q rfl rfl rfl (QV.move rfl rfl) ?_
                refine WL.q rfl rfl rfl (QV.move rfl rfl) ?_
                obtain ⟨c92, hm93⟩ := ck_some hm91; clear hm91
                obtain ⟨p94, hp95⟩ := hlv13_5.ix (sz := 10) ln_len c92
                refine WL.q rfl rfl rfl (QV.indexSlice sl25 rfl rfl rfl rfl hp95) ?_
                refine WL.q rfl rfl rfl (QV.fieldAddr fd45_5 rfl rfl) ?_
                refine WL.effect rfl ?_
                refine (EV.storeE (enc := Opr.cells) (off := 5) (vs := [.int .i64 x79]) 1 (Opr.mk ((ele v13_5 i15_4).slot) ((ele v13_5 i15_4).stage) ((ele v13_5 i15_4).op) ((ele v13_5 i15_4).dest) ((ele v13_5 i15_4).a) x79 ((ele v13_5 i15_4).ar) ((ele v13_5 i15_4).sp) ((ele v13_5 i15_4).pl) ((ele v13_5 i15_4).n)) rfl rfl rfl rfl rfl hp95 c92 (by first | rfl | exact addr_zero _) (show Value.cells _ = List.toArray _ from rfl) sz3 (Nat.le_of_ble_eq_true rfl) (one_cons rfl one_nil) rfl ?_)
                have hl96 : SliceLen uv13_1 (upd v13_5 i15_4 (Opr.mk ((ele v13_5 i15_4).slot) ((ele v13_5 i15_4).stage) ((ele v13_5 i15_4).op) ((ele v13_5 i15_4).dest) ((ele v13_5 i15_4).a) x79 ((ele v13_5 i15_4).ar) ((ele v13_5 i15_4).sp) ((ele v13_5 i15_4).pl) ((ele v13_5 i15_4).n))).length := slen_upd hlv13_5
                refine WL.nil ?_
                refine WQ.block ?_
                refine WQ.then ?_
                refine WC.region ?_
                refine WL.q rfl rfl rfl (QV.move rfl rfl) ?_
                obtain ⟨c97, hm98⟩ := ck_some hm93; clear hm93
                refine WL.q rfl rfl rfl (QV.add rfl rfl rfl rfl c97) ?_
                refine WL.q rfl rfl rfl (QV.assign rfl rfl) ?_
                refine WL.nil ?_
                exact WQ.again2 (upd v13_5 i15_4 (Opr.mk ((ele v13_5 i15_4).slot) ((ele v13_5 i15_4).stage) ((ele v13_5 i15_4).op) ((ele v13_5 i15_4).dest) ((ele v13_5 i15_4).a) x79 ((ele v13_5 i15_4).ar) ((ele v13_5 i15_4).sp) ((ele v13_5 i15_4).pl) ((ele v13_5 i15_4).n))) (j17_5 + 1) m50 ⟨up_next hm98 hn53, hl96⟩ (Nat.lt_succ_self _) ⟨rfl, rfl, rfl, rfl, rfl, rfl, rfl, rfl, trivial⟩ (fun w hw => hw.pick [1, 2, 3, 4, 5, 6, 7, 8] (by decide))
            · skip
              have hm99 := br_f h54 hm52; clear hm52
              refine WC.exit ?_
              refine WQ.then_exit ?_
              refine WQ.then_exit ?_
              refine WQ.block_exit ?_
              exact WQ.out2 v13_5 j17_5 ⟨up_brk hm99 hn53, hlv13_5⟩ ⟨rfl, rfl, rfl, rfl, rfl, rfl, rfl, rfl, trivial⟩ (fun w hw => hw.pick [0, 1, 2, 3, 4, 5, 6, 7] (by decide))
        · skip
          have hm100 := br_f h31 hm29; clear hm29
          refine WC.exit ?_
          refine WQ.then_exit ?_
          refine WQ.then_exit ?_
          refine WQ.block_exit ?_
          exact WQ.out3 v13_4 i15_4 k_4 ⟨up_brk hm100 hn30, hlv13_4, hle_4⟩ ⟨rfl, rfl, rfl, rfl, rfl, rfl, trivial⟩ (fun w hw => hw.pick [0, 1, 2, 3, 4, 5, 6, 7] (by decide))
    · skip
      rintro v13_1 b12c1_1 i12_1 uv13_1 m101 ⟨hI102, hlv13_1⟩
      obtain ⟨m103, s104, rfl, hm105, hn106⟩ := iter_step hI102; clear hI102; unfold roundelayref11_Emit_L0 at hm105; simp only at hm105
      refine WC.seq ?_
      refine WC.seq ?_
      refine WC.region ?_
      refine WL.q rfl rfl rfl (QV.move rfl rfl) ?_
      refine WL.q rfl rfl rfl (QV.move rfl rfl) ?_
      refine WL.q rfl rfl rfl (QV.lenS Try.underlying30 rfl rfl h_dests.lenMap) ?_
      refine WL.q rfl rfl rfl (QV.lss rfl rfl rfl rfl) ?_
      refine WL.nil ?_
      refine WQ.then ?_
      refine WC.cond rfl (fun h107 => ?_) (fun h107 => ?_)
      · skip
        have hm108 := br_t h107 hm105; clear hm105
        refine WC.skip ?_
        refine WQ.then ?_
        refine WC.seq ?_
        refine WC.block ?_
        refine WC.seq ?_
        refine WC.seq ?_
        refine WC.dr (m := 14) (S := Own M w [kn M w.heap.size K0 K0, vec uv13_1 45 10 (List.map Opr.cells v13_1), blk b12 [.int .i64 p.pace, .int .i64 b12c1_1, uv13_1] 27, blk b5 [.int .i64 0, .int .i64 0, .slice none 0 0] 27, blk b4 [.int .i64 0, .int .i64 0, .slice none 0 0] 27, blk b3 [.int .i64 p.pace, v_p_times] 63, blk b2 [.int .i64 t.u0, .int .i64 t.u1, .int .i64 t.u2, .int .i64 t.w0, .int .i64 t.w1, .int .i64 t.w2, .int .i64 t.regs] 24, blk b1 [v_l_logs, v_l_body, v_l_outs] 49]) (by kernel_rfl) (by kernel_rfl) (fun w hw => hw.pick [7, 0, 1, 2, 3, 4, 5, 6] (by decide)) ?_
        refine WD.q 0 rfl (by kernel_rfl) rfl rfl rfl (QV.move rfl rfl) ?_
        refine WD.q 1 rfl (by kernel_rfl) rfl rfl rfl (QV.move rfl rfl) ?_
        obtain ⟨c109, hm110⟩ := ck_some hm108; clear hm108
        obtain ⟨p111, hp112⟩ := h_dests.lenMap.ix (sz := 1) ln_len c109
        refine WD.q 2 rfl (by kernel_rfl) rfl rfl rfl (QV.indexSlice sl30 rfl rfl rfl rfl hp112) ?_
        refine WD.q 3 rfl (by kernel_rfl) rfl rfl rfl (QV.load pl3 rfl rfl (fun w hw => CellsAt.one 0 (((Own.karr 0 rfl hk h_dests) w hw).ele hp112 c109) rfl)) ?_
        refine WD.q 4 rfl (by kernel_rfl) rfl rfl rfl (QV.lss rfl rfl rfl rfl) ?_
        refine WD.q 5 rfl (by kernel_rfl) rfl rfl rfl (QV.move rfl rfl) ?_
        refine WD.g 6 rfl (by kernel_rfl) rfl rfl (GuardIs.neg rfl rfl) (fun hG => QV.move rfl rfl) ?_
        refine WD.g 7 rfl (by kernel_rfl) rfl rfl (GuardIs.neg rfl rfl) (fun hG => QV.move rfl rfl) ?_
        obtain ⟨c113, hm114⟩ := ck_some hm110; clear hm110
        obtain ⟨p115, hp116⟩ := h_dests.lenMap.ixG (sz := 1) ln_len c113
        refine WD.g 8 rfl (by kernel_rfl) rfl rfl (GuardIs.neg rfl rfl) (fun hG => QV.indexSlice sl30 rfl hG rfl hG (hp116 hG)) ?_
        refine WD.g 9 rfl (by kernel_rfl) rfl rfl (GuardIs.neg rfl rfl) (fun hG => QV.load pl3 rfl hG (fun w hw => CellsAt.one 0 (((Own.karr 0 rfl hk h_dests) w hw).ele (hp116 hG) (c113 hG)) rfl)) ?_
        refine WD.g 10 rfl (by kernel_rfl) rfl rfl (GuardIs.neg rfl rfl) (fun hG => QV.fieldAddr fd24_2 rfl rfl) ?_
        refine WD.g 11 rfl (by kernel_rfl) rfl rfl (GuardIs.neg rfl rfl) (fun hG => QV.load pl3 rfl hG (Own.cell 6 rfl rfl)) ?_
        refine WD.g 12 rfl (by kernel_rfl) rfl rfl (GuardIs.neg rfl rfl) (fun hG => QV.geq rfl hG rfl hG) ?_
        refine WD.q 13 rfl (by kernel_rfl) rfl rfl rfl (QV.pickOr rfl rfl rfl (fun h => notF h)) ?_
        refine WD.e (by kernel_rfl) ?_
        refine WQ.then ?_
        refine WC.cond rfl (fun h117 => ?_) (fun h117 => ?_)
        · skip
          have hm118 := br_t h117 hm114; clear hm114
          refine WC.seq ?_
          refine WC.region ?_
          refine WL.q rfl rfl rfl (QV.loadAgg ag27 rfl rfl rfl (Own.cellsBlk 2 rfl)) ?_
          refine WL.effect rfl ?_
          refine (EV.store 3 rfl rfl rfl rfl rfl rfl (vs := [.int .i64 0, .int .i64 0, .slice none 0 0]) (show Value.cells _ = List.toArray _ from rfl) sz27 (Nat.le_of_ble_eq_true rfl) (one_cons rfl (one_cons rfl (one_cons rfl one_nil))) ?_)
          refine WL.q rfl rfl rfl (QV.assign rfl rfl) ?_
          refine WL.nil ?_
          refine WQ.then ?_
          refine WC.ret ?_
          refine WQ.then_ret ?_
          refine WQ.block_ret ?_
          refine WQ.then_ret ?_
          refine WQ.then_ret ?_
          refine WQ.block_ret ?_
          refine WQ.then_ret ?_
          refine WQ.then_ret ?_
          obtain rfl := up_ret hm118 hn106
          obtain rfl := (eq_of_some hm16).symm
          refine WQ.retCellTmp rfl ag27 rfl rfl rfl (Own.cellsBlk 3 rfl) (fun w hw => ?_)
          exact ⟨(.slice none 0 0, K0), rfl, hw.pick [7] (by decide), Arr.nil⟩
        · skip
          have hm119 := br_f h117 hm114; clear hm114
          refine WC.skip ?_
          refine WQ.then ?_
          refine WC.seq ?_
          refine WC.region ?_
          refine WL.q rfl rfl rfl (QV.fieldAddr fd49_1 rfl rfl) ?_
          refine WL.q rfl rfl rfl (QV.load pl47 rfl rfl (Own.cell 6 rfl rfl)) ?_
          refine WL.q rfl rfl rfl (QV.move rfl rfl) ?_
          obtain ⟨c120, hm121⟩ := ck_some hm119; clear hm119
          obtain ⟨p122, hp123⟩ := h_l_body.lenMap.ix (sz := 9) ln_len c120
          refine WL.q rfl rfl rfl (QV.indexSlice sl47 rfl rfl rfl rfl hp123) ?_
          refine WL.q rfl rfl rfl (QV.loadAgg ag59 rfl rfl rfl (fun w hw => ((Own.karr 7 rfl hk h_l_body) w hw).ele hp123 c120)) ?_
          refine WL.effect rfl ?_
          refine (EV.alloc (by decide) ze59 (fun b124 => ?_))
          refine WL.effect rfl ?_
          refine (EV.store 0 rfl rfl rfl rfl rfl rfl (vs := [.int .i64 ((ele l.body i12_1).op), .int .i64 (((ele l.body i12_1).a).st), .int .i64 (((ele l.body i12_1).a).bk), .int .i64 (((ele l.body i12_1).b).st), .int .i64 (((ele l.body i12_1).b).bk), .int .i64 ((ele l.body i12_1).ar), .int .i64 ((ele l.body i12_1).sp), .int .i64 ((ele l.body i12_1).pl), .int .i64 ((ele l.body i12_1).n)]) (show Value.cells _ = List.toArray _ from rfl) sz59 (Nat.le_of_ble_eq_true rfl) (one_cons rfl (one_cons rfl (one_cons rfl (one_cons rfl (one_cons rfl (one_cons rfl (one_cons rfl (one_cons rfl (one_cons rfl one_nil))))))))) ?_)
          refine WL.nil ?_
          refine WQ.then ?_
          refine WC.seq ?_
          refine WC.dr (m := 17) (S := Own M w [kn M w.heap.size K0 K0, blk b124 [.int .i64 ((ele l.body i12_1).op), .int .i64 (((ele l.body i12_1).a).st), .int .i64 (((ele l.body i12_1).a).bk), .int .i64 (((ele l.body i12_1).b).st), .int .i64 (((ele l.body i12_1).b).bk), .int .i64 ((ele l.body i12_1).ar), .int .i64 ((ele l.body i12_1).sp), .int .i64 ((ele l.body i12_1).pl), .int .i64 ((ele l.body i12_1).n)] 59, vec uv13_1 45 10 (List.map Opr.cells v13_1), blk b12 [.int .i64 p.pace, .int .i64 b12c1_1, uv13_1] 27, blk b5 [.int .i64 0, .int .i64 0, .slice none 0 0] 27, blk b4 [.int .i64 0, .int .i64 0, .slice none 0 0] 27, blk b3 [.int .i64 p.pace, v_p_times] 63, blk b2 [.int .i64 t.u0, .int .i64 t.u1, .int .i64 t.u2, .int .i64 t.w0, .int .i64 t.w1, .int .i64 t.w2, .int .i64 t.regs] 24, blk b1 [v_l_logs, v_l_body, v_l_outs] 49]) (by kernel_rfl) (by kernel_rfl) (fun w hw => hw.pick [8, 0, 1, 2, 3, 4, 5, 6, 7] (by decide)) ?_
          refine WD.q 0 rfl (by kernel_rfl) rfl rfl rfl (QV.fieldAddr fd59_0 rfl rfl) ?_
          refine WD.q 1 rfl (by kernel_rfl) rfl rfl rfl (QV.load pl3 rfl rfl (Own.cell 1 rfl rfl)) ?_
          refine WD.q 2 rfl (by kernel_rfl) rfl rfl rfl (QV.move rfl rfl) ?_
          refine WD.q 3 rfl (by kernel_rfl) rfl rfl rfl (QV.move rfl rfl) ?_
          obtain ⟨c125, hm126⟩ := ck_some hm121; clear hm121
          obtain ⟨p127, hp128⟩ := h_dests.lenMap.ix (sz := 1) ln_len c125
          refine WD.q 4 rfl (by kernel_rfl) rfl rfl rfl (QV.indexSlice sl30 rfl rfl rfl rfl hp128) ?_
          refine WD.q 5 rfl (by kernel_rfl) rfl rfl rfl (QV.load pl3 rfl rfl (fun w hw => CellsAt.one 0 (((Own.karr 0 rfl hk h_dests) w hw).ele hp128 c125) rfl)) ?_
          refine WD.q 6 rfl (by kernel_rfl) rfl rfl rfl (QV.fieldAddr fd59_3 rfl rfl) ?_
          refine WD.q 7 rfl (by kernel_rfl) rfl rfl rfl (QV.load pl3 rfl rfl (Own.cell 1 rfl rfl)) ?_
          refine WD.q 8 rfl (by kernel_rfl) rfl rfl rfl (QV.fieldAddr fd59_4 rfl rfl) ?_
          refine WD.q 9 rfl (by kernel_rfl) rfl rfl rfl (QV.load pl3 rfl rfl (Own.cell 1 rfl rfl)) ?_
          refine WD.q 10 rfl (by kernel_rfl) rfl rfl rfl (QV.fieldAddr fd59_5 rfl rfl) ?_
          refine WD.q 11 rfl (by kernel_rfl) rfl rfl rfl (QV.load pl3 rfl rfl (Own.cell 1 rfl rfl)) ?_
          refine WD.q 12 rfl (by kernel_rfl) rfl rfl rfl (QV.fieldAddr fd59_6 rfl rfl) ?_
          refine WD.q 13 rfl (by kernel_rfl) rfl rfl rfl (QV.load pl2 rfl rfl (Own.cell 1 rfl rfl)) ?_
          refine WD.q 14 rfl (by kernel_rfl) rfl rfl rfl (QV.build (ps := [(2, .tmp 65), (3, .tmp 69), (6, .tmp 71), (7, .tmp 73), (8, .tmp 75), (9, .tmp 77)]) (cells := [.int .i64 0, .int .i64 0, .int .i64 ((ele l.body i12_1).op), .int .i64 (ele dests i12_1), .int .i64 0, .int .i64 0, .int .i64 ((ele l.body i12_1).ar), .int .i64 ((ele l.body i12_1).sp), .int .i64 ((ele l.body i12_1).pl), .int .i64 ((ele l.body i12_1).n)]) (EvAll.cons rfl rfl (EvAll.cons rfl rfl (EvAll.cons rfl rfl (EvAll.cons rfl rfl (EvAll.cons rfl rfl (EvAll.cons rfl rfl EvAll.nil)))))) (by kernel_rfl)) ?_
          refine WD.o 15 rfl (by kernel_rfl) rfl ?_
          refine (EV.alloc (by decide) ze45 (fun b129 => ?_))
          refine WD.b (H' := [kn M w.heap.size K0 K0, blk b129 [.int .i64 0, .int .i64 0, .int .i64 0, .int .i64 0, .int .i64 0, .int .i64 0, .int .i64 0, .int .i64 0, .int .i64 0, .int .i64 0] 45, blk b124 [.int .i64 ((ele l.body i12_1).op), .int .i64 (((ele l.body i12_1).a).st), .int .i64 (((ele l.body i12_1).a).bk), .int .i64 (((ele l.body i12_1).b).st), .int .i64 (((ele l.body i12_1).b).bk), .int .i64 ((ele l.body i12_1).ar), .int .i64 ((ele l.body i12_1).sp), .int .i64 ((ele l.body i12_1).pl), .int .i64 ((ele l.body i12_1).n)] 59, vec uv13_1 45 10 (List.map Opr.cells v13_1), blk b12 [.int .i64 p.pace, .int .i64 b12c1_1, uv13_1] 27, blk b5 [.int .i64 0, .int .i64 0, .slice none 0 0] 27, blk b4 [.int .i64 0, .int .i64 0, .slice none 0 0] 27, blk b3 [.int .i64 p.pace, v_p_times] 63, blk b2 [.int .i64 t.u0, .int .i64 t.u1, .int .i64 t.u2, .int .i64 t.w0, .int .i64 t.w1, .int .i64 t.w2, .int .i64 t.regs] 24, blk b1 [v_l_logs, v_l_body, v_l_outs] 49]) (fun w hw => hw.pick [9, 0, 1, 2, 3, 4, 5, 6, 7, 8] (by decide)) (fun w hw => hw.pick [0, 2, 3, 4, 5, 6, 7, 8, 9] (by decide)) ?_
          refine WD.l 16 rfl (by kernel_rfl) rfl ?_
          refine (EV.store 0 rfl rfl rfl rfl rfl rfl (vs := [.int .i64 0, .int .i64 0, .int .i64 ((ele l.body i12_1).op), .int .i64 (ele dests i12_1), .int .i64 0, .int .i64 0, .int .i64 ((ele l.body i12_1).ar), .int .i64 ((ele l.body i12_1).sp), .int .i64 ((ele l.body i12_1).pl), .int .i64 ((ele l.body i12_1).n)]) (show Value.cells _ = List.toArray _ from rfl) sz45 (Nat.le_of_ble_eq_true rfl) (one_cons rfl (one_cons rfl (one_cons rfl (one_cons rfl (one_cons rfl (one_cons rfl (one_cons rfl (one_cons rfl (one_cons rfl (one_cons rfl one_nil)))))))))) ?_)
          refine WQ.then ?_
          refine WC.seq ?_
          refine WC.dr (m := 10) (S := Own M w [kn M w.heap.size K0 K0, blk b129 [.int .i64 0, .int .i64 0, .int .i64 ((ele l.body i12_1).op), .int .i64 (ele dests i12_1), .int .i64 0, .int .i64 0, .int .i64 ((ele l.body i12_1).ar), .int .i64 ((ele l.body i12_1).sp), .int .i64 ((ele l.body i12_1).pl), .int .i64 ((ele l.body i12_1).n)] 45, blk b124 [.int .i64 ((ele l.body i12_1).op), .int .i64 (((ele l.body i12_1).a).st), .int .i64 (((ele l.body i12_1).a).bk), .int .i64 (((ele l.body i12_1).b).st), .int .i64 (((ele l.body i12_1).b).bk), .int .i64 ((ele l.body i12_1).ar), .int .i64 ((ele l.body i12_1).sp), .int .i64 ((ele l.body i12_1).pl), .int .i64 ((ele l.body i12_1).n)] 59, vec uv13_1 45 10 (List.map Opr.cells v13_1), blk b12 [.int .i64 p.pace, .int .i64 b12c1_1, uv13_1] 27, blk b5 [.int .i64 0, .int .i64 0, .slice none 0 0] 27, blk b4 [.int .i64 0, .int .i64 0, .slice none 0 0] 27, blk b3 [.int .i64 p.pace, v_p_times] 63, blk b2 [.int .i64 t.u0, .int .i64 t.u1, .int .i64 t.u2, .int .i64 t.w0, .int .i64 t.w1, .int .i64 t.w2, .int .i64 t.regs] 24, blk b1 [v_l_logs, v_l_body, v_l_outs] 49]) (by kernel_rfl) (by kernel_rfl) (fun w hw => hw.pick [9, 0, 1, 2, 3, 4, 5, 6, 7, 8] (by decide)) ?_
          refine WD.q 0 rfl (by kernel_rfl) rfl rfl rfl (QV.fieldAddr fd63_1 rfl rfl) ?_
          refine WD.q 1 rfl (by kernel_rfl) rfl rfl rfl (QV.load pl30 rfl rfl (Own.cell 7 rfl rfl)) ?_
          refine WD.q 2 rfl (by kernel_rfl) rfl rfl rfl (QV.move rfl rfl) ?_
          obtain ⟨c130, hm131⟩ := ck_some hm126; clear hm126
          obtain ⟨p132, hp133⟩ := h_p_times.lenMap.ix (sz := 1) ln_len c130
          refine WD.q 3 rfl (by kernel_rfl) rfl rfl rfl (QV.indexSlice sl30 rfl rfl rfl rfl hp133) ?_
          refine WD.q 4 rfl (by kernel_rfl) rfl rfl rfl (QV.load pl3 rfl rfl (fun w hw => CellsAt.one 0 (((Own.karr 0 rfl hk h_p_times) w hw).ele hp133 c130) rfl)) ?_
          refine WD.q 5 rfl (by kernel_rfl) rfl rfl rfl (QV.fieldAddr fd63_0 rfl rfl) ?_
          refine WD.q 6 rfl (by kernel_rfl) rfl rfl rfl (QV.load pl3 rfl rfl (Own.cell 7 rfl rfl)) ?_
          obtain ⟨c134, hm135⟩ := ck_some hm131; clear hm131
          refine WD.q 7 rfl (by kernel_rfl) rfl rfl rfl (QV.rem rfl rfl rfl rfl c134) ?_
          refine WD.q 8 rfl (by kernel_rfl) rfl rfl rfl (QV.fieldAddr fd45_0 rfl rfl) ?_
          refine WD.l 9 rfl (by kernel_rfl) rfl ?_
          refine (EV.store 0 rfl rfl rfl rfl rfl rfl (vs := [.int .i64 (Int.tmod (ele p.times i12_1) p.pace)]) (show Value.cells _ = List.toArray _ from rfl) sz3 (Nat.le_of_ble_eq_true rfl) (one_cons rfl one_nil) ?_)
          refine WQ.then ?_
          refine WC.seq ?_
          refine WC.dr (m := 13) (S := Own M w [kn M w.heap.size K0 K0, blk b129 [.int .i64 (Int.tmod (ele p.times i12_1) p.pace), .int .i64 0, .int .i64 ((ele l.body i12_1).op), .int .i64 (ele dests i12_1), .int .i64 0, .int .i64 0, .int .i64 ((ele l.body i12_1).ar), .int .i64 ((ele l.body i12_1).sp), .int .i64 ((ele l.body i12_1).pl), .int .i64 ((ele l.body i12_1).n)] 45, blk b124 [.int .i64 ((ele l.body i12_1).op), .int .i64 (((ele l.body i12_1).a).st), .int .i64 (((ele l.body i12_1).a).bk), .int .i64 (((ele l.body i12_1).b).st), .int .i64 (((ele l.body i12_1).b).bk), .int .i64 ((ele l.body i12_1).ar), .int .i64 ((ele l.body i12_1).sp), .int .i64 ((ele l.body i12_1).pl), .int .i64 ((ele l.body i12_1).n)] 59, vec uv13_1 45 10 (List.map Opr.cells v13_1), blk b12 [.int .i64 p.pace, .int .i64 b12c1_1, uv13_1] 27, blk b5 [.int .i64 0, .int .i64 0, .slice none 0 0] 27, blk b4 [.int .i64 0, .int .i64 0, .slice none 0 0] 27, blk b3 [.int .i64 p.pace, v_p_times] 63, blk b2 [.int .i64 t.u0, .int .i64 t.u1, .int .i64 t.u2, .int .i64 t.w0, .int .i64 t.w1, .int .i64 t.w2, .int .i64 t.regs] 24, blk b1 [v_l_logs, v_l_body, v_l_outs] 49]) (by kernel_rfl) (by kernel_rfl) (fun w hw => hw.pick [9, 0, 1, 2, 3, 4, 5, 6, 7, 8] (by decide)) ?_
          refine WD.q 0 rfl (by kernel_rfl) rfl rfl rfl (QV.fieldAddr fd63_1 rfl rfl) ?_
          refine WD.q 1 rfl (by kernel_rfl) rfl rfl rfl (QV.load pl30 rfl rfl (Own.cell 7 rfl rfl)) ?_
          refine WD.q 2 rfl (by kernel_rfl) rfl rfl rfl (QV.move rfl rfl) ?_
          obtain ⟨c136, hm137⟩ := ck_some hm135; clear hm135
          obtain ⟨p138, hp139⟩ := h_p_times.lenMap.ix (sz := 1) ln_len c136
          refine WD.q 3 rfl (by kernel_rfl) rfl rfl rfl (QV.indexSlice sl30 rfl rfl rfl rfl hp139) ?_
          refine WD.q 4 rfl (by kernel_rfl) rfl rfl rfl (QV.load pl3 rfl rfl (fun w hw => CellsAt.one 0 (((Own.karr 0 rfl hk h_p_times) w hw).ele hp139 c136) rfl)) ?_
          refine WD.q 5 rfl (by kernel_rfl) rfl rfl rfl (QV.fieldAddr fd45_0 rfl rfl) ?_
          refine WD.q 6 rfl (by kernel_rfl) rfl rfl rfl (QV.load pl3 rfl rfl (Own.cell 1 rfl rfl)) ?_
          obtain ⟨c140, hm141⟩ := ck_some hm137; clear hm137
          refine WD.q 7 rfl (by kernel_rfl) rfl rfl rfl (QV.sub rfl rfl rfl rfl c140) ?_
          refine WD.q 8 rfl (by kernel_rfl) rfl rfl rfl (QV.fieldAddr fd63_0 rfl rfl) ?_
          refine WD.q 9 rfl (by kernel_rfl) rfl rfl rfl (QV.load pl3 rfl rfl (Own.cell 7 rfl rfl)) ?_
          obtain ⟨c142, hm143⟩ := ck_some hm141; clear hm141
          obtain ⟨c144, hm145⟩ := ck_some hm143; clear hm143
          refine WD.q 10 rfl (by kernel_rfl) rfl rfl rfl (QV.quo rfl rfl rfl rfl c142 c144) ?_
          refine WD.q 11 rfl (by kernel_rfl) rfl rfl rfl (QV.fieldAddr fd45_1 rfl rfl) ?_
          refine WD.l 12 rfl (by kernel_rfl) rfl ?_
          refine (EV.store 0 rfl rfl rfl rfl rfl rfl (vs := [.int .i64 (Int.tdiv ((ele p.times i12_1) - (Int.tmod (ele p.times i12_1) p.pace)) p.pace)]) (show Value.cells _ = List.toArray _ from rfl) sz3 (Nat.le_of_ble_eq_true rfl) (one_cons rfl one_nil) ?_)
          refine WQ.then ?_
          refine WC.seq ?_
          refine WC.seq ?_
          refine WC.region ?_
          refine WL.q rfl rfl rfl (QV.fieldAddr fd45_1 rfl rfl) ?_
          refine WL.q rfl rfl rfl (QV.load pl3 rfl rfl (Own.cell 0 rfl rfl)) ?_
          refine WL.q rfl rfl rfl (QV.fieldAddr fd27_1 rfl rfl) ?_
          refine WL.q rfl rfl rfl (QV.load pl3 rfl rfl (Own.cell 3 rfl rfl)) ?_
          refine WL.q rfl rfl rfl (QV.geq rfl rfl rfl rfl) ?_
          refine WL.nil ?_
          refine WQ.then ?_
          refine WC.cond rfl (fun h146 => ?_) (fun h146 => ?_)
          · skip
            have hm147 := br_t h146 hm145; clear hm145
            refine WC.region ?_
            refine WL.q rfl rfl rfl (QV.fieldAddr fd45_1 rfl rfl) ?_
            refine WL.q rfl rfl rfl (QV.load pl3 rfl rfl (Own.cell 0 rfl rfl)) ?_
            obtain ⟨c148, hm149⟩ := ck_some hm147; clear hm147
            refine WL.q rfl rfl rfl (QV.add rfl rfl rfl rfl c148) ?_
            refine WL.q rfl rfl rfl (QV.fieldAddr fd27_1 rfl rfl) ?_
            refine WL.effect rfl ?_
            refine (EV.store 3 rfl rfl rfl rfl rfl rfl (vs := [.int .i64 ((Int.tdiv ((ele p.times i12_1) - (Int.tmod (ele p.times i12_1) p.pace)) p.pace) + 1)]) (show Value.cells _ = List.toArray _ from rfl) sz3 (Nat.le_of_ble_eq_true rfl) (one_cons rfl one_nil) ?_)
            refine WL.nil ?_
            refine WQ.then ?_
            refine WC.region ?_
            refine WL.q rfl rfl rfl (QV.fieldAddr fd27_2 rfl rfl) ?_
            refine WL.q rfl rfl rfl (QV.load pl25 rfl rfl (Own.cell 3 rfl rfl)) ?_
            refine WL.q rfl rfl rfl (QV.loadAgg ag45 rfl rfl rfl (Own.cellsBlk 0 rfl)) ?_
            refine WL.effect rfl ?_
            refine (EV.buildSlice (by decide) sz_25 (by decide) (by decide) (ps := [(0, .tmp 111)]) (cells := [.int .i64 (Int.tmod (ele p.times i12_1) p.pace), .int .i64 (Int.tdiv ((ele p.times i12_1) - (Int.tmod (ele p.times i12_1) p.pace)) p.pace), .int .i64 ((ele l.body i12_1).op), .int .i64 (ele dests i12_1), .int .i64 0, .int .i64 0, .int .i64 ((ele l.body i12_1).ar), .int .i64 ((ele l.body i12_1).sp), .int .i64 ((ele l.body i12_1).pl), .int .i64 ((ele l.body i12_1).n)]) (EvAll.cons rfl rfl EvAll.nil) (by kernel_rfl) (fun b150 => ?_))
            refine WL.effect rfl ?_
            obtain ⟨c151, hm152⟩ := ck_some hm149; clear hm149
            refine (EV.appendL (enc := Opr.cells) (xs := v13_1) (ys := [(Opr.mk (Int.tmod (ele p.times i12_1) p.pace) (Int.tdiv ((ele p.times i12_1) - (Int.tmod (ele p.times i12_1) p.pace)) p.pace) ((ele l.body i12_1).op) (ele dests i12_1) 0 0 ((ele l.body i12_1).ar) ((ele l.body i12_1).sp) ((ele l.body i12_1).pl) ((ele l.body i12_1).n))]) ((v13_1 ++ [(Opr.mk (Int.tmod (ele p.times i12_1) p.pace) (Int.tdiv ((ele p.times i12_1) - (Int.tmod (ele p.times i12_1) p.pace)) p.pace) ((ele l.body i12_1).op) (ele dests i12_1) 0 0 ((ele l.body i12_1).ar) ((ele l.body i12_1).sp) ((ele l.body i12_1).pl) ((ele l.body i12_1).n))])) 3 (by decide) ve25 rfl rfl rfl rfl rfl (Own.blkArr 0 (rows := [(Opr.mk (Int.tmod (ele p.times i12_1) p.pace) (Int.tdiv ((ele p.times i12_1) - (Int.tmod (ele p.times i12_1) p.pace)) p.pace) ((ele l.body i12_1).op) (ele dests i12_1) 0 0 ((ele l.body i12_1).ar) ((ele l.body i12_1).sp) ((ele l.body i12_1).pl) ((ele l.body i12_1).n))].map Opr.cells) rfl rfl (rows_len Opr.cells_len)) Opr.cells_len (Opr.cells_one _) rfl c151.1 c151.2 (fun u153 hu154 => ?_))
            refine WL.q rfl rfl rfl (QV.fieldAddr fd27_2 rfl rfl) ?_
            refine WL.effect rfl ?_
            refine (EV.store 4 rfl rfl rfl rfl rfl rfl (vs := [u153]) (SliceLen.cells hu154) sz25 (Nat.le_of_ble_eq_true rfl) (one_cons (SliceLen.one hu154) one_nil) ?_)
            refine WL.nil ?_
            refine WQ.block ?_
            refine WQ.then ?_
            refine WC.region ?_
            refine WL.q rfl rfl rfl (QV.move rfl rfl) ?_
            obtain ⟨c155, hm156⟩ := ck_some hm152; clear hm152
            refine WL.q rfl rfl rfl (QV.add rfl rfl rfl rfl c155) ?_
            refine WL.q rfl rfl rfl (QV.assign rfl rfl) ?_
            refine WL.nil ?_
            exact WQ.again4 (v13_1 ++ [(Opr.mk (Int.tmod (ele p.times i12_1) p.pace) (Int.tdiv ((ele p.times i12_1) - (Int.tmod (ele p.times i12_1) p.pace)) p.pace) ((ele l.body i12_1).op) (ele dests i12_1) 0 0 ((ele l.body i12_1).ar) ((ele l.body i12_1).sp) ((ele l.body i12_1).pl) ((ele l.body i12_1).n))]) ((Int.tdiv ((ele p.times i12_1) - (Int.tmod (ele p.times i12_1) p.pace)) p.pace) + 1) (i12_1 + 1) u153 m103 ⟨up_next hm156 hn106, hu154⟩ (Nat.lt_succ_self _) ⟨rfl, rfl, rfl, rfl, rfl, rfl, rfl, rfl, trivial⟩ (fun w hw => hw.pick [3, 4, 5, 6, 7, 8, 9, 10] (by decide))
          · skip
            have hm157 := br_f h146 hm145; clear hm145
            refine WC.skip ?_
            refine WQ.then ?_
            refine WC.region ?_
            refine WL.q rfl rfl rfl (QV.fieldAddr fd27_2 rfl rfl) ?_
            refine WL.q rfl rfl rfl (QV.load pl25 rfl rfl (Own.cell 3 rfl rfl)) ?_
            refine WL.q rfl rfl rfl (QV.loadAgg ag45 rfl rfl rfl (Own.cellsBlk 0 rfl)) ?_
            refine WL.effect rfl ?_
            refine (EV.buildSlice (by decide) sz_25 (by decide) (by decide) (ps := [(0, .tmp 111)]) (cells := [.int .i64 (Int.tmod (ele p.times i12_1) p.pace), .int .i64 (Int.tdiv ((ele p.times i12_1) - (Int.tmod (ele p.times i12_1) p.pace)) p.pace), .int .i64 ((ele l.body i12_1).op), .int .i64 (ele dests i12_1), .int .i64 0, .int .i64 0, .int .i64 ((ele l.body i12_1).ar), .int .i64 ((ele l.body i12_1).sp), .int .i64 ((ele l.body i12_1).pl), .int .i64 ((ele l.body i12_1).n)]) (EvAll.cons rfl rfl EvAll.nil) (by kernel_rfl) (fun b158 => ?_))
            refine WL.effect rfl ?_
            obtain ⟨c159, hm160⟩ := ck_some hm157; clear hm157
            refine (EV.appendL (enc := Opr.cells) (xs := v13_1) (ys := [(Opr.mk (Int.tmod (ele p.times i12_1) p.pace) (Int.tdiv ((ele p.times i12_1) - (Int.tmod (ele p.times i12_1) p.pace)) p.pace) ((ele l.body i12_1).op) (ele dests i12_1) 0 0 ((ele l.body i12_1).ar) ((ele l.body i12_1).sp) ((ele l.body i12_1).pl) ((ele l.body i12_1).n))]) ((v13_1 ++ [(Opr.mk (Int.tmod (ele p.times i12_1) p.pace) (Int.tdiv ((ele p.times i12_1) - (Int.tmod (ele p.times i12_1) p.pace)) p.pace) ((ele l.body i12_1).op) (ele dests i12_1) 0 0 ((ele l.body i12_1).ar) ((ele l.body i12_1).sp) ((ele l.body i12_1).pl) ((ele l.body i12_1).n))])) 3 (by decide) ve25 rfl rfl rfl rfl rfl (Own.blkArr 0 (rows := [(Opr.mk (Int.tmod (ele p.times i12_1) p.pace) (Int.tdiv ((ele p.times i12_1) - (Int.tmod (ele p.times i12_1) p.pace)) p.pace) ((ele l.body i12_1).op) (ele dests i12_1) 0 0 ((ele l.body i12_1).ar) ((ele l.body i12_1).sp) ((ele l.body i12_1).pl) ((ele l.body i12_1).n))].map Opr.cells) rfl rfl (rows_len Opr.cells_len)) Opr.cells_len (Opr.cells_one _) rfl c159.1 c159.2 (fun u161 hu162 => ?_))
            refine WL.q rfl rfl rfl (QV.fieldAddr fd27_2 rfl rfl) ?_
            refine WL.effect rfl ?_
            refine (EV.store 4 rfl rfl rfl rfl rfl rfl (vs := [u161]) (SliceLen.cells hu162) sz25 (Nat.le_of_ble_eq_true rfl) (one_cons (SliceLen.one hu162) one_nil) ?_)
            refine WL.nil ?_
            refine WQ.block ?_
            refine WQ.then ?_
            refine WC.region ?_
            refine WL.q rfl rfl rfl (QV.move rfl rfl) ?_
            obtain ⟨c163, hm164⟩ := ck_some hm160; clear hm160
            refine WL.q rfl rfl rfl (QV.add rfl rfl rfl rfl c163) ?_
            refine WL.q rfl rfl rfl (QV.assign rfl rfl) ?_
            refine WL.nil ?_
            exact WQ.again4 (v13_1 ++ [(Opr.mk (Int.tmod (ele p.times i12_1) p.pace) (Int.tdiv ((ele p.times i12_1) - (Int.tmod (ele p.times i12_1) p.pace)) p.pace) ((ele l.body i12_1).op) (ele dests i12_1) 0 0 ((ele l.body i12_1).ar) ((ele l.body i12_1).sp) ((ele l.body i12_1).pl) ((ele l.body i12_1).n))]) b12c1_1 (i12_1 + 1) u161 m103 ⟨up_next hm164 hn106, hu162⟩ (Nat.lt_succ_self _) ⟨rfl, rfl, rfl, rfl, rfl, rfl, rfl, rfl, trivial⟩ (fun w hw => hw.pick [3, 4, 5, 6, 7, 8, 9, 10] (by decide))
      · skip
        have hm165 := br_f h107 hm105; clear hm105
        refine WC.exit ?_
        refine WQ.then_exit ?_
        refine WQ.then_exit ?_
        refine WQ.block_exit ?_
        exact WQ.out4 v13_1 b12c1_1 i12_1 uv13_1 ⟨up_brk hm165 hn106, hlv13_1⟩ ⟨rfl, rfl, rfl, rfl, rfl, rfl, rfl, rfl, trivial⟩ (fun w hw => hw.pick [0, 1, 2, 3, 4, 5, 6, 7] (by decide))
end Go.Proofs.Ytaimbkndebaaiab
end

section
namespace Go.Proofs.Ytaimbkndebaaiab
open Go.Rd
set_option linter.unusedVariables false
namespace TLawRegs
theorem ag24 : AggT Try.prog 24 7 := ⟨_, Try.underlying24, rfl, by kernel_rfl⟩
theorem ag27 : AggT Try.prog 27 3 := ⟨_, Try.underlying27, rfl, by kernel_rfl⟩
theorem ag49 : AggT Try.prog 49 3 := ⟨_, Try.underlying49, rfl, by kernel_rfl⟩
theorem ag63 : AggT Try.prog 63 2 := ⟨_, Try.underlying63, rfl, by kernel_rfl⟩
theorem en28 : Go.Rd.Enters Try.prog 28 := ⟨Try.f28, Try.func28, by kernel_rfl, by kernel_rfl⟩
theorem en33 : Go.Rd.Enters Try.prog 33 := ⟨Try.f33, Try.func33, by kernel_rfl, by kernel_rfl⟩
theorem en37 : Go.Rd.Enters Try.prog 37 := ⟨Try.f37, Try.func37, by kernel_rfl, by kernel_rfl⟩
theorem en38 : Go.Rd.Enters Try.prog 38 := ⟨Try.f38, Try.func38, by kernel_rfl, by kernel_rfl⟩
theorem en39 : Go.Rd.Enters Try.prog 39 := ⟨Try.f39, Try.func39, by kernel_rfl, by kernel_rfl⟩
theorem en40 : Go.Rd.Enters Try.prog 40 := ⟨Try.f40, Try.func40, by kernel_rfl, by kernel_rfl⟩
theorem en78 : Go.Rd.Enters Try.prog 78 := ⟨Try.f78, Try.func78, by kernel_rfl, by kernel_rfl⟩
theorem fd24_2 : FieldT Try.prog 24 2 6 := ⟨_, _, 0, Try.underlying24, rfl, rfl, by kernel_rfl⟩
theorem fd49_1 : FieldT Try.prog 49 1 1 := ⟨_, _, 0, Try.underlying49, rfl, rfl, by kernel_rfl⟩
theorem fd59_0 : FieldT Try.prog 59 0 0 := ⟨_, _, 0, Try.underlying59, rfl, rfl, by kernel_rfl⟩
theorem fd63_0 : FieldT Try.prog 63 0 0 := ⟨_, _, 0, Try.underlying63, rfl, rfl, by kernel_rfl⟩
theorem fd63_1 : FieldT Try.prog 63 1 1 := ⟨_, _, 0, Try.underlying63, rfl, rfl, by kernel_rfl⟩
theorem pl3 : Plain Try.prog 3 := ⟨_, Try.underlying3, rfl⟩
theorem pl30 : Plain Try.prog 30 := ⟨_, Try.underlying30, rfl⟩
theorem pl47 : Plain Try.prog 47 := ⟨_, Try.underlying47, rfl⟩
theorem sl30 : SliceT Try.prog 30 3 1 := ⟨Try.underlying30, by kernel_rfl⟩
theorem sl47 : SliceT Try.prog 47 59 9 := ⟨Try.underlying47, by kernel_rfl⟩
theorem sz27 : SizeT Try.prog 27 3 := by unfold SizeT; kernel_rfl
theorem sz_30 : SliceZ Try.prog 30 3 1 [.int .i64 0] := ⟨Try.underlying30, by kernel_rfl⟩
theorem ve30 : VecT Try.prog 30 3 1 8 := ⟨Try.underlying30, by kernel_rfl, by decide⟩
theorem ze27 : ZeroT Try.prog 27 [.int .i64 0, .int .i64 0, .slice none 0 0] := by unfold ZeroT; kernel_rfl
end TLawRegs
open TLawRegs
set_option maxRecDepth 8000 in
theorem roundelaylaw_natural_w {n_ : Int} {r : List Int} {K0 : World} (hm : roundelaylaw_natural_m n_ = some r)  (M : Nat → Prop) (w : World) (hk : Base M K0 w) (hw0 : Own M w [] w) : Calls Try.prog 40 #[.int .i64 n_] w (fun e w' => ∃ X : Value × World, e = .returned (X.1) ∧ Own M w (kn M w.heap.size K0 X.2 :: []) w' ∧ Arr X.2 X.1 1 (r.map icell)) := by
  unfold roundelaylaw_natural_m at hm
  refine calls_of_WC (n := 15) (args := [.int .i64 n_]) Try.func40 rfl rfl (Nat.le_of_ble_eq_true rfl) ?_ (Own.startK hk hw0)
  refine WC.seq ?_
  refine WC.region ?_
  refine WL.q rfl rfl rfl (QV.assign rfl rfl) ?_
  refine WL.nil ?_
  refine WQ.then ?_
  refine WC.seq ?_
  refine WC.region ?_
  refine WL.q rfl rfl rfl (QV.assign rfl rfl) ?_
  refine WL.nil ?_
  refine WQ.then ?_
  refine WC.seq ?_
  refine WC.seq ?_
  refine WC.region ?_
  refine WL.q rfl rfl rfl (QV.assign rfl rfl) ?_
  refine WL.nil ?_
  refine WQ.then ?_
  refine WK.of (fun w hw => hw.vecNil (E := 3) (sz := 1) (enc := icell)) ?_
  obtain ⟨o2, ho3, hm4⟩ := bd_some hm; clear hm; obtain ⟨n5, ho6⟩ := lp_some ho3
  refine WC.bloop3 (H2 := [kn M w.heap.size K0 K0]) (τ := [(0, (true, _))]) (fun (v1_1 : List Int) (i4_1 : Int) (uv1_1 : Value) => [(3, (true, uv1_1)), (4, (true, .int .i64 i4_1))]) (fun (v1_1 : List Int) (i4_1 : Int) (uv1_1 : Value) => [vec uv1_1 3 1 (List.map icell v1_1)]) (fun (v1_1 : List Int) (i4_1 : Int) (uv1_1 : Value) (m : Nat) => iter (roundelaylaw_natural_L0 n_) m (v1_1, i4_1) = some o2 ∧ SliceLen uv1_1 v1_1.length) (fun (v1_1 : List Int) (i4_1 : Int) (uv1_1 : Value) => o2 = .go (v1_1, i4_1) ∧ SliceLen uv1_1 v1_1.length) [] 0 (.slice none 0 0) n5 ⟨ho6, SliceLen.nil⟩ ⟨rfl, rfl, rfl, trivial⟩ (fun w hw => hw.pick [0, 1] (by decide)) ?_ ?_
  · skip
    rintro v1_1 i4_1 uv1_1 ⟨rfl, hlv1_1⟩
    refine WQ.then ?_
    refine WC.seq ?_
    refine WC.region ?_
    refine WL.q rfl rfl rfl (QV.move rfl rfl) ?_
    refine WL.q rfl rfl rfl (QV.assign rfl rfl) ?_
    refine WL.nil ?_
    refine WQ.then ?_
    refine WC.ret ?_
    obtain rfl := (eq_of_some hm4).symm
    refine WK.of (C' := Own M w [kn M w.heap.size K0 K0, vec uv1_1 3 1 (List.map icell v1_1)]) (fun w hw => hw.pick [1, 0] (by decide)) ?_
    refine WK.freeze hk (fun k7 hle7 hr7 => ?_)
    have hA7 := vec_arr hr7
    refine WQ.ret1 rfl rfl (fun w hw => ?_)
    exact ⟨(uv1_1, k7), rfl, hw.pick [0] (by decide), hA7⟩
  · skip
    rintro v1_1 i4_1 uv1_1 m8 ⟨hI9, hlv1_1⟩
    obtain ⟨m10, s11, rfl, hm12, hn13⟩ := iter_step hI9; clear hI9; unfold roundelaylaw_natural_L0 at hm12; simp only at hm12
    refine WC.seq ?_
    refine WC.seq ?_
    refine WC.region ?_
    refine WL.q rfl rfl rfl (QV.move rfl rfl) ?_
    refine WL.q rfl rfl rfl (QV.move rfl rfl) ?_
    refine WL.q rfl rfl rfl (QV.lss rfl rfl rfl rfl) ?_
    refine WL.nil ?_
    refine WQ.then ?_
    refine WC.cond rfl (fun h14 => ?_) (fun h14 => ?_)
    · skip
      have hm15 := br_t h14 hm12; clear hm12
      refine WC.skip ?_
      refine WQ.then ?_
      refine WC.seq ?_
      refine WC.block ?_
      refine WC.region ?_
      refine WL.q rfl rfl rfl (QV.move rfl rfl) ?_
      refine WL.q rfl rfl rfl (QV.move rfl rfl) ?_
      refine WL.effect rfl ?_
      refine (EV.buildSlice (by decide) sz_30 (by decide) (by decide) (ps := [(0, .tmp 11)]) (cells := [.int .i64 i4_1]) (EvAll.cons rfl rfl EvAll.nil) (by kernel_rfl) (fun b16 => ?_))
      refine WL.effect rfl ?_
      obtain ⟨c17, hm18⟩ := ck_some hm15; clear hm15
      refine (EV.appendL (enc := icell) (xs := v1_1) (ys := [i4_1]) ((v1_1 ++ [i4_1])) 1 (by decide) ve30 rfl rfl rfl rfl rfl (Own.blkArr 0 (rows := [i4_1].map icell) rfl rfl (rows_len icell_len)) icell_len (icell_one _) rfl c17.1 c17.2 (fun u19 hu20 => ?_))
      refine WL.q rfl rfl rfl (QV.assign rfl rfl) ?_
      refine WL.nil ?_
      refine WQ.block ?_
      refine WQ.then ?_
      refine WC.region ?_
      refine WL.q rfl rfl rfl (QV.move rfl rfl) ?_
      obtain ⟨c21, hm22⟩ := ck_some hm18; clear hm18
      refine WL.q rfl rfl rfl (QV.add rfl rfl rfl rfl c21) ?_
      refine WL.q rfl rfl rfl (QV.assign rfl rfl) ?_
      refine WL.nil ?_
      exact WQ.again3 (v1_1 ++ [i4_1]) (i4_1 + 1) u19 m10 ⟨up_next hm22 hn13, hu20⟩ (Nat.lt_succ_self _) ⟨rfl, rfl, rfl, trivial⟩ (fun w hw => hw.pick [1, 2] (by decide))
    · skip
      have hm23 := br_f h14 hm12; clear hm12
      refine WC.exit ?_
      refine WQ.then_exit ?_
      refine WQ.then_exit ?_
      refine WQ.block_exit ?_
      exact WQ.out3 v1_1 i4_1 uv1_1 ⟨up_brk hm23 hn13, hlv1_1⟩ ⟨rfl, rfl, rfl, trivial⟩ (fun w hw => hw.pick [0, 1] (by decide))

set_option maxRecDepth 8000 in
theorem roundelaylaw_over_w {v_l_logs : Value} {v_l_body : Value} {v_l_outs : Value} {v_p_times : Value} {l : Lp} {t : Tgt} {p : Pln} {r : Bool} (w : World) (hm : roundelaylaw_over_m l t p = some r) (h_l_logs : Arr w v_l_logs 1 (l.logs.map icell)) (h_l_body : Arr w v_l_body 9 (l.body.map Stm.cells)) (h_l_outs : Arr w v_l_outs 1 (l.outs.map icell)) (h_p_times : Arr w v_p_times 1 (p.times.map icell)) : Calls Try.prog 38 #[.agg #[v_l_logs, v_l_body, v_l_outs], .agg #[.int .i64 t.u0, .int .i64 t.u1, .int .i64 t.u2, .int .i64 t.w0, .int .i64 t.w1, .int .i64 t.w2, .int .i64 t.regs], .agg #[.int .i64 p.pace, v_p_times]] w (fun e w' => e = .returned (.bool r) ∧ Grow w w') := by
  unfold roundelaylaw_over_m at hm
  have hk := Base.rfl (w := w)
  refine calls_of_WC (n := 34) (args := [.agg #[v_l_logs, v_l_body, v_l_outs], .agg #[.int .i64 t.u0, .int .i64 t.u1, .int .i64 t.u2, .int .i64 t.w0, .int .i64 t.w1, .int .i64 t.w2, .int .i64 t.regs], .agg #[.int .i64 p.pace, v_p_times]]) Try.func38 rfl rfl (Nat.le_of_ble_eq_true rfl) ?_ (Own.startK hk (Own.start w))
  refine WC.seq ?_
  refine WC.region ?_
  refine WL.effect rfl ?_
  refine (EV.boxAgg (by decide) rfl rfl (fun b1 => ?_))
  refine WL.effect rfl ?_
  refine (EV.boxAgg (by decide) rfl rfl (fun b2 => ?_))
  refine WL.effect rfl ?_
  refine (EV.boxAgg (by decide) rfl rfl (fun b3 => ?_))
  refine WL.q rfl rfl rfl (QV.assign rfl rfl) ?_
  refine WL.nil ?_
  refine WQ.then ?_
  refine WC.seq ?_
  refine WC.seq ?_
  refine WC.region ?_
  refine WL.q rfl rfl rfl (QV.assign rfl rfl) ?_
  refine WL.nil ?_
  refine WQ.then ?_
  obtain ⟨o4, ho5, hm6⟩ := bd_some hm; clear hm; obtain ⟨n7, ho8⟩ := lp_some ho5
  refine WC.bloop1 (H2 := [blk b3 [.int .i64 p.pace, v_p_times] 63, blk b2 [.int .i64 t.u0, .int .i64 t.u1, .int .i64 t.u2, .int .i64 t.w0, .int .i64 t.w1, .int .i64 t.w2, .int .i64 t.regs] 24, blk b1 [v_l_logs, v_l_body, v_l_outs] 49, kn noM w.heap.size w w]) (τ := [(3, (true, _)), (4, (true, _)), (5, (true, _))]) (fun (i7_1 : Int) => [(7, (true, .int .i64 i7_1))]) (fun (i7_1 : Int) => []) (fun (i7_1 : Int) (m : Nat) => iter (roundelaylaw_over_L0 l t p) m i7_1 = some o4) (fun (i7_1 : Int) => o4 = .go i7_1) 0 n7 ho8 ⟨rfl, rfl, rfl, rfl, trivial⟩ (fun w hw => hw.pick [0, 1, 2, 3] (by decide)) ?_ ?_
  · skip
    rintro i7_1 rfl
    refine WQ.then ?_
    refine WC.seq ?_
    refine WC.region ?_
    refine WL.q rfl rfl rfl (QV.assign rfl rfl) ?_
    refine WL.nil ?_
    refine WQ.then ?_
    refine WC.ret ?_
    obtain rfl := (eq_of_some hm6).symm
    refine WQ.ret1 rfl rfl (fun w hw => ?_)
    exact ⟨rfl, Own.kgrow (fun _ x => x) hw⟩
  · skip
    rintro i7_1 m9 hI10
    obtain ⟨m11, s12, rfl, hm13, hn14⟩ := iter_step hI10; clear hI10; unfold roundelaylaw_over_L0 at hm13
    refine WC.seq ?_
    refine WC.seq ?_
    refine WC.region ?_
    refine WL.q rfl rfl rfl (QV.move rfl rfl) ?_
    refine WL.q rfl rfl rfl (QV.fieldAddr fd49_1 rfl rfl) ?_
    refine WL.q rfl rfl rfl (QV.load pl47 rfl rfl (Own.cell 2 rfl rfl)) ?_
    refine WL.q rfl rfl rfl (QV.lenS Try.underlying47 rfl rfl h_l_body.lenMap) ?_
    refine WL.q rfl rfl rfl (QV.lss rfl rfl rfl rfl) ?_
    refine WL.nil ?_
    refine WQ.then ?_
    refine WC.cond rfl (fun h15 => ?_) (fun h15 => ?_)
    · skip
      have hm16 := br_t h15 hm13; clear hm13
      refine WC.skip ?_
      refine WQ.then ?_
      refine WC.seq ?_
      refine WC.block ?_
      refine WC.seq ?_
      refine WC.dr (m := 9) (S := Own noM w [kn noM w.heap.size w w, blk b3 [.int .i64 p.pace, v_p_times] 63, blk b2 [.int .i64 t.u0, .int .i64 t.u1, .int .i64 t.u2, .int .i64 t.w0, .int .i64 t.w1, .int .i64 t.w2, .int .i64 t.regs] 24, blk b1 [v_l_logs, v_l_body, v_l_outs] 49]) (by kernel_rfl) (by kernel_rfl) (fun w hw => hw.pick [3, 0, 1, 2] (by decide)) ?_
      refine WD.q 0 rfl (by kernel_rfl) rfl rfl rfl (QV.loadAgg ag24 rfl rfl rfl (Own.cellsBlk 2 rfl)) ?_
      refine WD.q 1 rfl (by kernel_rfl) rfl rfl rfl (QV.fieldAddr fd49_1 rfl rfl) ?_
      refine WD.q 2 rfl (by kernel_rfl) rfl rfl rfl (QV.load pl47 rfl rfl (Own.cell 3 rfl rfl)) ?_
      refine WD.q 3 rfl (by kernel_rfl) rfl rfl rfl (QV.move rfl rfl) ?_
      obtain ⟨c17, hm18⟩ := ck_some hm16; clear hm16
      obtain ⟨p19, hp20⟩ := h_l_body.lenMap.ix (sz := 9) ln_len c17
      refine WD.q 4 rfl (by kernel_rfl) rfl rfl rfl (QV.indexSlice sl47 rfl rfl rfl rfl hp20) ?_
      refine WD.q 5 rfl (by kernel_rfl) rfl rfl rfl (QV.fieldAddr fd59_0 rfl rfl) ?_
      refine WD.q 6 rfl (by kernel_rfl) rfl rfl rfl (QV.load pl3 rfl rfl (fun w hw => CellsAt.one 0 (((Own.karr 0 rfl hk h_l_body) w hw).ele hp20 c17) rfl)) ?_
      obtain ⟨x21, hx22, hm23⟩ := bd_some hm18; clear hm18
      refine WD.q 7 rfl (by kernel_rfl) rfl rfl rfl (QV.call en78 (EvAll.cons rfl rfl (EvAll.cons rfl rfl EvAll.nil)) (fun w hw => have h := roundelayref4_Wait_w w hx22 ; h)) ?_
      refine WD.q 8 rfl (by kernel_rfl) rfl rfl rfl (QV.assign rfl rfl) ?_
      refine WD.e (by kernel_rfl) ?_
      refine WQ.then ?_
      refine WC.seq ?_
      refine WC.dr (m := 10) (S := Own noM w [kn noM w.heap.size w w, blk b3 [.int .i64 p.pace, v_p_times] 63, blk b2 [.int .i64 t.u0, .int .i64 t.u1, .int .i64 t.u2, .int .i64 t.w0, .int .i64 t.w1, .int .i64 t.w2, .int .i64 t.regs] 24, blk b1 [v_l_logs, v_l_body, v_l_outs] 49]) (by kernel_rfl) (by kernel_rfl) (fun w hw => hw.pick [3, 0, 1, 2] (by decide)) ?_
      refine WD.q 0 rfl (by kernel_rfl) rfl rfl rfl (QV.fieldAddr fd63_1 rfl rfl) ?_
      refine WD.q 1 rfl (by kernel_rfl) rfl rfl rfl (QV.load pl30 rfl rfl (Own.cell 1 rfl rfl)) ?_
      refine WD.q 2 rfl (by kernel_rfl) rfl rfl rfl (QV.move rfl rfl) ?_
      obtain ⟨c24, hm25⟩ := ck_some hm23; clear hm23
      obtain ⟨p26, hp27⟩ := h_p_times.lenMap.ix (sz := 1) ln_len c24
      refine WD.q 3 rfl (by kernel_rfl) rfl rfl rfl (QV.indexSlice sl30 rfl rfl rfl rfl hp27) ?_
      refine WD.q 4 rfl (by kernel_rfl) rfl rfl rfl (QV.load pl3 rfl rfl (fun w hw => CellsAt.one 0 (((Own.karr 0 rfl hk h_p_times) w hw).ele hp27 c24) rfl)) ?_
      refine WD.q 5 rfl (by kernel_rfl) rfl rfl rfl (QV.move rfl rfl) ?_
      obtain ⟨c28, hm29⟩ := ck_some hm25; clear hm25
      refine WD.q 6 rfl (by kernel_rfl) rfl rfl rfl (QV.add rfl rfl rfl rfl c28) ?_
      refine WD.q 7 rfl (by kernel_rfl) rfl rfl rfl (QV.fieldAddr fd63_0 rfl rfl) ?_
      refine WD.q 8 rfl (by kernel_rfl) rfl rfl rfl (QV.load pl3 rfl rfl (Own.cell 1 rfl rfl)) ?_
      refine WD.q 9 rfl (by kernel_rfl) rfl rfl rfl (QV.gtr rfl rfl rfl rfl) ?_
      refine WD.e (by kernel_rfl) ?_
      refine WQ.then ?_
      refine WC.cond rfl (fun h30 => ?_) (fun h30 => ?_)
      · skip
        have hm31 := br_t h30 hm29; clear hm29
        refine WC.seq ?_
        refine WC.region ?_
        refine WL.q rfl rfl rfl (QV.assign rfl rfl) ?_
        refine WL.nil ?_
        refine WQ.then ?_
        refine WC.ret ?_
        refine WQ.block_ret ?_
        refine WQ.then_ret ?_
        refine WQ.then_ret ?_
        refine WQ.block_ret ?_
        refine WQ.then_ret ?_
        refine WQ.then_ret ?_
        obtain rfl := up_ret hm31 hn14
        obtain rfl := (eq_of_some hm6).symm
        refine WQ.ret1 rfl rfl (fun w hw => ?_)
        exact ⟨rfl, Own.kgrow (fun _ x => x) hw⟩
      · skip
        have hm32 := br_f h30 hm29; clear hm29
        refine WC.skip ?_
        refine WQ.block ?_
        refine WQ.then ?_
        refine WC.region ?_
        refine WL.q rfl rfl rfl (QV.move rfl rfl) ?_
        obtain ⟨c33, hm34⟩ := ck_some hm32; clear hm32
        refine WL.q rfl rfl rfl (QV.add rfl rfl rfl rfl c33) ?_
        refine WL.q rfl rfl rfl (QV.assign rfl rfl) ?_
        refine WL.nil ?_
        exact WQ.again1 (i7_1 + 1) m11 (up_next hm34 hn14) (Nat.lt_succ_self _) ⟨rfl, rfl, rfl, rfl, trivial⟩ (fun w hw => hw.pick [0, 1, 2, 3] (by decide))
    · skip
      have hm35 := br_f h15 hm13; clear hm13
      refine WC.exit ?_
      refine WQ.then_exit ?_
      refine WQ.then_exit ?_
      refine WQ.block_exit ?_
      exact WQ.out1 i7_1 (up_brk hm35 hn14) ⟨rfl, rfl, rfl, rfl, trivial⟩ (fun w hw => hw.pick [0, 1, 2, 3] (by decide))

set_option maxRecDepth 8000 in
theorem roundelaylaw_RegsMakes_w {v_l_logs : Value} {v_l_body : Value} {v_l_outs : Value} {v_p_times : Value} {l : Lp} {t : Tgt} {p : Pln} {r : Bool} (w : World) (hm : roundelaylaw_RegsMakes_m l t p = some r) (h_l_logs : Arr w v_l_logs 1 (l.logs.map icell)) (h_l_body : Arr w v_l_body 9 (l.body.map Stm.cells)) (h_l_outs : Arr w v_l_outs 1 (l.outs.map icell)) (h_p_times : Arr w v_p_times 1 (p.times.map icell)) : Calls Try.prog 12 #[.agg #[v_l_logs, v_l_body, v_l_outs], .agg #[.int .i64 t.u0, .int .i64 t.u1, .int .i64 t.u2, .int .i64 t.w0, .int .i64 t.w1, .int .i64 t.w2, .int .i64 t.regs], .agg #[.int .i64 p.pace, v_p_times]] w (fun e w' => e = .returned (.bool r) ∧ Grow w w') := by
  unfold roundelaylaw_RegsMakes_m at hm
  have hk := Base.rfl (w := w)
  refine calls_of_WC (n := 75) (args := [.agg #[v_l_logs, v_l_body, v_l_outs], .agg #[.int .i64 t.u0, .int .i64 t.u1, .int .i64 t.u2, .int .i64 t.w0, .int .i64 t.w1, .int .i64 t.w2, .int .i64 t.regs], .agg #[.int .i64 p.pace, v_p_times]]) Try.func12 rfl rfl (Nat.le_of_ble_eq_true rfl) ?_ (Own.startK hk (Own.start w))
  refine WC.seq ?_
  refine WC.region ?_
  refine WL.effect rfl ?_
  refine (EV.boxAgg (by decide) rfl rfl (fun b1 => ?_))
  refine WL.effect rfl ?_
  refine (EV.boxAgg (by decide) rfl rfl (fun b2 => ?_))
  refine WL.effect rfl ?_
  refine (EV.boxAgg (by decide) rfl rfl (fun b3 => ?_))
  refine WL.q rfl rfl rfl (QV.assign rfl rfl) ?_
  refine WL.nil ?_
  refine WQ.then ?_
  refine WC.seq ?_
  refine WC.region ?_
  refine WL.q rfl rfl rfl (QV.loadAgg ag49 rfl rfl rfl (Own.cellsBlk 2 rfl)) ?_
  refine WL.q rfl rfl rfl (QV.loadAgg ag24 rfl rfl rfl (Own.cellsBlk 1 rfl)) ?_
  refine WL.q rfl rfl rfl (QV.loadAgg ag63 rfl rfl rfl (Own.cellsBlk 0 rfl)) ?_
  refine WL.effect rfl ?_
  obtain ⟨x4, hx5, hm6⟩ := bd_some hm; clear hm
  refine EV.of (C' := Own noM w [kn noM w.heap.size w w, blk b3 [.int .i64 p.pace, v_p_times] 63, blk b2 [.int .i64 t.u0, .int .i64 t.u1, .int .i64 t.u2, .int .i64 t.w0, .int .i64 t.w1, .int .i64 t.w2, .int .i64 t.regs] 24, blk b1 [v_l_logs, v_l_body, v_l_outs] 49]) (fun w hw => hw.pick [3, 0, 1, 2] (by decide)) ?_
  refine (EV.callR (X := Value × World) (R := []) (fun X => .tuple #[X.1, .int .i64 x4.2]) (fun X => []) (fun X => X.2) (fun X => Arr X.2 X.1 1 (x4.1.map icell)) hk (fun _ h => by cases h; decide) en37 (EvAll.cons rfl rfl (EvAll.cons rfl rfl (EvAll.cons rfl rfl EvAll.nil))) (fun M w h1 h2 => have h := regs_Make_w hx5 h_l_logs h_l_body h_l_outs h_p_times M w h1 h2; h) (fun X7 hF7 hle7 => ?_))
  refine WL.q rfl rfl rfl (QV.move rfl rfl) ?_
  refine WL.q rfl rfl rfl (QV.extract rfl rfl rfl) ?_
  refine WL.q rfl rfl rfl (QV.extract rfl rfl rfl) ?_
  refine WL.q rfl rfl rfl (QV.assign rfl rfl) ?_
  refine WL.q rfl rfl rfl (QV.assign rfl rfl) ?_
  refine WL.nil ?_
  refine WQ.then ?_
  refine WC.seq ?_
  refine WC.seq ?_
  refine WC.region ?_
  refine WL.q rfl rfl rfl (QV.loadAgg ag49 rfl rfl rfl (Own.cellsBlk 3 rfl)) ?_
  refine WL.q rfl rfl rfl (QV.loadAgg ag24 rfl rfl rfl (Own.cellsBlk 2 rfl)) ?_
  refine WL.q rfl rfl rfl (QV.loadAgg ag63 rfl rfl rfl (Own.cellsBlk 1 rfl)) ?_
  obtain ⟨x8, hx9, hm10⟩ := bd_some hm6; clear hm6
  refine WL.q rfl rfl rfl (QV.call en28 (EvAll.cons rfl rfl (EvAll.cons rfl rfl (EvAll.cons rfl rfl EvAll.nil))) (fun w hw => have h := roundelayref8_Legal_w w hx9 ((Own.karr 0 rfl hk (h_l_logs.le hle7)) w hw) ((Own.karr 0 rfl hk (h_l_body.le hle7)) w hw) ((Own.karr 0 rfl hk (h_l_outs.le hle7)) w hw) ((Own.karr 0 rfl hk (h_p_times.le hle7)) w hw); h)) ?_
  refine WL.q rfl rfl rfl (QV.not rfl rfl) ?_
  refine WL.nil ?_
  refine WQ.then ?_
  refine WC.cond rfl (fun h11 => ?_) (fun h11 => ?_)
  · skip
    have hm12 := br_t h11 hm10; clear hm10
    refine WC.seq ?_
    refine WC.region ?_
    refine WL.q rfl rfl rfl (QV.move rfl rfl) ?_
    refine WL.q rfl rfl rfl (QV.eql rfl rfl rfl rfl) ?_
    refine WL.q rfl rfl rfl (QV.move rfl rfl) ?_
    refine WL.g rfl rfl (GuardIs.pos rfl rfl) (fun hG => QV.move rfl rfl) ?_
    refine WL.g rfl rfl (GuardIs.pos rfl rfl) (fun hG => QV.lenS Try.underlying30 rfl hG hF7.lenMap) ?_
    refine WL.g rfl rfl (GuardIs.pos rfl rfl) (fun hG => QV.eql rfl hG rfl rfl) ?_
    refine WL.q rfl rfl rfl (QV.pickAnd rfl rfl rfl (fun h => h)) ?_
    refine WL.q rfl rfl rfl (QV.assign rfl rfl) ?_
    refine WL.nil ?_
    refine WQ.then ?_
    refine WC.ret ?_
    refine WQ.then_ret ?_
    obtain rfl := (eq_of_some hm12).symm
    refine WQ.ret1 rfl rfl (fun w hw => ?_)
    exact ⟨rfl, Own.kgrow (fun _ x => x) hw⟩
  · skip
    have hm13 := br_f h11 hm10; clear hm10
    refine WC.skip ?_
    refine WQ.then ?_
    refine WC.seq ?_
    refine WC.seq ?_
    refine WC.region ?_
    refine WL.q rfl rfl rfl (QV.move rfl rfl) ?_
    refine WL.q rfl rfl rfl (QV.eql rfl rfl rfl rfl) ?_
    refine WL.nil ?_
    refine WQ.then ?_
    refine WC.cond rfl (fun h14 => ?_) (fun h14 => ?_)
    · skip
      have hm15 := br_t h14 hm13; clear hm13
      refine WC.seq ?_
      refine WC.region ?_
      refine WL.q rfl rfl rfl (QV.move rfl rfl) ?_
      refine WL.q rfl rfl rfl (QV.lenS Try.underlying30 rfl rfl hF7.lenMap) ?_
      refine WL.q rfl rfl rfl (QV.eql rfl rfl rfl rfl) ?_
      refine WL.q rfl rfl rfl (QV.move rfl rfl) ?_
      refine WL.g rfl rfl (GuardIs.pos rfl rfl) (fun hG => QV.fieldAddr fd24_2 rfl rfl) ?_
      refine WL.g rfl rfl (GuardIs.pos rfl rfl) (fun hG => QV.load pl3 rfl hG (Own.cell 2 rfl rfl)) ?_
      refine WL.g rfl rfl (GuardIs.pos rfl rfl) (fun hG => QV.fieldAddr fd49_1 rfl rfl) ?_
      refine WL.g rfl rfl (GuardIs.pos rfl rfl) (fun hG => QV.load pl47 rfl hG (Own.cell 3 rfl rfl)) ?_
      refine WL.g rfl rfl (GuardIs.pos rfl rfl) (fun hG => QV.lenS Try.underlying47 rfl hG (h_l_body.le hle7).lenMap) ?_
      obtain ⟨c16, hm17⟩ := ck_some hm15; clear hm15
      refine WL.g rfl rfl (GuardIs.pos rfl rfl) (fun hG => QV.mul rfl rfl rfl hG (c16 hG)) ?_
      refine WL.g rfl rfl (GuardIs.pos rfl rfl) (fun hG => QV.geq rfl hG rfl hG) ?_
      refine WL.g rfl rfl (GuardIs.pos rfl rfl) (fun hG => QV.move rfl hG) ?_
      refine WL.g rfl rfl (GuardIs.posC rfl rfl) (fun hG => QV.loadAgg ag49 rfl rfl rfl (Own.cellsBlk 3 rfl)) ?_
      refine WL.g rfl rfl (GuardIs.posC rfl rfl) (fun hG => QV.loadAgg ag24 rfl rfl rfl (Own.cellsBlk 2 rfl)) ?_
      refine WL.g rfl rfl (GuardIs.posC rfl rfl) (fun hG => QV.loadAgg ag63 rfl rfl rfl (Own.cellsBlk 1 rfl)) ?_
      obtain ⟨x18, hx19, hm20⟩ := bdG_some hm17; clear hm17
      refine WL.g rfl rfl (GuardIs.posC rfl rfl) (fun hG => QV.call en38 (EvAll.cons rfl hG (EvAll.cons rfl hG (EvAll.cons rfl hG EvAll.nil))) (fun w hw => have h := roundelaylaw_over_w w (hx19 hG) ((Own.karr 0 rfl hk (h_l_logs.le hle7)) w hw) ((Own.karr 0 rfl hk (h_l_body.le hle7)) w hw) ((Own.karr 0 rfl hk (h_l_outs.le hle7)) w hw) ((Own.karr 0 rfl hk (h_p_times.le hle7)) w hw); h)) ?_
      refine WL.g rfl rfl (GuardIs.pos rfl rfl) (fun hG => QV.pickAnd rfl hG rfl (fun h => andT hG h)) ?_
      refine WL.g rfl rfl (GuardIs.pos rfl rfl) (fun hG => QV.not rfl hG) ?_
      refine WL.q rfl rfl rfl (QV.pickAnd rfl rfl rfl (fun h => h)) ?_
      refine WL.q rfl rfl rfl (QV.assign rfl rfl) ?_
      refine WL.nil ?_
      refine WQ.then ?_
      refine WC.ret ?_
      refine WQ.then_ret ?_
      obtain rfl := (eq_of_some hm20).symm
      refine WQ.ret1 rfl rfl (fun w hw => ?_)
      exact ⟨rfl, Own.kgrow (fun _ x => x) hw⟩
    · skip
      have hm21 := br_f h14 hm13; clear hm13
      refine WC.skip ?_
      refine WQ.then ?_
      refine WC.seq ?_
      refine WC.region ?_
      refine WL.q rfl rfl rfl (QV.loadAgg ag49 rfl rfl rfl (Own.cellsBlk 3 rfl)) ?_
      refine WL.q rfl rfl rfl (QV.loadAgg ag24 rfl rfl rfl (Own.cellsBlk 2 rfl)) ?_
      refine WL.q rfl rfl rfl (QV.loadAgg ag63 rfl rfl rfl (Own.cellsBlk 1 rfl)) ?_
      refine WL.q rfl rfl rfl (QV.move rfl rfl) ?_
      refine WL.effect rfl ?_
      obtain ⟨x22, hx23, hm24⟩ := bd_some hm21; clear hm21
      refine (EV.callR (X := Value × World) (R := []) (fun X => .tuple #[.agg #[.int .i64 x22.1.pace, .int .i64 x22.1.stages, X.1], .int .i64 x22.2]) (fun X => []) (fun X => X.2) (fun X => Arr X.2 X.1 10 (x22.1.ops.map Opr.cells)) hk (fun _ h => by cases h; decide) en33 (EvAll.cons rfl rfl (EvAll.cons rfl rfl (EvAll.cons rfl rfl (EvAll.cons rfl rfl EvAll.nil)))) (fun M w h1 h2 => have h := roundelayref11_Emit_w hx23 (h_l_logs.le hle7) (h_l_body.le hle7) (h_l_outs.le hle7) (h_p_times.le hle7) hF7 M w h1 h2; h) (fun X25 hF25 hle25 => ?_))
      refine WL.q rfl rfl rfl (QV.move rfl rfl) ?_
      refine WL.q rfl rfl rfl (QV.extract rfl rfl rfl) ?_
      refine WL.q rfl rfl rfl (QV.extract rfl rfl rfl) ?_
      refine WL.effect rfl ?_
      refine (EV.alloc (by decide) ze27 (fun b26 => ?_))
      refine WL.effect rfl ?_
      refine (EV.store 0 rfl rfl rfl rfl rfl rfl (vs := [.int .i64 x22.1.pace, .int .i64 x22.1.stages, X25.1]) (show Value.cells _ = List.toArray _ from rfl) sz27 (Nat.le_of_ble_eq_true rfl) (one_cons rfl (one_cons rfl (one_cons (SliceLen.one hF25.lenMap) one_nil))) ?_)
      refine WL.q rfl rfl rfl (QV.assign rfl rfl) ?_
      refine WL.nil ?_
      refine WQ.then ?_
      refine WC.seq ?_
      refine WC.dr (m := 17) (S := Own noM w [kn noM w.heap.size w X25.2, blk b26 [.int .i64 x22.1.pace, .int .i64 x22.1.stages, X25.1] 27, blk b3 [.int .i64 p.pace, v_p_times] 63, blk b2 [.int .i64 t.u0, .int .i64 t.u1, .int .i64 t.u2, .int .i64 t.w0, .int .i64 t.w1, .int .i64 t.w2, .int .i64 t.regs] 24, blk b1 [v_l_logs, v_l_body, v_l_outs] 49]) (by kernel_rfl) (by kernel_rfl) (fun w hw => hw.pick [1, 0, 2, 3, 4] (by decide)) ?_
      refine WD.q 0 rfl (by kernel_rfl) rfl rfl rfl (QV.move rfl rfl) ?_
      refine WD.q 1 rfl (by kernel_rfl) rfl rfl rfl (QV.eql rfl rfl rfl rfl) ?_
      refine WD.q 2 rfl (by kernel_rfl) rfl rfl rfl (QV.move rfl rfl) ?_
      refine WD.g 3 rfl (by kernel_rfl) rfl rfl (GuardIs.pos rfl rfl) (fun hG => QV.move rfl rfl) ?_
      refine WD.g 4 rfl (by kernel_rfl) rfl rfl (GuardIs.pos rfl rfl) (fun hG => QV.eql rfl hG rfl rfl) ?_
      refine WD.q 5 rfl (by kernel_rfl) rfl rfl rfl (QV.pickAnd rfl rfl rfl (fun h => h)) ?_
      refine WD.q 6 rfl (by kernel_rfl) rfl rfl rfl (QV.move rfl rfl) ?_
      refine WD.g 7 rfl (by kernel_rfl) rfl rfl (GuardIs.pos rfl rfl) (fun hG => QV.loadAgg ag49 rfl rfl rfl (Own.cellsBlk 4 rfl)) ?_
      refine WD.g 8 rfl (by kernel_rfl) rfl rfl (GuardIs.pos rfl rfl) (fun hG => QV.loadAgg ag24 rfl rfl rfl (Own.cellsBlk 3 rfl)) ?_
      refine WD.g 9 rfl (by kernel_rfl) rfl rfl (GuardIs.pos rfl rfl) (fun hG => QV.loadAgg ag27 rfl rfl rfl (Own.cellsBlk 1 rfl)) ?_
      refine WD.g 10 rfl (by kernel_rfl) rfl rfl (GuardIs.pos rfl rfl) (fun hG => QV.fieldAddr fd49_1 rfl rfl) ?_
      refine WD.g 11 rfl (by kernel_rfl) rfl rfl (GuardIs.pos rfl rfl) (fun hG => QV.load pl47 rfl hG (Own.cell 4 rfl rfl)) ?_
      refine WD.g 12 rfl (by kernel_rfl) rfl rfl (GuardIs.pos rfl rfl) (fun hG => QV.lenS Try.underlying47 rfl hG (h_l_body.le (hle7.trans hle25)).lenMap) ?_
      refine bothWays ((x4.2 == 0) && (x22.2 == 0)) (fun hb27 => ?_) (fun hb27 => ?_)
      · skip
        have hm28 := br_t hb27 hm24; clear hm24
        refine WD.oG 13 rfl (by kernel_rfl) (GuardIs.pos rfl rfl) hb27 ?_
        obtain ⟨x29, hx30, hm31⟩ := bd_some hm28; clear hm28
        refine EV.of (C' := Own noM w [kn noM w.heap.size w X25.2, blk b26 [.int .i64 x22.1.pace, .int .i64 x22.1.stages, X25.1] 27, blk b3 [.int .i64 p.pace, v_p_times] 63, blk b2 [.int .i64 t.u0, .int .i64 t.u1, .int .i64 t.u2, .int .i64 t.w0, .int .i64 t.w1, .int .i64 t.w2, .int .i64 t.regs] 24, blk b1 [v_l_logs, v_l_body, v_l_outs] 49]) (fun w hw => hw.pick [1, 0, 2, 3, 4] (by decide)) ?_
        refine (EV.callR (X := Value × World) (R := []) (fun X => X.1) (fun X => []) (fun X => X.2) (fun X => Arr X.2 X.1 1 (x29.map icell)) hk (fun _ h => by cases h; decide) en40 (EvAll.cons rfl hb27 EvAll.nil) (fun M w h1 h2 => have h := roundelaylaw_natural_w hx30  M w h1 h2; h) (fun X32 hF32 hle32 => ?_))
        refine WD.b (H' := [kn noM w.heap.size w X32.2, blk b26 [.int .i64 x22.1.pace, .int .i64 x22.1.stages, X25.1] 27, blk b3 [.int .i64 p.pace, v_p_times] 63, blk b2 [.int .i64 t.u0, .int .i64 t.u1, .int .i64 t.u2, .int .i64 t.w0, .int .i64 t.w1, .int .i64 t.w2, .int .i64 t.regs] 24, blk b1 [v_l_logs, v_l_body, v_l_outs] 49]) (fun w hw => hw.pick [0, 1, 2, 3, 4] (by decide)) (fun w hw => Own.forget hle32 (hle7.trans hle25) (hw.pick [0, 1, 2, 3, 4] (by decide))) ?_
        obtain ⟨x33, hx34, hm35⟩ := bdG_some hm31; clear hm31
        refine WD.g 14 rfl (by kernel_rfl) rfl rfl (GuardIs.pos rfl rfl) (fun hG => QV.call en39 (EvAll.cons rfl hb27 (EvAll.cons rfl hb27 (EvAll.cons rfl hb27 (EvAll.cons rfl rfl EvAll.nil)))) (fun w hw => have h := roundelayref10_Takes_w w (hx34 hG) ((Own.karr 0 rfl hk (h_l_logs.le ((hle7.trans hle25).trans hle32))) w hw) ((Own.karr 0 rfl hk (h_l_body.le ((hle7.trans hle25).trans hle32))) w hw) ((Own.karr 0 rfl hk (h_l_outs.le ((hle7.trans hle25).trans hle32))) w hw) ((Own.karr 0 rfl hk (hF25.le hle32)) w hw) ((Own.karr 0 rfl hk hF32) w hw); h)) ?_
        refine WD.q 15 rfl (by kernel_rfl) rfl rfl rfl (QV.pickAnd rfl rfl rfl (fun h => h)) ?_
        refine WD.q 16 rfl (by kernel_rfl) rfl rfl rfl (QV.assign rfl rfl) ?_
        refine WD.e (by kernel_rfl) ?_
        refine WQ.then ?_
        refine WC.ret ?_
        obtain rfl := (eq_of_some hm35).symm
        refine WQ.ret1 rfl rfl (fun w hw => ?_)
        exact ⟨rfl, Own.kgrow (fun _ x => x) hw⟩
      · skip
        have hm36 := br_f hb27 hm24; clear hm24
        refine WD.g (v := .bool false) 13 rfl (by kernel_rfl) rfl rfl (GuardIs.pos rfl rfl) (fun hG => absurd (hb27.symm.trans hG) (by decide)) ?_
        refine WD.g (v := .bool false) 14 rfl (by kernel_rfl) rfl rfl (GuardIs.pos rfl rfl) (fun hG => absurd (hb27.symm.trans hG) (by decide)) ?_
        refine WD.q 15 rfl (by kernel_rfl) rfl rfl rfl (QV.pickAnd rfl rfl rfl (fun h => h)) ?_
        refine WD.q 16 rfl (by kernel_rfl) rfl rfl rfl (QV.assign rfl rfl) ?_
        refine WD.e (by kernel_rfl) ?_
        refine WQ.then ?_
        refine WC.ret ?_
        obtain rfl := (eq_of_some hm36).symm
        refine WQ.ret1 rfl rfl (fun w hw => ?_)
        exact ⟨rfl, Own.kgrow (fun _ x => x) hw⟩
end Go.Proofs.Ytaimbkndebaaiab
end
