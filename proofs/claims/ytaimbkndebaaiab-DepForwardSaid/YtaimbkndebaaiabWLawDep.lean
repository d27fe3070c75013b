/- Walks: the functions do what the models say. -/
import Derived.Test.YtaimbkndebaaiabMLawDep
import Derived.Test.YtaimbkndebaaiabProg
import Derived.Test.YtaimbkndebaaiabWDep
import Derived.Test.YtaimbkndebaaiabWRDep
import Derived.KernelRfl
namespace Go.Proofs.Ytaimbkndebaaiab
open Go.Rd
set_option linter.unusedVariables false
set_option linter.unusedSimpArgs false
namespace TLawDep
theorem ag24 : AggT Try.prog 24 7 := ⟨_, Try.underlying24, rfl, by kernel_rfl⟩
theorem ag49 : AggT Try.prog 49 3 := ⟨_, Try.underlying49, rfl, by kernel_rfl⟩
theorem ag61 : AggT Try.prog 61 4 := ⟨_, Try.underlying61, rfl, by kernel_rfl⟩
theorem en23 : Go.Rd.Enters Try.prog 23 := ⟨Try.f23, Try.func23, by kernel_rfl, by kernel_rfl⟩
theorem en24 : Go.Rd.Enters Try.prog 24 := ⟨Try.f24, Try.func24, by kernel_rfl, by kernel_rfl⟩
theorem en25 : Go.Rd.Enters Try.prog 25 := ⟨Try.f25, Try.func25, by kernel_rfl, by kernel_rfl⟩
theorem en26 : Go.Rd.Enters Try.prog 26 := ⟨Try.f26, Try.func26, by kernel_rfl, by kernel_rfl⟩
theorem eq61 : EqT Try.prog 61 4 := ⟨by kernel_rfl, ⟨_, Try.underlying61⟩, by kernel_rfl, by kernel_rfl⟩
theorem fd49_1 : FieldT Try.prog 49 1 1 := ⟨_, _, 0, Try.underlying49, rfl, rfl, by kernel_rfl⟩
theorem fd61_0 : FieldT Try.prog 61 0 0 := ⟨_, _, 0, Try.underlying61, rfl, rfl, by kernel_rfl⟩
theorem fd61_1 : FieldT Try.prog 61 1 1 := ⟨_, _, 0, Try.underlying61, rfl, rfl, by kernel_rfl⟩
theorem fd61_2 : FieldT Try.prog 61 2 2 := ⟨_, _, 0, Try.underlying61, rfl, rfl, by kernel_rfl⟩
theorem fd61_3 : FieldT Try.prog 61 3 3 := ⟨_, _, 0, Try.underlying61, rfl, rfl, by kernel_rfl⟩
theorem pl3 : Plain Try.prog 3 := ⟨_, Try.underlying3, rfl⟩
theorem pl47 : Plain Try.prog 47 := ⟨_, Try.underlying47, rfl⟩
theorem sl50 : SliceT Try.prog 50 61 4 := ⟨Try.underlying50, by kernel_rfl⟩
theorem sz24 : SizeT Try.prog 24 7 := by unfold SizeT; kernel_rfl
theorem sz49 : SizeT Try.prog 49 3 := by unfold SizeT; kernel_rfl
theorem sz61 : SizeT Try.prog 61 4 := by unfold SizeT; kernel_rfl
theorem sz_47 : SliceZ Try.prog 47 59 9 [.int .i64 0, .int .i64 0, .int .i64 0, .int .i64 0, .int .i64 0, .int .i64 0, .int .i64 0, .int .i64 0, .int .i64 0] := ⟨Try.underlying47, by kernel_rfl⟩
theorem ze24 : ZeroT Try.prog 24 [.int .i64 0, .int .i64 0, .int .i64 0, .int .i64 0, .int .i64 0, .int .i64 0, .int .i64 0] := by unfold ZeroT; kernel_rfl
theorem ze49 : ZeroT Try.prog 49 [.slice none 0 0, .slice none 0 0, .slice none 0 0] := by unfold ZeroT; kernel_rfl
theorem ze61 : ZeroT Try.prog 61 [.int .i64 0, .int .i64 0, .int .i64 0, .int .i64 0] := by unfold ZeroT; kernel_rfl
end TLawDep
open TLawDep
set_option maxRecDepth 8000 in
theorem roundelaylaw_edges_w {v_a : Value} {v_b : Value} {a : List Edg} {b : List Edg} {r : Bool} (w : World) (hm : roundelaylaw_edges_m a b = some r) (h_a : Arr w v_a 4 (a.map Edg.cells)) (h_b : Arr w v_b 4 (b.map Edg.cells)) : Calls Try.prog 26 #[v_a, v_b] w (fun e w' => e = .returned (.bool r) ∧ Grow w w') := by
  unfold roundelaylaw_edges_m at hm
  have hk := Base.rfl (w := w)
  refine calls_of_WC (n := 26) (args := [v_a, v_b]) Try.func26 rfl rfl (Nat.le_of_ble_eq_true rfl) ?_ (Own.startK hk (Own.start w))
  refine WC.seq ?_
  refine WC.region ?_
  refine WL.q rfl rfl rfl (QV.assign rfl rfl) ?_
  refine WL.nil ?_
  refine WQ.then ?_
  refine WC.seq ?_
  refine WC.seq ?_
  refine WC.region ?_
  refine WL.q rfl rfl rfl (QV.move rfl rfl) ?_
  refine WL.q rfl rfl rfl (QV.lenS Try.underlying50 rfl rfl h_a.lenMap) ?_
  refine WL.q rfl rfl rfl (QV.move rfl rfl) ?_
  refine WL.q rfl rfl rfl (QV.lenS Try.underlying50 rfl rfl h_b.lenMap) ?_
  refine WL.q rfl rfl rfl (QV.neq rfl rfl rfl rfl) ?_
  refine WL.nil ?_
  refine WQ.then ?_
  refine WC.cond rfl (fun h1 => ?_) (fun h1 => ?_)
  · skip
    have hm2 := br_t h1 hm; clear hm
    refine WC.seq ?_
    refine WC.region ?_
    refine WL.q rfl rfl rfl (QV.assign rfl rfl) ?_
    refine WL.nil ?_
    refine WQ.then ?_
    refine WC.ret ?_
    refine WQ.then_ret ?_
    obtain rfl := (eq_of_some hm2).symm
    refine WQ.ret1 rfl rfl (fun w hw => ?_)
    exact ⟨rfl, Own.kgrow (fun _ x => x) hw⟩
  · skip
    have hm3 := br_f h1 hm; clear hm
    refine WC.skip ?_
    refine WQ.then ?_
    refine WC.seq ?_
    refine WC.seq ?_
    refine WC.region ?_
    refine WL.q rfl rfl rfl (QV.assign rfl rfl) ?_
    refine WL.nil ?_
    refine WQ.then ?_
    obtain ⟨o4, ho5, hm6⟩ := bd_some hm3; clear hm3; obtain ⟨n7, ho8⟩ := lp_some ho5
    refine WC.bloop1 (H2 := [kn noM w.heap.size w w]) (τ := [(0, (true, _)), (1, (true, _))]) (fun (i5_1 : Int) => [(5, (true, .int .i64 i5_1))]) (fun (i5_1 : Int) => []) (fun (i5_1 : Int) (m : Nat) => iter (roundelaylaw_edges_L0 a b) m i5_1 = some o4) (fun (i5_1 : Int) => o4 = .go i5_1) 0 n7 ho8 ⟨rfl, rfl, rfl, trivial⟩ (fun w hw => hw.pick [0] (by decide)) ?_ ?_
    · skip
      rintro i5_1 rfl
      refine WQ.then ?_
      refine WC.seq ?_
      refine WC.region ?_
      refine WL.q rfl rfl rfl (QV.assign rfl rfl) ?_
      refine WL.nil ?_
      refine WQ.then ?_
      refine WC.ret ?_
      obtain rfl := (eq_of_some hm6).symm
      refine WQ.ret1 rfl rfl (fun w hw => ?_)
      exact ⟨rfl, Own.kgrow (fun _ x => x) hw⟩
    · skip
      rintro i5_1 m9 hI10
      obtain ⟨m11, s12, rfl, hm13, hn14⟩ := iter_step hI10; clear hI10; unfold roundelaylaw_edges_L0 at hm13
      refine WC.seq ?_
      refine WC.seq ?_
      refine WC.region ?_
      refine WL.q rfl rfl rfl (QV.move rfl rfl) ?_
      refine WL.q rfl rfl rfl (QV.move rfl rfl) ?_
      refine WL.q rfl rfl rfl (QV.lenS Try.underlying50 rfl rfl h_a.lenMap) ?_
      refine WL.q rfl rfl rfl (QV.lss rfl rfl rfl rfl) ?_
      refine WL.nil ?_
      refine WQ.then ?_
      refine WC.cond rfl (fun h15 => ?_) (fun h15 => ?_)
      · skip
        have hm16 := br_t h15 hm13; clear hm13
        refine WC.skip ?_
        refine WQ.then ?_
        refine WC.seq ?_
        refine WC.block ?_
        refine WC.seq ?_
        refine WC.dr (m := 9) (by kernel_rfl) (by kernel_rfl) (fun w hw => hw) ?_
        refine WD.q 0 rfl (by kernel_rfl) rfl rfl rfl (QV.move rfl rfl) ?_
        refine WD.q 1 rfl (by kernel_rfl) rfl rfl rfl (QV.move rfl rfl) ?_
        obtain ⟨c17, hm18⟩ := ck_some hm16; clear hm16
        obtain ⟨p19, hp20⟩ := h_a.lenMap.ix (sz := 4) ln_len c17
        refine WD.q 2 rfl (by kernel_rfl) rfl rfl rfl (QV.indexSlice sl50 rfl rfl rfl rfl hp20) ?_
        refine WD.q 3 rfl (by kernel_rfl) rfl rfl rfl (QV.loadAgg ag61 rfl rfl rfl (fun w hw => ((Own.karr 0 rfl hk h_a) w hw).ele hp20 c17)) ?_
        refine WD.q 4 rfl (by kernel_rfl) rfl rfl rfl (QV.move rfl rfl) ?_
        refine WD.q 5 rfl (by kernel_rfl) rfl rfl rfl (QV.move rfl rfl) ?_
        obtain ⟨c21, hm22⟩ := ck_some hm18; clear hm18
        obtain ⟨p23, hp24⟩ := h_b.lenMap.ix (sz := 4) ln_len c21
        refine WD.q 6 rfl (by kernel_rfl) rfl rfl rfl (QV.indexSlice sl50 rfl rfl rfl rfl hp24) ?_
        refine WD.q 7 rfl (by kernel_rfl) rfl rfl rfl (QV.loadAgg ag61 rfl rfl rfl (fun w hw => ((Own.karr 0 rfl hk h_b) w hw).ele hp24 c21)) ?_
        refine WD.q 8 rfl (by kernel_rfl) rfl rfl rfl (QV.neqF eq61 (ns := [(ele a i5_1).fr, (ele a i5_1).to, (ele a i5_1).bk, (ele a i5_1).wt]) (ms := [(ele b i5_1).fr, (ele b i5_1).to, (ele b i5_1).bk, (ele b i5_1).wt]) rfl rfl rfl rfl rfl rfl) ?_
        refine WD.e (by kernel_rfl) ?_
        refine WQ.then ?_
        refine WC.cond rfl (fun h25 => ?_) (fun h25 => ?_)
        · skip
          have hm26 := br_t h25 hm22; clear hm22
          refine WC.seq ?_
          refine WC.region ?_
          refine WL.q rfl rfl rfl (QV.assign rfl rfl) ?_
          refine WL.nil ?_
          refine WQ.then ?_
          refine WC.ret ?_
          refine WQ.block_ret ?_
          refine WQ.then_ret ?_
          refine WQ.then_ret ?_
          refine WQ.block_ret ?_
          refine WQ.then_ret ?_
          refine WQ.then_ret ?_
          obtain rfl := up_ret hm26 hn14
          obtain rfl := (eq_of_some hm6).symm
          refine WQ.ret1 rfl rfl (fun w hw => ?_)
          exact ⟨rfl, Own.kgrow (fun _ x => x) hw⟩
        · skip
          have hm27 := br_f h25 hm22; clear hm22
          refine WC.skip ?_
          refine WQ.block ?_
          refine WQ.then ?_
          refine WC.region ?_
          refine WL.q rfl rfl rfl (QV.move rfl rfl) ?_
          obtain ⟨c28, hm29⟩ := ck_some hm27; clear hm27
          refine WL.q rfl rfl rfl (QV.add rfl rfl rfl rfl c28) ?_
          refine WL.q rfl rfl rfl (QV.assign rfl rfl) ?_
          refine WL.nil ?_
          exact WQ.again1 (i5_1 + 1) m11 (up_next hm29 hn14) (Nat.lt_succ_self _) ⟨rfl, rfl, rfl, trivial⟩ (fun w hw => hw.pick [0] (by decide))
      · skip
        have hm30 := br_f h15 hm13; clear hm13
        refine WC.exit ?_
        refine WQ.then_exit ?_
        refine WQ.then_exit ?_
        refine WQ.block_exit ?_
        exact WQ.out1 i5_1 (up_brk hm30 hn14) ⟨rfl, rfl, rfl, trivial⟩ (fun w hw => hw.pick [0] (by decide))

set_option maxRecDepth 8000 in
theorem roundelaylaw_DepTells_w {v_l_logs : Value} {v_l_body : Value} {v_l_outs : Value} {l : Lp} {t : Tgt} {r : Bool} (w : World) (hm : roundelaylaw_DepTells_m l t = some r) (h_l_logs : Arr w v_l_logs 1 (l.logs.map icell)) (h_l_body : Arr w v_l_body 9 (l.body.map Stm.cells)) (h_l_outs : Arr w v_l_outs 1 (l.outs.map icell)) : Calls Try.prog 5 #[.agg #[v_l_logs, v_l_body, v_l_outs], .agg #[.int .i64 t.u0, .int .i64 t.u1, .int .i64 t.u2, .int .i64 t.w0, .int .i64 t.w1, .int .i64 t.w2, .int .i64 t.regs]] w (fun e w' => e = .returned (.bool r) ∧ Grow w w') := by
  unfold roundelaylaw_DepTells_m at hm
  have hk := Base.rfl (w := w)
  refine calls_of_WC (n := 35) (args := [.agg #[v_l_logs, v_l_body, v_l_outs], .agg #[.int .i64 t.u0, .int .i64 t.u1, .int .i64 t.u2, .int .i64 t.w0, .int .i64 t.w1, .int .i64 t.w2, .int .i64 t.regs]]) Try.func5 rfl rfl (Nat.le_of_ble_eq_true rfl) ?_ (Own.startK hk (Own.start w))
  refine WC.seq ?_
  refine WC.region ?_
  refine WL.effect rfl ?_
  refine (EV.boxAgg (by decide) rfl rfl (fun b1 => ?_))
  refine WL.effect rfl ?_
  refine (EV.boxAgg (by decide) rfl rfl (fun b2 => ?_))
  refine WL.q rfl rfl rfl (QV.assign rfl rfl) ?_
  refine WL.nil ?_
  refine WQ.then ?_
  refine WC.seq ?_
  refine WC.region ?_
  refine WL.q rfl rfl rfl (QV.loadAgg ag49 rfl rfl rfl (Own.cellsBlk 1 rfl)) ?_
  refine WL.q rfl rfl rfl (QV.loadAgg ag24 rfl rfl rfl (Own.cellsBlk 0 rfl)) ?_
  refine WL.effect rfl ?_
  obtain ⟨x3, hx4, hm5⟩ := bd_some hm; clear hm
  refine EV.of (C' := Own noM w [kn noM w.heap.size w w, blk b2 [.int .i64 t.u0, .int .i64 t.u1, .int .i64 t.u2, .int .i64 t.w0, .int .i64 t.w1, .int .i64 t.w2, .int .i64 t.regs] 24, blk b1 [v_l_logs, v_l_body, v_l_outs] 49]) (fun w hw => hw.pick [2, 0, 1] (by decide)) ?_
  refine (EV.callR (X := Value × World) (R := []) (fun X => .tuple #[X.1, .int .i64 x3.2]) (fun X => []) (fun X => X.2) (fun X => Arr X.2 X.1 4 (x3.1.map Edg.cells)) hk (fun _ h => by cases h; decide) en23 (EvAll.cons rfl rfl (EvAll.cons rfl rfl EvAll.nil)) (fun M w h1 h2 => have h := dep_Edges_w hx4 h_l_logs h_l_body h_l_outs M w h1 h2; h) (fun X6 hF6 hle6 => ?_))
  refine WL.q rfl rfl rfl (QV.move rfl rfl) ?_
  refine WL.q rfl rfl rfl (QV.extract rfl rfl rfl) ?_
  refine WL.q rfl rfl rfl (QV.extract rfl rfl rfl) ?_
  refine WL.q rfl rfl rfl (QV.assign rfl rfl) ?_
  refine WL.q rfl rfl rfl (QV.assign rfl rfl) ?_
  refine WL.nil ?_
  refine WQ.then ?_
  refine WC.seq ?_
  refine WC.seq ?_
  refine WC.region ?_
  refine WL.q rfl rfl rfl (QV.loadAgg ag49 rfl rfl rfl (Own.cellsBlk 2 rfl)) ?_
  refine WL.q rfl rfl rfl (QV.loadAgg ag24 rfl rfl rfl (Own.cellsBlk 1 rfl)) ?_
  obtain ⟨x7, hx8, hm9⟩ := bd_some hm5; clear hm5
  refine WL.q rfl rfl rfl (QV.call en24 (EvAll.cons rfl rfl (EvAll.cons rfl rfl EvAll.nil)) (fun w hw => have h := roundelayref6_May_w w hx8 ((Own.karr 0 rfl hk (h_l_logs.le hle6)) w hw) ((Own.karr 0 rfl hk (h_l_body.le hle6)) w hw) ((Own.karr 0 rfl hk (h_l_outs.le hle6)) w hw); h)) ?_
  refine WL.q rfl rfl rfl (QV.not rfl rfl) ?_
  refine WL.nil ?_
  refine WQ.then ?_
  refine WC.cond rfl (fun h10 => ?_) (fun h10 => ?_)
  · skip
    have hm11 := br_t h10 hm9; clear hm9
    refine WC.seq ?_
    refine WC.region ?_
    refine WL.q rfl rfl rfl (QV.move rfl rfl) ?_
    refine WL.q rfl rfl rfl (QV.eql rfl rfl rfl rfl) ?_
    refine WL.q rfl rfl rfl (QV.move rfl rfl) ?_
    refine WL.g rfl rfl (GuardIs.pos rfl rfl) (fun hG => QV.move rfl rfl) ?_
    refine WL.g rfl rfl (GuardIs.pos rfl rfl) (fun hG => QV.lenS Try.underlying50 rfl hG hF6.lenMap) ?_
    refine WL.g rfl rfl (GuardIs.pos rfl rfl) (fun hG => QV.eql rfl hG rfl rfl) ?_
    refine WL.q rfl rfl rfl (QV.pickAnd rfl rfl rfl (fun h => h)) ?_
    refine WL.q rfl rfl rfl (QV.assign rfl rfl) ?_
    refine WL.nil ?_
    refine WQ.then ?_
    refine WC.ret ?_
    refine WQ.then_ret ?_
    obtain rfl := (eq_of_some hm11).symm
    refine WQ.ret1 rfl rfl (fun w hw => ?_)
    exact ⟨rfl, Own.kgrow (fun _ x => x) hw⟩
  · skip
    have hm12 := br_f h10 hm9; clear hm9
    refine WC.skip ?_
    refine WQ.then ?_
    refine WC.seq ?_
    refine WC.region ?_
    refine WL.q rfl rfl rfl (QV.loadAgg ag49 rfl rfl rfl (Own.cellsBlk 2 rfl)) ?_
    refine WL.q rfl rfl rfl (QV.loadAgg ag24 rfl rfl rfl (Own.cellsBlk 1 rfl)) ?_
    refine WL.effect rfl ?_
    obtain ⟨x13, hx14, hm15⟩ := bd_some hm12; clear hm12
    refine (EV.callR (X := Value × World) (R := []) (fun X => X.1) (fun X => []) (fun X => X.2) (fun X => Arr X.2 X.1 4 (x13.map Edg.cells)) hk (fun _ h => by cases h; decide) en25 (EvAll.cons rfl rfl (EvAll.cons rfl rfl EvAll.nil)) (fun M w h1 h2 => have h := roundelayref6_Edges_w hx14 (h_l_logs.le hle6) (h_l_body.le hle6) (h_l_outs.le hle6) M w h1 h2; h) (fun X16 hF16 hle16 => ?_))
    refine WL.q rfl rfl rfl (QV.assign rfl rfl) ?_
    refine WL.nil ?_
    refine WQ.then ?_
    refine WC.seq ?_
    refine WC.region ?_
    refine WL.q rfl rfl rfl (QV.move rfl rfl) ?_
    refine WL.q rfl rfl rfl (QV.eql rfl rfl rfl rfl) ?_
    refine WL.q rfl rfl rfl (QV.move rfl rfl) ?_
    refine WL.g rfl rfl (GuardIs.pos rfl rfl) (fun hG => QV.move rfl rfl) ?_
    refine WL.g rfl rfl (GuardIs.pos rfl rfl) (fun hG => QV.move rfl rfl) ?_
    obtain ⟨x17, hx18, hm19⟩ := bdG_some hm15; clear hm15
    refine WL.g rfl rfl (GuardIs.pos rfl rfl) (fun hG => QV.call en26 (EvAll.cons rfl hG (EvAll.cons rfl hG EvAll.nil)) (fun w hw => have h := roundelaylaw_edges_w w (hx18 hG) ((Own.karr 0 rfl hk (hF6.le hle16)) w hw) ((Own.karr 0 rfl hk hF16) w hw); h)) ?_
    refine WL.q rfl rfl rfl (QV.pickAnd rfl rfl rfl (fun h => h)) ?_
    refine WL.q rfl rfl rfl (QV.assign rfl rfl) ?_
    refine WL.nil ?_
    refine WQ.then ?_
    refine WC.ret ?_
    obtain rfl := (eq_of_some hm19).symm
    refine WQ.ret1 rfl rfl (fun w hw => ?_)
    exact ⟨rfl, Own.kgrow (fun _ x => x) hw⟩

set_option maxRecDepth 8000 in
theorem roundelaykeep_DepForward_w {v_l_logs : Value} {v_l_body : Value} {v_l_outs : Value} {l : Lp} {t : Tgt} {r : Bool} (w : World) (hm : roundelaykeep_DepForward_m l t = some r) (h_l_logs : Arr w v_l_logs 1 (l.logs.map icell)) (h_l_body : Arr w v_l_body 9 (l.body.map Stm.cells)) (h_l_outs : Arr w v_l_outs 1 (l.outs.map icell)) : Calls Try.prog 6 #[.agg #[v_l_logs, v_l_body, v_l_outs], .agg #[.int .i64 t.u0, .int .i64 t.u1, .int .i64 t.u2, .int .i64 t.w0, .int .i64 t.w1, .int .i64 t.w2, .int .i64 t.regs]] w (fun e w' => e = .returned (.bool r) ∧ Grow w w') := by
  unfold roundelaykeep_DepForward_m at hm
  have hk := Base.rfl (w := w)
  refine calls_of_WC (n := 146) (args := [.agg #[v_l_logs, v_l_body, v_l_outs], .agg #[.int .i64 t.u0, .int .i64 t.u1, .int .i64 t.u2, .int .i64 t.w0, .int .i64 t.w1, .int .i64 t.w2, .int .i64 t.regs]]) Try.func6 rfl rfl (Nat.le_of_ble_eq_true rfl) ?_ (Own.startK hk (Own.start w))
  refine WC.seq ?_
  refine WC.region ?_
  refine WL.effect rfl ?_
  refine (EV.boxAgg (by decide) rfl rfl (fun b1 => ?_))
  refine WL.effect rfl ?_
  refine (EV.boxAgg (by decide) rfl rfl (fun b2 => ?_))
  refine WL.q rfl rfl rfl (QV.assign rfl rfl) ?_
  refine WL.nil ?_
  refine WQ.then ?_
  refine WC.seq ?_
  refine WC.region ?_
  refine WL.q rfl rfl rfl (QV.build (ps := [(0, .const (.int .i64 2))]) (cells := [.int .i64 2, .int .i64 0, .int .i64 0, .int .i64 0, .int .i64 0, .int .i64 0, .int .i64 0, .int .i64 0, .int .i64 0]) (EvAll.cons rfl rfl EvAll.nil) (by kernel_rfl)) ?_
  refine WL.q rfl rfl rfl (QV.build (ps := [(0, .const (.int .i64 11))]) (cells := [.int .i64 11, .int .i64 0, .int .i64 0, .int .i64 0, .int .i64 0, .int .i64 0, .int .i64 0, .int .i64 0, .int .i64 0]) (EvAll.cons rfl rfl EvAll.nil) (by kernel_rfl)) ?_
  refine WL.effect rfl ?_
  refine (EV.buildSlice (by decide) sz_47 (by decide) (by decide) (ps := [(0, .tmp 14), (1, .tmp 15)]) (cells := [.int .i64 2, .int .i64 0, .int .i64 0, .int .i64 0, .int .i64 0, .int .i64 0, .int .i64 0, .int .i64 0, .int .i64 0, .int .i64 11, .int .i64 0, .int .i64 0, .int .i64 0, .int .i64 0, .int .i64 0, .int .i64 0, .int .i64 0, .int .i64 0]) (EvAll.cons rfl rfl (EvAll.cons rfl rfl EvAll.nil)) (by kernel_rfl) (fun b3 => ?_))
  refine WL.q rfl rfl rfl (QV.buildS (ps := [(1, .tmp 16)]) (cells := [.slice none 0 0, (blkSlice b3 2 2), .slice none 0 0]) (css := [[(blkSlice b3 2 2)]]) (EvAll.cons rfl rfl EvAll.nil) (CellsAll.cons (SliceLen.cells SliceLen.blk) CellsAll.nil) (by kernel_rfl)) ?_
  refine WL.effect rfl ?_
  refine (EV.alloc (by decide) ze49 (fun b4 => ?_))
  refine WL.effect rfl ?_
  refine (EV.store 0 rfl rfl rfl rfl rfl rfl (vs := [.slice none 0 0, (blkSlice b3 2 2), .slice none 0 0]) (show Value.cells _ = List.toArray _ from rfl) sz49 (Nat.le_of_ble_eq_true rfl) (one_cons rfl (one_cons (SliceLen.one SliceLen.blk) (one_cons rfl one_nil))) ?_)
  refine WL.nil ?_
  refine WQ.then ?_
  refine WC.seq ?_
  refine WC.region ?_
  refine WL.q rfl rfl rfl (QV.build (ps := [(0, .const (.int .i64 1)), (1, .const (.int .i64 1)), (2, .const (.int .i64 1))]) (cells := [.int .i64 1, .int .i64 1, .int .i64 1]) (EvAll.cons rfl rfl (EvAll.cons rfl rfl (EvAll.cons rfl rfl EvAll.nil))) (by kernel_rfl)) ?_
  refine WL.q rfl rfl rfl (QV.build (ps := [(0, .const (.int .i64 1)), (1, .const (.int .i64 1)), (2, .const (.int .i64 1))]) (cells := [.int .i64 1, .int .i64 1, .int .i64 1]) (EvAll.cons rfl rfl (EvAll.cons rfl rfl (EvAll.cons rfl rfl EvAll.nil))) (by kernel_rfl)) ?_
  refine WL.q rfl rfl rfl (QV.build (ps := [(0, .tmp 18), (1, .tmp 19), (2, .const (.int .i64 1))]) (cells := [.int .i64 1, .int .i64 1, .int .i64 1, .int .i64 1, .int .i64 1, .int .i64 1, .int .i64 1]) (EvAll.cons rfl rfl (EvAll.cons rfl rfl (EvAll.cons rfl rfl EvAll.nil))) (by kernel_rfl)) ?_
  refine WL.effect rfl ?_
  refine (EV.alloc (by decide) ze24 (fun b5 => ?_))
  refine WL.effect rfl ?_
  refine (EV.store 0 rfl rfl rfl rfl rfl rfl (vs := [.int .i64 1, .int .i64 1, .int .i64 1, .int .i64 1, .int .i64 1, .int .i64 1, .int .i64 1]) (show Value.cells _ = List.toArray _ from rfl) sz24 (Nat.le_of_ble_eq_true rfl) (one_cons rfl (one_cons rfl (one_cons rfl (one_cons rfl (one_cons rfl (one_cons rfl (one_cons rfl one_nil))))))) ?_)
  refine WL.nil ?_
  refine WQ.then ?_
  refine WC.seq ?_
  refine WC.region ?_
  refine WL.q rfl rfl rfl (QV.loadAgg ag49 rfl rfl rfl (Own.cellsBlk 1 rfl)) ?_
  refine WL.q rfl rfl rfl (QV.loadAgg ag24 rfl rfl rfl (Own.cellsBlk 0 rfl)) ?_
  refine WL.effect rfl ?_
  refine EV.of (C' := Own noM w [blk b3 [.int .i64 2, .int .i64 0, .int .i64 0, .int .i64 0, .int .i64 0, .int .i64 0, .int .i64 0, .int .i64 0, .int .i64 0, .int .i64 11, .int .i64 0, .int .i64 0, .int .i64 0, .int .i64 0, .int .i64 0, .int .i64 0, .int .i64 0, .int .i64 0] 59, blk b5 [.int .i64 1, .int .i64 1, .int .i64 1, .int .i64 1, .int .i64 1, .int .i64 1, .int .i64 1] 24, blk b4 [.slice none 0 0, (blkSlice b3 2 2), .slice none 0 0] 49, blk b2 [.int .i64 t.u0, .int .i64 t.u1, .int .i64 t.u2, .int .i64 t.w0, .int .i64 t.w1, .int .i64 t.w2, .int .i64 t.regs] 24, blk b1 [v_l_logs, v_l_body, v_l_outs] 49, kn noM w.heap.size w w]) (fun w hw => hw.pick [2, 0, 1, 3, 4, 5] (by decide)) ?_
  refine EV.of (fun w hw => hw.blkVec Stm.cells ([(Stm.mk 2 (Rf.mk 0 0) (Rf.mk 0 0) 0 0 0 0), (Stm.mk 11 (Rf.mk 0 0) (Rf.mk 0 0) 0 0 0 0)] : List Stm) rfl Stm.cells_len (Nat.le_of_ble_eq_true rfl)) ?_
  refine EV.of (C' := Own noM w [kn noM w.heap.size w w, vec (blkSlice b3 2 2) 59 9 (List.map Stm.cells [(Stm.mk 2 (Rf.mk 0 0) (Rf.mk 0 0) 0 0 0 0), (Stm.mk 11 (Rf.mk 0 0) (Rf.mk 0 0) 0 0 0 0)]), blk b5 [.int .i64 1, .int .i64 1, .int .i64 1, .int .i64 1, .int .i64 1, .int .i64 1, .int .i64 1] 24, blk b4 [.slice none 0 0, (blkSlice b3 2 2), .slice none 0 0] 49, blk b2 [.int .i64 t.u0, .int .i64 t.u1, .int .i64 t.u2, .int .i64 t.w0, .int .i64 t.w1, .int .i64 t.w2, .int .i64 t.regs] 24, blk b1 [v_l_logs, v_l_body, v_l_outs] 49]) (fun w hw => hw.pick [5, 0, 1, 2, 3, 4] (by decide)) ?_
  refine EV.freeze hk (fun k6 hle6 hr6 => ?_)
  have hA6 := vec_arr hr6
  obtain ⟨x7, hx8, hm9⟩ := bd_some hm; clear hm
  refine (EV.callR (X := Value × World) (R := []) (fun X => .tuple #[X.1, .int .i64 x7.2]) (fun X => []) (fun X => X.2) (fun X => Arr X.2 X.1 4 (x7.1.map Edg.cells)) hk (fun _ h => by cases h; decide) en23 (EvAll.cons rfl rfl (EvAll.cons rfl rfl EvAll.nil)) (fun M w h1 h2 => have h := dep_Edges_w hx8 Arr.nil hA6 Arr.nil M w h1 h2; h) (fun X10 hF10 hle10 => ?_))
  refine WL.q rfl rfl rfl (QV.move rfl rfl) ?_
  refine WL.q rfl rfl rfl (QV.extract rfl rfl rfl) ?_
  refine WL.q rfl rfl rfl (QV.extract rfl rfl rfl) ?_
  refine WL.q rfl rfl rfl (QV.assign rfl rfl) ?_
  refine WL.q rfl rfl rfl (QV.assign rfl rfl) ?_
  refine WL.nil ?_
  refine WQ.then ?_
  refine WC.seq ?_
  refine WC.seq ?_
  refine WC.region ?_
  refine WL.q rfl rfl rfl (QV.move rfl rfl) ?_
  refine WL.q rfl rfl rfl (QV.lenS Try.underlying50 rfl rfl hF10.lenMap) ?_
  refine WL.q rfl rfl rfl (QV.neq rfl rfl rfl rfl) ?_
  refine WL.nil ?_
  refine WQ.then ?_
  refine WC.cond rfl (fun h11 => ?_) (fun h11 => ?_)
  · skip
    have hm12 := br_t h11 hm9; clear hm9
    refine WC.seq ?_
    refine WC.region ?_
    refine WL.q rfl rfl rfl (QV.assign rfl rfl) ?_
    refine WL.nil ?_
    refine WQ.then ?_
    refine WC.ret ?_
    refine WQ.then_ret ?_
    obtain rfl := (eq_of_some hm12).symm
    refine WQ.ret1 rfl rfl (fun w hw => ?_)
    exact ⟨rfl, Own.kgrow (fun _ x => x) hw⟩
  · skip
    have hm13 := br_f h11 hm9; clear hm9
    refine WC.skip ?_
    refine WQ.then ?_
    refine WC.seq ?_
    refine WC.region ?_
    refine WL.q rfl rfl rfl (QV.loadAgg ag49 rfl rfl rfl (Own.cellsBlk 4 rfl)) ?_
    refine WL.q rfl rfl rfl (QV.loadAgg ag24 rfl rfl rfl (Own.cellsBlk 3 rfl)) ?_
    refine WL.effect rfl ?_
    obtain ⟨x14, hx15, hm16⟩ := bd_some hm13; clear hm13
    refine (EV.callR (X := Value × World) (R := []) (fun X => .tuple #[X.1, .int .i64 x14.2]) (fun X => []) (fun X => X.2) (fun X => Arr X.2 X.1 4 (x14.1.map Edg.cells)) hk (fun _ h => by cases h; decide) en23 (EvAll.cons rfl rfl (EvAll.cons rfl rfl EvAll.nil)) (fun M w h1 h2 => have h := dep_Edges_w hx15 (h_l_logs.le (hle6.trans hle10)) (h_l_body.le (hle6.trans hle10)) (h_l_outs.le (hle6.trans hle10)) M w h1 h2; h) (fun X17 hF17 hle17 => ?_))
    refine WL.q rfl rfl rfl (QV.move rfl rfl) ?_
    refine WL.q rfl rfl rfl (QV.extract rfl rfl rfl) ?_
    refine WL.q rfl rfl rfl (QV.extract rfl rfl rfl) ?_
    refine WL.q rfl rfl rfl (QV.assign rfl rfl) ?_
    refine WL.q rfl rfl rfl (QV.assign rfl rfl) ?_
    refine WL.nil ?_
    refine WQ.then ?_
    refine WC.seq ?_
    refine WC.seq ?_
    refine WC.region ?_
    refine WL.q rfl rfl rfl (QV.move rfl rfl) ?_
    refine WL.q rfl rfl rfl (QV.neq rfl rfl rfl rfl) ?_
    refine WL.nil ?_
    refine WQ.then ?_
    refine WC.cond rfl (fun h18 => ?_) (fun h18 => ?_)
    · skip
      have hm19 := br_t h18 hm16; clear hm16
      refine WC.seq ?_
      refine WC.region ?_
      refine WL.q rfl rfl rfl (QV.move rfl rfl) ?_
      refine WL.q rfl rfl rfl (QV.eql rfl rfl rfl rfl) ?_
      refine WL.q rfl rfl rfl (QV.move rfl rfl) ?_
      refine WL.g rfl rfl (GuardIs.pos rfl rfl) (fun hG => QV.move rfl rfl) ?_
      refine WL.g rfl rfl (GuardIs.pos rfl rfl) (fun hG => QV.lenS Try.underlying50 rfl hG hF17.lenMap) ?_
      refine WL.g rfl rfl (GuardIs.pos rfl rfl) (fun hG => QV.eql rfl hG rfl rfl) ?_
      refine WL.q rfl rfl rfl (QV.pickAnd rfl rfl rfl (fun h => h)) ?_
      refine WL.q rfl rfl rfl (QV.assign rfl rfl) ?_
      refine WL.nil ?_
      refine WQ.then ?_
      refine WC.ret ?_
      refine WQ.then_ret ?_
      obtain rfl := (eq_of_some hm19).symm
      refine WQ.ret1 rfl rfl (fun w hw => ?_)
      exact ⟨rfl, Own.kgrow (fun _ x => x) hw⟩
    · skip
      have hm20 := br_f h18 hm16; clear hm16
      refine WC.skip ?_
      refine WQ.then ?_
      refine WC.seq ?_
      refine WC.region ?_
      refine WL.q rfl rfl rfl (QV.fieldAddr fd49_1 rfl rfl) ?_
      refine WL.q rfl rfl rfl (QV.load pl47 rfl rfl (Own.cell 4 rfl rfl)) ?_
      refine WL.q rfl rfl rfl (QV.lenS Try.underlying47 rfl rfl (h_l_body.le ((hle6.trans hle10).trans hle17)).lenMap) ?_
      refine WL.q rfl rfl rfl (QV.assign rfl rfl) ?_
      refine WL.nil ?_
      refine WQ.then ?_
      refine WC.seq ?_
      refine WC.seq ?_
      refine WC.region ?_
      refine WL.q rfl rfl rfl (QV.assign rfl rfl) ?_
      refine WL.nil ?_
      refine WQ.then ?_
      obtain ⟨o21, ho22, hm23⟩ := bd_some hm20; clear hm20; obtain ⟨n24, ho25⟩ := lp_some ho22
      refine WC.bloop1 (H2 := [kn noM w.heap.size w X17.2, blk b5 [.int .i64 1, .int .i64 1, .int .i64 1, .int .i64 1, .int .i64 1, .int .i64 1, .int .i64 1] 24, blk b4 [.slice none 0 0, (blkSlice b3 2 2), .slice none 0 0] 49, blk b2 [.int .i64 t.u0, .int .i64 t.u1, .int .i64 t.u2, .int .i64 t.w0, .int .i64 t.w1, .int .i64 t.w2, .int .i64 t.regs] 24, blk b1 [v_l_logs, v_l_body, v_l_outs] 49]) (τ := [(9, (true, _)), (11, (true, _))]) (fun (i12_1 : Int) => [(12, (true, .int .i64 i12_1))]) (fun (i12_1 : Int) => []) (fun (i12_1 : Int) (m : Nat) => iter (roundelaykeep_DepForward_L0 l x14) m i12_1 = some o21) (fun (i12_1 : Int) => o21 = .go i12_1) 0 n24 ho25 ⟨rfl, rfl, rfl, trivial⟩ (fun w hw => hw.pick [0, 1, 2, 3, 4] (by decide)) ?_ ?_
      · skip
        rintro i12_1 rfl
        refine WQ.then ?_
        refine WC.seq ?_
        refine WC.region ?_
        refine WL.q rfl rfl rfl (QV.move rfl rfl) ?_
        refine WL.q rfl rfl rfl (QV.gtr rfl rfl rfl rfl) ?_
        refine WL.q rfl rfl rfl (QV.assign rfl rfl) ?_
        refine WL.nil ?_
        refine WQ.then ?_
        refine WC.ret ?_
        obtain rfl := (eq_of_some hm23).symm
        refine WQ.ret1 rfl rfl (fun w hw => ?_)
        exact ⟨rfl, Own.kgrow (fun _ x => x) hw⟩
      · skip
        rintro i12_1 m26 hI27
        obtain ⟨m28, s29, rfl, hm30, hn31⟩ := iter_step hI27; clear hI27; unfold roundelaykeep_DepForward_L0 at hm30
        refine WC.seq ?_
        refine WC.seq ?_
        refine WC.region ?_
        refine WL.q rfl rfl rfl (QV.move rfl rfl) ?_
        refine WL.q rfl rfl rfl (QV.move rfl rfl) ?_
        refine WL.q rfl rfl rfl (QV.lenS Try.underlying50 rfl rfl hF17.lenMap) ?_
        refine WL.q rfl rfl rfl (QV.lss rfl rfl rfl rfl) ?_
        refine WL.nil ?_
        refine WQ.then ?_
        refine WC.cond rfl (fun h32 => ?_) (fun h32 => ?_)
        · skip
          have hm33 := br_t h32 hm30; clear hm30
          refine WC.skip ?_
          refine WQ.then ?_
          refine WC.seq ?_
          refine WC.block ?_
          refine WC.seq ?_
          refine WC.region ?_
          refine WL.q rfl rfl rfl (QV.move rfl rfl) ?_
          refine WL.q rfl rfl rfl (QV.move rfl rfl) ?_
          obtain ⟨c34, hm35⟩ := ck_some hm33; clear hm33
          obtain ⟨p36, hp37⟩ := hF17.lenMap.ix (sz := 4) ln_len c34
          refine WL.q rfl rfl rfl (QV.indexSlice sl50 rfl rfl rfl rfl hp37) ?_
          refine WL.q rfl rfl rfl (QV.loadAgg ag61 rfl rfl rfl (fun w hw => ((Own.karr 0 rfl hk hF17) w hw).ele hp37 c34)) ?_
          refine WL.effect rfl ?_
          refine (EV.alloc (by decide) ze61 (fun b38 => ?_))
          refine WL.effect rfl ?_
          refine (EV.store 0 rfl rfl rfl rfl rfl rfl (vs := [.int .i64 ((ele x14.1 i12_1).fr), .int .i64 ((ele x14.1 i12_1).to), .int .i64 ((ele x14.1 i12_1).bk), .int .i64 ((ele x14.1 i12_1).wt)]) (show Value.cells _ = List.toArray _ from rfl) sz61 (Nat.le_of_ble_eq_true rfl) (one_cons rfl (one_cons rfl (one_cons rfl (one_cons rfl one_nil)))) ?_)
          refine WL.nil ?_
          refine WQ.then ?_
          refine WC.seq ?_
          refine WC.seq ?_
          refine WC.region ?_
          refine WL.q rfl rfl rfl (QV.fieldAddr fd61_0 rfl rfl) ?_
          refine WL.q rfl rfl rfl (QV.load pl3 rfl rfl (Own.cell 0 rfl rfl)) ?_
          refine WL.q rfl rfl rfl (QV.lss rfl rfl rfl rfl) ?_
          refine WL.q rfl rfl rfl (QV.move rfl rfl) ?_
          refine WL.g rfl rfl (GuardIs.neg rfl rfl) (fun hG => QV.fieldAddr fd61_1 rfl rfl) ?_
          refine WL.g rfl rfl (GuardIs.neg rfl rfl) (fun hG => QV.load pl3 rfl hG (Own.cell 0 rfl rfl)) ?_
          refine WL.g rfl rfl (GuardIs.neg rfl rfl) (fun hG => QV.lss rfl hG rfl rfl) ?_
          refine WL.q rfl rfl rfl (QV.pickOr rfl rfl rfl (fun h => notF h)) ?_
          refine WL.q rfl rfl rfl (QV.move rfl rfl) ?_
          refine WL.g rfl rfl (GuardIs.neg rfl rfl) (fun hG => QV.fieldAddr fd61_0 rfl rfl) ?_
          refine WL.g rfl rfl (GuardIs.neg rfl rfl) (fun hG => QV.load pl3 rfl hG (Own.cell 0 rfl rfl)) ?_
          refine WL.g rfl rfl (GuardIs.neg rfl rfl) (fun hG => QV.move rfl rfl) ?_
          refine WL.g rfl rfl (GuardIs.neg rfl rfl) (fun hG => QV.geq rfl hG rfl hG) ?_
          refine WL.q rfl rfl rfl (QV.pickOr rfl rfl rfl (fun h => notF h)) ?_
          refine WL.q rfl rfl rfl (QV.move rfl rfl) ?_
          refine WL.g rfl rfl (GuardIs.neg rfl rfl) (fun hG => QV.fieldAddr fd61_1 rfl rfl) ?_
          refine WL.g rfl rfl (GuardIs.neg rfl rfl) (fun hG => QV.load pl3 rfl hG (Own.cell 0 rfl rfl)) ?_
          refine WL.g rfl rfl (GuardIs.neg rfl rfl) (fun hG => QV.move rfl rfl) ?_
          refine WL.g rfl rfl (GuardIs.neg rfl rfl) (fun hG => QV.geq rfl hG rfl hG) ?_
          refine WL.q rfl rfl rfl (QV.pickOr rfl rfl rfl (fun h => notF h)) ?_
          refine WL.q rfl rfl rfl (QV.move rfl rfl) ?_
          refine WL.g rfl rfl (GuardIs.neg rfl rfl) (fun hG => QV.fieldAddr fd61_2 rfl rfl) ?_
          refine WL.g rfl rfl (GuardIs.neg rfl rfl) (fun hG => QV.load pl3 rfl hG (Own.cell 0 rfl rfl)) ?_
          refine WL.g rfl rfl (GuardIs.neg rfl rfl) (fun hG => QV.lss rfl hG rfl rfl) ?_
          refine WL.q rfl rfl rfl (QV.pickOr rfl rfl rfl (fun h => notF h)) ?_
          refine WL.q rfl rfl rfl (QV.move rfl rfl) ?_
          refine WL.g rfl rfl (GuardIs.neg rfl rfl) (fun hG => QV.fieldAddr fd61_3 rfl rfl) ?_
          refine WL.g rfl rfl (GuardIs.neg rfl rfl) (fun hG => QV.load pl3 rfl hG (Own.cell 0 rfl rfl)) ?_
          refine WL.g rfl rfl (GuardIs.neg rfl rfl) (fun hG => QV.lss rfl hG rfl rfl) ?_
          refine WL.q rfl rfl rfl (QV.pickOr rfl rfl rfl (fun h => notF h)) ?_
          refine WL.q rfl rfl rfl (QV.move rfl rfl) ?_
          refine WL.g rfl rfl (GuardIs.neg rfl rfl) (fun hG => QV.fieldAddr fd61_2 rfl rfl) ?_
          refine WL.g rfl rfl (GuardIs.neg rfl rfl) (fun hG => QV.load pl3 rfl hG (Own.cell 0 rfl rfl)) ?_
          refine WL.g rfl rfl (GuardIs.neg rfl rfl) (fun hG => QV.eql rfl hG rfl rfl) ?_
          refine WL.g rfl rfl (GuardIs.neg rfl rfl) (fun hG => QV.move rfl hG) ?_
          refine WL.g rfl rfl (GuardIs.posC rfl rfl) (fun hG => QV.fieldAddr fd61_0 rfl rfl) ?_
          refine WL.g rfl rfl (GuardIs.posC rfl rfl) (fun hG => QV.load pl3 rfl hG (Own.cell 0 rfl rfl)) ?_
          refine WL.g rfl rfl (GuardIs.posC rfl rfl) (fun hG => QV.fieldAddr fd61_1 rfl rfl) ?_
          refine WL.g rfl rfl (GuardIs.posC rfl rfl) (fun hG => QV.load pl3 rfl hG (Own.cell 0 rfl rfl)) ?_
          refine WL.g rfl rfl (GuardIs.posC rfl rfl) (fun hG => QV.geq rfl hG rfl hG) ?_
          refine WL.g rfl rfl (GuardIs.neg rfl rfl) (fun hG => QV.pickAnd rfl hG rfl (fun h => andT hG h)) ?_
          refine WL.q rfl rfl rfl (QV.pickOr rfl rfl rfl (fun h => notF h)) ?_
          refine WL.nil ?_
          refine WQ.then ?_
          refine WC.cond rfl (fun h39 => ?_) (fun h39 => ?_)
          · skip
            have hm40 := br_t h39 hm35; clear hm35
            refine WC.seq ?_
            refine WC.region ?_
            refine WL.q rfl rfl rfl (QV.assign rfl rfl) ?_
            refine WL.nil ?_
            refine WQ.then ?_
            refine WC.ret ?_
            refine WQ.then_ret ?_
            refine WQ.block_ret ?_
            refine WQ.then_ret ?_
            refine WQ.then_ret ?_
            refine WQ.block_ret ?_
            refine WQ.then_ret ?_
            refine WQ.then_ret ?_
            obtain rfl := up_ret hm40 hn31
            obtain rfl := (eq_of_some hm23).symm
            refine WQ.ret1 rfl rfl (fun w hw => ?_)
            exact ⟨rfl, Own.kgrow (fun _ x => x) hw⟩
          · skip
            have hm41 := br_f h39 hm35; clear hm35
            refine WC.skip ?_
            refine WQ.then ?_
            refine WC.seq ?_
            refine WC.dr (m := 44) (S := Own noM w [kn noM w.heap.size w X17.2, blk b38 [.int .i64 ((ele x14.1 i12_1).fr), .int .i64 ((ele x14.1 i12_1).to), .int .i64 ((ele x14.1 i12_1).bk), .int .i64 ((ele x14.1 i12_1).wt)] 61, blk b5 [.int .i64 1, .int .i64 1, .int .i64 1, .int .i64 1, .int .i64 1, .int .i64 1, .int .i64 1] 24, blk b4 [.slice none 0 0, (blkSlice b3 2 2), .slice none 0 0] 49, blk b2 [.int .i64 t.u0, .int .i64 t.u1, .int .i64 t.u2, .int .i64 t.w0, .int .i64 t.w1, .int .i64 t.w2, .int .i64 t.regs] 24, blk b1 [v_l_logs, v_l_body, v_l_outs] 49]) (by kernel_rfl) (by kernel_rfl) (fun w hw => hw.pick [1, 0, 2, 3, 4, 5] (by decide)) ?_
            refine WD.q 0 rfl (by kernel_rfl) rfl rfl rfl (QV.move rfl rfl) ?_
            refine WD.q 1 rfl (by kernel_rfl) rfl rfl rfl (QV.gtr rfl rfl rfl rfl) ?_
            refine WD.q 2 rfl (by kernel_rfl) rfl rfl rfl (QV.move rfl rfl) ?_
            refine WD.g 3 rfl (by kernel_rfl) rfl rfl (GuardIs.pos rfl rfl) (fun hG => QV.move rfl rfl) ?_
            refine WD.g 4 rfl (by kernel_rfl) rfl rfl (GuardIs.pos rfl rfl) (fun hG => QV.move rfl rfl) ?_
            obtain ⟨c42, hm43⟩ := ck_some hm41; clear hm41
            refine WD.g 5 rfl (by kernel_rfl) rfl rfl (GuardIs.pos rfl rfl) (fun hG => QV.sub rfl hG rfl rfl (c42 hG)) ?_
            obtain ⟨c44, hm45⟩ := ck_some hm43; clear hm43
            obtain ⟨p46, hp47⟩ := hF17.lenMap.ixG (sz := 4) ln_len c44
            refine WD.g 6 rfl (by kernel_rfl) rfl rfl (GuardIs.pos rfl rfl) (fun hG => QV.indexSlice sl50 rfl hG rfl hG (hp47 hG)) ?_
            refine WD.g 7 rfl (by kernel_rfl) rfl rfl (GuardIs.pos rfl rfl) (fun hG => QV.fieldAddr fd61_0 rfl hG) ?_
            refine WD.g 8 rfl (by kernel_rfl) rfl rfl (GuardIs.pos rfl rfl) (fun hG => QV.load pl3 rfl hG (fun w hw => CellsAt.one 0 (((Own.karr 0 rfl hk hF17) w hw).ele (hp47 hG) (c44 hG)) rfl)) ?_
            refine WD.g 9 rfl (by kernel_rfl) rfl rfl (GuardIs.pos rfl rfl) (fun hG => QV.fieldAddr fd61_0 rfl rfl) ?_
            refine WD.g 10 rfl (by kernel_rfl) rfl rfl (GuardIs.pos rfl rfl) (fun hG => QV.load pl3 rfl hG (Own.cell 1 rfl rfl)) ?_
            refine WD.g 11 rfl (by kernel_rfl) rfl rfl (GuardIs.pos rfl rfl) (fun hG => QV.gtr rfl hG rfl hG) ?_
            refine WD.g 12 rfl (by kernel_rfl) rfl rfl (GuardIs.pos rfl rfl) (fun hG => QV.move rfl hG) ?_
            refine WD.g 13 rfl (by kernel_rfl) rfl rfl (GuardIs.negC rfl rfl) (fun hG => QV.move rfl rfl) ?_
            refine WD.g 14 rfl (by kernel_rfl) rfl rfl (GuardIs.negC rfl rfl) (fun hG => QV.move rfl rfl) ?_
            obtain ⟨c48, hm49⟩ := ck_some hm45; clear hm45
            refine WD.g 15 rfl (by kernel_rfl) rfl rfl (GuardIs.negC rfl rfl) (fun hG => QV.sub rfl hG rfl rfl (c48 hG)) ?_
            obtain ⟨c50, hm51⟩ := ck_some hm49; clear hm49
            obtain ⟨p52, hp53⟩ := hF17.lenMap.ixG (sz := 4) ln_len c50
            refine WD.g 16 rfl (by kernel_rfl) rfl rfl (GuardIs.negC rfl rfl) (fun hG => QV.indexSlice sl50 rfl hG rfl hG (hp53 hG)) ?_
            refine WD.g 17 rfl (by kernel_rfl) rfl rfl (GuardIs.negC rfl rfl) (fun hG => QV.fieldAddr fd61_0 rfl hG) ?_
            refine WD.g 18 rfl (by kernel_rfl) rfl rfl (GuardIs.negC rfl rfl) (fun hG => QV.load pl3 rfl hG (fun w hw => CellsAt.one 0 (((Own.karr 0 rfl hk hF17) w hw).ele (hp53 hG) (c50 hG)) rfl)) ?_
            refine WD.g 19 rfl (by kernel_rfl) rfl rfl (GuardIs.negC rfl rfl) (fun hG => QV.fieldAddr fd61_0 rfl rfl) ?_
            refine WD.g 20 rfl (by kernel_rfl) rfl rfl (GuardIs.negC rfl rfl) (fun hG => QV.load pl3 rfl hG (Own.cell 1 rfl rfl)) ?_
            refine WD.g 21 rfl (by kernel_rfl) rfl rfl (GuardIs.negC rfl rfl) (fun hG => QV.eql rfl hG rfl hG) ?_
            refine WD.g 22 rfl (by kernel_rfl) rfl rfl (GuardIs.negC rfl rfl) (fun hG => QV.move rfl hG) ?_
            refine WD.g 23 rfl (by kernel_rfl) rfl rfl (GuardIs.posC rfl rfl) (fun hG => QV.move rfl rfl) ?_
            refine WD.g 24 rfl (by kernel_rfl) rfl rfl (GuardIs.posC rfl rfl) (fun hG => QV.move rfl rfl) ?_
            obtain ⟨c54, hm55⟩ := ck_some hm51; clear hm51
            refine WD.g 25 rfl (by kernel_rfl) rfl rfl (GuardIs.posC rfl rfl) (fun hG => QV.sub rfl hG rfl rfl (c54 hG)) ?_
            obtain ⟨c56, hm57⟩ := ck_some hm55; clear hm55
            obtain ⟨p58, hp59⟩ := hF17.lenMap.ixG (sz := 4) ln_len c56
            refine WD.g 26 rfl (by kernel_rfl) rfl rfl (GuardIs.posC rfl rfl) (fun hG => QV.indexSlice sl50 rfl hG rfl hG (hp59 hG)) ?_
            refine WD.g 27 rfl (by kernel_rfl) rfl rfl (GuardIs.posC rfl rfl) (fun hG => QV.fieldAddr fd61_1 rfl hG) ?_
            refine WD.g 28 rfl (by kernel_rfl) rfl rfl (GuardIs.posC rfl rfl) (fun hG => QV.load pl3 rfl hG (fun w hw => CellsAt.one 1 (((Own.karr 0 rfl hk hF17) w hw).ele (hp59 hG) (c56 hG)) rfl)) ?_
            refine WD.g 29 rfl (by kernel_rfl) rfl rfl (GuardIs.posC rfl rfl) (fun hG => QV.fieldAddr fd61_1 rfl rfl) ?_
            refine WD.g 30 rfl (by kernel_rfl) rfl rfl (GuardIs.posC rfl rfl) (fun hG => QV.load pl3 rfl hG (Own.cell 1 rfl rfl)) ?_
            refine WD.g 31 rfl (by kernel_rfl) rfl rfl (GuardIs.posC rfl rfl) (fun hG => QV.gtr rfl hG rfl hG) ?_
            refine WD.g 32 rfl (by kernel_rfl) rfl rfl (GuardIs.negC rfl rfl) (fun hG => QV.pickAnd rfl hG rfl (fun h => andT hG h)) ?_
            refine WD.g 33 rfl (by kernel_rfl) rfl rfl (GuardIs.pos rfl rfl) (fun hG => QV.pickOr rfl hG rfl (fun h => andN hG h)) ?_
            refine WD.g 34 rfl (by kernel_rfl) rfl rfl (GuardIs.pos rfl rfl) (fun hG => QV.move rfl hG) ?_
            refine WD.g 35 rfl (by kernel_rfl) rfl rfl (GuardIs.negC rfl rfl) (fun hG => QV.move rfl rfl) ?_
            refine WD.g 36 rfl (by kernel_rfl) rfl rfl (GuardIs.negC rfl rfl) (fun hG => QV.move rfl rfl) ?_
            obtain ⟨c60, hm61⟩ := ck_some hm57; clear hm57
            refine WD.g 37 rfl (by kernel_rfl) rfl rfl (GuardIs.negC rfl rfl) (fun hG => QV.sub rfl hG rfl rfl (c60 hG)) ?_
            obtain ⟨c62, hm63⟩ := ck_some hm61; clear hm61
            obtain ⟨p64, hp65⟩ := hF17.lenMap.ixG (sz := 4) ln_len c62
            refine WD.g 38 rfl (by kernel_rfl) rfl rfl (GuardIs.negC rfl rfl) (fun hG => QV.indexSlice sl50 rfl hG rfl hG (hp65 hG)) ?_
            refine WD.g 39 rfl (by kernel_rfl) rfl rfl (GuardIs.negC rfl rfl) (fun hG => QV.loadAgg ag61 rfl rfl hG (fun w hw => ((Own.karr 0 rfl hk hF17) w hw).ele (hp65 hG) (c62 hG))) ?_
            refine WD.g 40 rfl (by kernel_rfl) rfl rfl (GuardIs.negC rfl rfl) (fun hG => QV.loadAgg ag61 rfl rfl rfl (Own.cellsBlk 1 rfl)) ?_
            refine WD.g 41 rfl (by kernel_rfl) rfl rfl (GuardIs.negC rfl rfl) (fun hG => QV.eqlF eq61 (ns := [(ele x14.1 (i12_1 - 1)).fr, (ele x14.1 (i12_1 - 1)).to, (ele x14.1 (i12_1 - 1)).bk, (ele x14.1 (i12_1 - 1)).wt]) (ms := [(ele x14.1 i12_1).fr, (ele x14.1 i12_1).to, (ele x14.1 i12_1).bk, (ele x14.1 i12_1).wt]) rfl hG rfl hG rfl rfl) ?_
            refine WD.g 42 rfl (by kernel_rfl) rfl rfl (GuardIs.pos rfl rfl) (fun hG => QV.pickOr rfl hG rfl (fun h => andN hG h)) ?_
            refine WD.q 43 rfl (by kernel_rfl) rfl rfl rfl (QV.pickAnd rfl rfl rfl (fun h => h)) ?_
            refine WD.e (by kernel_rfl) ?_
            refine WQ.then ?_
            refine WC.cond rfl (fun h66 => ?_) (fun h66 => ?_)
            · skip
              have hm67 := br_t h66 hm63; clear hm63
              refine WC.seq ?_
              refine WC.region ?_
              refine WL.q rfl rfl rfl (QV.assign rfl rfl) ?_
              refine WL.nil ?_
              refine WQ.then ?_
              refine WC.ret ?_
              refine WQ.block_ret ?_
              refine WQ.then_ret ?_
              refine WQ.then_ret ?_
              refine WQ.block_ret ?_
              refine WQ.then_ret ?_
              refine WQ.then_ret ?_
              obtain rfl := up_ret hm67 hn31
              obtain rfl := (eq_of_some hm23).symm
              refine WQ.ret1 rfl rfl (fun w hw => ?_)
              exact ⟨rfl, Own.kgrow (fun _ x => x) hw⟩
            · skip
              have hm68 := br_f h66 hm63; clear hm63
              refine WC.skip ?_
              refine WQ.block ?_
              refine WQ.then ?_
              refine WC.region ?_
              refine WL.q rfl rfl rfl (QV.move rfl rfl) ?_
              obtain ⟨c69, hm70⟩ := ck_some hm68; clear hm68
              refine WL.q rfl rfl rfl (QV.add rfl rfl rfl rfl c69) ?_
              refine WL.q rfl rfl rfl (QV.assign rfl rfl) ?_
              refine WL.nil ?_
              exact WQ.again1 (i12_1 + 1) m28 (up_next hm70 hn31) (Nat.lt_succ_self _) ⟨rfl, rfl, rfl, trivial⟩ (fun w hw => hw.pick [1, 2, 3, 4, 5] (by decide))
        · skip
          have hm71 := br_f h32 hm30; clear hm30
          refine WC.exit ?_
          refine WQ.then_exit ?_
          refine WQ.then_exit ?_
          refine WQ.block_exit ?_
          exact WQ.out1 i12_1 (up_brk hm71 hn31) ⟨rfl, rfl, rfl, trivial⟩ (fun w hw => hw.pick [0, 1, 2, 3, 4] (by decide))
end Go.Proofs.Ytaimbkndebaaiab
