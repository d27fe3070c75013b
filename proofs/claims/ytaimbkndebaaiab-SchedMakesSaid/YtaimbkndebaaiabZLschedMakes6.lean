/- Texts that the law stands on: part 6. -/
import Derived.Test.YtaimbkndebaaiabZLschedMakes5
import Derived.Test.YtaimbkndebaaiabProg
import Derived.KernelRfl
section
namespace Go.Proofs.Ytaimbkndebaaiab
open Go.Rd
set_option linter.unusedVariables false
set_option linter.unusedSimpArgs false
namespace TMake
theorem ag24 : AggT Try.prog 24 7 := ⟨_, Try.underlying24, rfl, by kernel_rfl⟩
theorem ag49 : AggT Try.prog 49 3 := ⟨_, Try.underlying49, rfl, by kernel_rfl⟩
theorem ag59 : AggT Try.prog 59 9 := ⟨_, Try.underlying59, rfl, by kernel_rfl⟩
theorem ag61 : AggT Try.prog 61 4 := ⟨_, Try.underlying61, rfl, by kernel_rfl⟩
theorem ag63 : AggT Try.prog 63 2 := ⟨_, Try.underlying63, rfl, by kernel_rfl⟩
theorem ar22 : ArrayT Try.prog 22 3 1 := ⟨_, Try.underlying22, by kernel_rfl⟩
theorem en23 : Go.Rd.Enters Try.prog 23 := ⟨Try.f23, Try.func23, by kernel_rfl, by kernel_rfl⟩
theorem en29 : Go.Rd.Enters Try.prog 29 := ⟨Try.f29, Try.func29, by kernel_rfl, by kernel_rfl⟩
theorem en48 : Go.Rd.Enters Try.prog 48 := ⟨Try.f48, Try.func48, by kernel_rfl, by kernel_rfl⟩
theorem en63 : Go.Rd.Enters Try.prog 63 := ⟨Try.f63, Try.func63, by kernel_rfl, by kernel_rfl⟩
theorem en70 : Go.Rd.Enters Try.prog 70 := ⟨Try.f70, Try.func70, by kernel_rfl, by kernel_rfl⟩
theorem en76 : Go.Rd.Enters Try.prog 76 := ⟨Try.f76, Try.func76, by kernel_rfl, by kernel_rfl⟩
theorem en77 : Go.Rd.Enters Try.prog 77 := ⟨Try.f77, Try.func77, by kernel_rfl, by kernel_rfl⟩
theorem fd24_0 : FieldT Try.prog 24 0 0 := ⟨_, _, 2, Try.underlying24, rfl, rfl, by kernel_rfl⟩
theorem fd49_1 : FieldT Try.prog 49 1 1 := ⟨_, _, 0, Try.underlying49, rfl, rfl, by kernel_rfl⟩
theorem fd59_0 : FieldT Try.prog 59 0 0 := ⟨_, _, 0, Try.underlying59, rfl, rfl, by kernel_rfl⟩
theorem fd61_0 : FieldT Try.prog 61 0 0 := ⟨_, _, 0, Try.underlying61, rfl, rfl, by kernel_rfl⟩
theorem fd61_1 : FieldT Try.prog 61 1 1 := ⟨_, _, 0, Try.underlying61, rfl, rfl, by kernel_rfl⟩
theorem fd61_2 : FieldT Try.prog 61 2 2 := ⟨_, _, 0, Try.underlying61, rfl, rfl, by kernel_rfl⟩
theorem fd61_3 : FieldT Try.prog 61 3 3 := ⟨_, _, 0, Try.underlying61, rfl, rfl, by kernel_rfl⟩
theorem fd63_1 : FieldT Try.prog 63 1 1 := ⟨_, _, 0, Try.underlying63, rfl, rfl, by kernel_rfl⟩
theorem kt90 : KeyT Try.prog 90 kP := KeyT.pair Try.underlying90 Try.underlying3 (by kernel_rfl)
theorem mt88 : MapT Try.prog 88 90 3 := Try.underlying88
theorem pl3 : Plain Try.prog 3 := ⟨_, Try.underlying3, rfl⟩
theorem pl30 : Plain Try.prog 30 := ⟨_, Try.underlying30, rfl⟩
theorem pl47 : Plain Try.prog 47 := ⟨_, Try.underlying47, rfl⟩
theorem sl30 : SliceT Try.prog 30 3 1 := ⟨Try.underlying30, by kernel_rfl⟩
theorem sl47 : SliceT Try.prog 47 59 9 := ⟨Try.underlying47, by kernel_rfl⟩
theorem sl50 : SliceT Try.prog 50 61 4 := ⟨Try.underlying50, by kernel_rfl⟩
theorem sz30 : SizeT Try.prog 30 1 := by unfold SizeT; kernel_rfl
theorem sz59 : SizeT Try.prog 59 9 := by unfold SizeT; kernel_rfl
theorem sz61 : SizeT Try.prog 61 4 := by unfold SizeT; kernel_rfl
theorem sz63 : SizeT Try.prog 63 2 := by unfold SizeT; kernel_rfl
theorem sz_30 : SliceZ Try.prog 30 3 1 [.int .i64 0] := ⟨Try.underlying30, by kernel_rfl⟩
theorem ve30 : VecT Try.prog 30 3 1 8 := ⟨Try.underlying30, by kernel_rfl, by decide⟩
theorem ze59 : ZeroT Try.prog 59 [.int .i64 0, .int .i64 0, .int .i64 0, .int .i64 0, .int .i64 0, .int .i64 0, .int .i64 0, .int .i64 0, .int .i64 0] := by unfold ZeroT; kernel_rfl
theorem ze61 : ZeroT Try.prog 61 [.int .i64 0, .int .i64 0, .int .i64 0, .int .i64 0] := by unfold ZeroT; kernel_rfl
theorem ze63 : ZeroT Try.prog 63 [.int .i64 0, .slice none 0 0] := by unfold ZeroT; kernel_rfl
theorem zv3i64v : ZVal Try.prog 3 (i64v 0) := by unfold ZVal; kernel_rfl
end TMake
open TMake
set_option maxRecDepth 8000 in
theorem sched_early_w {v_l_logs : Value} {v_l_body : Value} {v_l_outs : Value} {v_edges : Value} {l : Lp} {t : Tgt} {pace : Int} {edges : List Edg} {r : Pln} {K0 : World} (hm : sched_early_m l t pace edges = some r) (h_l_logs : Arr K0 v_l_logs 1 (l.logs.map icell)) (h_l_body : Arr K0 v_l_body 9 (l.body.map Stm.cells)) (h_l_outs : Arr K0 v_l_outs 1 (l.outs.map icell)) (h_edges : Arr K0 v_edges 4 (edges.map Edg.cells)) (M : Nat → Prop) (w : World) (hk : Base M K0 w) (hw0 : Own M w [] w) : Calls Try.prog 77 #[.agg #[v_l_logs, v_l_body, v_l_outs], .agg #[.int .i64 t.u0, .int .i64 t.u1, .int .i64 t.u2, .int .i64 t.w0, .int .i64 t.w1, .int .i64 t.w2, .int .i64 t.regs], .int .i64 pace, v_edges] w (fun e w' => ∃ X : Value × World, e = .returned (.agg #[.int .i64 r.pace, X.1]) ∧ Own M w (kn M w.heap.size K0 X.2 :: []) w' ∧ Arr X.2 X.1 1 (r.times.map icell)) := by
  unfold sched_early_m at hm
  refine calls_of_WC (n := 96) (args := [.agg #[v_l_logs, v_l_body, v_l_outs], .agg #[.int .i64 t.u0, .int .i64 t.u1, .int .i64 t.u2, .int .i64 t.w0, .int .i64 t.w1, .int .i64 t.w2, .int .i64 t.regs], .int .i64 pace, v_edges]) Try.func77 rfl rfl (Nat.le_of_ble_eq_true rfl) ?_ (Own.startK hk hw0)
  refine WC.seq ?_
  refine WC.region ?_
  refine WL.effect rfl ?_
  refine (EV.boxAgg (by decide) rfl rfl (fun b1 => ?_))
  refine WL.effect rfl ?_
  refine (EV.boxAgg (by decide) rfl rfl (fun b2 => ?_))
  refine WL.effect rfl ?_
  refine (EV.alloc (by decide) ze63 (fun b3 => ?_))
  refine WL.nil ?_
  refine WQ.then ?_
  refine WC.seq ?_
  refine WC.region ?_
  refine WL.q rfl rfl rfl (QV.move rfl rfl) ?_
  refine WL.q rfl rfl rfl (QV.build (ps := [(0, .tmp 17)]) (cells := [.int .i64 pace, .slice none 0 0]) (EvAll.cons rfl rfl EvAll.nil) (by kernel_rfl)) ?_
  refine WL.effect rfl ?_
  refine (EV.alloc (by decide) ze63 (fun b4 => ?_))
  refine WL.effect rfl ?_
  refine (EV.store 0 rfl rfl rfl rfl rfl rfl (vs := [.int .i64 pace, .slice none 0 0]) (show Value.cells _ = List.toArray _ from rfl) sz63 (Nat.le_of_ble_eq_true rfl) (one_cons rfl (one_cons rfl one_nil)) ?_)
  refine WL.nil ?_
  refine WQ.then ?_
  refine WC.seq ?_
  refine WC.region ?_
  refine WL.effect rfl ?_
  refine (EV.makeMap (ke := kP) (ve := i64v) (by decide) (fun b5 => ?_))
  refine WL.q rfl rfl rfl (QV.assign rfl rfl) ?_
  refine WL.nil ?_
  refine WQ.then ?_
  refine WC.seq ?_
  refine WC.seq ?_
  refine WC.region ?_
  refine WL.q rfl rfl rfl (QV.fieldAddr fd49_1 rfl rfl) ?_
  refine WL.q rfl rfl rfl (QV.load pl47 rfl rfl (Own.cell 4 rfl rfl)) ?_
  refine WL.q rfl rfl rfl (QV.lenS Try.underlying47 rfl rfl h_l_body.lenMap) ?_
  refine WL.q rfl rfl rfl (QV.move rfl rfl) ?_
  refine WL.nil ?_
  refine WQ.then ?_
  refine WK.of (fun w hw => hw.vecNil (E := 3) (sz := 1) (enc := icell)) ?_
  obtain ⟨o7, ho8, hm9⟩ := bd_some hm; clear hm; obtain ⟨n10, ho11⟩ := lp_some ho8
  refine WC.bloop4 (H2 := [blk b3 [.int .i64 0, .slice none 0 0] 63, blk b2 [.int .i64 t.u0, .int .i64 t.u1, .int .i64 t.u2, .int .i64 t.w0, .int .i64 t.w1, .int .i64 t.w2, .int .i64 t.regs] 24, blk b1 [v_l_logs, v_l_body, v_l_outs] 49, kn M w.heap.size K0 K0]) (τ := [(2, (true, _)), (3, (true, _)), (5, (true, _)), (8, (true, _)), (9, (true, _)), (10, (true, _)), (21, (true, _)), (22, (true, _))]) (fun (v6_7 : List Int) (m5n_7 : List ((Int × Int) × Int)) (x23_7 : Int) (uv6_7 : Value) => [(23, (true, .int .i64 x23_7))]) (fun (v6_7 : List Int) (m5n_7 : List ((Int × Int) × Int)) (x23_7 : Int) (uv6_7 : Value) => [vec uv6_7 3 1 (List.map icell v6_7), mapR b5 kP i64v m5n_7, blk b4 [.int .i64 pace, uv6_7] 63]) (fun (v6_7 : List Int) (m5n_7 : List ((Int × Int) × Int)) (x23_7 : Int) (uv6_7 : Value) (m : Nat) => iter (sched_early_L0 l t pace edges) m (v6_7, m5n_7, x23_7) = some o7 ∧ SliceLen uv6_7 v6_7.length) (fun (v6_7 : List Int) (m5n_7 : List ((Int × Int) × Int)) (x23_7 : Int) (uv6_7 : Value) => o7 = .go (v6_7, m5n_7, x23_7) ∧ SliceLen uv6_7 v6_7.length) [] ([] : List ((Int × Int) × Int)) 0 (.slice none 0 0) n10 ⟨ho11, SliceLen.nil⟩ ⟨rfl, rfl, rfl, rfl, rfl, rfl, rfl, rfl, rfl, trivial⟩ (fun w hw => hw.pick [0, 1, 2, 3, 4, 5, 6] (by decide)) ?_ ?_
  · skip
    rintro v6_7 m5n_7 x23_7 uv6_7 ⟨rfl, hlv6_7⟩
    refine WQ.then ?_
    refine WC.seq ?_
    refine WC.region ?_
    refine WL.q rfl rfl rfl (QV.loadAgg ag63 rfl rfl rfl (Own.cellsBlk 2 rfl)) ?_
    refine WL.effect rfl ?_
    refine (EV.store 3 rfl rfl rfl rfl rfl rfl (vs := [.int .i64 pace, uv6_7]) (show Value.cells _ = List.toArray _ from rfl) sz63 (Nat.le_of_ble_eq_true rfl) (one_cons rfl (one_cons (SliceLen.one hlv6_7) one_nil)) ?_)
    refine WL.nil ?_
    refine WQ.then ?_
    refine WC.ret ?_
    obtain rfl := (eq_of_some hm9).symm
    refine WK.of (C' := Own M w [kn M w.heap.size K0 K0, vec uv6_7 3 1 (List.map icell v6_7), mapR b5 kP i64v m5n_7, blk b4 [.int .i64 pace, uv6_7] 63, blk b3 [.int .i64 pace, uv6_7] 63, blk b2 [.int .i64 t.u0, .int .i64 t.u1, .int .i64 t.u2, .int .i64 t.w0, .int .i64 t.w1, .int .i64 t.w2, .int .i64 t.regs] 24, blk b1 [v_l_logs, v_l_body, v_l_outs] 49]) (fun w hw => hw.pick [6, 0, 1, 2, 3, 4, 5] (by decide)) ?_
    refine WK.freeze hk (fun k12 hle12 hr12 => ?_)
    have hA12 := vec_arr hr12
    refine WQ.retCell rfl ag63 rfl rfl (Own.cellsBlk 3 rfl) (fun w hw => ?_)
    exact ⟨(uv6_7, k12), rfl, hw.pick [0] (by decide), hA12⟩
  · skip
    rintro v6_7 m5n_7 x23_7 uv6_7 m13 ⟨hI14, hlv6_7⟩
    obtain ⟨m15, s16, rfl, hm17, hn18⟩ := iter_step hI14; clear hI14; unfold sched_early_L0 at hm17; simp only at hm17
    refine WC.seq ?_
    refine WC.region ?_
    refine WL.q rfl rfl rfl (QV.lss rfl rfl rfl rfl) ?_
    refine WL.nil ?_
    refine WQ.then ?_
    refine WC.seq ?_
    refine WC.cond rfl (fun h19 => ?_) (fun h19 => ?_)
    · skip
      have hm20 := br_t h19 hm17; clear hm17
      refine WC.skip ?_
      refine WQ.then ?_
      refine WC.seq ?_
      refine WC.block ?_
      refine WC.seq ?_
      refine WC.region ?_
      refine WL.q rfl rfl rfl (QV.move rfl rfl) ?_
      obtain ⟨c21, hm22⟩ := ck_some hm20; clear hm20
      obtain ⟨p23, hp24⟩ := h_l_body.lenMap.ix (sz := 9) ln_len c21
      refine WL.q rfl rfl rfl (QV.indexSlice sl47 rfl rfl rfl rfl hp24) ?_
      refine WL.q rfl rfl rfl (QV.loadAgg ag59 rfl rfl rfl (fun w hw => ((Own.karr 6 rfl hk h_l_body) w hw).ele hp24 c21)) ?_
      refine WL.effect rfl ?_
      refine (EV.alloc (by decide) ze59 (fun b25 => ?_))
      refine WL.q rfl rfl rfl (QV.assign rfl rfl) ?_
      refine WL.effect rfl ?_
      refine (EV.store 0 rfl rfl rfl rfl rfl rfl (vs := [.int .i64 ((ele l.body x23_7).op), .int .i64 (((ele l.body x23_7).a).st), .int .i64 (((ele l.body x23_7).a).bk), .int .i64 (((ele l.body x23_7).b).st), .int .i64 (((ele l.body x23_7).b).bk), .int .i64 ((ele l.body x23_7).ar), .int .i64 ((ele l.body x23_7).sp), .int .i64 ((ele l.body x23_7).pl), .int .i64 ((ele l.body x23_7).n)]) (show Value.cells _ = List.toArray _ from rfl) sz59 (Nat.le_of_ble_eq_true rfl) (one_cons rfl (one_cons rfl (one_cons rfl (one_cons rfl (one_cons rfl (one_cons rfl (one_cons rfl (one_cons rfl (one_cons rfl one_nil))))))))) ?_)
      refine WL.nil ?_
      refine WQ.then ?_
      refine WC.seq ?_
      refine WC.region ?_
      refine WL.q rfl rfl rfl (QV.assign rfl rfl) ?_
      refine WL.nil ?_
      refine WQ.then ?_
      refine WC.seq ?_
      refine WC.seq ?_
      refine WC.region ?_
      refine WL.q rfl rfl rfl (QV.move rfl rfl) ?_
      refine WL.q rfl rfl rfl (QV.lenS Try.underlying50 rfl rfl h_edges.lenMap) ?_
      refine WL.q rfl rfl rfl (QV.move rfl rfl) ?_
      refine WL.nil ?_
      refine WQ.then ?_
      obtain ⟨o26, ho27, hm28⟩ := bd_some hm22; clear hm22; obtain ⟨n29, ho30⟩ := lp_some ho27
      refine WC.bloop2 (H2 := [blk b25 [.int .i64 ((ele l.body x23_7).op), .int .i64 (((ele l.body x23_7).a).st), .int .i64 (((ele l.body x23_7).a).bk), .int .i64 (((ele l.body x23_7).b).st), .int .i64 (((ele l.body x23_7).b).bk), .int .i64 ((ele l.body x23_7).ar), .int .i64 ((ele l.body x23_7).sp), .int .i64 ((ele l.body x23_7).pl), .int .i64 ((ele l.body x23_7).n)] 59, vec uv6_7 3 1 (List.map icell v6_7), mapR b5 kP i64v m5n_7, blk b4 [.int .i64 pace, uv6_7] 63, blk b3 [.int .i64 0, .slice none 0 0] 63, blk b2 [.int .i64 t.u0, .int .i64 t.u1, .int .i64 t.u2, .int .i64 t.w0, .int .i64 t.w1, .int .i64 t.w2, .int .i64 t.regs] 24, blk b1 [v_l_logs, v_l_body, v_l_outs] 49, kn M w.heap.size K0 K0]) (τ := [(2, (true, _)), (3, (true, _)), (5, (true, _)), (8, (true, _)), (9, (true, _)), (10, (true, _)), (11, (true, _)), (12, (true, _)), (21, (true, _)), (22, (true, _)), (23, (true, _)), (28, (true, _)), (29, (true, _))]) (fun (time13_8 : Int) (x30_8 : Int) => [(13, (true, .int .i64 time13_8)), (30, (true, .int .i64 x30_8))]) (fun (time13_8 : Int) (x30_8 : Int) => []) (fun (time13_8 : Int) (x30_8 : Int) (m : Nat) => iter (sched_early_L2 pace edges v6_7 x23_7) m (time13_8, x30_8) = some o26) (fun (time13_8 : Int) (x30_8 : Int) => o26 = .go (time13_8, x30_8)) 0 0 n29 ho30 ⟨rfl, rfl, rfl, rfl, rfl, rfl, rfl, rfl, rfl, rfl, rfl, rfl, rfl, rfl, rfl, trivial⟩ (fun w hw => hw.pick [0, 1, 2, 3, 4, 5, 6, 7] (by decide)) ?_ ?_
      · skip
        rintro time13_8 x30_8 rfl
        refine WQ.then ?_
        refine WC.seq ?_
        refine WC.region ?_
        refine WL.q rfl rfl rfl (QV.fieldAddr fd59_0 rfl rfl) ?_
        refine WL.q rfl rfl rfl (QV.load pl3 rfl rfl (Own.cell 0 rfl rfl)) ?_
        obtain ⟨x31, hx32, hm33⟩ := bd_some hm28; clear hm28
        refine WL.q rfl rfl rfl (QV.call en48 (EvAll.cons rfl rfl EvAll.nil) (fun w hw => have h := num_Class_w w hx32 ; h)) ?_
        refine WL.q rfl rfl rfl (QV.assign rfl rfl) ?_
        refine WL.nil ?_
        refine WQ.then ?_
        refine WC.seq ?_
        obtain ⟨o34, ho35, hm36⟩ := bd_some hm33; clear hm33; obtain ⟨n37, ho38⟩ := lp_some ho35
        refine WC.bloop1 (H2 := [blk b25 [.int .i64 ((ele l.body x23_7).op), .int .i64 (((ele l.body x23_7).a).st), .int .i64 (((ele l.body x23_7).a).bk), .int .i64 (((ele l.body x23_7).b).st), .int .i64 (((ele l.body x23_7).b).bk), .int .i64 ((ele l.body x23_7).ar), .int .i64 ((ele l.body x23_7).sp), .int .i64 ((ele l.body x23_7).pl), .int .i64 ((ele l.body x23_7).n)] 59, vec uv6_7 3 1 (List.map icell v6_7), mapR b5 kP i64v m5n_7, blk b4 [.int .i64 pace, uv6_7] 63, blk b3 [.int .i64 0, .slice none 0 0] 63, blk b2 [.int .i64 t.u0, .int .i64 t.u1, .int .i64 t.u2, .int .i64 t.w0, .int .i64 t.w1, .int .i64 t.w2, .int .i64 t.regs] 24, blk b1 [v_l_logs, v_l_body, v_l_outs] 49, kn M w.heap.size K0 K0]) (τ := [(2, (true, _)), (3, (true, _)), (5, (true, _)), (8, (true, _)), (9, (true, _)), (10, (true, _)), (16, (true, _)), (21, (true, _)), (22, (true, _)), (23, (true, _))]) (fun (time13_9 : Int) => [(13, (true, .int .i64 time13_9))]) (fun (time13_9 : Int) => []) (fun (time13_9 : Int) (m : Nat) => iter (sched_early_L4 t pace m5n_7 x31) m time13_9 = some o34) (fun (time13_9 : Int) => o34 = .go time13_9) time13_8 n37 ho38 ⟨rfl, rfl, rfl, rfl, rfl, rfl, rfl, rfl, rfl, rfl, rfl, trivial⟩ (fun w hw => hw.pick [0, 1, 2, 3, 4, 5, 6, 7] (by decide)) ?_ ?_
        · skip
          rintro time13_9 rfl
          refine WQ.then ?_
          refine WC.seq ?_
          refine WC.dr (m := 11) (S := Own M w [kn M w.heap.size K0 K0, blk b25 [.int .i64 ((ele l.body x23_7).op), .int .i64 (((ele l.body x23_7).a).st), .int .i64 (((ele l.body x23_7).a).bk), .int .i64 (((ele l.body x23_7).b).st), .int .i64 (((ele l.body x23_7).b).bk), .int .i64 ((ele l.body x23_7).ar), .int .i64 ((ele l.body x23_7).sp), .int .i64 ((ele l.body x23_7).pl), .int .i64 ((ele l.body x23_7).n)] 59, vec uv6_7 3 1 (List.map icell v6_7), mapW b5 kP i64v 0 m5n_7, blk b4 [.int .i64 pace, uv6_7] 63, blk b3 [.int .i64 0, .slice none 0 0] 63, blk b2 [.int .i64 t.u0, .int .i64 t.u1, .int .i64 t.u2, .int .i64 t.w0, .int .i64 t.w1, .int .i64 t.w2, .int .i64 t.regs] 24, blk b1 [v_l_logs, v_l_body, v_l_outs] 49]) (by kernel_rfl) (by kernel_rfl) (fun w hw => Own.mapWeak 3 0 rfl (hw.pick [7, 0, 1, 2, 3, 4, 5, 6] (by decide))) ?_
          refine WD.q 0 rfl (by kernel_rfl) rfl rfl rfl (QV.move rfl rfl) ?_
          refine WD.q 1 rfl (by kernel_rfl) rfl rfl rfl (QV.move rfl rfl) ?_
          refine WD.q 2 rfl (by kernel_rfl) rfl rfl rfl (QV.move rfl rfl) ?_
          obtain ⟨c39, hm40⟩ := ck_some hm36; clear hm36
          refine WD.q 3 rfl (by kernel_rfl) rfl rfl rfl (QV.rem rfl rfl rfl rfl c39) ?_
          refine WD.q 4 rfl (by kernel_rfl) rfl rfl rfl (QV.move rfl rfl) ?_
          refine WD.q 5 rfl (by kernel_rfl) rfl rfl rfl (QV.build (ps := [(0, .tmp 81), (1, .tmp 82)]) (cells := [.int .i64 (Int.tmod time13_9 pace), .int .i64 x31]) (EvAll.cons rfl rfl (EvAll.cons rfl rfl EvAll.nil)) (by kernel_rfl)) ?_
          refine WD.q 6 rfl (by kernel_rfl) rfl rfl rfl (QV.lookupW (k := ((Int.tmod time13_9 pace), x31)) 3 0 mt88 kt90 zv3i64v rfl rfl rfl rfl rfl) ?_
          obtain ⟨c41, hm42⟩ := ck_some hm40; clear hm40
          refine WD.q 7 rfl (by kernel_rfl) rfl rfl rfl (QV.add rfl rfl rfl rfl c41) ?_
          refine WD.o 8 rfl (by kernel_rfl) rfl ?_
          refine (EV.mapEntry (by decide) ((Int.tmod time13_9 pace), x31) 2 0 mt88 kt90 zv3i64v rfl rfl rfl rfl rfl (fun s43 => ?_))
          refine WD.b (H' := [kn M w.heap.size K0 K0, blk b25 [.int .i64 ((ele l.body x23_7).op), .int .i64 (((ele l.body x23_7).a).st), .int .i64 (((ele l.body x23_7).a).bk), .int .i64 (((ele l.body x23_7).b).st), .int .i64 (((ele l.body x23_7).b).bk), .int .i64 ((ele l.body x23_7).ar), .int .i64 ((ele l.body x23_7).sp), .int .i64 ((ele l.body x23_7).pl), .int .i64 ((ele l.body x23_7).n)] 59, vec uv6_7 3 1 (List.map icell v6_7), mapW b5 kP i64v 0 m5n_7, blk b4 [.int .i64 pace, uv6_7] 63, blk b3 [.int .i64 0, .slice none 0 0] 63, blk b2 [.int .i64 t.u0, .int .i64 t.u1, .int .i64 t.u2, .int .i64 t.w0, .int .i64 t.w1, .int .i64 t.w2, .int .i64 t.regs] 24, blk b1 [v_l_logs, v_l_body, v_l_outs] 49]) (fun w hw => Own.midWeak 3 rfl (hw.pick [7, 0, 1, 2, 3, 4, 5, 6] (by decide))) (fun w hw => hw.pick [0, 1, 2, 3, 4, 5, 6, 7] (by decide)) ?_
          refine WD.q 9 rfl (by kernel_rfl) rfl rfl rfl (QV.extract rfl rfl rfl) ?_
          refine WD.l 10 rfl (by kernel_rfl) rfl ?_
          refine (EV.entryStore (ke := kP) (ve := i64v) ((Int.tmod time13_9 pace), x31) 2 ((mget m5n_7 ((Int.tmod time13_9 pace), x31) 0) + 1) s43 rfl rfl rfl rfl rfl rfl rfl ?_)
          refine WQ.then ?_
          refine WC.region ?_
          refine WL.q rfl rfl rfl (QV.fieldAddr fd63_1 rfl rfl) ?_
          refine WL.q rfl rfl rfl (QV.load pl30 rfl rfl (Own.cell 3 rfl rfl)) ?_
          refine WL.q rfl rfl rfl (QV.move rfl rfl) ?_
          refine WL.effect rfl ?_
          refine (EV.buildSlice (by decide) sz_30 (by decide) (by decide) (ps := [(0, .tmp 90)]) (cells := [.int .i64 time13_9]) (EvAll.cons rfl rfl EvAll.nil) (by kernel_rfl) (fun b44 => ?_))
          refine WL.effect rfl ?_
          obtain ⟨c45, hm46⟩ := ck_some hm42; clear hm42
          refine (EV.appendL (enc := icell) (xs := v6_7) (ys := [time13_9]) ((v6_7 ++ [time13_9])) 2 (by decide) ve30 rfl rfl rfl rfl rfl (Own.blkArr 0 (rows := [time13_9].map icell) rfl rfl (rows_len icell_len)) icell_len (icell_one _) rfl c45.1 c45.2 (fun u47 hu48 => ?_))
          refine WL.q rfl rfl rfl (QV.fieldAddr fd63_1 rfl rfl) ?_
          refine WL.effect rfl ?_
          refine (EV.store 4 rfl rfl rfl rfl rfl rfl (vs := [u47]) (SliceLen.cells hu48) sz30 (Nat.le_of_ble_eq_true rfl) (one_cons (SliceLen.one hu48) one_nil) ?_)
          refine WL.nil ?_
          refine WQ.block ?_
          refine WQ.then ?_
          refine WC.region ?_
          obtain ⟨c49, hm50⟩ := ck_some hm46; clear hm46
          refine WL.q rfl rfl rfl (QV.add rfl rfl rfl rfl c49) ?_
          refine WL.q rfl rfl rfl (QV.move rfl rfl) ?_
          refine WL.nil ?_
          exact WQ.again4 (v6_7 ++ [time13_9]) (mput m5n_7 ((Int.tmod time13_9 pace), x31) ((mget m5n_7 ((Int.tmod time13_9 pace), x31) 0) + 1)) (x23_7 + 1) u47 m15 ⟨up_next hm50 hn18, hu48⟩ (Nat.lt_succ_self _) ⟨rfl, rfl, rfl, rfl, rfl, rfl, rfl, rfl, rfl, trivial⟩ (fun w hw => hw.pick [2, 3, 4, 5, 6, 7, 8] (by decide))
        · skip
          rintro time13_9 m51 hI52
          obtain ⟨m53, s54, rfl, hm55, hn56⟩ := iter_step hI52; clear hI52; unfold sched_early_L4 at hm55
          refine WC.seq ?_
          refine WC.seq ?_
          refine WC.dr (m := 12) (S := Own M w [kn M w.heap.size K0 K0, blk b25 [.int .i64 ((ele l.body x23_7).op), .int .i64 (((ele l.body x23_7).a).st), .int .i64 (((ele l.body x23_7).a).bk), .int .i64 (((ele l.body x23_7).b).st), .int .i64 (((ele l.body x23_7).b).bk), .int .i64 ((ele l.body x23_7).ar), .int .i64 ((ele l.body x23_7).sp), .int .i64 ((ele l.body x23_7).pl), .int .i64 ((ele l.body x23_7).n)] 59, vec uv6_7 3 1 (List.map icell v6_7), mapR b5 kP i64v m5n_7, blk b4 [.int .i64 pace, uv6_7] 63, blk b3 [.int .i64 0, .slice none 0 0] 63, blk b2 [.int .i64 t.u0, .int .i64 t.u1, .int .i64 t.u2, .int .i64 t.w0, .int .i64 t.w1, .int .i64 t.w2, .int .i64 t.regs] 24, blk b1 [v_l_logs, v_l_body, v_l_outs] 49]) (by kernel_rfl) (by kernel_rfl) (fun w hw => hw.pick [7, 0, 1, 2, 3, 4, 5, 6] (by decide)) ?_
          refine WD.q 0 rfl (by kernel_rfl) rfl rfl rfl (QV.move rfl rfl) ?_
          refine WD.q 1 rfl (by kernel_rfl) rfl rfl rfl (QV.move rfl rfl) ?_
          refine WD.q 2 rfl (by kernel_rfl) rfl rfl rfl (QV.move rfl rfl) ?_
          obtain ⟨c57, hm58⟩ := ck_some hm55; clear hm55
          refine WD.q 3 rfl (by kernel_rfl) rfl rfl rfl (QV.rem rfl rfl rfl rfl c57) ?_
          refine WD.q 4 rfl (by kernel_rfl) rfl rfl rfl (QV.move rfl rfl) ?_
          refine WD.q 5 rfl (by kernel_rfl) rfl rfl rfl (QV.build (ps := [(0, .tmp 67), (1, .tmp 68)]) (cells := [.int .i64 (Int.tmod time13_9 pace), .int .i64 x31]) (EvAll.cons rfl rfl (EvAll.cons rfl rfl EvAll.nil)) (by kernel_rfl)) ?_
          refine WD.q 6 rfl (by kernel_rfl) rfl rfl rfl (QV.lookup (k := ((Int.tmod time13_9 pace), x31)) 3 0 mt88 kt90 zv3i64v rfl rfl rfl rfl rfl) ?_
          refine WD.q 7 rfl (by kernel_rfl) rfl rfl rfl (QV.move rfl rfl) ?_
          refine WD.q 8 rfl (by kernel_rfl) rfl rfl rfl (QV.fieldAddr fd24_0 rfl rfl) ?_
          obtain ⟨c59, hm60⟩ := ck_some hm58; clear hm58
          refine WD.q 9 rfl (by kernel_rfl) rfl rfl rfl (QV.indexArray ar22 rfl rfl rfl rfl c59.1 c59.2) ?_
          refine WD.q 10 rfl (by kernel_rfl) rfl rfl rfl (QV.load pl3 rfl rfl (Own.cellSym 6 rfl (sel3_get (off := 0) (i := x31) c59.1 c59.2 rfl rfl rfl) (addr_sym _ _ _))) ?_
          refine WD.q 11 rfl (by kernel_rfl) rfl rfl rfl (QV.geq rfl rfl rfl rfl) ?_
          refine WD.e (by kernel_rfl) ?_
          refine WQ.then ?_
          refine WC.cond rfl (fun h61 => ?_) (fun h61 => ?_)
          · skip
            have hm62 := br_t h61 hm60; clear hm60
            refine WC.skip ?_
            refine WQ.then ?_
            refine WC.block ?_
            refine WC.region ?_
            refine WL.q rfl rfl rfl (QV.move rfl rfl) ?_
            obtain ⟨c63, hm64⟩ := ck_some hm62; clear hm62
            refine WL.q rfl rfl rfl (QV.add rfl rfl rfl rfl c63) ?_
            refine WL.q rfl rfl rfl (QV.assign rfl rfl) ?_
            refine WL.nil ?_
            refine WQ.block ?_
            exact WQ.again1 (time13_9 + 1) m53 (up_next hm64 hn56) (Nat.lt_succ_self _) ⟨rfl, rfl, rfl, rfl, rfl, rfl, rfl, rfl, rfl, rfl, rfl, trivial⟩ (fun w hw => hw.pick [0, 1, 2, 3, 4, 5, 6, 7] (by decide))
          · skip
            have hm65 := br_f h61 hm60; clear hm60
            refine WC.exit ?_
            refine WQ.then_exit ?_
            refine WQ.then_exit ?_
            refine WQ.block_exit ?_
            exact WQ.out1 time13_9 (up_brk hm65 hn56) ⟨rfl, rfl, rfl, rfl, rfl, rfl, rfl, rfl, rfl, rfl, rfl, trivial⟩ (fun w hw => hw.pick [0, 1, 2, 3, 4, 5, 6, 7] (by decide))
      · skip
        rintro time13_8 x30_8 m66 hI67
        obtain ⟨m68, s69, rfl, hm70, hn71⟩ := iter_step hI67; clear hI67; unfold sched_early_L2 at hm70; simp only at hm70
        refine WC.seq ?_
        refine WC.region ?_
        refine WL.q rfl rfl rfl (QV.lss rfl rfl rfl rfl) ?_
        refine WL.nil ?_
        refine WQ.then ?_
        refine WC.seq ?_
        refine WC.cond rfl (fun h72 => ?_) (fun h72 => ?_)
        · skip
          have hm73 := br_t h72 hm70; clear hm70
          refine WC.skip ?_
          refine WQ.then ?_
          refine WC.seq ?_
          refine WC.block ?_
          refine WC.seq ?_
          refine WC.region ?_
          obtain ⟨c74, hm75⟩ := ck_some hm73; clear hm73
          obtain ⟨p76, hp77⟩ := h_edges.lenMap.ix (sz := 4) ln_len c74
          refine WL.q rfl rfl rfl (QV.indexSlice sl50 rfl rfl rfl rfl hp77) ?_
          refine WL.q rfl rfl rfl (QV.loadAgg ag61 rfl rfl rfl (fun w hw => ((Own.karr 7 rfl hk h_edges) w hw).ele hp77 c74)) ?_
          refine WL.effect rfl ?_
          refine (EV.alloc (by decide) ze61 (fun b78 => ?_))
          refine WL.effect rfl ?_
          refine (EV.store 0 rfl rfl rfl rfl rfl rfl (vs := [.int .i64 ((ele edges x30_8).fr), .int .i64 ((ele edges x30_8).to), .int .i64 ((ele edges x30_8).bk), .int .i64 ((ele edges x30_8).wt)]) (show Value.cells _ = List.toArray _ from rfl) sz61 (Nat.le_of_ble_eq_true rfl) (one_cons rfl (one_cons rfl (one_cons rfl (one_cons rfl one_nil)))) ?_)
          refine WL.nil ?_
          refine WQ.then ?_
          refine WC.seq ?_
          refine WC.region ?_
          refine WL.q rfl rfl rfl (QV.fieldAddr fd61_1 rfl rfl) ?_
          refine WL.q rfl rfl rfl (QV.load pl3 rfl rfl (Own.cell 0 rfl rfl)) ?_
          refine WL.q rfl rfl rfl (QV.move rfl rfl) ?_
          refine WL.q rfl rfl rfl (QV.eql rfl rfl rfl rfl) ?_
          refine WL.q rfl rfl rfl (QV.move rfl rfl) ?_
          refine WL.g rfl rfl (GuardIs.pos rfl rfl) (fun hG => QV.fieldAddr fd61_0 rfl rfl) ?_
          refine WL.g rfl rfl (GuardIs.pos rfl rfl) (fun hG => QV.load pl3 rfl hG (Own.cell 0 rfl rfl)) ?_
          refine WL.g rfl rfl (GuardIs.pos rfl rfl) (fun hG => QV.move rfl rfl) ?_
          refine WL.g rfl rfl (GuardIs.pos rfl rfl) (fun hG => QV.lss rfl hG rfl hG) ?_
          refine WL.q rfl rfl rfl (QV.pickAnd rfl rfl rfl (fun h => h)) ?_
          refine WL.nil ?_
          refine WQ.then ?_
          refine WC.cond rfl (fun h79 => ?_) (fun h79 => ?_)
          · skip
            have hm80 := br_t h79 hm75; clear hm75
            refine WC.dr (m := 17) (S := Own M w [kn M w.heap.size K0 K0, blk b78 [.int .i64 ((ele edges x30_8).fr), .int .i64 ((ele edges x30_8).to), .int .i64 ((ele edges x30_8).bk), .int .i64 ((ele edges x30_8).wt)] 61, blk b25 [.int .i64 ((ele l.body x23_7).op), .int .i64 (((ele l.body x23_7).a).st), .int .i64 (((ele l.body x23_7).a).bk), .int .i64 (((ele l.body x23_7).b).st), .int .i64 (((ele l.body x23_7).b).bk), .int .i64 ((ele l.body x23_7).ar), .int .i64 ((ele l.body x23_7).sp), .int .i64 ((ele l.body x23_7).pl), .int .i64 ((ele l.body x23_7).n)] 59, vec uv6_7 3 1 (List.map icell v6_7), mapR b5 kP i64v m5n_7, blk b4 [.int .i64 pace, uv6_7] 63, blk b3 [.int .i64 0, .slice none 0 0] 63, blk b2 [.int .i64 t.u0, .int .i64 t.u1, .int .i64 t.u2, .int .i64 t.w0, .int .i64 t.w1, .int .i64 t.w2, .int .i64 t.regs] 24, blk b1 [v_l_logs, v_l_body, v_l_outs] 49]) (by kernel_rfl) (by kernel_rfl) (fun w hw => hw.pick [8, 0, 1, 2, 3, 4, 5, 6, 7] (by decide)) ?_
            refine WD.q 0 rfl (by kernel_rfl) rfl rfl rfl (QV.move rfl rfl) ?_
            refine WD.q 1 rfl (by kernel_rfl) rfl rfl rfl (QV.fieldAddr fd63_1 rfl rfl) ?_
            refine WD.q 2 rfl (by kernel_rfl) rfl rfl rfl (QV.load pl30 rfl rfl (Own.cell 5 rfl rfl)) ?_
            refine WD.q 3 rfl (by kernel_rfl) rfl rfl rfl (QV.fieldAddr fd61_0 rfl rfl) ?_
            refine WD.q 4 rfl (by kernel_rfl) rfl rfl rfl (QV.load pl3 rfl rfl (Own.cell 1 rfl rfl)) ?_
            obtain ⟨c81, hm82⟩ := ck_some hm80; clear hm80
            obtain ⟨p83, hp84⟩ := hlv6_7.ix (sz := 1) ln_len c81
            refine WD.q 5 rfl (by kernel_rfl) rfl rfl rfl (QV.indexSlice sl30 rfl rfl rfl rfl hp84) ?_
            refine WD.q 6 rfl (by kernel_rfl) rfl rfl rfl (QV.load pl3 rfl rfl (fun w hw => CellsAt.one 0 (((Own.vecArr 3 rfl) w hw).ele hp84 c81) rfl)) ?_
            refine WD.q 7 rfl (by kernel_rfl) rfl rfl rfl (QV.fieldAddr fd61_3 rfl rfl) ?_
            refine WD.q 8 rfl (by kernel_rfl) rfl rfl rfl (QV.load pl3 rfl rfl (Own.cell 1 rfl rfl)) ?_
            obtain ⟨c85, hm86⟩ := ck_some hm82; clear hm82
            refine WD.q 9 rfl (by kernel_rfl) rfl rfl rfl (QV.add rfl rfl rfl rfl c85) ?_
            refine WD.q 10 rfl (by kernel_rfl) rfl rfl rfl (QV.move rfl rfl) ?_
            refine WD.q 11 rfl (by kernel_rfl) rfl rfl rfl (QV.fieldAddr fd61_2 rfl rfl) ?_
            refine WD.q 12 rfl (by kernel_rfl) rfl rfl rfl (QV.load pl3 rfl rfl (Own.cell 1 rfl rfl)) ?_
            obtain ⟨c87, hm88⟩ := ck_some hm86; clear hm86
            refine WD.q 13 rfl (by kernel_rfl) rfl rfl rfl (QV.mul rfl rfl rfl rfl c87) ?_
            obtain ⟨c89, hm90⟩ := ck_some hm88; clear hm88
            refine WD.q 14 rfl (by kernel_rfl) rfl rfl rfl (QV.sub rfl rfl rfl rfl c89) ?_
            refine WD.q 15 rfl (by kernel_rfl) rfl rfl rfl (QV.max2 rfl rfl rfl rfl) ?_
            refine WD.q 16 rfl (by kernel_rfl) rfl rfl rfl (QV.assign rfl rfl) ?_
            refine WD.e (by kernel_rfl) ?_
            refine WQ.block ?_
            refine WQ.then ?_
            refine WC.region ?_
            obtain ⟨c91, hm92⟩ := ck_some hm90; clear hm90
            refine WL.q rfl rfl rfl (QV.add rfl rfl rfl rfl c91) ?_
            refine WL.q rfl rfl rfl (QV.move rfl rfl) ?_
            refine WL.nil ?_
            exact WQ.again2 (max time13_8 (((ele v6_7 ((ele edges x30_8).fr)) + (ele edges x30_8).wt) - (pace * (ele edges x30_8).bk))) (x30_8 + 1) m68 (up_next hm92 hn71) (Nat.lt_succ_self _) ⟨rfl, rfl, rfl, rfl, rfl, rfl, rfl, rfl, rfl, rfl, rfl, rfl, rfl, rfl, rfl, trivial⟩ (fun w hw => hw.pick [1, 2, 3, 4, 5, 6, 7, 8] (by decide))
          · skip
            have hm93 := br_f h79 hm75; clear hm75
            refine WC.skip ?_
            refine WQ.block ?_
            refine WQ.then ?_
            refine WC.region ?_
            obtain ⟨c94, hm95⟩ := ck_some hm93; clear hm93
            refine WL.q rfl rfl rfl (QV.add rfl rfl rfl rfl c94) ?_
            refine WL.q rfl rfl rfl (QV.move rfl rfl) ?_
            refine WL.nil ?_
            exact WQ.again2 time13_8 (x30_8 + 1) m68 (up_next hm95 hn71) (Nat.lt_succ_self _) ⟨rfl, rfl, rfl, rfl, rfl, rfl, rfl, rfl, rfl, rfl, rfl, rfl, rfl, rfl, rfl, trivial⟩ (fun w hw => hw.pick [1, 2, 3, 4, 5, 6, 7, 8] (by decide))
        · skip
          have hm96 := br_f h72 hm70; clear hm70
          refine WC.exit ?_
          refine WQ.then_exit ?_
          refine WQ.then_exit ?_
          refine WQ.block_exit ?_
          exact WQ.out2 time13_8 x30_8 (up_brk hm96 hn71) ⟨rfl, rfl, rfl, rfl, rfl, rfl, rfl, rfl, rfl, rfl, rfl, rfl, rfl, rfl, rfl, trivial⟩ (fun w hw => hw.pick [0, 1, 2, 3, 4, 5, 6, 7] (by decide))
    · skip
      have hm97 := br_f h19 hm17; clear hm17
      refine WC.exit ?_
      refine WQ.then_exit ?_
      refine WQ.then_exit ?_
      refine WQ.block_exit ?_
      exact WQ.out4 v6_7 m5n_7 x23_7 uv6_7 ⟨up_brk hm97 hn18, hlv6_7⟩ ⟨rfl, rfl, rfl, rfl, rfl, rfl, rfl, rfl, rfl, trivial⟩ (fun w hw => hw.pick [0, 1, 2, 3, 4, 5, 6] (by decide))

set_option maxRecDepth 8000 in
theorem sched_straight_w {v_l_logs : Value} {v_l_body : Value} {v_l_outs : Value} {l : Lp} {t : Tgt} {pace : Int} {r : Pln × Int} {K0 : World} (hm : sched_straight_m l t pace = some r) (h_l_logs : Arr K0 v_l_logs 1 (l.logs.map icell)) (h_l_body : Arr K0 v_l_body 9 (l.body.map Stm.cells)) (h_l_outs : Arr K0 v_l_outs 1 (l.outs.map icell)) (M : Nat → Prop) (w : World) (hk : Base M K0 w) (hw0 : Own M w [] w) : Calls Try.prog 76 #[.agg #[v_l_logs, v_l_body, v_l_outs], .agg #[.int .i64 t.u0, .int .i64 t.u1, .int .i64 t.u2, .int .i64 t.w0, .int .i64 t.w1, .int .i64 t.w2, .int .i64 t.regs], .int .i64 pace] w (fun e w' => ∃ X : Value × World, e = .returned (.tuple #[.agg #[.int .i64 r.1.pace, X.1], .int .i64 r.2]) ∧ Own M w (kn M w.heap.size K0 X.2 :: []) w' ∧ Arr X.2 X.1 1 (r.1.times.map icell)) := by
  unfold sched_straight_m at hm
  refine calls_of_WC (n := 36) (args := [.agg #[v_l_logs, v_l_body, v_l_outs], .agg #[.int .i64 t.u0, .int .i64 t.u1, .int .i64 t.u2, .int .i64 t.w0, .int .i64 t.w1, .int .i64 t.w2, .int .i64 t.regs], .int .i64 pace]) Try.func76 rfl rfl (Nat.le_of_ble_eq_true rfl) ?_ (Own.startK hk hw0)
  refine WC.seq ?_
  refine WC.region ?_
  refine WL.effect rfl ?_
  refine (EV.boxAgg (by decide) rfl rfl (fun b1 => ?_))
  refine WL.effect rfl ?_
  refine (EV.boxAgg (by decide) rfl rfl (fun b2 => ?_))
  refine WL.effect rfl ?_
  refine (EV.alloc (by decide) ze63 (fun b3 => ?_))
  refine WL.q rfl rfl rfl (QV.assign rfl rfl) ?_
  refine WL.nil ?_
  refine WQ.then ?_
  refine WC.seq ?_
  refine WC.region ?_
  refine WL.q rfl rfl rfl (QV.move rfl rfl) ?_
  refine WL.q rfl rfl rfl (QV.build (ps := [(0, .tmp 12)]) (cells := [.int .i64 pace, .slice none 0 0]) (EvAll.cons rfl rfl EvAll.nil) (by kernel_rfl)) ?_
  refine WL.effect rfl ?_
  refine (EV.alloc (by decide) ze63 (fun b4 => ?_))
  refine WL.effect rfl ?_
  refine (EV.store 0 rfl rfl rfl rfl rfl rfl (vs := [.int .i64 pace, .slice none 0 0]) (show Value.cells _ = List.toArray _ from rfl) sz63 (Nat.le_of_ble_eq_true rfl) (one_cons rfl (one_cons rfl one_nil)) ?_)
  refine WL.nil ?_
  refine WQ.then ?_
  refine WC.seq ?_
  refine WC.region ?_
  refine WL.q rfl rfl rfl (QV.assign rfl rfl) ?_
  refine WL.nil ?_
  refine WQ.then ?_
  refine WC.seq ?_
  refine WC.seq ?_
  refine WC.region ?_
  refine WL.q rfl rfl rfl (QV.fieldAddr fd49_1 rfl rfl) ?_
  refine WL.q rfl rfl rfl (QV.load pl47 rfl rfl (Own.cell 3 rfl rfl)) ?_
  refine WL.q rfl rfl rfl (QV.lenS Try.underlying47 rfl rfl h_l_body.lenMap) ?_
  refine WL.q rfl rfl rfl (QV.move rfl rfl) ?_
  refine WL.nil ?_
  refine WQ.then ?_
  refine WK.of (fun w hw => hw.vecNil (E := 3) (sz := 1) (enc := icell)) ?_
  obtain ⟨o6, ho7, hm8⟩ := bd_some hm; clear hm; obtain ⟨n9, ho10⟩ := lp_some ho7
  refine WC.bloop4 (H2 := [blk b3 [.int .i64 0, .slice none 0 0] 63, blk b2 [.int .i64 t.u0, .int .i64 t.u1, .int .i64 t.u2, .int .i64 t.w0, .int .i64 t.w1, .int .i64 t.w2, .int .i64 t.regs] 24, blk b1 [v_l_logs, v_l_body, v_l_outs] 49, kn M w.heap.size K0 K0]) (τ := [(4, (true, _)), (6, (true, _)), (8, (true, _)), (15, (true, _)), (16, (true, _))]) (fun (v5_1 : List Int) (time9_1 : Int) (x17_1 : Int) (uv5_1 : Value) => [(9, (true, .int .i64 time9_1)), (17, (true, .int .i64 x17_1))]) (fun (v5_1 : List Int) (time9_1 : Int) (x17_1 : Int) (uv5_1 : Value) => [vec uv5_1 3 1 (List.map icell v5_1), blk b4 [.int .i64 pace, uv5_1] 63]) (fun (v5_1 : List Int) (time9_1 : Int) (x17_1 : Int) (uv5_1 : Value) (m : Nat) => iter (sched_straight_L0 l t) m (v5_1, time9_1, x17_1) = some o6 ∧ SliceLen uv5_1 v5_1.length) (fun (v5_1 : List Int) (time9_1 : Int) (x17_1 : Int) (uv5_1 : Value) => o6 = .go (v5_1, time9_1, x17_1) ∧ SliceLen uv5_1 v5_1.length) [] 0 0 (.slice none 0 0) n9 ⟨ho10, SliceLen.nil⟩ ⟨rfl, rfl, rfl, rfl, rfl, rfl, rfl, trivial⟩ (fun w hw => hw.pick [0, 1, 2, 3, 4, 5] (by decide)) ?_ ?_
  · skip
    rintro v5_1 time9_1 x17_1 uv5_1 ⟨rfl, hlv5_1⟩
    refine WQ.then ?_
    refine WC.seq ?_
    refine WC.region ?_
    refine WL.q rfl rfl rfl (QV.loadAgg ag63 rfl rfl rfl (Own.cellsBlk 1 rfl)) ?_
    refine WL.q rfl rfl rfl (QV.move rfl rfl) ?_
    refine WL.effect rfl ?_
    refine (EV.store 2 rfl rfl rfl rfl rfl rfl (vs := [.int .i64 pace, uv5_1]) (show Value.cells _ = List.toArray _ from rfl) sz63 (Nat.le_of_ble_eq_true rfl) (one_cons rfl (one_cons (SliceLen.one hlv5_1) one_nil)) ?_)
    refine WL.q rfl rfl rfl (QV.assign rfl rfl) ?_
    refine WL.nil ?_
    refine WQ.then ?_
    refine WC.ret ?_
    obtain rfl := (eq_of_some hm8).symm
    refine WK.of (C' := Own M w [kn M w.heap.size K0 K0, vec uv5_1 3 1 (List.map icell v5_1), blk b4 [.int .i64 pace, uv5_1] 63, blk b3 [.int .i64 pace, uv5_1] 63, blk b2 [.int .i64 t.u0, .int .i64 t.u1, .int .i64 t.u2, .int .i64 t.w0, .int .i64 t.w1, .int .i64 t.w2, .int .i64 t.regs] 24, blk b1 [v_l_logs, v_l_body, v_l_outs] 49]) (fun w hw => hw.pick [5, 0, 1, 2, 3, 4] (by decide)) ?_
    refine WK.freeze hk (fun k11 hle11 hr11 => ?_)
    have hA11 := vec_arr hr11
    refine WQ.retCellTmp rfl ag63 rfl rfl rfl (Own.cellsBlk 2 rfl) (fun w hw => ?_)
    exact ⟨(uv5_1, k11), rfl, hw.pick [0] (by decide), hA11⟩
  · skip
    rintro v5_1 time9_1 x17_1 uv5_1 m12 ⟨hI13, hlv5_1⟩
    obtain ⟨m14, s15, rfl, hm16, hn17⟩ := iter_step hI13; clear hI13; unfold sched_straight_L0 at hm16; simp only at hm16
    refine WC.seq ?_
    refine WC.region ?_
    refine WL.q rfl rfl rfl (QV.lss rfl rfl rfl rfl) ?_
    refine WL.nil ?_
    refine WQ.then ?_
    refine WC.seq ?_
    refine WC.cond rfl (fun h18 => ?_) (fun h18 => ?_)
    · skip
      have hm19 := br_t h18 hm16; clear hm16
      refine WC.skip ?_
      refine WQ.then ?_
      refine WC.seq ?_
      refine WC.block ?_
      refine WC.seq ?_
      refine WC.region ?_
      obtain ⟨c20, hm21⟩ := ck_some hm19; clear hm19
      obtain ⟨p22, hp23⟩ := h_l_body.lenMap.ix (sz := 9) ln_len c20
      refine WL.q rfl rfl rfl (QV.indexSlice sl47 rfl rfl rfl rfl hp23) ?_
      refine WL.q rfl rfl rfl (QV.loadAgg ag59 rfl rfl rfl (fun w hw => ((Own.karr 5 rfl hk h_l_body) w hw).ele hp23 c20)) ?_
      refine WL.effect rfl ?_
      refine (EV.alloc (by decide) ze59 (fun b24 => ?_))
      refine WL.effect rfl ?_
      refine (EV.store 0 rfl rfl rfl rfl rfl rfl (vs := [.int .i64 ((ele l.body x17_1).op), .int .i64 (((ele l.body x17_1).a).st), .int .i64 (((ele l.body x17_1).a).bk), .int .i64 (((ele l.body x17_1).b).st), .int .i64 (((ele l.body x17_1).b).bk), .int .i64 ((ele l.body x17_1).ar), .int .i64 ((ele l.body x17_1).sp), .int .i64 ((ele l.body x17_1).pl), .int .i64 ((ele l.body x17_1).n)]) (show Value.cells _ = List.toArray _ from rfl) sz59 (Nat.le_of_ble_eq_true rfl) (one_cons rfl (one_cons rfl (one_cons rfl (one_cons rfl (one_cons rfl (one_cons rfl (one_cons rfl (one_cons rfl (one_cons rfl one_nil))))))))) ?_)
      refine WL.nil ?_
      refine WQ.then ?_
      refine WC.seq ?_
      refine WC.region ?_
      refine WL.q rfl rfl rfl (QV.fieldAddr fd63_1 rfl rfl) ?_
      refine WL.q rfl rfl rfl (QV.load pl30 rfl rfl (Own.cell 2 rfl rfl)) ?_
      refine WL.q rfl rfl rfl (QV.move rfl rfl) ?_
      refine WL.effect rfl ?_
      refine (EV.buildSlice (by decide) sz_30 (by decide) (by decide) (ps := [(0, .tmp 23)]) (cells := [.int .i64 time9_1]) (EvAll.cons rfl rfl EvAll.nil) (by kernel_rfl) (fun b25 => ?_))
      refine WL.effect rfl ?_
      obtain ⟨c26, hm27⟩ := ck_some hm21; clear hm21
      refine (EV.appendL (enc := icell) (xs := v5_1) (ys := [time9_1]) ((v5_1 ++ [time9_1])) 2 (by decide) ve30 rfl rfl rfl rfl rfl (Own.blkArr 0 (rows := [time9_1].map icell) rfl rfl (rows_len icell_len)) icell_len (icell_one _) rfl c26.1 c26.2 (fun u28 hu29 => ?_))
      refine WL.q rfl rfl rfl (QV.fieldAddr fd63_1 rfl rfl) ?_
      refine WL.effect rfl ?_
      refine (EV.store 3 rfl rfl rfl rfl rfl rfl (vs := [u28]) (SliceLen.cells hu29) sz30 (Nat.le_of_ble_eq_true rfl) (one_cons (SliceLen.one hu29) one_nil) ?_)
      refine WL.nil ?_
      refine WQ.then ?_
      refine WC.region ?_
      refine WL.q rfl rfl rfl (QV.move rfl rfl) ?_
      refine WL.q rfl rfl rfl (QV.loadAgg ag24 rfl rfl rfl (Own.cellsBlk 5 rfl)) ?_
      refine WL.q rfl rfl rfl (QV.fieldAddr fd59_0 rfl rfl) ?_
      refine WL.q rfl rfl rfl (QV.load pl3 rfl rfl (Own.cell 1 rfl rfl)) ?_
      obtain ⟨x30, hx31, hm32⟩ := bd_some hm27; clear hm27
      refine WL.q rfl rfl rfl (QV.call en63 (EvAll.cons rfl rfl (EvAll.cons rfl rfl EvAll.nil)) (fun w hw => have h := target_Wait_w w hx31 ; h)) ?_
      obtain ⟨c33, hm34⟩ := ck_some hm32; clear hm32
      refine WL.q rfl rfl rfl (QV.add rfl rfl rfl rfl c33) ?_
      refine WL.q rfl rfl rfl (QV.assign rfl rfl) ?_
      refine WL.nil ?_
      refine WQ.block ?_
      refine WQ.then ?_
      refine WC.region ?_
      obtain ⟨c35, hm36⟩ := ck_some hm34; clear hm34
      refine WL.q rfl rfl rfl (QV.add rfl rfl rfl rfl c35) ?_
      refine WL.q rfl rfl rfl (QV.move rfl rfl) ?_
      refine WL.nil ?_
      exact WQ.again4 (v5_1 ++ [time9_1]) (time9_1 + x30) (x17_1 + 1) u28 m14 ⟨up_next hm36 hn17, hu29⟩ (Nat.lt_succ_self _) ⟨rfl, rfl, rfl, rfl, rfl, rfl, rfl, trivial⟩ (fun w hw => hw.pick [2, 3, 4, 5, 6, 7] (by decide))
    · skip
      have hm37 := br_f h18 hm16; clear hm16
      refine WC.exit ?_
      refine WQ.then_exit ?_
      refine WQ.then_exit ?_
      refine WQ.block_exit ?_
      exact WQ.out4 v5_1 time9_1 x17_1 uv5_1 ⟨up_brk hm37 hn17, hlv5_1⟩ ⟨rfl, rfl, rfl, rfl, rfl, rfl, rfl, trivial⟩ (fun w hw => hw.pick [0, 1, 2, 3, 4, 5] (by decide))

set_option maxRecDepth 8000 in
theorem sched_Make_w {v_l_logs : Value} {v_l_body : Value} {v_l_outs : Value} {l : Lp} {t : Tgt} {least : Int} {r : Pln × Int} {K0 : World} (hm : sched_Make_m l t least = some r) (h_l_logs : Arr K0 v_l_logs 1 (l.logs.map icell)) (h_l_body : Arr K0 v_l_body 9 (l.body.map Stm.cells)) (h_l_outs : Arr K0 v_l_outs 1 (l.outs.map icell)) (M : Nat → Prop) (w : World) (hk : Base M K0 w) (hw0 : Own M w [] w) : Calls Try.prog 35 #[.agg #[v_l_logs, v_l_body, v_l_outs], .agg #[.int .i64 t.u0, .int .i64 t.u1, .int .i64 t.u2, .int .i64 t.w0, .int .i64 t.w1, .int .i64 t.w2, .int .i64 t.regs], .int .i64 least] w (fun e w' => ∃ X : Value × World, e = .returned (.tuple #[.agg #[.int .i64 r.1.pace, X.1], .int .i64 r.2]) ∧ Own M w (kn M w.heap.size K0 X.2 :: []) w' ∧ Arr X.2 X.1 1 (r.1.times.map icell)) := by
  unfold sched_Make_m at hm
  refine calls_of_WC (n := 84) (args := [.agg #[v_l_logs, v_l_body, v_l_outs], .agg #[.int .i64 t.u0, .int .i64 t.u1, .int .i64 t.u2, .int .i64 t.w0, .int .i64 t.w1, .int .i64 t.w2, .int .i64 t.regs], .int .i64 least]) Try.func35 rfl rfl (Nat.le_of_ble_eq_true rfl) ?_ (Own.startK hk hw0)
  refine WC.seq ?_
  refine WC.region ?_
  refine WL.effect rfl ?_
  refine (EV.boxAgg (by decide) rfl rfl (fun b1 => ?_))
  refine WL.effect rfl ?_
  refine (EV.boxAgg (by decide) rfl rfl (fun b2 => ?_))
  refine WL.effect rfl ?_
  refine (EV.alloc (by decide) ze63 (fun b3 => ?_))
  refine WL.q rfl rfl rfl (QV.assign rfl rfl) ?_
  refine WL.nil ?_
  refine WQ.then ?_
  refine WC.seq ?_
  refine WC.region ?_
  refine WL.q rfl rfl rfl (QV.loadAgg ag49 rfl rfl rfl (Own.cellsBlk 2 rfl)) ?_
  refine WL.q rfl rfl rfl (QV.loadAgg ag24 rfl rfl rfl (Own.cellsBlk 1 rfl)) ?_
  refine WL.effect rfl ?_
  obtain ⟨x4, hx5, hm6⟩ := bd_some hm; clear hm
  refine EV.of (C' := Own M w [kn M w.heap.size K0 K0, blk b3 [.int .i64 0, .slice none 0 0] 63, blk b2 [.int .i64 t.u0, .int .i64 t.u1, .int .i64 t.u2, .int .i64 t.w0, .int .i64 t.w1, .int .i64 t.w2, .int .i64 t.regs] 24, blk b1 [v_l_logs, v_l_body, v_l_outs] 49]) (fun w hw => hw.pick [3, 0, 1, 2] (by decide)) ?_
  refine (EV.callR (X := Value × World) (R := []) (fun X => .tuple #[X.1, .int .i64 x4.2]) (fun X => []) (fun X => X.2) (fun X => Arr X.2 X.1 4 (x4.1.map Edg.cells)) hk (fun _ h => by cases h; decide) en23 (EvAll.cons rfl rfl (EvAll.cons rfl rfl EvAll.nil)) (fun M w h1 h2 => have h := dep_Edges_w hx5 h_l_logs h_l_body h_l_outs M w h1 h2; h) (fun X7 hF7 hle7 => ?_))
  refine WL.q rfl rfl rfl (QV.move rfl rfl) ?_
  refine WL.q rfl rfl rfl (QV.extract rfl rfl rfl) ?_
  refine WL.q rfl rfl rfl (QV.extract rfl rfl rfl) ?_
  refine WL.q rfl rfl rfl (QV.assign rfl rfl) ?_
  refine WL.q rfl rfl rfl (QV.assign rfl rfl) ?_
  refine WL.nil ?_
  refine WQ.then ?_
  refine WC.seq ?_
  refine WC.block ?_
  refine WC.seq ?_
  refine WC.region ?_
  refine WL.q rfl rfl rfl (QV.move rfl rfl) ?_
  refine WL.q rfl rfl rfl (QV.neq rfl rfl rfl rfl) ?_
  refine WL.q rfl rfl rfl (QV.assign rfl rfl) ?_
  refine WL.nil ?_
  refine WQ.then ?_
  refine WC.cond rfl (fun h8 => ?_) (fun h8 => ?_)
  · skip
    have hm9 := br_t h8 hm6; clear hm6
    refine WC.seq ?_
    refine WC.region ?_
    refine WL.q rfl rfl rfl (QV.build (ps := []) (cells := [.int .i64 0, .slice none 0 0]) EvAll.nil (by kernel_rfl)) ?_
    refine WL.q rfl rfl rfl (QV.move rfl rfl) ?_
    refine WL.effect rfl ?_
    refine (EV.store 1 rfl rfl rfl rfl rfl rfl (vs := [.int .i64 0, .slice none 0 0]) (show Value.cells _ = List.toArray _ from rfl) sz63 (Nat.le_of_ble_eq_true rfl) (one_cons rfl (one_cons rfl one_nil)) ?_)
    refine WL.q rfl rfl rfl (QV.assign rfl rfl) ?_
    refine WL.nil ?_
    refine WQ.then ?_
    refine WC.ret ?_
    refine WQ.block_ret ?_
    refine WQ.then_ret ?_
    obtain rfl := (eq_of_some hm9).symm
    refine WQ.retCellTmp rfl ag63 rfl rfl rfl (Own.cellsBlk 1 rfl) (fun w hw => ?_)
    exact ⟨(.slice none 0 0, X7.2), rfl, hw.pick [0] (by decide), Arr.nil⟩
  · skip
    have hm10 := br_f h8 hm6; clear hm6
    refine WC.seq ?_
    refine WC.region ?_
    refine WL.q rfl rfl rfl (QV.move rfl rfl) ?_
    refine WL.q rfl rfl rfl (QV.lss rfl rfl rfl rfl) ?_
    refine WL.q rfl rfl rfl (QV.move rfl rfl) ?_
    refine WL.g rfl rfl (GuardIs.neg rfl rfl) (fun hG => QV.move rfl rfl) ?_
    refine WL.g rfl rfl (GuardIs.neg rfl rfl) (fun hG => QV.gtr rfl hG rfl rfl) ?_
    refine WL.q rfl rfl rfl (QV.pickOr rfl rfl rfl (fun h => notF h)) ?_
    refine WL.q rfl rfl rfl (QV.assign rfl rfl) ?_
    refine WL.nil ?_
    refine WQ.then ?_
    refine WC.cond rfl (fun h11 => ?_) (fun h11 => ?_)
    · skip
      have hm12 := br_t h11 hm10; clear hm10
      refine WC.seq ?_
      refine WC.region ?_
      refine WL.q rfl rfl rfl (QV.build (ps := []) (cells := [.int .i64 0, .slice none 0 0]) EvAll.nil (by kernel_rfl)) ?_
      refine WL.effect rfl ?_
      refine (EV.store 1 rfl rfl rfl rfl rfl rfl (vs := [.int .i64 0, .slice none 0 0]) (show Value.cells _ = List.toArray _ from rfl) sz63 (Nat.le_of_ble_eq_true rfl) (one_cons rfl (one_cons rfl one_nil)) ?_)
      refine WL.q rfl rfl rfl (QV.assign rfl rfl) ?_
      refine WL.nil ?_
      refine WQ.then ?_
      refine WC.ret ?_
      refine WQ.block_ret ?_
      refine WQ.then_ret ?_
      obtain rfl := (eq_of_some hm12).symm
      refine WQ.retCellTmp rfl ag63 rfl rfl rfl (Own.cellsBlk 1 rfl) (fun w hw => ?_)
      exact ⟨(.slice none 0 0, X7.2), rfl, hw.pick [0] (by decide), Arr.nil⟩
    · skip
      have hm13 := br_f h11 hm10; clear hm10
      refine WC.skip ?_
      refine WQ.block ?_
      refine WQ.then ?_
      refine WC.seq ?_
      refine WC.region ?_
      refine WL.q rfl rfl rfl (QV.loadAgg ag49 rfl rfl rfl (Own.cellsBlk 3 rfl)) ?_
      refine WL.q rfl rfl rfl (QV.loadAgg ag24 rfl rfl rfl (Own.cellsBlk 2 rfl)) ?_
      obtain ⟨x14, hx15, hm16⟩ := bd_some hm13; clear hm13
      refine WL.q rfl rfl rfl (QV.call en29 (EvAll.cons rfl rfl (EvAll.cons rfl rfl EvAll.nil)) (fun w hw => have h := bound_Bound_w w hx15 ((Own.karr 0 rfl hk (h_l_logs.le hle7)) w hw) ((Own.karr 0 rfl hk (h_l_body.le hle7)) w hw) ((Own.karr 0 rfl hk (h_l_outs.le hle7)) w hw); h)) ?_
      refine WL.q rfl rfl rfl (QV.move rfl rfl) ?_
      refine WL.q rfl rfl rfl (QV.extract rfl rfl rfl) ?_
      refine WL.q rfl rfl rfl (QV.extract rfl rfl rfl) ?_
      refine WL.q rfl rfl rfl (QV.extract rfl rfl rfl) ?_
      refine WL.q rfl rfl rfl (QV.assign rfl rfl) ?_
      refine WL.q rfl rfl rfl (QV.assign rfl rfl) ?_
      refine WL.q rfl rfl rfl (QV.assign rfl rfl) ?_
      refine WL.nil ?_
      refine WQ.then ?_
      refine WC.seq ?_
      refine WC.region ?_
      refine WL.q rfl rfl rfl (QV.loadAgg ag49 rfl rfl rfl (Own.cellsBlk 3 rfl)) ?_
      refine WL.q rfl rfl rfl (QV.loadAgg ag24 rfl rfl rfl (Own.cellsBlk 2 rfl)) ?_
      refine WL.effect rfl ?_
      obtain ⟨x17, hx18, hm19⟩ := bd_some hm16; clear hm16
      refine (EV.callR (X := Value × World) (R := []) (fun X => .tuple #[.agg #[.int .i64 x17.1.pace, X.1], .int .i64 x17.2]) (fun X => []) (fun X => X.2) (fun X => Arr X.2 X.1 1 (x17.1.times.map icell)) hk (fun _ h => by cases h; decide) en76 (EvAll.cons rfl rfl (EvAll.cons rfl rfl (EvAll.cons rfl rfl EvAll.nil))) (fun M w h1 h2 => have h := sched_straight_w hx18 (h_l_logs.le hle7) (h_l_body.le hle7) (h_l_outs.le hle7) M w h1 h2; h) (fun X20 hF20 hle20 => ?_))
      refine WL.q rfl rfl rfl (QV.move rfl rfl) ?_
      refine WL.q rfl rfl rfl (QV.extract rfl rfl rfl) ?_
      refine WL.q rfl rfl rfl (QV.extract rfl rfl rfl) ?_
      refine WL.effect rfl ?_
      refine (EV.alloc (by decide) ze63 (fun b21 => ?_))
      refine WL.effect rfl ?_
      refine (EV.store 0 rfl rfl rfl rfl rfl rfl (vs := [.int .i64 x17.1.pace, X20.1]) (show Value.cells _ = List.toArray _ from rfl) sz63 (Nat.le_of_ble_eq_true rfl) (one_cons rfl (one_cons (SliceLen.one hF20.lenMap) one_nil)) ?_)
      refine WL.q rfl rfl rfl (QV.assign rfl rfl) ?_
      refine WL.nil ?_
      refine WQ.then ?_
      refine WC.seq ?_
      refine WC.seq ?_
      refine WC.region ?_
      refine WL.q rfl rfl rfl (QV.move rfl rfl) ?_
      refine WL.q rfl rfl rfl (QV.move rfl rfl) ?_
      refine WL.q rfl rfl rfl (QV.move rfl rfl) ?_
      refine WL.q rfl rfl rfl (QV.max3 rfl rfl rfl rfl rfl rfl) ?_
      refine WL.q rfl rfl rfl (QV.assign rfl rfl) ?_
      refine WL.nil ?_
      refine WQ.then ?_
      obtain ⟨o22, ho23, hm24⟩ := bd_some hm19; clear hm19; obtain ⟨n25, ho26⟩ := lp_some ho23
      refine WC.bloop2 (H2 := [blk b21 [.int .i64 x17.1.pace, X20.1] 63, blk b3 [.int .i64 0, .slice none 0 0] 63, blk b2 [.int .i64 t.u0, .int .i64 t.u1, .int .i64 t.u2, .int .i64 t.w0, .int .i64 t.w1, .int .i64 t.w2, .int .i64 t.regs] 24, blk b1 [v_l_logs, v_l_body, v_l_outs] 49]) (τ := [(2, (true, _)), (3, (true, _)), (4, (true, _)), (6, (true, _)), (8, (true, _)), (14, (true, _))]) (fun (pace15_1 : Int) (k_1 : World) => [(15, (true, .int .i64 pace15_1))]) (fun (pace15_1 : Int) (k_1 : World) => [kn M w.heap.size K0 k_1]) (fun (pace15_1 : Int) (k_1 : World) (m : Nat) => iter (sched_Make_L1 l t least x4 x17) m pace15_1 = some o22 ∧ Le X20.2 k_1) (fun (pace15_1 : Int) (k_1 : World) => o22 = .go pace15_1 ∧ Le X20.2 k_1) (max (max least x14.1) x14.2.1) X20.2 n25 ⟨ho26, (Le.refl _)⟩ ⟨rfl, rfl, rfl, rfl, rfl, rfl, rfl, trivial⟩ (fun w hw => hw.pick [1, 0, 2, 3, 4] (by decide)) ?_ ?_
      · skip
        rintro pace15_1 k_1 ⟨rfl, hle_1⟩
        refine WQ.then ?_
        refine WC.seq ?_
        refine WC.region ?_
        refine WL.q rfl rfl rfl (QV.loadAgg ag49 rfl rfl rfl (Own.cellsBlk 4 rfl)) ?_
        refine WL.q rfl rfl rfl (QV.loadAgg ag24 rfl rfl rfl (Own.cellsBlk 3 rfl)) ?_
        refine WL.q rfl rfl rfl (QV.move rfl rfl) ?_
        refine WL.q rfl rfl rfl (QV.move rfl rfl) ?_
        refine WL.q rfl rfl rfl (QV.max2 rfl rfl rfl rfl) ?_
        refine WL.effect rfl ?_
        obtain ⟨x27, hx28, hm29⟩ := bd_some hm24; clear hm24
        refine (EV.callR (X := Value × World) (R := []) (fun X => .tuple #[.agg #[.int .i64 x27.1.pace, X.1], .int .i64 x27.2]) (fun X => []) (fun X => X.2) (fun X => Arr X.2 X.1 1 (x27.1.times.map icell)) hk (fun _ h => by cases h; decide) en76 (EvAll.cons rfl rfl (EvAll.cons rfl rfl (EvAll.cons rfl rfl EvAll.nil))) (fun M w h1 h2 => have h := sched_straight_w hx28 (h_l_logs.le ((hle7.trans hle20).trans hle_1)) (h_l_body.le ((hle7.trans hle20).trans hle_1)) (h_l_outs.le ((hle7.trans hle20).trans hle_1)) M w h1 h2; h) (fun X30 hF30 hle30 => ?_))
        refine WL.q rfl rfl rfl (QV.move rfl rfl) ?_
        refine WL.q rfl rfl rfl (QV.extract rfl rfl rfl) ?_
        refine WL.q rfl rfl rfl (QV.extract rfl rfl rfl) ?_
        refine WL.effect rfl ?_
        refine (EV.alloc (by decide) ze63 (fun b31 => ?_))
        refine WL.effect rfl ?_
        refine (EV.store 0 rfl rfl rfl rfl rfl rfl (vs := [.int .i64 x27.1.pace, X30.1]) (show Value.cells _ = List.toArray _ from rfl) sz63 (Nat.le_of_ble_eq_true rfl) (one_cons rfl (one_cons (SliceLen.one hF30.lenMap) one_nil)) ?_)
        refine WL.q rfl rfl rfl (QV.assign rfl rfl) ?_
        refine WL.nil ?_
        refine WQ.then ?_
        refine WC.seq ?_
        refine WC.region ?_
        refine WL.q rfl rfl rfl (QV.loadAgg ag63 rfl rfl rfl (Own.cellsBlk 0 rfl)) ?_
        refine WL.effect rfl ?_
        refine (EV.store 3 rfl rfl rfl rfl rfl rfl (vs := [.int .i64 x27.1.pace, X30.1]) (show Value.cells _ = List.toArray _ from rfl) sz63 (Nat.le_of_ble_eq_true rfl) (one_cons rfl (one_cons (SliceLen.one hF30.lenMap) one_nil)) ?_)
        refine WL.q rfl rfl rfl (QV.assign rfl rfl) ?_
        refine WL.nil ?_
        refine WQ.then ?_
        refine WC.ret ?_
        obtain rfl := (eq_of_some hm29).symm
        refine WQ.retCellTmp rfl ag63 rfl rfl rfl (Own.cellsBlk 3 rfl) (fun w hw => ?_)
        exact ⟨(X30.1, X30.2), rfl, hw.pick [1] (by decide), hF30⟩
      · skip
        rintro pace15_1 k_1 m32 ⟨hI33, hle_1⟩
        obtain ⟨m34, s35, rfl, hm36, hn37⟩ := iter_step hI33; clear hI33; unfold sched_Make_L1 at hm36
        refine WC.seq ?_
        refine WC.seq ?_
        refine WC.region ?_
        refine WL.q rfl rfl rfl (QV.move rfl rfl) ?_
        refine WL.q rfl rfl rfl (QV.move rfl rfl) ?_
        obtain ⟨c38, hm39⟩ := ck_some hm36; clear hm36
        refine WL.q rfl rfl rfl (QV.add rfl rfl rfl rfl c38) ?_
        refine WL.q rfl rfl rfl (QV.move rfl rfl) ?_
        refine WL.q rfl rfl rfl (QV.max2 rfl rfl rfl rfl) ?_
        refine WL.q rfl rfl rfl (QV.lss rfl rfl rfl rfl) ?_
        refine WL.nil ?_
        refine WQ.then ?_
        refine WC.cond rfl (fun h40 => ?_) (fun h40 => ?_)
        · skip
          have hm41 := br_t h40 hm39; clear hm39
          refine WC.skip ?_
          refine WQ.then ?_
          refine WC.seq ?_
          refine WC.block ?_
          refine WC.seq ?_
          refine WC.region ?_
          refine WL.q rfl rfl rfl (QV.loadAgg ag49 rfl rfl rfl (Own.cellsBlk 4 rfl)) ?_
          refine WL.q rfl rfl rfl (QV.loadAgg ag24 rfl rfl rfl (Own.cellsBlk 3 rfl)) ?_
          refine WL.q rfl rfl rfl (QV.move rfl rfl) ?_
          refine WL.q rfl rfl rfl (QV.move rfl rfl) ?_
          refine WL.effect rfl ?_
          obtain ⟨x42, hx43, hm44⟩ := bd_some hm41; clear hm41
          refine (EV.callR (X := Value × World) (R := []) (fun X => .agg #[.int .i64 x42.pace, X.1]) (fun X => []) (fun X => X.2) (fun X => Arr X.2 X.1 1 (x42.times.map icell)) hk (fun _ h => by cases h; decide) en77 (EvAll.cons rfl rfl (EvAll.cons rfl rfl (EvAll.cons rfl rfl (EvAll.cons rfl rfl EvAll.nil)))) (fun M w h1 h2 => have h := sched_early_w hx43 (h_l_logs.le ((hle7.trans hle20).trans hle_1)) (h_l_body.le ((hle7.trans hle20).trans hle_1)) (h_l_outs.le ((hle7.trans hle20).trans hle_1)) (hF7.le (hle20.trans hle_1)) M w h1 h2; h) (fun X45 hF45 hle45 => ?_))
          refine WL.effect rfl ?_
          refine (EV.alloc (by decide) ze63 (fun b46 => ?_))
          refine WL.effect rfl ?_
          refine (EV.store 0 rfl rfl rfl rfl rfl rfl (vs := [.int .i64 x42.pace, X45.1]) (show Value.cells _ = List.toArray _ from rfl) sz63 (Nat.le_of_ble_eq_true rfl) (one_cons rfl (one_cons (SliceLen.one hF45.lenMap) one_nil)) ?_)
          refine WL.nil ?_
          refine WQ.then ?_
          refine WC.seq ?_
          refine WC.region ?_
          refine WL.q rfl rfl rfl (QV.loadAgg ag49 rfl rfl rfl (Own.cellsBlk 5 rfl)) ?_
          refine WL.q rfl rfl rfl (QV.loadAgg ag24 rfl rfl rfl (Own.cellsBlk 4 rfl)) ?_
          refine WL.q rfl rfl rfl (QV.loadAgg ag63 rfl rfl rfl (Own.cellsBlk 0 rfl)) ?_
          refine WL.q rfl rfl rfl (QV.move rfl rfl) ?_
          obtain ⟨x47, hx48, hm49⟩ := bd_some hm44; clear hm44
          refine WL.q rfl rfl rfl (QV.call en70 (EvAll.cons rfl rfl (EvAll.cons rfl rfl (EvAll.cons rfl rfl (EvAll.cons rfl rfl EvAll.nil)))) (fun w hw => have h := sched_fits_w w hx48 ((Own.karr 1 rfl hk (h_l_logs.le (((hle7.trans hle20).trans hle_1).trans hle45))) w hw) ((Own.karr 1 rfl hk (h_l_body.le (((hle7.trans hle20).trans hle_1).trans hle45))) w hw) ((Own.karr 1 rfl hk (h_l_outs.le (((hle7.trans hle20).trans hle_1).trans hle45))) w hw) ((Own.karr 1 rfl hk hF45) w hw) ((Own.karr 1 rfl hk (hF7.le ((hle20.trans hle_1).trans hle45))) w hw); h)) ?_
          refine WL.nil ?_
          refine WQ.then ?_
          refine WC.cond rfl (fun h50 => ?_) (fun h50 => ?_)
          · skip
            have hm51 := br_t h50 hm49; clear hm49
            refine WC.seq ?_
            refine WC.region ?_
            refine WL.q rfl rfl rfl (QV.loadAgg ag63 rfl rfl rfl (Own.cellsBlk 0 rfl)) ?_
            refine WL.effect rfl ?_
            refine (EV.store 3 rfl rfl rfl rfl rfl rfl (vs := [.int .i64 x42.pace, X45.1]) (show Value.cells _ = List.toArray _ from rfl) sz63 (Nat.le_of_ble_eq_true rfl) (one_cons rfl (one_cons (SliceLen.one hF45.lenMap) one_nil)) ?_)
            refine WL.q rfl rfl rfl (QV.assign rfl rfl) ?_
            refine WL.nil ?_
            refine WQ.then ?_
            refine WC.ret ?_
            refine WQ.block_ret ?_
            refine WQ.then_ret ?_
            refine WQ.then_ret ?_
            refine WQ.block_ret ?_
            refine WQ.then_ret ?_
            refine WQ.then_ret ?_
            obtain rfl := up_ret hm51 hn37
            obtain rfl := (eq_of_some hm24).symm
            refine WQ.retCellTmp rfl ag63 rfl rfl rfl (Own.cellsBlk 3 rfl) (fun w hw => ?_)
            exact ⟨(X45.1, X45.2), rfl, hw.pick [1] (by decide), hF45⟩
          · skip
            have hm52 := br_f h50 hm49; clear hm49
            refine WC.skip ?_
            refine WQ.block ?_
            refine WQ.then ?_
            refine WC.region ?_
            refine WL.q rfl rfl rfl (QV.move rfl rfl) ?_
            obtain ⟨c53, hm54⟩ := ck_some hm52; clear hm52
            refine WL.q rfl rfl rfl (QV.add rfl rfl rfl rfl c53) ?_
            refine WL.q rfl rfl rfl (QV.assign rfl rfl) ?_
            refine WL.nil ?_
            exact WQ.again2 (pace15_1 + 1) X45.2 m34 ⟨up_next hm54 hn37, (hle_1.trans hle45)⟩ (Nat.lt_succ_self _) ⟨rfl, rfl, rfl, rfl, rfl, rfl, rfl, trivial⟩ (fun w hw => hw.pick [1, 2, 3, 4, 5] (by decide))
        · skip
          have hm55 := br_f h40 hm39; clear hm39
          refine WC.exit ?_
          refine WQ.then_exit ?_
          refine WQ.then_exit ?_
          refine WQ.block_exit ?_
          exact WQ.out2 pace15_1 k_1 ⟨up_brk hm55 hn37, hle_1⟩ ⟨rfl, rfl, rfl, rfl, rfl, rfl, rfl, trivial⟩ (fun w hw => hw.pick [0, 1, 2, 3, 4] (by decide))
end Go.Proofs.Ytaimbkndebaaiab
end

section
namespace Go.Proofs.Ytaimbkndebaaiab
open Go.Rd
set_option linter.unusedVariables false
namespace TRDep
theorem ag24 : AggT Try.prog 24 7 := ⟨_, Try.underlying24, rfl, by kernel_rfl⟩
theorem ag49 : AggT Try.prog 49 3 := ⟨_, Try.underlying49, rfl, by kernel_rfl⟩
theorem ag59 : AggT Try.prog 59 9 := ⟨_, Try.underlying59, rfl, by kernel_rfl⟩
theorem ag61 : AggT Try.prog 61 4 := ⟨_, Try.underlying61, rfl, by kernel_rfl⟩
theorem en110 : Go.Rd.Enters Try.prog 110 := ⟨Try.f110, Try.func110, by kernel_rfl, by kernel_rfl⟩
theorem en111 : Go.Rd.Enters Try.prog 111 := ⟨Try.f111, Try.func111, by kernel_rfl, by kernel_rfl⟩
theorem en45 : Go.Rd.Enters Try.prog 45 := ⟨Try.f45, Try.func45, by kernel_rfl, by kernel_rfl⟩
theorem en49 : Go.Rd.Enters Try.prog 49 := ⟨Try.f49, Try.func49, by kernel_rfl, by kernel_rfl⟩
theorem en68 : Go.Rd.Enters Try.prog 68 := ⟨Try.f68, Try.func68, by kernel_rfl, by kernel_rfl⟩
theorem en69 : Go.Rd.Enters Try.prog 69 := ⟨Try.f69, Try.func69, by kernel_rfl, by kernel_rfl⟩
theorem en74 : Go.Rd.Enters Try.prog 74 := ⟨Try.f74, Try.func74, by kernel_rfl, by kernel_rfl⟩
theorem en75 : Go.Rd.Enters Try.prog 75 := ⟨Try.f75, Try.func75, by kernel_rfl, by kernel_rfl⟩
theorem en78 : Go.Rd.Enters Try.prog 78 := ⟨Try.f78, Try.func78, by kernel_rfl, by kernel_rfl⟩
theorem fd49_0 : FieldT Try.prog 49 0 0 := ⟨_, _, 0, Try.underlying49, rfl, rfl, by kernel_rfl⟩
theorem fd49_1 : FieldT Try.prog 49 1 1 := ⟨_, _, 0, Try.underlying49, rfl, rfl, by kernel_rfl⟩
theorem fd57_0 : FieldT Try.prog 57 0 0 := ⟨_, _, 0, Try.underlying57, rfl, rfl, by kernel_rfl⟩
theorem fd57_1 : FieldT Try.prog 57 1 1 := ⟨_, _, 0, Try.underlying57, rfl, rfl, by kernel_rfl⟩
theorem fd59_0 : FieldT Try.prog 59 0 0 := ⟨_, _, 0, Try.underlying59, rfl, rfl, by kernel_rfl⟩
theorem fd59_3 : FieldT Try.prog 59 3 5 := ⟨_, _, 0, Try.underlying59, rfl, rfl, by kernel_rfl⟩
theorem fd59_4 : FieldT Try.prog 59 4 6 := ⟨_, _, 0, Try.underlying59, rfl, rfl, by kernel_rfl⟩
theorem fd59_5 : FieldT Try.prog 59 5 7 := ⟨_, _, 0, Try.underlying59, rfl, rfl, by kernel_rfl⟩
theorem fd61_0 : FieldT Try.prog 61 0 0 := ⟨_, _, 0, Try.underlying61, rfl, rfl, by kernel_rfl⟩
theorem fd61_1 : FieldT Try.prog 61 1 1 := ⟨_, _, 0, Try.underlying61, rfl, rfl, by kernel_rfl⟩
theorem fd61_2 : FieldT Try.prog 61 2 2 := ⟨_, _, 0, Try.underlying61, rfl, rfl, by kernel_rfl⟩
theorem fd61_3 : FieldT Try.prog 61 3 3 := ⟨_, _, 0, Try.underlying61, rfl, rfl, by kernel_rfl⟩
theorem pl3 : Plain Try.prog 3 := ⟨_, Try.underlying3, rfl⟩
theorem pl30 : Plain Try.prog 30 := ⟨_, Try.underlying30, rfl⟩
theorem pl47 : Plain Try.prog 47 := ⟨_, Try.underlying47, rfl⟩
theorem sl106 : SliceT Try.prog 106 57 2 := ⟨Try.underlying106, by kernel_rfl⟩
theorem sl30 : SliceT Try.prog 30 3 1 := ⟨Try.underlying30, by kernel_rfl⟩
theorem sl47 : SliceT Try.prog 47 59 9 := ⟨Try.underlying47, by kernel_rfl⟩
theorem sz59 : SizeT Try.prog 59 9 := by unfold SizeT; kernel_rfl
theorem sz61 : SizeT Try.prog 61 4 := by unfold SizeT; kernel_rfl
theorem sz_50 : SliceZ Try.prog 50 61 4 [.int .i64 0, .int .i64 0, .int .i64 0, .int .i64 0] := ⟨Try.underlying50, by kernel_rfl⟩
theorem ve50 : VecT Try.prog 50 61 4 32 := ⟨Try.underlying50, by kernel_rfl, by decide⟩
theorem ze59 : ZeroT Try.prog 59 [.int .i64 0, .int .i64 0, .int .i64 0, .int .i64 0, .int .i64 0, .int .i64 0, .int .i64 0, .int .i64 0, .int .i64 0] := by unfold ZeroT; kernel_rfl
theorem ze61 : ZeroT Try.prog 61 [.int .i64 0, .int .i64 0, .int .i64 0, .int .i64 0] := by unfold ZeroT; kernel_rfl
end TRDep
open TRDep
set_option maxRecDepth 8000 in
theorem roundelayref6_Meets_w {a : Stm} {b : Stm} {back : Int} {size : Int} {r : Bool} (w : World) (hm : roundelayref6_Meets_m a b back size = some r)  : Calls Try.prog 111 #[.agg #[.int .i64 a.op, .int .i64 a.a.st, .int .i64 a.a.bk, .int .i64 a.b.st, .int .i64 a.b.bk, .int .i64 a.ar, .int .i64 a.sp, .int .i64 a.pl, .int .i64 a.n], .agg #[.int .i64 b.op, .int .i64 b.a.st, .int .i64 b.a.bk, .int .i64 b.b.st, .int .i64 b.b.bk, .int .i64 b.ar, .int .i64 b.sp, .int .i64 b.pl, .int .i64 b.n], .int .i64 back, .int .i64 size] w (fun e w' => e = .returned (.bool r) ∧ Grow w w') := by
  unfold roundelayref6_Meets_m at hm
  have hk := Base.rfl (w := w)
  refine calls_of_WC (n := 40) (args := [.agg #[.int .i64 a.op, .int .i64 a.a.st, .int .i64 a.a.bk, .int .i64 a.b.st, .int .i64 a.b.bk, .int .i64 a.ar, .int .i64 a.sp, .int .i64 a.pl, .int .i64 a.n], .agg #[.int .i64 b.op, .int .i64 b.a.st, .int .i64 b.a.bk, .int .i64 b.b.st, .int .i64 b.b.bk, .int .i64 b.ar, .int .i64 b.sp, .int .i64 b.pl, .int .i64 b.n], .int .i64 back, .int .i64 size]) Try.func111 rfl rfl (Nat.le_of_ble_eq_true rfl) ?_ (Own.startK hk (Own.start w))
  refine WC.seq ?_
  refine WC.region ?_
  refine WL.effect rfl ?_
  refine (EV.boxAgg (by decide) rfl rfl (fun b1 => ?_))
  refine WL.effect rfl ?_
  refine (EV.boxAgg (by decide) rfl rfl (fun b2 => ?_))
  refine WL.q rfl rfl rfl (QV.assign rfl rfl) ?_
  refine WL.nil ?_
  refine WQ.then ?_
  refine WC.seq ?_
  refine WC.seq ?_
  refine WC.region ?_
  refine WL.q rfl rfl rfl (QV.assign rfl rfl) ?_
  refine WL.nil ?_
  refine WQ.then ?_
  obtain ⟨o3, ho4, hm5⟩ := bd_some hm; clear hm; obtain ⟨n6, ho7⟩ := lp_some ho4
  refine WC.bloop1 (H2 := [blk b2 [.int .i64 b.op, .int .i64 b.a.st, .int .i64 b.a.bk, .int .i64 b.b.st, .int .i64 b.b.bk, .int .i64 b.ar, .int .i64 b.sp, .int .i64 b.pl, .int .i64 b.n] 59, blk b1 [.int .i64 a.op, .int .i64 a.a.st, .int .i64 a.a.bk, .int .i64 a.b.st, .int .i64 a.b.bk, .int .i64 a.ar, .int .i64 a.sp, .int .i64 a.pl, .int .i64 a.n] 59, kn noM w.heap.size w w]) (τ := [(2, (true, _)), (3, (true, _)), (4, (true, _)), (5, (true, _))]) (fun (turn9_1 : Int) => [(9, (true, .int .i64 turn9_1))]) (fun (turn9_1 : Int) => []) (fun (turn9_1 : Int) (m : Nat) => iter (roundelayref6_Meets_L0 a b back size) m turn9_1 = some o3) (fun (turn9_1 : Int) => o3 = .go turn9_1) 0 n6 ho7 ⟨rfl, rfl, rfl, rfl, rfl, trivial⟩ (fun w hw => hw.pick [0, 1, 2] (by decide)) ?_ ?_
  · skip
    rintro turn9_1 rfl
    refine WQ.then ?_
    refine WC.seq ?_
    refine WC.region ?_
    refine WL.q rfl rfl rfl (QV.assign rfl rfl) ?_
    refine WL.nil ?_
    refine WQ.then ?_
    refine WC.ret ?_
    obtain rfl := (eq_of_some hm5).symm
    refine WQ.ret1 rfl rfl (fun w hw => ?_)
    exact ⟨rfl, Own.kgrow (fun _ x => x) hw⟩
  · skip
    rintro turn9_1 m8 hI9
    obtain ⟨m10, s11, rfl, hm12, hn13⟩ := iter_step hI9; clear hI9; unfold roundelayref6_Meets_L0 at hm12
    refine WC.seq ?_
    refine WC.seq ?_
    refine WC.region ?_
    refine WL.q rfl rfl rfl (QV.move rfl rfl) ?_
    refine WL.q rfl rfl rfl (QV.move rfl rfl) ?_
    refine WL.q rfl rfl rfl (QV.lss rfl rfl rfl rfl) ?_
    refine WL.nil ?_
    refine WQ.then ?_
    refine WC.cond rfl (fun h14 => ?_) (fun h14 => ?_)
    · skip
      have hm15 := br_t h14 hm12; clear hm12
      refine WC.skip ?_
      refine WQ.then ?_
      refine WC.seq ?_
      refine WC.block ?_
      refine WC.seq ?_
      refine WC.region ?_
      refine WL.q rfl rfl rfl (QV.fieldAddr fd59_4 rfl rfl) ?_
      refine WL.q rfl rfl rfl (QV.load pl3 rfl rfl (Own.cell 1 rfl rfl)) ?_
      refine WL.q rfl rfl rfl (QV.move rfl rfl) ?_
      obtain ⟨c16, hm17⟩ := ck_some hm15; clear hm15
      refine WL.q rfl rfl rfl (QV.mul rfl rfl rfl rfl c16) ?_
      refine WL.q rfl rfl rfl (QV.fieldAddr fd59_5 rfl rfl) ?_
      refine WL.q rfl rfl rfl (QV.load pl3 rfl rfl (Own.cell 1 rfl rfl)) ?_
      obtain ⟨c18, hm19⟩ := ck_some hm17; clear hm17
      refine WL.q rfl rfl rfl (QV.add rfl rfl rfl rfl c18) ?_
      refine WL.q rfl rfl rfl (QV.move rfl rfl) ?_
      obtain ⟨x20, hx21, hm22⟩ := bd_some hm19; clear hm19
      refine WL.q rfl rfl rfl (QV.call en75 (EvAll.cons rfl rfl (EvAll.cons rfl rfl EvAll.nil)) (fun w hw => have h := roundelayref1_Rest_w w hx21 ; h)) ?_
      refine WL.q rfl rfl rfl (QV.assign rfl rfl) ?_
      refine WL.nil ?_
      refine WQ.then ?_
      refine WC.seq ?_
      refine WC.region ?_
      refine WL.q rfl rfl rfl (QV.fieldAddr fd59_4 rfl rfl) ?_
      refine WL.q rfl rfl rfl (QV.load pl3 rfl rfl (Own.cell 0 rfl rfl)) ?_
      refine WL.q rfl rfl rfl (QV.move rfl rfl) ?_
      refine WL.q rfl rfl rfl (QV.move rfl rfl) ?_
      obtain ⟨c23, hm24⟩ := ck_some hm22; clear hm22
      refine WL.q rfl rfl rfl (QV.add rfl rfl rfl rfl c23) ?_
      obtain ⟨c25, hm26⟩ := ck_some hm24; clear hm24
      refine WL.q rfl rfl rfl (QV.mul rfl rfl rfl rfl c25) ?_
      refine WL.q rfl rfl rfl (QV.fieldAddr fd59_5 rfl rfl) ?_
      refine WL.q rfl rfl rfl (QV.load pl3 rfl rfl (Own.cell 0 rfl rfl)) ?_
      obtain ⟨c27, hm28⟩ := ck_some hm26; clear hm26
      refine WL.q rfl rfl rfl (QV.add rfl rfl rfl rfl c27) ?_
      refine WL.q rfl rfl rfl (QV.move rfl rfl) ?_
      obtain ⟨x29, hx30, hm31⟩ := bd_some hm28; clear hm28
      refine WL.q rfl rfl rfl (QV.call en75 (EvAll.cons rfl rfl (EvAll.cons rfl rfl EvAll.nil)) (fun w hw => have h := roundelayref1_Rest_w w hx30 ; h)) ?_
      refine WL.q rfl rfl rfl (QV.assign rfl rfl) ?_
      refine WL.nil ?_
      refine WQ.then ?_
      refine WC.seq ?_
      refine WC.region ?_
      refine WL.q rfl rfl rfl (QV.move rfl rfl) ?_
      refine WL.q rfl rfl rfl (QV.move rfl rfl) ?_
      refine WL.q rfl rfl rfl (QV.eql rfl rfl rfl rfl) ?_
      refine WL.nil ?_
      refine WQ.then ?_
      refine WC.cond rfl (fun h32 => ?_) (fun h32 => ?_)
      · skip
        have hm33 := br_t h32 hm31; clear hm31
        refine WC.seq ?_
        refine WC.region ?_
        refine WL.q rfl rfl rfl (QV.assign rfl rfl) ?_
        refine WL.nil ?_
        refine WQ.then ?_
        refine WC.ret ?_
        refine WQ.block_ret ?_
        refine WQ.then_ret ?_
        refine WQ.then_ret ?_
        refine WQ.block_ret ?_
        refine WQ.then_ret ?_
        refine WQ.then_ret ?_
        obtain rfl := up_ret hm33 hn13
        obtain rfl := (eq_of_some hm5).symm
        refine WQ.ret1 rfl rfl (fun w hw => ?_)
        exact ⟨rfl, Own.kgrow (fun _ x => x) hw⟩
      · skip
        have hm34 := br_f h32 hm31; clear hm31
        refine WC.skip ?_
        refine WQ.block ?_
        refine WQ.then ?_
        refine WC.region ?_
        refine WL.q rfl rfl rfl (QV.move rfl rfl) ?_
        obtain ⟨c35, hm36⟩ := ck_some hm34; clear hm34
        refine WL.q rfl rfl rfl (QV.add rfl rfl rfl rfl c35) ?_
        refine WL.q rfl rfl rfl (QV.assign rfl rfl) ?_
        refine WL.nil ?_
        exact WQ.again1 (turn9_1 + 1) m10 (up_next hm36 hn13) (Nat.lt_succ_self _) ⟨rfl, rfl, rfl, rfl, rfl, trivial⟩ (fun w hw => hw.pick [0, 1, 2] (by decide))
    · skip
      have hm37 := br_f h14 hm12; clear hm12
      refine WC.exit ?_
      refine WQ.then_exit ?_
      refine WQ.then_exit ?_
      refine WQ.block_exit ?_
      exact WQ.out1 turn9_1 (up_brk hm37 hn13) ⟨rfl, rfl, rfl, rfl, rfl, trivial⟩ (fun w hw => hw.pick [0, 1, 2] (by decide))

set_option maxRecDepth 8000 in
theorem roundelayref6_Memory_w {a : Stm} {b : Stm} {r : Bool} (w : World) (hm : roundelayref6_Memory_m a b = some r)  : Calls Try.prog 110 #[.agg #[.int .i64 a.op, .int .i64 a.a.st, .int .i64 a.a.bk, .int .i64 a.b.st, .int .i64 a.b.bk, .int .i64 a.ar, .int .i64 a.sp, .int .i64 a.pl, .int .i64 a.n], .agg #[.int .i64 b.op, .int .i64 b.a.st, .int .i64 b.a.bk, .int .i64 b.b.st, .int .i64 b.b.bk, .int .i64 b.ar, .int .i64 b.sp, .int .i64 b.pl, .int .i64 b.n]] w (fun e w' => e = .returned (.bool r) ∧ Grow w w') := by
  unfold roundelayref6_Memory_m at hm
  have hk := Base.rfl (w := w)
  refine calls_of_WC (n := 44) (args := [.agg #[.int .i64 a.op, .int .i64 a.a.st, .int .i64 a.a.bk, .int .i64 a.b.st, .int .i64 a.b.bk, .int .i64 a.ar, .int .i64 a.sp, .int .i64 a.pl, .int .i64 a.n], .agg #[.int .i64 b.op, .int .i64 b.a.st, .int .i64 b.a.bk, .int .i64 b.b.st, .int .i64 b.b.bk, .int .i64 b.ar, .int .i64 b.sp, .int .i64 b.pl, .int .i64 b.n]]) Try.func110 rfl rfl (Nat.le_of_ble_eq_true rfl) ?_ (Own.startK hk (Own.start w))
  refine WC.seq ?_
  refine WC.region ?_
  refine WL.effect rfl ?_
  refine (EV.boxAgg (by decide) rfl rfl (fun b1 => ?_))
  refine WL.effect rfl ?_
  refine (EV.boxAgg (by decide) rfl rfl (fun b2 => ?_))
  refine WL.q rfl rfl rfl (QV.assign rfl rfl) ?_
  refine WL.nil ?_
  refine WQ.then ?_
  refine WC.seq ?_
  refine WC.region ?_
  refine WL.q rfl rfl rfl (QV.fieldAddr fd59_0 rfl rfl) ?_
  refine WL.q rfl rfl rfl (QV.load pl3 rfl rfl (Own.cell 1 rfl rfl)) ?_
  refine WL.q rfl rfl rfl (QV.eql rfl rfl rfl rfl) ?_
  refine WL.q rfl rfl rfl (QV.move rfl rfl) ?_
  refine WL.g rfl rfl (GuardIs.neg rfl rfl) (fun hG => QV.fieldAddr fd59_0 rfl rfl) ?_
  refine WL.g rfl rfl (GuardIs.neg rfl rfl) (fun hG => QV.load pl3 rfl hG (Own.cell 1 rfl rfl)) ?_
  refine WL.g rfl rfl (GuardIs.neg rfl rfl) (fun hG => QV.eql rfl hG rfl rfl) ?_
  refine WL.q rfl rfl rfl (QV.pickOr rfl rfl rfl (fun h => notF h)) ?_
  refine WL.q rfl rfl rfl (QV.assign rfl rfl) ?_
  refine WL.nil ?_
  refine WQ.then ?_
  refine WC.seq ?_
  refine WC.region ?_
  refine WL.q rfl rfl rfl (QV.fieldAddr fd59_0 rfl rfl) ?_
  refine WL.q rfl rfl rfl (QV.load pl3 rfl rfl (Own.cell 0 rfl rfl)) ?_
  refine WL.q rfl rfl rfl (QV.eql rfl rfl rfl rfl) ?_
  refine WL.q rfl rfl rfl (QV.move rfl rfl) ?_
  refine WL.g rfl rfl (GuardIs.neg rfl rfl) (fun hG => QV.fieldAddr fd59_0 rfl rfl) ?_
  refine WL.g rfl rfl (GuardIs.neg rfl rfl) (fun hG => QV.load pl3 rfl hG (Own.cell 0 rfl rfl)) ?_
  refine WL.g rfl rfl (GuardIs.neg rfl rfl) (fun hG => QV.eql rfl hG rfl rfl) ?_
  refine WL.q rfl rfl rfl (QV.pickOr rfl rfl rfl (fun h => notF h)) ?_
  refine WL.q rfl rfl rfl (QV.assign rfl rfl) ?_
  refine WL.nil ?_
  refine WQ.then ?_
  refine WC.seq ?_
  refine WC.region ?_
  refine WL.q rfl rfl rfl (QV.move rfl rfl) ?_
  refine WL.q rfl rfl rfl (QV.move rfl rfl) ?_
  refine WL.g rfl rfl (GuardIs.pos rfl rfl) (fun hG => QV.move rfl rfl) ?_
  refine WL.q rfl rfl rfl (QV.pickAnd rfl rfl rfl (fun h => h)) ?_
  refine WL.q rfl rfl rfl (QV.move rfl rfl) ?_
  refine WL.g rfl rfl (GuardIs.pos rfl rfl) (fun hG => QV.fieldAddr fd59_3 rfl rfl) ?_
  refine WL.g rfl rfl (GuardIs.pos rfl rfl) (fun hG => QV.load pl3 rfl hG (Own.cell 1 rfl rfl)) ?_
  refine WL.g rfl rfl (GuardIs.pos rfl rfl) (fun hG => QV.fieldAddr fd59_3 rfl rfl) ?_
  refine WL.g rfl rfl (GuardIs.pos rfl rfl) (fun hG => QV.load pl3 rfl hG (Own.cell 0 rfl rfl)) ?_
  refine WL.g rfl rfl (GuardIs.pos rfl rfl) (fun hG => QV.eql rfl hG rfl hG) ?_
  refine WL.q rfl rfl rfl (QV.pickAnd rfl rfl rfl (fun h => h)) ?_
  refine WL.q rfl rfl rfl (QV.move rfl rfl) ?_
  refine WL.g rfl rfl (GuardIs.pos rfl rfl) (fun hG => QV.fieldAddr fd59_0 rfl rfl) ?_
  refine WL.g rfl rfl (GuardIs.pos rfl rfl) (fun hG => QV.load pl3 rfl hG (Own.cell 1 rfl rfl)) ?_
  refine WL.g rfl rfl (GuardIs.pos rfl rfl) (fun hG => QV.eql rfl hG rfl rfl) ?_
  refine WL.g rfl rfl (GuardIs.pos rfl rfl) (fun hG => QV.move rfl hG) ?_
  refine WL.g rfl rfl (GuardIs.negC rfl rfl) (fun hG => QV.fieldAddr fd59_0 rfl rfl) ?_
  refine WL.g rfl rfl (GuardIs.negC rfl rfl) (fun hG => QV.load pl3 rfl hG (Own.cell 0 rfl rfl)) ?_
  refine WL.g rfl rfl (GuardIs.negC rfl rfl) (fun hG => QV.eql rfl hG rfl rfl) ?_
  refine WL.g rfl rfl (GuardIs.pos rfl rfl) (fun hG => QV.pickOr rfl hG rfl (fun h => andN hG h)) ?_
  refine WL.q rfl rfl rfl (QV.pickAnd rfl rfl rfl (fun h => h)) ?_
  refine WL.q rfl rfl rfl (QV.assign rfl rfl) ?_
  refine WL.nil ?_
  refine WQ.then ?_
  refine WC.ret ?_
  obtain rfl := (eq_of_some hm).symm
  refine WQ.ret1 rfl rfl (fun w hw => ?_)
  exact ⟨rfl, Own.kgrow (fun _ x => x) hw⟩

set_option maxRecDepth 8000 in
theorem roundelayref6_is_w {v_l_logs : Value} {v_l_body : Value} {v_l_outs : Value} {l : Lp} {t : Tgt} {e_ : Edg} {r : Bool} (w : World) (hm : roundelayref6_is_m l t e_ = some r) (h_l_logs : Arr w v_l_logs 1 (l.logs.map icell)) (h_l_body : Arr w v_l_body 9 (l.body.map Stm.cells)) (h_l_outs : Arr w v_l_outs 1 (l.outs.map icell)) : Calls Try.prog 69 #[.agg #[v_l_logs, v_l_body, v_l_outs], .agg #[.int .i64 t.u0, .int .i64 t.u1, .int .i64 t.u2, .int .i64 t.w0, .int .i64 t.w1, .int .i64 t.w2, .int .i64 t.regs], .agg #[.int .i64 e_.fr, .int .i64 e_.to, .int .i64 e_.bk, .int .i64 e_.wt]] w (fun e w' => e = .returned (.bool r) ∧ Grow w w') := by
  unfold roundelayref6_is_m at hm
  have hk := Base.rfl (w := w)
  refine calls_of_WC (n := 128) (args := [.agg #[v_l_logs, v_l_body, v_l_outs], .agg #[.int .i64 t.u0, .int .i64 t.u1, .int .i64 t.u2, .int .i64 t.w0, .int .i64 t.w1, .int .i64 t.w2, .int .i64 t.regs], .agg #[.int .i64 e_.fr, .int .i64 e_.to, .int .i64 e_.bk, .int .i64 e_.wt]]) Try.func69 rfl rfl (Nat.le_of_ble_eq_true rfl) ?_ (Own.startK hk (Own.start w))
  refine WC.seq ?_
  refine WC.region ?_
  refine WL.effect rfl ?_
  refine (EV.boxAgg (by decide) rfl rfl (fun b1 => ?_))
  refine WL.effect rfl ?_
  refine (EV.boxAgg (by decide) rfl rfl (fun b2 => ?_))
  refine WL.effect rfl ?_
  refine (EV.boxAgg (by decide) rfl rfl (fun b3 => ?_))
  refine WL.q rfl rfl rfl (QV.assign rfl rfl) ?_
  refine WL.nil ?_
  refine WQ.then ?_
  refine WC.seq ?_
  refine WC.region ?_
  refine WL.q rfl rfl rfl (QV.fieldAddr fd49_1 rfl rfl) ?_
  refine WL.q rfl rfl rfl (QV.load pl47 rfl rfl (Own.cell 2 rfl rfl)) ?_
  refine WL.q rfl rfl rfl (QV.fieldAddr fd61_1 rfl rfl) ?_
  refine WL.q rfl rfl rfl (QV.load pl3 rfl rfl (Own.cell 0 rfl rfl)) ?_
  obtain ⟨c4, hm5⟩ := ck_some hm; clear hm
  obtain ⟨p6, hp7⟩ := h_l_body.lenMap.ix (sz := 9) ln_len c4
  refine WL.q rfl rfl rfl (QV.indexSlice sl47 rfl rfl rfl rfl hp7) ?_
  refine WL.q rfl rfl rfl (QV.loadAgg ag59 rfl rfl rfl (fun w hw => ((Own.karr 3 rfl hk h_l_body) w hw).ele hp7 c4)) ?_
  refine WL.effect rfl ?_
  obtain ⟨x8, hx9, hm10⟩ := bd_some hm5; clear hm5
  refine EV.of (C' := Own noM w [kn noM w.heap.size w w, blk b3 [.int .i64 e_.fr, .int .i64 e_.to, .int .i64 e_.bk, .int .i64 e_.wt] 61, blk b2 [.int .i64 t.u0, .int .i64 t.u1, .int .i64 t.u2, .int .i64 t.w0, .int .i64 t.w1, .int .i64 t.w2, .int .i64 t.regs] 24, blk b1 [v_l_logs, v_l_body, v_l_outs] 49]) (fun w hw => hw.pick [3, 0, 1, 2] (by decide)) ?_
  refine (EV.callR (X := Value × World) (R := []) (fun X => X.1) (fun X => []) (fun X => X.2) (fun X => Arr X.2 X.1 2 (x8.map Rf.cells)) hk (fun _ h => by cases h; decide) en74 (EvAll.cons rfl rfl EvAll.nil) (fun M w h1 h2 => have h := roundelayref2_Uses_w hx9  M w h1 h2; h) (fun X11 hF11 hle11 => ?_))
  refine WL.q rfl rfl rfl (QV.assign rfl rfl) ?_
  refine WL.nil ?_
  refine WQ.then ?_
  refine WC.seq ?_
  refine WC.seq ?_
  refine WC.region ?_
  refine WL.q rfl rfl rfl (QV.assign rfl rfl) ?_
  refine WL.nil ?_
  refine WQ.then ?_
  obtain ⟨o12, ho13, hm14⟩ := bd_some hm10; clear hm10; obtain ⟨n15, ho16⟩ := lp_some ho13
  refine WC.bloop1 (H2 := [kn noM w.heap.size w X11.2, blk b3 [.int .i64 e_.fr, .int .i64 e_.to, .int .i64 e_.bk, .int .i64 e_.wt] 61, blk b2 [.int .i64 t.u0, .int .i64 t.u1, .int .i64 t.u2, .int .i64 t.w0, .int .i64 t.w1, .int .i64 t.w2, .int .i64 t.regs] 24, blk b1 [v_l_logs, v_l_body, v_l_outs] 49]) (τ := [(3, (true, _)), (4, (true, _)), (5, (true, _)), (7, (true, _))]) (fun (i8_1 : Int) => [(8, (true, .int .i64 i8_1))]) (fun (i8_1 : Int) => []) (fun (i8_1 : Int) (m : Nat) => iter (roundelayref6_is_L0 l t e_ x8) m i8_1 = some o12) (fun (i8_1 : Int) => o12 = .go i8_1) 0 n15 ho16 ⟨rfl, rfl, rfl, rfl, rfl, trivial⟩ (fun w hw => hw.pick [0, 1, 2, 3] (by decide)) ?_ ?_
  · skip
    rintro i8_1 rfl
    refine WQ.then ?_
    refine WC.seq ?_
    refine WC.region ?_
    refine WL.q rfl rfl rfl (QV.fieldAddr fd49_1 rfl rfl) ?_
    refine WL.q rfl rfl rfl (QV.load pl47 rfl rfl (Own.cell 3 rfl rfl)) ?_
    refine WL.q rfl rfl rfl (QV.fieldAddr fd61_0 rfl rfl) ?_
    refine WL.q rfl rfl rfl (QV.load pl3 rfl rfl (Own.cell 1 rfl rfl)) ?_
    obtain ⟨c17, hm18⟩ := ck_some hm14; clear hm14
    obtain ⟨p19, hp20⟩ := (h_l_body.le hle11).lenMap.ix (sz := 9) ln_len c17
    refine WL.q rfl rfl rfl (QV.indexSlice sl47 rfl rfl rfl rfl hp20) ?_
    refine WL.q rfl rfl rfl (QV.loadAgg ag59 rfl rfl rfl (fun w hw => ((Own.karr 0 rfl hk (h_l_body.le hle11)) w hw).ele hp20 c17)) ?_
    refine WL.effect rfl ?_
    refine (EV.alloc (by decide) ze59 (fun b21 => ?_))
    refine WL.effect rfl ?_
    refine (EV.store 0 rfl rfl rfl rfl rfl rfl (vs := [.int .i64 ((ele l.body e_.fr).op), .int .i64 (((ele l.body e_.fr).a).st), .int .i64 (((ele l.body e_.fr).a).bk), .int .i64 (((ele l.body e_.fr).b).st), .int .i64 (((ele l.body e_.fr).b).bk), .int .i64 ((ele l.body e_.fr).ar), .int .i64 ((ele l.body e_.fr).sp), .int .i64 ((ele l.body e_.fr).pl), .int .i64 ((ele l.body e_.fr).n)]) (show Value.cells _ = List.toArray _ from rfl) sz59 (Nat.le_of_ble_eq_true rfl) (one_cons rfl (one_cons rfl (one_cons rfl (one_cons rfl (one_cons rfl (one_cons rfl (one_cons rfl (one_cons rfl (one_cons rfl one_nil))))))))) ?_)
    refine WL.nil ?_
    refine WQ.then ?_
    refine WC.seq ?_
    refine WC.region ?_
    refine WL.q rfl rfl rfl (QV.fieldAddr fd49_1 rfl rfl) ?_
    refine WL.q rfl rfl rfl (QV.load pl47 rfl rfl (Own.cell 4 rfl rfl)) ?_
    refine WL.q rfl rfl rfl (QV.fieldAddr fd61_1 rfl rfl) ?_
    refine WL.q rfl rfl rfl (QV.load pl3 rfl rfl (Own.cell 2 rfl rfl)) ?_
    obtain ⟨c22, hm23⟩ := ck_some hm18; clear hm18
    obtain ⟨p24, hp25⟩ := (h_l_body.le hle11).lenMap.ix (sz := 9) ln_len c22
    refine WL.q rfl rfl rfl (QV.indexSlice sl47 rfl rfl rfl rfl hp25) ?_
    refine WL.q rfl rfl rfl (QV.loadAgg ag59 rfl rfl rfl (fun w hw => ((Own.karr 1 rfl hk (h_l_body.le hle11)) w hw).ele hp25 c22)) ?_
    refine WL.effect rfl ?_
    refine (EV.alloc (by decide) ze59 (fun b26 => ?_))
    refine WL.effect rfl ?_
    refine (EV.store 0 rfl rfl rfl rfl rfl rfl (vs := [.int .i64 ((ele l.body e_.to).op), .int .i64 (((ele l.body e_.to).a).st), .int .i64 (((ele l.body e_.to).a).bk), .int .i64 (((ele l.body e_.to).b).st), .int .i64 (((ele l.body e_.to).b).bk), .int .i64 ((ele l.body e_.to).ar), .int .i64 ((ele l.body e_.to).sp), .int .i64 ((ele l.body e_.to).pl), .int .i64 ((ele l.body e_.to).n)]) (show Value.cells _ = List.toArray _ from rfl) sz59 (Nat.le_of_ble_eq_true rfl) (one_cons rfl (one_cons rfl (one_cons rfl (one_cons rfl (one_cons rfl (one_cons rfl (one_cons rfl (one_cons rfl (one_cons rfl one_nil))))))))) ?_)
    refine WL.nil ?_
    refine WQ.then ?_
    refine WC.seq ?_
    refine WC.region ?_
    refine WL.q rfl rfl rfl (QV.assign rfl rfl) ?_
    refine WL.nil ?_
    refine WQ.then ?_
    refine WC.seq ?_
    refine WC.seq ?_
    refine WC.region ?_
    refine WL.q rfl rfl rfl (QV.fieldAddr fd59_0 rfl rfl) ?_
    refine WL.q rfl rfl rfl (QV.load pl3 rfl rfl (Own.cell 1 rfl rfl)) ?_
    refine WL.q rfl rfl rfl (QV.eql rfl rfl rfl rfl) ?_
    refine WL.nil ?_
    refine WQ.then ?_
    obtain ⟨o27, hj28, hm29⟩ := bd_some hm23; clear hm23
    refine WC.joint1 (H2 := [blk b26 [.int .i64 ((ele l.body e_.to).op), .int .i64 (((ele l.body e_.to).a).st), .int .i64 (((ele l.body e_.to).a).bk), .int .i64 (((ele l.body e_.to).b).st), .int .i64 (((ele l.body e_.to).b).bk), .int .i64 ((ele l.body e_.to).ar), .int .i64 ((ele l.body e_.to).sp), .int .i64 ((ele l.body e_.to).pl), .int .i64 ((ele l.body e_.to).n)] 59, blk b21 [.int .i64 ((ele l.body e_.fr).op), .int .i64 (((ele l.body e_.fr).a).st), .int .i64 (((ele l.body e_.fr).a).bk), .int .i64 (((ele l.body e_.fr).b).st), .int .i64 (((ele l.body e_.fr).b).bk), .int .i64 ((ele l.body e_.fr).ar), .int .i64 ((ele l.body e_.fr).sp), .int .i64 ((ele l.body e_.fr).pl), .int .i64 ((ele l.body e_.fr).n)] 59, kn noM w.heap.size w X11.2, blk b3 [.int .i64 e_.fr, .int .i64 e_.to, .int .i64 e_.bk, .int .i64 e_.wt] 61, blk b2 [.int .i64 t.u0, .int .i64 t.u1, .int .i64 t.u2, .int .i64 t.w0, .int .i64 t.w1, .int .i64 t.w2, .int .i64 t.regs] 24, blk b1 [v_l_logs, v_l_body, v_l_outs] 49]) (τ := [(3, (true, _)), (5, (true, _)), (9, (true, _)), (10, (true, _))]) (fun (wait11_2 : Int) => [(11, (true, .int .i64 wait11_2))]) (fun (wait11_2 : Int) => []) (fun (wait11_2 : Int) => o27 = .go wait11_2) ⟨rfl, rfl, rfl, rfl, trivial⟩ (fun w hw => hw.pick [0, 1, 2, 3, 4, 5] (by decide)) ?_ ?_
    · skip
      rintro wait11_2 rfl
      refine WC.seq ?_
      refine WC.seq ?_
      refine WC.region ?_
      refine WL.q rfl rfl rfl (QV.loadAgg ag59 rfl rfl rfl (Own.cellsBlk 1 rfl)) ?_
      refine WL.q rfl rfl rfl (QV.loadAgg ag59 rfl rfl rfl (Own.cellsBlk 0 rfl)) ?_
      obtain ⟨x30, hx31, hm32⟩ := bd_some hm29; clear hm29
      refine WL.q rfl rfl rfl (QV.call en110 (EvAll.cons rfl rfl (EvAll.cons rfl rfl EvAll.nil)) (fun w hw => have h := roundelayref6_Memory_w w hx31 ; h)) ?_
      refine WL.q rfl rfl rfl (QV.not rfl rfl) ?_
      refine WL.q rfl rfl rfl (QV.move rfl rfl) ?_
      refine WL.g rfl rfl (GuardIs.neg rfl rfl) (fun hG => QV.fieldAddr fd61_3 rfl rfl) ?_
      refine WL.g rfl rfl (GuardIs.neg rfl rfl) (fun hG => QV.load pl3 rfl hG (Own.cell 3 rfl rfl)) ?_
      refine WL.g rfl rfl (GuardIs.neg rfl rfl) (fun hG => QV.move rfl rfl) ?_
      refine WL.g rfl rfl (GuardIs.neg rfl rfl) (fun hG => QV.neq rfl hG rfl hG) ?_
      refine WL.q rfl rfl rfl (QV.pickOr rfl rfl rfl (fun h => notF h)) ?_
      refine WL.nil ?_
      refine WQ.then ?_
      refine WC.cond rfl (fun h33 => ?_) (fun h33 => ?_)
      · skip
        have hm34 := br_t h33 hm32; clear hm32
        refine WC.seq ?_
        refine WC.region ?_
        refine WL.q rfl rfl rfl (QV.assign rfl rfl) ?_
        refine WL.nil ?_
        refine WQ.then ?_
        refine WC.ret ?_
        refine WQ.then_ret ?_
        obtain rfl := (eq_of_some hm34).symm
        refine WQ.ret1 rfl rfl (fun w hw => ?_)
        exact ⟨rfl, Own.kgrow (fun _ x => x) hw⟩
      · skip
        have hm35 := br_f h33 hm32; clear hm32
        refine WC.skip ?_
        refine WQ.then ?_
        refine WC.seq ?_
        refine WC.region ?_
        refine WL.q rfl rfl rfl (QV.fieldAddr fd49_0 rfl rfl) ?_
        refine WL.q rfl rfl rfl (QV.load pl30 rfl rfl (Own.cell 5 rfl rfl)) ?_
        refine WL.q rfl rfl rfl (QV.fieldAddr fd59_3 rfl rfl) ?_
        refine WL.q rfl rfl rfl (QV.load pl3 rfl rfl (Own.cell 1 rfl rfl)) ?_
        obtain ⟨c36, hm37⟩ := ck_some hm35; clear hm35
        obtain ⟨p38, hp39⟩ := (h_l_logs.le hle11).lenMap.ix (sz := 1) ln_len c36
        refine WL.q rfl rfl rfl (QV.indexSlice sl30 rfl rfl rfl rfl hp39) ?_
        refine WL.q rfl rfl rfl (QV.load pl3 rfl rfl (fun w hw => CellsAt.one 0 (((Own.karr 2 rfl hk (h_l_logs.le hle11)) w hw).ele hp39 c36) rfl)) ?_
        obtain ⟨x40, hx41, hm42⟩ := bd_some hm37; clear hm37
        refine WL.q rfl rfl rfl (QV.call en45 (EvAll.cons rfl rfl EvAll.nil) (fun w hw => have h := roundelayref1_Size_w w hx41 ; h)) ?_
        refine WL.q rfl rfl rfl (QV.assign rfl rfl) ?_
        refine WL.nil ?_
        refine WQ.then ?_
        refine WC.seq ?_
        refine WC.region ?_
        refine WL.q rfl rfl rfl (QV.assign rfl rfl) ?_
        refine WL.nil ?_
        refine WQ.then ?_
        refine WC.seq ?_
        refine WC.seq ?_
        refine WC.region ?_
        refine WL.q rfl rfl rfl (QV.fieldAddr fd61_0 rfl rfl) ?_
        refine WL.q rfl rfl rfl (QV.load pl3 rfl rfl (Own.cell 3 rfl rfl)) ?_
        refine WL.q rfl rfl rfl (QV.fieldAddr fd61_1 rfl rfl) ?_
        refine WL.q rfl rfl rfl (QV.load pl3 rfl rfl (Own.cell 3 rfl rfl)) ?_
        refine WL.q rfl rfl rfl (QV.geq rfl rfl rfl rfl) ?_
        refine WL.nil ?_
        refine WQ.then ?_
        obtain ⟨o43, hj44, hm45⟩ := bd_some hm42; clear hm42
        refine WC.joint1 (H2 := [blk b26 [.int .i64 ((ele l.body e_.to).op), .int .i64 (((ele l.body e_.to).a).st), .int .i64 (((ele l.body e_.to).a).bk), .int .i64 (((ele l.body e_.to).b).st), .int .i64 (((ele l.body e_.to).b).bk), .int .i64 ((ele l.body e_.to).ar), .int .i64 ((ele l.body e_.to).sp), .int .i64 ((ele l.body e_.to).pl), .int .i64 ((ele l.body e_.to).n)] 59, blk b21 [.int .i64 ((ele l.body e_.fr).op), .int .i64 (((ele l.body e_.fr).a).st), .int .i64 (((ele l.body e_.fr).a).bk), .int .i64 (((ele l.body e_.fr).b).st), .int .i64 (((ele l.body e_.fr).b).bk), .int .i64 ((ele l.body e_.fr).ar), .int .i64 ((ele l.body e_.fr).sp), .int .i64 ((ele l.body e_.fr).pl), .int .i64 ((ele l.body e_.fr).n)] 59, kn noM w.heap.size w X11.2, blk b3 [.int .i64 e_.fr, .int .i64 e_.to, .int .i64 e_.bk, .int .i64 e_.wt] 61, blk b2 [.int .i64 t.u0, .int .i64 t.u1, .int .i64 t.u2, .int .i64 t.w0, .int .i64 t.w1, .int .i64 t.w2, .int .i64 t.regs] 24, blk b1 [v_l_logs, v_l_body, v_l_outs] 49]) (τ := [(5, (true, _)), (9, (true, _)), (10, (true, _)), (12, (true, _))]) (fun (least13_3 : Int) => [(13, (true, .int .i64 least13_3))]) (fun (least13_3 : Int) => []) (fun (least13_3 : Int) => o43 = .go least13_3) ⟨rfl, rfl, rfl, rfl, trivial⟩ (fun w hw => hw.pick [0, 1, 2, 3, 4, 5] (by decide)) ?_ ?_
        · skip
          rintro least13_3 rfl
          refine WC.seq ?_
          refine WC.seq ?_
          refine WC.region ?_
          refine WL.q rfl rfl rfl (QV.fieldAddr fd61_2 rfl rfl) ?_
          refine WL.q rfl rfl rfl (QV.load pl3 rfl rfl (Own.cell 3 rfl rfl)) ?_
          refine WL.q rfl rfl rfl (QV.move rfl rfl) ?_
          refine WL.q rfl rfl rfl (QV.lss rfl rfl rfl rfl) ?_
          refine WL.q rfl rfl rfl (QV.move rfl rfl) ?_
          refine WL.g rfl rfl (GuardIs.neg rfl rfl) (fun hG => QV.fieldAddr fd61_2 rfl rfl) ?_
          refine WL.g rfl rfl (GuardIs.neg rfl rfl) (fun hG => QV.load pl3 rfl hG (Own.cell 3 rfl rfl)) ?_
          refine WL.g rfl rfl (GuardIs.neg rfl rfl) (fun hG => QV.move rfl rfl) ?_
          refine WL.g rfl rfl (GuardIs.neg rfl rfl) (fun hG => QV.gtr rfl hG rfl hG) ?_
          refine WL.q rfl rfl rfl (QV.pickOr rfl rfl rfl (fun h => notF h)) ?_
          refine WL.q rfl rfl rfl (QV.move rfl rfl) ?_
          refine WL.g rfl rfl (GuardIs.neg rfl rfl) (fun hG => QV.loadAgg ag59 rfl rfl rfl (Own.cellsBlk 1 rfl)) ?_
          refine WL.g rfl rfl (GuardIs.neg rfl rfl) (fun hG => QV.loadAgg ag59 rfl rfl rfl (Own.cellsBlk 0 rfl)) ?_
          refine WL.g rfl rfl (GuardIs.neg rfl rfl) (fun hG => QV.fieldAddr fd61_2 rfl rfl) ?_
          refine WL.g rfl rfl (GuardIs.neg rfl rfl) (fun hG => QV.load pl3 rfl hG (Own.cell 3 rfl rfl)) ?_
          refine WL.g rfl rfl (GuardIs.neg rfl rfl) (fun hG => QV.move rfl rfl) ?_
          obtain ⟨x46, hx47, hm48⟩ := bdG_some hm45; clear hm45
          refine WL.g rfl rfl (GuardIs.neg rfl rfl) (fun hG => QV.call en111 (EvAll.cons rfl hG (EvAll.cons rfl hG (EvAll.cons rfl hG (EvAll.cons rfl hG EvAll.nil)))) (fun w hw => have h := roundelayref6_Meets_w w (hx47 hG) ; h)) ?_
          refine WL.g rfl rfl (GuardIs.neg rfl rfl) (fun hG => QV.not rfl hG) ?_
          refine WL.q rfl rfl rfl (QV.pickOr rfl rfl rfl (fun h => notF h)) ?_
          refine WL.nil ?_
          refine WQ.then ?_
          refine WC.cond rfl (fun h49 => ?_) (fun h49 => ?_)
          · skip
            have hm50 := br_t h49 hm48; clear hm48
            refine WC.seq ?_
            refine WC.region ?_
            refine WL.q rfl rfl rfl (QV.assign rfl rfl) ?_
            refine WL.nil ?_
            refine WQ.then ?_
            refine WC.ret ?_
            refine WQ.then_ret ?_
            obtain rfl := (eq_of_some hm50).symm
            refine WQ.ret1 rfl rfl (fun w hw => ?_)
            exact ⟨rfl, Own.kgrow (fun _ x => x) hw⟩
          · skip
            have hm51 := br_f h49 hm48; clear hm48
            refine WC.skip ?_
            refine WQ.then ?_
            refine WC.seq ?_
            refine WC.seq ?_
            refine WC.region ?_
            refine WL.q rfl rfl rfl (QV.move rfl rfl) ?_
            refine WL.q rfl rfl rfl (QV.assign rfl rfl) ?_
            refine WL.nil ?_
            refine WQ.then ?_
            obtain ⟨o52, ho53, hm54⟩ := bd_some hm51; clear hm51; obtain ⟨n55, ho56⟩ := lp_some ho53
            refine WC.bloop1 (H2 := [blk b26 [.int .i64 ((ele l.body e_.to).op), .int .i64 (((ele l.body e_.to).a).st), .int .i64 (((ele l.body e_.to).a).bk), .int .i64 (((ele l.body e_.to).b).st), .int .i64 (((ele l.body e_.to).b).bk), .int .i64 ((ele l.body e_.to).ar), .int .i64 ((ele l.body e_.to).sp), .int .i64 ((ele l.body e_.to).pl), .int .i64 ((ele l.body e_.to).n)] 59, blk b21 [.int .i64 ((ele l.body e_.fr).op), .int .i64 (((ele l.body e_.fr).a).st), .int .i64 (((ele l.body e_.fr).a).bk), .int .i64 (((ele l.body e_.fr).b).st), .int .i64 (((ele l.body e_.fr).b).bk), .int .i64 ((ele l.body e_.fr).ar), .int .i64 ((ele l.body e_.fr).sp), .int .i64 ((ele l.body e_.fr).pl), .int .i64 ((ele l.body e_.fr).n)] 59, kn noM w.heap.size w X11.2, blk b3 [.int .i64 e_.fr, .int .i64 e_.to, .int .i64 e_.bk, .int .i64 e_.wt] 61, blk b2 [.int .i64 t.u0, .int .i64 t.u1, .int .i64 t.u2, .int .i64 t.w0, .int .i64 t.w1, .int .i64 t.w2, .int .i64 t.regs] 24, blk b1 [v_l_logs, v_l_body, v_l_outs] 49]) (τ := [(5, (true, _)), (9, (true, _)), (10, (true, _)), (12, (true, _))]) (fun (back14_4 : Int) => [(14, (true, .int .i64 back14_4))]) (fun (back14_4 : Int) => []) (fun (back14_4 : Int) (m : Nat) => iter (roundelayref6_is_L2 l e_ x40) m back14_4 = some o52) (fun (back14_4 : Int) => o52 = .go back14_4) least13_3 n55 ho56 ⟨rfl, rfl, rfl, rfl, rfl, trivial⟩ (fun w hw => hw.pick [0, 1, 2, 3, 4, 5] (by decide)) ?_ ?_
            · skip
              rintro back14_4 rfl
              refine WQ.then ?_
              refine WC.seq ?_
              refine WC.region ?_
              refine WL.q rfl rfl rfl (QV.assign rfl rfl) ?_
              refine WL.nil ?_
              refine WQ.then ?_
              refine WC.ret ?_
              obtain rfl := (eq_of_some hm54).symm
              refine WQ.ret1 rfl rfl (fun w hw => ?_)
              exact ⟨rfl, Own.kgrow (fun _ x => x) hw⟩
            · skip
              rintro back14_4 m57 hI58
              obtain ⟨m59, s60, rfl, hm61, hn62⟩ := iter_step hI58; clear hI58; unfold roundelayref6_is_L2 at hm61
              refine WC.seq ?_
              refine WC.seq ?_
              refine WC.region ?_
              refine WL.q rfl rfl rfl (QV.move rfl rfl) ?_
              refine WL.q rfl rfl rfl (QV.fieldAddr fd61_2 rfl rfl) ?_
              refine WL.q rfl rfl rfl (QV.load pl3 rfl rfl (Own.cell 3 rfl rfl)) ?_
              refine WL.q rfl rfl rfl (QV.lss rfl rfl rfl rfl) ?_
              refine WL.nil ?_
              refine WQ.then ?_
              refine WC.cond rfl (fun h63 => ?_) (fun h63 => ?_)
              · skip
                have hm64 := br_t h63 hm61; clear hm61
                refine WC.skip ?_
                refine WQ.then ?_
                refine WC.seq ?_
                refine WC.block ?_
                refine WC.seq ?_
                refine WC.region ?_
                refine WL.q rfl rfl rfl (QV.loadAgg ag59 rfl rfl rfl (Own.cellsBlk 1 rfl)) ?_
                refine WL.q rfl rfl rfl (QV.loadAgg ag59 rfl rfl rfl (Own.cellsBlk 0 rfl)) ?_
                refine WL.q rfl rfl rfl (QV.move rfl rfl) ?_
                refine WL.q rfl rfl rfl (QV.move rfl rfl) ?_
                obtain ⟨x65, hx66, hm67⟩ := bd_some hm64; clear hm64
                refine WL.q rfl rfl rfl (QV.call en111 (EvAll.cons rfl rfl (EvAll.cons rfl rfl (EvAll.cons rfl rfl (EvAll.cons rfl rfl EvAll.nil)))) (fun w hw => have h := roundelayref6_Meets_w w hx66 ; h)) ?_
                refine WL.nil ?_
                refine WQ.then ?_
                refine WC.cond rfl (fun h68 => ?_) (fun h68 => ?_)
                · skip
                  have hm69 := br_t h68 hm67; clear hm67
                  refine WC.seq ?_
                  refine WC.region ?_
                  refine WL.q rfl rfl rfl (QV.assign rfl rfl) ?_
                  refine WL.nil ?_
                  refine WQ.then ?_
                  refine WC.ret ?_
                  refine WQ.block_ret ?_
                  refine WQ.then_ret ?_
                  refine WQ.then_ret ?_
                  refine WQ.block_ret ?_
                  refine WQ.then_ret ?_
                  refine WQ.then_ret ?_
                  obtain rfl := up_ret hm69 hn62
                  obtain rfl := (eq_of_some hm54).symm
                  refine WQ.ret1 rfl rfl (fun w hw => ?_)
                  exact ⟨rfl, Own.kgrow (fun _ x => x) hw⟩
                · skip
                  have hm70 := br_f h68 hm67; clear hm67
                  refine WC.skip ?_
                  refine WQ.block ?_
                  refine WQ.then ?_
                  refine WC.region ?_
                  refine WL.q rfl rfl rfl (QV.move rfl rfl) ?_
                  obtain ⟨c71, hm72⟩ := ck_some hm70; clear hm70
                  refine WL.q rfl rfl rfl (QV.add rfl rfl rfl rfl c71) ?_
                  refine WL.q rfl rfl rfl (QV.assign rfl rfl) ?_
                  refine WL.nil ?_
                  exact WQ.again1 (back14_4 + 1) m59 (up_next hm72 hn62) (Nat.lt_succ_self _) ⟨rfl, rfl, rfl, rfl, rfl, trivial⟩ (fun w hw => hw.pick [0, 1, 2, 3, 4, 5] (by decide))
              · skip
                have hm73 := br_f h63 hm61; clear hm61
                refine WC.exit ?_
                refine WQ.then_exit ?_
                refine WQ.then_exit ?_
                refine WQ.block_exit ?_
                exact WQ.out1 back14_4 (up_brk hm73 hn62) ⟨rfl, rfl, rfl, rfl, rfl, trivial⟩ (fun w hw => hw.pick [0, 1, 2, 3, 4, 5] (by decide))
        · skip
          refine WC.cond rfl (fun h74 => ?_) (fun h74 => ?_)
          · skip
            have hm75 := br_t h74 hj44; clear hj44
            refine WC.region ?_
            refine WL.q rfl rfl rfl (QV.assign rfl rfl) ?_
            refine WL.nil ?_
            exact WQ.out1 1 (eq_of_some hm75) ⟨rfl, rfl, rfl, rfl, rfl, trivial⟩ (fun w hw => hw.pick [0, 1, 2, 3, 4, 5] (by decide))
          · skip
            have hm76 := br_f h74 hj44; clear hj44
            refine WC.skip ?_
            exact WQ.out1 0 (eq_of_some hm76) ⟨rfl, rfl, rfl, rfl, rfl, trivial⟩ (fun w hw => hw.pick [0, 1, 2, 3, 4, 5] (by decide))
    · skip
      refine WC.cond rfl (fun h77 => ?_) (fun h77 => ?_)
      · skip
        have hm78 := br_t h77 hj28; clear hj28
        refine WC.region ?_
        refine WL.q rfl rfl rfl (QV.assign rfl rfl) ?_
        refine WL.nil ?_
        exact WQ.out1 1 (eq_of_some hm78) ⟨rfl, rfl, rfl, rfl, rfl, trivial⟩ (fun w hw => hw.pick [0, 1, 2, 3, 4, 5] (by decide))
      · skip
        have hm79 := br_f h77 hj28; clear hj28
        refine WC.skip ?_
        exact WQ.out1 0 (eq_of_some hm79) ⟨rfl, rfl, rfl, rfl, rfl, trivial⟩ (fun w hw => hw.pick [0, 1, 2, 3, 4, 5] (by decide))
  · skip
    rintro i8_1 m80 hI81
    obtain ⟨m82, s83, rfl, hm84, hn85⟩ := iter_step hI81; clear hI81; unfold roundelayref6_is_L0 at hm84
    refine WC.seq ?_
    refine WC.seq ?_
    refine WC.region ?_
    refine WL.q rfl rfl rfl (QV.move rfl rfl) ?_
    refine WL.q rfl rfl rfl (QV.move rfl rfl) ?_
    refine WL.q rfl rfl rfl (QV.lenS Try.underlying106 rfl rfl hF11.lenMap) ?_
    refine WL.q rfl rfl rfl (QV.lss rfl rfl rfl rfl) ?_
    refine WL.nil ?_
    refine WQ.then ?_
    refine WC.cond rfl (fun h86 => ?_) (fun h86 => ?_)
    · skip
      have hm87 := br_t h86 hm84; clear hm84
      refine WC.skip ?_
      refine WQ.then ?_
      refine WC.seq ?_
      refine WC.block ?_
      refine WC.seq ?_
      refine WC.dr (m := 32) (by kernel_rfl) (by kernel_rfl) (fun w hw => hw) ?_
      refine WD.q 0 rfl (by kernel_rfl) rfl rfl rfl (QV.move rfl rfl) ?_
      refine WD.q 1 rfl (by kernel_rfl) rfl rfl rfl (QV.move rfl rfl) ?_
      obtain ⟨c88, hm89⟩ := ck_some hm87; clear hm87
      obtain ⟨p90, hp91⟩ := hF11.lenMap.ix (sz := 2) ln_len c88
      refine WD.q 2 rfl (by kernel_rfl) rfl rfl rfl (QV.indexSlice sl106 rfl rfl rfl rfl hp91) ?_
      refine WD.q 3 rfl (by kernel_rfl) rfl rfl rfl (QV.fieldAddr fd57_0 rfl rfl) ?_
      refine WD.q 4 rfl (by kernel_rfl) rfl rfl rfl (QV.load pl3 rfl rfl (fun w hw => CellsAt.one 0 (((Own.karr 0 rfl hk hF11) w hw).ele hp91 c88) rfl)) ?_
      refine WD.q 5 rfl (by kernel_rfl) rfl rfl rfl (QV.fieldAddr fd61_0 rfl rfl) ?_
      refine WD.q 6 rfl (by kernel_rfl) rfl rfl rfl (QV.load pl3 rfl rfl (Own.cell 1 rfl rfl)) ?_
      refine WD.q 7 rfl (by kernel_rfl) rfl rfl rfl (QV.eql rfl rfl rfl rfl) ?_
      refine WD.q 8 rfl (by kernel_rfl) rfl rfl rfl (QV.move rfl rfl) ?_
      refine WD.g 9 rfl (by kernel_rfl) rfl rfl (GuardIs.pos rfl rfl) (fun hG => QV.move rfl rfl) ?_
      refine WD.g 10 rfl (by kernel_rfl) rfl rfl (GuardIs.pos rfl rfl) (fun hG => QV.move rfl rfl) ?_
      obtain ⟨c92, hm93⟩ := ck_some hm89; clear hm89
      obtain ⟨p94, hp95⟩ := hF11.lenMap.ixG (sz := 2) ln_len c92
      refine WD.g 11 rfl (by kernel_rfl) rfl rfl (GuardIs.pos rfl rfl) (fun hG => QV.indexSlice sl106 rfl hG rfl hG (hp95 hG)) ?_
      refine WD.g 12 rfl (by kernel_rfl) rfl rfl (GuardIs.pos rfl rfl) (fun hG => QV.fieldAddr fd57_1 rfl hG) ?_
      refine WD.g 13 rfl (by kernel_rfl) rfl rfl (GuardIs.pos rfl rfl) (fun hG => QV.load pl3 rfl hG (fun w hw => CellsAt.one 1 (((Own.karr 0 rfl hk hF11) w hw).ele (hp95 hG) (c92 hG)) rfl)) ?_
      refine WD.g 14 rfl (by kernel_rfl) rfl rfl (GuardIs.pos rfl rfl) (fun hG => QV.fieldAddr fd61_2 rfl rfl) ?_
      refine WD.g 15 rfl (by kernel_rfl) rfl rfl (GuardIs.pos rfl rfl) (fun hG => QV.load pl3 rfl hG (Own.cell 1 rfl rfl)) ?_
      refine WD.g 16 rfl (by kernel_rfl) rfl rfl (GuardIs.pos rfl rfl) (fun hG => QV.eql rfl hG rfl hG) ?_
      refine WD.q 17 rfl (by kernel_rfl) rfl rfl rfl (QV.pickAnd rfl rfl rfl (fun h => h)) ?_
      refine WD.q 18 rfl (by kernel_rfl) rfl rfl rfl (QV.move rfl rfl) ?_
      refine WD.g 19 rfl (by kernel_rfl) rfl rfl (GuardIs.pos rfl rfl) (fun hG => QV.fieldAddr fd61_3 rfl rfl) ?_
      refine WD.g 20 rfl (by kernel_rfl) rfl rfl (GuardIs.pos rfl rfl) (fun hG => QV.load pl3 rfl hG (Own.cell 1 rfl rfl)) ?_
      refine WD.g 21 rfl (by kernel_rfl) rfl rfl (GuardIs.pos rfl rfl) (fun hG => QV.loadAgg ag24 rfl rfl rfl (Own.cellsBlk 2 rfl)) ?_
      refine WD.g 22 rfl (by kernel_rfl) rfl rfl (GuardIs.pos rfl rfl) (fun hG => QV.fieldAddr fd49_1 rfl rfl) ?_
      refine WD.g 23 rfl (by kernel_rfl) rfl rfl (GuardIs.pos rfl rfl) (fun hG => QV.load pl47 rfl hG (Own.cell 3 rfl rfl)) ?_
      refine WD.g 24 rfl (by kernel_rfl) rfl rfl (GuardIs.pos rfl rfl) (fun hG => QV.fieldAddr fd61_0 rfl rfl) ?_
      refine WD.g 25 rfl (by kernel_rfl) rfl rfl (GuardIs.pos rfl rfl) (fun hG => QV.load pl3 rfl hG (Own.cell 1 rfl rfl)) ?_
      obtain ⟨c96, hm97⟩ := ck_some hm93; clear hm93
      obtain ⟨p98, hp99⟩ := (h_l_body.le hle11).lenMap.ixG (sz := 9) ln_len c96
      refine WD.g 26 rfl (by kernel_rfl) rfl rfl (GuardIs.pos rfl rfl) (fun hG => QV.indexSlice sl47 rfl hG rfl hG (hp99 hG)) ?_
      refine WD.g 27 rfl (by kernel_rfl) rfl rfl (GuardIs.pos rfl rfl) (fun hG => QV.fieldAddr fd59_0 rfl hG) ?_
      refine WD.g 28 rfl (by kernel_rfl) rfl rfl (GuardIs.pos rfl rfl) (fun hG => QV.load pl3 rfl hG (fun w hw => CellsAt.one 0 (((Own.karr 0 rfl hk (h_l_body.le hle11)) w hw).ele (hp99 hG) (c96 hG)) rfl)) ?_
      obtain ⟨x100, hx101, hm102⟩ := bdG_some hm97; clear hm97
      refine WD.g 29 rfl (by kernel_rfl) rfl rfl (GuardIs.pos rfl rfl) (fun hG => QV.call en78 (EvAll.cons rfl hG (EvAll.cons rfl hG EvAll.nil)) (fun w hw => have h := roundelayref4_Wait_w w (hx101 hG) ; h)) ?_
      refine WD.g 30 rfl (by kernel_rfl) rfl rfl (GuardIs.pos rfl rfl) (fun hG => QV.eql rfl hG rfl hG) ?_
      refine WD.q 31 rfl (by kernel_rfl) rfl rfl rfl (QV.pickAnd rfl rfl rfl (fun h => h)) ?_
      refine WD.e (by kernel_rfl) ?_
      refine WQ.then ?_
      refine WC.cond rfl (fun h103 => ?_) (fun h103 => ?_)
      · skip
        have hm104 := br_t h103 hm102; clear hm102
        refine WC.seq ?_
        refine WC.region ?_
        refine WL.q rfl rfl rfl (QV.assign rfl rfl) ?_
        refine WL.nil ?_
        refine WQ.then ?_
        refine WC.ret ?_
        refine WQ.block_ret ?_
        refine WQ.then_ret ?_
        refine WQ.then_ret ?_
        refine WQ.block_ret ?_
        refine WQ.then_ret ?_
        refine WQ.then_ret ?_
        obtain rfl := up_ret hm104 hn85
        obtain rfl := (eq_of_some hm14).symm
        refine WQ.ret1 rfl rfl (fun w hw => ?_)
        exact ⟨rfl, Own.kgrow (fun _ x => x) hw⟩
      · skip
        have hm105 := br_f h103 hm102; clear hm102
        refine WC.skip ?_
        refine WQ.block ?_
        refine WQ.then ?_
        refine WC.region ?_
        refine WL.q rfl rfl rfl (QV.move rfl rfl) ?_
        obtain ⟨c106, hm107⟩ := ck_some hm105; clear hm105
        refine WL.q rfl rfl rfl (QV.add rfl rfl rfl rfl c106) ?_
        refine WL.q rfl rfl rfl (QV.assign rfl rfl) ?_
        refine WL.nil ?_
        exact WQ.again1 (i8_1 + 1) m82 (up_next hm107 hn85) (Nat.lt_succ_self _) ⟨rfl, rfl, rfl, rfl, rfl, trivial⟩ (fun w hw => hw.pick [0, 1, 2, 3] (by decide))
    · skip
      have hm108 := br_f h86 hm84; clear hm84
      refine WC.exit ?_
      refine WQ.then_exit ?_
      refine WQ.then_exit ?_
      refine WQ.block_exit ?_
      exact WQ.out1 i8_1 (up_brk hm108 hn85) ⟨rfl, rfl, rfl, rfl, rfl, trivial⟩ (fun w hw => hw.pick [0, 1, 2, 3] (by decide))

set_option maxRecDepth 8000 in
theorem roundelayref6_Edges_w {v_l_logs : Value} {v_l_body : Value} {v_l_outs : Value} {l : Lp} {t : Tgt} {r : List Edg} {K0 : World} (hm : roundelayref6_Edges_m l t = some r) (h_l_logs : Arr K0 v_l_logs 1 (l.logs.map icell)) (h_l_body : Arr K0 v_l_body 9 (l.body.map Stm.cells)) (h_l_outs : Arr K0 v_l_outs 1 (l.outs.map icell)) (M : Nat → Prop) (w : World) (hk : Base M K0 w) (hw0 : Own M w [] w) : Calls Try.prog 25 #[.agg #[v_l_logs, v_l_body, v_l_outs], .agg #[.int .i64 t.u0, .int .i64 t.u1, .int .i64 t.u2, .int .i64 t.w0, .int .i64 t.w1, .int .i64 t.w2, .int .i64 t.regs]] w (fun e w' => ∃ X : Value × World, e = .returned (X.1) ∧ Own M w (kn M w.heap.size K0 X.2 :: []) w' ∧ Arr X.2 X.1 4 (r.map Edg.cells)) := by
  unfold roundelayref6_Edges_m at hm
  refine calls_of_WC (n := 47) (args := [.agg #[v_l_logs, v_l_body, v_l_outs], .agg #[.int .i64 t.u0, .int .i64 t.u1, .int .i64 t.u2, .int .i64 t.w0, .int .i64 t.w1, .int .i64 t.w2, .int .i64 t.regs]]) Try.func25 rfl rfl (Nat.le_of_ble_eq_true rfl) ?_ (Own.startK hk hw0)
  refine WC.seq ?_
  refine WC.region ?_
  refine WL.effect rfl ?_
  refine (EV.boxAgg (by decide) rfl rfl (fun b1 => ?_))
  refine WL.effect rfl ?_
  refine (EV.boxAgg (by decide) rfl rfl (fun b2 => ?_))
  refine WL.q rfl rfl rfl (QV.assign rfl rfl) ?_
  refine WL.nil ?_
  refine WQ.then ?_
  refine WC.seq ?_
  refine WC.region ?_
  refine WL.q rfl rfl rfl (QV.assign rfl rfl) ?_
  refine WL.nil ?_
  refine WQ.then ?_
  refine WC.seq ?_
  refine WC.seq ?_
  refine WC.region ?_
  refine WL.q rfl rfl rfl (QV.assign rfl rfl) ?_
  refine WL.nil ?_
  refine WQ.then ?_
  refine WK.of (fun w hw => hw.vecNil (E := 61) (sz := 4) (enc := Edg.cells)) ?_
  obtain ⟨o4, ho5, hm6⟩ := bd_some hm; clear hm; obtain ⟨n7, ho8⟩ := lp_some ho5
  refine WC.bloop3 (H2 := [blk b2 [.int .i64 t.u0, .int .i64 t.u1, .int .i64 t.u2, .int .i64 t.w0, .int .i64 t.w1, .int .i64 t.w2, .int .i64 t.regs] 24, blk b1 [v_l_logs, v_l_body, v_l_outs] 49, kn M w.heap.size K0 K0]) (τ := [(2, (true, _)), (3, (true, _))]) (fun (v3_45 : List Edg) (from6_45 : Int) (uv3_45 : Value) => [(5, (true, uv3_45)), (6, (true, .int .i64 from6_45))]) (fun (v3_45 : List Edg) (from6_45 : Int) (uv3_45 : Value) => [vec uv3_45 61 4 (List.map Edg.cells v3_45)]) (fun (v3_45 : List Edg) (from6_45 : Int) (uv3_45 : Value) (m : Nat) => iter (roundelayref6_Edges_L0 l t) m (v3_45, from6_45) = some o4 ∧ SliceLen uv3_45 v3_45.length) (fun (v3_45 : List Edg) (from6_45 : Int) (uv3_45 : Value) => o4 = .go (v3_45, from6_45) ∧ SliceLen uv3_45 v3_45.length) [] 0 (.slice none 0 0) n7 ⟨ho8, SliceLen.nil⟩ ⟨rfl, rfl, rfl, rfl, trivial⟩ (fun w hw => hw.pick [0, 1, 2, 3] (by decide)) ?_ ?_
  · skip
    rintro v3_45 from6_45 uv3_45 ⟨rfl, hlv3_45⟩
    refine WQ.then ?_
    refine WC.seq ?_
    refine WC.region ?_
    refine WL.q rfl rfl rfl (QV.move rfl rfl) ?_
    refine WL.q rfl rfl rfl (QV.assign rfl rfl) ?_
    refine WL.nil ?_
    refine WQ.then ?_
    refine WC.ret ?_
    obtain rfl := (eq_of_some hm6).symm
    refine WK.of (C' := Own M w [kn M w.heap.size K0 K0, vec uv3_45 61 4 (List.map Edg.cells v3_45), blk b2 [.int .i64 t.u0, .int .i64 t.u1, .int .i64 t.u2, .int .i64 t.w0, .int .i64 t.w1, .int .i64 t.w2, .int .i64 t.regs] 24, blk b1 [v_l_logs, v_l_body, v_l_outs] 49]) (fun w hw => hw.pick [3, 0, 1, 2] (by decide)) ?_
    refine WK.freeze hk (fun k9 hle9 hr9 => ?_)
    have hA9 := vec_arr hr9
    refine WQ.ret1 rfl rfl (fun w hw => ?_)
    exact ⟨(uv3_45, k9), rfl, hw.pick [0] (by decide), hA9⟩
  · skip
    rintro v3_45 from6_45 uv3_45 m10 ⟨hI11, hlv3_45⟩
    obtain ⟨m12, s13, rfl, hm14, hn15⟩ := iter_step hI11; clear hI11; unfold roundelayref6_Edges_L0 at hm14; simp only at hm14
    refine WC.seq ?_
    refine WC.seq ?_
    refine WC.region ?_
    refine WL.q rfl rfl rfl (QV.move rfl rfl) ?_
    refine WL.q rfl rfl rfl (QV.fieldAddr fd49_1 rfl rfl) ?_
    refine WL.q rfl rfl rfl (QV.load pl47 rfl rfl (Own.cell 2 rfl rfl)) ?_
    refine WL.q rfl rfl rfl (QV.lenS Try.underlying47 rfl rfl h_l_body.lenMap) ?_
    refine WL.q rfl rfl rfl (QV.lss rfl rfl rfl rfl) ?_
    refine WL.nil ?_
    refine WQ.then ?_
    refine WC.cond rfl (fun h16 => ?_) (fun h16 => ?_)
    · skip
      have hm17 := br_t h16 hm14; clear hm14
      refine WC.skip ?_
      refine WQ.then ?_
      refine WC.seq ?_
      refine WC.block ?_
      refine WC.seq ?_
      refine WC.region ?_
      refine WL.q rfl rfl rfl (QV.assign rfl rfl) ?_
      refine WL.nil ?_
      refine WQ.then ?_
      obtain ⟨o18, ho19, hm20⟩ := bd_some hm17; clear hm17; obtain ⟨n21, ho22⟩ := lp_some ho19
      refine WC.bloop3 (H2 := [blk b2 [.int .i64 t.u0, .int .i64 t.u1, .int .i64 t.u2, .int .i64 t.w0, .int .i64 t.w1, .int .i64 t.w2, .int .i64 t.regs] 24, blk b1 [v_l_logs, v_l_body, v_l_outs] 49, kn M w.heap.size K0 K0]) (τ := [(2, (true, _)), (3, (true, _)), (6, (true, _))]) (fun (v3_54 : List Edg) (to7_54 : Int) (uv3_54 : Value) => [(5, (true, uv3_54)), (7, (true, .int .i64 to7_54))]) (fun (v3_54 : List Edg) (to7_54 : Int) (uv3_54 : Value) => [vec uv3_54 61 4 (List.map Edg.cells v3_54)]) (fun (v3_54 : List Edg) (to7_54 : Int) (uv3_54 : Value) (m : Nat) => iter (roundelayref6_Edges_L2 l t from6_45) m (v3_54, to7_54) = some o18 ∧ SliceLen uv3_54 v3_54.length) (fun (v3_54 : List Edg) (to7_54 : Int) (uv3_54 : Value) => o18 = .go (v3_54, to7_54) ∧ SliceLen uv3_54 v3_54.length) v3_45 0 uv3_45 n21 ⟨ho22, hlv3_45⟩ ⟨rfl, rfl, rfl, rfl, rfl, trivial⟩ (fun w hw => hw.pick [0, 1, 2, 3] (by decide)) ?_ ?_
      · skip
        rintro v3_54 to7_54 uv3_54 ⟨rfl, hlv3_54⟩
        refine WQ.block ?_
        refine WQ.then ?_
        refine WC.region ?_
        refine WL.q rfl rfl rfl (QV.move rfl rfl) ?_
        obtain ⟨c23, hm24⟩ := ck_some hm20; clear hm20
        refine WL.q rfl rfl rfl (QV.add rfl rfl rfl rfl c23) ?_
        refine WL.q rfl rfl rfl (QV.assign rfl rfl) ?_
        refine WL.nil ?_
        exact WQ.again3 v3_54 (from6_45 + 1) uv3_54 m12 ⟨up_next hm24 hn15, hlv3_54⟩ (Nat.lt_succ_self _) ⟨rfl, rfl, rfl, rfl, trivial⟩ (fun w hw => hw.pick [0, 1, 2, 3] (by decide))
      · skip
        rintro v3_54 to7_54 uv3_54 m25 ⟨hI26, hlv3_54⟩
        obtain ⟨m27, s28, rfl, hm29, hn30⟩ := iter_step hI26; clear hI26; unfold roundelayref6_Edges_L2 at hm29; simp only at hm29
        refine WC.seq ?_
        refine WC.seq ?_
        refine WC.region ?_
        refine WL.q rfl rfl rfl (QV.move rfl rfl) ?_
        refine WL.q rfl rfl rfl (QV.fieldAddr fd49_1 rfl rfl) ?_
        refine WL.q rfl rfl rfl (QV.load pl47 rfl rfl (Own.cell 2 rfl rfl)) ?_
        refine WL.q rfl rfl rfl (QV.lenS Try.underlying47 rfl rfl h_l_body.lenMap) ?_
        refine WL.q rfl rfl rfl (QV.lss rfl rfl rfl rfl) ?_
        refine WL.nil ?_
        refine WQ.then ?_
        refine WC.cond rfl (fun h31 => ?_) (fun h31 => ?_)
        · skip
          have hm32 := br_t h31 hm29; clear hm29
          refine WC.skip ?_
          refine WQ.then ?_
          refine WC.seq ?_
          refine WC.block ?_
          refine WC.seq ?_
          refine WC.region ?_
          refine WL.q rfl rfl rfl (QV.assign rfl rfl) ?_
          refine WL.nil ?_
          refine WQ.then ?_
          obtain ⟨o33, ho34, hm35⟩ := bd_some hm32; clear hm32; obtain ⟨n36, ho37⟩ := lp_some ho34
          refine WC.bloop3 (H2 := [blk b2 [.int .i64 t.u0, .int .i64 t.u1, .int .i64 t.u2, .int .i64 t.w0, .int .i64 t.w1, .int .i64 t.w2, .int .i64 t.regs] 24, blk b1 [v_l_logs, v_l_body, v_l_outs] 49, kn M w.heap.size K0 K0]) (τ := [(2, (true, _)), (3, (true, _)), (6, (true, _)), (7, (true, _))]) (fun (v3_57 : List Edg) (back8_57 : Int) (uv3_57 : Value) => [(5, (true, uv3_57)), (8, (true, .int .i64 back8_57))]) (fun (v3_57 : List Edg) (back8_57 : Int) (uv3_57 : Value) => [vec uv3_57 61 4 (List.map Edg.cells v3_57)]) (fun (v3_57 : List Edg) (back8_57 : Int) (uv3_57 : Value) (m : Nat) => iter (roundelayref6_Edges_L4 l t from6_45 to7_54) m (v3_57, back8_57) = some o33 ∧ SliceLen uv3_57 v3_57.length) (fun (v3_57 : List Edg) (back8_57 : Int) (uv3_57 : Value) => o33 = .go (v3_57, back8_57) ∧ SliceLen uv3_57 v3_57.length) v3_54 0 uv3_54 n36 ⟨ho37, hlv3_54⟩ ⟨rfl, rfl, rfl, rfl, rfl, rfl, trivial⟩ (fun w hw => hw.pick [0, 1, 2, 3] (by decide)) ?_ ?_
          · skip
            rintro v3_57 back8_57 uv3_57 ⟨rfl, hlv3_57⟩
            refine WQ.block ?_
            refine WQ.then ?_
            refine WC.region ?_
            refine WL.q rfl rfl rfl (QV.move rfl rfl) ?_
            obtain ⟨c38, hm39⟩ := ck_some hm35; clear hm35
            refine WL.q rfl rfl rfl (QV.add rfl rfl rfl rfl c38) ?_
            refine WL.q rfl rfl rfl (QV.assign rfl rfl) ?_
            refine WL.nil ?_
            exact WQ.again3 v3_57 (to7_54 + 1) uv3_57 m27 ⟨up_next hm39 hn30, hlv3_57⟩ (Nat.lt_succ_self _) ⟨rfl, rfl, rfl, rfl, rfl, trivial⟩ (fun w hw => hw.pick [0, 1, 2, 3] (by decide))
          · skip
            rintro v3_57 back8_57 uv3_57 m40 ⟨hI41, hlv3_57⟩
            obtain ⟨m42, s43, rfl, hm44, hn45⟩ := iter_step hI41; clear hI41; unfold roundelayref6_Edges_L4 at hm44; simp only at hm44
            refine WC.seq ?_
            refine WC.seq ?_
            refine WC.region ?_
            refine WL.q rfl rfl rfl (QV.move rfl rfl) ?_
            refine WL.q rfl rfl rfl (QV.leq rfl rfl rfl rfl) ?_
            refine WL.nil ?_
            refine WQ.then ?_
            refine WC.cond rfl (fun h46 => ?_) (fun h46 => ?_)
            · skip
              have hm47 := br_t h46 hm44; clear hm44
              refine WC.skip ?_
              refine WQ.then ?_
              refine WC.seq ?_
              refine WC.block ?_
              refine WC.seq ?_
              refine WC.region ?_
              refine WL.q rfl rfl rfl (QV.assign rfl rfl) ?_
              refine WL.nil ?_
              refine WQ.then ?_
              obtain ⟨o48, ho49, hm50⟩ := bd_some hm47; clear hm47; obtain ⟨n51, ho52⟩ := lp_some ho49
              refine WC.bloop3 (H2 := [blk b2 [.int .i64 t.u0, .int .i64 t.u1, .int .i64 t.u2, .int .i64 t.w0, .int .i64 t.w1, .int .i64 t.w2, .int .i64 t.regs] 24, blk b1 [v_l_logs, v_l_body, v_l_outs] 49, kn M w.heap.size K0 K0]) (τ := [(2, (true, _)), (3, (true, _)), (6, (true, _)), (7, (true, _)), (8, (true, _))]) (fun (v3_58 : List Edg) (wait9_58 : Int) (uv3_58 : Value) => [(5, (true, uv3_58)), (9, (true, .int .i64 wait9_58))]) (fun (v3_58 : List Edg) (wait9_58 : Int) (uv3_58 : Value) => [vec uv3_58 61 4 (List.map Edg.cells v3_58)]) (fun (v3_58 : List Edg) (wait9_58 : Int) (uv3_58 : Value) (m : Nat) => iter (roundelayref6_Edges_L6 l t from6_45 to7_54 back8_57) m (v3_58, wait9_58) = some o48 ∧ SliceLen uv3_58 v3_58.length) (fun (v3_58 : List Edg) (wait9_58 : Int) (uv3_58 : Value) => o48 = .go (v3_58, wait9_58) ∧ SliceLen uv3_58 v3_58.length) v3_57 0 uv3_57 n51 ⟨ho52, hlv3_57⟩ ⟨rfl, rfl, rfl, rfl, rfl, rfl, rfl, trivial⟩ (fun w hw => hw.pick [0, 1, 2, 3] (by decide)) ?_ ?_
              · skip
                rintro v3_58 wait9_58 uv3_58 ⟨rfl, hlv3_58⟩
                refine WQ.block ?_
                refine WQ.then ?_
                refine WC.region ?_
                refine WL.q rfl rfl rfl (QV.move rfl rfl) ?_
                obtain ⟨c53, hm54⟩ := ck_some hm50; clear hm50
                refine WL.q rfl rfl rfl (QV.add rfl rfl rfl rfl c53) ?_
                refine WL.q rfl rfl rfl (QV.assign rfl rfl) ?_
                refine WL.nil ?_
                exact WQ.again3 v3_58 (back8_57 + 1) uv3_58 m42 ⟨up_next hm54 hn45, hlv3_58⟩ (Nat.lt_succ_self _) ⟨rfl, rfl, rfl, rfl, rfl, rfl, trivial⟩ (fun w hw => hw.pick [0, 1, 2, 3] (by decide))
              · skip
                rintro v3_58 wait9_58 uv3_58 m55 ⟨hI56, hlv3_58⟩
                obtain ⟨m57, s58, rfl, hm59, hn60⟩ := iter_step hI56; clear hI56; unfold roundelayref6_Edges_L6 at hm59; simp only at hm59
                refine WC.seq ?_
                refine WC.seq ?_
                refine WC.region ?_
                refine WL.q rfl rfl rfl (QV.move rfl rfl) ?_
                refine WL.q rfl rfl rfl (QV.leq rfl rfl rfl rfl) ?_
                refine WL.nil ?_
                refine WQ.then ?_
                refine WC.cond rfl (fun h61 => ?_) (fun h61 => ?_)
                · skip
                  have hm62 := br_t h61 hm59; clear hm59
                  refine WC.skip ?_
                  refine WQ.then ?_
                  refine WC.seq ?_
                  refine WC.block ?_
                  refine WC.seq ?_
                  refine WC.region ?_
                  refine WL.q rfl rfl rfl (QV.move rfl rfl) ?_
                  refine WL.q rfl rfl rfl (QV.move rfl rfl) ?_
                  refine WL.q rfl rfl rfl (QV.move rfl rfl) ?_
                  refine WL.q rfl rfl rfl (QV.move rfl rfl) ?_
                  refine WL.q rfl rfl rfl (QV.build (ps := [(0, .tmp 33), (1, .tmp 34), (2, .tmp 35), (3, .tmp 36)]) (cells := [.int .i64 from6_45, .int .i64 to7_54, .int .i64 back8_57, .int .i64 wait9_58]) (EvAll.cons rfl rfl (EvAll.cons rfl rfl (EvAll.cons rfl rfl (EvAll.cons rfl rfl EvAll.nil)))) (by kernel_rfl)) ?_
                  refine WL.effect rfl ?_
                  refine (EV.alloc (by decide) ze61 (fun b63 => ?_))
                  refine WL.effect rfl ?_
                  refine (EV.store 0 rfl rfl rfl rfl rfl rfl (vs := [.int .i64 from6_45, .int .i64 to7_54, .int .i64 back8_57, .int .i64 wait9_58]) (show Value.cells _ = List.toArray _ from rfl) sz61 (Nat.le_of_ble_eq_true rfl) (one_cons rfl (one_cons rfl (one_cons rfl (one_cons rfl one_nil)))) ?_)
                  refine WL.nil ?_
                  refine WQ.then ?_
                  refine WC.seq ?_
                  refine WC.region ?_
                  refine WL.q rfl rfl rfl (QV.loadAgg ag49 rfl rfl rfl (Own.cellsBlk 3 rfl)) ?_
                  refine WL.q rfl rfl rfl (QV.loadAgg ag24 rfl rfl rfl (Own.cellsBlk 2 rfl)) ?_
                  refine WL.q rfl rfl rfl (QV.loadAgg ag61 rfl rfl rfl (Own.cellsBlk 0 rfl)) ?_
                  obtain ⟨x64, hx65, hm66⟩ := bd_some hm62; clear hm62
                  refine WL.q rfl rfl rfl (QV.call en69 (EvAll.cons rfl rfl (EvAll.cons rfl rfl (EvAll.cons rfl rfl EvAll.nil))) (fun w hw => have h := roundelayref6_is_w w hx65 ((Own.karr 4 rfl hk h_l_logs) w hw) ((Own.karr 4 rfl hk h_l_body) w hw) ((Own.karr 4 rfl hk h_l_outs) w hw); h)) ?_
                  refine WL.nil ?_
                  refine WQ.then ?_
                  refine WC.cond rfl (fun h67 => ?_) (fun h67 => ?_)
                  · skip
                    have hm68 := br_t h67 hm66; clear hm66
                    refine WC.region ?_
                    refine WL.q rfl rfl rfl (QV.move rfl rfl) ?_
                    refine WL.q rfl rfl rfl (QV.loadAgg ag61 rfl rfl rfl (Own.cellsBlk 0 rfl)) ?_
                    refine WL.effect rfl ?_
                    refine (EV.buildSlice (by decide) sz_50 (by decide) (by decide) (ps := [(0, .tmp 43)]) (cells := [.int .i64 from6_45, .int .i64 to7_54, .int .i64 back8_57, .int .i64 wait9_58]) (EvAll.cons rfl rfl EvAll.nil) (by kernel_rfl) (fun b69 => ?_))
                    refine WL.effect rfl ?_
                    obtain ⟨c70, hm71⟩ := ck_some hm68; clear hm68
                    refine (EV.appendL (enc := Edg.cells) (xs := v3_58) (ys := [(Edg.mk from6_45 to7_54 back8_57 wait9_58)]) ((v3_58 ++ [(Edg.mk from6_45 to7_54 back8_57 wait9_58)])) 2 (by decide) ve50 rfl rfl rfl rfl rfl (Own.blkArr 0 (rows := [(Edg.mk from6_45 to7_54 back8_57 wait9_58)].map Edg.cells) rfl rfl (rows_len Edg.cells_len)) Edg.cells_len (Edg.cells_one _) rfl c70.1 c70.2 (fun u72 hu73 => ?_))
                    refine WL.q rfl rfl rfl (QV.assign rfl rfl) ?_
                    refine WL.nil ?_
                    refine WQ.block ?_
                    refine WQ.then ?_
                    refine WC.region ?_
                    refine WL.q rfl rfl rfl (QV.move rfl rfl) ?_
                    obtain ⟨c74, hm75⟩ := ck_some hm71; clear hm71
                    refine WL.q rfl rfl rfl (QV.add rfl rfl rfl rfl c74) ?_
                    refine WL.q rfl rfl rfl (QV.assign rfl rfl) ?_
                    refine WL.nil ?_
                    exact WQ.again3 (v3_58 ++ [(Edg.mk from6_45 to7_54 back8_57 wait9_58)]) (wait9_58 + 1) u72 m57 ⟨up_next hm75 hn60, hu73⟩ (Nat.lt_succ_self _) ⟨rfl, rfl, rfl, rfl, rfl, rfl, rfl, trivial⟩ (fun w hw => hw.pick [2, 3, 4, 5] (by decide))
                  · skip
                    have hm76 := br_f h67 hm66; clear hm66
                    refine WC.skip ?_
                    refine WQ.block ?_
                    refine WQ.then ?_
                    refine WC.region ?_
                    refine WL.q rfl rfl rfl (QV.move rfl rfl) ?_
                    obtain ⟨c77, hm78⟩ := ck_some hm76; clear hm76
                    refine WL.q rfl rfl rfl (QV.add rfl rfl rfl rfl c77) ?_
                    refine WL.q rfl rfl rfl (QV.assign rfl rfl) ?_
                    refine WL.nil ?_
                    exact WQ.again3 v3_58 (wait9_58 + 1) uv3_58 m57 ⟨up_next hm78 hn60, hlv3_58⟩ (Nat.lt_succ_self _) ⟨rfl, rfl, rfl, rfl, rfl, rfl, rfl, trivial⟩ (fun w hw => hw.pick [1, 2, 3, 4] (by decide))
                · skip
                  have hm79 := br_f h61 hm59; clear hm59
                  refine WC.exit ?_
                  refine WQ.then_exit ?_
                  refine WQ.then_exit ?_
                  refine WQ.block_exit ?_
                  exact WQ.out3 v3_58 wait9_58 uv3_58 ⟨up_brk hm79 hn60, hlv3_58⟩ ⟨rfl, rfl, rfl, rfl, rfl, rfl, rfl, trivial⟩ (fun w hw => hw.pick [0, 1, 2, 3] (by decide))
            · skip
              have hm80 := br_f h46 hm44; clear hm44
              refine WC.exit ?_
              refine WQ.then_exit ?_
              refine WQ.then_exit ?_
              refine WQ.block_exit ?_
              exact WQ.out3 v3_57 back8_57 uv3_57 ⟨up_brk hm80 hn45, hlv3_57⟩ ⟨rfl, rfl, rfl, rfl, rfl, rfl, trivial⟩ (fun w hw => hw.pick [0, 1, 2, 3] (by decide))
        · skip
          have hm81 := br_f h31 hm29; clear hm29
          refine WC.exit ?_
          refine WQ.then_exit ?_
          refine WQ.then_exit ?_
          refine WQ.block_exit ?_
          exact WQ.out3 v3_54 to7_54 uv3_54 ⟨up_brk hm81 hn30, hlv3_54⟩ ⟨rfl, rfl, rfl, rfl, rfl, trivial⟩ (fun w hw => hw.pick [0, 1, 2, 3] (by decide))
    · skip
      have hm82 := br_f h16 hm14; clear hm14
      refine WC.exit ?_
      refine WQ.then_exit ?_
      refine WQ.then_exit ?_
      refine WQ.block_exit ?_
      exact WQ.out3 v3_45 from6_45 uv3_45 ⟨up_brk hm82 hn15, hlv3_45⟩ ⟨rfl, rfl, rfl, rfl, trivial⟩ (fun w hw => hw.pick [0, 1, 2, 3] (by decide))

set_option maxRecDepth 8000 in
theorem roundelayref6_May_w {v_l_logs : Value} {v_l_body : Value} {v_l_outs : Value} {l : Lp} {t : Tgt} {r : Bool} (w : World) (hm : roundelayref6_May_m l t = some r) (h_l_logs : Arr w v_l_logs 1 (l.logs.map icell)) (h_l_body : Arr w v_l_body 9 (l.body.map Stm.cells)) (h_l_outs : Arr w v_l_outs 1 (l.outs.map icell)) : Calls Try.prog 24 #[.agg #[v_l_logs, v_l_body, v_l_outs], .agg #[.int .i64 t.u0, .int .i64 t.u1, .int .i64 t.u2, .int .i64 t.w0, .int .i64 t.w1, .int .i64 t.w2, .int .i64 t.regs]] w (fun e w' => e = .returned (.bool r) ∧ Grow w w') := by
  unfold roundelayref6_May_m at hm
  have hk := Base.rfl (w := w)
  refine calls_of_WC (n := 11) (args := [.agg #[v_l_logs, v_l_body, v_l_outs], .agg #[.int .i64 t.u0, .int .i64 t.u1, .int .i64 t.u2, .int .i64 t.w0, .int .i64 t.w1, .int .i64 t.w2, .int .i64 t.regs]]) Try.func24 rfl rfl (Nat.le_of_ble_eq_true rfl) ?_ (Own.startK hk (Own.start w))
  refine WC.seq ?_
  refine WC.region ?_
  refine WL.effect rfl ?_
  refine (EV.boxAgg (by decide) rfl rfl (fun b1 => ?_))
  refine WL.effect rfl ?_
  refine (EV.boxAgg (by decide) rfl rfl (fun b2 => ?_))
  refine WL.q rfl rfl rfl (QV.assign rfl rfl) ?_
  refine WL.nil ?_
  refine WQ.then ?_
  refine WC.seq ?_
  refine WC.region ?_
  refine WL.q rfl rfl rfl (QV.loadAgg ag49 rfl rfl rfl (Own.cellsBlk 1 rfl)) ?_
  obtain ⟨x3, hx4, hm5⟩ := bd_some hm; clear hm
  refine WL.q rfl rfl rfl (QV.call en68 (EvAll.cons rfl rfl EvAll.nil) (fun w hw => have h := roundelayref2_May_w w hx4 ((Own.karr 2 rfl hk h_l_logs) w hw) ((Own.karr 2 rfl hk h_l_body) w hw) ((Own.karr 2 rfl hk h_l_outs) w hw); h)) ?_
  refine WL.q rfl rfl rfl (QV.move rfl rfl) ?_
  refine WL.g rfl rfl (GuardIs.pos rfl rfl) (fun hG => QV.loadAgg ag24 rfl rfl rfl (Own.cellsBlk 0 rfl)) ?_
  obtain ⟨x6, hx7, hm8⟩ := bdG_some hm5; clear hm5
  refine WL.g rfl rfl (GuardIs.pos rfl rfl) (fun hG => QV.call en49 (EvAll.cons rfl hG EvAll.nil) (fun w hw => have h := roundelayref4_May_w w (hx7 hG) ; h)) ?_
  refine WL.q rfl rfl rfl (QV.pickAnd rfl rfl rfl (fun h => h)) ?_
  refine WL.q rfl rfl rfl (QV.assign rfl rfl) ?_
  refine WL.nil ?_
  refine WQ.then ?_
  refine WC.ret ?_
  obtain rfl := (eq_of_some hm8).symm
  refine WQ.ret1 rfl rfl (fun w hw => ?_)
  exact ⟨rfl, Own.kgrow (fun _ x => x) hw⟩
end Go.Proofs.Ytaimbkndebaaiab
end

section
namespace Go.Proofs.Ytaimbkndebaaiab
open Go.Rd
set_option linter.unusedVariables false
namespace TRSched
theorem ag24 : AggT Try.prog 24 7 := ⟨_, Try.underlying24, rfl, by kernel_rfl⟩
theorem ag49 : AggT Try.prog 49 3 := ⟨_, Try.underlying49, rfl, by kernel_rfl⟩
theorem ag61 : AggT Try.prog 61 4 := ⟨_, Try.underlying61, rfl, by kernel_rfl⟩
theorem ar22 : ArrayT Try.prog 22 3 1 := ⟨_, Try.underlying22, by kernel_rfl⟩
theorem en24 : Go.Rd.Enters Try.prog 24 := ⟨Try.f24, Try.func24, by kernel_rfl, by kernel_rfl⟩
theorem en25 : Go.Rd.Enters Try.prog 25 := ⟨Try.f25, Try.func25, by kernel_rfl, by kernel_rfl⟩
theorem en52 : Go.Rd.Enters Try.prog 52 := ⟨Try.f52, Try.func52, by kernel_rfl, by kernel_rfl⟩
theorem en78 : Go.Rd.Enters Try.prog 78 := ⟨Try.f78, Try.func78, by kernel_rfl, by kernel_rfl⟩
theorem fd24_0 : FieldT Try.prog 24 0 0 := ⟨_, _, 2, Try.underlying24, rfl, rfl, by kernel_rfl⟩
theorem fd49_1 : FieldT Try.prog 49 1 1 := ⟨_, _, 0, Try.underlying49, rfl, rfl, by kernel_rfl⟩
theorem fd59_0 : FieldT Try.prog 59 0 0 := ⟨_, _, 0, Try.underlying59, rfl, rfl, by kernel_rfl⟩
theorem fd61_0 : FieldT Try.prog 61 0 0 := ⟨_, _, 0, Try.underlying61, rfl, rfl, by kernel_rfl⟩
theorem fd61_1 : FieldT Try.prog 61 1 1 := ⟨_, _, 0, Try.underlying61, rfl, rfl, by kernel_rfl⟩
theorem fd61_2 : FieldT Try.prog 61 2 2 := ⟨_, _, 0, Try.underlying61, rfl, rfl, by kernel_rfl⟩
theorem fd61_3 : FieldT Try.prog 61 3 3 := ⟨_, _, 0, Try.underlying61, rfl, rfl, by kernel_rfl⟩
theorem fd63_0 : FieldT Try.prog 63 0 0 := ⟨_, _, 0, Try.underlying63, rfl, rfl, by kernel_rfl⟩
theorem fd63_1 : FieldT Try.prog 63 1 1 := ⟨_, _, 0, Try.underlying63, rfl, rfl, by kernel_rfl⟩
theorem pl3 : Plain Try.prog 3 := ⟨_, Try.underlying3, rfl⟩
theorem pl30 : Plain Try.prog 30 := ⟨_, Try.underlying30, rfl⟩
theorem pl47 : Plain Try.prog 47 := ⟨_, Try.underlying47, rfl⟩
theorem sl30 : SliceT Try.prog 30 3 1 := ⟨Try.underlying30, by kernel_rfl⟩
theorem sl47 : SliceT Try.prog 47 59 9 := ⟨Try.underlying47, by kernel_rfl⟩
theorem sl50 : SliceT Try.prog 50 61 4 := ⟨Try.underlying50, by kernel_rfl⟩
theorem sz61 : SizeT Try.prog 61 4 := by unfold SizeT; kernel_rfl
theorem ze61 : ZeroT Try.prog 61 [.int .i64 0, .int .i64 0, .int .i64 0, .int .i64 0] := by unfold ZeroT; kernel_rfl
end TRSched
open TRSched
set_option maxRecDepth 8000 in
theorem roundelayref8_Legal_w {v_l_logs : Value} {v_l_body : Value} {v_l_outs : Value} {v_p_times : Value} {l : Lp} {t : Tgt} {p : Pln} {r : Bool} (w : World) (hm : roundelayref8_Legal_m l t p = some r) (h_l_logs : Arr w v_l_logs 1 (l.logs.map icell)) (h_l_body : Arr w v_l_body 9 (l.body.map Stm.cells)) (h_l_outs : Arr w v_l_outs 1 (l.outs.map icell)) (h_p_times : Arr w v_p_times 1 (p.times.map icell)) : Calls Try.prog 28 #[.agg #[v_l_logs, v_l_body, v_l_outs], .agg #[.int .i64 t.u0, .int .i64 t.u1, .int .i64 t.u2, .int .i64 t.w0, .int .i64 t.w1, .int .i64 t.w2, .int .i64 t.regs], .agg #[.int .i64 p.pace, v_p_times]] w (fun e w' => e = .returned (.bool r) ∧ Grow w w') := by
  unfold roundelayref8_Legal_m at hm
  have hk := Base.rfl (w := w)
  refine calls_of_WC (n := 143) (args := [.agg #[v_l_logs, v_l_body, v_l_outs], .agg #[.int .i64 t.u0, .int .i64 t.u1, .int .i64 t.u2, .int .i64 t.w0, .int .i64 t.w1, .int .i64 t.w2, .int .i64 t.regs], .agg #[.int .i64 p.pace, v_p_times]]) Try.func28 rfl rfl (Nat.le_of_ble_eq_true rfl) ?_ (Own.startK hk (Own.start w))
  refine WC.seq ?_
  refine WC.region ?_
  refine WL.effect rfl ?_
  refine (EV.boxAgg (by decide) rfl rfl (fun b1 => ?_))
  refine WL.effect rfl ?_
  refine (EV.boxAgg (by decide) rfl rfl (fun b2 => ?_))
  refine WL.effect rfl ?_
  refine (EV.boxAgg (by decide) rfl rfl (fun b3 => ?_))
  refine WL.q rfl rfl rfl (QV.assign rfl rfl) ?_
  refine WL.nil ?_
  refine WQ.then ?_
  refine WC.seq ?_
  refine WC.seq ?_
  refine WC.region ?_
  refine WL.q rfl rfl rfl (QV.loadAgg ag49 rfl rfl rfl (Own.cellsBlk 2 rfl)) ?_
  refine WL.q rfl rfl rfl (QV.loadAgg ag24 rfl rfl rfl (Own.cellsBlk 1 rfl)) ?_
  obtain ⟨x4, hx5, hm6⟩ := bd_some hm; clear hm
  refine WL.q rfl rfl rfl (QV.call en24 (EvAll.cons rfl rfl (EvAll.cons rfl rfl EvAll.nil)) (fun w hw => have h := roundelayref6_May_w w hx5 ((Own.karr 3 rfl hk h_l_logs) w hw) ((Own.karr 3 rfl hk h_l_body) w hw) ((Own.karr 3 rfl hk h_l_outs) w hw); h)) ?_
  refine WL.q rfl rfl rfl (QV.not rfl rfl) ?_
  refine WL.q rfl rfl rfl (QV.move rfl rfl) ?_
  refine WL.g rfl rfl (GuardIs.neg rfl rfl) (fun hG => QV.fieldAddr fd63_0 rfl rfl) ?_
  refine WL.g rfl rfl (GuardIs.neg rfl rfl) (fun hG => QV.load pl3 rfl hG (Own.cell 0 rfl rfl)) ?_
  refine WL.g rfl rfl (GuardIs.neg rfl rfl) (fun hG => QV.lss rfl hG rfl rfl) ?_
  refine WL.q rfl rfl rfl (QV.pickOr rfl rfl rfl (fun h => notF h)) ?_
  refine WL.q rfl rfl rfl (QV.move rfl rfl) ?_
  refine WL.g rfl rfl (GuardIs.neg rfl rfl) (fun hG => QV.fieldAddr fd63_0 rfl rfl) ?_
  refine WL.g rfl rfl (GuardIs.neg rfl rfl) (fun hG => QV.load pl3 rfl hG (Own.cell 0 rfl rfl)) ?_
  refine WL.g rfl rfl (GuardIs.neg rfl rfl) (fun hG => QV.gtr rfl hG rfl rfl) ?_
  refine WL.q rfl rfl rfl (QV.pickOr rfl rfl rfl (fun h => notF h)) ?_
  refine WL.q rfl rfl rfl (QV.move rfl rfl) ?_
  refine WL.g rfl rfl (GuardIs.neg rfl rfl) (fun hG => QV.fieldAddr fd63_1 rfl rfl) ?_
  refine WL.g rfl rfl (GuardIs.neg rfl rfl) (fun hG => QV.load pl30 rfl hG (Own.cell 0 rfl rfl)) ?_
  refine WL.g rfl rfl (GuardIs.neg rfl rfl) (fun hG => QV.lenS Try.underlying30 rfl hG h_p_times.lenMap) ?_
  refine WL.g rfl rfl (GuardIs.neg rfl rfl) (fun hG => QV.fieldAddr fd49_1 rfl rfl) ?_
  refine WL.g rfl rfl (GuardIs.neg rfl rfl) (fun hG => QV.load pl47 rfl hG (Own.cell 2 rfl rfl)) ?_
  refine WL.g rfl rfl (GuardIs.neg rfl rfl) (fun hG => QV.lenS Try.underlying47 rfl hG h_l_body.lenMap) ?_
  refine WL.g rfl rfl (GuardIs.neg rfl rfl) (fun hG => QV.neq rfl hG rfl hG) ?_
  refine WL.q rfl rfl rfl (QV.pickOr rfl rfl rfl (fun h => notF h)) ?_
  refine WL.nil ?_
  refine WQ.then ?_
  refine WC.cond rfl (fun h7 => ?_) (fun h7 => ?_)
  · skip
    have hm8 := br_t h7 hm6; clear hm6
    refine WC.seq ?_
    refine WC.region ?_
    refine WL.q rfl rfl rfl (QV.assign rfl rfl) ?_
    refine WL.nil ?_
    refine WQ.then ?_
    refine WC.ret ?_
    refine WQ.then_ret ?_
    obtain rfl := (eq_of_some hm8).symm
    refine WQ.ret1 rfl rfl (fun w hw => ?_)
    exact ⟨rfl, Own.kgrow (fun _ x => x) hw⟩
  · skip
    have hm9 := br_f h7 hm6; clear hm6
    refine WC.skip ?_
    refine WQ.then ?_
    refine WC.seq ?_
    refine WC.seq ?_
    refine WC.region ?_
    refine WL.q rfl rfl rfl (QV.assign rfl rfl) ?_
    refine WL.nil ?_
    refine WQ.then ?_
    obtain ⟨o10, ho11, hm12⟩ := bd_some hm9; clear hm9; obtain ⟨n13, ho14⟩ := lp_some ho11
    refine WC.bloop1 (H2 := [blk b3 [.int .i64 p.pace, v_p_times] 63, blk b2 [.int .i64 t.u0, .int .i64 t.u1, .int .i64 t.u2, .int .i64 t.w0, .int .i64 t.w1, .int .i64 t.w2, .int .i64 t.regs] 24, blk b1 [v_l_logs, v_l_body, v_l_outs] 49, kn noM w.heap.size w w]) (τ := [(3, (true, _)), (4, (true, _)), (5, (true, _))]) (fun (i7_2 : Int) => [(7, (true, .int .i64 i7_2))]) (fun (i7_2 : Int) => []) (fun (i7_2 : Int) (m : Nat) => iter (roundelayref8_Legal_L0 l t p) m i7_2 = some o10) (fun (i7_2 : Int) => o10 = .go i7_2) 0 n13 ho14 ⟨rfl, rfl, rfl, rfl, trivial⟩ (fun w hw => hw.pick [0, 1, 2, 3] (by decide)) ?_ ?_
    · skip
      rintro i7_2 rfl
      refine WQ.then ?_
      refine WC.seq ?_
      refine WC.region ?_
      refine WL.q rfl rfl rfl (QV.loadAgg ag49 rfl rfl rfl (Own.cellsBlk 2 rfl)) ?_
      refine WL.q rfl rfl rfl (QV.loadAgg ag24 rfl rfl rfl (Own.cellsBlk 1 rfl)) ?_
      refine WL.effect rfl ?_
      obtain ⟨x15, hx16, hm17⟩ := bd_some hm12; clear hm12
      refine EV.of (C' := Own noM w [kn noM w.heap.size w w, blk b3 [.int .i64 p.pace, v_p_times] 63, blk b2 [.int .i64 t.u0, .int .i64 t.u1, .int .i64 t.u2, .int .i64 t.w0, .int .i64 t.w1, .int .i64 t.w2, .int .i64 t.regs] 24, blk b1 [v_l_logs, v_l_body, v_l_outs] 49]) (fun w hw => hw.pick [3, 0, 1, 2] (by decide)) ?_
      refine (EV.callR (X := Value × World) (R := []) (fun X => X.1) (fun X => []) (fun X => X.2) (fun X => Arr X.2 X.1 4 (x15.map Edg.cells)) hk (fun _ h => by cases h; decide) en25 (EvAll.cons rfl rfl (EvAll.cons rfl rfl EvAll.nil)) (fun M w h1 h2 => have h := roundelayref6_Edges_w hx16 h_l_logs h_l_body h_l_outs M w h1 h2; h) (fun X18 hF18 hle18 => ?_))
      refine WL.q rfl rfl rfl (QV.assign rfl rfl) ?_
      refine WL.nil ?_
      refine WQ.then ?_
      refine WC.seq ?_
      refine WC.seq ?_
      refine WC.region ?_
      refine WL.q rfl rfl rfl (QV.assign rfl rfl) ?_
      refine WL.nil ?_
      refine WQ.then ?_
      obtain ⟨o19, ho20, hm21⟩ := bd_some hm17; clear hm17; obtain ⟨n22, ho23⟩ := lp_some ho20
      refine WC.bloop1 (H2 := [kn noM w.heap.size w X18.2, blk b3 [.int .i64 p.pace, v_p_times] 63, blk b2 [.int .i64 t.u0, .int .i64 t.u1, .int .i64 t.u2, .int .i64 t.w0, .int .i64 t.w1, .int .i64 t.w2, .int .i64 t.regs] 24, blk b1 [v_l_logs, v_l_body, v_l_outs] 49]) (τ := [(5, (true, _)), (11, (true, _))]) (fun (i12_3 : Int) => [(12, (true, .int .i64 i12_3))]) (fun (i12_3 : Int) => []) (fun (i12_3 : Int) (m : Nat) => iter (roundelayref8_Legal_L4 p x15) m i12_3 = some o19) (fun (i12_3 : Int) => o19 = .go i12_3) 0 n22 ho23 ⟨rfl, rfl, rfl, trivial⟩ (fun w hw => hw.pick [0, 1, 2, 3] (by decide)) ?_ ?_
      · skip
        rintro i12_3 rfl
        refine WQ.then ?_
        refine WC.seq ?_
        refine WC.region ?_
        refine WL.q rfl rfl rfl (QV.assign rfl rfl) ?_
        refine WL.nil ?_
        refine WQ.then ?_
        refine WC.ret ?_
        obtain rfl := (eq_of_some hm21).symm
        refine WQ.ret1 rfl rfl (fun w hw => ?_)
        exact ⟨rfl, Own.kgrow (fun _ x => x) hw⟩
      · skip
        rintro i12_3 m24 hI25
        obtain ⟨m26, s27, rfl, hm28, hn29⟩ := iter_step hI25; clear hI25; unfold roundelayref8_Legal_L4 at hm28
        refine WC.seq ?_
        refine WC.seq ?_
        refine WC.region ?_
        refine WL.q rfl rfl rfl (QV.move rfl rfl) ?_
        refine WL.q rfl rfl rfl (QV.move rfl rfl) ?_
        refine WL.q rfl rfl rfl (QV.lenS Try.underlying50 rfl rfl hF18.lenMap) ?_
        refine WL.q rfl rfl rfl (QV.lss rfl rfl rfl rfl) ?_
        refine WL.nil ?_
        refine WQ.then ?_
        refine WC.cond rfl (fun h30 => ?_) (fun h30 => ?_)
        · skip
          have hm31 := br_t h30 hm28; clear hm28
          refine WC.skip ?_
          refine WQ.then ?_
          refine WC.seq ?_
          refine WC.block ?_
          refine WC.seq ?_
          refine WC.region ?_
          refine WL.q rfl rfl rfl (QV.move rfl rfl) ?_
          refine WL.q rfl rfl rfl (QV.move rfl rfl) ?_
          obtain ⟨c32, hm33⟩ := ck_some hm31; clear hm31
          obtain ⟨p34, hp35⟩ := hF18.lenMap.ix (sz := 4) ln_len c32
          refine WL.q rfl rfl rfl (QV.indexSlice sl50 rfl rfl rfl rfl hp35) ?_
          refine WL.q rfl rfl rfl (QV.loadAgg ag61 rfl rfl rfl (fun w hw => ((Own.karr 0 rfl hk hF18) w hw).ele hp35 c32)) ?_
          refine WL.effect rfl ?_
          refine (EV.alloc (by decide) ze61 (fun b36 => ?_))
          refine WL.effect rfl ?_
          refine (EV.store 0 rfl rfl rfl rfl rfl rfl (vs := [.int .i64 ((ele x15 i12_3).fr), .int .i64 ((ele x15 i12_3).to), .int .i64 ((ele x15 i12_3).bk), .int .i64 ((ele x15 i12_3).wt)]) (show Value.cells _ = List.toArray _ from rfl) sz61 (Nat.le_of_ble_eq_true rfl) (one_cons rfl (one_cons rfl (one_cons rfl (one_cons rfl one_nil)))) ?_)
          refine WL.nil ?_
          refine WQ.then ?_
          refine WC.seq ?_
          refine WC.dr (m := 22) (S := Own noM w [kn noM w.heap.size w X18.2, blk b36 [.int .i64 ((ele x15 i12_3).fr), .int .i64 ((ele x15 i12_3).to), .int .i64 ((ele x15 i12_3).bk), .int .i64 ((ele x15 i12_3).wt)] 61, blk b3 [.int .i64 p.pace, v_p_times] 63, blk b2 [.int .i64 t.u0, .int .i64 t.u1, .int .i64 t.u2, .int .i64 t.w0, .int .i64 t.w1, .int .i64 t.w2, .int .i64 t.regs] 24, blk b1 [v_l_logs, v_l_body, v_l_outs] 49]) (by kernel_rfl) (by kernel_rfl) (fun w hw => hw.pick [1, 0, 2, 3, 4] (by decide)) ?_
          refine WD.q 0 rfl (by kernel_rfl) rfl rfl rfl (QV.fieldAddr fd63_1 rfl rfl) ?_
          refine WD.q 1 rfl (by kernel_rfl) rfl rfl rfl (QV.load pl30 rfl rfl (Own.cell 2 rfl rfl)) ?_
          refine WD.q 2 rfl (by kernel_rfl) rfl rfl rfl (QV.fieldAddr fd61_1 rfl rfl) ?_
          refine WD.q 3 rfl (by kernel_rfl) rfl rfl rfl (QV.load pl3 rfl rfl (Own.cell 1 rfl rfl)) ?_
          obtain ⟨c37, hm38⟩ := ck_some hm33; clear hm33
          obtain ⟨p39, hp40⟩ := (h_p_times.le hle18).lenMap.ix (sz := 1) ln_len c37
          refine WD.q 4 rfl (by kernel_rfl) rfl rfl rfl (QV.indexSlice sl30 rfl rfl rfl rfl hp40) ?_
          refine WD.q 5 rfl (by kernel_rfl) rfl rfl rfl (QV.load pl3 rfl rfl (fun w hw => CellsAt.one 0 (((Own.karr 0 rfl hk (h_p_times.le hle18)) w hw).ele hp40 c37) rfl)) ?_
          refine WD.q 6 rfl (by kernel_rfl) rfl rfl rfl (QV.fieldAddr fd61_2 rfl rfl) ?_
          refine WD.q 7 rfl (by kernel_rfl) rfl rfl rfl (QV.load pl3 rfl rfl (Own.cell 1 rfl rfl)) ?_
          refine WD.q 8 rfl (by kernel_rfl) rfl rfl rfl (QV.fieldAddr fd63_0 rfl rfl) ?_
          refine WD.q 9 rfl (by kernel_rfl) rfl rfl rfl (QV.load pl3 rfl rfl (Own.cell 2 rfl rfl)) ?_
          obtain ⟨c41, hm42⟩ := ck_some hm38; clear hm38
          refine WD.q 10 rfl (by kernel_rfl) rfl rfl rfl (QV.mul rfl rfl rfl rfl c41) ?_
          obtain ⟨c43, hm44⟩ := ck_some hm42; clear hm42
          refine WD.q 11 rfl (by kernel_rfl) rfl rfl rfl (QV.add rfl rfl rfl rfl c43) ?_
          refine WD.q 12 rfl (by kernel_rfl) rfl rfl rfl (QV.fieldAddr fd63_1 rfl rfl) ?_
          refine WD.q 13 rfl (by kernel_rfl) rfl rfl rfl (QV.load pl30 rfl rfl (Own.cell 2 rfl rfl)) ?_
          refine WD.q 14 rfl (by kernel_rfl) rfl rfl rfl (QV.fieldAddr fd61_0 rfl rfl) ?_
          refine WD.q 15 rfl (by kernel_rfl) rfl rfl rfl (QV.load pl3 rfl rfl (Own.cell 1 rfl rfl)) ?_
          obtain ⟨c45, hm46⟩ := ck_some hm44; clear hm44
          obtain ⟨p47, hp48⟩ := (h_p_times.le hle18).lenMap.ix (sz := 1) ln_len c45
          refine WD.q 16 rfl (by kernel_rfl) rfl rfl rfl (QV.indexSlice sl30 rfl rfl rfl rfl hp48) ?_
          refine WD.q 17 rfl (by kernel_rfl) rfl rfl rfl (QV.load pl3 rfl rfl (fun w hw => CellsAt.one 0 (((Own.karr 0 rfl hk (h_p_times.le hle18)) w hw).ele hp48 c45) rfl)) ?_
          refine WD.q 18 rfl (by kernel_rfl) rfl rfl rfl (QV.fieldAddr fd61_3 rfl rfl) ?_
          refine WD.q 19 rfl (by kernel_rfl) rfl rfl rfl (QV.load pl3 rfl rfl (Own.cell 1 rfl rfl)) ?_
          obtain ⟨c49, hm50⟩ := ck_some hm46; clear hm46
          refine WD.q 20 rfl (by kernel_rfl) rfl rfl rfl (QV.add rfl rfl rfl rfl c49) ?_
          refine WD.q 21 rfl (by kernel_rfl) rfl rfl rfl (QV.lss rfl rfl rfl rfl) ?_
          refine WD.e (by kernel_rfl) ?_
          refine WQ.then ?_
          refine WC.cond rfl (fun h51 => ?_) (fun h51 => ?_)
          · skip
            have hm52 := br_t h51 hm50; clear hm50
            refine WC.seq ?_
            refine WC.region ?_
            refine WL.q rfl rfl rfl (QV.assign rfl rfl) ?_
            refine WL.nil ?_
            refine WQ.then ?_
            refine WC.ret ?_
            refine WQ.block_ret ?_
            refine WQ.then_ret ?_
            refine WQ.then_ret ?_
            refine WQ.block_ret ?_
            refine WQ.then_ret ?_
            refine WQ.then_ret ?_
            obtain rfl := up_ret hm52 hn29
            obtain rfl := (eq_of_some hm21).symm
            refine WQ.ret1 rfl rfl (fun w hw => ?_)
            exact ⟨rfl, Own.kgrow (fun _ x => x) hw⟩
          · skip
            have hm53 := br_f h51 hm50; clear hm50
            refine WC.skip ?_
            refine WQ.block ?_
            refine WQ.then ?_
            refine WC.region ?_
            refine WL.q rfl rfl rfl (QV.move rfl rfl) ?_
            obtain ⟨c54, hm55⟩ := ck_some hm53; clear hm53
            refine WL.q rfl rfl rfl (QV.add rfl rfl rfl rfl c54) ?_
            refine WL.q rfl rfl rfl (QV.assign rfl rfl) ?_
            refine WL.nil ?_
            exact WQ.again1 (i12_3 + 1) m26 (up_next hm55 hn29) (Nat.lt_succ_self _) ⟨rfl, rfl, rfl, trivial⟩ (fun w hw => hw.pick [1, 2, 3, 4] (by decide))
        · skip
          have hm56 := br_f h30 hm28; clear hm28
          refine WC.exit ?_
          refine WQ.then_exit ?_
          refine WQ.then_exit ?_
          refine WQ.block_exit ?_
          exact WQ.out1 i12_3 (up_brk hm56 hn29) ⟨rfl, rfl, rfl, trivial⟩ (fun w hw => hw.pick [0, 1, 2, 3] (by decide))
    · skip
      rintro i7_2 m57 hI58
      obtain ⟨m59, s60, rfl, hm61, hn62⟩ := iter_step hI58; clear hI58; unfold roundelayref8_Legal_L0 at hm61
      refine WC.seq ?_
      refine WC.seq ?_
      refine WC.region ?_
      refine WL.q rfl rfl rfl (QV.move rfl rfl) ?_
      refine WL.q rfl rfl rfl (QV.fieldAddr fd63_1 rfl rfl) ?_
      refine WL.q rfl rfl rfl (QV.load pl30 rfl rfl (Own.cell 0 rfl rfl)) ?_
      refine WL.q rfl rfl rfl (QV.lenS Try.underlying30 rfl rfl h_p_times.lenMap) ?_
      refine WL.q rfl rfl rfl (QV.lss rfl rfl rfl rfl) ?_
      refine WL.nil ?_
      refine WQ.then ?_
      refine WC.cond rfl (fun h63 => ?_) (fun h63 => ?_)
      · skip
        have hm64 := br_t h63 hm61; clear hm61
        refine WC.skip ?_
        refine WQ.then ?_
        refine WC.seq ?_
        refine WC.block ?_
        refine WC.seq ?_
        refine WC.seq ?_
        refine WC.region ?_
        refine WL.q rfl rfl rfl (QV.fieldAddr fd63_1 rfl rfl) ?_
        refine WL.q rfl rfl rfl (QV.load pl30 rfl rfl (Own.cell 0 rfl rfl)) ?_
        refine WL.q rfl rfl rfl (QV.move rfl rfl) ?_
        obtain ⟨c65, hm66⟩ := ck_some hm64; clear hm64
        obtain ⟨p67, hp68⟩ := h_p_times.lenMap.ix (sz := 1) ln_len c65
        refine WL.q rfl rfl rfl (QV.indexSlice sl30 rfl rfl rfl rfl hp68) ?_
        refine WL.q rfl rfl rfl (QV.load pl3 rfl rfl (fun w hw => CellsAt.one 0 (((Own.karr 3 rfl hk h_p_times) w hw).ele hp68 c65) rfl)) ?_
        refine WL.q rfl rfl rfl (QV.lss rfl rfl rfl rfl) ?_
        refine WL.q rfl rfl rfl (QV.move rfl rfl) ?_
        refine WL.g rfl rfl (GuardIs.neg rfl rfl) (fun hG => QV.fieldAddr fd63_1 rfl rfl) ?_
        refine WL.g rfl rfl (GuardIs.neg rfl rfl) (fun hG => QV.load pl30 rfl hG (Own.cell 0 rfl rfl)) ?_
        refine WL.g rfl rfl (GuardIs.neg rfl rfl) (fun hG => QV.move rfl rfl) ?_
        obtain ⟨c69, hm70⟩ := ck_some hm66; clear hm66
        obtain ⟨p71, hp72⟩ := h_p_times.lenMap.ixG (sz := 1) ln_len c69
        refine WL.g rfl rfl (GuardIs.neg rfl rfl) (fun hG => QV.indexSlice sl30 rfl hG rfl hG (hp72 hG)) ?_
        refine WL.g rfl rfl (GuardIs.neg rfl rfl) (fun hG => QV.load pl3 rfl hG (fun w hw => CellsAt.one 0 (((Own.karr 3 rfl hk h_p_times) w hw).ele (hp72 hG) (c69 hG)) rfl)) ?_
        refine WL.g rfl rfl (GuardIs.neg rfl rfl) (fun hG => QV.gtr rfl hG rfl rfl) ?_
        refine WL.q rfl rfl rfl (QV.pickOr rfl rfl rfl (fun h => notF h)) ?_
        refine WL.nil ?_
        refine WQ.then ?_
        refine WC.cond rfl (fun h73 => ?_) (fun h73 => ?_)
        · skip
          have hm74 := br_t h73 hm70; clear hm70
          refine WC.seq ?_
          refine WC.region ?_
          refine WL.q rfl rfl rfl (QV.assign rfl rfl) ?_
          refine WL.nil ?_
          refine WQ.then ?_
          refine WC.ret ?_
          refine WQ.then_ret ?_
          refine WQ.block_ret ?_
          refine WQ.then_ret ?_
          refine WQ.then_ret ?_
          refine WQ.block_ret ?_
          refine WQ.then_ret ?_
          refine WQ.then_ret ?_
          obtain rfl := up_ret hm74 hn62
          obtain rfl := (eq_of_some hm12).symm
          refine WQ.ret1 rfl rfl (fun w hw => ?_)
          exact ⟨rfl, Own.kgrow (fun _ x => x) hw⟩
        · skip
          have hm75 := br_f h73 hm70; clear hm70
          refine WC.skip ?_
          refine WQ.then ?_
          refine WC.seq ?_
          refine WC.region ?_
          refine WL.q rfl rfl rfl (QV.fieldAddr fd49_1 rfl rfl) ?_
          refine WL.q rfl rfl rfl (QV.load pl47 rfl rfl (Own.cell 2 rfl rfl)) ?_
          refine WL.q rfl rfl rfl (QV.move rfl rfl) ?_
          obtain ⟨c76, hm77⟩ := ck_some hm75; clear hm75
          obtain ⟨p78, hp79⟩ := h_l_body.lenMap.ix (sz := 9) ln_len c76
          refine WL.q rfl rfl rfl (QV.indexSlice sl47 rfl rfl rfl rfl hp79) ?_
          refine WL.q rfl rfl rfl (QV.fieldAddr fd59_0 rfl rfl) ?_
          refine WL.q rfl rfl rfl (QV.load pl3 rfl rfl (fun w hw => CellsAt.one 0 (((Own.karr 3 rfl hk h_l_body) w hw).ele hp79 c76) rfl)) ?_
          obtain ⟨x80, hx81, hm82⟩ := bd_some hm77; clear hm77
          refine WL.q rfl rfl rfl (QV.call en52 (EvAll.cons rfl rfl EvAll.nil) (fun w hw => have h := roundelayref1_Class_w w hx81 ; h)) ?_
          refine WL.q rfl rfl rfl (QV.assign rfl rfl) ?_
          refine WL.nil ?_
          refine WQ.then ?_
          refine WC.seq ?_
          refine WC.region ?_
          refine WL.q rfl rfl rfl (QV.assign rfl rfl) ?_
          refine WL.nil ?_
          refine WQ.then ?_
          refine WC.seq ?_
          refine WC.seq ?_
          refine WC.region ?_
          refine WL.q rfl rfl rfl (QV.assign rfl rfl) ?_
          refine WL.nil ?_
          refine WQ.then ?_
          obtain ⟨o83, ho84, hm85⟩ := bd_some hm82; clear hm82; obtain ⟨n86, ho87⟩ := lp_some ho84
          refine WC.bloop2 (H2 := [blk b3 [.int .i64 p.pace, v_p_times] 63, blk b2 [.int .i64 t.u0, .int .i64 t.u1, .int .i64 t.u2, .int .i64 t.w0, .int .i64 t.w1, .int .i64 t.w2, .int .i64 t.regs] 24, blk b1 [v_l_logs, v_l_body, v_l_outs] 49, kn noM w.heap.size w w]) (τ := [(3, (true, _)), (4, (true, _)), (5, (true, _)), (7, (true, _)), (8, (true, _))]) (fun (many9_4 : Int) (j10_4 : Int) => [(9, (true, .int .i64 many9_4)), (10, (true, .int .i64 j10_4))]) (fun (many9_4 : Int) (j10_4 : Int) => []) (fun (many9_4 : Int) (j10_4 : Int) (m : Nat) => iter (roundelayref8_Legal_L2 l p i7_2 x80) m (many9_4, j10_4) = some o83) (fun (many9_4 : Int) (j10_4 : Int) => o83 = .go (many9_4, j10_4)) 0 0 n86 ho87 ⟨rfl, rfl, rfl, rfl, rfl, rfl, rfl, trivial⟩ (fun w hw => hw.pick [0, 1, 2, 3] (by decide)) ?_ ?_
          · skip
            rintro many9_4 j10_4 rfl
            refine WQ.then ?_
            refine WC.seq ?_
            refine WC.region ?_
            refine WL.q rfl rfl rfl (QV.move rfl rfl) ?_
            refine WL.q rfl rfl rfl (QV.move rfl rfl) ?_
            refine WL.q rfl rfl rfl (QV.fieldAddr fd24_0 rfl rfl) ?_
            obtain ⟨c88, hm89⟩ := ck_some hm85; clear hm85
            refine WL.q rfl rfl rfl (QV.indexArray ar22 rfl rfl rfl rfl c88.1 c88.2) ?_
            refine WL.q rfl rfl rfl (QV.load pl3 rfl rfl (Own.cellSym 1 rfl (sel3_get (off := 0) (i := x80) c88.1 c88.2 rfl rfl rfl) (addr_sym _ _ _))) ?_
            refine WL.q rfl rfl rfl (QV.gtr rfl rfl rfl rfl) ?_
            refine WL.nil ?_
            refine WQ.then ?_
            refine WC.cond rfl (fun h90 => ?_) (fun h90 => ?_)
            · skip
              have hm91 := br_t h90 hm89; clear hm89
              refine WC.seq ?_
              refine WC.region ?_
              refine WL.q rfl rfl rfl (QV.assign rfl rfl) ?_
              refine WL.nil ?_
              refine WQ.then ?_
              refine WC.ret ?_
              refine WQ.block_ret ?_
              refine WQ.then_ret ?_
              refine WQ.then_ret ?_
              refine WQ.block_ret ?_
              refine WQ.then_ret ?_
              refine WQ.then_ret ?_
              obtain rfl := up_ret hm91 hn62
              obtain rfl := (eq_of_some hm12).symm
              refine WQ.ret1 rfl rfl (fun w hw => ?_)
              exact ⟨rfl, Own.kgrow (fun _ x => x) hw⟩
            · skip
              have hm92 := br_f h90 hm89; clear hm89
              refine WC.skip ?_
              refine WQ.block ?_
              refine WQ.then ?_
              refine WC.region ?_
              refine WL.q rfl rfl rfl (QV.move rfl rfl) ?_
              obtain ⟨c93, hm94⟩ := ck_some hm92; clear hm92
              refine WL.q rfl rfl rfl (QV.add rfl rfl rfl rfl c93) ?_
              refine WL.q rfl rfl rfl (QV.assign rfl rfl) ?_
              refine WL.nil ?_
              exact WQ.again1 (i7_2 + 1) m59 (up_next hm94 hn62) (Nat.lt_succ_self _) ⟨rfl, rfl, rfl, rfl, trivial⟩ (fun w hw => hw.pick [0, 1, 2, 3] (by decide))
          · skip
            rintro many9_4 j10_4 m95 hI96
            obtain ⟨m97, s98, rfl, hm99, hn100⟩ := iter_step hI96; clear hI96; unfold roundelayref8_Legal_L2 at hm99; simp only at hm99
            refine WC.seq ?_
            refine WC.seq ?_
            refine WC.region ?_
            refine WL.q rfl rfl rfl (QV.move rfl rfl) ?_
            refine WL.q rfl rfl rfl (QV.fieldAddr fd63_1 rfl rfl) ?_
            refine WL.q rfl rfl rfl (QV.load pl30 rfl rfl (Own.cell 0 rfl rfl)) ?_
            refine WL.q rfl rfl rfl (QV.lenS Try.underlying30 rfl rfl h_p_times.lenMap) ?_
            refine WL.q rfl rfl rfl (QV.lss rfl rfl rfl rfl) ?_
            refine WL.nil ?_
            refine WQ.then ?_
            refine WC.cond rfl (fun h101 => ?_) (fun h101 => ?_)
            · skip
              have hm102 := br_t h101 hm99; clear hm99
              refine WC.skip ?_
              refine WQ.then ?_
              refine WC.seq ?_
              refine WC.block ?_
              refine WC.seq ?_
              refine WC.dr (m := 28) (S := Own noM w [kn noM w.heap.size w w, blk b3 [.int .i64 p.pace, v_p_times] 63, blk b2 [.int .i64 t.u0, .int .i64 t.u1, .int .i64 t.u2, .int .i64 t.w0, .int .i64 t.w1, .int .i64 t.w2, .int .i64 t.regs] 24, blk b1 [v_l_logs, v_l_body, v_l_outs] 49]) (by kernel_rfl) (by kernel_rfl) (fun w hw => hw.pick [3, 0, 1, 2] (by decide)) ?_
              refine WD.q 0 rfl (by kernel_rfl) rfl rfl rfl (QV.fieldAddr fd63_1 rfl rfl) ?_
              refine WD.q 1 rfl (by kernel_rfl) rfl rfl rfl (QV.load pl30 rfl rfl (Own.cell 1 rfl rfl)) ?_
              refine WD.q 2 rfl (by kernel_rfl) rfl rfl rfl (QV.move rfl rfl) ?_
              obtain ⟨c103, hm104⟩ := ck_some hm102; clear hm102
              obtain ⟨p105, hp106⟩ := h_p_times.lenMap.ix (sz := 1) ln_len c103
              refine WD.q 3 rfl (by kernel_rfl) rfl rfl rfl (QV.indexSlice sl30 rfl rfl rfl rfl hp106) ?_
              refine WD.q 4 rfl (by kernel_rfl) rfl rfl rfl (QV.load pl3 rfl rfl (fun w hw => CellsAt.one 0 (((Own.karr 0 rfl hk h_p_times) w hw).ele hp106 c103) rfl)) ?_
              refine WD.q 5 rfl (by kernel_rfl) rfl rfl rfl (QV.fieldAddr fd63_0 rfl rfl) ?_
              refine WD.q 6 rfl (by kernel_rfl) rfl rfl rfl (QV.load pl3 rfl rfl (Own.cell 1 rfl rfl)) ?_
              obtain ⟨c107, hm108⟩ := ck_some hm104; clear hm104
              refine WD.q 7 rfl (by kernel_rfl) rfl rfl rfl (QV.rem rfl rfl rfl rfl c107) ?_
              refine WD.q 8 rfl (by kernel_rfl) rfl rfl rfl (QV.fieldAddr fd63_1 rfl rfl) ?_
              refine WD.q 9 rfl (by kernel_rfl) rfl rfl rfl (QV.load pl30 rfl rfl (Own.cell 1 rfl rfl)) ?_
              refine WD.q 10 rfl (by kernel_rfl) rfl rfl rfl (QV.move rfl rfl) ?_
              obtain ⟨c109, hm110⟩ := ck_some hm108; clear hm108
              obtain ⟨p111, hp112⟩ := h_p_times.lenMap.ix (sz := 1) ln_len c109
              refine WD.q 11 rfl (by kernel_rfl) rfl rfl rfl (QV.indexSlice sl30 rfl rfl rfl rfl hp112) ?_
              refine WD.q 12 rfl (by kernel_rfl) rfl rfl rfl (QV.load pl3 rfl rfl (fun w hw => CellsAt.one 0 (((Own.karr 0 rfl hk h_p_times) w hw).ele hp112 c109) rfl)) ?_
              refine WD.q 13 rfl (by kernel_rfl) rfl rfl rfl (QV.fieldAddr fd63_0 rfl rfl) ?_
              refine WD.q 14 rfl (by kernel_rfl) rfl rfl rfl (QV.load pl3 rfl rfl (Own.cell 1 rfl rfl)) ?_
              obtain ⟨c113, hm114⟩ := ck_some hm110; clear hm110
              refine WD.q 15 rfl (by kernel_rfl) rfl rfl rfl (QV.rem rfl rfl rfl rfl c113) ?_
              refine WD.q 16 rfl (by kernel_rfl) rfl rfl rfl (QV.eql rfl rfl rfl rfl) ?_
              refine WD.q 17 rfl (by kernel_rfl) rfl rfl rfl (QV.move rfl rfl) ?_
              refine WD.g 18 rfl (by kernel_rfl) rfl rfl (GuardIs.pos rfl rfl) (fun hG => QV.fieldAddr fd49_1 rfl rfl) ?_
              refine WD.g 19 rfl (by kernel_rfl) rfl rfl (GuardIs.pos rfl rfl) (fun hG => QV.load pl47 rfl hG (Own.cell 3 rfl rfl)) ?_
              refine WD.g 20 rfl (by kernel_rfl) rfl rfl (GuardIs.pos rfl rfl) (fun hG => QV.move rfl rfl) ?_
              obtain ⟨c115, hm116⟩ := ck_some hm114; clear hm114
              obtain ⟨p117, hp118⟩ := h_l_body.lenMap.ixG (sz := 9) ln_len c115
              refine WD.g 21 rfl (by kernel_rfl) rfl rfl (GuardIs.pos rfl rfl) (fun hG => QV.indexSlice sl47 rfl hG rfl hG (hp118 hG)) ?_
              refine WD.g 22 rfl (by kernel_rfl) rfl rfl (GuardIs.pos rfl rfl) (fun hG => QV.fieldAddr fd59_0 rfl hG) ?_
              refine WD.g 23 rfl (by kernel_rfl) rfl rfl (GuardIs.pos rfl rfl) (fun hG => QV.load pl3 rfl hG (fun w hw => CellsAt.one 0 (((Own.karr 0 rfl hk h_l_body) w hw).ele (hp118 hG) (c115 hG)) rfl)) ?_
              obtain ⟨x119, hx120, hm121⟩ := bdG_some hm116; clear hm116
              refine WD.g 24 rfl (by kernel_rfl) rfl rfl (GuardIs.pos rfl rfl) (fun hG => QV.call en52 (EvAll.cons rfl hG EvAll.nil) (fun w hw => have h := roundelayref1_Class_w w (hx120 hG) ; h)) ?_
              refine WD.g 25 rfl (by kernel_rfl) rfl rfl (GuardIs.pos rfl rfl) (fun hG => QV.move rfl rfl) ?_
              refine WD.g 26 rfl (by kernel_rfl) rfl rfl (GuardIs.pos rfl rfl) (fun hG => QV.eql rfl hG rfl hG) ?_
              refine WD.q 27 rfl (by kernel_rfl) rfl rfl rfl (QV.pickAnd rfl rfl rfl (fun h => h)) ?_
              refine WD.e (by kernel_rfl) ?_
              refine WQ.then ?_
              refine WC.cond rfl (fun h122 => ?_) (fun h122 => ?_)
              · skip
                have hm123 := br_t h122 hm121; clear hm121
                refine WC.region ?_
                refine WL.q rfl rfl rfl (QV.move rfl rfl) ?_
                obtain ⟨c124, hm125⟩ := ck_some hm123; clear hm123
                refine WL.q rfl rfl rfl (QV.add rfl rfl rfl rfl c124) ?_
                refine WL.q rfl rfl rfl (QV.assign rfl rfl) ?_
                refine WL.nil ?_
                refine WQ.block ?_
                refine WQ.then ?_
                refine WC.region ?_
                refine WL.q rfl rfl rfl (QV.move rfl rfl) ?_
                obtain ⟨c126, hm127⟩ := ck_some hm125; clear hm125
                refine WL.q rfl rfl rfl (QV.add rfl rfl rfl rfl c126) ?_
                refine WL.q rfl rfl rfl (QV.assign rfl rfl) ?_
                refine WL.nil ?_
                exact WQ.again2 (many9_4 + 1) (j10_4 + 1) m97 (up_next hm127 hn100) (Nat.lt_succ_self _) ⟨rfl, rfl, rfl, rfl, rfl, rfl, rfl, trivial⟩ (fun w hw => hw.pick [0, 1, 2, 3] (by decide))
              · skip
                have hm128 := br_f h122 hm121; clear hm121
                refine WC.skip ?_
                refine WQ.block ?_
                refine WQ.then ?_
                refine WC.region ?_
                refine WL.q rfl rfl rfl (QV.move rfl rfl) ?_
                obtain ⟨c129, hm130⟩ := ck_some hm128; clear hm128
                refine WL.q rfl rfl rfl (QV.add rfl rfl rfl rfl c129) ?_
                refine WL.q rfl rfl rfl (QV.assign rfl rfl) ?_
                refine WL.nil ?_
                exact WQ.again2 many9_4 (j10_4 + 1) m97 (up_next hm130 hn100) (Nat.lt_succ_self _) ⟨rfl, rfl, rfl, rfl, rfl, rfl, rfl, trivial⟩ (fun w hw => hw.pick [0, 1, 2, 3] (by decide))
            · skip
              have hm131 := br_f h101 hm99; clear hm99
              refine WC.exit ?_
              refine WQ.then_exit ?_
              refine WQ.then_exit ?_
              refine WQ.block_exit ?_
              exact WQ.out2 many9_4 j10_4 (up_brk hm131 hn100) ⟨rfl, rfl, rfl, rfl, rfl, rfl, rfl, trivial⟩ (fun w hw => hw.pick [0, 1, 2, 3] (by decide))
      · skip
        have hm132 := br_f h63 hm61; clear hm61
        refine WC.exit ?_
        refine WQ.then_exit ?_
        refine WQ.then_exit ?_
        refine WQ.block_exit ?_
        exact WQ.out1 i7_2 (up_brk hm132 hn62) ⟨rfl, rfl, rfl, rfl, trivial⟩ (fun w hw => hw.pick [0, 1, 2, 3] (by decide))

set_option maxRecDepth 8000 in
theorem roundelayref8_All_w {v_l_logs : Value} {v_l_body : Value} {v_l_outs : Value} {l : Lp} {t : Tgt} {r : Int} (w : World) (hm : roundelayref8_All_m l t = some r) (h_l_logs : Arr w v_l_logs 1 (l.logs.map icell)) (h_l_body : Arr w v_l_body 9 (l.body.map Stm.cells)) (h_l_outs : Arr w v_l_outs 1 (l.outs.map icell)) : Calls Try.prog 36 #[.agg #[v_l_logs, v_l_body, v_l_outs], .agg #[.int .i64 t.u0, .int .i64 t.u1, .int .i64 t.u2, .int .i64 t.w0, .int .i64 t.w1, .int .i64 t.w2, .int .i64 t.regs]] w (fun e w' => e = .returned (.int .i64 r) ∧ Grow w w') := by
  unfold roundelayref8_All_m at hm
  have hk := Base.rfl (w := w)
  refine calls_of_WC (n := 27) (args := [.agg #[v_l_logs, v_l_body, v_l_outs], .agg #[.int .i64 t.u0, .int .i64 t.u1, .int .i64 t.u2, .int .i64 t.w0, .int .i64 t.w1, .int .i64 t.w2, .int .i64 t.regs]]) Try.func36 rfl rfl (Nat.le_of_ble_eq_true rfl) ?_ (Own.startK hk (Own.start w))
  refine WC.seq ?_
  refine WC.region ?_
  refine WL.effect rfl ?_
  refine (EV.boxAgg (by decide) rfl rfl (fun b1 => ?_))
  refine WL.effect rfl ?_
  refine (EV.boxAgg (by decide) rfl rfl (fun b2 => ?_))
  refine WL.q rfl rfl rfl (QV.assign rfl rfl) ?_
  refine WL.nil ?_
  refine WQ.then ?_
  refine WC.seq ?_
  refine WC.region ?_
  refine WL.q rfl rfl rfl (QV.assign rfl rfl) ?_
  refine WL.nil ?_
  refine WQ.then ?_
  refine WC.seq ?_
  refine WC.seq ?_
  refine WC.region ?_
  refine WL.q rfl rfl rfl (QV.assign rfl rfl) ?_
  refine WL.nil ?_
  refine WQ.then ?_
  obtain ⟨o3, ho4, hm5⟩ := bd_some hm; clear hm; obtain ⟨n6, ho7⟩ := lp_some ho4
  refine WC.bloop2 (H2 := [blk b2 [.int .i64 t.u0, .int .i64 t.u1, .int .i64 t.u2, .int .i64 t.w0, .int .i64 t.w1, .int .i64 t.w2, .int .i64 t.regs] 24, blk b1 [v_l_logs, v_l_body, v_l_outs] 49, kn noM w.heap.size w w]) (τ := [(2, (true, _)), (3, (true, _))]) (fun (n5_1 : Int) (i6_1 : Int) => [(5, (true, .int .i64 n5_1)), (6, (true, .int .i64 i6_1))]) (fun (n5_1 : Int) (i6_1 : Int) => []) (fun (n5_1 : Int) (i6_1 : Int) (m : Nat) => iter (roundelayref8_All_L0 l t) m (n5_1, i6_1) = some o3) (fun (n5_1 : Int) (i6_1 : Int) => o3 = .go (n5_1, i6_1)) 0 0 n6 ho7 ⟨rfl, rfl, rfl, rfl, trivial⟩ (fun w hw => hw.pick [0, 1, 2] (by decide)) ?_ ?_
  · skip
    rintro n5_1 i6_1 rfl
    refine WQ.then ?_
    refine WC.seq ?_
    refine WC.region ?_
    refine WL.q rfl rfl rfl (QV.move rfl rfl) ?_
    refine WL.q rfl rfl rfl (QV.assign rfl rfl) ?_
    refine WL.nil ?_
    refine WQ.then ?_
    refine WC.ret ?_
    obtain rfl := (eq_of_some hm5).symm
    refine WQ.ret1 rfl rfl (fun w hw => ?_)
    exact ⟨rfl, Own.kgrow (fun _ x => x) hw⟩
  · skip
    rintro n5_1 i6_1 m8 hI9
    obtain ⟨m10, s11, rfl, hm12, hn13⟩ := iter_step hI9; clear hI9; unfold roundelayref8_All_L0 at hm12; simp only at hm12
    refine WC.seq ?_
    refine WC.seq ?_
    refine WC.region ?_
    refine WL.q rfl rfl rfl (QV.move rfl rfl) ?_
    refine WL.q rfl rfl rfl (QV.fieldAddr fd49_1 rfl rfl) ?_
    refine WL.q rfl rfl rfl (QV.load pl47 rfl rfl (Own.cell 1 rfl rfl)) ?_
    refine WL.q rfl rfl rfl (QV.lenS Try.underlying47 rfl rfl h_l_body.lenMap) ?_
    refine WL.q rfl rfl rfl (QV.lss rfl rfl rfl rfl) ?_
    refine WL.nil ?_
    refine WQ.then ?_
    refine WC.cond rfl (fun h14 => ?_) (fun h14 => ?_)
    · skip
      have hm15 := br_t h14 hm12; clear hm12
      refine WC.skip ?_
      refine WQ.then ?_
      refine WC.seq ?_
      refine WC.block ?_
      refine WC.seq ?_
      refine WC.dr (m := 9) (S := Own noM w [kn noM w.heap.size w w, blk b2 [.int .i64 t.u0, .int .i64 t.u1, .int .i64 t.u2, .int .i64 t.w0, .int .i64 t.w1, .int .i64 t.w2, .int .i64 t.regs] 24, blk b1 [v_l_logs, v_l_body, v_l_outs] 49]) (by kernel_rfl) (by kernel_rfl) (fun w hw => hw.pick [2, 0, 1] (by decide)) ?_
      refine WD.q 0 rfl (by kernel_rfl) rfl rfl rfl (QV.loadAgg ag24 rfl rfl rfl (Own.cellsBlk 1 rfl)) ?_
      refine WD.q 1 rfl (by kernel_rfl) rfl rfl rfl (QV.fieldAddr fd49_1 rfl rfl) ?_
      refine WD.q 2 rfl (by kernel_rfl) rfl rfl rfl (QV.load pl47 rfl rfl (Own.cell 2 rfl rfl)) ?_
      refine WD.q 3 rfl (by kernel_rfl) rfl rfl rfl (QV.move rfl rfl) ?_
      obtain ⟨c16, hm17⟩ := ck_some hm15; clear hm15
      obtain ⟨p18, hp19⟩ := h_l_body.lenMap.ix (sz := 9) ln_len c16
      refine WD.q 4 rfl (by kernel_rfl) rfl rfl rfl (QV.indexSlice sl47 rfl rfl rfl rfl hp19) ?_
      refine WD.q 5 rfl (by kernel_rfl) rfl rfl rfl (QV.fieldAddr fd59_0 rfl rfl) ?_
      refine WD.q 6 rfl (by kernel_rfl) rfl rfl rfl (QV.load pl3 rfl rfl (fun w hw => CellsAt.one 0 (((Own.karr 0 rfl hk h_l_body) w hw).ele hp19 c16) rfl)) ?_
      obtain ⟨x20, hx21, hm22⟩ := bd_some hm17; clear hm17
      refine WD.q 7 rfl (by kernel_rfl) rfl rfl rfl (QV.call en78 (EvAll.cons rfl rfl (EvAll.cons rfl rfl EvAll.nil)) (fun w hw => have h := roundelayref4_Wait_w w hx21 ; h)) ?_
      refine WD.q 8 rfl (by kernel_rfl) rfl rfl rfl (QV.assign rfl rfl) ?_
      refine WD.e (by kernel_rfl) ?_
      refine WQ.then ?_
      refine WC.region ?_
      refine WL.q rfl rfl rfl (QV.move rfl rfl) ?_
      refine WL.q rfl rfl rfl (QV.move rfl rfl) ?_
      obtain ⟨c23, hm24⟩ := ck_some hm22; clear hm22
      refine WL.q rfl rfl rfl (QV.add rfl rfl rfl rfl c23) ?_
      refine WL.q rfl rfl rfl (QV.assign rfl rfl) ?_
      refine WL.nil ?_
      refine WQ.block ?_
      refine WQ.then ?_
      refine WC.region ?_
      refine WL.q rfl rfl rfl (QV.move rfl rfl) ?_
      obtain ⟨c25, hm26⟩ := ck_some hm24; clear hm24
      refine WL.q rfl rfl rfl (QV.add rfl rfl rfl rfl c25) ?_
      refine WL.q rfl rfl rfl (QV.assign rfl rfl) ?_
      refine WL.nil ?_
      exact WQ.again2 (n5_1 + x20) (i6_1 + 1) m10 (up_next hm26 hn13) (Nat.lt_succ_self _) ⟨rfl, rfl, rfl, rfl, trivial⟩ (fun w hw => hw.pick [0, 1, 2] (by decide))
    · skip
      have hm27 := br_f h14 hm12; clear hm12
      refine WC.exit ?_
      refine WQ.then_exit ?_
      refine WQ.then_exit ?_
      refine WQ.block_exit ?_
      exact WQ.out2 n5_1 i6_1 (up_brk hm27 hn13) ⟨rfl, rfl, rfl, rfl, trivial⟩ (fun w hw => hw.pick [0, 1, 2] (by decide))
end Go.Proofs.Ytaimbkndebaaiab
end

section
namespace Go.Proofs.Ytaimbkndebaaiab
open Go.Rd
set_option linter.unusedVariables false
namespace TLawMake
theorem ag24 : AggT Try.prog 24 7 := ⟨_, Try.underlying24, rfl, by kernel_rfl⟩
theorem ag49 : AggT Try.prog 49 3 := ⟨_, Try.underlying49, rfl, by kernel_rfl⟩
theorem ag63 : AggT Try.prog 63 2 := ⟨_, Try.underlying63, rfl, by kernel_rfl⟩
theorem en24 : Go.Rd.Enters Try.prog 24 := ⟨Try.f24, Try.func24, by kernel_rfl, by kernel_rfl⟩
theorem en28 : Go.Rd.Enters Try.prog 28 := ⟨Try.f28, Try.func28, by kernel_rfl, by kernel_rfl⟩
theorem en35 : Go.Rd.Enters Try.prog 35 := ⟨Try.f35, Try.func35, by kernel_rfl, by kernel_rfl⟩
theorem en36 : Go.Rd.Enters Try.prog 36 := ⟨Try.f36, Try.func36, by kernel_rfl, by kernel_rfl⟩
theorem fd63_0 : FieldT Try.prog 63 0 0 := ⟨_, _, 0, Try.underlying63, rfl, rfl, by kernel_rfl⟩
theorem fd63_1 : FieldT Try.prog 63 1 1 := ⟨_, _, 0, Try.underlying63, rfl, rfl, by kernel_rfl⟩
theorem pl3 : Plain Try.prog 3 := ⟨_, Try.underlying3, rfl⟩
theorem pl30 : Plain Try.prog 30 := ⟨_, Try.underlying30, rfl⟩
theorem sz63 : SizeT Try.prog 63 2 := by unfold SizeT; kernel_rfl
theorem ze63 : ZeroT Try.prog 63 [.int .i64 0, .slice none 0 0] := by unfold ZeroT; kernel_rfl
end TLawMake
open TLawMake
set_option maxRecDepth 8000 in
theorem roundelaylaw_SchedMakes_w {v_l_logs : Value} {v_l_body : Value} {v_l_outs : Value} {l : Lp} {t : Tgt} {least : Int} {r : Bool} (w : World) (hm : roundelaylaw_SchedMakes_m l t least = some r) (h_l_logs : Arr w v_l_logs 1 (l.logs.map icell)) (h_l_body : Arr w v_l_body 9 (l.body.map Stm.cells)) (h_l_outs : Arr w v_l_outs 1 (l.outs.map icell)) : Calls Try.prog 11 #[.agg #[v_l_logs, v_l_body, v_l_outs], .agg #[.int .i64 t.u0, .int .i64 t.u1, .int .i64 t.u2, .int .i64 t.w0, .int .i64 t.w1, .int .i64 t.w2, .int .i64 t.regs], .int .i64 least] w (fun e w' => e = .returned (.bool r) ∧ Grow w w') := by
  unfold roundelaylaw_SchedMakes_m at hm
  have hk := Base.rfl (w := w)
  refine calls_of_WC (n := 76) (args := [.agg #[v_l_logs, v_l_body, v_l_outs], .agg #[.int .i64 t.u0, .int .i64 t.u1, .int .i64 t.u2, .int .i64 t.w0, .int .i64 t.w1, .int .i64 t.w2, .int .i64 t.regs], .int .i64 least]) Try.func11 rfl rfl (Nat.le_of_ble_eq_true rfl) ?_ (Own.startK hk (Own.start w))
  refine WC.seq ?_
  refine WC.region ?_
  refine WL.effect rfl ?_
  refine (EV.boxAgg (by decide) rfl rfl (fun b1 => ?_))
  refine WL.effect rfl ?_
  refine (EV.boxAgg (by decide) rfl rfl (fun b2 => ?_))
  refine WL.q rfl rfl rfl (QV.assign rfl rfl) ?_
  refine WL.nil ?_
  refine WQ.then ?_
  refine WC.seq ?_
  refine WC.region ?_
  refine WL.q rfl rfl rfl (QV.loadAgg ag49 rfl rfl rfl (Own.cellsBlk 1 rfl)) ?_
  refine WL.q rfl rfl rfl (QV.loadAgg ag24 rfl rfl rfl (Own.cellsBlk 0 rfl)) ?_
  refine WL.q rfl rfl rfl (QV.move rfl rfl) ?_
  refine WL.effect rfl ?_
  obtain ⟨x3, hx4, hm5⟩ := bd_some hm; clear hm
  refine EV.of (C' := Own noM w [kn noM w.heap.size w w, blk b2 [.int .i64 t.u0, .int .i64 t.u1, .int .i64 t.u2, .int .i64 t.w0, .int .i64 t.w1, .int .i64 t.w2, .int .i64 t.regs] 24, blk b1 [v_l_logs, v_l_body, v_l_outs] 49]) (fun w hw => hw.pick [2, 0, 1] (by decide)) ?_
  refine (EV.callR (X := Value × World) (R := []) (fun X => .tuple #[.agg #[.int .i64 x3.1.pace, X.1], .int .i64 x3.2]) (fun X => []) (fun X => X.2) (fun X => Arr X.2 X.1 1 (x3.1.times.map icell)) hk (fun _ h => by cases h; decide) en35 (EvAll.cons rfl rfl (EvAll.cons rfl rfl (EvAll.cons rfl rfl EvAll.nil))) (fun M w h1 h2 => have h := sched_Make_w hx4 h_l_logs h_l_body h_l_outs M w h1 h2; h) (fun X6 hF6 hle6 => ?_))
  refine WL.q rfl rfl rfl (QV.move rfl rfl) ?_
  refine WL.q rfl rfl rfl (QV.extract rfl rfl rfl) ?_
  refine WL.q rfl rfl rfl (QV.extract rfl rfl rfl) ?_
  refine WL.effect rfl ?_
  refine (EV.alloc (by decide) ze63 (fun b7 => ?_))
  refine WL.effect rfl ?_
  refine (EV.store 0 rfl rfl rfl rfl rfl rfl (vs := [.int .i64 x3.1.pace, X6.1]) (show Value.cells _ = List.toArray _ from rfl) sz63 (Nat.le_of_ble_eq_true rfl) (one_cons rfl (one_cons (SliceLen.one hF6.lenMap) one_nil)) ?_)
  refine WL.q rfl rfl rfl (QV.assign rfl rfl) ?_
  refine WL.nil ?_
  refine WQ.then ?_
  refine WC.seq ?_
  refine WC.seq ?_
  refine WC.region ?_
  refine WL.q rfl rfl rfl (QV.loadAgg ag49 rfl rfl rfl (Own.cellsBlk 3 rfl)) ?_
  refine WL.q rfl rfl rfl (QV.loadAgg ag24 rfl rfl rfl (Own.cellsBlk 2 rfl)) ?_
  obtain ⟨x8, hx9, hm10⟩ := bd_some hm5; clear hm5
  refine WL.q rfl rfl rfl (QV.call en24 (EvAll.cons rfl rfl (EvAll.cons rfl rfl EvAll.nil)) (fun w hw => have h := roundelayref6_May_w w hx9 ((Own.karr 1 rfl hk (h_l_logs.le hle6)) w hw) ((Own.karr 1 rfl hk (h_l_body.le hle6)) w hw) ((Own.karr 1 rfl hk (h_l_outs.le hle6)) w hw); h)) ?_
  refine WL.q rfl rfl rfl (QV.not rfl rfl) ?_
  refine WL.nil ?_
  refine WQ.then ?_
  refine WC.cond rfl (fun h11 => ?_) (fun h11 => ?_)
  · skip
    have hm12 := br_t h11 hm10; clear hm10
    refine WC.seq ?_
    refine WC.region ?_
    refine WL.q rfl rfl rfl (QV.move rfl rfl) ?_
    refine WL.q rfl rfl rfl (QV.eql rfl rfl rfl rfl) ?_
    refine WL.q rfl rfl rfl (QV.move rfl rfl) ?_
    refine WL.g rfl rfl (GuardIs.pos rfl rfl) (fun hG => QV.fieldAddr fd63_0 rfl rfl) ?_
    refine WL.g rfl rfl (GuardIs.pos rfl rfl) (fun hG => QV.load pl3 rfl hG (Own.cell 0 rfl rfl)) ?_
    refine WL.g rfl rfl (GuardIs.pos rfl rfl) (fun hG => QV.eql rfl hG rfl rfl) ?_
    refine WL.q rfl rfl rfl (QV.pickAnd rfl rfl rfl (fun h => h)) ?_
    refine WL.q rfl rfl rfl (QV.move rfl rfl) ?_
    refine WL.g rfl rfl (GuardIs.pos rfl rfl) (fun hG => QV.fieldAddr fd63_1 rfl rfl) ?_
    refine WL.g rfl rfl (GuardIs.pos rfl rfl) (fun hG => QV.load pl30 rfl hG (Own.cell 0 rfl rfl)) ?_
    refine WL.g rfl rfl (GuardIs.pos rfl rfl) (fun hG => QV.lenS Try.underlying30 rfl hG hF6.lenMap) ?_
    refine WL.g rfl rfl (GuardIs.pos rfl rfl) (fun hG => QV.eql rfl hG rfl rfl) ?_
    refine WL.q rfl rfl rfl (QV.pickAnd rfl rfl rfl (fun h => h)) ?_
    refine WL.q rfl rfl rfl (QV.assign rfl rfl) ?_
    refine WL.nil ?_
    refine WQ.then ?_
    refine WC.ret ?_
    refine WQ.then_ret ?_
    obtain rfl := (eq_of_some hm12).symm
    refine WQ.ret1 rfl rfl (fun w hw => ?_)
    exact ⟨rfl, Own.kgrow (fun _ x => x) hw⟩
  · skip
    have hm13 := br_f h11 hm10; clear hm10
    refine WC.skip ?_
    refine WQ.then ?_
    refine WC.seq ?_
    refine WC.seq ?_
    refine WC.region ?_
    refine WL.q rfl rfl rfl (QV.move rfl rfl) ?_
    refine WL.q rfl rfl rfl (QV.lss rfl rfl rfl rfl) ?_
    refine WL.q rfl rfl rfl (QV.move rfl rfl) ?_
    refine WL.g rfl rfl (GuardIs.neg rfl rfl) (fun hG => QV.move rfl rfl) ?_
    refine WL.g rfl rfl (GuardIs.neg rfl rfl) (fun hG => QV.gtr rfl hG rfl rfl) ?_
    refine WL.q rfl rfl rfl (QV.pickOr rfl rfl rfl (fun h => notF h)) ?_
    refine WL.nil ?_
    refine WQ.then ?_
    refine WC.cond rfl (fun h14 => ?_) (fun h14 => ?_)
    · skip
      have hm15 := br_t h14 hm13; clear hm13
      refine WC.seq ?_
      refine WC.region ?_
      refine WL.q rfl rfl rfl (QV.move rfl rfl) ?_
      refine WL.q rfl rfl rfl (QV.eql rfl rfl rfl rfl) ?_
      refine WL.q rfl rfl rfl (QV.move rfl rfl) ?_
      refine WL.g rfl rfl (GuardIs.pos rfl rfl) (fun hG => QV.fieldAddr fd63_0 rfl rfl) ?_
      refine WL.g rfl rfl (GuardIs.pos rfl rfl) (fun hG => QV.load pl3 rfl hG (Own.cell 0 rfl rfl)) ?_
      refine WL.g rfl rfl (GuardIs.pos rfl rfl) (fun hG => QV.eql rfl hG rfl rfl) ?_
      refine WL.q rfl rfl rfl (QV.pickAnd rfl rfl rfl (fun h => h)) ?_
      refine WL.q rfl rfl rfl (QV.move rfl rfl) ?_
      refine WL.g rfl rfl (GuardIs.pos rfl rfl) (fun hG => QV.fieldAddr fd63_1 rfl rfl) ?_
      refine WL.g rfl rfl (GuardIs.pos rfl rfl) (fun hG => QV.load pl30 rfl hG (Own.cell 0 rfl rfl)) ?_
      refine WL.g rfl rfl (GuardIs.pos rfl rfl) (fun hG => QV.lenS Try.underlying30 rfl hG hF6.lenMap) ?_
      refine WL.g rfl rfl (GuardIs.pos rfl rfl) (fun hG => QV.eql rfl hG rfl rfl) ?_
      refine WL.q rfl rfl rfl (QV.pickAnd rfl rfl rfl (fun h => h)) ?_
      refine WL.q rfl rfl rfl (QV.assign rfl rfl) ?_
      refine WL.nil ?_
      refine WQ.then ?_
      refine WC.ret ?_
      refine WQ.then_ret ?_
      obtain rfl := (eq_of_some hm15).symm
      refine WQ.ret1 rfl rfl (fun w hw => ?_)
      exact ⟨rfl, Own.kgrow (fun _ x => x) hw⟩
    · skip
      have hm16 := br_f h14 hm13; clear hm13
      refine WC.skip ?_
      refine WQ.then ?_
      refine WC.seq ?_
      refine WC.dr (m := 25) (S := Own noM w [kn noM w.heap.size w X6.2, blk b7 [.int .i64 x3.1.pace, X6.1] 63, blk b2 [.int .i64 t.u0, .int .i64 t.u1, .int .i64 t.u2, .int .i64 t.w0, .int .i64 t.w1, .int .i64 t.w2, .int .i64 t.regs] 24, blk b1 [v_l_logs, v_l_body, v_l_outs] 49]) (by kernel_rfl) (by kernel_rfl) (fun w hw => hw.pick [1, 0, 2, 3] (by decide)) ?_
      refine WD.q 0 rfl (by kernel_rfl) rfl rfl rfl (QV.move rfl rfl) ?_
      refine WD.q 1 rfl (by kernel_rfl) rfl rfl rfl (QV.eql rfl rfl rfl rfl) ?_
      refine WD.q 2 rfl (by kernel_rfl) rfl rfl rfl (QV.move rfl rfl) ?_
      refine WD.g 3 rfl (by kernel_rfl) rfl rfl (GuardIs.pos rfl rfl) (fun hG => QV.loadAgg ag49 rfl rfl rfl (Own.cellsBlk 3 rfl)) ?_
      refine WD.g 4 rfl (by kernel_rfl) rfl rfl (GuardIs.pos rfl rfl) (fun hG => QV.loadAgg ag24 rfl rfl rfl (Own.cellsBlk 2 rfl)) ?_
      refine WD.g 5 rfl (by kernel_rfl) rfl rfl (GuardIs.pos rfl rfl) (fun hG => QV.loadAgg ag63 rfl rfl rfl (Own.cellsBlk 1 rfl)) ?_
      obtain ⟨x17, hx18, hm19⟩ := bdG_some hm16; clear hm16
      refine WD.g 6 rfl (by kernel_rfl) rfl rfl (GuardIs.pos rfl rfl) (fun hG => QV.call en28 (EvAll.cons rfl hG (EvAll.cons rfl hG (EvAll.cons rfl hG EvAll.nil))) (fun w hw => have h := roundelayref8_Legal_w w (hx18 hG) ((Own.karr 0 rfl hk (h_l_logs.le hle6)) w hw) ((Own.karr 0 rfl hk (h_l_body.le hle6)) w hw) ((Own.karr 0 rfl hk (h_l_outs.le hle6)) w hw) ((Own.karr 0 rfl hk hF6) w hw); h)) ?_
      refine WD.q 7 rfl (by kernel_rfl) rfl rfl rfl (QV.pickAnd rfl rfl rfl (fun h => h)) ?_
      refine WD.q 8 rfl (by kernel_rfl) rfl rfl rfl (QV.move rfl rfl) ?_
      refine WD.g 9 rfl (by kernel_rfl) rfl rfl (GuardIs.pos rfl rfl) (fun hG => QV.fieldAddr fd63_0 rfl rfl) ?_
      refine WD.g 10 rfl (by kernel_rfl) rfl rfl (GuardIs.pos rfl rfl) (fun hG => QV.load pl3 rfl hG (Own.cell 1 rfl rfl)) ?_
      refine WD.g 11 rfl (by kernel_rfl) rfl rfl (GuardIs.pos rfl rfl) (fun hG => QV.move rfl rfl) ?_
      refine WD.g 12 rfl (by kernel_rfl) rfl rfl (GuardIs.pos rfl rfl) (fun hG => QV.geq rfl hG rfl hG) ?_
      refine WD.q 13 rfl (by kernel_rfl) rfl rfl rfl (QV.pickAnd rfl rfl rfl (fun h => h)) ?_
      refine WD.q 14 rfl (by kernel_rfl) rfl rfl rfl (QV.move rfl rfl) ?_
      refine WD.g 15 rfl (by kernel_rfl) rfl rfl (GuardIs.pos rfl rfl) (fun hG => QV.fieldAddr fd63_0 rfl rfl) ?_
      refine WD.g 16 rfl (by kernel_rfl) rfl rfl (GuardIs.pos rfl rfl) (fun hG => QV.load pl3 rfl hG (Own.cell 1 rfl rfl)) ?_
      refine WD.g 17 rfl (by kernel_rfl) rfl rfl (GuardIs.pos rfl rfl) (fun hG => QV.move rfl rfl) ?_
      refine WD.g 18 rfl (by kernel_rfl) rfl rfl (GuardIs.pos rfl rfl) (fun hG => QV.loadAgg ag49 rfl rfl rfl (Own.cellsBlk 3 rfl)) ?_
      refine WD.g 19 rfl (by kernel_rfl) rfl rfl (GuardIs.pos rfl rfl) (fun hG => QV.loadAgg ag24 rfl rfl rfl (Own.cellsBlk 2 rfl)) ?_
      obtain ⟨x20, hx21, hm22⟩ := bdG_some hm19; clear hm19
      refine WD.g 20 rfl (by kernel_rfl) rfl rfl (GuardIs.pos rfl rfl) (fun hG => QV.call en36 (EvAll.cons rfl hG (EvAll.cons rfl hG EvAll.nil)) (fun w hw => have h := roundelayref8_All_w w (hx21 hG) ((Own.karr 0 rfl hk (h_l_logs.le hle6)) w hw) ((Own.karr 0 rfl hk (h_l_body.le hle6)) w hw) ((Own.karr 0 rfl hk (h_l_outs.le hle6)) w hw); h)) ?_
      refine WD.g 21 rfl (by kernel_rfl) rfl rfl (GuardIs.pos rfl rfl) (fun hG => QV.max2 rfl hG rfl hG) ?_
      refine WD.g 22 rfl (by kernel_rfl) rfl rfl (GuardIs.pos rfl rfl) (fun hG => QV.leq rfl hG rfl hG) ?_
      refine WD.q 23 rfl (by kernel_rfl) rfl rfl rfl (QV.pickAnd rfl rfl rfl (fun h => h)) ?_
      refine WD.q 24 rfl (by kernel_rfl) rfl rfl rfl (QV.assign rfl rfl) ?_
      refine WD.e (by kernel_rfl) ?_
      refine WQ.then ?_
      refine WC.ret ?_
      obtain rfl := (eq_of_some hm22).symm
      refine WQ.ret1 rfl rfl (fun w hw => ?_)
      exact ⟨rfl, Own.kgrow (fun _ x => x) hw⟩
end Go.Proofs.Ytaimbkndebaaiab
end
