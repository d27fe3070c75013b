/- Walks: the functions do what the models say. -/
import Derived.Test.YtaimbkndebaaiabMSched1
import Derived.Test.YtaimbkndebaaiabProg
import Derived.Test.YtaimbkndebaaiabWDep
import Derived.KernelRfl
namespace Go.Proofs.Ytaimbkndebaaiab
open Go.Rd
set_option linter.unusedVariables false
set_option linter.unusedSimpArgs false
namespace TSched1
theorem ag24 : AggT Try.prog 24 7 := ⟨_, Try.underlying24, rfl, by kernel_rfl⟩
theorem ag49 : AggT Try.prog 49 3 := ⟨_, Try.underlying49, rfl, by kernel_rfl⟩
theorem ag61 : AggT Try.prog 61 4 := ⟨_, Try.underlying61, rfl, by kernel_rfl⟩
theorem ag63 : AggT Try.prog 63 2 := ⟨_, Try.underlying63, rfl, by kernel_rfl⟩
theorem ag90 : AggT Try.prog 90 2 := ⟨_, Try.underlying90, rfl, by kernel_rfl⟩
theorem ar22 : ArrayT Try.prog 22 3 1 := ⟨_, Try.underlying22, by kernel_rfl⟩
theorem ar90 : ArrayT Try.prog 90 2 1 := ⟨_, Try.underlying90, by kernel_rfl⟩
theorem en23 : Go.Rd.Enters Try.prog 23 := ⟨Try.f23, Try.func23, by kernel_rfl, by kernel_rfl⟩
theorem en48 : Go.Rd.Enters Try.prog 48 := ⟨Try.f48, Try.func48, by kernel_rfl, by kernel_rfl⟩
theorem en70 : Go.Rd.Enters Try.prog 70 := ⟨Try.f70, Try.func70, by kernel_rfl, by kernel_rfl⟩
theorem fd24_0 : FieldT Try.prog 24 0 0 := ⟨_, _, 2, Try.underlying24, rfl, rfl, by kernel_rfl⟩
theorem fd49_1 : FieldT Try.prog 49 1 1 := ⟨_, _, 0, Try.underlying49, rfl, rfl, by kernel_rfl⟩
theorem fd59_0 : FieldT Try.prog 59 0 0 := ⟨_, _, 0, Try.underlying59, rfl, rfl, by kernel_rfl⟩
theorem fd61_0 : FieldT Try.prog 61 0 0 := ⟨_, _, 0, Try.underlying61, rfl, rfl, by kernel_rfl⟩
theorem fd61_1 : FieldT Try.prog 61 1 1 := ⟨_, _, 0, Try.underlying61, rfl, rfl, by kernel_rfl⟩
theorem fd61_2 : FieldT Try.prog 61 2 2 := ⟨_, _, 0, Try.underlying61, rfl, rfl, by kernel_rfl⟩
theorem fd61_3 : FieldT Try.prog 61 3 3 := ⟨_, _, 0, Try.underlying61, rfl, rfl, by kernel_rfl⟩
theorem fd63_0 : FieldT Try.prog 63 0 0 := ⟨_, _, 0, Try.underlying63, rfl, rfl, by kernel_rfl⟩
theorem fd63_1 : FieldT Try.prog 63 1 1 := ⟨_, _, 0, Try.underlying63, rfl, rfl, by kernel_rfl⟩
theorem kt90 : KeyT Try.prog 90 kP := KeyT.pair Try.underlying90 Try.underlying3 (by kernel_rfl)
theorem mt88 : MapT Try.prog 88 90 3 := Try.underlying88
theorem pl3 : Plain Try.prog 3 := ⟨_, Try.underlying3, rfl⟩
theorem pl30 : Plain Try.prog 30 := ⟨_, Try.underlying30, rfl⟩
theorem pl47 : Plain Try.prog 47 := ⟨_, Try.underlying47, rfl⟩
theorem sl30 : SliceT Try.prog 30 3 1 := ⟨Try.underlying30, by kernel_rfl⟩
theorem sl47 : SliceT Try.prog 47 59 9 := ⟨Try.underlying47, by kernel_rfl⟩
theorem sl50 : SliceT Try.prog 50 61 4 := ⟨Try.underlying50, by kernel_rfl⟩
theorem sz61 : SizeT Try.prog 61 4 := by unfold SizeT; kernel_rfl
theorem sz90 : SizeT Try.prog 90 2 := by unfold SizeT; kernel_rfl
theorem ze61 : ZeroT Try.prog 61 [.int .i64 0, .int .i64 0, .int .i64 0, .int .i64 0] := by unfold ZeroT; kernel_rfl
theorem ze90 : ZeroT Try.prog 90 [.int .i64 0, .int .i64 0] := by unfold ZeroT; kernel_rfl
theorem zv3i64v : ZVal Try.prog 3 (i64v 0) := by unfold ZVal; kernel_rfl
end TSched1
open TSched1
set_option maxRecDepth 8000 in
theorem sched_fits_w {v_l_logs : Value} {v_l_body : Value} {v_l_outs : Value} {v_p_times : Value} {v_edges : Value} {l : Lp} {t : Tgt} {p : Pln} {edges : List Edg} {r : Bool} (w : World) (hm : sched_fits_m l t p edges = some r) (h_l_logs : Arr w v_l_logs 1 (l.logs.map icell)) (h_l_body : Arr w v_l_body 9 (l.body.map Stm.cells)) (h_l_outs : Arr w v_l_outs 1 (l.outs.map icell)) (h_p_times : Arr w v_p_times 1 (p.times.map icell)) (h_edges : Arr w v_edges 4 (edges.map Edg.cells)) : Calls Try.prog 70 #[.agg #[v_l_logs, v_l_body, v_l_outs], .agg #[.int .i64 t.u0, .int .i64 t.u1, .int .i64 t.u2, .int .i64 t.w0, .int .i64 t.w1, .int .i64 t.w2, .int .i64 t.regs], .agg #[.int .i64 p.pace, v_p_times], v_edges] w (fun e w' => e = .returned (.bool r) ∧ Grow w w') := by
  unfold sched_fits_m at hm
  have hk := Base.rfl (w := w)
  refine calls_of_WC (n := 87) (args := [.agg #[v_l_logs, v_l_body, v_l_outs], .agg #[.int .i64 t.u0, .int .i64 t.u1, .int .i64 t.u2, .int .i64 t.w0, .int .i64 t.w1, .int .i64 t.w2, .int .i64 t.regs], .agg #[.int .i64 p.pace, v_p_times], v_edges]) Try.func70 rfl rfl (Nat.le_of_ble_eq_true rfl) ?_ (Own.startK hk (Own.start w))
  refine WC.seq ?_
  refine WC.region ?_
  refine WL.effect rfl ?_
  refine (EV.boxAgg (by decide) rfl rfl (fun b1 => ?_))
  refine WL.effect rfl ?_
  refine (EV.boxAgg (by decide) rfl rfl (fun b2 => ?_))
  refine WL.effect rfl ?_
  refine (EV.boxAgg (by decide) rfl rfl (fun b3 => ?_))
  refine WL.q rfl rfl rfl (QV.assign rfl rfl) ?_
  refine WL.nil ?_
  refine WQ.then ?_
  refine WC.seq ?_
  refine WC.region ?_
  refine WL.effect rfl ?_
  refine (EV.makeMap (ke := kP) (ve := i64v) (by decide) (fun b4 => ?_))
  refine WL.q rfl rfl rfl (QV.assign rfl rfl) ?_
  refine WL.nil ?_
  refine WQ.then ?_
  refine WC.seq ?_
  refine WC.seq ?_
  refine WC.region ?_
  refine WL.q rfl rfl rfl (QV.fieldAddr fd63_1 rfl rfl) ?_
  refine WL.q rfl rfl rfl (QV.load pl30 rfl rfl (Own.cell 1 rfl rfl)) ?_
  refine WL.q rfl rfl rfl (QV.lenS Try.underlying30 rfl rfl h_p_times.lenMap) ?_
  refine WL.q rfl rfl rfl (QV.move rfl rfl) ?_
  refine WL.nil ?_
  refine WQ.then ?_
  obtain ⟨o5, ho6, hm7⟩ := bd_some hm; clear hm; obtain ⟨n8, ho9⟩ := lp_some ho6
  refine WC.bloop2 (H2 := [blk b3 [.int .i64 p.pace, v_p_times] 63, blk b2 [.int .i64 t.u0, .int .i64 t.u1, .int .i64 t.u2, .int .i64 t.w0, .int .i64 t.w1, .int .i64 t.w2, .int .i64 t.regs] 24, blk b1 [v_l_logs, v_l_body, v_l_outs] 49, kn noM w.heap.size w w]) (τ := [(3, (true, _)), (4, (true, _)), (5, (true, _)), (6, (true, _)), (9, (true, _)), (17, (true, _)), (18, (true, _))]) (fun (m4n_1 : List ((Int × Int) × Int)) (x19_1 : Int) => [(19, (true, .int .i64 x19_1))]) (fun (m4n_1 : List ((Int × Int) × Int)) (x19_1 : Int) => [mapR b4 kP i64v m4n_1]) (fun (m4n_1 : List ((Int × Int) × Int)) (x19_1 : Int) (m : Nat) => iter (sched_fits_L0 l t p) m (m4n_1, x19_1) = some o5) (fun (m4n_1 : List ((Int × Int) × Int)) (x19_1 : Int) => o5 = .go (m4n_1, x19_1)) ([] : List ((Int × Int) × Int)) 0 n8 ho9 ⟨rfl, rfl, rfl, rfl, rfl, rfl, rfl, rfl, trivial⟩ (fun w hw => hw.pick [0, 1, 2, 3, 4] (by decide)) ?_ ?_
  · skip
    rintro m4n_1 x19_1 rfl
    refine WQ.then ?_
    refine WC.seq ?_
    refine WC.seq ?_
    refine WC.region ?_
    refine WL.q rfl rfl rfl (QV.move rfl rfl) ?_
    refine WL.q rfl rfl rfl (QV.lenS Try.underlying50 rfl rfl h_edges.lenMap) ?_
    refine WL.q rfl rfl rfl (QV.move rfl rfl) ?_
    refine WL.nil ?_
    refine WQ.then ?_
    obtain ⟨o10, ho11, hm12⟩ := bd_some hm7; clear hm7; obtain ⟨n13, ho14⟩ := lp_some ho11
    refine WC.bloop1 (H2 := [mapR b4 kP i64v m4n_1, blk b3 [.int .i64 p.pace, v_p_times] 63, blk b2 [.int .i64 t.u0, .int .i64 t.u1, .int .i64 t.u2, .int .i64 t.w0, .int .i64 t.w1, .int .i64 t.w2, .int .i64 t.regs] 24, blk b1 [v_l_logs, v_l_body, v_l_outs] 49, kn noM w.heap.size w w]) (τ := [(6, (true, _)), (58, (true, _)), (59, (true, _))]) (fun (x60_2 : Int) => [(60, (true, .int .i64 x60_2))]) (fun (x60_2 : Int) => []) (fun (x60_2 : Int) (m : Nat) => iter (sched_fits_L2 p edges) m x60_2 = some o10) (fun (x60_2 : Int) => o10 = .go x60_2) 0 n13 ho14 ⟨rfl, rfl, rfl, rfl, trivial⟩ (fun w hw => hw.pick [0, 1, 2, 3, 4] (by decide)) ?_ ?_
    · skip
      rintro x60_2 rfl
      refine WQ.then ?_
      refine WC.seq ?_
      refine WC.region ?_
      refine WL.q rfl rfl rfl (QV.assign rfl rfl) ?_
      refine WL.nil ?_
      refine WQ.then ?_
      refine WC.ret ?_
      obtain rfl := (eq_of_some hm12).symm
      refine WQ.ret1 rfl rfl (fun w hw => ?_)
      exact ⟨rfl, Own.kgrow (fun _ x => x) hw⟩
    · skip
      rintro x60_2 m15 hI16
      obtain ⟨m17, s18, rfl, hm19, hn20⟩ := iter_step hI16; clear hI16; unfold sched_fits_L2 at hm19
      refine WC.seq ?_
      refine WC.region ?_
      refine WL.q rfl rfl rfl (QV.lss rfl rfl rfl rfl) ?_
      refine WL.nil ?_
      refine WQ.then ?_
      refine WC.seq ?_
      refine WC.cond rfl (fun h21 => ?_) (fun h21 => ?_)
      · skip
        have hm22 := br_t h21 hm19; clear hm19
        refine WC.skip ?_
        refine WQ.then ?_
        refine WC.seq ?_
        refine WC.block ?_
        refine WC.seq ?_
        refine WC.region ?_
        obtain ⟨c23, hm24⟩ := ck_some hm22; clear hm22
        obtain ⟨p25, hp26⟩ := h_edges.lenMap.ix (sz := 4) ln_len c23
        refine WL.q rfl rfl rfl (QV.indexSlice sl50 rfl rfl rfl rfl hp26) ?_
        refine WL.q rfl rfl rfl (QV.loadAgg ag61 rfl rfl rfl (fun w hw => ((Own.karr 4 rfl hk h_edges) w hw).ele hp26 c23)) ?_
        refine WL.effect rfl ?_
        refine (EV.alloc (by decide) ze61 (fun b27 => ?_))
        refine WL.effect rfl ?_
        refine (EV.store 0 rfl rfl rfl rfl rfl rfl (vs := [.int .i64 ((ele edges x60_2).fr), .int .i64 ((ele edges x60_2).to), .int .i64 ((ele edges x60_2).bk), .int .i64 ((ele edges x60_2).wt)]) (show Value.cells _ = List.toArray _ from rfl) sz61 (Nat.le_of_ble_eq_true rfl) (one_cons rfl (one_cons rfl (one_cons rfl (one_cons rfl one_nil)))) ?_)
        refine WL.nil ?_
        refine WQ.then ?_
        refine WC.seq ?_
        refine WC.dr (m := 22) (S := Own noM w [kn noM w.heap.size w w, blk b27 [.int .i64 ((ele edges x60_2).fr), .int .i64 ((ele edges x60_2).to), .int .i64 ((ele edges x60_2).bk), .int .i64 ((ele edges x60_2).wt)] 61, mapR b4 kP i64v m4n_1, blk b3 [.int .i64 p.pace, v_p_times] 63, blk b2 [.int .i64 t.u0, .int .i64 t.u1, .int .i64 t.u2, .int .i64 t.w0, .int .i64 t.w1, .int .i64 t.w2, .int .i64 t.regs] 24, blk b1 [v_l_logs, v_l_body, v_l_outs] 49]) (by kernel_rfl) (by kernel_rfl) (fun w hw => hw.pick [5, 0, 1, 2, 3, 4] (by decide)) ?_
        refine WD.q 0 rfl (by kernel_rfl) rfl rfl rfl (QV.fieldAddr fd63_1 rfl rfl) ?_
        refine WD.q 1 rfl (by kernel_rfl) rfl rfl rfl (QV.load pl30 rfl rfl (Own.cell 3 rfl rfl)) ?_
        refine WD.q 2 rfl (by kernel_rfl) rfl rfl rfl (QV.fieldAddr fd61_1 rfl rfl) ?_
        refine WD.q 3 rfl (by kernel_rfl) rfl rfl rfl (QV.load pl3 rfl rfl (Own.cell 1 rfl rfl)) ?_
        obtain ⟨c28, hm29⟩ := ck_some hm24; clear hm24
        obtain ⟨p30, hp31⟩ := h_p_times.lenMap.ix (sz := 1) ln_len c28
        refine WD.q 4 rfl (by kernel_rfl) rfl rfl rfl (QV.indexSlice sl30 rfl rfl rfl rfl hp31) ?_
        refine WD.q 5 rfl (by kernel_rfl) rfl rfl rfl (QV.load pl3 rfl rfl (fun w hw => CellsAt.one 0 (((Own.karr 0 rfl hk h_p_times) w hw).ele hp31 c28) rfl)) ?_
        refine WD.q 6 rfl (by kernel_rfl) rfl rfl rfl (QV.fieldAddr fd61_2 rfl rfl) ?_
        refine WD.q 7 rfl (by kernel_rfl) rfl rfl rfl (QV.load pl3 rfl rfl (Own.cell 1 rfl rfl)) ?_
        refine WD.q 8 rfl (by kernel_rfl) rfl rfl rfl (QV.fieldAddr fd63_0 rfl rfl) ?_
        refine WD.q 9 rfl (by kernel_rfl) rfl rfl rfl (QV.load pl3 rfl rfl (Own.cell 3 rfl rfl)) ?_
        obtain ⟨c32, hm33⟩ := ck_some hm29; clear hm29
        refine WD.q 10 rfl (by kernel_rfl) rfl rfl rfl (QV.mul rfl rfl rfl rfl c32) ?_
        obtain ⟨c34, hm35⟩ := ck_some hm33; clear hm33
        refine WD.q 11 rfl (by kernel_rfl) rfl rfl rfl (QV.add rfl rfl rfl rfl c34) ?_
        refine WD.q 12 rfl (by kernel_rfl) rfl rfl rfl (QV.fieldAddr fd63_1 rfl rfl) ?_
        refine WD.q 13 rfl (by kernel_rfl) rfl rfl rfl (QV.load pl30 rfl rfl (Own.cell 3 rfl rfl)) ?_
        refine WD.q 14 rfl (by kernel_rfl) rfl rfl rfl (QV.fieldAddr fd61_0 rfl rfl) ?_
        refine WD.q 15 rfl (by kernel_rfl) rfl rfl rfl (QV.load pl3 rfl rfl (Own.cell 1 rfl rfl)) ?_
        obtain ⟨c36, hm37⟩ := ck_some hm35; clear hm35
        obtain ⟨p38, hp39⟩ := h_p_times.lenMap.ix (sz := 1) ln_len c36
        refine WD.q 16 rfl (by kernel_rfl) rfl rfl rfl (QV.indexSlice sl30 rfl rfl rfl rfl hp39) ?_
        refine WD.q 17 rfl (by kernel_rfl) rfl rfl rfl (QV.load pl3 rfl rfl (fun w hw => CellsAt.one 0 (((Own.karr 0 rfl hk h_p_times) w hw).ele hp39 c36) rfl)) ?_
        refine WD.q 18 rfl (by kernel_rfl) rfl rfl rfl (QV.fieldAddr fd61_3 rfl rfl) ?_
        refine WD.q 19 rfl (by kernel_rfl) rfl rfl rfl (QV.load pl3 rfl rfl (Own.cell 1 rfl rfl)) ?_
        obtain ⟨c40, hm41⟩ := ck_some hm37; clear hm37
        refine WD.q 20 rfl (by kernel_rfl) rfl rfl rfl (QV.add rfl rfl rfl rfl c40) ?_
        refine WD.q 21 rfl (by kernel_rfl) rfl rfl rfl (QV.lss rfl rfl rfl rfl) ?_
        refine WD.e (by kernel_rfl) ?_
        refine WQ.then ?_
        refine WC.cond rfl (fun h42 => ?_) (fun h42 => ?_)
        · skip
          have hm43 := br_t h42 hm41; clear hm41
          refine WC.seq ?_
          refine WC.region ?_
          refine WL.q rfl rfl rfl (QV.assign rfl rfl) ?_
          refine WL.nil ?_
          refine WQ.then ?_
          refine WC.ret ?_
          refine WQ.block_ret ?_
          refine WQ.then_ret ?_
          refine WQ.then_ret ?_
          refine WQ.block_ret ?_
          refine WQ.then_ret ?_
          refine WQ.then_ret ?_
          obtain rfl := up_ret hm43 hn20
          obtain rfl := (eq_of_some hm12).symm
          refine WQ.ret1 rfl rfl (fun w hw => ?_)
          exact ⟨rfl, Own.kgrow (fun _ x => x) hw⟩
        · skip
          have hm44 := br_f h42 hm41; clear hm41
          refine WC.skip ?_
          refine WQ.block ?_
          refine WQ.then ?_
          refine WC.region ?_
          obtain ⟨c45, hm46⟩ := ck_some hm44; clear hm44
          refine WL.q rfl rfl rfl (QV.add rfl rfl rfl rfl c45) ?_
          refine WL.q rfl rfl rfl (QV.move rfl rfl) ?_
          refine WL.nil ?_
          exact WQ.again1 (x60_2 + 1) m17 (up_next hm46 hn20) (Nat.lt_succ_self _) ⟨rfl, rfl, rfl, rfl, trivial⟩ (fun w hw => hw.pick [1, 2, 3, 4, 5] (by decide))
      · skip
        have hm47 := br_f h21 hm19; clear hm19
        refine WC.exit ?_
        refine WQ.then_exit ?_
        refine WQ.then_exit ?_
        refine WQ.block_exit ?_
        exact WQ.out1 x60_2 (up_brk hm47 hn20) ⟨rfl, rfl, rfl, rfl, trivial⟩ (fun w hw => hw.pick [0, 1, 2, 3, 4] (by decide))
  · skip
    rintro m4n_1 x19_1 m48 hI49
    obtain ⟨m50, s51, rfl, hm52, hn53⟩ := iter_step hI49; clear hI49; unfold sched_fits_L0 at hm52; simp only at hm52
    refine WC.seq ?_
    refine WC.region ?_
    refine WL.q rfl rfl rfl (QV.lss rfl rfl rfl rfl) ?_
    refine WL.nil ?_
    refine WQ.then ?_
    refine WC.seq ?_
    refine WC.cond rfl (fun h54 => ?_) (fun h54 => ?_)
    · skip
      have hm55 := br_t h54 hm52; clear hm52
      refine WC.skip ?_
      refine WQ.then ?_
      refine WC.seq ?_
      refine WC.block ?_
      refine WC.seq ?_
      refine WC.region ?_
      refine WL.q rfl rfl rfl (QV.move rfl rfl) ?_
      obtain ⟨c56, hm57⟩ := ck_some hm55; clear hm55
      obtain ⟨p58, hp59⟩ := h_p_times.lenMap.ix (sz := 1) ln_len c56
      refine WL.q rfl rfl rfl (QV.indexSlice sl30 rfl rfl rfl rfl hp59) ?_
      refine WL.q rfl rfl rfl (QV.load pl3 rfl rfl (fun w hw => CellsAt.one 0 (((Own.karr 4 rfl hk h_p_times) w hw).ele hp59 c56) rfl)) ?_
      refine WL.q rfl rfl rfl (QV.assign rfl rfl) ?_
      refine WL.q rfl rfl rfl (QV.assign rfl rfl) ?_
      refine WL.nil ?_
      refine WQ.then ?_
      refine WC.seq ?_
      refine WC.seq ?_
      refine WC.region ?_
      refine WL.q rfl rfl rfl (QV.move rfl rfl) ?_
      refine WL.q rfl rfl rfl (QV.lss rfl rfl rfl rfl) ?_
      refine WL.q rfl rfl rfl (QV.move rfl rfl) ?_
      refine WL.g rfl rfl (GuardIs.neg rfl rfl) (fun hG => QV.move rfl rfl) ?_
      refine WL.g rfl rfl (GuardIs.neg rfl rfl) (fun hG => QV.gtr rfl hG rfl rfl) ?_
      refine WL.q rfl rfl rfl (QV.pickOr rfl rfl rfl (fun h => notF h)) ?_
      refine WL.nil ?_
      refine WQ.then ?_
      refine WC.cond rfl (fun h60 => ?_) (fun h60 => ?_)
      · skip
        have hm61 := br_t h60 hm57; clear hm57
        refine WC.seq ?_
        refine WC.region ?_
        refine WL.q rfl rfl rfl (QV.assign rfl rfl) ?_
        refine WL.nil ?_
        refine WQ.then ?_
        refine WC.ret ?_
        refine WQ.then_ret ?_
        refine WQ.block_ret ?_
        refine WQ.then_ret ?_
        refine WQ.then_ret ?_
        refine WQ.block_ret ?_
        refine WQ.then_ret ?_
        refine WQ.then_ret ?_
        obtain rfl := up_ret hm61 hn53
        obtain rfl := (eq_of_some hm7).symm
        refine WQ.ret1 rfl rfl (fun w hw => ?_)
        exact ⟨rfl, Own.kgrow (fun _ x => x) hw⟩
      · skip
        have hm62 := br_f h60 hm57; clear hm57
        refine WC.skip ?_
        refine WQ.then ?_
        refine WC.seq ?_
        refine WC.dr (m := 14) (S := Own noM w [kn noM w.heap.size w w, mapR b4 kP i64v m4n_1, blk b3 [.int .i64 p.pace, v_p_times] 63, blk b2 [.int .i64 t.u0, .int .i64 t.u1, .int .i64 t.u2, .int .i64 t.w0, .int .i64 t.w1, .int .i64 t.w2, .int .i64 t.regs] 24, blk b1 [v_l_logs, v_l_body, v_l_outs] 49]) (by kernel_rfl) (by kernel_rfl) (fun w hw => hw.pick [4, 0, 1, 2, 3] (by decide)) ?_
        refine WD.q 0 rfl (by kernel_rfl) rfl rfl rfl (QV.move rfl rfl) ?_
        refine WD.q 1 rfl (by kernel_rfl) rfl rfl rfl (QV.fieldAddr fd63_0 rfl rfl) ?_
        refine WD.q 2 rfl (by kernel_rfl) rfl rfl rfl (QV.load pl3 rfl rfl (Own.cell 2 rfl rfl)) ?_
        obtain ⟨c63, hm64⟩ := ck_some hm62; clear hm62
        refine WD.q 3 rfl (by kernel_rfl) rfl rfl rfl (QV.rem rfl rfl rfl rfl c63) ?_
        refine WD.q 4 rfl (by kernel_rfl) rfl rfl rfl (QV.fieldAddr fd49_1 rfl rfl) ?_
        refine WD.q 5 rfl (by kernel_rfl) rfl rfl rfl (QV.load pl47 rfl rfl (Own.cell 4 rfl rfl)) ?_
        refine WD.q 6 rfl (by kernel_rfl) rfl rfl rfl (QV.move rfl rfl) ?_
        obtain ⟨c65, hm66⟩ := ck_some hm64; clear hm64
        obtain ⟨p67, hp68⟩ := h_l_body.lenMap.ix (sz := 9) ln_len c65
        refine WD.q 7 rfl (by kernel_rfl) rfl rfl rfl (QV.indexSlice sl47 rfl rfl rfl rfl hp68) ?_
        refine WD.q 8 rfl (by kernel_rfl) rfl rfl rfl (QV.fieldAddr fd59_0 rfl rfl) ?_
        refine WD.q 9 rfl (by kernel_rfl) rfl rfl rfl (QV.load pl3 rfl rfl (fun w hw => CellsAt.one 0 (((Own.karr 0 rfl hk h_l_body) w hw).ele hp68 c65) rfl)) ?_
        obtain ⟨x69, hx70, hm71⟩ := bd_some hm66; clear hm66
        refine WD.q 10 rfl (by kernel_rfl) rfl rfl rfl (QV.call en48 (EvAll.cons rfl rfl EvAll.nil) (fun w hw => have h := num_Class_w w hx70 ; h)) ?_
        refine WD.q 11 rfl (by kernel_rfl) rfl rfl rfl (QV.build (ps := [(0, .tmp 33), (1, .tmp 40)]) (cells := [.int .i64 (Int.tmod (ele p.times x19_1) p.pace), .int .i64 x69]) (EvAll.cons rfl rfl (EvAll.cons rfl rfl EvAll.nil)) (by kernel_rfl)) ?_
        refine WD.o 12 rfl (by kernel_rfl) rfl ?_
        refine (EV.alloc (by decide) ze90 (fun b72 => ?_))
        refine WD.b (H' := [kn noM w.heap.size w w, blk b72 [.int .i64 0, .int .i64 0] 90, mapR b4 kP i64v m4n_1, blk b3 [.int .i64 p.pace, v_p_times] 63, blk b2 [.int .i64 t.u0, .int .i64 t.u1, .int .i64 t.u2, .int .i64 t.w0, .int .i64 t.w1, .int .i64 t.w2, .int .i64 t.regs] 24, blk b1 [v_l_logs, v_l_body, v_l_outs] 49]) (fun w hw => hw.pick [5, 0, 1, 2, 3, 4] (by decide)) (fun w hw => hw.pick [0, 2, 3, 4, 5] (by decide)) ?_
        refine WD.l 13 rfl (by kernel_rfl) rfl ?_
        refine (EV.store 0 rfl rfl rfl rfl rfl rfl (vs := [.int .i64 (Int.tmod (ele p.times x19_1) p.pace), .int .i64 x69]) (show Value.cells _ = List.toArray _ from rfl) sz90 (Nat.le_of_ble_eq_true rfl) (one_cons rfl (one_cons rfl one_nil)) ?_)
        refine WQ.then ?_
        refine WC.seq ?_
        refine WC.dr (m := 7) (S := Own noM w [kn noM w.heap.size w w, blk b72 [.int .i64 (Int.tmod (ele p.times x19_1) p.pace), .int .i64 x69] 90, mapW b4 kP i64v 0 m4n_1, blk b3 [.int .i64 p.pace, v_p_times] 63, blk b2 [.int .i64 t.u0, .int .i64 t.u1, .int .i64 t.u2, .int .i64 t.w0, .int .i64 t.w1, .int .i64 t.w2, .int .i64 t.regs] 24, blk b1 [v_l_logs, v_l_body, v_l_outs] 49]) (by kernel_rfl) (by kernel_rfl) (fun w hw => Own.mapWeak 2 0 rfl (hw.pick [5, 0, 1, 2, 3, 4] (by decide))) ?_
        refine WD.q 0 rfl (by kernel_rfl) rfl rfl rfl (QV.move rfl rfl) ?_
        refine WD.q 1 rfl (by kernel_rfl) rfl rfl rfl (QV.loadAgg ag90 rfl rfl rfl (Own.cellsBlk 1 rfl)) ?_
        refine WD.q 2 rfl (by kernel_rfl) rfl rfl rfl (QV.lookupW (k := ((Int.tmod (ele p.times x19_1) p.pace), x69)) 2 0 mt88 kt90 zv3i64v rfl rfl rfl rfl rfl) ?_
        obtain ⟨c73, hm74⟩ := ck_some hm71; clear hm71
        refine WD.q 3 rfl (by kernel_rfl) rfl rfl rfl (QV.add rfl rfl rfl rfl c73) ?_
        refine WD.o 4 rfl (by kernel_rfl) rfl ?_
        refine (EV.mapEntry (by decide) ((Int.tmod (ele p.times x19_1) p.pace), x69) 1 0 mt88 kt90 zv3i64v rfl rfl rfl rfl rfl (fun s75 => ?_))
        refine WD.b (H' := [kn noM w.heap.size w w, blk b72 [.int .i64 (Int.tmod (ele p.times x19_1) p.pace), .int .i64 x69] 90, mapW b4 kP i64v 0 m4n_1, blk b3 [.int .i64 p.pace, v_p_times] 63, blk b2 [.int .i64 t.u0, .int .i64 t.u1, .int .i64 t.u2, .int .i64 t.w0, .int .i64 t.w1, .int .i64 t.w2, .int .i64 t.regs] 24, blk b1 [v_l_logs, v_l_body, v_l_outs] 49]) (fun w hw => Own.midWeak 2 rfl (hw.pick [5, 0, 1, 2, 3, 4] (by decide))) (fun w hw => hw.pick [0, 1, 2, 3, 4, 5] (by decide)) ?_
        refine WD.q 5 rfl (by kernel_rfl) rfl rfl rfl (QV.extract rfl rfl rfl) ?_
        refine WD.l 6 rfl (by kernel_rfl) rfl ?_
        refine (EV.entryStore (ke := kP) (ve := i64v) ((Int.tmod (ele p.times x19_1) p.pace), x69) 1 ((mget m4n_1 ((Int.tmod (ele p.times x19_1) p.pace), x69) 0) + 1) s75 rfl rfl rfl rfl rfl rfl rfl ?_)
        refine WQ.then ?_
        refine WC.seq ?_
        refine WC.dr (m := 9) (S := Own noM w [kn noM w.heap.size w w, blk b72 [.int .i64 (Int.tmod (ele p.times x19_1) p.pace), .int .i64 x69] 90, mapR b4 kP i64v (mput m4n_1 ((Int.tmod (ele p.times x19_1) p.pace), x69) ((mget m4n_1 ((Int.tmod (ele p.times x19_1) p.pace), x69) 0) + 1)), blk b3 [.int .i64 p.pace, v_p_times] 63, blk b2 [.int .i64 t.u0, .int .i64 t.u1, .int .i64 t.u2, .int .i64 t.w0, .int .i64 t.w1, .int .i64 t.w2, .int .i64 t.regs] 24, blk b1 [v_l_logs, v_l_body, v_l_outs] 49]) (by kernel_rfl) (by kernel_rfl) (fun w hw => hw.pick [5, 0, 1, 2, 3, 4] (by decide)) ?_
        refine WD.q 0 rfl (by kernel_rfl) rfl rfl rfl (QV.move rfl rfl) ?_
        refine WD.q 1 rfl (by kernel_rfl) rfl rfl rfl (QV.loadAgg ag90 rfl rfl rfl (Own.cellsBlk 1 rfl)) ?_
        refine WD.q 2 rfl (by kernel_rfl) rfl rfl rfl (QV.lookup (k := ((Int.tmod (ele p.times x19_1) p.pace), x69)) 2 0 mt88 kt90 zv3i64v rfl rfl rfl rfl rfl) ?_
        refine WD.q 3 rfl (by kernel_rfl) rfl rfl rfl (QV.indexArray ar90 rfl rfl rfl rfl (by decide) (by decide)) ?_
        refine WD.q 4 rfl (by kernel_rfl) rfl rfl rfl (QV.load pl3 rfl rfl (Own.cell 1 rfl rfl)) ?_
        refine WD.q 5 rfl (by kernel_rfl) rfl rfl rfl (QV.fieldAddr fd24_0 rfl rfl) ?_
        obtain ⟨c76, hm77⟩ := ck_some hm74; clear hm74
        refine WD.q 6 rfl (by kernel_rfl) rfl rfl rfl (QV.indexArray ar22 rfl rfl rfl rfl c76.1 c76.2) ?_
        refine WD.q 7 rfl (by kernel_rfl) rfl rfl rfl (QV.load pl3 rfl rfl (Own.cellSym 4 rfl (sel3_get (off := 0) (i := x69) c76.1 c76.2 rfl rfl rfl) (addr_sym _ _ _))) ?_
        refine WD.q 8 rfl (by kernel_rfl) rfl rfl rfl (QV.gtr rfl rfl rfl rfl) ?_
        refine WD.e (by kernel_rfl) ?_
        refine WQ.then ?_
        refine WC.cond rfl (fun h78 => ?_) (fun h78 => ?_)
        · skip
          have hm79 := br_t h78 hm77; clear hm77
          refine WC.seq ?_
          refine WC.region ?_
          refine WL.q rfl rfl rfl (QV.assign rfl rfl) ?_
          refine WL.nil ?_
          refine WQ.then ?_
          refine WC.ret ?_
          refine WQ.block_ret ?_
          refine WQ.then_ret ?_
          refine WQ.then_ret ?_
          refine WQ.block_ret ?_
          refine WQ.then_ret ?_
          refine WQ.then_ret ?_
          obtain rfl := up_ret hm79 hn53
          obtain rfl := (eq_of_some hm7).symm
          refine WQ.ret1 rfl rfl (fun w hw => ?_)
          exact ⟨rfl, Own.kgrow (fun _ x => x) hw⟩
        · skip
          have hm80 := br_f h78 hm77; clear hm77
          refine WC.skip ?_
          refine WQ.block ?_
          refine WQ.then ?_
          refine WC.region ?_
          obtain ⟨c81, hm82⟩ := ck_some hm80; clear hm80
          refine WL.q rfl rfl rfl (QV.add rfl rfl rfl rfl c81) ?_
          refine WL.q rfl rfl rfl (QV.move rfl rfl) ?_
          refine WL.nil ?_
          exact WQ.again2 (mput m4n_1 ((Int.tmod (ele p.times x19_1) p.pace), x69) ((mget m4n_1 ((Int.tmod (ele p.times x19_1) p.pace), x69) 0) + 1)) (x19_1 + 1) m50 (up_next hm82 hn53) (Nat.lt_succ_self _) ⟨rfl, rfl, rfl, rfl, rfl, rfl, rfl, rfl, trivial⟩ (fun w hw => hw.pick [1, 2, 3, 4, 5] (by decide))
    · skip
      have hm83 := br_f h54 hm52; clear hm52
      refine WC.exit ?_
      refine WQ.then_exit ?_
      refine WQ.then_exit ?_
      refine WQ.block_exit ?_
      exact WQ.out2 m4n_1 x19_1 (up_brk hm83 hn53) ⟨rfl, rfl, rfl, rfl, rfl, rfl, rfl, rfl, trivial⟩ (fun w hw => hw.pick [0, 1, 2, 3, 4] (by decide))

set_option maxRecDepth 8000 in
theorem sched_Legal_w {v_l_logs : Value} {v_l_body : Value} {v_l_outs : Value} {v_p_times : Value} {l : Lp} {t : Tgt} {p : Pln} {r : Bool} (w : World) (hm : sched_Legal_m l t p = some r) (h_l_logs : Arr w v_l_logs 1 (l.logs.map icell)) (h_l_body : Arr w v_l_body 9 (l.body.map Stm.cells)) (h_l_outs : Arr w v_l_outs 1 (l.outs.map icell)) (h_p_times : Arr w v_p_times 1 (p.times.map icell)) : Calls Try.prog 27 #[.agg #[v_l_logs, v_l_body, v_l_outs], .agg #[.int .i64 t.u0, .int .i64 t.u1, .int .i64 t.u2, .int .i64 t.w0, .int .i64 t.w1, .int .i64 t.w2, .int .i64 t.regs], .agg #[.int .i64 p.pace, v_p_times]] w (fun e w' => e = .returned (.bool r) ∧ Grow w w') := by
  unfold sched_Legal_m at hm
  have hk := Base.rfl (w := w)
  refine calls_of_WC (n := 43) (args := [.agg #[v_l_logs, v_l_body, v_l_outs], .agg #[.int .i64 t.u0, .int .i64 t.u1, .int .i64 t.u2, .int .i64 t.w0, .int .i64 t.w1, .int .i64 t.w2, .int .i64 t.regs], .agg #[.int .i64 p.pace, v_p_times]]) Try.func27 rfl rfl (Nat.le_of_ble_eq_true rfl) ?_ (Own.startK hk (Own.start w))
  refine WC.seq ?_
  refine WC.region ?_
  refine WL.effect rfl ?_
  refine (EV.boxAgg (by decide) rfl rfl (fun b1 => ?_))
  refine WL.effect rfl ?_
  refine (EV.boxAgg (by decide) rfl rfl (fun b2 => ?_))
  refine WL.effect rfl ?_
  refine (EV.boxAgg (by decide) rfl rfl (fun b3 => ?_))
  refine WL.q rfl rfl rfl (QV.assign rfl rfl) ?_
  refine WL.nil ?_
  refine WQ.then ?_
  refine WC.seq ?_
  refine WC.region ?_
  refine WL.q rfl rfl rfl (QV.loadAgg ag49 rfl rfl rfl (Own.cellsBlk 2 rfl)) ?_
  refine WL.q rfl rfl rfl (QV.loadAgg ag24 rfl rfl rfl (Own.cellsBlk 1 rfl)) ?_
  refine WL.effect rfl ?_
  obtain ⟨x4, hx5, hm6⟩ := bd_some hm; clear hm
  refine EV.of (C' := Own noM w [kn noM w.heap.size w w, blk b3 [.int .i64 p.pace, v_p_times] 63, blk b2 [.int .i64 t.u0, .int .i64 t.u1, .int .i64 t.u2, .int .i64 t.w0, .int .i64 t.w1, .int .i64 t.w2, .int .i64 t.regs] 24, blk b1 [v_l_logs, v_l_body, v_l_outs] 49]) (fun w hw => hw.pick [3, 0, 1, 2] (by decide)) ?_
  refine (EV.callR (X := Value × World) (R := []) (fun X => .tuple #[X.1, .int .i64 x4.2]) (fun X => []) (fun X => X.2) (fun X => Arr X.2 X.1 4 (x4.1.map Edg.cells)) hk (fun _ h => by cases h; decide) en23 (EvAll.cons rfl rfl (EvAll.cons rfl rfl EvAll.nil)) (fun M w h1 h2 => have h := dep_Edges_w hx5 h_l_logs h_l_body h_l_outs M w h1 h2; h) (fun X7 hF7 hle7 => ?_))
  refine WL.q rfl rfl rfl (QV.move rfl rfl) ?_
  refine WL.q rfl rfl rfl (QV.extract rfl rfl rfl) ?_
  refine WL.q rfl rfl rfl (QV.extract rfl rfl rfl) ?_
  refine WL.q rfl rfl rfl (QV.assign rfl rfl) ?_
  refine WL.q rfl rfl rfl (QV.assign rfl rfl) ?_
  refine WL.nil ?_
  refine WQ.then ?_
  refine WC.seq ?_
  refine WC.region ?_
  refine WL.q rfl rfl rfl (QV.move rfl rfl) ?_
  refine WL.q rfl rfl rfl (QV.eql rfl rfl rfl rfl) ?_
  refine WL.q rfl rfl rfl (QV.move rfl rfl) ?_
  refine WL.g rfl rfl (GuardIs.pos rfl rfl) (fun hG => QV.fieldAddr fd63_0 rfl rfl) ?_
  refine WL.g rfl rfl (GuardIs.pos rfl rfl) (fun hG => QV.load pl3 rfl hG (Own.cell 1 rfl rfl)) ?_
  refine WL.g rfl rfl (GuardIs.pos rfl rfl) (fun hG => QV.geq rfl hG rfl rfl) ?_
  refine WL.q rfl rfl rfl (QV.pickAnd rfl rfl rfl (fun h => h)) ?_
  refine WL.q rfl rfl rfl (QV.move rfl rfl) ?_
  refine WL.g rfl rfl (GuardIs.pos rfl rfl) (fun hG => QV.fieldAddr fd63_0 rfl rfl) ?_
  refine WL.g rfl rfl (GuardIs.pos rfl rfl) (fun hG => QV.load pl3 rfl hG (Own.cell 1 rfl rfl)) ?_
  refine WL.g rfl rfl (GuardIs.pos rfl rfl) (fun hG => QV.leq rfl hG rfl rfl) ?_
  refine WL.q rfl rfl rfl (QV.pickAnd rfl rfl rfl (fun h => h)) ?_
  refine WL.q rfl rfl rfl (QV.move rfl rfl) ?_
  refine WL.g rfl rfl (GuardIs.pos rfl rfl) (fun hG => QV.fieldAddr fd63_1 rfl rfl) ?_
  refine WL.g rfl rfl (GuardIs.pos rfl rfl) (fun hG => QV.load pl30 rfl hG (Own.cell 1 rfl rfl)) ?_
  refine WL.g rfl rfl (GuardIs.pos rfl rfl) (fun hG => QV.lenS Try.underlying30 rfl hG (h_p_times.le hle7).lenMap) ?_
  refine WL.g rfl rfl (GuardIs.pos rfl rfl) (fun hG => QV.fieldAddr fd49_1 rfl rfl) ?_
  refine WL.g rfl rfl (GuardIs.pos rfl rfl) (fun hG => QV.load pl47 rfl hG (Own.cell 3 rfl rfl)) ?_
  refine WL.g rfl rfl (GuardIs.pos rfl rfl) (fun hG => QV.lenS Try.underlying47 rfl hG (h_l_body.le hle7).lenMap) ?_
  refine WL.g rfl rfl (GuardIs.pos rfl rfl) (fun hG => QV.eql rfl hG rfl hG) ?_
  refine WL.q rfl rfl rfl (QV.pickAnd rfl rfl rfl (fun h => h)) ?_
  refine WL.q rfl rfl rfl (QV.move rfl rfl) ?_
  refine WL.g rfl rfl (GuardIs.pos rfl rfl) (fun hG => QV.loadAgg ag49 rfl rfl rfl (Own.cellsBlk 3 rfl)) ?_
  refine WL.g rfl rfl (GuardIs.pos rfl rfl) (fun hG => QV.loadAgg ag24 rfl rfl rfl (Own.cellsBlk 2 rfl)) ?_
  refine WL.g rfl rfl (GuardIs.pos rfl rfl) (fun hG => QV.loadAgg ag63 rfl rfl rfl (Own.cellsBlk 1 rfl)) ?_
  refine WL.g rfl rfl (GuardIs.pos rfl rfl) (fun hG => QV.move rfl rfl) ?_
  obtain ⟨x8, hx9, hm10⟩ := bdG_some hm6; clear hm6
  refine WL.g rfl rfl (GuardIs.pos rfl rfl) (fun hG => QV.call en70 (EvAll.cons rfl hG (EvAll.cons rfl hG (EvAll.cons rfl hG (EvAll.cons rfl hG EvAll.nil)))) (fun w hw => have h := sched_fits_w w (hx9 hG) ((Own.karr 0 rfl hk (h_l_logs.le hle7)) w hw) ((Own.karr 0 rfl hk (h_l_body.le hle7)) w hw) ((Own.karr 0 rfl hk (h_l_outs.le hle7)) w hw) ((Own.karr 0 rfl hk (h_p_times.le hle7)) w hw) ((Own.karr 0 rfl hk hF7) w hw); h)) ?_
  refine WL.q rfl rfl rfl (QV.pickAnd rfl rfl rfl (fun h => h)) ?_
  refine WL.q rfl rfl rfl (QV.assign rfl rfl) ?_
  refine WL.nil ?_
  refine WQ.then ?_
  refine WC.ret ?_
  obtain rfl := (eq_of_some hm10).symm
  refine WQ.ret1 rfl rfl (fun w hw => ?_)
  exact ⟨rfl, Own.kgrow (fun _ x => x) hw⟩
end Go.Proofs.Ytaimbkndebaaiab
