/- Texts that the law stands on: part 5. -/
import Derived.Test.YtaimbkndebaaiacZLcheckTells4
import Derived.Test.YtaimbkndebaaiacProg
import Derived.KernelRfl
import Derived.Shelf.SlSortCmp.NoneTotal
section
namespace Go.Proofs.Ytaimbkndebaaiac
open Go.Rd
set_option linter.unusedVariables false
set_option linter.unusedSimpArgs false
namespace TKeep
theorem ag185 : AggT Try.prog 185 2 := ⟨_, Try.underlying185, rfl, by kernel_rfl⟩
theorem ag25 : AggT Try.prog 25 3 := ⟨_, Try.underlying25, rfl, by kernel_rfl⟩
theorem ag79 : AggT Try.prog 79 2 := ⟨_, Try.underlying79, rfl, by kernel_rfl⟩
theorem ag81 : AggT Try.prog 81 9 := ⟨_, Try.underlying81, rfl, by kernel_rfl⟩
theorem en101 : Go.Rd.Enters Try.prog 101 := ⟨Try.f101, Try.func101, by kernel_rfl, by kernel_rfl⟩
theorem en102 : Go.Rd.Enters Try.prog 102 := ⟨Try.f102, Try.func102, by kernel_rfl, by kernel_rfl⟩
theorem en125 : Go.Rd.Enters Try.prog 125 := ⟨Try.f125, Try.func125, by kernel_rfl, by kernel_rfl⟩
theorem en138 : Go.Rd.Enters Try.prog 138 := ⟨Try.f138, Try.func138, by kernel_rfl, by kernel_rfl⟩
theorem en36 : Go.Rd.Enters Try.prog 36 := ⟨Try.f36, Try.func36, by kernel_rfl, by kernel_rfl⟩
theorem en66 : Go.Rd.Enters Try.prog 66 := ⟨Try.f66, Try.func66, by kernel_rfl, by kernel_rfl⟩
theorem fd185_0 : FieldT Try.prog 185 0 0 := ⟨_, _, 0, Try.underlying185, rfl, rfl, by kernel_rfl⟩
theorem fd185_1 : FieldT Try.prog 185 1 1 := ⟨_, _, 0, Try.underlying185, rfl, rfl, by kernel_rfl⟩
theorem fd25_1 : FieldT Try.prog 25 1 1 := ⟨_, _, 0, Try.underlying25, rfl, rfl, by kernel_rfl⟩
theorem fd25_2 : FieldT Try.prog 25 2 2 := ⟨_, _, 0, Try.underlying25, rfl, rfl, by kernel_rfl⟩
theorem fd79_0 : FieldT Try.prog 79 0 0 := ⟨_, _, 0, Try.underlying79, rfl, rfl, by kernel_rfl⟩
theorem fd79_1 : FieldT Try.prog 79 1 1 := ⟨_, _, 0, Try.underlying79, rfl, rfl, by kernel_rfl⟩
theorem fd87_0 : FieldT Try.prog 87 0 0 := ⟨_, _, 2, Try.underlying87, rfl, rfl, by kernel_rfl⟩
theorem fd87_1 : FieldT Try.prog 87 1 3 := ⟨_, _, 0, Try.underlying87, rfl, rfl, by kernel_rfl⟩
theorem fd87_2 : FieldT Try.prog 87 2 4 := ⟨_, _, 0, Try.underlying87, rfl, rfl, by kernel_rfl⟩
theorem fd87_3 : FieldT Try.prog 87 3 5 := ⟨_, _, 0, Try.underlying87, rfl, rfl, by kernel_rfl⟩
theorem fd87_4 : FieldT Try.prog 87 4 6 := ⟨_, _, 0, Try.underlying87, rfl, rfl, by kernel_rfl⟩
theorem fd87_5 : FieldT Try.prog 87 5 7 := ⟨_, _, 0, Try.underlying87, rfl, rfl, by kernel_rfl⟩
theorem kt3 : KeyT Try.prog 3 kI := KeyT.int Try.underlying3
theorem mt154 : MapT Try.prog 154 3 4 := Try.underlying154
theorem pl22 : Plain Try.prog 22 := ⟨_, Try.underlying22, rfl⟩
theorem pl23 : Plain Try.prog 23 := ⟨_, Try.underlying23, rfl⟩
theorem pl3 : Plain Try.prog 3 := ⟨_, Try.underlying3, rfl⟩
theorem pl4 : Plain Try.prog 4 := ⟨_, Try.underlying4, rfl⟩
theorem sl162 : SliceT Try.prog 162 185 2 := ⟨Try.underlying162, by kernel_rfl⟩
theorem sl22 : SliceT Try.prog 22 3 1 := ⟨Try.underlying22, by kernel_rfl⟩
theorem sl23 : SliceT Try.prog 23 81 9 := ⟨Try.underlying23, by kernel_rfl⟩
theorem sl76 : SliceT Try.prog 76 79 2 := ⟨Try.underlying76, by kernel_rfl⟩
theorem sz185 : SizeT Try.prog 185 2 := by unfold SizeT; kernel_rfl
theorem sz79 : SizeT Try.prog 79 2 := by unfold SizeT; kernel_rfl
theorem sz81 : SizeT Try.prog 81 9 := by unfold SizeT; kernel_rfl
theorem sz_162 : SliceZ Try.prog 162 185 2 [.int .i64 0, .bool false] := ⟨Try.underlying162, by kernel_rfl⟩
theorem ve162 : VecT Try.prog 162 185 2 16 := ⟨Try.underlying162, by kernel_rfl, by decide⟩
theorem ze185 : ZeroT Try.prog 185 [.int .i64 0, .bool false] := by unfold ZeroT; kernel_rfl
theorem ze79 : ZeroT Try.prog 79 [.int .i64 0, .int .i64 0] := by unfold ZeroT; kernel_rfl
theorem ze81 : ZeroT Try.prog 81 [.int .i64 0, .int .i64 0, .int .i64 0, .int .i64 0, .int .i64 0, .int .i64 0, .int .i64 0, .int .i64 0, .int .i64 0] := by unfold ZeroT; kernel_rfl
theorem zv4bv : ZVal Try.prog 4 (bv false) := by unfold ZVal; kernel_rfl
end TKeep
open TKeep
set_option maxRecDepth 8000 in
theorem keep_Far_w {v_l_logs : Value} {v_l_body : Value} {v_l_outs : Value} {l : Lp} {a : Int} {r : Int} (w : World) (hm : keep_Far_m l a = some r) (h_l_logs : Arr w v_l_logs 1 (l.logs.map icell)) (h_l_body : Arr w v_l_body 9 (l.body.map Stm.cells)) (h_l_outs : Arr w v_l_outs 1 (l.outs.map icell)) : Calls Try.prog 36 #[.agg #[v_l_logs, v_l_body, v_l_outs], .int .i64 a] w (fun e w' => e = .returned (.int .i64 r) ∧ Grow w w') := by
  unfold keep_Far_m at hm
  have hk := Base.rfl (w := w)
  refine calls_of_WC (n := 35) (args := [.agg #[v_l_logs, v_l_body, v_l_outs], .int .i64 a]) Try.func36 rfl rfl (Nat.le_of_ble_eq_true rfl) ?_ (Own.startK hk (Own.start w))
  refine WC.seq ?_
  refine WC.region ?_
  refine WL.effect rfl ?_
  refine (EV.boxAgg (by decide) rfl rfl (fun b1 => ?_))
  refine WL.q rfl rfl rfl (QV.assign rfl rfl) ?_
  refine WL.nil ?_
  refine WQ.then ?_
  refine WC.seq ?_
  refine WC.region ?_
  refine WL.q rfl rfl rfl (QV.assign rfl rfl) ?_
  refine WL.nil ?_
  refine WQ.then ?_
  refine WC.seq ?_
  refine WC.seq ?_
  refine WC.region ?_
  refine WL.q rfl rfl rfl (QV.fieldAddr fd25_1 rfl rfl) ?_
  refine WL.q rfl rfl rfl (QV.load pl23 rfl rfl (Own.cell 0 rfl rfl)) ?_
  refine WL.q rfl rfl rfl (QV.lenS Try.underlying23 rfl rfl h_l_body.lenMap) ?_
  refine WL.q rfl rfl rfl (QV.move rfl rfl) ?_
  refine WL.nil ?_
  refine WQ.then ?_
  obtain ⟨o2, ho3, hm4⟩ := bd_some hm; clear hm; obtain ⟨n5, ho6⟩ := lp_some ho3
  refine WC.bloop3 (H2 := [blk b1 [v_l_logs, v_l_body, v_l_outs] 25]) (τ := [(1, (true, _)), (11, (true, _)), (12, (true, _))]) (fun (far5_3 : Int) (x13_3 : Int) (k_3 : World) => [(5, (true, .int .i64 far5_3)), (13, (true, .int .i64 x13_3))]) (fun (far5_3 : Int) (x13_3 : Int) (k_3 : World) => [kn noM w.heap.size w k_3]) (fun (far5_3 : Int) (x13_3 : Int) (k_3 : World) (m : Nat) => iter (keep_Far_L0 l a) m (far5_3, x13_3) = some o2 ∧ Le w k_3) (fun (far5_3 : Int) (x13_3 : Int) (k_3 : World) => o2 = .go (far5_3, x13_3) ∧ Le w k_3) 0 0 w n5 ⟨ho6, (Le.refl _)⟩ ⟨rfl, rfl, rfl, rfl, rfl, trivial⟩ (fun w hw => hw.pick [1, 0] (by decide)) ?_ ?_
  · skip
    rintro far5_3 x13_3 k_3 ⟨rfl, hle_3⟩
    refine WQ.then ?_
    refine WC.seq ?_
    refine WC.region ?_
    refine WL.q rfl rfl rfl (QV.move rfl rfl) ?_
    refine WL.q rfl rfl rfl (QV.assign rfl rfl) ?_
    refine WL.nil ?_
    refine WQ.then ?_
    refine WC.ret ?_
    obtain rfl := (eq_of_some hm4).symm
    refine WQ.ret1 rfl rfl (fun w hw => ?_)
    exact ⟨rfl, Own.kgrow (fun _ x => x) hw⟩
  · skip
    rintro far5_3 x13_3 k_3 m7 ⟨hI8, hle_3⟩
    obtain ⟨m9, s10, rfl, hm11, hn12⟩ := iter_step hI8; clear hI8; unfold keep_Far_L0 at hm11; simp only at hm11
    refine WC.seq ?_
    refine WC.region ?_
    refine WL.q rfl rfl rfl (QV.lss rfl rfl rfl rfl) ?_
    refine WL.nil ?_
    refine WQ.then ?_
    refine WC.seq ?_
    refine WC.cond rfl (fun h13 => ?_) (fun h13 => ?_)
    · skip
      have hm14 := br_t h13 hm11; clear hm11
      refine WC.skip ?_
      refine WQ.then ?_
      refine WC.seq ?_
      refine WC.block ?_
      refine WC.seq ?_
      refine WC.region ?_
      obtain ⟨c15, hm16⟩ := ck_some hm14; clear hm14
      obtain ⟨p17, hp18⟩ := (h_l_body.le hle_3).lenMap.ix (sz := 9) ln_len c15
      refine WL.q rfl rfl rfl (QV.indexSlice sl23 rfl rfl rfl rfl hp18) ?_
      refine WL.q rfl rfl rfl (QV.loadAgg ag81 rfl rfl rfl (fun w hw => ((Own.karr 0 rfl hk (h_l_body.le hle_3)) w hw).ele hp18 c15)) ?_
      refine WL.effect rfl ?_
      refine (EV.alloc (by decide) ze81 (fun b19 => ?_))
      refine WL.effect rfl ?_
      refine (EV.store 0 rfl rfl rfl rfl rfl rfl (vs := [.int .i64 ((ele l.body x13_3).op), .int .i64 (((ele l.body x13_3).a).st), .int .i64 (((ele l.body x13_3).a).bk), .int .i64 (((ele l.body x13_3).b).st), .int .i64 (((ele l.body x13_3).b).bk), .int .i64 ((ele l.body x13_3).ar), .int .i64 ((ele l.body x13_3).sp), .int .i64 ((ele l.body x13_3).pl), .int .i64 ((ele l.body x13_3).n)]) (show Value.cells _ = List.toArray _ from rfl) sz81 (Nat.le_of_ble_eq_true rfl) (one_cons rfl (one_cons rfl (one_cons rfl (one_cons rfl (one_cons rfl (one_cons rfl (one_cons rfl (one_cons rfl (one_cons rfl one_nil))))))))) ?_)
      refine WL.nil ?_
      refine WQ.then ?_
      refine WC.seq ?_
      refine WC.region ?_
      refine WL.q rfl rfl rfl (QV.loadAgg ag81 rfl rfl rfl (Own.cellsBlk 0 rfl)) ?_
      refine WL.effect rfl ?_
      obtain ⟨x20, hx21, hm22⟩ := bd_some hm16; clear hm16
      refine EV.of (C' := Own noM w [kn noM w.heap.size w k_3, blk b19 [.int .i64 ((ele l.body x13_3).op), .int .i64 (((ele l.body x13_3).a).st), .int .i64 (((ele l.body x13_3).a).bk), .int .i64 (((ele l.body x13_3).b).st), .int .i64 (((ele l.body x13_3).b).bk), .int .i64 ((ele l.body x13_3).ar), .int .i64 ((ele l.body x13_3).sp), .int .i64 ((ele l.body x13_3).pl), .int .i64 ((ele l.body x13_3).n)] 81, blk b1 [v_l_logs, v_l_body, v_l_outs] 25]) (fun w hw => hw.pick [1, 0, 2] (by decide)) ?_
      refine (EV.callR (X := Value × World) (R := []) (fun X => X.1) (fun X => []) (fun X => X.2) (fun X => Arr X.2 X.1 2 (x20.map Rf.cells)) hk (fun _ h => by cases h; decide) en66 (EvAll.cons rfl rfl EvAll.nil) (fun M w h1 h2 => have h := loop_Uses_w hx21  M w h1 h2; h) (fun X23 hF23 hle23 => ?_))
      refine WL.q rfl rfl rfl (QV.lenS Try.underlying76 rfl rfl hF23.lenMap) ?_
      refine WL.q rfl rfl rfl (QV.move rfl rfl) ?_
      refine WL.nil ?_
      refine WQ.then ?_
      obtain ⟨o24, ho25, hm26⟩ := bd_some hm22; clear hm22; obtain ⟨n27, ho28⟩ := lp_some ho25
      refine WC.bloop2 (H2 := [kn noM w.heap.size w X23.2, blk b19 [.int .i64 ((ele l.body x13_3).op), .int .i64 (((ele l.body x13_3).a).st), .int .i64 (((ele l.body x13_3).a).bk), .int .i64 (((ele l.body x13_3).b).st), .int .i64 (((ele l.body x13_3).b).bk), .int .i64 ((ele l.body x13_3).ar), .int .i64 ((ele l.body x13_3).sp), .int .i64 ((ele l.body x13_3).pl), .int .i64 ((ele l.body x13_3).n)] 81, blk b1 [v_l_logs, v_l_body, v_l_outs] 25]) (τ := [(1, (true, _)), (11, (true, _)), (12, (true, _)), (13, (true, _)), (18, (true, _)), (19, (true, _))]) (fun (far5_4 : Int) (x20_4 : Int) => [(5, (true, .int .i64 far5_4)), (20, (true, .int .i64 x20_4))]) (fun (far5_4 : Int) (x20_4 : Int) => []) (fun (far5_4 : Int) (x20_4 : Int) (m : Nat) => iter (keep_Far_L2 a x20) m (far5_4, x20_4) = some o24) (fun (far5_4 : Int) (x20_4 : Int) => o24 = .go (far5_4, x20_4)) far5_3 0 n27 ho28 ⟨rfl, rfl, rfl, rfl, rfl, rfl, rfl, rfl, trivial⟩ (fun w hw => hw.pick [0, 1, 2] (by decide)) ?_ ?_
      · skip
        rintro far5_4 x20_4 rfl
        refine WQ.block ?_
        refine WQ.then ?_
        refine WC.region ?_
        obtain ⟨c29, hm30⟩ := ck_some hm26; clear hm26
        refine WL.q rfl rfl rfl (QV.add rfl rfl rfl rfl c29) ?_
        refine WL.q rfl rfl rfl (QV.move rfl rfl) ?_
        refine WL.nil ?_
        exact WQ.again3 far5_4 (x13_3 + 1) X23.2 m9 ⟨up_next hm30 hn12, (hle_3.trans hle23)⟩ (Nat.lt_succ_self _) ⟨rfl, rfl, rfl, rfl, rfl, trivial⟩ (fun w hw => hw.pick [0, 2] (by decide))
      · skip
        rintro far5_4 x20_4 m31 hI32
        obtain ⟨m33, s34, rfl, hm35, hn36⟩ := iter_step hI32; clear hI32; unfold keep_Far_L2 at hm35; simp only at hm35
        refine WC.seq ?_
        refine WC.region ?_
        refine WL.q rfl rfl rfl (QV.lss rfl rfl rfl rfl) ?_
        refine WL.nil ?_
        refine WQ.then ?_
        refine WC.seq ?_
        refine WC.cond rfl (fun h37 => ?_) (fun h37 => ?_)
        · skip
          have hm38 := br_t h37 hm35; clear hm35
          refine WC.skip ?_
          refine WQ.then ?_
          refine WC.seq ?_
          refine WC.block ?_
          refine WC.seq ?_
          refine WC.region ?_
          obtain ⟨c39, hm40⟩ := ck_some hm38; clear hm38
          obtain ⟨p41, hp42⟩ := hF23.lenMap.ix (sz := 2) ln_len c39
          refine WL.q rfl rfl rfl (QV.indexSlice sl76 rfl rfl rfl rfl hp42) ?_
          refine WL.q rfl rfl rfl (QV.loadAgg ag79 rfl rfl rfl (fun w hw => ((Own.karr 0 rfl hk hF23) w hw).ele hp42 c39)) ?_
          refine WL.effect rfl ?_
          refine (EV.alloc (by decide) ze79 (fun b43 => ?_))
          refine WL.effect rfl ?_
          refine (EV.store 0 rfl rfl rfl rfl rfl rfl (vs := [.int .i64 ((ele x20 x20_4).st), .int .i64 ((ele x20 x20_4).bk)]) (show Value.cells _ = List.toArray _ from rfl) sz79 (Nat.le_of_ble_eq_true rfl) (one_cons rfl (one_cons rfl one_nil)) ?_)
          refine WL.nil ?_
          refine WQ.then ?_
          refine WC.seq ?_
          refine WC.region ?_
          refine WL.q rfl rfl rfl (QV.fieldAddr fd79_0 rfl rfl) ?_
          refine WL.q rfl rfl rfl (QV.load pl3 rfl rfl (Own.cell 0 rfl rfl)) ?_
          refine WL.q rfl rfl rfl (QV.move rfl rfl) ?_
          refine WL.q rfl rfl rfl (QV.eql rfl rfl rfl rfl) ?_
          refine WL.nil ?_
          refine WQ.then ?_
          refine WC.cond rfl (fun h44 => ?_) (fun h44 => ?_)
          · skip
            have hm45 := br_t h44 hm40; clear hm40
            refine WC.region ?_
            refine WL.q rfl rfl rfl (QV.move rfl rfl) ?_
            refine WL.q rfl rfl rfl (QV.fieldAddr fd79_1 rfl rfl) ?_
            refine WL.q rfl rfl rfl (QV.load pl3 rfl rfl (Own.cell 0 rfl rfl)) ?_
            refine WL.q rfl rfl rfl (QV.max2 rfl rfl rfl rfl) ?_
            refine WL.q rfl rfl rfl (QV.assign rfl rfl) ?_
            refine WL.nil ?_
            refine WQ.block ?_
            refine WQ.then ?_
            refine WC.region ?_
            obtain ⟨c46, hm47⟩ := ck_some hm45; clear hm45
            refine WL.q rfl rfl rfl (QV.add rfl rfl rfl rfl c46) ?_
            refine WL.q rfl rfl rfl (QV.move rfl rfl) ?_
            refine WL.nil ?_
            exact WQ.again2 (max far5_4 ((ele x20 x20_4).bk)) (x20_4 + 1) m33 (up_next hm47 hn36) (Nat.lt_succ_self _) ⟨rfl, rfl, rfl, rfl, rfl, rfl, rfl, rfl, trivial⟩ (fun w hw => hw.pick [1, 2, 3] (by decide))
          · skip
            have hm48 := br_f h44 hm40; clear hm40
            refine WC.skip ?_
            refine WQ.block ?_
            refine WQ.then ?_
            refine WC.region ?_
            obtain ⟨c49, hm50⟩ := ck_some hm48; clear hm48
            refine WL.q rfl rfl rfl (QV.add rfl rfl rfl rfl c49) ?_
            refine WL.q rfl rfl rfl (QV.move rfl rfl) ?_
            refine WL.nil ?_
            exact WQ.again2 far5_4 (x20_4 + 1) m33 (up_next hm50 hn36) (Nat.lt_succ_self _) ⟨rfl, rfl, rfl, rfl, rfl, rfl, rfl, rfl, trivial⟩ (fun w hw => hw.pick [1, 2, 3] (by decide))
        · skip
          have hm51 := br_f h37 hm35; clear hm35
          refine WC.exit ?_
          refine WQ.then_exit ?_
          refine WQ.then_exit ?_
          refine WQ.block_exit ?_
          exact WQ.out2 far5_4 x20_4 (up_brk hm51 hn36) ⟨rfl, rfl, rfl, rfl, rfl, rfl, rfl, rfl, trivial⟩ (fun w hw => hw.pick [0, 1, 2] (by decide))
    · skip
      have hm52 := br_f h13 hm11; clear hm11
      refine WC.exit ?_
      refine WQ.then_exit ?_
      refine WQ.then_exit ?_
      refine WQ.block_exit ?_
      exact WQ.out3 far5_3 x13_3 k_3 ⟨up_brk hm52 hn12, hle_3⟩ ⟨rfl, rfl, rfl, rfl, rfl, trivial⟩ (fun w hw => hw.pick [0, 1] (by decide))

set_option maxRecDepth 8000 in
theorem slices_Index___int_int__w {v_s : Value} {s : List Int} {v : Int} {r : Int} (w : World) (hm : slices_Index___int_int__m s v = some r) (h_s : Arr w v_s 1 (s.map icell)) : Calls Try.prog 138 #[v_s, .int .i64 v] w (fun e w' => e = .returned (.int .i64 r) ∧ Grow w w') := by
  unfold slices_Index___int_int__m at hm
  have hk := Base.rfl (w := w)
  refine calls_of_WC (n := 19) (args := [v_s, .int .i64 v]) Try.func138 rfl rfl (Nat.le_of_ble_eq_true rfl) ?_ (Own.startK hk (Own.start w))
  refine WC.seq ?_
  refine WC.region ?_
  refine WL.q rfl rfl rfl (QV.assign rfl rfl) ?_
  refine WL.nil ?_
  refine WQ.then ?_
  refine WC.seq ?_
  refine WC.seq ?_
  refine WC.region ?_
  refine WL.q rfl rfl rfl (QV.move rfl rfl) ?_
  refine WL.q rfl rfl rfl (QV.lenS Try.underlying22 rfl rfl h_s.lenMap) ?_
  refine WL.q rfl rfl rfl (QV.move rfl rfl) ?_
  refine WL.nil ?_
  refine WQ.then ?_
  obtain ⟨o1, ho2, hm3⟩ := bd_some hm; clear hm; obtain ⟨n4, ho5⟩ := lp_some ho2
  refine WC.bloop1 (H2 := [kn noM w.heap.size w w]) (τ := [(0, (true, _)), (1, (true, _)), (7, (true, _))]) (fun (x8_1 : Int) => [(8, (true, .int .i64 x8_1))]) (fun (x8_1 : Int) => []) (fun (x8_1 : Int) (m : Nat) => iter (slices_Index___int_int__L0 s v) m x8_1 = some o1) (fun (x8_1 : Int) => o1 = .go x8_1) 0 n4 ho5 ⟨rfl, rfl, rfl, rfl, trivial⟩ (fun w hw => hw.pick [0] (by decide)) ?_ ?_
  · skip
    rintro x8_1 rfl
    refine WQ.then ?_
    refine WC.seq ?_
    refine WC.region ?_
    refine WL.q rfl rfl rfl (QV.assign rfl rfl) ?_
    refine WL.nil ?_
    refine WQ.then ?_
    refine WC.ret ?_
    obtain rfl := (eq_of_some hm3).symm
    refine WQ.ret1 rfl rfl (fun w hw => ?_)
    exact ⟨rfl, Own.kgrow (fun _ x => x) hw⟩
  · skip
    rintro x8_1 m6 hI7
    obtain ⟨m8, s9, rfl, hm10, hn11⟩ := iter_step hI7; clear hI7; unfold slices_Index___int_int__L0 at hm10
    refine WC.seq ?_
    refine WC.region ?_
    refine WL.q rfl rfl rfl (QV.lss rfl rfl rfl rfl) ?_
    refine WL.nil ?_
    refine WQ.then ?_
    refine WC.seq ?_
    refine WC.cond rfl (fun h12 => ?_) (fun h12 => ?_)
    · skip
      have hm13 := br_t h12 hm10; clear hm10
      refine WC.skip ?_
      refine WQ.then ?_
      refine WC.seq ?_
      refine WC.block ?_
      refine WC.seq ?_
      refine WC.region ?_
      refine WL.q rfl rfl rfl (QV.move rfl rfl) ?_
      refine WL.q rfl rfl rfl (QV.assign rfl rfl) ?_
      refine WL.nil ?_
      refine WQ.then ?_
      refine WC.seq ?_
      refine WC.region ?_
      refine WL.q rfl rfl rfl (QV.move rfl rfl) ?_
      refine WL.q rfl rfl rfl (QV.move rfl rfl) ?_
      refine WL.q rfl rfl rfl (QV.move rfl rfl) ?_
      obtain ⟨c14, hm15⟩ := ck_some hm13; clear hm13
      obtain ⟨p16, hp17⟩ := h_s.lenMap.ix (sz := 1) ln_len c14
      refine WL.q rfl rfl rfl (QV.indexSlice sl22 rfl rfl rfl rfl hp17) ?_
      refine WL.q rfl rfl rfl (QV.load pl3 rfl rfl (fun w hw => CellsAt.one 0 (((Own.karr 0 rfl hk h_s) w hw).ele hp17 c14) rfl)) ?_
      refine WL.q rfl rfl rfl (QV.eql rfl rfl rfl rfl) ?_
      refine WL.nil ?_
      refine WQ.then ?_
      refine WC.cond rfl (fun h18 => ?_) (fun h18 => ?_)
      · skip
        have hm19 := br_t h18 hm15; clear hm15
        refine WC.seq ?_
        refine WC.region ?_
        refine WL.q rfl rfl rfl (QV.move rfl rfl) ?_
        refine WL.q rfl rfl rfl (QV.assign rfl rfl) ?_
        refine WL.nil ?_
        refine WQ.then ?_
        refine WC.ret ?_
        refine WQ.block_ret ?_
        refine WQ.then_ret ?_
        refine WQ.then_ret ?_
        refine WQ.block_ret ?_
        refine WQ.then_ret ?_
        refine WQ.then_ret ?_
        obtain rfl := up_ret hm19 hn11
        obtain rfl := (eq_of_some hm3).symm
        refine WQ.ret1 rfl rfl (fun w hw => ?_)
        exact ⟨rfl, Own.kgrow (fun _ x => x) hw⟩
      · skip
        have hm20 := br_f h18 hm15; clear hm15
        refine WC.skip ?_
        refine WQ.block ?_
        refine WQ.then ?_
        refine WC.region ?_
        obtain ⟨c21, hm22⟩ := ck_some hm20; clear hm20
        refine WL.q rfl rfl rfl (QV.add rfl rfl rfl rfl c21) ?_
        refine WL.q rfl rfl rfl (QV.move rfl rfl) ?_
        refine WL.nil ?_
        exact WQ.again1 (x8_1 + 1) m8 (up_next hm22 hn11) (Nat.lt_succ_self _) ⟨rfl, rfl, rfl, rfl, trivial⟩ (fun w hw => hw.pick [0] (by decide))
    · skip
      have hm23 := br_f h12 hm10; clear hm10
      refine WC.exit ?_
      refine WQ.then_exit ?_
      refine WQ.then_exit ?_
      refine WQ.block_exit ?_
      exact WQ.out1 x8_1 (up_brk hm23 hn11) ⟨rfl, rfl, rfl, rfl, trivial⟩ (fun w hw => hw.pick [0] (by decide))

set_option maxRecDepth 8000 in
theorem slices_Contains___int_int__w {v_s : Value} {s : List Int} {v : Int} {r : Bool} (w : World) (hm : slices_Contains___int_int__m s v = some r) (h_s : Arr w v_s 1 (s.map icell)) : Calls Try.prog 125 #[v_s, .int .i64 v] w (fun e w' => e = .returned (.bool r) ∧ Grow w w') := by
  unfold slices_Contains___int_int__m at hm
  have hk := Base.rfl (w := w)
  refine calls_of_WC (n := 9) (args := [v_s, .int .i64 v]) Try.func125 rfl rfl (Nat.le_of_ble_eq_true rfl) ?_ (Own.startK hk (Own.start w))
  refine WC.seq ?_
  refine WC.region ?_
  refine WL.q rfl rfl rfl (QV.assign rfl rfl) ?_
  refine WL.nil ?_
  refine WQ.then ?_
  refine WC.seq ?_
  refine WC.region ?_
  refine WL.q rfl rfl rfl (QV.move rfl rfl) ?_
  refine WL.q rfl rfl rfl (QV.move rfl rfl) ?_
  obtain ⟨x1, hx2, hm3⟩ := bd_some hm; clear hm
  refine WL.q rfl rfl rfl (QV.call en138 (EvAll.cons rfl rfl (EvAll.cons rfl rfl EvAll.nil)) (fun w hw => have h := slices_Index___int_int__w w hx2 ((Own.karr 0 rfl hk h_s) w hw); h)) ?_
  refine WL.q rfl rfl rfl (QV.geq rfl rfl rfl rfl) ?_
  refine WL.q rfl rfl rfl (QV.assign rfl rfl) ?_
  refine WL.nil ?_
  refine WQ.then ?_
  refine WC.ret ?_
  obtain rfl := (eq_of_some hm3).symm
  refine WQ.ret1 rfl rfl (fun w hw => ?_)
  exact ⟨rfl, Own.kgrow (fun _ x => x) hw⟩

set_option maxRecDepth 8000 in
theorem keep_Layout_uses_w {p_y : Addr} {v_y_Loop_Logs : Value} {v_y_Loop_Body : Value} {v_y_Loop_Outs : Value} {v_y_Time : Value} {v_y_Ready : Value} {v_y_Places : Value} {y_Loop_Body : List Stm} {y_Pace : Int} {y_Regs : Int} {y_Time : List Int} {a : Int} {r : List Use} {K0 : World} (hm : keep_Layout_uses_m y_Loop_Body y_Pace y_Regs y_Time a = some r) (h_y_Loop_Body : Arr K0 v_y_Loop_Body 9 (y_Loop_Body.map Stm.cells)) (h_y_Time : Arr K0 v_y_Time 1 (y_Time.map icell)) (hp_y : CellsAt K0 p_y [v_y_Loop_Logs, v_y_Loop_Body, v_y_Loop_Outs, .int .i64 y_Pace, .int .i64 y_Regs, v_y_Time, v_y_Ready, v_y_Places] 0) (M : Nat → Prop) (w : World) (hk : Base M K0 w) (hw0 : Own M w [] w) : Calls Try.prog 101 #[.pointer (some p_y), .int .i64 a] w (fun e w' => ∃ X : Value × World, e = .returned (X.1) ∧ Own M w (kn M w.heap.size K0 X.2 :: []) w' ∧ Arr X.2 X.1 2 (r.map Use.cells)) := by
  unfold keep_Layout_uses_m at hm
  refine calls_of_WC (n := 57) (args := [.pointer (some p_y), .int .i64 a]) Try.func101 rfl rfl (Nat.le_of_ble_eq_true rfl) ?_ (Own.startK hk hw0)
  refine WC.seq ?_
  refine WC.region ?_
  refine WL.q rfl rfl rfl (QV.assign rfl rfl) ?_
  refine WL.nil ?_
  refine WQ.then ?_
  refine WC.seq ?_
  refine WC.region ?_
  refine WL.q rfl rfl rfl (QV.assign rfl rfl) ?_
  refine WL.nil ?_
  refine WQ.then ?_
  refine WC.seq ?_
  refine WC.seq ?_
  refine WC.region ?_
  refine WL.q rfl rfl rfl (QV.move rfl rfl) ?_
  refine WL.q rfl rfl rfl (QV.nilCheck rfl rfl) ?_
  refine WL.q rfl rfl rfl (QV.fieldAddr fd87_0 rfl rfl) ?_
  refine WL.q rfl rfl rfl (QV.fieldAddr fd25_1 rfl rfl) ?_
  refine WL.q rfl rfl rfl (QV.load pl23 rfl rfl (fun w hw => CellsAt.one 1 ((Own.kcells 0 rfl hk hp_y) w hw) rfl)) ?_
  refine WL.q rfl rfl rfl (QV.lenS Try.underlying23 rfl rfl h_y_Loop_Body.lenMap) ?_
  refine WL.q rfl rfl rfl (QV.move rfl rfl) ?_
  refine WL.nil ?_
  refine WQ.then ?_
  refine WK.of (fun w hw => hw.vecNil (E := 185) (sz := 2) (enc := Use.cells)) ?_
  obtain ⟨o2, ho3, hm4⟩ := bd_some hm; clear hm; obtain ⟨n5, ho6⟩ := lp_some ho3
  refine WC.bloop4 (H2 := []) (τ := [(0, (true, _)), (1, (true, _)), (14, (true, _)), (15, (true, _))]) (fun (v1_4 : List Use) (x16_4 : Int) (uv1_4 : Value) (k_4 : World) => [(5, (true, uv1_4)), (16, (true, .int .i64 x16_4))]) (fun (v1_4 : List Use) (x16_4 : Int) (uv1_4 : Value) (k_4 : World) => [vec uv1_4 185 2 (List.map Use.cells v1_4), kn M w.heap.size K0 k_4]) (fun (v1_4 : List Use) (x16_4 : Int) (uv1_4 : Value) (k_4 : World) (m : Nat) => iter (keep_Layout_uses_L0 y_Loop_Body y_Pace y_Time a) m (v1_4, x16_4) = some o2 ∧ SliceLen uv1_4 v1_4.length ∧ Le K0 k_4) (fun (v1_4 : List Use) (x16_4 : Int) (uv1_4 : Value) (k_4 : World) => o2 = .go (v1_4, x16_4) ∧ SliceLen uv1_4 v1_4.length ∧ Le K0 k_4) [] 0 (.slice none 0 0) K0 n5 ⟨ho6, SliceLen.nil, (Le.refl _)⟩ ⟨rfl, rfl, rfl, rfl, rfl, rfl, trivial⟩ (fun w hw => hw.pick [0, 1] (by decide)) ?_ ?_
  · skip
    rintro v1_4 x16_4 uv1_4 k_4 ⟨rfl, hlv1_4, hle_4⟩
    refine WQ.then ?_
    refine WC.seq ?_
    refine WC.region ?_
    refine WL.q rfl rfl rfl (QV.move rfl rfl) ?_
    refine WL.q rfl rfl rfl (QV.assign rfl rfl) ?_
    refine WL.nil ?_
    refine WQ.then ?_
    refine WC.ret ?_
    obtain rfl := (eq_of_some hm4).symm
    refine WK.of (C' := Own M w [kn M w.heap.size K0 k_4, vec uv1_4 185 2 (List.map Use.cells v1_4)]) (fun w hw => hw.pick [1, 0] (by decide)) ?_
    refine WK.freeze hk (fun k7 hle7 hr7 => ?_)
    have hA7 := vec_arr hr7
    refine WQ.ret1 rfl rfl (fun w hw => ?_)
    exact ⟨(uv1_4, k7), rfl, hw.pick [0] (by decide), hA7⟩
  · skip
    rintro v1_4 x16_4 uv1_4 k_4 m8 ⟨hI9, hlv1_4, hle_4⟩
    obtain ⟨m10, s11, rfl, hm12, hn13⟩ := iter_step hI9; clear hI9; unfold keep_Layout_uses_L0 at hm12; simp only at hm12
    refine WC.seq ?_
    refine WC.region ?_
    refine WL.q rfl rfl rfl (QV.lss rfl rfl rfl rfl) ?_
    refine WL.nil ?_
    refine WQ.then ?_
    refine WC.seq ?_
    refine WC.cond rfl (fun h14 => ?_) (fun h14 => ?_)
    · skip
      have hm15 := br_t h14 hm12; clear hm12
      refine WC.skip ?_
      refine WQ.then ?_
      refine WC.seq ?_
      refine WC.block ?_
      refine WC.seq ?_
      refine WC.region ?_
      refine WL.q rfl rfl rfl (QV.move rfl rfl) ?_
      obtain ⟨c16, hm17⟩ := ck_some hm15; clear hm15
      obtain ⟨p18, hp19⟩ := (h_y_Loop_Body.le hle_4).lenMap.ix (sz := 9) ln_len c16
      refine WL.q rfl rfl rfl (QV.indexSlice sl23 rfl rfl rfl rfl hp19) ?_
      refine WL.q rfl rfl rfl (QV.loadAgg ag81 rfl rfl rfl (fun w hw => ((Own.karr 1 rfl hk (h_y_Loop_Body.le hle_4)) w hw).ele hp19 c16)) ?_
      refine WL.effect rfl ?_
      refine (EV.alloc (by decide) ze81 (fun b20 => ?_))
      refine WL.q rfl rfl rfl (QV.assign rfl rfl) ?_
      refine WL.effect rfl ?_
      refine (EV.store 0 rfl rfl rfl rfl rfl rfl (vs := [.int .i64 ((ele y_Loop_Body x16_4).op), .int .i64 (((ele y_Loop_Body x16_4).a).st), .int .i64 (((ele y_Loop_Body x16_4).a).bk), .int .i64 (((ele y_Loop_Body x16_4).b).st), .int .i64 (((ele y_Loop_Body x16_4).b).bk), .int .i64 ((ele y_Loop_Body x16_4).ar), .int .i64 ((ele y_Loop_Body x16_4).sp), .int .i64 ((ele y_Loop_Body x16_4).pl), .int .i64 ((ele y_Loop_Body x16_4).n)]) (show Value.cells _ = List.toArray _ from rfl) sz81 (Nat.le_of_ble_eq_true rfl) (one_cons rfl (one_cons rfl (one_cons rfl (one_cons rfl (one_cons rfl (one_cons rfl (one_cons rfl (one_cons rfl (one_cons rfl one_nil))))))))) ?_)
      refine WL.nil ?_
      refine WQ.then ?_
      refine WC.seq ?_
      refine WC.region ?_
      refine WL.q rfl rfl rfl (QV.loadAgg ag81 rfl rfl rfl (Own.cellsBlk 0 rfl)) ?_
      refine WL.effect rfl ?_
      obtain ⟨x21, hx22, hm23⟩ := bd_some hm17; clear hm17
      refine EV.of (C' := Own M w [kn M w.heap.size K0 k_4, blk b20 [.int .i64 ((ele y_Loop_Body x16_4).op), .int .i64 (((ele y_Loop_Body x16_4).a).st), .int .i64 (((ele y_Loop_Body x16_4).a).bk), .int .i64 (((ele y_Loop_Body x16_4).b).st), .int .i64 (((ele y_Loop_Body x16_4).b).bk), .int .i64 ((ele y_Loop_Body x16_4).ar), .int .i64 ((ele y_Loop_Body x16_4).sp), .int .i64 ((ele y_Loop_Body x16_4).pl), .int .i64 ((ele y_Loop_Body x16_4).n)] 81, vec uv1_4 185 2 (List.map Use.cells v1_4)]) (fun w hw => hw.pick [2, 0, 1] (by decide)) ?_
      refine (EV.callR (X := Value × World) (R := []) (fun X => X.1) (fun X => []) (fun X => X.2) (fun X => Arr X.2 X.1 2 (x21.map Rf.cells)) hk (fun _ h => by cases h; decide) en66 (EvAll.cons rfl rfl EvAll.nil) (fun M w h1 h2 => have h := loop_Uses_w hx22  M w h1 h2; h) (fun X24 hF24 hle24 => ?_))
      refine WL.q rfl rfl rfl (QV.lenS Try.underlying76 rfl rfl hF24.lenMap) ?_
      refine WL.q rfl rfl rfl (QV.move rfl rfl) ?_
      refine WL.nil ?_
      refine WQ.then ?_
      obtain ⟨o25, ho26, hm27⟩ := bd_some hm23; clear hm23; obtain ⟨n28, ho29⟩ := lp_some ho26
      refine WC.bloop3 (H2 := [kn M w.heap.size K0 X24.2, blk b20 [.int .i64 ((ele y_Loop_Body x16_4).op), .int .i64 (((ele y_Loop_Body x16_4).a).st), .int .i64 (((ele y_Loop_Body x16_4).a).bk), .int .i64 (((ele y_Loop_Body x16_4).b).st), .int .i64 (((ele y_Loop_Body x16_4).b).bk), .int .i64 ((ele y_Loop_Body x16_4).ar), .int .i64 ((ele y_Loop_Body x16_4).sp), .int .i64 ((ele y_Loop_Body x16_4).pl), .int .i64 ((ele y_Loop_Body x16_4).n)] 81]) (τ := [(0, (true, _)), (1, (true, _)), (6, (true, _)), (14, (true, _)), (15, (true, _)), (16, (true, _)), (22, (true, _)), (23, (true, _))]) (fun (v1_5 : List Use) (x24_5 : Int) (uv1_5 : Value) => [(5, (true, uv1_5)), (24, (true, .int .i64 x24_5))]) (fun (v1_5 : List Use) (x24_5 : Int) (uv1_5 : Value) => [vec uv1_5 185 2 (List.map Use.cells v1_5)]) (fun (v1_5 : List Use) (x24_5 : Int) (uv1_5 : Value) (m : Nat) => iter (keep_Layout_uses_L2 y_Pace y_Time a x16_4 x21) m (v1_5, x24_5) = some o25 ∧ SliceLen uv1_5 v1_5.length) (fun (v1_5 : List Use) (x24_5 : Int) (uv1_5 : Value) => o25 = .go (v1_5, x24_5) ∧ SliceLen uv1_5 v1_5.length) v1_4 0 uv1_4 n28 ⟨ho29, hlv1_4⟩ ⟨rfl, rfl, rfl, rfl, rfl, rfl, rfl, rfl, rfl, rfl, trivial⟩ (fun w hw => hw.pick [2, 0, 1] (by decide)) ?_ ?_
      · skip
        rintro v1_5 x24_5 uv1_5 ⟨rfl, hlv1_5⟩
        refine WQ.block ?_
        refine WQ.then ?_
        refine WC.region ?_
        obtain ⟨c30, hm31⟩ := ck_some hm27; clear hm27
        refine WL.q rfl rfl rfl (QV.add rfl rfl rfl rfl c30) ?_
        refine WL.q rfl rfl rfl (QV.move rfl rfl) ?_
        refine WL.nil ?_
        exact WQ.again4 v1_5 (x16_4 + 1) uv1_5 X24.2 m10 ⟨up_next hm31 hn13, hlv1_5, (hle_4.trans hle24)⟩ (Nat.lt_succ_self _) ⟨rfl, rfl, rfl, rfl, rfl, rfl, trivial⟩ (fun w hw => hw.pick [0, 1] (by decide))
      · skip
        rintro v1_5 x24_5 uv1_5 m32 ⟨hI33, hlv1_5⟩
        obtain ⟨m34, s35, rfl, hm36, hn37⟩ := iter_step hI33; clear hI33; unfold keep_Layout_uses_L2 at hm36; simp only at hm36
        refine WC.seq ?_
        refine WC.region ?_
        refine WL.q rfl rfl rfl (QV.lss rfl rfl rfl rfl) ?_
        refine WL.nil ?_
        refine WQ.then ?_
        refine WC.seq ?_
        refine WC.cond rfl (fun h38 => ?_) (fun h38 => ?_)
        · skip
          have hm39 := br_t h38 hm36; clear hm36
          refine WC.skip ?_
          refine WQ.then ?_
          refine WC.seq ?_
          refine WC.block ?_
          refine WC.seq ?_
          refine WC.region ?_
          obtain ⟨c40, hm41⟩ := ck_some hm39; clear hm39
          obtain ⟨p42, hp43⟩ := hF24.lenMap.ix (sz := 2) ln_len c40
          refine WL.q rfl rfl rfl (QV.indexSlice sl76 rfl rfl rfl rfl hp43) ?_
          refine WL.q rfl rfl rfl (QV.loadAgg ag79 rfl rfl rfl (fun w hw => ((Own.karr 1 rfl hk hF24) w hw).ele hp43 c40)) ?_
          refine WL.effect rfl ?_
          refine (EV.alloc (by decide) ze79 (fun b44 => ?_))
          refine WL.effect rfl ?_
          refine (EV.store 0 rfl rfl rfl rfl rfl rfl (vs := [.int .i64 ((ele x21 x24_5).st), .int .i64 ((ele x21 x24_5).bk)]) (show Value.cells _ = List.toArray _ from rfl) sz79 (Nat.le_of_ble_eq_true rfl) (one_cons rfl (one_cons rfl one_nil)) ?_)
          refine WL.nil ?_
          refine WQ.then ?_
          refine WC.seq ?_
          refine WC.region ?_
          refine WL.q rfl rfl rfl (QV.fieldAddr fd79_0 rfl rfl) ?_
          refine WL.q rfl rfl rfl (QV.load pl3 rfl rfl (Own.cell 0 rfl rfl)) ?_
          refine WL.q rfl rfl rfl (QV.move rfl rfl) ?_
          refine WL.q rfl rfl rfl (QV.eql rfl rfl rfl rfl) ?_
          refine WL.nil ?_
          refine WQ.then ?_
          refine WC.cond rfl (fun h45 => ?_) (fun h45 => ?_)
          · skip
            have hm46 := br_t h45 hm41; clear hm41
            refine WC.dr (m := 23) (S := Own M w [kn M w.heap.size K0 X24.2, blk b44 [.int .i64 ((ele x21 x24_5).st), .int .i64 ((ele x21 x24_5).bk)] 79, blk b20 [.int .i64 ((ele y_Loop_Body x16_4).op), .int .i64 (((ele y_Loop_Body x16_4).a).st), .int .i64 (((ele y_Loop_Body x16_4).a).bk), .int .i64 (((ele y_Loop_Body x16_4).b).st), .int .i64 (((ele y_Loop_Body x16_4).b).bk), .int .i64 ((ele y_Loop_Body x16_4).ar), .int .i64 ((ele y_Loop_Body x16_4).sp), .int .i64 ((ele y_Loop_Body x16_4).pl), .int .i64 ((ele y_Loop_Body x16_4).n)] 81]) (by kernel_rfl) (by kernel_rfl) (fun w hw => hw.pick [2, 0, 3] (by decide)) ?_
            refine WD.q 0 rfl (by kernel_rfl) rfl rfl rfl (QV.move rfl rfl) ?_
            refine WD.q 1 rfl (by kernel_rfl) rfl rfl rfl (QV.move rfl rfl) ?_
            refine WD.q 2 rfl (by kernel_rfl) rfl rfl rfl (QV.nilCheck rfl rfl) ?_
            refine WD.q 3 rfl (by kernel_rfl) rfl rfl rfl (QV.fieldAddr fd87_3 rfl rfl) ?_
            refine WD.q 4 rfl (by kernel_rfl) rfl rfl rfl (QV.load pl22 rfl rfl (fun w hw => CellsAt.one 5 ((Own.kcells 0 rfl hk (hp_y.le (hle_4.trans hle24))) w hw) rfl)) ?_
            refine WD.q 5 rfl (by kernel_rfl) rfl rfl rfl (QV.move rfl rfl) ?_
            obtain ⟨c47, hm48⟩ := ck_some hm46; clear hm46
            obtain ⟨p49, hp50⟩ := (h_y_Time.le (hle_4.trans hle24)).lenMap.ix (sz := 1) ln_len c47
            refine WD.q 6 rfl (by kernel_rfl) rfl rfl rfl (QV.indexSlice sl22 rfl rfl rfl rfl hp50) ?_
            refine WD.q 7 rfl (by kernel_rfl) rfl rfl rfl (QV.load pl3 rfl rfl (fun w hw => CellsAt.one 0 (((Own.karr 0 rfl hk (h_y_Time.le (hle_4.trans hle24))) w hw).ele hp50 c47) rfl)) ?_
            refine WD.q 8 rfl (by kernel_rfl) rfl rfl rfl (QV.fieldAddr fd79_1 rfl rfl) ?_
            refine WD.q 9 rfl (by kernel_rfl) rfl rfl rfl (QV.load pl3 rfl rfl (Own.cell 1 rfl rfl)) ?_
            refine WD.q 10 rfl (by kernel_rfl) rfl rfl rfl (QV.move rfl rfl) ?_
            refine WD.q 11 rfl (by kernel_rfl) rfl rfl rfl (QV.nilCheck rfl rfl) ?_
            refine WD.q 12 rfl (by kernel_rfl) rfl rfl rfl (QV.fieldAddr fd87_1 rfl rfl) ?_
            refine WD.q 13 rfl (by kernel_rfl) rfl rfl rfl (QV.load pl3 rfl rfl (fun w hw => CellsAt.one 3 ((Own.kcells 0 rfl hk (hp_y.le (hle_4.trans hle24))) w hw) rfl)) ?_
            obtain ⟨c51, hm52⟩ := ck_some hm48; clear hm48
            refine WD.q 14 rfl (by kernel_rfl) rfl rfl rfl (QV.mul rfl rfl rfl rfl c51) ?_
            obtain ⟨c53, hm54⟩ := ck_some hm52; clear hm52
            refine WD.q 15 rfl (by kernel_rfl) rfl rfl rfl (QV.add rfl rfl rfl rfl c53) ?_
            refine WD.q 16 rfl (by kernel_rfl) rfl rfl rfl (QV.fieldAddr fd79_1 rfl rfl) ?_
            refine WD.q 17 rfl (by kernel_rfl) rfl rfl rfl (QV.load pl3 rfl rfl (Own.cell 1 rfl rfl)) ?_
            refine WD.q 18 rfl (by kernel_rfl) rfl rfl rfl (QV.gtr rfl rfl rfl rfl) ?_
            refine WD.q 19 rfl (by kernel_rfl) rfl rfl rfl (QV.build (ps := [(0, .tmp 47), (1, .tmp 50)]) (cells := [.int .i64 ((ele y_Time x16_4) + ((ele x21 x24_5).bk * y_Pace)), .bool (decide ((ele x21 x24_5).bk > 0))]) (EvAll.cons rfl rfl (EvAll.cons rfl rfl EvAll.nil)) (by kernel_rfl)) ?_
            refine WD.o 20 rfl (by kernel_rfl) rfl ?_
            refine (EV.buildSlice (by decide) sz_162 (by decide) (by decide) (ps := [(0, .tmp 51)]) (cells := [.int .i64 ((ele y_Time x16_4) + ((ele x21 x24_5).bk * y_Pace)), .bool (decide ((ele x21 x24_5).bk > 0))]) (EvAll.cons rfl rfl EvAll.nil) (by kernel_rfl) (fun b55 => ?_))
            refine WD.b (H' := [kn M w.heap.size K0 X24.2, blk b55 [.int .i64 ((ele y_Time x16_4) + ((ele x21 x24_5).bk * y_Pace)), .bool (decide ((ele x21 x24_5).bk > 0))] 185, blk b44 [.int .i64 ((ele x21 x24_5).st), .int .i64 ((ele x21 x24_5).bk)] 79, blk b20 [.int .i64 ((ele y_Loop_Body x16_4).op), .int .i64 (((ele y_Loop_Body x16_4).a).st), .int .i64 (((ele y_Loop_Body x16_4).a).bk), .int .i64 (((ele y_Loop_Body x16_4).b).st), .int .i64 (((ele y_Loop_Body x16_4).b).bk), .int .i64 ((ele y_Loop_Body x16_4).ar), .int .i64 ((ele y_Loop_Body x16_4).sp), .int .i64 ((ele y_Loop_Body x16_4).pl), .int .i64 ((ele y_Loop_Body x16_4).n)] 81]) (fun w hw => hw.pick [3, 0, 1, 4] (by decide)) (fun w hw => hw.pick [0, 2, 3] (by decide)) ?_
            refine WD.o 21 rfl (by kernel_rfl) rfl ?_
            obtain ⟨c56, hm57⟩ := ck_some hm54; clear hm54
            refine (EV.appendL (enc := Use.cells) (xs := v1_5) (ys := [(Use.mk ((ele y_Time x16_4) + ((ele x21 x24_5).bk * y_Pace)) (decide ((ele x21 x24_5).bk > 0)))]) ((v1_5 ++ [(Use.mk ((ele y_Time x16_4) + ((ele x21 x24_5).bk * y_Pace)) (decide ((ele x21 x24_5).bk > 0)))])) 2 (by decide) ve162 rfl rfl rfl rfl rfl (Own.blkArr 0 (rows := [(Use.mk ((ele y_Time x16_4) + ((ele x21 x24_5).bk * y_Pace)) (decide ((ele x21 x24_5).bk > 0)))].map Use.cells) rfl rfl (rows_len Use.cells_len)) Use.cells_len (Use.cells_one _) rfl c56.1 c56.2 (fun u58 hu59 => ?_))
            refine WD.b (H' := [kn M w.heap.size K0 X24.2, blk b55 [.int .i64 ((ele y_Time x16_4) + ((ele x21 x24_5).bk * y_Pace)), .bool (decide ((ele x21 x24_5).bk > 0))] 185, blk b44 [.int .i64 ((ele x21 x24_5).st), .int .i64 ((ele x21 x24_5).bk)] 79, vec u58 185 2 (List.map Use.cells (v1_5 ++ [(Use.mk ((ele y_Time x16_4) + ((ele x21 x24_5).bk * y_Pace)) (decide ((ele x21 x24_5).bk > 0)))])), blk b20 [.int .i64 ((ele y_Loop_Body x16_4).op), .int .i64 (((ele y_Loop_Body x16_4).a).st), .int .i64 (((ele y_Loop_Body x16_4).a).bk), .int .i64 (((ele y_Loop_Body x16_4).b).st), .int .i64 (((ele y_Loop_Body x16_4).b).bk), .int .i64 ((ele y_Loop_Body x16_4).ar), .int .i64 ((ele y_Loop_Body x16_4).sp), .int .i64 ((ele y_Loop_Body x16_4).pl), .int .i64 ((ele y_Loop_Body x16_4).n)] 81]) (fun w hw => hw.pick [3, 0, 1, 2, 4] (by decide)) (fun w hw => hw.pick [0, 1, 2, 4] (by decide)) ?_
            refine WD.q 22 rfl (by kernel_rfl) rfl rfl rfl (QV.assign rfl rfl) ?_
            refine WD.e (by kernel_rfl) ?_
            refine WQ.block ?_
            refine WQ.then ?_
            refine WC.region ?_
            obtain ⟨c60, hm61⟩ := ck_some hm57; clear hm57
            refine WL.q rfl rfl rfl (QV.add rfl rfl rfl rfl c60) ?_
            refine WL.q rfl rfl rfl (QV.move rfl rfl) ?_
            refine WL.nil ?_
            exact WQ.again3 (v1_5 ++ [(Use.mk ((ele y_Time x16_4) + ((ele x21 x24_5).bk * y_Pace)) (decide ((ele x21 x24_5).bk > 0)))]) (x24_5 + 1) u58 m34 ⟨up_next hm61 hn37, hu59⟩ (Nat.lt_succ_self _) ⟨rfl, rfl, rfl, rfl, rfl, rfl, rfl, rfl, rfl, rfl, trivial⟩ (fun w hw => hw.pick [2, 3, 4] (by decide))
          · skip
            have hm62 := br_f h45 hm41; clear hm41
            refine WC.skip ?_
            refine WQ.block ?_
            refine WQ.then ?_
            refine WC.region ?_
            obtain ⟨c63, hm64⟩ := ck_some hm62; clear hm62
            refine WL.q rfl rfl rfl (QV.add rfl rfl rfl rfl c63) ?_
            refine WL.q rfl rfl rfl (QV.move rfl rfl) ?_
            refine WL.nil ?_
            exact WQ.again3 v1_5 (x24_5 + 1) uv1_5 m34 ⟨up_next hm64 hn37, hlv1_5⟩ (Nat.lt_succ_self _) ⟨rfl, rfl, rfl, rfl, rfl, rfl, rfl, rfl, rfl, rfl, trivial⟩ (fun w hw => hw.pick [1, 2, 3] (by decide))
        · skip
          have hm65 := br_f h38 hm36; clear hm36
          refine WC.exit ?_
          refine WQ.then_exit ?_
          refine WQ.then_exit ?_
          refine WQ.block_exit ?_
          exact WQ.out3 v1_5 x24_5 uv1_5 ⟨up_brk hm65 hn37, hlv1_5⟩ ⟨rfl, rfl, rfl, rfl, rfl, rfl, rfl, rfl, rfl, rfl, trivial⟩ (fun w hw => hw.pick [0, 1, 2] (by decide))
    · skip
      have hm66 := br_f h14 hm12; clear hm12
      refine WC.exit ?_
      refine WQ.then_exit ?_
      refine WQ.then_exit ?_
      refine WQ.block_exit ?_
      exact WQ.out4 v1_4 x16_4 uv1_4 k_4 ⟨up_brk hm66 hn13, hlv1_4, hle_4⟩ ⟨rfl, rfl, rfl, rfl, rfl, rfl, trivial⟩ (fun w hw => hw.pick [0, 1] (by decide))

set_option maxRecDepth 8000 in
theorem keep_Layout_bad_w {p_y : Addr} {v_y_Loop_Logs : Value} {v_y_Loop_Body : Value} {v_y_Loop_Outs : Value} {v_y_Time : Value} {v_y_Ready : Value} {v_y_Places : Value} {v_uses : Value} {y_Loop_Outs : List Int} {y_Pace : Int} {y_Regs : Int} {y_Ready : List Int} {a : Int} {m_ : Int} {j : Int} {uses : List Use} {r : Bool} (w : World) (hm : keep_Layout_bad_m y_Loop_Outs y_Pace y_Regs y_Ready a m_ j uses = some r) (h_y_Loop_Outs : Arr w v_y_Loop_Outs 1 (y_Loop_Outs.map icell)) (h_y_Ready : Arr w v_y_Ready 1 (y_Ready.map icell)) (hp_y : CellsAt w p_y [v_y_Loop_Logs, v_y_Loop_Body, v_y_Loop_Outs, .int .i64 y_Pace, .int .i64 y_Regs, v_y_Time, v_y_Ready, v_y_Places] 0) (h_uses : Arr w v_uses 2 (uses.map Use.cells)) : Calls Try.prog 102 #[.pointer (some p_y), .int .i64 a, .int .i64 m_, .int .i64 j, v_uses] w (fun e w' => e = .returned (.bool r) ∧ Grow w w') := by
  unfold keep_Layout_bad_m at hm
  have hk := Base.rfl (w := w)
  refine calls_of_WC (n := 86) (args := [.pointer (some p_y), .int .i64 a, .int .i64 m_, .int .i64 j, v_uses]) Try.func102 rfl rfl (Nat.le_of_ble_eq_true rfl) ?_ (Own.startK hk (Own.start w))
  refine WC.seq ?_
  refine WC.region ?_
  refine WL.q rfl rfl rfl (QV.assign rfl rfl) ?_
  refine WL.nil ?_
  refine WQ.then ?_
  refine WC.seq ?_
  refine WC.dr (m := 15) (by kernel_rfl) (by kernel_rfl) (fun w hw => hw) ?_
  refine WD.q 0 rfl (by kernel_rfl) rfl rfl rfl (QV.move rfl rfl) ?_
  refine WD.q 1 rfl (by kernel_rfl) rfl rfl rfl (QV.nilCheck rfl rfl) ?_
  refine WD.q 2 rfl (by kernel_rfl) rfl rfl rfl (QV.fieldAddr fd87_4 rfl rfl) ?_
  refine WD.q 3 rfl (by kernel_rfl) rfl rfl rfl (QV.load pl22 rfl rfl (fun w hw => CellsAt.one 6 ((Own.kcells 0 rfl hk hp_y) w hw) rfl)) ?_
  refine WD.q 4 rfl (by kernel_rfl) rfl rfl rfl (QV.move rfl rfl) ?_
  obtain ⟨c1, hm2⟩ := ck_some hm; clear hm
  obtain ⟨p3, hp4⟩ := h_y_Ready.lenMap.ix (sz := 1) ln_len c1
  refine WD.q 5 rfl (by kernel_rfl) rfl rfl rfl (QV.indexSlice sl22 rfl rfl rfl rfl hp4) ?_
  refine WD.q 6 rfl (by kernel_rfl) rfl rfl rfl (QV.load pl3 rfl rfl (fun w hw => CellsAt.one 0 (((Own.karr 0 rfl hk h_y_Ready) w hw).ele hp4 c1) rfl)) ?_
  refine WD.q 7 rfl (by kernel_rfl) rfl rfl rfl (QV.move rfl rfl) ?_
  refine WD.q 8 rfl (by kernel_rfl) rfl rfl rfl (QV.move rfl rfl) ?_
  refine WD.q 9 rfl (by kernel_rfl) rfl rfl rfl (QV.nilCheck rfl rfl) ?_
  refine WD.q 10 rfl (by kernel_rfl) rfl rfl rfl (QV.fieldAddr fd87_1 rfl rfl) ?_
  refine WD.q 11 rfl (by kernel_rfl) rfl rfl rfl (QV.load pl3 rfl rfl (fun w hw => CellsAt.one 3 ((Own.kcells 0 rfl hk hp_y) w hw) rfl)) ?_
  obtain ⟨c5, hm6⟩ := ck_some hm2; clear hm2
  refine WD.q 12 rfl (by kernel_rfl) rfl rfl rfl (QV.mul rfl rfl rfl rfl c5) ?_
  obtain ⟨c7, hm8⟩ := ck_some hm6; clear hm6
  refine WD.q 13 rfl (by kernel_rfl) rfl rfl rfl (QV.add rfl rfl rfl rfl c7) ?_
  refine WD.q 14 rfl (by kernel_rfl) rfl rfl rfl (QV.assign rfl rfl) ?_
  refine WD.e (by kernel_rfl) ?_
  refine WQ.then ?_
  refine WC.seq ?_
  refine WC.seq ?_
  refine WC.region ?_
  refine WL.q rfl rfl rfl (QV.move rfl rfl) ?_
  refine WL.q rfl rfl rfl (QV.lenS Try.underlying162 rfl rfl h_uses.lenMap) ?_
  refine WL.q rfl rfl rfl (QV.move rfl rfl) ?_
  refine WL.nil ?_
  refine WQ.then ?_
  obtain ⟨o9, ho10, hm11⟩ := bd_some hm8; clear hm8; obtain ⟨n12, ho13⟩ := lp_some ho10
  refine WC.bloop1 (H2 := [kn noM w.heap.size w w]) (τ := [(0, (true, _)), (1, (true, _)), (3, (true, _)), (11, (true, _)), (28, (true, _)), (29, (true, _))]) (fun (x30_1 : Int) => [(30, (true, .int .i64 x30_1))]) (fun (x30_1 : Int) => []) (fun (x30_1 : Int) (m : Nat) => iter (keep_Layout_bad_L0 y_Pace y_Ready a m_ j uses) m x30_1 = some o9) (fun (x30_1 : Int) => o9 = .go x30_1) 0 n12 ho13 ⟨rfl, rfl, rfl, rfl, rfl, rfl, rfl, trivial⟩ (fun w hw => hw.pick [0] (by decide)) ?_ ?_
  · skip
    rintro x30_1 rfl
    refine WQ.then ?_
    refine WC.seq ?_
    refine WC.region ?_
    refine WL.q rfl rfl rfl (QV.move rfl rfl) ?_
    refine WL.q rfl rfl rfl (QV.leq rfl rfl rfl rfl) ?_
    refine WL.q rfl rfl rfl (QV.move rfl rfl) ?_
    refine WL.g rfl rfl (GuardIs.pos rfl rfl) (fun hG => QV.move rfl rfl) ?_
    refine WL.g rfl rfl (GuardIs.pos rfl rfl) (fun hG => QV.move rfl rfl) ?_
    refine WL.g rfl rfl (GuardIs.pos rfl rfl) (fun hG => QV.nilCheck rfl hG) ?_
    refine WL.g rfl rfl (GuardIs.pos rfl rfl) (fun hG => QV.fieldAddr fd87_4 rfl hG) ?_
    refine WL.g rfl rfl (GuardIs.pos rfl rfl) (fun hG => QV.load pl22 rfl hG (fun w hw => CellsAt.one 6 ((Own.kcells 0 rfl hk hp_y) w hw) rfl)) ?_
    refine WL.g rfl rfl (GuardIs.pos rfl rfl) (fun hG => QV.move rfl rfl) ?_
    obtain ⟨c14, hm15⟩ := ck_some hm11; clear hm11
    obtain ⟨p16, hp17⟩ := h_y_Ready.lenMap.ixG (sz := 1) ln_len c14
    refine WL.g rfl rfl (GuardIs.pos rfl rfl) (fun hG => QV.indexSlice sl22 rfl hG rfl hG (hp17 hG)) ?_
    refine WL.g rfl rfl (GuardIs.pos rfl rfl) (fun hG => QV.load pl3 rfl hG (fun w hw => CellsAt.one 0 (((Own.karr 0 rfl hk h_y_Ready) w hw).ele (hp17 hG) (c14 hG)) rfl)) ?_
    refine WL.g rfl rfl (GuardIs.pos rfl rfl) (fun hG => QV.geq rfl hG rfl hG) ?_
    refine WL.q rfl rfl rfl (QV.pickAnd rfl rfl rfl (fun h => h)) ?_
    refine WL.q rfl rfl rfl (QV.move rfl rfl) ?_
    refine WL.g rfl rfl (GuardIs.pos rfl rfl) (fun hG => QV.move rfl rfl) ?_
    refine WL.g rfl rfl (GuardIs.pos rfl rfl) (fun hG => QV.nilCheck rfl hG) ?_
    refine WL.g rfl rfl (GuardIs.pos rfl rfl) (fun hG => QV.fieldAddr fd87_0 rfl hG) ?_
    refine WL.g rfl rfl (GuardIs.pos rfl rfl) (fun hG => QV.fieldAddr fd25_2 rfl hG) ?_
    refine WL.g rfl rfl (GuardIs.pos rfl rfl) (fun hG => QV.load pl22 rfl hG (fun w hw => CellsAt.one 2 ((Own.kcells 0 rfl hk hp_y) w hw) rfl)) ?_
    refine WL.g rfl rfl (GuardIs.pos rfl rfl) (fun hG => QV.move rfl rfl) ?_
    obtain ⟨x18, hx19, hm20⟩ := bdG_some hm15; clear hm15
    refine WL.g rfl rfl (GuardIs.pos rfl rfl) (fun hG => QV.call en125 (EvAll.cons rfl hG (EvAll.cons rfl hG EvAll.nil)) (fun w hw => have h := slices_Contains___int_int__w w (hx19 hG) ((Own.karr 0 rfl hk h_y_Loop_Outs) w hw); h)) ?_
    refine WL.q rfl rfl rfl (QV.pickAnd rfl rfl rfl (fun h => h)) ?_
    refine WL.q rfl rfl rfl (QV.assign rfl rfl) ?_
    refine WL.nil ?_
    refine WQ.then ?_
    refine WC.ret ?_
    obtain rfl := (eq_of_some hm20).symm
    refine WQ.ret1 rfl rfl (fun w hw => ?_)
    exact ⟨rfl, Own.kgrow (fun _ x => x) hw⟩
  · skip
    rintro x30_1 m21 hI22
    obtain ⟨m23, s24, rfl, hm25, hn26⟩ := iter_step hI22; clear hI22; unfold keep_Layout_bad_L0 at hm25
    refine WC.seq ?_
    refine WC.region ?_
    refine WL.q rfl rfl rfl (QV.lss rfl rfl rfl rfl) ?_
    refine WL.nil ?_
    refine WQ.then ?_
    refine WC.seq ?_
    refine WC.cond rfl (fun h27 => ?_) (fun h27 => ?_)
    · skip
      have hm28 := br_t h27 hm25; clear hm25
      refine WC.skip ?_
      refine WQ.then ?_
      refine WC.seq ?_
      refine WC.block ?_
      refine WC.seq ?_
      refine WC.region ?_
      obtain ⟨c29, hm30⟩ := ck_some hm28; clear hm28
      obtain ⟨p31, hp32⟩ := h_uses.lenMap.ix (sz := 2) ln_len c29
      refine WL.q rfl rfl rfl (QV.indexSlice sl162 rfl rfl rfl rfl hp32) ?_
      refine WL.q rfl rfl rfl (QV.loadAgg ag185 rfl rfl rfl (fun w hw => ((Own.karr 0 rfl hk h_uses) w hw).ele hp32 c29)) ?_
      refine WL.effect rfl ?_
      refine (EV.alloc (by decide) ze185 (fun b33 => ?_))
      refine WL.effect rfl ?_
      refine (EV.store 0 rfl rfl rfl rfl rfl rfl (vs := [.int .i64 ((ele uses x30_1).til), .bool ((ele uses x30_1).later)]) (show Value.cells _ = List.toArray _ from rfl) sz185 (Nat.le_of_ble_eq_true rfl) (one_cons rfl (one_cons rfl one_nil)) ?_)
      refine WL.nil ?_
      refine WQ.then ?_
      refine WC.seq ?_
      refine WC.region ?_
      refine WL.q rfl rfl rfl (QV.move rfl rfl) ?_
      refine WL.q rfl rfl rfl (QV.move rfl rfl) ?_
      refine WL.q rfl rfl rfl (QV.nilCheck rfl rfl) ?_
      refine WL.q rfl rfl rfl (QV.fieldAddr fd87_4 rfl rfl) ?_
      refine WL.q rfl rfl rfl (QV.load pl22 rfl rfl (fun w hw => CellsAt.one 6 ((Own.kcells 1 rfl hk hp_y) w hw) rfl)) ?_
      refine WL.q rfl rfl rfl (QV.move rfl rfl) ?_
      obtain ⟨c34, hm35⟩ := ck_some hm30; clear hm30
      obtain ⟨p36, hp37⟩ := h_y_Ready.lenMap.ix (sz := 1) ln_len c34
      refine WL.q rfl rfl rfl (QV.indexSlice sl22 rfl rfl rfl rfl hp37) ?_
      refine WL.q rfl rfl rfl (QV.load pl3 rfl rfl (fun w hw => CellsAt.one 0 (((Own.karr 1 rfl hk h_y_Ready) w hw).ele hp37 c34) rfl)) ?_
      refine WL.q rfl rfl rfl (QV.geq rfl rfl rfl rfl) ?_
      refine WL.q rfl rfl rfl (QV.move rfl rfl) ?_
      refine WL.g rfl rfl (GuardIs.pos rfl rfl) (fun hG => QV.move rfl rfl) ?_
      refine WL.g rfl rfl (GuardIs.pos rfl rfl) (fun hG => QV.fieldAddr fd185_0 rfl rfl) ?_
      refine WL.g rfl rfl (GuardIs.pos rfl rfl) (fun hG => QV.load pl3 rfl hG (Own.cell 0 rfl rfl)) ?_
      refine WL.g rfl rfl (GuardIs.pos rfl rfl) (fun hG => QV.leq rfl hG rfl hG) ?_
      refine WL.q rfl rfl rfl (QV.pickAnd rfl rfl rfl (fun h => h)) ?_
      refine WL.q rfl rfl rfl (QV.move rfl rfl) ?_
      refine WL.g rfl rfl (GuardIs.neg rfl rfl) (fun hG => QV.fieldAddr fd185_1 rfl rfl) ?_
      refine WL.g rfl rfl (GuardIs.neg rfl rfl) (fun hG => QV.load pl4 rfl hG (Own.cell 0 rfl rfl)) ?_
      refine WL.g rfl rfl (GuardIs.neg rfl rfl) (fun hG => QV.move rfl hG) ?_
      refine WL.g rfl rfl (GuardIs.posC rfl rfl) (fun hG => QV.move rfl rfl) ?_
      refine WL.g rfl rfl (GuardIs.posC rfl rfl) (fun hG => QV.gtr rfl hG rfl rfl) ?_
      refine WL.g rfl rfl (GuardIs.neg rfl rfl) (fun hG => QV.pickAnd rfl hG rfl (fun h => andT hG h)) ?_
      refine WL.g rfl rfl (GuardIs.neg rfl rfl) (fun hG => QV.move rfl hG) ?_
      refine WL.g rfl rfl (GuardIs.posC rfl rfl) (fun hG => QV.move rfl rfl) ?_
      refine WL.g rfl rfl (GuardIs.posC rfl rfl) (fun hG => QV.fieldAddr fd185_0 rfl rfl) ?_
      refine WL.g rfl rfl (GuardIs.posC rfl rfl) (fun hG => QV.load pl3 rfl hG (Own.cell 0 rfl rfl)) ?_
      refine WL.g rfl rfl (GuardIs.posC rfl rfl) (fun hG => QV.leq rfl hG rfl hG) ?_
      refine WL.g rfl rfl (GuardIs.neg rfl rfl) (fun hG => QV.pickAnd rfl hG rfl (fun h => andT hG h)) ?_
      refine WL.q rfl rfl rfl (QV.pickOr rfl rfl rfl (fun h => notF h)) ?_
      refine WL.nil ?_
      refine WQ.then ?_
      refine WC.cond rfl (fun h38 => ?_) (fun h38 => ?_)
      · skip
        have hm39 := br_t h38 hm35; clear hm35
        refine WC.seq ?_
        refine WC.region ?_
        refine WL.q rfl rfl rfl (QV.assign rfl rfl) ?_
        refine WL.nil ?_
        refine WQ.then ?_
        refine WC.ret ?_
        refine WQ.block_ret ?_
        refine WQ.then_ret ?_
        refine WQ.then_ret ?_
        refine WQ.block_ret ?_
        refine WQ.then_ret ?_
        refine WQ.then_ret ?_
        obtain rfl := up_ret hm39 hn26
        obtain rfl := (eq_of_some hm11).symm
        refine WQ.ret1 rfl rfl (fun w hw => ?_)
        exact ⟨rfl, Own.kgrow (fun _ x => x) hw⟩
      · skip
        have hm40 := br_f h38 hm35; clear hm35
        refine WC.skip ?_
        refine WQ.block ?_
        refine WQ.then ?_
        refine WC.region ?_
        obtain ⟨c41, hm42⟩ := ck_some hm40; clear hm40
        refine WL.q rfl rfl rfl (QV.add rfl rfl rfl rfl c41) ?_
        refine WL.q rfl rfl rfl (QV.move rfl rfl) ?_
        refine WL.nil ?_
        exact WQ.again1 (x30_1 + 1) m23 (up_next hm42 hn26) (Nat.lt_succ_self _) ⟨rfl, rfl, rfl, rfl, rfl, rfl, rfl, trivial⟩ (fun w hw => hw.pick [1] (by decide))
    · skip
      have hm43 := br_f h27 hm25; clear hm25
      refine WC.exit ?_
      refine WQ.then_exit ?_
      refine WQ.then_exit ?_
      refine WQ.block_exit ?_
      exact WQ.out1 x30_1 (up_brk hm43 hn26) ⟨rfl, rfl, rfl, rfl, rfl, rfl, rfl, trivial⟩ (fun w hw => hw.pick [0] (by decide))

set_option maxRecDepth 8000 in
theorem keep_Layout_Apart_w {p_y : Addr} {v_y_Loop_Logs : Value} {v_y_Loop_Body : Value} {v_y_Loop_Outs : Value} {v_y_Time : Value} {v_y_Ready : Value} {v_y_Places : Value} {y_Loop_Body : List Stm} {y_Loop_Outs : List Int} {y_Pace : Int} {y_Regs : Int} {y_Time : List Int} {y_Ready : List Int} {y_Places : List Int} {a : Int} {m_ : Int} {r : Bool} (w : World) (hm : keep_Layout_Apart_m y_Loop_Body y_Loop_Outs y_Pace y_Regs y_Time y_Ready y_Places a m_ = some r) (h_y_Loop_Body : Arr w v_y_Loop_Body 9 (y_Loop_Body.map Stm.cells)) (h_y_Loop_Outs : Arr w v_y_Loop_Outs 1 (y_Loop_Outs.map icell)) (h_y_Time : Arr w v_y_Time 1 (y_Time.map icell)) (h_y_Ready : Arr w v_y_Ready 1 (y_Ready.map icell)) (h_y_Places : Arr w v_y_Places 1 (y_Places.map icell)) (hp_y : CellsAt w p_y [v_y_Loop_Logs, v_y_Loop_Body, v_y_Loop_Outs, .int .i64 y_Pace, .int .i64 y_Regs, v_y_Time, v_y_Ready, v_y_Places] 0) : Calls Try.prog 63 #[.pointer (some p_y), .int .i64 a, .int .i64 m_] w (fun e w' => e = .returned (.bool r) ∧ Grow w w') := by
  unfold keep_Layout_Apart_m at hm
  have hk := Base.rfl (w := w)
  refine calls_of_WC (n := 88) (args := [.pointer (some p_y), .int .i64 a, .int .i64 m_]) Try.func63 rfl rfl (Nat.le_of_ble_eq_true rfl) ?_ (Own.startK hk (Own.start w))
  refine WC.seq ?_
  refine WC.region ?_
  refine WL.q rfl rfl rfl (QV.assign rfl rfl) ?_
  refine WL.nil ?_
  refine WQ.then ?_
  refine WC.seq ?_
  refine WC.region ?_
  refine WL.q rfl rfl rfl (QV.move rfl rfl) ?_
  refine WL.q rfl rfl rfl (QV.move rfl rfl) ?_
  refine WL.effect rfl ?_
  obtain ⟨x1, hx2, hm3⟩ := bd_some hm; clear hm
  refine (EV.callR (X := Value × World) (R := []) (fun X => X.1) (fun X => []) (fun X => X.2) (fun X => Arr X.2 X.1 2 (x1.map Use.cells)) hk (fun _ h => by cases h; decide) en101 (EvAll.cons rfl rfl (EvAll.cons rfl rfl EvAll.nil)) (fun M w h1 h2 => have h := keep_Layout_uses_w hx2 h_y_Loop_Body h_y_Time hp_y M w h1 h2; h) (fun X4 hF4 hle4 => ?_))
  refine WL.q rfl rfl rfl (QV.assign rfl rfl) ?_
  refine WL.nil ?_
  refine WQ.then ?_
  refine WC.seq ?_
  refine WC.dr (m := 31) (by kernel_rfl) (by kernel_rfl) (fun w hw => hw) ?_
  refine WD.q 0 rfl (by kernel_rfl) rfl rfl rfl (QV.move rfl rfl) ?_
  refine WD.q 1 rfl (by kernel_rfl) rfl rfl rfl (QV.nilCheck rfl rfl) ?_
  refine WD.q 2 rfl (by kernel_rfl) rfl rfl rfl (QV.fieldAddr fd87_5 rfl rfl) ?_
  refine WD.q 3 rfl (by kernel_rfl) rfl rfl rfl (QV.load pl22 rfl rfl (fun w hw => CellsAt.one 7 ((Own.kcells 0 rfl hk (hp_y.le hle4)) w hw) rfl)) ?_
  refine WD.q 4 rfl (by kernel_rfl) rfl rfl rfl (QV.move rfl rfl) ?_
  obtain ⟨c5, hm6⟩ := ck_some hm3; clear hm3
  obtain ⟨p7, hp8⟩ := (h_y_Places.le hle4).lenMap.ix (sz := 1) ln_len c5
  refine WD.q 5 rfl (by kernel_rfl) rfl rfl rfl (QV.indexSlice sl22 rfl rfl rfl rfl hp8) ?_
  refine WD.q 6 rfl (by kernel_rfl) rfl rfl rfl (QV.load pl3 rfl rfl (fun w hw => CellsAt.one 0 (((Own.karr 0 rfl hk (h_y_Places.le hle4)) w hw).ele hp8 c5) rfl)) ?_
  refine WD.q 7 rfl (by kernel_rfl) rfl rfl rfl (QV.move rfl rfl) ?_
  refine WD.q 8 rfl (by kernel_rfl) rfl rfl rfl (QV.nilCheck rfl rfl) ?_
  refine WD.q 9 rfl (by kernel_rfl) rfl rfl rfl (QV.fieldAddr fd87_5 rfl rfl) ?_
  refine WD.q 10 rfl (by kernel_rfl) rfl rfl rfl (QV.load pl22 rfl rfl (fun w hw => CellsAt.one 7 ((Own.kcells 0 rfl hk (hp_y.le hle4)) w hw) rfl)) ?_
  refine WD.q 11 rfl (by kernel_rfl) rfl rfl rfl (QV.move rfl rfl) ?_
  obtain ⟨c9, hm10⟩ := ck_some hm6; clear hm6
  obtain ⟨p11, hp12⟩ := (h_y_Places.le hle4).lenMap.ix (sz := 1) ln_len c9
  refine WD.q 12 rfl (by kernel_rfl) rfl rfl rfl (QV.indexSlice sl22 rfl rfl rfl rfl hp12) ?_
  refine WD.q 13 rfl (by kernel_rfl) rfl rfl rfl (QV.load pl3 rfl rfl (fun w hw => CellsAt.one 0 (((Own.karr 0 rfl hk (h_y_Places.le hle4)) w hw).ele hp12 c9) rfl)) ?_
  obtain ⟨c13, hm14⟩ := ck_some hm10; clear hm10
  refine WD.q 14 rfl (by kernel_rfl) rfl rfl rfl (QV.sub rfl rfl rfl rfl c13) ?_
  refine WD.q 15 rfl (by kernel_rfl) rfl rfl rfl (QV.move rfl rfl) ?_
  refine WD.q 16 rfl (by kernel_rfl) rfl rfl rfl (QV.nilCheck rfl rfl) ?_
  refine WD.q 17 rfl (by kernel_rfl) rfl rfl rfl (QV.fieldAddr fd87_2 rfl rfl) ?_
  refine WD.q 18 rfl (by kernel_rfl) rfl rfl rfl (QV.load pl3 rfl rfl (fun w hw => CellsAt.one 4 ((Own.kcells 0 rfl hk (hp_y.le hle4)) w hw) rfl)) ?_
  obtain ⟨c15, hm16⟩ := ck_some hm14; clear hm14
  refine WD.q 19 rfl (by kernel_rfl) rfl rfl rfl (QV.rem rfl rfl rfl rfl c15) ?_
  refine WD.q 20 rfl (by kernel_rfl) rfl rfl rfl (QV.move rfl rfl) ?_
  refine WD.q 21 rfl (by kernel_rfl) rfl rfl rfl (QV.nilCheck rfl rfl) ?_
  refine WD.q 22 rfl (by kernel_rfl) rfl rfl rfl (QV.fieldAddr fd87_2 rfl rfl) ?_
  refine WD.q 23 rfl (by kernel_rfl) rfl rfl rfl (QV.load pl3 rfl rfl (fun w hw => CellsAt.one 4 ((Own.kcells 0 rfl hk (hp_y.le hle4)) w hw) rfl)) ?_
  obtain ⟨c17, hm18⟩ := ck_some hm16; clear hm16
  refine WD.q 24 rfl (by kernel_rfl) rfl rfl rfl (QV.add rfl rfl rfl rfl c17) ?_
  refine WD.q 25 rfl (by kernel_rfl) rfl rfl rfl (QV.move rfl rfl) ?_
  refine WD.q 26 rfl (by kernel_rfl) rfl rfl rfl (QV.nilCheck rfl rfl) ?_
  refine WD.q 27 rfl (by kernel_rfl) rfl rfl rfl (QV.fieldAddr fd87_2 rfl rfl) ?_
  refine WD.q 28 rfl (by kernel_rfl) rfl rfl rfl (QV.load pl3 rfl rfl (fun w hw => CellsAt.one 4 ((Own.kcells 0 rfl hk (hp_y.le hle4)) w hw) rfl)) ?_
  obtain ⟨c19, hm20⟩ := ck_some hm18; clear hm18
  refine WD.q 29 rfl (by kernel_rfl) rfl rfl rfl (QV.rem rfl rfl rfl rfl c19) ?_
  refine WD.q 30 rfl (by kernel_rfl) rfl rfl rfl (QV.assign rfl rfl) ?_
  refine WD.e (by kernel_rfl) ?_
  refine WQ.then ?_
  refine WC.seq ?_
  refine WC.region ?_
  refine WL.q rfl rfl rfl (QV.move rfl rfl) ?_
  refine WL.q rfl rfl rfl (QV.nilCheck rfl rfl) ?_
  refine WL.q rfl rfl rfl (QV.fieldAddr fd87_1 rfl rfl) ?_
  refine WL.q rfl rfl rfl (QV.load pl3 rfl rfl (fun w hw => CellsAt.one 3 ((Own.kcells 0 rfl hk (hp_y.le hle4)) w hw) rfl)) ?_
  obtain ⟨c21, hm22⟩ := ck_some hm20; clear hm20
  obtain ⟨c23, hm24⟩ := ck_some hm22; clear hm22
  refine WL.q rfl rfl rfl (QV.quo rfl rfl rfl rfl c21 c23) ?_
  obtain ⟨c25, hm26⟩ := ck_some hm24; clear hm24
  refine WL.q rfl rfl rfl (QV.add rfl rfl rfl rfl c25) ?_
  refine WL.q rfl rfl rfl (QV.assign rfl rfl) ?_
  refine WL.nil ?_
  refine WQ.then ?_
  refine WC.seq ?_
  refine WC.seq ?_
  refine WC.dr (m := 15) (by kernel_rfl) (by kernel_rfl) (fun w hw => hw) ?_
  refine WD.q 0 rfl (by kernel_rfl) rfl rfl rfl (QV.move rfl rfl) ?_
  refine WD.q 1 rfl (by kernel_rfl) rfl rfl rfl (QV.move rfl rfl) ?_
  refine WD.q 2 rfl (by kernel_rfl) rfl rfl rfl (QV.move rfl rfl) ?_
  refine WD.q 3 rfl (by kernel_rfl) rfl rfl rfl (QV.nilCheck rfl rfl) ?_
  refine WD.q 4 rfl (by kernel_rfl) rfl rfl rfl (QV.fieldAddr fd87_2 rfl rfl) ?_
  refine WD.q 5 rfl (by kernel_rfl) rfl rfl rfl (QV.load pl3 rfl rfl (fun w hw => CellsAt.one 4 ((Own.kcells 0 rfl hk (hp_y.le hle4)) w hw) rfl)) ?_
  obtain ⟨c27, hm28⟩ := ck_some hm26; clear hm26
  obtain ⟨c29, hm30⟩ := ck_some hm28; clear hm28
  refine WD.q 6 rfl (by kernel_rfl) rfl rfl rfl (QV.quo rfl rfl rfl rfl c27 c29) ?_
  obtain ⟨c31, hm32⟩ := ck_some hm30; clear hm30
  refine WD.q 7 rfl (by kernel_rfl) rfl rfl rfl (QV.add rfl rfl rfl rfl c31) ?_
  refine WD.q 8 rfl (by kernel_rfl) rfl rfl rfl (QV.move rfl rfl) ?_
  refine WD.q 9 rfl (by kernel_rfl) rfl rfl rfl (QV.nilCheck rfl rfl) ?_
  refine WD.q 10 rfl (by kernel_rfl) rfl rfl rfl (QV.fieldAddr fd87_2 rfl rfl) ?_
  refine WD.q 11 rfl (by kernel_rfl) rfl rfl rfl (QV.load pl3 rfl rfl (fun w hw => CellsAt.one 4 ((Own.kcells 0 rfl hk (hp_y.le hle4)) w hw) rfl)) ?_
  obtain ⟨c33, hm34⟩ := ck_some hm32; clear hm32
  refine WD.q 12 rfl (by kernel_rfl) rfl rfl rfl (QV.mul rfl rfl rfl rfl c33) ?_
  obtain ⟨c35, hm36⟩ := ck_some hm34; clear hm34
  refine WD.q 13 rfl (by kernel_rfl) rfl rfl rfl (QV.sub rfl rfl rfl rfl c35) ?_
  refine WD.q 14 rfl (by kernel_rfl) rfl rfl rfl (QV.assign rfl rfl) ?_
  refine WD.e (by kernel_rfl) ?_
  refine WQ.then ?_
  obtain ⟨o37, ho38, hm39⟩ := bd_some hm36; clear hm36; obtain ⟨n40, ho41⟩ := lp_some ho38
  refine WC.bloop1 (H2 := [kn noM w.heap.size w X4.2]) (τ := [(0, (true, _)), (1, (true, _)), (2, (true, _)), (7, (true, _)), (9, (true, _))]) (fun (j10_1 : Int) => [(10, (true, .int .i64 j10_1))]) (fun (j10_1 : Int) => []) (fun (j10_1 : Int) (m : Nat) => iter (keep_Layout_Apart_L0 y_Loop_Outs y_Pace y_Regs y_Ready a m_ x1) m j10_1 = some o37) (fun (j10_1 : Int) => o37 = .go j10_1) ((Int.tmod ((Int.tmod ((ele y_Places a) - (ele y_Places m_)) y_Regs) + y_Regs) y_Regs) - (((Int.tdiv ((Int.tdiv 4000 y_Pace) + 1) y_Regs) + 2) * y_Regs)) n40 ho41 ⟨rfl, rfl, rfl, rfl, rfl, rfl, trivial⟩ (fun w hw => hw.pick [0] (by decide)) ?_ ?_
  · skip
    rintro j10_1 rfl
    refine WQ.then ?_
    refine WC.seq ?_
    refine WC.region ?_
    refine WL.q rfl rfl rfl (QV.assign rfl rfl) ?_
    refine WL.nil ?_
    refine WQ.then ?_
    refine WC.ret ?_
    obtain rfl := (eq_of_some hm39).symm
    refine WQ.ret1 rfl rfl (fun w hw => ?_)
    exact ⟨rfl, Own.kgrow (fun _ x => x) hw⟩
  · skip
    rintro j10_1 m42 hI43
    obtain ⟨m44, s45, rfl, hm46, hn47⟩ := iter_step hI43; clear hI43; unfold keep_Layout_Apart_L0 at hm46
    refine WC.seq ?_
    refine WC.seq ?_
    refine WC.region ?_
    refine WL.q rfl rfl rfl (QV.move rfl rfl) ?_
    refine WL.q rfl rfl rfl (QV.move rfl rfl) ?_
    refine WL.q rfl rfl rfl (QV.leq rfl rfl rfl rfl) ?_
    refine WL.nil ?_
    refine WQ.then ?_
    refine WC.cond rfl (fun h48 => ?_) (fun h48 => ?_)
    · skip
      have hm49 := br_t h48 hm46; clear hm46
      refine WC.skip ?_
      refine WQ.then ?_
      refine WC.seq ?_
      refine WC.block ?_
      refine WC.seq ?_
      refine WC.region ?_
      refine WL.q rfl rfl rfl (QV.move rfl rfl) ?_
      refine WL.q rfl rfl rfl (QV.move rfl rfl) ?_
      refine WL.q rfl rfl rfl (QV.neq rfl rfl rfl rfl) ?_
      refine WL.q rfl rfl rfl (QV.move rfl rfl) ?_
      refine WL.g rfl rfl (GuardIs.neg rfl rfl) (fun hG => QV.move rfl rfl) ?_
      refine WL.g rfl rfl (GuardIs.neg rfl rfl) (fun hG => QV.neq rfl hG rfl rfl) ?_
      refine WL.q rfl rfl rfl (QV.pickOr rfl rfl rfl (fun h => notF h)) ?_
      refine WL.q rfl rfl rfl (QV.move rfl rfl) ?_
      refine WL.g rfl rfl (GuardIs.pos rfl rfl) (fun hG => QV.move rfl rfl) ?_
      refine WL.g rfl rfl (GuardIs.pos rfl rfl) (fun hG => QV.move rfl rfl) ?_
      refine WL.g rfl rfl (GuardIs.pos rfl rfl) (fun hG => QV.move rfl rfl) ?_
      refine WL.g rfl rfl (GuardIs.pos rfl rfl) (fun hG => QV.move rfl rfl) ?_
      refine WL.g rfl rfl (GuardIs.pos rfl rfl) (fun hG => QV.move rfl rfl) ?_
      obtain ⟨x50, hx51, hm52⟩ := bdG_some hm49; clear hm49
      refine WL.g rfl rfl (GuardIs.pos rfl rfl) (fun hG => QV.call en102 (EvAll.cons rfl hG (EvAll.cons rfl hG (EvAll.cons rfl hG (EvAll.cons rfl hG (EvAll.cons rfl hG EvAll.nil))))) (fun w hw => have h := keep_Layout_bad_w w (hx51 hG) ((Own.karr 0 rfl hk (h_y_Loop_Outs.le hle4)) w hw) ((Own.karr 0 rfl hk (h_y_Ready.le hle4)) w hw) (Own.kcells 0 rfl hk (hp_y.le hle4) w hw) ((Own.karr 0 rfl hk hF4) w hw); h)) ?_
      refine WL.q rfl rfl rfl (QV.pickAnd rfl rfl rfl (fun h => h)) ?_
      refine WL.nil ?_
      refine WQ.then ?_
      refine WC.cond rfl (fun h53 => ?_) (fun h53 => ?_)
      · skip
        have hm54 := br_t h53 hm52; clear hm52
        refine WC.seq ?_
        refine WC.region ?_
        refine WL.q rfl rfl rfl (QV.assign rfl rfl) ?_
        refine WL.nil ?_
        refine WQ.then ?_
        refine WC.ret ?_
        refine WQ.block_ret ?_
        refine WQ.then_ret ?_
        refine WQ.then_ret ?_
        refine WQ.block_ret ?_
        refine WQ.then_ret ?_
        refine WQ.then_ret ?_
        obtain rfl := up_ret hm54 hn47
        obtain rfl := (eq_of_some hm39).symm
        refine WQ.ret1 rfl rfl (fun w hw => ?_)
        exact ⟨rfl, Own.kgrow (fun _ x => x) hw⟩
      · skip
        have hm55 := br_f h53 hm52; clear hm52
        refine WC.skip ?_
        refine WQ.block ?_
        refine WQ.then ?_
        refine WC.region ?_
        refine WL.q rfl rfl rfl (QV.move rfl rfl) ?_
        refine WL.q rfl rfl rfl (QV.move rfl rfl) ?_
        refine WL.q rfl rfl rfl (QV.nilCheck rfl rfl) ?_
        refine WL.q rfl rfl rfl (QV.fieldAddr fd87_2 rfl rfl) ?_
        refine WL.q rfl rfl rfl (QV.load pl3 rfl rfl (fun w hw => CellsAt.one 4 ((Own.kcells 0 rfl hk (hp_y.le hle4)) w hw) rfl)) ?_
        obtain ⟨c56, hm57⟩ := ck_some hm55; clear hm55
        refine WL.q rfl rfl rfl (QV.add rfl rfl rfl rfl c56) ?_
        refine WL.q rfl rfl rfl (QV.assign rfl rfl) ?_
        refine WL.nil ?_
        exact WQ.again1 (j10_1 + y_Regs) m44 (up_next hm57 hn47) (Nat.lt_succ_self _) ⟨rfl, rfl, rfl, rfl, rfl, rfl, trivial⟩ (fun w hw => hw.pick [0] (by decide))
    · skip
      have hm58 := br_f h48 hm46; clear hm46
      refine WC.exit ?_
      refine WQ.then_exit ?_
      refine WQ.then_exit ?_
      refine WQ.block_exit ?_
      exact WQ.out1 j10_1 (up_brk hm58 hn47) ⟨rfl, rfl, rfl, rfl, rfl, rfl, trivial⟩ (fun w hw => hw.pick [0] (by decide))

set_option maxRecDepth 8000 in
theorem keep_Layout_Firsts_w {p_y : Addr} {v_y_Loop_Logs : Value} {v_y_Loop_Body : Value} {v_y_Loop_Outs : Value} {v_y_Time : Value} {v_y_Ready : Value} {v_y_Places : Value} {v_l : Value} {y_Loop_Logs : List Int} {y_Loop_Body : List Stm} {y_Loop_Outs : List Int} {y_Pace : Int} {y_Regs : Int} {y_Places : List Int} {l : List Int} {r : Bool} (w : World) (hm : keep_Layout_Firsts_m y_Loop_Logs y_Loop_Body y_Loop_Outs y_Pace y_Regs y_Places l = some r) (h_y_Loop_Logs : Arr w v_y_Loop_Logs 1 (y_Loop_Logs.map icell)) (h_y_Loop_Body : Arr w v_y_Loop_Body 9 (y_Loop_Body.map Stm.cells)) (h_y_Loop_Outs : Arr w v_y_Loop_Outs 1 (y_Loop_Outs.map icell)) (h_y_Places : Arr w v_y_Places 1 (y_Places.map icell)) (hp_y : CellsAt w p_y [v_y_Loop_Logs, v_y_Loop_Body, v_y_Loop_Outs, .int .i64 y_Pace, .int .i64 y_Regs, v_y_Time, v_y_Ready, v_y_Places] 0) (h_l : Arr w v_l 1 (l.map icell)) : Calls Try.prog 64 #[.pointer (some p_y), v_l] w (fun e w' => e = .returned (.bool r) ∧ Grow w w') := by
  unfold keep_Layout_Firsts_m at hm
  have hk := Base.rfl (w := w)
  refine calls_of_WC (n := 58) (args := [.pointer (some p_y), v_l]) Try.func64 rfl rfl (Nat.le_of_ble_eq_true rfl) ?_ (Own.startK hk (Own.start w))
  refine WC.seq ?_
  refine WC.region ?_
  refine WL.q rfl rfl rfl (QV.assign rfl rfl) ?_
  refine WL.nil ?_
  refine WQ.then ?_
  refine WC.seq ?_
  refine WC.region ?_
  refine WL.effect rfl ?_
  refine (EV.makeMap (ke := kI) (ve := bv) (by decide) (fun b1 => ?_))
  refine WL.q rfl rfl rfl (QV.assign rfl rfl) ?_
  refine WL.nil ?_
  refine WQ.then ?_
  refine WC.seq ?_
  refine WC.seq ?_
  refine WC.region ?_
  refine WL.q rfl rfl rfl (QV.move rfl rfl) ?_
  refine WL.q rfl rfl rfl (QV.lenS Try.underlying22 rfl rfl h_l.lenMap) ?_
  refine WL.q rfl rfl rfl (QV.move rfl rfl) ?_
  refine WL.nil ?_
  refine WQ.then ?_
  obtain ⟨o2, ho3, hm4⟩ := bd_some hm; clear hm; obtain ⟨n5, ho6⟩ := lp_some ho3
  refine WC.bloop2 (H2 := [kn noM w.heap.size w w]) (τ := [(0, (true, _)), (5, (true, _)), (11, (true, _)), (12, (true, _))]) (fun (m1n_3 : List (Int × Bool)) (x13_3 : Int) => [(13, (true, .int .i64 x13_3))]) (fun (m1n_3 : List (Int × Bool)) (x13_3 : Int) => [mapR b1 kI bv m1n_3]) (fun (m1n_3 : List (Int × Bool)) (x13_3 : Int) (m : Nat) => iter (keep_Layout_Firsts_L0 y_Loop_Logs y_Loop_Body y_Loop_Outs y_Regs y_Places l) m (m1n_3, x13_3) = some o2) (fun (m1n_3 : List (Int × Bool)) (x13_3 : Int) => o2 = .go (m1n_3, x13_3)) ([] : List (Int × Bool)) 0 n5 ho6 ⟨rfl, rfl, rfl, rfl, rfl, trivial⟩ (fun w hw => hw.pick [0, 1] (by decide)) ?_ ?_
  · skip
    rintro m1n_3 x13_3 rfl
    refine WQ.then ?_
    refine WC.seq ?_
    refine WC.region ?_
    refine WL.q rfl rfl rfl (QV.assign rfl rfl) ?_
    refine WL.nil ?_
    refine WQ.then ?_
    refine WC.ret ?_
    obtain rfl := (eq_of_some hm4).symm
    refine WQ.ret1 rfl rfl (fun w hw => ?_)
    exact ⟨rfl, Own.kgrow (fun _ x => x) hw⟩
  · skip
    rintro m1n_3 x13_3 m7 hI8
    obtain ⟨m9, s10, rfl, hm11, hn12⟩ := iter_step hI8; clear hI8; unfold keep_Layout_Firsts_L0 at hm11; simp only at hm11
    refine WC.seq ?_
    refine WC.region ?_
    refine WL.q rfl rfl rfl (QV.lss rfl rfl rfl rfl) ?_
    refine WL.nil ?_
    refine WQ.then ?_
    refine WC.seq ?_
    refine WC.cond rfl (fun h13 => ?_) (fun h13 => ?_)
    · skip
      have hm14 := br_t h13 hm11; clear hm11
      refine WC.skip ?_
      refine WQ.then ?_
      refine WC.seq ?_
      refine WC.block ?_
      refine WC.seq ?_
      refine WC.region ?_
      obtain ⟨c15, hm16⟩ := ck_some hm14; clear hm14
      obtain ⟨p17, hp18⟩ := h_l.lenMap.ix (sz := 1) ln_len c15
      refine WL.q rfl rfl rfl (QV.indexSlice sl22 rfl rfl rfl rfl hp18) ?_
      refine WL.q rfl rfl rfl (QV.load pl3 rfl rfl (fun w hw => CellsAt.one 0 (((Own.karr 1 rfl hk h_l) w hw).ele hp18 c15) rfl)) ?_
      refine WL.q rfl rfl rfl (QV.assign rfl rfl) ?_
      refine WL.nil ?_
      refine WQ.then ?_
      refine WC.seq ?_
      refine WC.region ?_
      refine WL.q rfl rfl rfl (QV.move rfl rfl) ?_
      refine WL.q rfl rfl rfl (QV.nilCheck rfl rfl) ?_
      refine WL.q rfl rfl rfl (QV.fieldAddr fd87_0 rfl rfl) ?_
      refine WL.q rfl rfl rfl (QV.loadAgg ag25 rfl rfl rfl (fun w hw => CellsAt.sub 0 3 ((Own.kcells 1 rfl hk hp_y) w hw) rfl)) ?_
      refine WL.q rfl rfl rfl (QV.move rfl rfl) ?_
      obtain ⟨x19, hx20, hm21⟩ := bd_some hm16; clear hm16
      refine WL.q rfl rfl rfl (QV.call en36 (EvAll.cons rfl rfl (EvAll.cons rfl rfl EvAll.nil)) (fun w hw => have h := keep_Far_w w hx20 ((Own.karr 1 rfl hk h_y_Loop_Logs) w hw) ((Own.karr 1 rfl hk h_y_Loop_Body) w hw) ((Own.karr 1 rfl hk h_y_Loop_Outs) w hw); h)) ?_
      refine WL.q rfl rfl rfl (QV.move rfl rfl) ?_
      refine WL.nil ?_
      refine WQ.then ?_
      obtain ⟨o22, ho23, hm24⟩ := bd_some hm21; clear hm21; obtain ⟨n25, ho26⟩ := lp_some ho23
      refine WC.bloop2 (H2 := [kn noM w.heap.size w w]) (τ := [(0, (true, _)), (5, (true, _)), (7, (true, _)), (11, (true, _)), (12, (true, _)), (13, (true, _)), (22, (true, _))]) (fun (m1n_4 : List (Int × Bool)) (x23_4 : Int) => [(23, (true, .int .i64 x23_4))]) (fun (m1n_4 : List (Int × Bool)) (x23_4 : Int) => [mapR b1 kI bv m1n_4]) (fun (m1n_4 : List (Int × Bool)) (x23_4 : Int) (m : Nat) => iter (keep_Layout_Firsts_L2 y_Regs y_Places l x13_3 x19) m (m1n_4, x23_4) = some o22) (fun (m1n_4 : List (Int × Bool)) (x23_4 : Int) => o22 = .go (m1n_4, x23_4)) m1n_3 0 n25 ho26 ⟨rfl, rfl, rfl, rfl, rfl, rfl, rfl, rfl, trivial⟩ (fun w hw => hw.pick [0, 1] (by decide)) ?_ ?_
      · skip
        rintro m1n_4 x23_4 rfl
        refine WQ.block ?_
        refine WQ.then ?_
        refine WC.region ?_
        obtain ⟨c27, hm28⟩ := ck_some hm24; clear hm24
        refine WL.q rfl rfl rfl (QV.add rfl rfl rfl rfl c27) ?_
        refine WL.q rfl rfl rfl (QV.move rfl rfl) ?_
        refine WL.nil ?_
        exact WQ.again2 m1n_4 (x13_3 + 1) m9 (up_next hm28 hn12) (Nat.lt_succ_self _) ⟨rfl, rfl, rfl, rfl, rfl, trivial⟩ (fun w hw => hw.pick [0, 1] (by decide))
      · skip
        rintro m1n_4 x23_4 m29 hI30
        obtain ⟨m31, s32, rfl, hm33, hn34⟩ := iter_step hI30; clear hI30; unfold keep_Layout_Firsts_L2 at hm33; simp only at hm33
        refine WC.seq ?_
        refine WC.region ?_
        refine WL.q rfl rfl rfl (QV.lss rfl rfl rfl rfl) ?_
        refine WL.nil ?_
        refine WQ.then ?_
        refine WC.seq ?_
        refine WC.cond rfl (fun h35 => ?_) (fun h35 => ?_)
        · skip
          have hm36 := br_t h35 hm33; clear hm33
          refine WC.skip ?_
          refine WQ.then ?_
          refine WC.seq ?_
          refine WC.block ?_
          refine WC.seq ?_
          refine WC.region ?_
          refine WL.q rfl rfl rfl (QV.move rfl rfl) ?_
          refine WL.q rfl rfl rfl (QV.assign rfl rfl) ?_
          refine WL.nil ?_
          refine WQ.then ?_
          refine WC.seq ?_
          refine WC.dr (m := 26) (S := Own noM w [kn noM w.heap.size w w, mapR b1 kI bv m1n_4]) (by kernel_rfl) (by kernel_rfl) (fun w hw => hw.pick [1, 0] (by decide)) ?_
          refine WD.q 0 rfl (by kernel_rfl) rfl rfl rfl (QV.move rfl rfl) ?_
          refine WD.q 1 rfl (by kernel_rfl) rfl rfl rfl (QV.nilCheck rfl rfl) ?_
          refine WD.q 2 rfl (by kernel_rfl) rfl rfl rfl (QV.fieldAddr fd87_5 rfl rfl) ?_
          refine WD.q 3 rfl (by kernel_rfl) rfl rfl rfl (QV.load pl22 rfl rfl (fun w hw => CellsAt.one 7 ((Own.kcells 0 rfl hk hp_y) w hw) rfl)) ?_
          refine WD.q 4 rfl (by kernel_rfl) rfl rfl rfl (QV.move rfl rfl) ?_
          obtain ⟨c37, hm38⟩ := ck_some hm36; clear hm36
          obtain ⟨p39, hp40⟩ := h_y_Places.lenMap.ix (sz := 1) ln_len c37
          refine WD.q 5 rfl (by kernel_rfl) rfl rfl rfl (QV.indexSlice sl22 rfl rfl rfl rfl hp40) ?_
          refine WD.q 6 rfl (by kernel_rfl) rfl rfl rfl (QV.load pl3 rfl rfl (fun w hw => CellsAt.one 0 (((Own.karr 0 rfl hk h_y_Places) w hw).ele hp40 c37) rfl)) ?_
          refine WD.q 7 rfl (by kernel_rfl) rfl rfl rfl (QV.move rfl rfl) ?_
          obtain ⟨c41, hm42⟩ := ck_some hm38; clear hm38
          refine WD.q 8 rfl (by kernel_rfl) rfl rfl rfl (QV.sub rfl rfl rfl rfl c41) ?_
          obtain ⟨c43, hm44⟩ := ck_some hm42; clear hm42
          refine WD.q 9 rfl (by kernel_rfl) rfl rfl rfl (QV.sub rfl rfl rfl rfl c43) ?_
          refine WD.q 10 rfl (by kernel_rfl) rfl rfl rfl (QV.move rfl rfl) ?_
          refine WD.q 11 rfl (by kernel_rfl) rfl rfl rfl (QV.nilCheck rfl rfl) ?_
          refine WD.q 12 rfl (by kernel_rfl) rfl rfl rfl (QV.fieldAddr fd87_2 rfl rfl) ?_
          refine WD.q 13 rfl (by kernel_rfl) rfl rfl rfl (QV.load pl3 rfl rfl (fun w hw => CellsAt.one 4 ((Own.kcells 0 rfl hk hp_y) w hw) rfl)) ?_
          obtain ⟨c45, hm46⟩ := ck_some hm44; clear hm44
          refine WD.q 14 rfl (by kernel_rfl) rfl rfl rfl (QV.rem rfl rfl rfl rfl c45) ?_
          refine WD.q 15 rfl (by kernel_rfl) rfl rfl rfl (QV.move rfl rfl) ?_
          refine WD.q 16 rfl (by kernel_rfl) rfl rfl rfl (QV.nilCheck rfl rfl) ?_
          refine WD.q 17 rfl (by kernel_rfl) rfl rfl rfl (QV.fieldAddr fd87_2 rfl rfl) ?_
          refine WD.q 18 rfl (by kernel_rfl) rfl rfl rfl (QV.load pl3 rfl rfl (fun w hw => CellsAt.one 4 ((Own.kcells 0 rfl hk hp_y) w hw) rfl)) ?_
          obtain ⟨c47, hm48⟩ := ck_some hm46; clear hm46
          refine WD.q 19 rfl (by kernel_rfl) rfl rfl rfl (QV.add rfl rfl rfl rfl c47) ?_
          refine WD.q 20 rfl (by kernel_rfl) rfl rfl rfl (QV.move rfl rfl) ?_
          refine WD.q 21 rfl (by kernel_rfl) rfl rfl rfl (QV.nilCheck rfl rfl) ?_
          refine WD.q 22 rfl (by kernel_rfl) rfl rfl rfl (QV.fieldAddr fd87_2 rfl rfl) ?_
          refine WD.q 23 rfl (by kernel_rfl) rfl rfl rfl (QV.load pl3 rfl rfl (fun w hw => CellsAt.one 4 ((Own.kcells 0 rfl hk hp_y) w hw) rfl)) ?_
          obtain ⟨c49, hm50⟩ := ck_some hm48; clear hm48
          refine WD.q 24 rfl (by kernel_rfl) rfl rfl rfl (QV.rem rfl rfl rfl rfl c49) ?_
          refine WD.q 25 rfl (by kernel_rfl) rfl rfl rfl (QV.assign rfl rfl) ?_
          refine WD.e (by kernel_rfl) ?_
          refine WQ.then ?_
          refine WC.seq ?_
          refine WC.seq ?_
          refine WC.region ?_
          refine WL.q rfl rfl rfl (QV.move rfl rfl) ?_
          refine WL.q rfl rfl rfl (QV.move rfl rfl) ?_
          refine WL.q rfl rfl rfl (QV.lookup (k := (Int.tmod ((Int.tmod (((ele y_Places (ele l x13_3)) - x23_4) - 1) y_Regs) + y_Regs) y_Regs)) 0 false mt154 kt3 zv4bv rfl rfl rfl rfl rfl) ?_
          refine WL.nil ?_
          refine WQ.then ?_
          refine WC.cond rfl (fun h51 => ?_) (fun h51 => ?_)
          · skip
            have hm52 := br_t h51 hm50; clear hm50
            refine WC.seq ?_
            refine WC.region ?_
            refine WL.q rfl rfl rfl (QV.assign rfl rfl) ?_
            refine WL.nil ?_
            refine WQ.then ?_
            refine WC.ret ?_
            refine WQ.then_ret ?_
            refine WQ.block_ret ?_
            refine WQ.then_ret ?_
            refine WQ.then_ret ?_
            refine WQ.block_ret ?_
            refine WQ.then_ret ?_
            refine WQ.block_ret ?_
            refine WQ.then_ret ?_
            refine WQ.then_ret ?_
            refine WQ.block_ret ?_
            refine WQ.then_ret ?_
            refine WQ.then_ret ?_
            obtain rfl := up_ret hm52 hn34
            obtain rfl := up_ret hm24 hn12
            obtain rfl := (eq_of_some hm4).symm
            refine WQ.ret1 rfl rfl (fun w hw => ?_)
            exact ⟨rfl, Own.kgrow (fun _ x => x) hw⟩
          · skip
            have hm53 := br_f h51 hm50; clear hm50
            refine WC.skip ?_
            refine WQ.then ?_
            refine WC.region ?_
            refine WL.q rfl rfl rfl (QV.move rfl rfl) ?_
            refine WL.q rfl rfl rfl (QV.move rfl rfl) ?_
            refine WL.effect rfl ?_
            refine (EV.mapUpdate (ke := kI) (ve := bv) (Int.tmod ((Int.tmod (((ele y_Places (ele l x13_3)) - x23_4) - 1) y_Regs) + y_Regs) y_Regs) 0 true mt154 kt3 rfl rfl rfl rfl rfl rfl rfl ?_)
            refine WL.nil ?_
            refine WQ.block ?_
            refine WQ.then ?_
            refine WC.region ?_
            obtain ⟨c54, hm55⟩ := ck_some hm53; clear hm53
            refine WL.q rfl rfl rfl (QV.add rfl rfl rfl rfl c54) ?_
            refine WL.q rfl rfl rfl (QV.move rfl rfl) ?_
            refine WL.nil ?_
            exact WQ.again2 (mput m1n_4 (Int.tmod ((Int.tmod (((ele y_Places (ele l x13_3)) - x23_4) - 1) y_Regs) + y_Regs) y_Regs) true) (x23_4 + 1) m31 (up_next hm55 hn34) (Nat.lt_succ_self _) ⟨rfl, rfl, rfl, rfl, rfl, rfl, rfl, rfl, trivial⟩ (fun w hw => hw.pick [0, 1] (by decide))
        · skip
          have hm56 := br_f h35 hm33; clear hm33
          refine WC.exit ?_
          refine WQ.then_exit ?_
          refine WQ.then_exit ?_
          refine WQ.block_exit ?_
          exact WQ.out2 m1n_4 x23_4 (up_brk hm56 hn34) ⟨rfl, rfl, rfl, rfl, rfl, rfl, rfl, rfl, trivial⟩ (fun w hw => hw.pick [0, 1] (by decide))
    · skip
      have hm57 := br_f h13 hm11; clear hm11
      refine WC.exit ?_
      refine WQ.then_exit ?_
      refine WQ.then_exit ?_
      refine WQ.block_exit ?_
      exact WQ.out2 m1n_3 x13_3 (up_brk hm57 hn12) ⟨rfl, rfl, rfl, rfl, rfl, trivial⟩ (fun w hw => hw.pick [0, 1] (by decide))
end Go.Proofs.Ytaimbkndebaaiac
end

section
namespace Go.Proofs.Ytaimbkndebaaiac
open Go.Rd
set_option linter.unusedVariables false
namespace TOrd
theorem en123 : Go.Rd.Enters Try.prog 123 := ⟨Try.f123, Try.func123, by kernel_rfl, by kernel_rfl⟩
theorem en124 : Go.Rd.Enters Try.prog 124 := ⟨Try.f124, Try.func124, by kernel_rfl, by kernel_rfl⟩
theorem en137 : Go.Rd.Enters Try.prog 137 := ⟨Try.f137, Try.func137, by kernel_rfl, by kernel_rfl⟩
theorem fd71_0 : FieldT Try.prog 71 0 0 := ⟨_, _, 0, Try.underlying71, rfl, rfl, by kernel_rfl⟩
theorem fd71_1 : FieldT Try.prog 71 1 1 := ⟨_, _, 0, Try.underlying71, rfl, rfl, by kernel_rfl⟩
theorem fd71_2 : FieldT Try.prog 71 2 2 := ⟨_, _, 0, Try.underlying71, rfl, rfl, by kernel_rfl⟩
theorem fd71_3 : FieldT Try.prog 71 3 3 := ⟨_, _, 0, Try.underlying71, rfl, rfl, by kernel_rfl⟩
theorem pl3 : Plain Try.prog 3 := ⟨_, Try.underlying3, rfl⟩
theorem sl22 : SliceT Try.prog 22 3 1 := ⟨Try.underlying22, by kernel_rfl⟩
theorem sz_22 : SliceZ Try.prog 22 3 1 [.int .i64 0] := ⟨Try.underlying22, by kernel_rfl⟩
end TOrd
open TOrd
set_option maxRecDepth 8000 in
theorem cmp_isNaN_int__w {x : Int} {r : Bool} (w : World) (hm : cmp_isNaN_int__m x = some r)  : Calls Try.prog 137 #[.int .i64 x] w (fun e w' => e = .returned (.bool r) ∧ Grow w w') := by
  unfold cmp_isNaN_int__m at hm
  have hk := Base.rfl (w := w)
  refine calls_of_WC (n := 6) (args := [.int .i64 x]) Try.func137 rfl rfl (Nat.le_of_ble_eq_true rfl) ?_ (Own.startK hk (Own.start w))
  refine WC.seq ?_
  refine WC.region ?_
  refine WL.q rfl rfl rfl (QV.assign rfl rfl) ?_
  refine WL.nil ?_
  refine WQ.then ?_
  refine WC.seq ?_
  refine WC.region ?_
  refine WL.q rfl rfl rfl (QV.move rfl rfl) ?_
  refine WL.q rfl rfl rfl (QV.move rfl rfl) ?_
  refine WL.q rfl rfl rfl (QV.neq rfl rfl rfl rfl) ?_
  refine WL.q rfl rfl rfl (QV.assign rfl rfl) ?_
  refine WL.nil ?_
  refine WQ.then ?_
  refine WC.ret ?_
  obtain rfl := (eq_of_some hm).symm
  refine WQ.ret1 rfl rfl (fun w hw => ?_)
  exact ⟨rfl, Own.kgrow (fun _ x => x) hw⟩

set_option maxRecDepth 8000 in
theorem cmp_Compare_int__w {x : Int} {y : Int} {r : Int} (w : World) (hm : cmp_Compare_int__m x y = some r)  : Calls Try.prog 124 #[.int .i64 x, .int .i64 y] w (fun e w' => e = .returned (.int .i64 r) ∧ Grow w w') := by
  unfold cmp_Compare_int__m at hm
  have hk := Base.rfl (w := w)
  refine calls_of_WC (n := 20) (args := [.int .i64 x, .int .i64 y]) Try.func124 rfl rfl (Nat.le_of_ble_eq_true rfl) ?_ (Own.startK hk (Own.start w))
  refine WC.seq ?_
  refine WC.region ?_
  refine WL.q rfl rfl rfl (QV.assign rfl rfl) ?_
  refine WL.nil ?_
  refine WQ.then ?_
  refine WC.seq ?_
  refine WC.region ?_
  refine WL.q rfl rfl rfl (QV.move rfl rfl) ?_
  obtain ⟨x1, hx2, hm3⟩ := bd_some hm; clear hm
  refine WL.q rfl rfl rfl (QV.call en137 (EvAll.cons rfl rfl EvAll.nil) (fun w hw => have h := cmp_isNaN_int__w w hx2 ; h)) ?_
  refine WL.q rfl rfl rfl (QV.assign rfl rfl) ?_
  refine WL.nil ?_
  refine WQ.then ?_
  refine WC.seq ?_
  refine WC.region ?_
  refine WL.q rfl rfl rfl (QV.move rfl rfl) ?_
  obtain ⟨x4, hx5, hm6⟩ := bd_some hm3; clear hm3
  refine WL.q rfl rfl rfl (QV.call en137 (EvAll.cons rfl rfl EvAll.nil) (fun w hw => have h := cmp_isNaN_int__w w hx5 ; h)) ?_
  refine WL.q rfl rfl rfl (QV.assign rfl rfl) ?_
  refine WL.nil ?_
  refine WQ.then ?_
  refine WC.seq ?_
  refine WC.seq ?_
  refine WC.region ?_
  refine WL.q rfl rfl rfl (QV.move rfl rfl) ?_
  refine WL.nil ?_
  refine WQ.then ?_
  refine WC.cond rfl (fun h7 => ?_) (fun h7 => ?_)
  · skip
    have hm8 := br_t h7 hm6; clear hm6
    refine WC.seq ?_
    refine WC.seq ?_
    refine WC.region ?_
    refine WL.q rfl rfl rfl (QV.move rfl rfl) ?_
    refine WL.nil ?_
    refine WQ.then ?_
    refine WC.cond rfl (fun h9 => ?_) (fun h9 => ?_)
    · skip
      have hm10 := br_t h9 hm8; clear hm8
      refine WC.seq ?_
      refine WC.region ?_
      refine WL.q rfl rfl rfl (QV.assign rfl rfl) ?_
      refine WL.nil ?_
      refine WQ.then ?_
      refine WC.ret ?_
      refine WQ.then_ret ?_
      refine WQ.then_ret ?_
      obtain rfl := (eq_of_some hm10).symm
      refine WQ.ret1 rfl rfl (fun w hw => ?_)
      exact ⟨rfl, Own.kgrow (fun _ x => x) hw⟩
    · skip
      have hm11 := br_f h9 hm8; clear hm8
      refine WC.skip ?_
      refine WQ.then ?_
      refine WC.seq ?_
      refine WC.region ?_
      refine WL.q rfl rfl rfl (QV.assign rfl rfl) ?_
      refine WL.nil ?_
      refine WQ.then ?_
      refine WC.ret ?_
      refine WQ.then_ret ?_
      obtain rfl := (eq_of_some hm11).symm
      refine WQ.ret1 rfl rfl (fun w hw => ?_)
      exact ⟨rfl, Own.kgrow (fun _ x => x) hw⟩
  · skip
    have hm12 := br_f h7 hm6; clear hm6
    refine WC.skip ?_
    refine WQ.then ?_
    refine WC.seq ?_
    refine WC.seq ?_
    refine WC.region ?_
    refine WL.q rfl rfl rfl (QV.move rfl rfl) ?_
    refine WL.nil ?_
    refine WQ.then ?_
    refine WC.cond rfl (fun h13 => ?_) (fun h13 => ?_)
    · skip
      have hm14 := br_t h13 hm12; clear hm12
      refine WC.seq ?_
      refine WC.region ?_
      refine WL.q rfl rfl rfl (QV.assign rfl rfl) ?_
      refine WL.nil ?_
      refine WQ.then ?_
      refine WC.ret ?_
      refine WQ.then_ret ?_
      obtain rfl := (eq_of_some hm14).symm
      refine WQ.ret1 rfl rfl (fun w hw => ?_)
      exact ⟨rfl, Own.kgrow (fun _ x => x) hw⟩
    · skip
      have hm15 := br_f h13 hm12; clear hm12
      refine WC.skip ?_
      refine WQ.then ?_
      refine WC.seq ?_
      refine WC.seq ?_
      refine WC.region ?_
      refine WL.q rfl rfl rfl (QV.move rfl rfl) ?_
      refine WL.q rfl rfl rfl (QV.move rfl rfl) ?_
      refine WL.q rfl rfl rfl (QV.lss rfl rfl rfl rfl) ?_
      refine WL.nil ?_
      refine WQ.then ?_
      refine WC.cond rfl (fun h16 => ?_) (fun h16 => ?_)
      · skip
        have hm17 := br_t h16 hm15; clear hm15
        refine WC.seq ?_
        refine WC.region ?_
        refine WL.q rfl rfl rfl (QV.assign rfl rfl) ?_
        refine WL.nil ?_
        refine WQ.then ?_
        refine WC.ret ?_
        refine WQ.then_ret ?_
        obtain rfl := (eq_of_some hm17).symm
        refine WQ.ret1 rfl rfl (fun w hw => ?_)
        exact ⟨rfl, Own.kgrow (fun _ x => x) hw⟩
      · skip
        have hm18 := br_f h16 hm15; clear hm15
        refine WC.skip ?_
        refine WQ.then ?_
        refine WC.seq ?_
        refine WC.seq ?_
        refine WC.region ?_
        refine WL.q rfl rfl rfl (QV.move rfl rfl) ?_
        refine WL.q rfl rfl rfl (QV.move rfl rfl) ?_
        refine WL.q rfl rfl rfl (QV.gtr rfl rfl rfl rfl) ?_
        refine WL.nil ?_
        refine WQ.then ?_
        refine WC.cond rfl (fun h19 => ?_) (fun h19 => ?_)
        · skip
          have hm20 := br_t h19 hm18; clear hm18
          refine WC.seq ?_
          refine WC.region ?_
          refine WL.q rfl rfl rfl (QV.assign rfl rfl) ?_
          refine WL.nil ?_
          refine WQ.then ?_
          refine WC.ret ?_
          refine WQ.then_ret ?_
          obtain rfl := (eq_of_some hm20).symm
          refine WQ.ret1 rfl rfl (fun w hw => ?_)
          exact ⟨rfl, Own.kgrow (fun _ x => x) hw⟩
        · skip
          have hm21 := br_f h19 hm18; clear hm18
          refine WC.skip ?_
          refine WQ.then ?_
          refine WC.seq ?_
          refine WC.region ?_
          refine WL.q rfl rfl rfl (QV.assign rfl rfl) ?_
          refine WL.nil ?_
          refine WQ.then ?_
          refine WC.ret ?_
          obtain rfl := (eq_of_some hm21).symm
          refine WQ.ret1 rfl rfl (fun w hw => ?_)
          exact ⟨rfl, Own.kgrow (fun _ x => x) hw⟩

set_option maxRecDepth 8000 in
theorem cmp_Or_int__w {v_vals : Value} {vals : List Int} {r : Int} (w : World) (hm : cmp_Or_int__m vals = some r) (h_vals : Arr w v_vals 1 (vals.map icell)) : Calls Try.prog 123 #[v_vals] w (fun e w' => e = .returned (.int .i64 r) ∧ Grow w w') := by
  unfold cmp_Or_int__m at hm
  have hk := Base.rfl (w := w)
  refine calls_of_WC (n := 18) (args := [v_vals]) Try.func123 rfl rfl (Nat.le_of_ble_eq_true rfl) ?_ (Own.startK hk (Own.start w))
  refine WC.seq ?_
  refine WC.region ?_
  refine WL.q rfl rfl rfl (QV.assign rfl rfl) ?_
  refine WL.nil ?_
  refine WQ.then ?_
  refine WC.seq ?_
  refine WC.region ?_
  refine WL.q rfl rfl rfl (QV.assign rfl rfl) ?_
  refine WL.nil ?_
  refine WQ.then ?_
  refine WC.seq ?_
  refine WC.seq ?_
  refine WC.region ?_
  refine WL.q rfl rfl rfl (QV.move rfl rfl) ?_
  refine WL.q rfl rfl rfl (QV.lenS Try.underlying22 rfl rfl h_vals.lenMap) ?_
  refine WL.q rfl rfl rfl (QV.move rfl rfl) ?_
  refine WL.nil ?_
  refine WQ.then ?_
  obtain ⟨o1, ho2, hm3⟩ := bd_some hm; clear hm; obtain ⟨n4, ho5⟩ := lp_some ho2
  refine WC.bloop1 (H2 := [kn noM w.heap.size w w]) (τ := [(3, (true, _)), (6, (true, _)), (7, (true, _))]) (fun (x8_1 : Int) => [(8, (true, .int .i64 x8_1))]) (fun (x8_1 : Int) => []) (fun (x8_1 : Int) (m : Nat) => iter (cmp_Or_int__L0 vals) m x8_1 = some o1) (fun (x8_1 : Int) => o1 = .go x8_1) 0 n4 ho5 ⟨rfl, rfl, rfl, rfl, trivial⟩ (fun w hw => hw.pick [0] (by decide)) ?_ ?_
  · skip
    rintro x8_1 rfl
    refine WQ.then ?_
    refine WC.seq ?_
    refine WC.region ?_
    refine WL.q rfl rfl rfl (QV.move rfl rfl) ?_
    refine WL.q rfl rfl rfl (QV.assign rfl rfl) ?_
    refine WL.nil ?_
    refine WQ.then ?_
    refine WC.ret ?_
    obtain rfl := (eq_of_some hm3).symm
    refine WQ.ret1 rfl rfl (fun w hw => ?_)
    exact ⟨rfl, Own.kgrow (fun _ x => x) hw⟩
  · skip
    rintro x8_1 m6 hI7
    obtain ⟨m8, s9, rfl, hm10, hn11⟩ := iter_step hI7; clear hI7; unfold cmp_Or_int__L0 at hm10
    refine WC.seq ?_
    refine WC.region ?_
    refine WL.q rfl rfl rfl (QV.lss rfl rfl rfl rfl) ?_
    refine WL.nil ?_
    refine WQ.then ?_
    refine WC.seq ?_
    refine WC.cond rfl (fun h12 => ?_) (fun h12 => ?_)
    · skip
      have hm13 := br_t h12 hm10; clear hm10
      refine WC.skip ?_
      refine WQ.then ?_
      refine WC.seq ?_
      refine WC.block ?_
      refine WC.seq ?_
      refine WC.region ?_
      obtain ⟨c14, hm15⟩ := ck_some hm13; clear hm13
      obtain ⟨p16, hp17⟩ := h_vals.lenMap.ix (sz := 1) ln_len c14
      refine WL.q rfl rfl rfl (QV.indexSlice sl22 rfl rfl rfl rfl hp17) ?_
      refine WL.q rfl rfl rfl (QV.load pl3 rfl rfl (fun w hw => CellsAt.one 0 (((Own.karr 0 rfl hk h_vals) w hw).ele hp17 c14) rfl)) ?_
      refine WL.q rfl rfl rfl (QV.assign rfl rfl) ?_
      refine WL.nil ?_
      refine WQ.then ?_
      refine WC.seq ?_
      refine WC.region ?_
      refine WL.q rfl rfl rfl (QV.move rfl rfl) ?_
      refine WL.q rfl rfl rfl (QV.move rfl rfl) ?_
      refine WL.q rfl rfl rfl (QV.neq rfl rfl rfl rfl) ?_
      refine WL.nil ?_
      refine WQ.then ?_
      refine WC.cond rfl (fun h18 => ?_) (fun h18 => ?_)
      · skip
        have hm19 := br_t h18 hm15; clear hm15
        refine WC.seq ?_
        refine WC.region ?_
        refine WL.q rfl rfl rfl (QV.move rfl rfl) ?_
        refine WL.q rfl rfl rfl (QV.assign rfl rfl) ?_
        refine WL.nil ?_
        refine WQ.then ?_
        refine WC.ret ?_
        refine WQ.block_ret ?_
        refine WQ.then_ret ?_
        refine WQ.then_ret ?_
        refine WQ.block_ret ?_
        refine WQ.then_ret ?_
        refine WQ.then_ret ?_
        obtain rfl := up_ret hm19 hn11
        obtain rfl := (eq_of_some hm3).symm
        refine WQ.ret1 rfl rfl (fun w hw => ?_)
        exact ⟨rfl, Own.kgrow (fun _ x => x) hw⟩
      · skip
        have hm20 := br_f h18 hm15; clear hm15
        refine WC.skip ?_
        refine WQ.block ?_
        refine WQ.then ?_
        refine WC.region ?_
        obtain ⟨c21, hm22⟩ := ck_some hm20; clear hm20
        refine WL.q rfl rfl rfl (QV.add rfl rfl rfl rfl c21) ?_
        refine WL.q rfl rfl rfl (QV.move rfl rfl) ?_
        refine WL.nil ?_
        exact WQ.again1 (x8_1 + 1) m8 (up_next hm22 hn11) (Nat.lt_succ_self _) ⟨rfl, rfl, rfl, rfl, trivial⟩ (fun w hw => hw.pick [0] (by decide))
    · skip
      have hm23 := br_f h12 hm10; clear hm10
      refine WC.exit ?_
      refine WQ.then_exit ?_
      refine WQ.then_exit ?_
      refine WQ.block_exit ?_
      exact WQ.out1 x8_1 (up_brk hm23 hn11) ⟨rfl, rfl, rfl, rfl, trivial⟩ (fun w hw => hw.pick [0] (by decide))

set_option maxRecDepth 8000 in
theorem dep_order_w {a : Edg} {b : Edg} {r : Int} (w : World) (hm : dep_order_m a b = some r)  : Calls Try.prog 99 #[.agg #[.int .i64 a.fr, .int .i64 a.to, .int .i64 a.bk, .int .i64 a.wt], .agg #[.int .i64 b.fr, .int .i64 b.to, .int .i64 b.bk, .int .i64 b.wt]] w (fun e w' => e = .returned (.int .i64 r) ∧ Grow w w') := by
  unfold dep_order_m at hm
  have hk := Base.rfl (w := w)
  refine calls_of_WC (n := 27) (args := [.agg #[.int .i64 a.fr, .int .i64 a.to, .int .i64 a.bk, .int .i64 a.wt], .agg #[.int .i64 b.fr, .int .i64 b.to, .int .i64 b.bk, .int .i64 b.wt]]) Try.func99 rfl rfl (Nat.le_of_ble_eq_true rfl) ?_ (Own.startK hk (Own.start w))
  refine WC.seq ?_
  refine WC.region ?_
  refine WL.effect rfl ?_
  refine (EV.boxAgg (by decide) rfl rfl (fun b1 => ?_))
  refine WL.effect rfl ?_
  refine (EV.boxAgg (by decide) rfl rfl (fun b2 => ?_))
  refine WL.q rfl rfl rfl (QV.assign rfl rfl) ?_
  refine WL.nil ?_
  refine WQ.then ?_
  refine WC.seq ?_
  refine WC.dr (m := 23) (S := Own noM w [kn noM w.heap.size w w, blk b2 [.int .i64 b.fr, .int .i64 b.to, .int .i64 b.bk, .int .i64 b.wt] 71, blk b1 [.int .i64 a.fr, .int .i64 a.to, .int .i64 a.bk, .int .i64 a.wt] 71]) (by kernel_rfl) (by kernel_rfl) (fun w hw => hw.pick [2, 0, 1] (by decide)) ?_
  refine WD.q 0 rfl (by kernel_rfl) rfl rfl rfl (QV.fieldAddr fd71_0 rfl rfl) ?_
  refine WD.q 1 rfl (by kernel_rfl) rfl rfl rfl (QV.load pl3 rfl rfl (Own.cell 2 rfl rfl)) ?_
  refine WD.q 2 rfl (by kernel_rfl) rfl rfl rfl (QV.fieldAddr fd71_0 rfl rfl) ?_
  refine WD.q 3 rfl (by kernel_rfl) rfl rfl rfl (QV.load pl3 rfl rfl (Own.cell 1 rfl rfl)) ?_
  obtain ⟨x3, hx4, hm5⟩ := bd_some hm; clear hm
  refine WD.q 4 rfl (by kernel_rfl) rfl rfl rfl (QV.call en124 (EvAll.cons rfl rfl (EvAll.cons rfl rfl EvAll.nil)) (fun w hw => have h := cmp_Compare_int__w w hx4 ; h)) ?_
  refine WD.q 5 rfl (by kernel_rfl) rfl rfl rfl (QV.fieldAddr fd71_1 rfl rfl) ?_
  refine WD.q 6 rfl (by kernel_rfl) rfl rfl rfl (QV.load pl3 rfl rfl (Own.cell 2 rfl rfl)) ?_
  refine WD.q 7 rfl (by kernel_rfl) rfl rfl rfl (QV.fieldAddr fd71_1 rfl rfl) ?_
  refine WD.q 8 rfl (by kernel_rfl) rfl rfl rfl (QV.load pl3 rfl rfl (Own.cell 1 rfl rfl)) ?_
  obtain ⟨x6, hx7, hm8⟩ := bd_some hm5; clear hm5
  refine WD.q 9 rfl (by kernel_rfl) rfl rfl rfl (QV.call en124 (EvAll.cons rfl rfl (EvAll.cons rfl rfl EvAll.nil)) (fun w hw => have h := cmp_Compare_int__w w hx7 ; h)) ?_
  refine WD.q 10 rfl (by kernel_rfl) rfl rfl rfl (QV.fieldAddr fd71_2 rfl rfl) ?_
  refine WD.q 11 rfl (by kernel_rfl) rfl rfl rfl (QV.load pl3 rfl rfl (Own.cell 2 rfl rfl)) ?_
  refine WD.q 12 rfl (by kernel_rfl) rfl rfl rfl (QV.fieldAddr fd71_2 rfl rfl) ?_
  refine WD.q 13 rfl (by kernel_rfl) rfl rfl rfl (QV.load pl3 rfl rfl (Own.cell 1 rfl rfl)) ?_
  obtain ⟨x9, hx10, hm11⟩ := bd_some hm8; clear hm8
  refine WD.q 14 rfl (by kernel_rfl) rfl rfl rfl (QV.call en124 (EvAll.cons rfl rfl (EvAll.cons rfl rfl EvAll.nil)) (fun w hw => have h := cmp_Compare_int__w w hx10 ; h)) ?_
  refine WD.q 15 rfl (by kernel_rfl) rfl rfl rfl (QV.fieldAddr fd71_3 rfl rfl) ?_
  refine WD.q 16 rfl (by kernel_rfl) rfl rfl rfl (QV.load pl3 rfl rfl (Own.cell 2 rfl rfl)) ?_
  refine WD.q 17 rfl (by kernel_rfl) rfl rfl rfl (QV.fieldAddr fd71_3 rfl rfl) ?_
  refine WD.q 18 rfl (by kernel_rfl) rfl rfl rfl (QV.load pl3 rfl rfl (Own.cell 1 rfl rfl)) ?_
  obtain ⟨x12, hx13, hm14⟩ := bd_some hm11; clear hm11
  refine WD.q 19 rfl (by kernel_rfl) rfl rfl rfl (QV.call en124 (EvAll.cons rfl rfl (EvAll.cons rfl rfl EvAll.nil)) (fun w hw => have h := cmp_Compare_int__w w hx13 ; h)) ?_
  refine WD.o 20 rfl (by kernel_rfl) rfl ?_
  refine (EV.buildSlice (by decide) sz_22 (by decide) (by decide) (ps := [(0, .tmp 9), (1, .tmp 14), (2, .tmp 19), (3, .tmp 24)]) (cells := [.int .i64 x3, .int .i64 x6, .int .i64 x9, .int .i64 x12]) (EvAll.cons rfl rfl (EvAll.cons rfl rfl (EvAll.cons rfl rfl (EvAll.cons rfl rfl EvAll.nil)))) (by kernel_rfl) (fun b15 => ?_))
  refine WD.b (H' := [kn noM w.heap.size w w, blk b15 [.int .i64 x3, .int .i64 x6, .int .i64 x9, .int .i64 x12] 3, blk b2 [.int .i64 b.fr, .int .i64 b.to, .int .i64 b.bk, .int .i64 b.wt] 71, blk b1 [.int .i64 a.fr, .int .i64 a.to, .int .i64 a.bk, .int .i64 a.wt] 71]) (fun w hw => hw.pick [3, 0, 1, 2] (by decide)) (fun w hw => hw.pick [0, 2, 3] (by decide)) ?_
  obtain ⟨x16, hx17, hm18⟩ := bd_some hm14; clear hm14
  refine WD.q 21 rfl (by kernel_rfl) rfl rfl rfl (QV.call en123 (EvAll.cons rfl rfl EvAll.nil) (fun w hw => have h := cmp_Or_int__w w hx17 ((Own.blkArr 1 (rows := [x3, x6, x9, x12].map icell) rfl rfl (rows_len icell_len)) w hw); h)) ?_
  refine WD.q 22 rfl (by kernel_rfl) rfl rfl rfl (QV.assign rfl rfl) ?_
  refine WD.e (by kernel_rfl) ?_
  refine WQ.then ?_
  refine WC.ret ?_
  obtain rfl := (eq_of_some hm18).symm
  refine WQ.ret1 rfl rfl (fun w hw => ?_)
  exact ⟨rfl, Own.kgrow (fun _ x => x) hw⟩
end Go.Proofs.Ytaimbkndebaaiac
end

section
namespace Go.Rd
open Go.RowKit Go.Sort Go.Shelf Go.Lib Go.Proofs
set_option linter.unusedVariables false
section
variable {α : Type} [Inhabited α] {enc : α → List Value} {k : Nat}
theorem flatK_list (hk : ∀ x, (enc x).length = k) (h0 : 0 < k) (xs : List α) : (flatK enc k xs.toArray).toList = (xs.map enc).flatten := by
  apply List.ext_getElem?
  intro j
  have hall : ∀ r ∈ xs.map enc, r.length = k := fun r hr => by obtain ⟨u, _, rfl⟩ := List.mem_map.1 hr; exact hk u
  have hfl := flatten_len hall
  rw [List.length_map] at hfl
  by_cases hj : j < xs.length * k
  · have hq : j / k < xs.length := Nat.div_lt_of_lt_mul (by rwa [Nat.mul_comm] at hj)
    have hmod : j % k < k := Nat.mod_lt _ h0
    have hd := drop_flatten (sz := k) (rows := xs.map enc) (i := j / k) (r := enc xs[j / k]) hall (by simp [hq])
    have e1 : (xs.map enc).flatten[j]? = (enc xs[j / k])[j % k]? := by
      have : (enc xs[j / k])[j % k]? = (((xs.map enc).flatten.drop (j / k * k)).take (enc xs[j / k]).length)[j % k]? := by rw [hd]
      rw [this, List.getElem?_take, hk, if_pos hmod, List.getElem?_drop, Nat.mul_comm, Nat.div_add_mod]
    have hlt : j % k < (enc xs[j / k]).length := by rw [hk]; exact hmod
    rw [e1, List.getElem?_eq_getElem hlt]
    simp [flatK, hj, hq, hlt]
  · rw [List.getElem?_eq_none (by rw [Array.length_toList, size_flatK, List.size_toArray]; omega), List.getElem?_eq_none (by rw [hfl]; omega)]
variable {M : Nat → Prop} {w w0 : World} {H : List Res} {E : TypeId} {b n cap : Nat} {xs ys : List α}
theorem vec_holdsK (hk : ∀ x, (enc x).length = k) (h0 : 0 < k) (h : (vec (.slice (some ⟨b, 0, none⟩) n cap) E k (xs.map enc)).holds w) : HoldsK enc k w b 0 xs.toArray ∧ n = xs.length ∧ b < w.heap.size := by
  obtain ⟨⟨h1, h2⟩, h3⟩ := h
  rcases h2 with ⟨h, _⟩ | ⟨g, cap', cur, hv, _, hh, hnc, _, hcs, ht⟩
  · cases h
  · simp only [Value.slice.injEq, Option.some.injEq, Addr.mk.injEq, List.length_map] at hv
    obtain ⟨⟨rfl, _⟩, rfl, rfl⟩ := hv
    refine ⟨fun j hj => ?_, rfl, (Array.getElem?_eq_some_iff.1 hh).1⟩
    rw [size_flatK, List.size_toArray] at hj
    rw [List.length_map] at hnc ht
    have hlt : j < cur.size := by rw [hcs]; exact Nat.lt_of_lt_of_le hj (Nat.mul_le_mul_right _ hnc)
    have hl := flatK_list hk h0 xs
    have hget : cur[j]? = some (id (flatK enc k xs.toArray)[j]!) := by
      have h1 : (flatK enc k xs.toArray)[j]? = some (flatK enc k xs.toArray)[j]! := by
        have : j < (flatK enc k xs.toArray).size := by simpa using hj
        rw [getElem!_pos (flatK enc k xs.toArray) j this, Array.getElem?_eq_getElem this]
      have h2 : (flatK enc k xs.toArray).toList[j]? = cur.toList[j]? := by
        rw [hl, ← ht, List.getElem?_take, if_pos hj]
      rw [Array.getElem?_toList, Array.getElem?_toList] at h2
      rw [← h2, h1]; rfl
    rw [Nat.zero_add]
    refine ⟨?_, by simp [World.frozen?, hh]⟩
    simp only [World.cell?, hh]
    exact hget
theorem sortedK_facts {m : Nat} {os : Array Obj} : ((sortWorldK enc k w b 0 m ys.toArray os).os = w.os ∧ (sortWorldK enc k w b 0 m ys.toArray os).tape = w.tape ∧ ((sortWorldK enc k w b 0 m ys.toArray os).output = w.output ∧ w.drawn ≤ (sortWorldK enc k w b 0 m ys.toArray os).drawn) ∧ w.heap.size ≤ (sortWorldK enc k w b 0 m ys.toArray os).heap.size) ∧
    (∀ j, j < w.heap.size → j ≠ b → (sortWorldK enc k w b 0 m ys.toArray os).heap[j]? = w.heap[j]?) ∧
    (∀ cur t, w.heap[b]? = some (.cells cur t (0, 0)) → (sortWorldK enc k w b 0 m ys.toArray os).heap[b]? = some (.cells (putCells id 0 (flatK enc k ys.toArray) cur) t (0, 0))) := by
  refine ⟨⟨rfl, rfl, ⟨rfl, Nat.le_add_right _ _⟩, ?_⟩, fun j hj hne => ?_, fun cur t hc => ?_⟩
  · show w.heap.size ≤ (w.heap.modify b _ ++ os).size
    simp
  · show (w.heap.modify b (onCells (putCells id 0 (flatK enc k ys.toArray))) ++ os)[j]? = _
    rw [Array.getElem?_append_left (by simpa using hj), Array.getElem?_modify, if_neg (Ne.symm hne)]
  · have hj := (Array.getElem?_eq_some_iff.1 hc).1
    show (w.heap.modify b (onCells (putCells id 0 (flatK enc k ys.toArray))) ++ os)[b]? = _
    rw [Array.getElem?_append_left (by simpa using hj), Array.getElem?_modify, if_pos rfl, hc]
    rfl
theorem vec_sorted (hk : ∀ x, (enc x).length = k) (h0 : 0 < k) (h : (vec (.slice (some ⟨b, 0, none⟩) n cap) E k (xs.map enc)).holds w) (hl : ys.length = xs.length) (m : Nat) (os : Array Obj) :
    (vec (.slice (some ⟨b, 0, none⟩) n cap) E k (ys.map enc)).holds (sortWorldK enc k w b 0 m ys.toArray os) := by
  obtain ⟨⟨h1, h2⟩, h3⟩ := h
  rcases h2 with ⟨h, _⟩ | ⟨g, cap', cur, hv, hg0, hh, hnc, hcm, hcs, ht⟩
  · cases h
  · simp only [Value.slice.injEq, Option.some.injEq, Addr.mk.injEq] at hv
    obtain ⟨⟨rfl, _⟩, rfl, rfl⟩ := hv
    have hall : ∀ r ∈ ys.map enc, r.length = k := fun r hr => by obtain ⟨u, _, rfl⟩ := List.mem_map.1 hr; exact hk u
    have hfl := flatten_len hall
    have hb := (sortedK_facts (enc := enc) (k := k) (w := w) (b := b) (ys := ys) (m := m) (os := os)).2.2 cur E hh
    have hlm : (ys.map enc).length = (xs.map enc).length := by simp [hl]
    refine ⟨⟨hfl, .inr ⟨b, cap, putCells id 0 (flatK enc k ys.toArray) cur, by rw [hlm], hg0, hb, by rw [hlm]; exact hnc, hcm, by simp [putCells, hcs], ?_⟩⟩, hall⟩
    rw [← flatK_list hk h0 ys]
    apply List.ext_getElem?
    intro j
    rw [List.getElem?_take]
    have hs : (flatK enc k ys.toArray).size = (ys.map enc).length * k := by simp
    by_cases hj : j < (ys.map enc).length * k
    · have hlt : j < cur.size := by rw [hcs]; rw [hlm] at hj; exact Nat.lt_of_lt_of_le hj (Nat.mul_le_mul_right _ hnc)
      have hjf : j < (flatK enc k ys.toArray).size := by rw [hs]; exact hj
      rw [if_pos hj, Array.getElem?_toList, Array.getElem?_toList]
      rw [Array.getElem?_eq_getElem hjf]
      have hj' : j < ys.length * k := by rw [List.length_map] at hj; exact hj
      simp [putCells, hlt, hj']
    · rw [if_neg hj, List.getElem?_eq_none (by rw [Array.length_toList, hs]; omega)]
theorem Own.sorted {K0 : World} (hb : Base M K0 w) (hk : ∀ x, (enc x).length = k) (h0 : 0 < k) (hw : Own M w [vec (.slice (some ⟨b, 0, none⟩) n cap) E k (xs.map enc)] w) (hl : ys.length = xs.length) (m : Nat) (os : Array Obj) :
    Own M w (kn M w.heap.size K0 K0 :: [vec (.slice (some ⟨b, 0, none⟩) n cap) E k (ys.map enc)]) (sortWorldK enc k w b 0 m ys.toArray os) := by
  have hs := Own.startK hb hw
  obtain ⟨⟨f1, f2, f3, f4⟩, f5, f6⟩ := sortedK_facts (enc := enc) (k := k) (w := w) (b := b) (ys := ys) (m := m) (os := os)
  refine hs.upd 1 rfl f1 f2 f3 f4 (fun j hj hn => f5 j hj fun e => hn (by subst e; exact ⟨_, _, rfl⟩)) (vec_sorted hk h0 hw.head hl m os) fun j hj => ?_
  refine ⟨.inl hj, ?_⟩
  obtain ⟨n2, c2, he⟩ := hj
  simp only [Value.slice.injEq, Option.some.injEq, Addr.mk.injEq] at he
  obtain ⟨⟨rfl, _⟩, _⟩ := he
  have := (vec_holdsK hk h0 hw.head).2.2
  omega
theorem grow_of {w w' : World} (h : Grow w w') : ∃ q os', w' = grow (w.drewN q) os' := by
  obtain ⟨h1, h2, ⟨h3, h4⟩, h5, h6⟩ := h
  refine ⟨w'.drawn - w.drawn, w'.heap.extract w.heap.size w'.heap.size, ?_⟩
  cases w'
  simp only [grow, World.drewN] at *
  subst h1 h2 h3
  congr 1
  · apply Array.ext_getElem?
    intro j
    by_cases hj : j < w.heap.size
    · rw [Array.getElem?_append_left hj]; exact h6 j hj
    · rw [Array.getElem?_append_right (by omega), Array.getElem?_extract]
      split
      · congr 1; omega
      · rw [Array.getElem?_eq_none (by omega)]
  · omega
end
end Go.Rd
end

section
namespace Go.Rd
open Go.Sort Go.Shelf Go.Lib Go.Proofs
set_option linter.unusedVariables false
theorem ord_swo : SWO (ltOf ordV) where
  irrefl x := by unfold ltOf; simp [ordV]
  trans x y z h1 h2 := by
    unfold ltOf at *
    simp only [decide_eq_true_eq, ordV_neg] at *
    omega
  ntrans x y z h1 h2 := by
    unfold ltOf at *
    simp only [decide_eq_false_iff_not, ordV_neg] at *
    omega
theorem ord_total (x y : Edg) (h1 : ltOf ordV x y = false) (h2 : ltOf ordV y x = false) : x = y := by
  unfold ltOf at *
  simp only [decide_eq_false_iff_not, ordV_neg] at *
  cases x; cases y
  simp only [Edg.mk.injEq] at *
  omega
end Go.Rd
end

section
namespace Go.Proofs.Ytaimbkndebaaiac
open Go.Rd
set_option linter.unusedVariables false
namespace TCpt
theorem ag71 : AggT Try.prog 71 4 := ⟨_, Try.underlying71, rfl, by kernel_rfl⟩
theorem eq71 : EqT Try.prog 71 4 := ⟨by kernel_rfl, ⟨_, Try.underlying71⟩, by kernel_rfl, by kernel_rfl⟩
theorem sl68 : SliceT Try.prog 68 71 4 := ⟨Try.underlying68, by kernel_rfl⟩
theorem sz71 : SizeT Try.prog 71 4 := by unfold SizeT; kernel_rfl
theorem ze71 : ZeroT Try.prog 71 [.int .i64 0, .int .i64 0, .int .i64 0, .int .i64 0] := by unfold ZeroT; kernel_rfl
end TCpt
open TCpt
set_option maxRecDepth 8000 in
theorem slices_Compact___api_Edge_api_Edge__w {v_s : Value} {s : List Edg} {r : List Edg} {K0 : World} (hm : slices_Compact___api_Edge_api_Edge__m s = some r) (h_s : SliceLen v_s s.length) (M : Nat → Prop) (w : World) (hk : Base M K0 w) (hw0 : Own M w [vec v_s 71 4 (List.map Edg.cells s)] w) : Calls Try.prog 100 #[v_s] w (fun e w' => ∃ X : Value × World, e = .returned (X.1) ∧ Own M w (kn M w.heap.size K0 X.2 :: []) w' ∧ Arr X.2 X.1 4 (r.map Edg.cells)) := by
  unfold slices_Compact___api_Edge_api_Edge__m at hm
  refine calls_of_WC (n := 61) (args := [v_s]) Try.func100 rfl rfl (Nat.le_of_ble_eq_true rfl) ?_ (Own.startK hk hw0)
  refine WC.seq ?_
  refine WC.region ?_
  refine WL.q rfl rfl rfl (QV.assign rfl rfl) ?_
  refine WL.nil ?_
  refine WQ.then ?_
  refine WC.seq ?_
  refine WC.seq ?_
  refine WC.region ?_
  refine WL.q rfl rfl rfl (QV.move rfl rfl) ?_
  refine WL.q rfl rfl rfl (QV.lenS Try.underlying68 rfl rfl h_s) ?_
  refine WL.q rfl rfl rfl (QV.lss rfl rfl rfl rfl) ?_
  refine WL.nil ?_
  refine WQ.then ?_
  refine WC.cond rfl (fun h1 => ?_) (fun h1 => ?_)
  · skip
    have hm2 := br_t h1 hm; clear hm
    refine WC.seq ?_
    refine WC.region ?_
    refine WL.q rfl rfl rfl (QV.move rfl rfl) ?_
    refine WL.q rfl rfl rfl (QV.assign rfl rfl) ?_
    refine WL.nil ?_
    refine WQ.then ?_
    refine WC.ret ?_
    refine WQ.then_ret ?_
    obtain rfl := (eq_of_some hm2).symm
    refine WK.freeze hk (fun k3 hle3 hr3 => ?_)
    have hA3 := vec_arr hr3
    refine WQ.ret1 rfl rfl (fun w hw => ?_)
    exact ⟨(v_s, k3), rfl, hw.pick [0] (by decide), hA3⟩
  · skip
    have hm4 := br_f h1 hm; clear hm
    refine WC.skip ?_
    refine WQ.then ?_
    refine WC.seq ?_
    refine WC.seq ?_
    refine WC.region ?_
    refine WL.q rfl rfl rfl (QV.assign rfl rfl) ?_
    refine WL.nil ?_
    refine WQ.then ?_
    obtain ⟨o5, ho6, hm7⟩ := bd_some hm4; clear hm4; obtain ⟨n8, ho9⟩ := lp_some ho6
    refine WC.bloop2 (H2 := [kn M w.heap.size K0 K0]) (τ := [(0, (true, _))]) (fun (ows0_3 : List Edg) (k3_3 : Int) => [(3, (true, .int .i64 k3_3))]) (fun (ows0_3 : List Edg) (k3_3 : Int) => [vec v_s 71 4 (List.map Edg.cells ows0_3)]) (fun (ows0_3 : List Edg) (k3_3 : Int) (m : Nat) => iter (slices_Compact___api_Edge_api_Edge__L0) m (ows0_3, k3_3) = some o5 ∧ SliceLen v_s ows0_3.length) (fun (ows0_3 : List Edg) (k3_3 : Int) => o5 = .go (ows0_3, k3_3) ∧ SliceLen v_s ows0_3.length) s 1 n8 ⟨ho9, h_s⟩ ⟨rfl, rfl, trivial⟩ (fun w hw => hw.pick [1, 0] (by decide)) ?_ ?_
    · skip
      rintro ows0_3 k3_3 ⟨rfl, hlows0_3⟩
      refine WQ.then ?_
      refine WC.seq ?_
      refine WC.region ?_
      refine WL.q rfl rfl rfl (QV.move rfl rfl) ?_
      refine WL.q rfl rfl rfl (QV.assign rfl rfl) ?_
      refine WL.nil ?_
      refine WQ.then ?_
      refine WC.ret ?_
      obtain rfl := (eq_of_some hm7).symm
      refine WK.of (C' := Own M w [kn M w.heap.size K0 K0, vec v_s 71 4 (List.map Edg.cells ows0_3)]) (fun w hw => hw.pick [1, 0] (by decide)) ?_
      refine WK.freeze hk (fun k10 hle10 hr10 => ?_)
      have hA10 := vec_arr hr10
      refine WQ.ret1 rfl rfl (fun w hw => ?_)
      exact ⟨(v_s, k10), rfl, hw.pick [0] (by decide), hA10⟩
    · skip
      rintro ows0_3 k3_3 m11 ⟨hI12, hlows0_3⟩
      obtain ⟨m13, s14, rfl, hm15, hn16⟩ := iter_step hI12; clear hI12; unfold slices_Compact___api_Edge_api_Edge__L0 at hm15; simp only at hm15
      refine WC.seq ?_
      refine WC.seq ?_
      refine WC.region ?_
      refine WL.q rfl rfl rfl (QV.move rfl rfl) ?_
      refine WL.q rfl rfl rfl (QV.move rfl rfl) ?_
      refine WL.q rfl rfl rfl (QV.lenS Try.underlying68 rfl rfl hlows0_3) ?_
      refine WL.q rfl rfl rfl (QV.lss rfl rfl rfl rfl) ?_
      refine WL.nil ?_
      refine WQ.then ?_
      refine WC.cond rfl (fun h17 => ?_) (fun h17 => ?_)
      · skip
        have hm18 := br_t h17 hm15; clear hm15
        refine WC.skip ?_
        refine WQ.then ?_
        refine WC.seq ?_
        refine WC.block ?_
        refine WC.seq ?_
        refine WC.dr (m := 10) (S := Own M w [kn M w.heap.size K0 K0, vec v_s 71 4 (List.map Edg.cells ows0_3)]) (by kernel_rfl) (by kernel_rfl) (fun w hw => hw.pick [1, 0] (by decide)) ?_
        refine WD.q 0 rfl (by kernel_rfl) rfl rfl rfl (QV.move rfl rfl) ?_
        refine WD.q 1 rfl (by kernel_rfl) rfl rfl rfl (QV.move rfl rfl) ?_
        obtain ⟨c19, hm20⟩ := ck_some hm18; clear hm18
        obtain ⟨p21, hp22⟩ := hlows0_3.ix (sz := 4) ln_len c19
        refine WD.q 2 rfl (by kernel_rfl) rfl rfl rfl (QV.indexSlice sl68 rfl rfl rfl rfl hp22) ?_
        refine WD.q 3 rfl (by kernel_rfl) rfl rfl rfl (QV.loadAgg ag71 rfl rfl rfl (fun w hw => ((Own.vecArr 1 rfl) w hw).ele hp22 c19)) ?_
        refine WD.q 4 rfl (by kernel_rfl) rfl rfl rfl (QV.move rfl rfl) ?_
        refine WD.q 5 rfl (by kernel_rfl) rfl rfl rfl (QV.move rfl rfl) ?_
        obtain ⟨c23, hm24⟩ := ck_some hm20; clear hm20
        refine WD.q 6 rfl (by kernel_rfl) rfl rfl rfl (QV.sub rfl rfl rfl rfl c23) ?_
        obtain ⟨c25, hm26⟩ := ck_some hm24; clear hm24
        obtain ⟨p27, hp28⟩ := hlows0_3.ix (sz := 4) ln_len c25
        refine WD.q 7 rfl (by kernel_rfl) rfl rfl rfl (QV.indexSlice sl68 rfl rfl rfl rfl hp28) ?_
        refine WD.q 8 rfl (by kernel_rfl) rfl rfl rfl (QV.loadAgg ag71 rfl rfl rfl (fun w hw => ((Own.vecArr 1 rfl) w hw).ele hp28 c25)) ?_
        refine WD.q 9 rfl (by kernel_rfl) rfl rfl rfl (QV.eqlF eq71 (ns := [(ele ows0_3 k3_3).fr, (ele ows0_3 k3_3).to, (ele ows0_3 k3_3).bk, (ele ows0_3 k3_3).wt]) (ms := [(ele ows0_3 (k3_3 - 1)).fr, (ele ows0_3 (k3_3 - 1)).to, (ele ows0_3 (k3_3 - 1)).bk, (ele ows0_3 (k3_3 - 1)).wt]) rfl rfl rfl rfl rfl rfl) ?_
        refine WD.e (by kernel_rfl) ?_
        refine WQ.then ?_
        refine WC.cond rfl (fun h29 => ?_) (fun h29 => ?_)
        · skip
          have hm30 := br_t h29 hm26; clear hm26
          refine WC.seq ?_
          refine WC.region ?_
          refine WL.q rfl rfl rfl (QV.move rfl rfl) ?_
          refine WL.q rfl rfl rfl (QV.move rfl rfl) ?_
          obtain ⟨c31, hm32⟩ := ck_some hm30; clear hm30
          refine WL.q rfl rfl rfl (QV.sliceLd sl68 rfl rfl hlows0_3 rfl rfl c31) ?_
          refine WL.q rfl rfl rfl (QV.assign rfl rfl) ?_
          refine WL.nil ?_
          refine WQ.then ?_
          refine WC.seq ?_
          refine WC.seq ?_
          refine WC.region ?_
          refine WL.q rfl rfl rfl (QV.assign rfl rfl) ?_
          refine WL.nil ?_
          refine WQ.then ?_
          obtain ⟨o33, ho34, hm35⟩ := bd_some hm32; clear hm32; obtain ⟨n36, ho37⟩ := lp_some ho34
          refine WC.bloop3 (H2 := [kn M w.heap.size K0 K0]) (τ := [(0, (true, _)), (4, (true, _))]) (fun (ows0_4 : List Edg) (k3_4 : Int) (k25_4 : Int) => [(3, (true, .int .i64 k3_4)), (5, (true, .int .i64 k25_4))]) (fun (ows0_4 : List Edg) (k3_4 : Int) (k25_4 : Int) => [vec v_s 71 4 (List.map Edg.cells ows0_4)]) (fun (ows0_4 : List Edg) (k3_4 : Int) (k25_4 : Int) (m : Nat) => iter (slices_Compact___api_Edge_api_Edge__L2 ows0_3 k3_3) m (ows0_4, k3_4, k25_4) = some o33 ∧ SliceLen v_s ows0_4.length) (fun (ows0_4 : List Edg) (k3_4 : Int) (k25_4 : Int) => o33 = .go (ows0_4, k3_4, k25_4) ∧ SliceLen v_s ows0_4.length) ows0_3 k3_3 1 n36 ⟨ho37, hlows0_3⟩ ⟨rfl, rfl, rfl, rfl, trivial⟩ (fun w hw => hw.pick [0, 1] (by decide)) ?_ ?_
          · skip
            rintro ows0_4 k3_4 k25_4 ⟨rfl, hlows0_4⟩
            refine WQ.then ?_
            refine WC.seq ?_
            refine WC.region ?_
            refine WL.q rfl rfl rfl (QV.move rfl rfl) ?_
            refine WL.q rfl rfl rfl (QV.move rfl rfl) ?_
            obtain ⟨c38, hm39⟩ := ck_some hm35; clear hm35
            refine WL.q rfl rfl rfl (QV.sliceLd sl68 rfl rfl hlows0_4 rfl rfl c38) ?_
            refine WL.effect rfl ?_
            refine (EV.clear (enc := Edg.cells) (d := none) (dd := 0) 0 (Edg.mk 0 0 0 0) sl68 ze71 Edg.cells_len (by decide) (fun c hc => Edg.cells_one [_] _ (List.mem_singleton.2 rfl) c hc) rfl rfl rfl c38 rfl (.inr rfl) ?_ (fun _ h => (by cases h)))
            have hl40 : SliceLen v_s (clr ows0_4 k3_4 (Edg.mk 0 0 0 0)).length := (clr_len c38.2.1).symm ▸ hlows0_4
            refine WL.nil ?_
            refine WQ.then ?_
            refine WC.seq ?_
            refine WC.region ?_
            refine WL.q rfl rfl rfl (QV.move rfl rfl) ?_
            refine WL.q rfl rfl rfl (QV.move rfl rfl) ?_
            obtain ⟨c41, hm42⟩ := ck_some hm39; clear hm39
            refine WL.q rfl rfl rfl (QV.sliceHd sl68 rfl rfl hl40 rfl rfl c41) ?_
            refine WL.q rfl rfl rfl (QV.assign rfl rfl) ?_
            refine WL.nil ?_
            refine WQ.then ?_
            refine WC.ret ?_
            refine WQ.block_ret ?_
            refine WQ.then_ret ?_
            refine WQ.then_ret ?_
            refine WQ.block_ret ?_
            refine WQ.then_ret ?_
            refine WQ.then_ret ?_
            obtain rfl := up_ret hm42 hn16
            obtain rfl := (eq_of_some hm7).symm
            refine WK.of (C' := Own M w [kn M w.heap.size K0 K0, vec v_s 71 4 (List.map Edg.cells (clr ows0_4 k3_4 (Edg.mk 0 0 0 0)))]) (fun w hw => hw.pick [1, 0] (by decide)) ?_
            refine WK.freeze hk (fun k43 hle43 hr43 => ?_)
            have hA43 := vec_arr hr43
            have hA44 := subS_sub hA43 c41
            refine WQ.ret1 rfl rfl (fun w hw => ?_)
            exact ⟨((subS v_s 4 (Int.toNat 0) (Int.toNat k3_4)), k43), rfl, hw.pick [0] (by decide), hA44⟩
          · skip
            rintro ows0_4 k3_4 k25_4 m45 ⟨hI46, hlows0_4⟩
            obtain ⟨m47, s48, rfl, hm49, hn50⟩ := iter_step hI46; clear hI46; unfold slices_Compact___api_Edge_api_Edge__L2 at hm49; simp only at hm49
            refine WC.seq ?_
            refine WC.seq ?_
            refine WC.region ?_
            refine WL.q rfl rfl rfl (QV.move rfl rfl) ?_
            refine WL.q rfl rfl rfl (QV.move rfl rfl) ?_
            obtain ⟨c51, hm52⟩ := ck_some hm49; clear hm49
            refine WL.q rfl rfl rfl (QV.lenS Try.underlying68 rfl rfl (subS_slen (sz := 4) hlows0_4 c51)) ?_
            refine WL.q rfl rfl rfl (QV.lss rfl rfl rfl rfl) ?_
            refine WL.nil ?_
            refine WQ.then ?_
            refine WC.cond rfl (fun h53 => ?_) (fun h53 => ?_)
            · skip
              have hm54 := br_t h53 hm52; clear hm52
              refine WC.skip ?_
              refine WQ.then ?_
              refine WC.seq ?_
              refine WC.block ?_
              refine WC.seq ?_
              refine WC.dr (m := 10) (S := Own M w [kn M w.heap.size K0 K0, vec v_s 71 4 (List.map Edg.cells ows0_4)]) (by kernel_rfl) (by kernel_rfl) (fun w hw => hw.pick [1, 0] (by decide)) ?_
              refine WD.q 0 rfl (by kernel_rfl) rfl rfl rfl (QV.move rfl rfl) ?_
              refine WD.q 1 rfl (by kernel_rfl) rfl rfl rfl (QV.move rfl rfl) ?_
              obtain ⟨c55, hm56⟩ := ck_some hm54; clear hm54
              obtain ⟨p57, hp58⟩ := (subS_slen (sz := 4) hlows0_4 c51).ix (sz := 4) ln_len c55
              refine WD.q 2 rfl (by kernel_rfl) rfl rfl rfl (QV.indexSlice sl68 rfl rfl rfl rfl hp58) ?_
              refine WD.q 3 rfl (by kernel_rfl) rfl rfl rfl (QV.loadAgg ag71 rfl rfl rfl (fun w hw => ((fun w hw => subS_sub ((Own.vecArr 1 rfl) w hw) c51) w hw).ele hp58 c55)) ?_
              refine WD.q 4 rfl (by kernel_rfl) rfl rfl rfl (QV.move rfl rfl) ?_
              refine WD.q 5 rfl (by kernel_rfl) rfl rfl rfl (QV.move rfl rfl) ?_
              obtain ⟨c59, hm60⟩ := ck_some hm56; clear hm56
              refine WD.q 6 rfl (by kernel_rfl) rfl rfl rfl (QV.sub rfl rfl rfl rfl c59) ?_
              obtain ⟨c61, hm62⟩ := ck_some hm60; clear hm60
              obtain ⟨p63, hp64⟩ := (subS_slen (sz := 4) hlows0_4 c51).ix (sz := 4) ln_len c61
              refine WD.q 7 rfl (by kernel_rfl) rfl rfl rfl (QV.indexSlice sl68 rfl rfl rfl rfl hp64) ?_
              refine WD.q 8 rfl (by kernel_rfl) rfl rfl rfl (QV.loadAgg ag71 rfl rfl rfl (fun w hw => ((fun w hw => subS_sub ((Own.vecArr 1 rfl) w hw) c51) w hw).ele hp64 c61)) ?_
              refine WD.q 9 rfl (by kernel_rfl) rfl rfl rfl (QV.neqF eq71 (ns := [(ele (sub ows0_4 k3_3 (ln ows0_3)) k25_4).fr, (ele (sub ows0_4 k3_3 (ln ows0_3)) k25_4).to, (ele (sub ows0_4 k3_3 (ln ows0_3)) k25_4).bk, (ele (sub ows0_4 k3_3 (ln ows0_3)) k25_4).wt]) (ms := [(ele (sub ows0_4 k3_3 (ln ows0_3)) (k25_4 - 1)).fr, (ele (sub ows0_4 k3_3 (ln ows0_3)) (k25_4 - 1)).to, (ele (sub ows0_4 k3_3 (ln ows0_3)) (k25_4 - 1)).bk, (ele (sub ows0_4 k3_3 (ln ows0_3)) (k25_4 - 1)).wt]) rfl rfl rfl rfl rfl rfl) ?_
              refine WD.e (by kernel_rfl) ?_
              refine WQ.then ?_
              refine WC.cond rfl (fun h65 => ?_) (fun h65 => ?_)
              · skip
                have hm66 := br_t h65 hm62; clear hm62
                refine WC.seq ?_
                refine WC.region ?_
                refine WL.q rfl rfl rfl (QV.move rfl rfl) ?_
                refine WL.q rfl rfl rfl (QV.move rfl rfl) ?_
                refine WL.q rfl rfl rfl (QV.move rfl rfl) ?_
                refine WL.q rfl rfl rfl (QV.move rfl rfl) ?_
                obtain ⟨c67, hm68⟩ := ck_some hm66; clear hm66
                obtain ⟨p69, hp70⟩ := (subS_slen (sz := 4) hlows0_4 c51).ix (sz := 4) ln_len c67
                refine WL.q rfl rfl rfl (QV.indexSlice sl68 rfl rfl rfl rfl hp70) ?_
                refine WL.q rfl rfl rfl (QV.loadAgg ag71 rfl rfl rfl (fun w hw => ((fun w hw => subS_sub ((Own.vecArr 0 rfl) w hw) c51) w hw).ele hp70 c67)) ?_
                obtain ⟨c71, hm72⟩ := ck_some hm68; clear hm68
                obtain ⟨p73, hp74⟩ := hlows0_4.ix (sz := 4) ln_len c71
                refine WL.q rfl rfl rfl (QV.indexSlice sl68 rfl rfl rfl rfl hp74) ?_
                refine WL.effect rfl ?_
                refine (EV.storeE (enc := Edg.cells) (off := 0) (vs := [.int .i64 ((ele (sub ows0_4 k3_3 (ln ows0_3)) k25_4).fr), .int .i64 ((ele (sub ows0_4 k3_3 (ln ows0_3)) k25_4).to), .int .i64 ((ele (sub ows0_4 k3_3 (ln ows0_3)) k25_4).bk), .int .i64 ((ele (sub ows0_4 k3_3 (ln ows0_3)) k25_4).wt)]) 0 (ele (sub ows0_4 k3_3 (ln ows0_3)) k25_4) rfl rfl rfl rfl rfl hp74 c71 (by first | rfl | exact addr_zero _) (show Value.cells _ = List.toArray _ from rfl) sz71 (Nat.le_of_ble_eq_true rfl) (one_cons rfl (one_cons rfl (one_cons rfl (one_cons rfl one_nil)))) rfl ?_)
                have hl75 : SliceLen v_s (upd ows0_4 k3_4 (ele (sub ows0_4 k3_3 (ln ows0_3)) k25_4)).length := slen_upd hlows0_4
                refine WL.nil ?_
                refine WQ.then ?_
                refine WC.region ?_
                refine WL.q rfl rfl rfl (QV.move rfl rfl) ?_
                obtain ⟨c76, hm77⟩ := ck_some hm72; clear hm72
                refine WL.q rfl rfl rfl (QV.add rfl rfl rfl rfl c76) ?_
                refine WL.q rfl rfl rfl (QV.assign rfl rfl) ?_
                refine WL.nil ?_
                refine WQ.block ?_
                refine WQ.then ?_
                refine WC.region ?_
                refine WL.q rfl rfl rfl (QV.move rfl rfl) ?_
                obtain ⟨c78, hm79⟩ := ck_some hm77; clear hm77
                refine WL.q rfl rfl rfl (QV.add rfl rfl rfl rfl c78) ?_
                refine WL.q rfl rfl rfl (QV.assign rfl rfl) ?_
                refine WL.nil ?_
                exact WQ.again3 (upd ows0_4 k3_4 (ele (sub ows0_4 k3_3 (ln ows0_3)) k25_4)) (k3_4 + 1) (k25_4 + 1) m47 ⟨up_next hm79 hn50, hl75⟩ (Nat.lt_succ_self _) ⟨rfl, rfl, rfl, rfl, trivial⟩ (fun w hw => hw.pick [0, 1] (by decide))
              · skip
                have hm80 := br_f h65 hm62; clear hm62
                refine WC.skip ?_
                refine WQ.block ?_
                refine WQ.then ?_
                refine WC.region ?_
                refine WL.q rfl rfl rfl (QV.move rfl rfl) ?_
                obtain ⟨c81, hm82⟩ := ck_some hm80; clear hm80
                refine WL.q rfl rfl rfl (QV.add rfl rfl rfl rfl c81) ?_
                refine WL.q rfl rfl rfl (QV.assign rfl rfl) ?_
                refine WL.nil ?_
                exact WQ.again3 ows0_4 k3_4 (k25_4 + 1) m47 ⟨up_next hm82 hn50, hlows0_4⟩ (Nat.lt_succ_self _) ⟨rfl, rfl, rfl, rfl, trivial⟩ (fun w hw => hw.pick [0, 1] (by decide))
            · skip
              have hm83 := br_f h53 hm52; clear hm52
              refine WC.exit ?_
              refine WQ.then_exit ?_
              refine WQ.then_exit ?_
              refine WQ.block_exit ?_
              exact WQ.out3 ows0_4 k3_4 k25_4 ⟨up_brk hm83 hn50, hlows0_4⟩ ⟨rfl, rfl, rfl, rfl, trivial⟩ (fun w hw => hw.pick [0, 1] (by decide))
        · skip
          have hm84 := br_f h29 hm26; clear hm26
          refine WC.skip ?_
          refine WQ.block ?_
          refine WQ.then ?_
          refine WC.region ?_
          refine WL.q rfl rfl rfl (QV.move rfl rfl) ?_
          obtain ⟨c85, hm86⟩ := ck_some hm84; clear hm84
          refine WL.q rfl rfl rfl (QV.add rfl rfl rfl rfl c85) ?_
          refine WL.q rfl rfl rfl (QV.assign rfl rfl) ?_
          refine WL.nil ?_
          exact WQ.again2 ows0_3 (k3_3 + 1) m13 ⟨up_next hm86 hn16, hlows0_3⟩ (Nat.lt_succ_self _) ⟨rfl, rfl, trivial⟩ (fun w hw => hw.pick [0, 1] (by decide))
      · skip
        have hm87 := br_f h17 hm15; clear hm15
        refine WC.exit ?_
        refine WQ.then_exit ?_
        refine WQ.then_exit ?_
        refine WQ.block_exit ?_
        exact WQ.out2 ows0_3 k3_3 ⟨up_brk hm87 hn16, hlows0_3⟩ ⟨rfl, rfl, trivial⟩ (fun w hw => hw.pick [0, 1] (by decide))

def sortRen : Go.Shelf.Ren := ⟨fun n => match n with | 6 => 98 | 14 => 122 | 15 => 87 | 20 => 129 | 21 => 130 | 22 => 131 | 23 => 132 | 24 => 133 | 25 => 134 | 26 => 135 | 27 => 136 | 28 => 116 | 29 => 117 | 46 => 140 | 47 => 141 | 48 => 142 | 49 => 143 | 50 => 144 | 57 => 146 | n => n, fun n => match n with | 22 => 68 | 24 => 71 | 25 => 160 | 39 => 144 | 45 => 192 | 46 => 193 | 50 => 197 | 53 => 177 | 55 => 179 | 66 => 200 | 70 => 172 | 76 => 205 | 77 => 206 | n => n, fun n => match n with  | n => n⟩
theorem sortL : Go.Proofs.SlLaysF0.n6 Try.prog sortRen where
  mixed := by kernel_rfl
  f6 := ⟨Try.f98.name, by kernel_rfl, Try.func98.trans (congrArg some (by kernel_rfl))⟩
  f14 := ⟨Try.f122.name, by kernel_rfl, Try.func122.trans (congrArg some (by kernel_rfl))⟩
  f15 := Try.func87.trans (congrArg some (by kernel_rfl))
  f20 := ⟨Try.f129.name, by kernel_rfl, Try.func129.trans (congrArg some (by kernel_rfl))⟩
  f21 := ⟨Try.f130.name, by kernel_rfl, Try.func130.trans (congrArg some (by kernel_rfl))⟩
  f22 := ⟨Try.f131.name, by kernel_rfl, Try.func131.trans (congrArg some (by kernel_rfl))⟩
  f23 := ⟨Try.f132.name, by kernel_rfl, Try.func132.trans (congrArg some (by kernel_rfl))⟩
  f24 := ⟨Try.f133.name, by kernel_rfl, Try.func133.trans (congrArg some (by kernel_rfl))⟩
  f25 := ⟨Try.f134.name, by kernel_rfl, Try.func134.trans (congrArg some (by kernel_rfl))⟩
  f26 := ⟨Try.f135.name, by kernel_rfl, Try.func135.trans (congrArg some (by kernel_rfl))⟩
  f27 := ⟨Try.f136.name, by kernel_rfl, Try.func136.trans (congrArg some (by kernel_rfl))⟩
  f28 := Try.func116.trans (congrArg some (by kernel_rfl))
  f29 := Try.func117.trans (congrArg some (by kernel_rfl))
  f46 := ⟨Try.f140.name, by kernel_rfl, Try.func140.trans (congrArg some (by kernel_rfl))⟩
  f47 := Try.func141.trans (congrArg some (by kernel_rfl))
  f48 := Try.func142.trans (congrArg some (by kernel_rfl))
  f49 := ⟨Try.f143.name, by kernel_rfl, Try.func143.trans (congrArg some (by kernel_rfl))⟩
  f50 := ⟨Try.f144.name, by kernel_rfl, Try.func144.trans (congrArg some (by kernel_rfl))⟩
  f57 := ⟨Try.f146.name, by kernel_rfl, Try.func146.trans (congrArg some (by kernel_rfl))⟩
  t0 := Try.underlying0
  a0 := Try.isAgg0
  z0 := Try.sizeOf0
  v0 := Try.zeroValue0
  t3 := Try.underlying3
  a3 := Try.isAgg3
  z3 := Try.sizeOf3
  v3 := Try.zeroValue3
  t4 := Try.underlying4
  a4 := Try.isAgg4
  z4 := Try.sizeOf4
  v4 := Try.zeroValue4
  t5 := Try.underlying5
  a5 := Try.isAgg5
  z5 := Try.sizeOf5
  v5 := Try.zeroValue5
  t9 := Try.underlying9
  a9 := Try.isAgg9
  z9 := Try.sizeOf9
  v9 := Try.zeroValue9
  t22 := Try.underlying68
  a22 := Try.isAgg68
  z22 := Try.sizeOf68
  v22 := Try.zeroValue68
  t25 := Try.underlying160
  a25 := Try.isAgg160
  z25 := Try.sizeOf160
  v25 := Try.zeroValue160
  t39 := Try.underlying144
  a39 := Try.isAgg144
  z39 := Try.sizeOf144
  v39 := Try.zeroValue144
  t45 := Try.underlying192
  a45 := Try.isAgg192
  z45 := Try.sizeOf192
  v45 := Try.zeroValue192
  t46 := Try.underlying193
  a46 := Try.isAgg193
  z46 := Try.sizeOf193
  v46 := Try.zeroValue193
  t50 := Try.underlying197
  a50 := Try.isAgg197
  z50 := Try.sizeOf197
  v50 := Try.zeroValue197
  t53 := Try.underlying177
  a53 := Try.isAgg177
  z53 := Try.sizeOf177
  v53 := Try.zeroValue177
  t55 := Try.underlying179
  a55 := Try.isAgg179
  z55 := Try.sizeOf179
  v55 := Try.zeroValue179
  t66 := Try.underlying200
  a66 := Try.isAgg200
  z66 := Try.sizeOf200
  v66 := Try.zeroValue200
  t70 := Try.underlying172
  a70 := Try.isAgg172
  z70 := Try.sizeOf172
  v70 := Try.zeroValue172
  t76 := Try.underlying205
  a76 := Try.isAgg205
  z76 := Try.sizeOf205
  v76 := Try.zeroValue205
  t77 := Try.underlying206
  a77 := Try.isAgg206
  z77 := Try.sizeOf206
  v77 := Try.zeroValue206
theorem sortE_nil : sortE [] = [] := by simp [sortE]
theorem SortFunc_w {v_x : Value} {x : List Edg} {r : List Edg} {K0 : World} (hm : SortFunc_m x = some r) (h_x : SliceLen v_x x.length) (M : Nat → Prop) (w : World) (hk : Base M K0 w) (hw0 : Own M w [vec v_x 71 4 (List.map Edg.cells x)] w) : Calls Try.prog 98 #[v_x, .func (.func 99) #[] #[]] w (fun e w' => ∃ X : World, e = .returned (.tuple #[]) ∧ Own M w (kn M w.heap.size K0 X :: [vec v_x 71 4 (List.map Edg.cells r)]) w' ∧ SliceLen v_x (r).length) := by
  obtain ⟨hlt, h2⟩ := ck_some hm
  obtain rfl := eq_of_some h2
  have hlen : (sortE x).length = x.length := List.length_mergeSort ..
  obtain ⟨a, c, rfl, ha, hc⟩ := h_x
  by_cases h0 : x = []
  · subst h0
    refine (Go.Proofs.AnyF.slices_SortFunc_none { sortL with } a c (.func (.func 99) #[] #[]) w).mono ?_
    rintro e w' ⟨rfl, rfl⟩
    rw [sortE_nil]
    exact ⟨K0, rfl, Own.startK hk hw0, ⟨a, c, rfl, ha, hc⟩⟩
  · obtain ⟨q, rfl⟩ := Option.isSome_iff_exists.1 (ha (by cases x with | nil => exact absurd rfl h0 | cons _ _ => simp))
    have hv := hw0.head
    have hq : ∃ b, q = ⟨b, 0, none⟩ := by
      rcases hv.1.2 with ⟨h, _⟩ | ⟨g, cap, cur, hv, _⟩
      · cases h
      · simp only [Value.slice.injEq, Option.some.injEq] at hv; exact ⟨g, hv.1⟩
    obtain ⟨b, rfl⟩ := hq
    obtain ⟨hH, _, hb⟩ := vec_holdsK Edg.cells_len (by decide) hv
    refine (Go.Proofs.AnyQ.slices_SortFunc_total sortL 4 Try.isAgg71 Try.sizeOf71 Edg.cells Edg.cells_len (fun u v hv => Edg.cells_one [u] u (List.mem_singleton.2 rfl) v hv) ordV ord_swo 99 #[] b 0 c x.toArray w (enters_of Try.func99 (by kernel_rfl) rfl) ?_ hH hb (by simpa using hlt) ord_total).mono ?_
    · intro m os dk hdk u v
      exact (dep_order_w _ (order_s u v)).mono fun e w' ⟨he, hg⟩ => ⟨he, grow_of hg⟩
    · rintro e w' ⟨rfl, m, os, rfl⟩
      exact ⟨K0, rfl, Own.sorted hk Edg.cells_len (by decide) hw0 hlen m os, by rw [hlen]; exact ⟨_, c, rfl, ha, hc⟩⟩
end Go.Proofs.Ytaimbkndebaaiac
end

section
namespace Go.Proofs.Ytaimbkndebaaiac
open Go.Rd
set_option linter.unusedVariables false
namespace TDep
theorem ag25 : AggT Try.prog 25 3 := ⟨_, Try.underlying25, rfl, by kernel_rfl⟩
theorem ag28 : AggT Try.prog 28 7 := ⟨_, Try.underlying28, rfl, by kernel_rfl⟩
theorem ag71 : AggT Try.prog 71 4 := ⟨_, Try.underlying71, rfl, by kernel_rfl⟩
theorem ag79 : AggT Try.prog 79 2 := ⟨_, Try.underlying79, rfl, by kernel_rfl⟩
theorem ag81 : AggT Try.prog 81 9 := ⟨_, Try.underlying81, rfl, by kernel_rfl⟩
theorem en100 : Go.Rd.Enters Try.prog 100 := ⟨Try.f100, Try.func100, by kernel_rfl, by kernel_rfl⟩
theorem en120 : Go.Rd.Enters Try.prog 120 := ⟨Try.f120, Try.func120, by kernel_rfl, by kernel_rfl⟩
theorem en121 : Go.Rd.Enters Try.prog 121 := ⟨Try.f121, Try.func121, by kernel_rfl, by kernel_rfl⟩
theorem en38 : Go.Rd.Enters Try.prog 38 := ⟨Try.f38, Try.func38, by kernel_rfl, by kernel_rfl⟩
theorem en39 : Go.Rd.Enters Try.prog 39 := ⟨Try.f39, Try.func39, by kernel_rfl, by kernel_rfl⟩
theorem en66 : Go.Rd.Enters Try.prog 66 := ⟨Try.f66, Try.func66, by kernel_rfl, by kernel_rfl⟩
theorem en69 : Go.Rd.Enters Try.prog 69 := ⟨Try.f69, Try.func69, by kernel_rfl, by kernel_rfl⟩
theorem en97 : Go.Rd.Enters Try.prog 97 := ⟨Try.f97, Try.func97, by kernel_rfl, by kernel_rfl⟩
theorem en98 : Go.Rd.Enters Try.prog 98 := ⟨Try.f98, Try.func98, by kernel_rfl, by kernel_rfl⟩
theorem fd25_0 : FieldT Try.prog 25 0 0 := ⟨_, _, 0, Try.underlying25, rfl, rfl, by kernel_rfl⟩
theorem fd25_1 : FieldT Try.prog 25 1 1 := ⟨_, _, 0, Try.underlying25, rfl, rfl, by kernel_rfl⟩
theorem fd79_0 : FieldT Try.prog 79 0 0 := ⟨_, _, 0, Try.underlying79, rfl, rfl, by kernel_rfl⟩
theorem fd79_1 : FieldT Try.prog 79 1 1 := ⟨_, _, 0, Try.underlying79, rfl, rfl, by kernel_rfl⟩
theorem fd81_0 : FieldT Try.prog 81 0 0 := ⟨_, _, 0, Try.underlying81, rfl, rfl, by kernel_rfl⟩
theorem fd81_3 : FieldT Try.prog 81 3 5 := ⟨_, _, 0, Try.underlying81, rfl, rfl, by kernel_rfl⟩
theorem fd81_4 : FieldT Try.prog 81 4 6 := ⟨_, _, 0, Try.underlying81, rfl, rfl, by kernel_rfl⟩
theorem fd81_5 : FieldT Try.prog 81 5 7 := ⟨_, _, 0, Try.underlying81, rfl, rfl, by kernel_rfl⟩
theorem pl22 : Plain Try.prog 22 := ⟨_, Try.underlying22, rfl⟩
theorem pl23 : Plain Try.prog 23 := ⟨_, Try.underlying23, rfl⟩
theorem pl3 : Plain Try.prog 3 := ⟨_, Try.underlying3, rfl⟩
theorem sl22 : SliceT Try.prog 22 3 1 := ⟨Try.underlying22, by kernel_rfl⟩
theorem sl23 : SliceT Try.prog 23 81 9 := ⟨Try.underlying23, by kernel_rfl⟩
theorem sl76 : SliceT Try.prog 76 79 2 := ⟨Try.underlying76, by kernel_rfl⟩
theorem sz71 : SizeT Try.prog 71 4 := by unfold SizeT; kernel_rfl
theorem sz79 : SizeT Try.prog 79 2 := by unfold SizeT; kernel_rfl
theorem sz81 : SizeT Try.prog 81 9 := by unfold SizeT; kernel_rfl
theorem sz_68 : SliceZ Try.prog 68 71 4 [.int .i64 0, .int .i64 0, .int .i64 0, .int .i64 0] := ⟨Try.underlying68, by kernel_rfl⟩
theorem ve68 : VecT Try.prog 68 71 4 32 := ⟨Try.underlying68, by kernel_rfl, by decide⟩
theorem ze71 : ZeroT Try.prog 71 [.int .i64 0, .int .i64 0, .int .i64 0, .int .i64 0] := by unfold ZeroT; kernel_rfl
theorem ze79 : ZeroT Try.prog 79 [.int .i64 0, .int .i64 0] := by unfold ZeroT; kernel_rfl
theorem ze81 : ZeroT Try.prog 81 [.int .i64 0, .int .i64 0, .int .i64 0, .int .i64 0, .int .i64 0, .int .i64 0, .int .i64 0, .int .i64 0, .int .i64 0] := by unfold ZeroT; kernel_rfl
end TDep
open TDep
set_option maxRecDepth 8000 in
theorem dep_meet_w {a : Stm} {b : Stm} {back : Int} {size : Int} {r : Bool} (w : World) (hm : dep_meet_m a b back size = some r)  : Calls Try.prog 121 #[.agg #[.int .i64 a.op, .int .i64 a.a.st, .int .i64 a.a.bk, .int .i64 a.b.st, .int .i64 a.b.bk, .int .i64 a.ar, .int .i64 a.sp, .int .i64 a.pl, .int .i64 a.n], .agg #[.int .i64 b.op, .int .i64 b.a.st, .int .i64 b.a.bk, .int .i64 b.b.st, .int .i64 b.b.bk, .int .i64 b.ar, .int .i64 b.sp, .int .i64 b.pl, .int .i64 b.n], .int .i64 back, .int .i64 size] w (fun e w' => e = .returned (.bool r) ∧ Grow w w') := by
  unfold dep_meet_m at hm
  have hk := Base.rfl (w := w)
  refine calls_of_WC (n := 36) (args := [.agg #[.int .i64 a.op, .int .i64 a.a.st, .int .i64 a.a.bk, .int .i64 a.b.st, .int .i64 a.b.bk, .int .i64 a.ar, .int .i64 a.sp, .int .i64 a.pl, .int .i64 a.n], .agg #[.int .i64 b.op, .int .i64 b.a.st, .int .i64 b.a.bk, .int .i64 b.b.st, .int .i64 b.b.bk, .int .i64 b.ar, .int .i64 b.sp, .int .i64 b.pl, .int .i64 b.n], .int .i64 back, .int .i64 size]) Try.func121 rfl rfl (Nat.le_of_ble_eq_true rfl) ?_ (Own.startK hk (Own.start w))
  refine WC.seq ?_
  refine WC.region ?_
  refine WL.effect rfl ?_
  refine (EV.boxAgg (by decide) rfl rfl (fun b1 => ?_))
  refine WL.effect rfl ?_
  refine (EV.boxAgg (by decide) rfl rfl (fun b2 => ?_))
  refine WL.q rfl rfl rfl (QV.assign rfl rfl) ?_
  refine WL.nil ?_
  refine WQ.then ?_
  refine WC.seq ?_
  refine WC.seq ?_
  refine WC.region ?_
  refine WL.q rfl rfl rfl (QV.move rfl rfl) ?_
  refine WL.q rfl rfl rfl (QV.move rfl rfl) ?_
  refine WL.nil ?_
  refine WQ.then ?_
  obtain ⟨o3, ho4, hm5⟩ := bd_some hm; clear hm; obtain ⟨n6, ho7⟩ := lp_some ho4
  refine WC.bloop1 (H2 := [blk b2 [.int .i64 b.op, .int .i64 b.a.st, .int .i64 b.a.bk, .int .i64 b.b.st, .int .i64 b.b.bk, .int .i64 b.ar, .int .i64 b.sp, .int .i64 b.pl, .int .i64 b.n] 81, blk b1 [.int .i64 a.op, .int .i64 a.a.st, .int .i64 a.a.bk, .int .i64 a.b.st, .int .i64 a.b.bk, .int .i64 a.ar, .int .i64 a.sp, .int .i64 a.pl, .int .i64 a.n] 81, kn noM w.heap.size w w]) (τ := [(2, (true, _)), (3, (true, _)), (4, (true, _)), (5, (true, _)), (10, (true, _))]) (fun (x11_1 : Int) => [(11, (true, .int .i64 x11_1))]) (fun (x11_1 : Int) => []) (fun (x11_1 : Int) (m : Nat) => iter (dep_meet_L0 a b back size) m x11_1 = some o3) (fun (x11_1 : Int) => o3 = .go x11_1) 0 n6 ho7 ⟨rfl, rfl, rfl, rfl, rfl, rfl, trivial⟩ (fun w hw => hw.pick [0, 1, 2] (by decide)) ?_ ?_
  · skip
    rintro x11_1 rfl
    refine WQ.then ?_
    refine WC.seq ?_
    refine WC.region ?_
    refine WL.q rfl rfl rfl (QV.assign rfl rfl) ?_
    refine WL.nil ?_
    refine WQ.then ?_
    refine WC.ret ?_
    obtain rfl := (eq_of_some hm5).symm
    refine WQ.ret1 rfl rfl (fun w hw => ?_)
    exact ⟨rfl, Own.kgrow (fun _ x => x) hw⟩
  · skip
    rintro x11_1 m8 hI9
    obtain ⟨m10, s11, rfl, hm12, hn13⟩ := iter_step hI9; clear hI9; unfold dep_meet_L0 at hm12
    refine WC.seq ?_
    refine WC.region ?_
    refine WL.q rfl rfl rfl (QV.lss rfl rfl rfl rfl) ?_
    refine WL.nil ?_
    refine WQ.then ?_
    refine WC.seq ?_
    refine WC.cond rfl (fun h14 => ?_) (fun h14 => ?_)
    · skip
      have hm15 := br_t h14 hm12; clear hm12
      refine WC.skip ?_
      refine WQ.then ?_
      refine WC.seq ?_
      refine WC.block ?_
      refine WC.seq ?_
      refine WC.region ?_
      refine WL.q rfl rfl rfl (QV.move rfl rfl) ?_
      refine WL.q rfl rfl rfl (QV.assign rfl rfl) ?_
      refine WL.nil ?_
      refine WQ.then ?_
      refine WC.seq ?_
      refine WC.region ?_
      refine WL.q rfl rfl rfl (QV.fieldAddr fd81_4 rfl rfl) ?_
      refine WL.q rfl rfl rfl (QV.load pl3 rfl rfl (Own.cell 1 rfl rfl)) ?_
      refine WL.q rfl rfl rfl (QV.move rfl rfl) ?_
      obtain ⟨c16, hm17⟩ := ck_some hm15; clear hm15
      refine WL.q rfl rfl rfl (QV.mul rfl rfl rfl rfl c16) ?_
      refine WL.q rfl rfl rfl (QV.fieldAddr fd81_5 rfl rfl) ?_
      refine WL.q rfl rfl rfl (QV.load pl3 rfl rfl (Own.cell 1 rfl rfl)) ?_
      obtain ⟨c18, hm19⟩ := ck_some hm17; clear hm17
      refine WL.q rfl rfl rfl (QV.add rfl rfl rfl rfl c18) ?_
      refine WL.q rfl rfl rfl (QV.fieldAddr fd81_4 rfl rfl) ?_
      refine WL.q rfl rfl rfl (QV.load pl3 rfl rfl (Own.cell 0 rfl rfl)) ?_
      refine WL.q rfl rfl rfl (QV.move rfl rfl) ?_
      refine WL.q rfl rfl rfl (QV.move rfl rfl) ?_
      obtain ⟨c20, hm21⟩ := ck_some hm19; clear hm19
      refine WL.q rfl rfl rfl (QV.add rfl rfl rfl rfl c20) ?_
      obtain ⟨c22, hm23⟩ := ck_some hm21; clear hm21
      refine WL.q rfl rfl rfl (QV.mul rfl rfl rfl rfl c22) ?_
      obtain ⟨c24, hm25⟩ := ck_some hm23; clear hm23
      refine WL.q rfl rfl rfl (QV.sub rfl rfl rfl rfl c24) ?_
      refine WL.q rfl rfl rfl (QV.fieldAddr fd81_5 rfl rfl) ?_
      refine WL.q rfl rfl rfl (QV.load pl3 rfl rfl (Own.cell 0 rfl rfl)) ?_
      obtain ⟨c26, hm27⟩ := ck_some hm25; clear hm25
      refine WL.q rfl rfl rfl (QV.sub rfl rfl rfl rfl c26) ?_
      refine WL.q rfl rfl rfl (QV.move rfl rfl) ?_
      obtain ⟨c28, hm29⟩ := ck_some hm27; clear hm27
      refine WL.q rfl rfl rfl (QV.sub rfl rfl rfl rfl c28) ?_
      refine WL.q rfl rfl rfl (QV.andW rfl rfl rfl rfl) ?_
      refine WL.q rfl rfl rfl (QV.eql rfl rfl rfl rfl) ?_
      refine WL.nil ?_
      refine WQ.then ?_
      refine WC.cond rfl (fun h30 => ?_) (fun h30 => ?_)
      · skip
        have hm31 := br_t h30 hm29; clear hm29
        refine WC.seq ?_
        refine WC.region ?_
        refine WL.q rfl rfl rfl (QV.assign rfl rfl) ?_
        refine WL.nil ?_
        refine WQ.then ?_
        refine WC.ret ?_
        refine WQ.block_ret ?_
        refine WQ.then_ret ?_
        refine WQ.then_ret ?_
        refine WQ.block_ret ?_
        refine WQ.then_ret ?_
        refine WQ.then_ret ?_
        obtain rfl := up_ret hm31 hn13
        obtain rfl := (eq_of_some hm5).symm
        refine WQ.ret1 rfl rfl (fun w hw => ?_)
        exact ⟨rfl, Own.kgrow (fun _ x => x) hw⟩
      · skip
        have hm32 := br_f h30 hm29; clear hm29
        refine WC.skip ?_
        refine WQ.block ?_
        refine WQ.then ?_
        refine WC.region ?_
        obtain ⟨c33, hm34⟩ := ck_some hm32; clear hm32
        refine WL.q rfl rfl rfl (QV.add rfl rfl rfl rfl c33) ?_
        refine WL.q rfl rfl rfl (QV.move rfl rfl) ?_
        refine WL.nil ?_
        exact WQ.again1 (x11_1 + 1) m10 (up_next hm34 hn13) (Nat.lt_succ_self _) ⟨rfl, rfl, rfl, rfl, rfl, rfl, trivial⟩ (fun w hw => hw.pick [0, 1, 2] (by decide))
    · skip
      have hm35 := br_f h14 hm12; clear hm12
      refine WC.exit ?_
      refine WQ.then_exit ?_
      refine WQ.then_exit ?_
      refine WQ.block_exit ?_
      exact WQ.out1 x11_1 (up_brk hm35 hn13) ⟨rfl, rfl, rfl, rfl, rfl, rfl, trivial⟩ (fun w hw => hw.pick [0, 1, 2] (by decide))

set_option maxRecDepth 8000 in
theorem dep_words_w {s : Stm} {r : Bool} (w : World) (hm : dep_words_m s = some r)  : Calls Try.prog 120 #[.agg #[.int .i64 s.op, .int .i64 s.a.st, .int .i64 s.a.bk, .int .i64 s.b.st, .int .i64 s.b.bk, .int .i64 s.ar, .int .i64 s.sp, .int .i64 s.pl, .int .i64 s.n]] w (fun e w' => e = .returned (.bool r) ∧ Grow w w') := by
  unfold dep_words_m at hm
  have hk := Base.rfl (w := w)
  refine calls_of_WC (n := 11) (args := [.agg #[.int .i64 s.op, .int .i64 s.a.st, .int .i64 s.a.bk, .int .i64 s.b.st, .int .i64 s.b.bk, .int .i64 s.ar, .int .i64 s.sp, .int .i64 s.pl, .int .i64 s.n]]) Try.func120 rfl rfl (Nat.le_of_ble_eq_true rfl) ?_ (Own.startK hk (Own.start w))
  refine WC.seq ?_
  refine WC.region ?_
  refine WL.effect rfl ?_
  refine (EV.boxAgg (by decide) rfl rfl (fun b1 => ?_))
  refine WL.q rfl rfl rfl (QV.assign rfl rfl) ?_
  refine WL.nil ?_
  refine WQ.then ?_
  refine WC.seq ?_
  refine WC.region ?_
  refine WL.q rfl rfl rfl (QV.fieldAddr fd81_0 rfl rfl) ?_
  refine WL.q rfl rfl rfl (QV.load pl3 rfl rfl (Own.cell 0 rfl rfl)) ?_
  refine WL.q rfl rfl rfl (QV.eql rfl rfl rfl rfl) ?_
  refine WL.q rfl rfl rfl (QV.move rfl rfl) ?_
  refine WL.g rfl rfl (GuardIs.neg rfl rfl) (fun hG => QV.fieldAddr fd81_0 rfl rfl) ?_
  refine WL.g rfl rfl (GuardIs.neg rfl rfl) (fun hG => QV.load pl3 rfl hG (Own.cell 0 rfl rfl)) ?_
  refine WL.g rfl rfl (GuardIs.neg rfl rfl) (fun hG => QV.eql rfl hG rfl rfl) ?_
  refine WL.q rfl rfl rfl (QV.pickOr rfl rfl rfl (fun h => notF h)) ?_
  refine WL.q rfl rfl rfl (QV.assign rfl rfl) ?_
  refine WL.nil ?_
  refine WQ.then ?_
  refine WC.ret ?_
  obtain rfl := (eq_of_some hm).symm
  refine WQ.ret1 rfl rfl (fun w hw => ?_)
  exact ⟨rfl, Own.kgrow (fun _ x => x) hw⟩

set_option maxRecDepth 8000 in
theorem dep_memory_w {v_l_logs : Value} {v_l_body : Value} {v_l_outs : Value} {l : Lp} {from_ : Int} {to : Int} {r : Edg × Bool} (w : World) (hm : dep_memory_m l from_ to = some r) (h_l_logs : Arr w v_l_logs 1 (l.logs.map icell)) (h_l_body : Arr w v_l_body 9 (l.body.map Stm.cells)) (h_l_outs : Arr w v_l_outs 1 (l.outs.map icell)) : Calls Try.prog 97 #[.agg #[v_l_logs, v_l_body, v_l_outs], .int .i64 from_, .int .i64 to] w (fun e w' => e = .returned (.tuple #[.agg #[.int .i64 r.1.fr, .int .i64 r.1.to, .int .i64 r.1.bk, .int .i64 r.1.wt], .bool r.2]) ∧ Grow w w') := by
  unfold dep_memory_m at hm
  have hk := Base.rfl (w := w)
  refine calls_of_WC (n := 80) (args := [.agg #[v_l_logs, v_l_body, v_l_outs], .int .i64 from_, .int .i64 to]) Try.func97 rfl rfl (Nat.le_of_ble_eq_true rfl) ?_ (Own.startK hk (Own.start w))
  refine WC.seq ?_
  refine WC.region ?_
  refine WL.effect rfl ?_
  refine (EV.boxAgg (by decide) rfl rfl (fun b1 => ?_))
  refine WL.effect rfl ?_
  refine (EV.alloc (by decide) ze71 (fun b2 => ?_))
  refine WL.q rfl rfl rfl (QV.assign rfl rfl) ?_
  refine WL.nil ?_
  refine WQ.then ?_
  refine WC.seq ?_
  refine WC.dr (m := 14) (S := Own noM w [kn noM w.heap.size w w, blk b2 [.int .i64 0, .int .i64 0, .int .i64 0, .int .i64 0] 71, blk b1 [v_l_logs, v_l_body, v_l_outs] 25]) (by kernel_rfl) (by kernel_rfl) (fun w hw => hw.pick [2, 0, 1] (by decide)) ?_
  refine WD.toL 0 (by kernel_rfl) ?_
  refine WD.qL 0 0 1 rfl (by kernel_rfl) rfl rfl rfl (QV.fieldAddr fd25_1 rfl rfl) ?_
  refine WD.qL 1 1 3 rfl (by kernel_rfl) rfl rfl rfl (QV.load pl23 rfl rfl (Own.cell 2 rfl rfl)) ?_
  refine WD.qL 2 3 7 rfl (by kernel_rfl) rfl rfl rfl (QV.move rfl rfl) ?_
  obtain ⟨c3, hm4⟩ := ck_some hm; clear hm
  obtain ⟨p5, hp6⟩ := h_l_body.lenMap.ix (sz := 9) ln_len c3
  refine WD.qL 3 7 15 rfl (by kernel_rfl) rfl rfl rfl (QV.indexSlice sl23 rfl rfl rfl rfl hp6) ?_
  refine WD.qL 4 15 31 rfl (by kernel_rfl) rfl rfl rfl (QV.loadAgg ag81 rfl rfl rfl (fun w hw => ((Own.karr 0 rfl hk h_l_body) w hw).ele hp6 c3)) ?_
  refine WD.qL 5 31 63 rfl (by kernel_rfl) rfl rfl rfl (QV.fieldAddr fd25_1 rfl rfl) ?_
  refine WD.qL 6 63 127 rfl (by kernel_rfl) rfl rfl rfl (QV.load pl23 rfl rfl (Own.cell 2 rfl rfl)) ?_
  refine WD.qL 7 127 255 rfl (by kernel_rfl) rfl rfl rfl (QV.move rfl rfl) ?_
  obtain ⟨c7, hm8⟩ := ck_some hm4; clear hm4
  obtain ⟨p9, hp10⟩ := h_l_body.lenMap.ix (sz := 9) ln_len c7
  refine WD.qL 8 255 511 rfl (by kernel_rfl) rfl rfl rfl (QV.indexSlice sl23 rfl rfl rfl rfl hp10) ?_
  refine WD.qL 9 511 1023 rfl (by kernel_rfl) rfl rfl rfl (QV.loadAgg ag81 rfl rfl rfl (fun w hw => ((Own.karr 0 rfl hk h_l_body) w hw).ele hp10 c7)) ?_
  refine WD.cut2 (fun (b11 : Nat) (b12 : Nat) => [(1, (true, .int .i64 from_)), (2, (true, .int .i64 to)), (3, (true, .pointer (some (⟨b1, 0, none⟩)))), (6, (true, .pointer (some (⟨b2, 0, none⟩)))), (8, (true, .pointer (some (⟨b11, 0, none⟩)))), (9, (true, .pointer (some (⟨b12, 0, none⟩))))]) (fun (b11 : Nat) (b12 : Nat) => Own noM w [blk b12 [.int .i64 ((ele l.body to).op), .int .i64 (((ele l.body to).a).st), .int .i64 (((ele l.body to).a).bk), .int .i64 (((ele l.body to).b).st), .int .i64 (((ele l.body to).b).bk), .int .i64 ((ele l.body to).ar), .int .i64 ((ele l.body to).sp), .int .i64 ((ele l.body to).pl), .int .i64 ((ele l.body to).n)] 81, blk b11 [.int .i64 ((ele l.body from_).op), .int .i64 (((ele l.body from_).a).st), .int .i64 (((ele l.body from_).a).bk), .int .i64 (((ele l.body from_).b).st), .int .i64 (((ele l.body from_).b).bk), .int .i64 ((ele l.body from_).ar), .int .i64 ((ele l.body from_).sp), .int .i64 ((ele l.body from_).pl), .int .i64 ((ele l.body from_).n)] 81, blk b2 [.int .i64 0, .int .i64 0, .int .i64 0, .int .i64 0] 71, blk b1 [v_l_logs, v_l_body, v_l_outs] 25, kn noM w.heap.size w w]) ?_ ?_
  · skip
    rintro b11 b12
    refine WQ.then ?_
    refine WC.seq ?_
    refine WC.seq ?_
    refine WC.region ?_
    refine WL.q rfl rfl rfl (QV.loadAgg ag81 rfl rfl rfl (Own.cellsBlk 1 rfl)) ?_
    obtain ⟨x13, hx14, hm15⟩ := bd_some hm8; clear hm8
    refine WL.q rfl rfl rfl (QV.call en120 (EvAll.cons rfl rfl EvAll.nil) (fun w hw => have h := dep_words_w w hx14 ; h)) ?_
    refine WL.q rfl rfl rfl (QV.not rfl rfl) ?_
    refine WL.q rfl rfl rfl (QV.move rfl rfl) ?_
    refine WL.g rfl rfl (GuardIs.neg rfl rfl) (fun hG => QV.loadAgg ag81 rfl rfl rfl (Own.cellsBlk 0 rfl)) ?_
    obtain ⟨x16, hx17, hm18⟩ := bdG_some hm15; clear hm15
    refine WL.g rfl rfl (GuardIs.neg rfl rfl) (fun hG => QV.call en120 (EvAll.cons rfl hG EvAll.nil) (fun w hw => have h := dep_words_w w (hx17 hG) ; h)) ?_
    refine WL.g rfl rfl (GuardIs.neg rfl rfl) (fun hG => QV.not rfl hG) ?_
    refine WL.q rfl rfl rfl (QV.pickOr rfl rfl rfl (fun h => notF h)) ?_
    refine WL.q rfl rfl rfl (QV.move rfl rfl) ?_
    refine WL.g rfl rfl (GuardIs.neg rfl rfl) (fun hG => QV.fieldAddr fd81_3 rfl rfl) ?_
    refine WL.g rfl rfl (GuardIs.neg rfl rfl) (fun hG => QV.load pl3 rfl hG (Own.cell 1 rfl rfl)) ?_
    refine WL.g rfl rfl (GuardIs.neg rfl rfl) (fun hG => QV.fieldAddr fd81_3 rfl rfl) ?_
    refine WL.g rfl rfl (GuardIs.neg rfl rfl) (fun hG => QV.load pl3 rfl hG (Own.cell 0 rfl rfl)) ?_
    refine WL.g rfl rfl (GuardIs.neg rfl rfl) (fun hG => QV.neq rfl hG rfl hG) ?_
    refine WL.q rfl rfl rfl (QV.pickOr rfl rfl rfl (fun h => notF h)) ?_
    refine WL.q rfl rfl rfl (QV.move rfl rfl) ?_
    refine WL.g rfl rfl (GuardIs.neg rfl rfl) (fun hG => QV.fieldAddr fd81_0 rfl rfl) ?_
    refine WL.g rfl rfl (GuardIs.neg rfl rfl) (fun hG => QV.load pl3 rfl hG (Own.cell 1 rfl rfl)) ?_
    refine WL.g rfl rfl (GuardIs.neg rfl rfl) (fun hG => QV.eql rfl hG rfl rfl) ?_
    refine WL.g rfl rfl (GuardIs.neg rfl rfl) (fun hG => QV.move rfl hG) ?_
    refine WL.g rfl rfl (GuardIs.posC rfl rfl) (fun hG => QV.fieldAddr fd81_0 rfl rfl) ?_
    refine WL.g rfl rfl (GuardIs.posC rfl rfl) (fun hG => QV.load pl3 rfl hG (Own.cell 0 rfl rfl)) ?_
    refine WL.g rfl rfl (GuardIs.posC rfl rfl) (fun hG => QV.eql rfl hG rfl rfl) ?_
    refine WL.g rfl rfl (GuardIs.neg rfl rfl) (fun hG => QV.pickAnd rfl hG rfl (fun h => andT hG h)) ?_
    refine WL.q rfl rfl rfl (QV.pickOr rfl rfl rfl (fun h => notF h)) ?_
    refine WL.nil ?_
    refine WQ.then ?_
    refine WC.cond rfl (fun h19 => ?_) (fun h19 => ?_)
    · skip
      have hm20 := br_t h19 hm18; clear hm18
      refine WC.seq ?_
      refine WC.region ?_
      refine WL.q rfl rfl rfl (QV.build (ps := []) (cells := [.int .i64 0, .int .i64 0, .int .i64 0, .int .i64 0]) EvAll.nil (by kernel_rfl)) ?_
      refine WL.effect rfl ?_
      refine (EV.store 2 rfl rfl rfl rfl rfl rfl (vs := [.int .i64 0, .int .i64 0, .int .i64 0, .int .i64 0]) (show Value.cells _ = List.toArray _ from rfl) sz71 (Nat.le_of_ble_eq_true rfl) (one_cons rfl (one_cons rfl (one_cons rfl (one_cons rfl one_nil)))) ?_)
      refine WL.q rfl rfl rfl (QV.assign rfl rfl) ?_
      refine WL.nil ?_
      refine WQ.then ?_
      refine WC.ret ?_
      refine WQ.then_ret ?_
      obtain rfl := (eq_of_some hm20).symm
      refine WQ.retCellTmp rfl ag71 rfl rfl rfl (Own.cellsBlk 2 rfl) (fun w hw => ?_)
      exact ⟨rfl, Own.kgrow (fun _ x => x) hw⟩
    · skip
      have hm21 := br_f h19 hm18; clear hm18
      refine WC.skip ?_
      refine WQ.then ?_
      refine WC.seq ?_
      refine WC.region ?_
      refine WL.q rfl rfl rfl (QV.assign rfl rfl) ?_
      refine WL.q rfl rfl rfl (QV.assign rfl rfl) ?_
      refine WL.nil ?_
      refine WQ.then ?_
      refine WC.seq ?_
      refine WC.seq ?_
      refine WC.region ?_
      refine WL.q rfl rfl rfl (QV.move rfl rfl) ?_
      refine WL.q rfl rfl rfl (QV.move rfl rfl) ?_
      refine WL.q rfl rfl rfl (QV.geq rfl rfl rfl rfl) ?_
      refine WL.nil ?_
      refine WQ.then ?_
      obtain ⟨o22, hj23, hm24⟩ := bd_some hm21; clear hm21
      refine WC.joint1 (H2 := [blk b12 [.int .i64 ((ele l.body to).op), .int .i64 (((ele l.body to).a).st), .int .i64 (((ele l.body to).a).bk), .int .i64 (((ele l.body to).b).st), .int .i64 (((ele l.body to).b).bk), .int .i64 ((ele l.body to).ar), .int .i64 ((ele l.body to).sp), .int .i64 ((ele l.body to).pl), .int .i64 ((ele l.body to).n)] 81, blk b11 [.int .i64 ((ele l.body from_).op), .int .i64 (((ele l.body from_).a).st), .int .i64 (((ele l.body from_).a).bk), .int .i64 (((ele l.body from_).b).st), .int .i64 (((ele l.body from_).b).bk), .int .i64 ((ele l.body from_).ar), .int .i64 ((ele l.body from_).sp), .int .i64 ((ele l.body from_).pl), .int .i64 ((ele l.body from_).n)] 81, blk b2 [.int .i64 0, .int .i64 0, .int .i64 0, .int .i64 0] 71, blk b1 [v_l_logs, v_l_body, v_l_outs] 25, kn noM w.heap.size w w]) (τ := [(1, (true, _)), (2, (true, _)), (3, (true, _)), (6, (true, _)), (8, (true, _)), (9, (true, _)), (11, (true, _))]) (fun (least10_1 : Int) => [(10, (true, .int .i64 least10_1))]) (fun (least10_1 : Int) => []) (fun (least10_1 : Int) => o22 = .go least10_1) ⟨rfl, rfl, rfl, rfl, rfl, rfl, rfl, trivial⟩ (fun w hw => hw.pick [0, 1, 2, 3, 4] (by decide)) ?_ ?_
      · skip
        rintro least10_1 rfl
        refine WC.seq ?_
        refine WC.seq ?_
        refine WC.region ?_
        refine WL.q rfl rfl rfl (QV.fieldAddr fd81_0 rfl rfl) ?_
        refine WL.q rfl rfl rfl (QV.load pl3 rfl rfl (Own.cell 1 rfl rfl)) ?_
        refine WL.q rfl rfl rfl (QV.eql rfl rfl rfl rfl) ?_
        refine WL.nil ?_
        refine WQ.then ?_
        obtain ⟨o25, hj26, hm27⟩ := bd_some hm24; clear hm24
        refine WC.joint1 (H2 := [blk b12 [.int .i64 ((ele l.body to).op), .int .i64 (((ele l.body to).a).st), .int .i64 (((ele l.body to).a).bk), .int .i64 (((ele l.body to).b).st), .int .i64 (((ele l.body to).b).bk), .int .i64 ((ele l.body to).ar), .int .i64 ((ele l.body to).sp), .int .i64 ((ele l.body to).pl), .int .i64 ((ele l.body to).n)] 81, blk b11 [.int .i64 ((ele l.body from_).op), .int .i64 (((ele l.body from_).a).st), .int .i64 (((ele l.body from_).a).bk), .int .i64 (((ele l.body from_).b).st), .int .i64 (((ele l.body from_).b).bk), .int .i64 ((ele l.body from_).ar), .int .i64 ((ele l.body from_).sp), .int .i64 ((ele l.body from_).pl), .int .i64 ((ele l.body from_).n)] 81, blk b2 [.int .i64 0, .int .i64 0, .int .i64 0, .int .i64 0] 71, blk b1 [v_l_logs, v_l_body, v_l_outs] 25, kn noM w.heap.size w w]) (τ := [(1, (true, _)), (2, (true, _)), (3, (true, _)), (6, (true, _)), (8, (true, _)), (9, (true, _)), (10, (true, _))]) (fun (wait11_2 : Int) => [(11, (true, .int .i64 wait11_2))]) (fun (wait11_2 : Int) => []) (fun (wait11_2 : Int) => o25 = .go wait11_2) ⟨rfl, rfl, rfl, rfl, rfl, rfl, rfl, trivial⟩ (fun w hw => hw.pick [0, 1, 2, 3, 4] (by decide)) ?_ ?_
        · skip
          rintro wait11_2 rfl
          refine WC.seq ?_
          refine WC.region ?_
          refine WL.q rfl rfl rfl (QV.fieldAddr fd25_0 rfl rfl) ?_
          refine WL.q rfl rfl rfl (QV.load pl22 rfl rfl (Own.cell 3 rfl rfl)) ?_
          refine WL.q rfl rfl rfl (QV.fieldAddr fd81_3 rfl rfl) ?_
          refine WL.q rfl rfl rfl (QV.load pl3 rfl rfl (Own.cell 1 rfl rfl)) ?_
          obtain ⟨c28, hm29⟩ := ck_some hm27; clear hm27
          obtain ⟨p30, hp31⟩ := h_l_logs.lenMap.ix (sz := 1) ln_len c28
          refine WL.q rfl rfl rfl (QV.indexSlice sl22 rfl rfl rfl rfl hp31) ?_
          refine WL.q rfl rfl rfl (QV.load pl3 rfl rfl (fun w hw => CellsAt.one 0 (((Own.karr 4 rfl hk h_l_logs) w hw).ele hp31 c28) rfl)) ?_
          obtain ⟨c32, hm33⟩ := ck_some hm29; clear hm29
          refine WL.q rfl rfl rfl (QV.shlD rfl rfl rfl rfl c32) ?_
          refine WL.q rfl rfl rfl (QV.assign rfl rfl) ?_
          refine WL.nil ?_
          refine WQ.then ?_
          refine WC.seq ?_
          refine WC.seq ?_
          refine WC.region ?_
          refine WL.q rfl rfl rfl (QV.move rfl rfl) ?_
          refine WL.q rfl rfl rfl (QV.assign rfl rfl) ?_
          refine WL.nil ?_
          refine WQ.then ?_
          obtain ⟨o34, ho35, hm36⟩ := bd_some hm33; clear hm33; obtain ⟨n37, ho38⟩ := lp_some ho35
          refine WC.bloop1 (H2 := [blk b12 [.int .i64 ((ele l.body to).op), .int .i64 (((ele l.body to).a).st), .int .i64 (((ele l.body to).a).bk), .int .i64 (((ele l.body to).b).st), .int .i64 (((ele l.body to).b).bk), .int .i64 ((ele l.body to).ar), .int .i64 ((ele l.body to).sp), .int .i64 ((ele l.body to).pl), .int .i64 ((ele l.body to).n)] 81, blk b11 [.int .i64 ((ele l.body from_).op), .int .i64 (((ele l.body from_).a).st), .int .i64 (((ele l.body from_).a).bk), .int .i64 (((ele l.body from_).b).st), .int .i64 (((ele l.body from_).b).bk), .int .i64 ((ele l.body from_).ar), .int .i64 ((ele l.body from_).sp), .int .i64 ((ele l.body from_).pl), .int .i64 ((ele l.body from_).n)] 81, blk b2 [.int .i64 0, .int .i64 0, .int .i64 0, .int .i64 0] 71, blk b1 [v_l_logs, v_l_body, v_l_outs] 25, kn noM w.heap.size w w]) (τ := [(1, (true, _)), (2, (true, _)), (6, (true, _)), (8, (true, _)), (9, (true, _)), (11, (true, _)), (12, (true, _))]) (fun (back13_3 : Int) => [(13, (true, .int .i64 back13_3))]) (fun (back13_3 : Int) => []) (fun (back13_3 : Int) (m : Nat) => iter (dep_memory_L0 l from_ to wait11_2) m back13_3 = some o34) (fun (back13_3 : Int) => o34 = .go back13_3) least10_1 n37 ho38 ⟨rfl, rfl, rfl, rfl, rfl, rfl, rfl, rfl, trivial⟩ (fun w hw => hw.pick [0, 1, 2, 3, 4] (by decide)) ?_ ?_
          · skip
            rintro back13_3 rfl
            refine WQ.then ?_
            refine WC.seq ?_
            refine WC.region ?_
            refine WL.q rfl rfl rfl (QV.build (ps := []) (cells := [.int .i64 0, .int .i64 0, .int .i64 0, .int .i64 0]) EvAll.nil (by kernel_rfl)) ?_
            refine WL.effect rfl ?_
            refine (EV.store 2 rfl rfl rfl rfl rfl rfl (vs := [.int .i64 0, .int .i64 0, .int .i64 0, .int .i64 0]) (show Value.cells _ = List.toArray _ from rfl) sz71 (Nat.le_of_ble_eq_true rfl) (one_cons rfl (one_cons rfl (one_cons rfl (one_cons rfl one_nil)))) ?_)
            refine WL.q rfl rfl rfl (QV.assign rfl rfl) ?_
            refine WL.nil ?_
            refine WQ.then ?_
            refine WC.ret ?_
            obtain rfl := (eq_of_some hm36).symm
            refine WQ.retCellTmp rfl ag71 rfl rfl rfl (Own.cellsBlk 2 rfl) (fun w hw => ?_)
            exact ⟨rfl, Own.kgrow (fun _ x => x) hw⟩
          · skip
            rintro back13_3 m39 hI40
            obtain ⟨m41, s42, rfl, hm43, hn44⟩ := iter_step hI40; clear hI40; unfold dep_memory_L0 at hm43
            refine WC.seq ?_
            refine WC.seq ?_
            refine WC.region ?_
            refine WL.q rfl rfl rfl (QV.move rfl rfl) ?_
            refine WL.q rfl rfl rfl (QV.move rfl rfl) ?_
            refine WL.q rfl rfl rfl (QV.leq rfl rfl rfl rfl) ?_
            refine WL.nil ?_
            refine WQ.then ?_
            refine WC.cond rfl (fun h45 => ?_) (fun h45 => ?_)
            · skip
              have hm46 := br_t h45 hm43; clear hm43
              refine WC.skip ?_
              refine WQ.then ?_
              refine WC.seq ?_
              refine WC.block ?_
              refine WC.seq ?_
              refine WC.region ?_
              refine WL.q rfl rfl rfl (QV.loadAgg ag81 rfl rfl rfl (Own.cellsBlk 1 rfl)) ?_
              refine WL.q rfl rfl rfl (QV.loadAgg ag81 rfl rfl rfl (Own.cellsBlk 0 rfl)) ?_
              refine WL.q rfl rfl rfl (QV.move rfl rfl) ?_
              refine WL.q rfl rfl rfl (QV.move rfl rfl) ?_
              obtain ⟨x47, hx48, hm49⟩ := bd_some hm46; clear hm46
              refine WL.q rfl rfl rfl (QV.call en121 (EvAll.cons rfl rfl (EvAll.cons rfl rfl (EvAll.cons rfl rfl (EvAll.cons rfl rfl EvAll.nil)))) (fun w hw => have h := dep_meet_w w hx48 ; h)) ?_
              refine WL.nil ?_
              refine WQ.then ?_
              refine WC.cond rfl (fun h50 => ?_) (fun h50 => ?_)
              · skip
                have hm51 := br_t h50 hm49; clear hm49
                refine WC.seq ?_
                refine WC.region ?_
                refine WL.q rfl rfl rfl (QV.move rfl rfl) ?_
                refine WL.q rfl rfl rfl (QV.move rfl rfl) ?_
                refine WL.q rfl rfl rfl (QV.move rfl rfl) ?_
                refine WL.q rfl rfl rfl (QV.move rfl rfl) ?_
                refine WL.q rfl rfl rfl (QV.build (ps := [(0, .tmp 74), (1, .tmp 75), (2, .tmp 76), (3, .tmp 77)]) (cells := [.int .i64 from_, .int .i64 to, .int .i64 back13_3, .int .i64 wait11_2]) (EvAll.cons rfl rfl (EvAll.cons rfl rfl (EvAll.cons rfl rfl (EvAll.cons rfl rfl EvAll.nil)))) (by kernel_rfl)) ?_
                refine WL.effect rfl ?_
                refine (EV.store 2 rfl rfl rfl rfl rfl rfl (vs := [.int .i64 from_, .int .i64 to, .int .i64 back13_3, .int .i64 wait11_2]) (show Value.cells _ = List.toArray _ from rfl) sz71 (Nat.le_of_ble_eq_true rfl) (one_cons rfl (one_cons rfl (one_cons rfl (one_cons rfl one_nil)))) ?_)
                refine WL.q rfl rfl rfl (QV.assign rfl rfl) ?_
                refine WL.nil ?_
                refine WQ.then ?_
                refine WC.ret ?_
                refine WQ.block_ret ?_
                refine WQ.then_ret ?_
                refine WQ.then_ret ?_
                refine WQ.block_ret ?_
                refine WQ.then_ret ?_
                refine WQ.then_ret ?_
                obtain rfl := up_ret hm51 hn44
                obtain rfl := (eq_of_some hm36).symm
                refine WQ.retCellTmp rfl ag71 rfl rfl rfl (Own.cellsBlk 2 rfl) (fun w hw => ?_)
                exact ⟨rfl, Own.kgrow (fun _ x => x) hw⟩
              · skip
                have hm52 := br_f h50 hm49; clear hm49
                refine WC.skip ?_
                refine WQ.block ?_
                refine WQ.then ?_
                refine WC.region ?_
                refine WL.q rfl rfl rfl (QV.move rfl rfl) ?_
                obtain ⟨c53, hm54⟩ := ck_some hm52; clear hm52
                refine WL.q rfl rfl rfl (QV.add rfl rfl rfl rfl c53) ?_
                refine WL.q rfl rfl rfl (QV.assign rfl rfl) ?_
                refine WL.nil ?_
                exact WQ.again1 (back13_3 + 1) m41 (up_next hm54 hn44) (Nat.lt_succ_self _) ⟨rfl, rfl, rfl, rfl, rfl, rfl, rfl, rfl, trivial⟩ (fun w hw => hw.pick [0, 1, 2, 3, 4] (by decide))
            · skip
              have hm55 := br_f h45 hm43; clear hm43
              refine WC.exit ?_
              refine WQ.then_exit ?_
              refine WQ.then_exit ?_
              refine WQ.block_exit ?_
              exact WQ.out1 back13_3 (up_brk hm55 hn44) ⟨rfl, rfl, rfl, rfl, rfl, rfl, rfl, rfl, trivial⟩ (fun w hw => hw.pick [0, 1, 2, 3, 4] (by decide))
        · skip
          refine WC.cond rfl (fun h56 => ?_) (fun h56 => ?_)
          · skip
            have hm57 := br_t h56 hj26; clear hj26
            refine WC.region ?_
            refine WL.q rfl rfl rfl (QV.assign rfl rfl) ?_
            refine WL.nil ?_
            exact WQ.out1 1 (eq_of_some hm57) ⟨rfl, rfl, rfl, rfl, rfl, rfl, rfl, rfl, trivial⟩ (fun w hw => hw.pick [0, 1, 2, 3, 4] (by decide))
          · skip
            have hm58 := br_f h56 hj26; clear hj26
            refine WC.skip ?_
            exact WQ.out1 0 (eq_of_some hm58) ⟨rfl, rfl, rfl, rfl, rfl, rfl, rfl, rfl, trivial⟩ (fun w hw => hw.pick [0, 1, 2, 3, 4] (by decide))
      · skip
        refine WC.cond rfl (fun h59 => ?_) (fun h59 => ?_)
        · skip
          have hm60 := br_t h59 hj23; clear hj23
          refine WC.region ?_
          refine WL.q rfl rfl rfl (QV.assign rfl rfl) ?_
          refine WL.nil ?_
          exact WQ.out1 1 (eq_of_some hm60) ⟨rfl, rfl, rfl, rfl, rfl, rfl, rfl, rfl, trivial⟩ (fun w hw => hw.pick [0, 1, 2, 3, 4] (by decide))
        · skip
          have hm61 := br_f h59 hj23; clear hj23
          refine WC.skip ?_
          exact WQ.out1 0 (eq_of_some hm61) ⟨rfl, rfl, rfl, rfl, rfl, rfl, rfl, rfl, trivial⟩ (fun w hw => hw.pick [0, 1, 2, 3, 4] (by decide))
  · skip
    refine WD.two 10 11 1023 2047 3071 (by kernel_rfl) rfl rfl rfl rfl (by kernel_rfl) (by kernel_rfl) ?_ ?_
    · skip
      refine (EV.alloc (by decide) ze81 (fun b62 => ?_))
      refine WD.b (H' := [kn noM w.heap.size w w, blk b2 [.int .i64 0, .int .i64 0, .int .i64 0, .int .i64 0] 71, blk b1 [v_l_logs, v_l_body, v_l_outs] 25]) (fun w hw => hw.pick [3, 1, 2] (by decide)) (fun w hw => hw) ?_
      refine WD.oL 11 2047 4095 rfl (by kernel_rfl) rfl ?_
      refine (EV.alloc (by decide) ze81 (fun b63 => ?_))
      refine WD.b (H' := [kn noM w.heap.size w w, blk b2 [.int .i64 0, .int .i64 0, .int .i64 0, .int .i64 0] 71, blk b1 [v_l_logs, v_l_body, v_l_outs] 25]) (fun w hw => hw.pick [4, 2, 3] (by decide)) (fun w hw => hw) ?_
      refine WD.oL 12 4095 8191 rfl (by kernel_rfl) rfl ?_
      refine (EV.store 1 rfl rfl rfl rfl rfl rfl (vs := [.int .i64 ((ele l.body from_).op), .int .i64 (((ele l.body from_).a).st), .int .i64 (((ele l.body from_).a).bk), .int .i64 (((ele l.body from_).b).st), .int .i64 (((ele l.body from_).b).bk), .int .i64 ((ele l.body from_).ar), .int .i64 ((ele l.body from_).sp), .int .i64 ((ele l.body from_).pl), .int .i64 ((ele l.body from_).n)]) (show Value.cells _ = List.toArray _ from rfl) sz81 (Nat.le_of_ble_eq_true rfl) (one_cons rfl (one_cons rfl (one_cons rfl (one_cons rfl (one_cons rfl (one_cons rfl (one_cons rfl (one_cons rfl (one_cons rfl one_nil))))))))) ?_)
      refine WD.b (H' := [kn noM w.heap.size w w, blk b2 [.int .i64 0, .int .i64 0, .int .i64 0, .int .i64 0] 71, blk b1 [v_l_logs, v_l_body, v_l_outs] 25]) (fun w hw => hw.pick [4, 2, 3] (by decide)) (fun w hw => hw) ?_
      refine WD.oL 13 8191 16383 rfl (by kernel_rfl) rfl ?_
      refine (EV.store 0 rfl rfl rfl rfl rfl rfl (vs := [.int .i64 ((ele l.body to).op), .int .i64 (((ele l.body to).a).st), .int .i64 (((ele l.body to).a).bk), .int .i64 (((ele l.body to).b).st), .int .i64 (((ele l.body to).b).bk), .int .i64 ((ele l.body to).ar), .int .i64 ((ele l.body to).sp), .int .i64 ((ele l.body to).pl), .int .i64 ((ele l.body to).n)]) (show Value.cells _ = List.toArray _ from rfl) sz81 (Nat.le_of_ble_eq_true rfl) (one_cons rfl (one_cons rfl (one_cons rfl (one_cons rfl (one_cons rfl (one_cons rfl (one_cons rfl (one_cons rfl (one_cons rfl one_nil))))))))) ?_)
      refine WD.b (H' := [kn noM w.heap.size w w, blk b2 [.int .i64 0, .int .i64 0, .int .i64 0, .int .i64 0] 71, blk b1 [v_l_logs, v_l_body, v_l_outs] 25]) (fun w hw => hw.pick [4, 2, 3] (by decide)) (fun w hw => hw) ?_
      refine WD.eL (by kernel_rfl) ?_
      exact WQ.cutEnd2 b62 b63 ⟨rfl, rfl, rfl, rfl, rfl, rfl, trivial⟩ (fun w hw => hw.pick [0, 1, 2, 3, 4] (by decide))
    · skip
      refine (EV.alloc (by decide) ze81 (fun b64 => ?_))
      refine WD.b (H' := [kn noM w.heap.size w w, blk b2 [.int .i64 0, .int .i64 0, .int .i64 0, .int .i64 0] 71, blk b1 [v_l_logs, v_l_body, v_l_outs] 25]) (fun w hw => hw.pick [3, 1, 2] (by decide)) (fun w hw => hw) ?_
      refine WD.oL 10 3071 4095 rfl (by kernel_rfl) rfl ?_
      refine (EV.alloc (by decide) ze81 (fun b65 => ?_))
      refine WD.b (H' := [kn noM w.heap.size w w, blk b2 [.int .i64 0, .int .i64 0, .int .i64 0, .int .i64 0] 71, blk b1 [v_l_logs, v_l_body, v_l_outs] 25]) (fun w hw => hw.pick [4, 2, 3] (by decide)) (fun w hw => hw) ?_
      refine WD.oL 12 4095 8191 rfl (by kernel_rfl) rfl ?_
      refine (EV.store 0 rfl rfl rfl rfl rfl rfl (vs := [.int .i64 ((ele l.body from_).op), .int .i64 (((ele l.body from_).a).st), .int .i64 (((ele l.body from_).a).bk), .int .i64 (((ele l.body from_).b).st), .int .i64 (((ele l.body from_).b).bk), .int .i64 ((ele l.body from_).ar), .int .i64 ((ele l.body from_).sp), .int .i64 ((ele l.body from_).pl), .int .i64 ((ele l.body from_).n)]) (show Value.cells _ = List.toArray _ from rfl) sz81 (Nat.le_of_ble_eq_true rfl) (one_cons rfl (one_cons rfl (one_cons rfl (one_cons rfl (one_cons rfl (one_cons rfl (one_cons rfl (one_cons rfl (one_cons rfl one_nil))))))))) ?_)
      refine WD.b (H' := [kn noM w.heap.size w w, blk b2 [.int .i64 0, .int .i64 0, .int .i64 0, .int .i64 0] 71, blk b1 [v_l_logs, v_l_body, v_l_outs] 25]) (fun w hw => hw.pick [4, 2, 3] (by decide)) (fun w hw => hw) ?_
      refine WD.oL 13 8191 16383 rfl (by kernel_rfl) rfl ?_
      refine (EV.store 1 rfl rfl rfl rfl rfl rfl (vs := [.int .i64 ((ele l.body to).op), .int .i64 (((ele l.body to).a).st), .int .i64 (((ele l.body to).a).bk), .int .i64 (((ele l.body to).b).st), .int .i64 (((ele l.body to).b).bk), .int .i64 ((ele l.body to).ar), .int .i64 ((ele l.body to).sp), .int .i64 ((ele l.body to).pl), .int .i64 ((ele l.body to).n)]) (show Value.cells _ = List.toArray _ from rfl) sz81 (Nat.le_of_ble_eq_true rfl) (one_cons rfl (one_cons rfl (one_cons rfl (one_cons rfl (one_cons rfl (one_cons rfl (one_cons rfl (one_cons rfl (one_cons rfl one_nil))))))))) ?_)
      refine WD.b (H' := [kn noM w.heap.size w w, blk b2 [.int .i64 0, .int .i64 0, .int .i64 0, .int .i64 0] 71, blk b1 [v_l_logs, v_l_body, v_l_outs] 25]) (fun w hw => hw.pick [4, 2, 3] (by decide)) (fun w hw => hw) ?_
      refine WD.eL (by kernel_rfl) ?_
      exact WQ.cutEnd2 b65 b64 ⟨rfl, rfl, rfl, rfl, rfl, rfl, trivial⟩ (fun w hw => hw.pick [1, 0, 2, 3, 4] (by decide))

set_option maxRecDepth 8000 in
theorem dep_Edges_w {v_l_logs : Value} {v_l_body : Value} {v_l_outs : Value} {l : Lp} {t : Tgt} {r : List Edg × Int} {K0 : World} (hm : dep_Edges_m l t = some r) (h_l_logs : Arr K0 v_l_logs 1 (l.logs.map icell)) (h_l_body : Arr K0 v_l_body 9 (l.body.map Stm.cells)) (h_l_outs : Arr K0 v_l_outs 1 (l.outs.map icell)) (M : Nat → Prop) (w : World) (hk : Base M K0 w) (hw0 : Own M w [] w) : Calls Try.prog 62 #[.agg #[v_l_logs, v_l_body, v_l_outs], .agg #[.int .i64 t.u0, .int .i64 t.u1, .int .i64 t.u2, .int .i64 t.w0, .int .i64 t.w1, .int .i64 t.w2, .int .i64 t.regs]] w (fun e w' => ∃ X : Value × World, e = .returned (.tuple #[X.1, .int .i64 r.2]) ∧ Own M w (kn M w.heap.size K0 X.2 :: []) w' ∧ Arr X.2 X.1 4 (r.1.map Edg.cells)) := by
  unfold dep_Edges_m at hm
  refine calls_of_WC (n := 80) (args := [.agg #[v_l_logs, v_l_body, v_l_outs], .agg #[.int .i64 t.u0, .int .i64 t.u1, .int .i64 t.u2, .int .i64 t.w0, .int .i64 t.w1, .int .i64 t.w2, .int .i64 t.regs]]) Try.func62 rfl rfl (Nat.le_of_ble_eq_true rfl) ?_ (Own.startK hk hw0)
  refine WC.seq ?_
  refine WC.region ?_
  refine WL.effect rfl ?_
  refine (EV.boxAgg (by decide) rfl rfl (fun b1 => ?_))
  refine WL.effect rfl ?_
  refine (EV.boxAgg (by decide) rfl rfl (fun b2 => ?_))
  refine WL.q rfl rfl rfl (QV.assign rfl rfl) ?_
  refine WL.q rfl rfl rfl (QV.assign rfl rfl) ?_
  refine WL.nil ?_
  refine WQ.then ?_
  refine WC.seq ?_
  refine WC.seq ?_
  refine WC.region ?_
  refine WL.q rfl rfl rfl (QV.loadAgg ag25 rfl rfl rfl (Own.cellsBlk 1 rfl)) ?_
  obtain ⟨x3, hx4, hm5⟩ := bd_some hm; clear hm
  refine WL.q rfl rfl rfl (QV.call en38 (EvAll.cons rfl rfl EvAll.nil) (fun w hw => have h := loop_May_w w hx4 ((Own.karr 2 rfl hk h_l_logs) w hw) ((Own.karr 2 rfl hk h_l_body) w hw) ((Own.karr 2 rfl hk h_l_outs) w hw); h)) ?_
  refine WL.q rfl rfl rfl (QV.not rfl rfl) ?_
  refine WL.q rfl rfl rfl (QV.move rfl rfl) ?_
  refine WL.g rfl rfl (GuardIs.neg rfl rfl) (fun hG => QV.loadAgg ag28 rfl rfl rfl (Own.cellsBlk 0 rfl)) ?_
  obtain ⟨x6, hx7, hm8⟩ := bdG_some hm5; clear hm5
  refine WL.g rfl rfl (GuardIs.neg rfl rfl) (fun hG => QV.call en39 (EvAll.cons rfl hG EvAll.nil) (fun w hw => have h := target_May_w w (hx7 hG) ; h)) ?_
  refine WL.g rfl rfl (GuardIs.neg rfl rfl) (fun hG => QV.not rfl hG) ?_
  refine WL.q rfl rfl rfl (QV.pickOr rfl rfl rfl (fun h => notF h)) ?_
  refine WL.nil ?_
  refine WQ.then ?_
  refine WC.cond rfl (fun h9 => ?_) (fun h9 => ?_)
  · skip
    have hm10 := br_t h9 hm8; clear hm8
    refine WC.seq ?_
    refine WC.region ?_
    refine WL.q rfl rfl rfl (QV.assign rfl rfl) ?_
    refine WL.q rfl rfl rfl (QV.assign rfl rfl) ?_
    refine WL.nil ?_
    refine WQ.then ?_
    refine WC.ret ?_
    refine WQ.then_ret ?_
    obtain rfl := (eq_of_some hm10).symm
    refine WQ.ret2 rfl rfl rfl (fun w hw => ?_)
    exact ⟨(.slice none 0 0, K0), rfl, hw.pick [2] (by decide), Arr.nil⟩
  · skip
    have hm11 := br_f h9 hm8; clear hm8
    refine WC.skip ?_
    refine WQ.then ?_
    refine WC.seq ?_
    refine WC.region ?_
    refine WL.q rfl rfl rfl (QV.assign rfl rfl) ?_
    refine WL.nil ?_
    refine WQ.then ?_
    refine WC.seq ?_
    refine WC.seq ?_
    refine WC.region ?_
    refine WL.q rfl rfl rfl (QV.fieldAddr fd25_1 rfl rfl) ?_
    refine WL.q rfl rfl rfl (QV.load pl23 rfl rfl (Own.cell 1 rfl rfl)) ?_
    refine WL.q rfl rfl rfl (QV.lenS Try.underlying23 rfl rfl h_l_body.lenMap) ?_
    refine WL.q rfl rfl rfl (QV.move rfl rfl) ?_
    refine WL.nil ?_
    refine WQ.then ?_
    refine WK.of (fun w hw => hw.vecNil (E := 71) (sz := 4) (enc := Edg.cells)) ?_
    obtain ⟨o13, ho14, hm15⟩ := bd_some hm11; clear hm11; obtain ⟨n16, ho17⟩ := lp_some ho14
    refine WC.bloop4 (H2 := [blk b2 [.int .i64 t.u0, .int .i64 t.u1, .int .i64 t.u2, .int .i64 t.w0, .int .i64 t.w1, .int .i64 t.w2, .int .i64 t.regs] 28, blk b1 [v_l_logs, v_l_body, v_l_outs] 25]) (τ := [(2, (true, _)), (3, (true, _)), (23, (true, _)), (24, (true, _))]) (fun (v12_7 : List Edg) (x25_7 : Int) (uv12_7 : Value) (k_7 : World) => [(6, (true, uv12_7)), (25, (true, .int .i64 x25_7))]) (fun (v12_7 : List Edg) (x25_7 : Int) (uv12_7 : Value) (k_7 : World) => [vec uv12_7 71 4 (List.map Edg.cells v12_7), kn M w.heap.size K0 k_7]) (fun (v12_7 : List Edg) (x25_7 : Int) (uv12_7 : Value) (k_7 : World) (m : Nat) => iter (dep_Edges_L0 l t) m (v12_7, x25_7) = some o13 ∧ SliceLen uv12_7 v12_7.length ∧ Le K0 k_7) (fun (v12_7 : List Edg) (x25_7 : Int) (uv12_7 : Value) (k_7 : World) => o13 = .go (v12_7, x25_7) ∧ SliceLen uv12_7 v12_7.length ∧ Le K0 k_7) [] 0 (.slice none 0 0) K0 n16 ⟨ho17, SliceLen.nil, (Le.refl _)⟩ ⟨rfl, rfl, rfl, rfl, rfl, rfl, trivial⟩ (fun w hw => hw.pick [0, 3, 1, 2] (by decide)) ?_ ?_
    · skip
      rintro v12_7 x25_7 uv12_7 k_7 ⟨rfl, hlv12_7, hle_7⟩
      refine WQ.then ?_
      refine WC.seq ?_
      refine WC.region ?_
      refine WL.q rfl rfl rfl (QV.move rfl rfl) ?_
      refine WL.effect rfl ?_
      obtain ⟨x18, hx19, hm20⟩ := bd_some hm15; clear hm15
      refine EV.of (C' := Own M w [kn M w.heap.size K0 k_7, vec uv12_7 71 4 (List.map Edg.cells v12_7), blk b2 [.int .i64 t.u0, .int .i64 t.u1, .int .i64 t.u2, .int .i64 t.w0, .int .i64 t.w1, .int .i64 t.w2, .int .i64 t.regs] 28, blk b1 [v_l_logs, v_l_body, v_l_outs] 25]) (fun w hw => hw.pick [1, 0, 2, 3] (by decide)) ?_
      refine (EV.callR (X := World) (R := [vec uv12_7 71 4 (List.map Edg.cells v12_7)]) (fun X => .tuple #[]) (fun X => [vec uv12_7 71 4 (List.map Edg.cells x18)]) (fun X => X) (fun X => SliceLen uv12_7 (x18).length) hk (fun _ h => by cases h; decide) en98 (EvAll.cons rfl rfl (EvAll.cons rfl rfl EvAll.nil)) (fun M w h1 h2 => have h := SortFunc_w hx19 hlv12_7 M w h1 h2; h) (fun X21 hF21 hle21 => ?_))
      refine WL.nil ?_
      refine WQ.then ?_
      refine WC.seq ?_
      refine WC.region ?_
      refine WL.q rfl rfl rfl (QV.move rfl rfl) ?_
      refine WL.effect rfl ?_
      obtain ⟨x22, hx23, hm24⟩ := bd_some hm20; clear hm20
      refine (EV.callR (X := Value × World) (R := [vec uv12_7 71 4 (List.map Edg.cells x18)]) (fun X => X.1) (fun X => []) (fun X => X.2) (fun X => Arr X.2 X.1 4 (x22.map Edg.cells)) hk (fun _ h => by cases h; decide) en100 (EvAll.cons rfl rfl EvAll.nil) (fun M w h1 h2 => have h := slices_Compact___api_Edge_api_Edge__w hx23 hF21 M w h1 h2; h) (fun X25 hF25 hle25 => ?_))
      refine WL.q rfl rfl rfl (QV.assign rfl rfl) ?_
      refine WL.q rfl rfl rfl (QV.assign rfl rfl) ?_
      refine WL.nil ?_
      refine WQ.then ?_
      refine WC.ret ?_
      obtain rfl := (eq_of_some hm24).symm
      refine WQ.ret2 rfl rfl rfl (fun w hw => ?_)
      exact ⟨(X25.1, X25.2), rfl, hw.pick [0] (by decide), hF25⟩
    · skip
      rintro v12_7 x25_7 uv12_7 k_7 m26 ⟨hI27, hlv12_7, hle_7⟩
      obtain ⟨m28, s29, rfl, hm30, hn31⟩ := iter_step hI27; clear hI27; unfold dep_Edges_L0 at hm30; simp only at hm30
      refine WC.seq ?_
      refine WC.region ?_
      refine WL.q rfl rfl rfl (QV.lss rfl rfl rfl rfl) ?_
      refine WL.nil ?_
      refine WQ.then ?_
      refine WC.seq ?_
      refine WC.cond rfl (fun h32 => ?_) (fun h32 => ?_)
      · skip
        have hm33 := br_t h32 hm30; clear hm30
        refine WC.skip ?_
        refine WQ.then ?_
        refine WC.seq ?_
        refine WC.block ?_
        refine WC.seq ?_
        refine WC.region ?_
        refine WL.q rfl rfl rfl (QV.move rfl rfl) ?_
        obtain ⟨c34, hm35⟩ := ck_some hm33; clear hm33
        obtain ⟨p36, hp37⟩ := (h_l_body.le hle_7).lenMap.ix (sz := 9) ln_len c34
        refine WL.q rfl rfl rfl (QV.indexSlice sl23 rfl rfl rfl rfl hp37) ?_
        refine WL.q rfl rfl rfl (QV.loadAgg ag81 rfl rfl rfl (fun w hw => ((Own.karr 1 rfl hk (h_l_body.le hle_7)) w hw).ele hp37 c34)) ?_
        refine WL.effect rfl ?_
        refine (EV.alloc (by decide) ze81 (fun b38 => ?_))
        refine WL.q rfl rfl rfl (QV.assign rfl rfl) ?_
        refine WL.effect rfl ?_
        refine (EV.store 0 rfl rfl rfl rfl rfl rfl (vs := [.int .i64 ((ele l.body x25_7).op), .int .i64 (((ele l.body x25_7).a).st), .int .i64 (((ele l.body x25_7).a).bk), .int .i64 (((ele l.body x25_7).b).st), .int .i64 (((ele l.body x25_7).b).bk), .int .i64 ((ele l.body x25_7).ar), .int .i64 ((ele l.body x25_7).sp), .int .i64 ((ele l.body x25_7).pl), .int .i64 ((ele l.body x25_7).n)]) (show Value.cells _ = List.toArray _ from rfl) sz81 (Nat.le_of_ble_eq_true rfl) (one_cons rfl (one_cons rfl (one_cons rfl (one_cons rfl (one_cons rfl (one_cons rfl (one_cons rfl (one_cons rfl (one_cons rfl one_nil))))))))) ?_)
        refine WL.nil ?_
        refine WQ.then ?_
        refine WC.seq ?_
        refine WC.seq ?_
        refine WC.region ?_
        refine WL.q rfl rfl rfl (QV.loadAgg ag81 rfl rfl rfl (Own.cellsBlk 0 rfl)) ?_
        refine WL.effect rfl ?_
        obtain ⟨x39, hx40, hm41⟩ := bd_some hm35; clear hm35
        refine EV.of (C' := Own M w [kn M w.heap.size K0 k_7, blk b38 [.int .i64 ((ele l.body x25_7).op), .int .i64 (((ele l.body x25_7).a).st), .int .i64 (((ele l.body x25_7).a).bk), .int .i64 (((ele l.body x25_7).b).st), .int .i64 (((ele l.body x25_7).b).bk), .int .i64 ((ele l.body x25_7).ar), .int .i64 ((ele l.body x25_7).sp), .int .i64 ((ele l.body x25_7).pl), .int .i64 ((ele l.body x25_7).n)] 81, vec uv12_7 71 4 (List.map Edg.cells v12_7), blk b2 [.int .i64 t.u0, .int .i64 t.u1, .int .i64 t.u2, .int .i64 t.w0, .int .i64 t.w1, .int .i64 t.w2, .int .i64 t.regs] 28, blk b1 [v_l_logs, v_l_body, v_l_outs] 25]) (fun w hw => hw.pick [2, 0, 1, 3, 4] (by decide)) ?_
        refine (EV.callR (X := Value × World) (R := []) (fun X => X.1) (fun X => []) (fun X => X.2) (fun X => Arr X.2 X.1 2 (x39.map Rf.cells)) hk (fun _ h => by cases h; decide) en66 (EvAll.cons rfl rfl EvAll.nil) (fun M w h1 h2 => have h := loop_Uses_w hx40  M w h1 h2; h) (fun X42 hF42 hle42 => ?_))
        refine WL.q rfl rfl rfl (QV.lenS Try.underlying76 rfl rfl hF42.lenMap) ?_
        refine WL.q rfl rfl rfl (QV.move rfl rfl) ?_
        refine WL.nil ?_
        refine WQ.then ?_
        obtain ⟨o43, ho44, hm45⟩ := bd_some hm41; clear hm41; obtain ⟨n46, ho47⟩ := lp_some ho44
        refine WC.bloop3 (H2 := [kn M w.heap.size K0 X42.2, blk b38 [.int .i64 ((ele l.body x25_7).op), .int .i64 (((ele l.body x25_7).a).st), .int .i64 (((ele l.body x25_7).a).bk), .int .i64 (((ele l.body x25_7).b).st), .int .i64 (((ele l.body x25_7).b).bk), .int .i64 ((ele l.body x25_7).ar), .int .i64 ((ele l.body x25_7).sp), .int .i64 ((ele l.body x25_7).pl), .int .i64 ((ele l.body x25_7).n)] 81, blk b2 [.int .i64 t.u0, .int .i64 t.u1, .int .i64 t.u2, .int .i64 t.w0, .int .i64 t.w1, .int .i64 t.w2, .int .i64 t.regs] 28, blk b1 [v_l_logs, v_l_body, v_l_outs] 25]) (τ := [(2, (true, _)), (3, (true, _)), (7, (true, _)), (23, (true, _)), (24, (true, _)), (25, (true, _)), (31, (true, _)), (32, (true, _))]) (fun (v12_8 : List Edg) (x33_8 : Int) (uv12_8 : Value) => [(6, (true, uv12_8)), (33, (true, .int .i64 x33_8))]) (fun (v12_8 : List Edg) (x33_8 : Int) (uv12_8 : Value) => [vec uv12_8 71 4 (List.map Edg.cells v12_8)]) (fun (v12_8 : List Edg) (x33_8 : Int) (uv12_8 : Value) (m : Nat) => iter (dep_Edges_L2 l t x25_7 x39) m (v12_8, x33_8) = some o43 ∧ SliceLen uv12_8 v12_8.length) (fun (v12_8 : List Edg) (x33_8 : Int) (uv12_8 : Value) => o43 = .go (v12_8, x33_8) ∧ SliceLen uv12_8 v12_8.length) v12_7 0 uv12_7 n46 ⟨ho47, hlv12_7⟩ ⟨rfl, rfl, rfl, rfl, rfl, rfl, rfl, rfl, rfl, rfl, trivial⟩ (fun w hw => hw.pick [2, 0, 1, 3, 4] (by decide)) ?_ ?_
        · skip
          rintro v12_8 x33_8 uv12_8 ⟨rfl, hlv12_8⟩
          refine WQ.then ?_
          refine WC.seq ?_
          refine WC.region ?_
          refine WL.q rfl rfl rfl (QV.fieldAddr fd25_1 rfl rfl) ?_
          refine WL.q rfl rfl rfl (QV.load pl23 rfl rfl (Own.cell 4 rfl rfl)) ?_
          refine WL.q rfl rfl rfl (QV.lenS Try.underlying23 rfl rfl (h_l_body.le (hle_7.trans hle42)).lenMap) ?_
          refine WL.q rfl rfl rfl (QV.move rfl rfl) ?_
          refine WL.nil ?_
          refine WQ.then ?_
          obtain ⟨o48, ho49, hm50⟩ := bd_some hm45; clear hm45; obtain ⟨n51, ho52⟩ := lp_some ho49
          refine WC.bloop3 (H2 := [kn M w.heap.size K0 X42.2, blk b38 [.int .i64 ((ele l.body x25_7).op), .int .i64 (((ele l.body x25_7).a).st), .int .i64 (((ele l.body x25_7).a).bk), .int .i64 (((ele l.body x25_7).b).st), .int .i64 (((ele l.body x25_7).b).bk), .int .i64 ((ele l.body x25_7).ar), .int .i64 ((ele l.body x25_7).sp), .int .i64 ((ele l.body x25_7).pl), .int .i64 ((ele l.body x25_7).n)] 81, blk b2 [.int .i64 t.u0, .int .i64 t.u1, .int .i64 t.u2, .int .i64 t.w0, .int .i64 t.w1, .int .i64 t.w2, .int .i64 t.regs] 28, blk b1 [v_l_logs, v_l_body, v_l_outs] 25]) (τ := [(2, (true, _)), (3, (true, _)), (7, (true, _)), (23, (true, _)), (24, (true, _)), (25, (true, _)), (58, (true, _))]) (fun (v12_9 : List Edg) (x59_9 : Int) (uv12_9 : Value) => [(6, (true, uv12_9)), (59, (true, .int .i64 x59_9))]) (fun (v12_9 : List Edg) (x59_9 : Int) (uv12_9 : Value) => [vec uv12_9 71 4 (List.map Edg.cells v12_9)]) (fun (v12_9 : List Edg) (x59_9 : Int) (uv12_9 : Value) (m : Nat) => iter (dep_Edges_L4 l x25_7) m (v12_9, x59_9) = some o48 ∧ SliceLen uv12_9 v12_9.length) (fun (v12_9 : List Edg) (x59_9 : Int) (uv12_9 : Value) => o48 = .go (v12_9, x59_9) ∧ SliceLen uv12_9 v12_9.length) v12_8 0 uv12_8 n51 ⟨ho52, hlv12_8⟩ ⟨rfl, rfl, rfl, rfl, rfl, rfl, rfl, rfl, rfl, trivial⟩ (fun w hw => hw.pick [0, 1, 2, 3, 4] (by decide)) ?_ ?_
          · skip
            rintro v12_9 x59_9 uv12_9 ⟨rfl, hlv12_9⟩
            refine WQ.block ?_
            refine WQ.then ?_
            refine WC.region ?_
            obtain ⟨c53, hm54⟩ := ck_some hm50; clear hm50
            refine WL.q rfl rfl rfl (QV.add rfl rfl rfl rfl c53) ?_
            refine WL.q rfl rfl rfl (QV.move rfl rfl) ?_
            refine WL.nil ?_
            exact WQ.again4 v12_9 (x25_7 + 1) uv12_9 X42.2 m28 ⟨up_next hm54 hn31, hlv12_9, (hle_7.trans hle42)⟩ (Nat.lt_succ_self _) ⟨rfl, rfl, rfl, rfl, rfl, rfl, trivial⟩ (fun w hw => hw.pick [0, 1, 3, 4] (by decide))
          · skip
            rintro v12_9 x59_9 uv12_9 m55 ⟨hI56, hlv12_9⟩
            obtain ⟨m57, s58, rfl, hm59, hn60⟩ := iter_step hI56; clear hI56; unfold dep_Edges_L4 at hm59; simp only at hm59
            refine WC.seq ?_
            refine WC.region ?_
            refine WL.q rfl rfl rfl (QV.lss rfl rfl rfl rfl) ?_
            refine WL.nil ?_
            refine WQ.then ?_
            refine WC.seq ?_
            refine WC.cond rfl (fun h61 => ?_) (fun h61 => ?_)
            · skip
              have hm62 := br_t h61 hm59; clear hm59
              refine WC.skip ?_
              refine WQ.then ?_
              refine WC.seq ?_
              refine WC.block ?_
              refine WC.seq ?_
              refine WC.region ?_
              refine WL.q rfl rfl rfl (QV.move rfl rfl) ?_
              refine WL.q rfl rfl rfl (QV.assign rfl rfl) ?_
              refine WL.nil ?_
              refine WQ.then ?_
              refine WC.seq ?_
              refine WC.region ?_
              refine WL.q rfl rfl rfl (QV.loadAgg ag25 rfl rfl rfl (Own.cellsBlk 4 rfl)) ?_
              refine WL.q rfl rfl rfl (QV.move rfl rfl) ?_
              refine WL.q rfl rfl rfl (QV.move rfl rfl) ?_
              obtain ⟨x63, hx64, hm65⟩ := bd_some hm62; clear hm62
              refine WL.q rfl rfl rfl (QV.call en97 (EvAll.cons rfl rfl (EvAll.cons rfl rfl (EvAll.cons rfl rfl EvAll.nil))) (fun w hw => have h := dep_memory_w w hx64 ((Own.karr 1 rfl hk (h_l_logs.le (hle_7.trans hle42))) w hw) ((Own.karr 1 rfl hk (h_l_body.le (hle_7.trans hle42))) w hw) ((Own.karr 1 rfl hk (h_l_outs.le (hle_7.trans hle42))) w hw); h)) ?_
              refine WL.q rfl rfl rfl (QV.move rfl rfl) ?_
              refine WL.q rfl rfl rfl (QV.extract rfl rfl rfl) ?_
              refine WL.q rfl rfl rfl (QV.extract rfl rfl rfl) ?_
              refine WL.effect rfl ?_
              refine (EV.alloc (by decide) ze71 (fun b66 => ?_))
              refine WL.effect rfl ?_
              refine (EV.store 0 rfl rfl rfl rfl rfl rfl (vs := [.int .i64 x63.1.fr, .int .i64 x63.1.to, .int .i64 x63.1.bk, .int .i64 x63.1.wt]) (show Value.cells _ = List.toArray _ from rfl) sz71 (Nat.le_of_ble_eq_true rfl) (one_cons rfl (one_cons rfl (one_cons rfl (one_cons rfl one_nil)))) ?_)
              refine WL.q rfl rfl rfl (QV.assign rfl rfl) ?_
              refine WL.nil ?_
              refine WQ.then ?_
              refine WC.seq ?_
              refine WC.region ?_
              refine WL.q rfl rfl rfl (QV.move rfl rfl) ?_
              refine WL.nil ?_
              refine WQ.then ?_
              refine WC.cond rfl (fun h67 => ?_) (fun h67 => ?_)
              · skip
                have hm68 := br_t h67 hm65; clear hm65
                refine WC.region ?_
                refine WL.q rfl rfl rfl (QV.move rfl rfl) ?_
                refine WL.q rfl rfl rfl (QV.loadAgg ag71 rfl rfl rfl (Own.cellsBlk 0 rfl)) ?_
                refine WL.effect rfl ?_
                refine (EV.buildSlice (by decide) sz_68 (by decide) (by decide) (ps := [(0, .tmp 71)]) (cells := [.int .i64 x63.1.fr, .int .i64 x63.1.to, .int .i64 x63.1.bk, .int .i64 x63.1.wt]) (EvAll.cons rfl rfl EvAll.nil) (by kernel_rfl) (fun b69 => ?_))
                refine WL.effect rfl ?_
                obtain ⟨c70, hm71⟩ := ck_some hm68; clear hm68
                refine (EV.appendL (enc := Edg.cells) (xs := v12_9) (ys := [x63.1]) ((v12_9 ++ [x63.1])) 2 (by decide) ve68 rfl rfl rfl rfl rfl (Own.blkArr 0 (rows := [x63.1].map Edg.cells) rfl rfl (rows_len Edg.cells_len)) Edg.cells_len (Edg.cells_one _) rfl c70.1 c70.2 (fun u72 hu73 => ?_))
                refine WL.q rfl rfl rfl (QV.assign rfl rfl) ?_
                refine WL.nil ?_
                refine WQ.block ?_
                refine WQ.then ?_
                refine WC.region ?_
                obtain ⟨c74, hm75⟩ := ck_some hm71; clear hm71
                refine WL.q rfl rfl rfl (QV.add rfl rfl rfl rfl c74) ?_
                refine WL.q rfl rfl rfl (QV.move rfl rfl) ?_
                refine WL.nil ?_
                exact WQ.again3 (v12_9 ++ [x63.1]) (x59_9 + 1) u72 m57 ⟨up_next hm75 hn60, hu73⟩ (Nat.lt_succ_self _) ⟨rfl, rfl, rfl, rfl, rfl, rfl, rfl, rfl, rfl, trivial⟩ (fun w hw => hw.pick [2, 3, 4, 5, 6] (by decide))
              · skip
                have hm76 := br_f h67 hm65; clear hm65
                refine WC.skip ?_
                refine WQ.block ?_
                refine WQ.then ?_
                refine WC.region ?_
                obtain ⟨c77, hm78⟩ := ck_some hm76; clear hm76
                refine WL.q rfl rfl rfl (QV.add rfl rfl rfl rfl c77) ?_
                refine WL.q rfl rfl rfl (QV.move rfl rfl) ?_
                refine WL.nil ?_
                exact WQ.again3 v12_9 (x59_9 + 1) uv12_9 m57 ⟨up_next hm78 hn60, hlv12_9⟩ (Nat.lt_succ_self _) ⟨rfl, rfl, rfl, rfl, rfl, rfl, rfl, rfl, rfl, trivial⟩ (fun w hw => hw.pick [1, 2, 3, 4, 5] (by decide))
            · skip
              have hm79 := br_f h61 hm59; clear hm59
              refine WC.exit ?_
              refine WQ.then_exit ?_
              refine WQ.then_exit ?_
              refine WQ.block_exit ?_
              exact WQ.out3 v12_9 x59_9 uv12_9 ⟨up_brk hm79 hn60, hlv12_9⟩ ⟨rfl, rfl, rfl, rfl, rfl, rfl, rfl, rfl, rfl, trivial⟩ (fun w hw => hw.pick [0, 1, 2, 3, 4] (by decide))
        · skip
          rintro v12_8 x33_8 uv12_8 m80 ⟨hI81, hlv12_8⟩
          obtain ⟨m82, s83, rfl, hm84, hn85⟩ := iter_step hI81; clear hI81; unfold dep_Edges_L2 at hm84; simp only at hm84
          refine WC.seq ?_
          refine WC.region ?_
          refine WL.q rfl rfl rfl (QV.lss rfl rfl rfl rfl) ?_
          refine WL.nil ?_
          refine WQ.then ?_
          refine WC.seq ?_
          refine WC.cond rfl (fun h86 => ?_) (fun h86 => ?_)
          · skip
            have hm87 := br_t h86 hm84; clear hm84
            refine WC.skip ?_
            refine WQ.then ?_
            refine WC.seq ?_
            refine WC.block ?_
            refine WC.seq ?_
            refine WC.region ?_
            obtain ⟨c88, hm89⟩ := ck_some hm87; clear hm87
            obtain ⟨p90, hp91⟩ := hF42.lenMap.ix (sz := 2) ln_len c88
            refine WL.q rfl rfl rfl (QV.indexSlice sl76 rfl rfl rfl rfl hp91) ?_
            refine WL.q rfl rfl rfl (QV.loadAgg ag79 rfl rfl rfl (fun w hw => ((Own.karr 1 rfl hk hF42) w hw).ele hp91 c88)) ?_
            refine WL.effect rfl ?_
            refine (EV.alloc (by decide) ze79 (fun b92 => ?_))
            refine WL.effect rfl ?_
            refine (EV.store 0 rfl rfl rfl rfl rfl rfl (vs := [.int .i64 ((ele x39 x33_8).st), .int .i64 ((ele x39 x33_8).bk)]) (show Value.cells _ = List.toArray _ from rfl) sz79 (Nat.le_of_ble_eq_true rfl) (one_cons rfl (one_cons rfl one_nil)) ?_)
            refine WL.nil ?_
            refine WQ.then ?_
            refine WC.dr (m := 19) (S := Own M w [kn M w.heap.size K0 X42.2, blk b92 [.int .i64 ((ele x39 x33_8).st), .int .i64 ((ele x39 x33_8).bk)] 79, blk b38 [.int .i64 ((ele l.body x25_7).op), .int .i64 (((ele l.body x25_7).a).st), .int .i64 (((ele l.body x25_7).a).bk), .int .i64 (((ele l.body x25_7).b).st), .int .i64 (((ele l.body x25_7).b).bk), .int .i64 ((ele l.body x25_7).ar), .int .i64 ((ele l.body x25_7).sp), .int .i64 ((ele l.body x25_7).pl), .int .i64 ((ele l.body x25_7).n)] 81, blk b2 [.int .i64 t.u0, .int .i64 t.u1, .int .i64 t.u2, .int .i64 t.w0, .int .i64 t.w1, .int .i64 t.w2, .int .i64 t.regs] 28, blk b1 [v_l_logs, v_l_body, v_l_outs] 25]) (by kernel_rfl) (by kernel_rfl) (fun w hw => hw.pick [2, 0, 3, 4, 5] (by decide)) ?_
            refine WD.q 0 rfl (by kernel_rfl) rfl rfl rfl (QV.move rfl rfl) ?_
            refine WD.q 1 rfl (by kernel_rfl) rfl rfl rfl (QV.fieldAddr fd79_0 rfl rfl) ?_
            refine WD.q 2 rfl (by kernel_rfl) rfl rfl rfl (QV.load pl3 rfl rfl (Own.cell 1 rfl rfl)) ?_
            refine WD.q 3 rfl (by kernel_rfl) rfl rfl rfl (QV.move rfl rfl) ?_
            refine WD.q 4 rfl (by kernel_rfl) rfl rfl rfl (QV.fieldAddr fd79_1 rfl rfl) ?_
            refine WD.q 5 rfl (by kernel_rfl) rfl rfl rfl (QV.load pl3 rfl rfl (Own.cell 1 rfl rfl)) ?_
            refine WD.q 6 rfl (by kernel_rfl) rfl rfl rfl (QV.loadAgg ag28 rfl rfl rfl (Own.cellsBlk 3 rfl)) ?_
            refine WD.q 7 rfl (by kernel_rfl) rfl rfl rfl (QV.fieldAddr fd25_1 rfl rfl) ?_
            refine WD.q 8 rfl (by kernel_rfl) rfl rfl rfl (QV.load pl23 rfl rfl (Own.cell 4 rfl rfl)) ?_
            refine WD.q 9 rfl (by kernel_rfl) rfl rfl rfl (QV.fieldAddr fd79_0 rfl rfl) ?_
            refine WD.q 10 rfl (by kernel_rfl) rfl rfl rfl (QV.load pl3 rfl rfl (Own.cell 1 rfl rfl)) ?_
            obtain ⟨c93, hm94⟩ := ck_some hm89; clear hm89
            obtain ⟨p95, hp96⟩ := (h_l_body.le (hle_7.trans hle42)).lenMap.ix (sz := 9) ln_len c93
            refine WD.q 11 rfl (by kernel_rfl) rfl rfl rfl (QV.indexSlice sl23 rfl rfl rfl rfl hp96) ?_
            refine WD.q 12 rfl (by kernel_rfl) rfl rfl rfl (QV.fieldAddr fd81_0 rfl rfl) ?_
            refine WD.q 13 rfl (by kernel_rfl) rfl rfl rfl (QV.load pl3 rfl rfl (fun w hw => CellsAt.one 0 (((Own.karr 0 rfl hk (h_l_body.le (hle_7.trans hle42))) w hw).ele hp96 c93) rfl)) ?_
            obtain ⟨x97, hx98, hm99⟩ := bd_some hm94; clear hm94
            refine WD.q 14 rfl (by kernel_rfl) rfl rfl rfl (QV.call en69 (EvAll.cons rfl rfl (EvAll.cons rfl rfl EvAll.nil)) (fun w hw => have h := target_Wait_w w hx98 ; h)) ?_
            refine WD.q 15 rfl (by kernel_rfl) rfl rfl rfl (QV.build (ps := [(0, .tmp 39), (1, .tmp 40), (2, .tmp 42), (3, .tmp 51)]) (cells := [.int .i64 ((ele x39 x33_8).st), .int .i64 x25_7, .int .i64 ((ele x39 x33_8).bk), .int .i64 x97]) (EvAll.cons rfl rfl (EvAll.cons rfl rfl (EvAll.cons rfl rfl (EvAll.cons rfl rfl EvAll.nil)))) (by kernel_rfl)) ?_
            refine WD.o 16 rfl (by kernel_rfl) rfl ?_
            refine (EV.buildSlice (by decide) sz_68 (by decide) (by decide) (ps := [(0, .tmp 52)]) (cells := [.int .i64 ((ele x39 x33_8).st), .int .i64 x25_7, .int .i64 ((ele x39 x33_8).bk), .int .i64 x97]) (EvAll.cons rfl rfl EvAll.nil) (by kernel_rfl) (fun b100 => ?_))
            refine WD.b (H' := [kn M w.heap.size K0 X42.2, blk b100 [.int .i64 ((ele x39 x33_8).st), .int .i64 x25_7, .int .i64 ((ele x39 x33_8).bk), .int .i64 x97] 71, blk b92 [.int .i64 ((ele x39 x33_8).st), .int .i64 ((ele x39 x33_8).bk)] 79, blk b38 [.int .i64 ((ele l.body x25_7).op), .int .i64 (((ele l.body x25_7).a).st), .int .i64 (((ele l.body x25_7).a).bk), .int .i64 (((ele l.body x25_7).b).st), .int .i64 (((ele l.body x25_7).b).bk), .int .i64 ((ele l.body x25_7).ar), .int .i64 ((ele l.body x25_7).sp), .int .i64 ((ele l.body x25_7).pl), .int .i64 ((ele l.body x25_7).n)] 81, blk b2 [.int .i64 t.u0, .int .i64 t.u1, .int .i64 t.u2, .int .i64 t.w0, .int .i64 t.w1, .int .i64 t.w2, .int .i64 t.regs] 28, blk b1 [v_l_logs, v_l_body, v_l_outs] 25]) (fun w hw => hw.pick [3, 0, 1, 4, 5, 6] (by decide)) (fun w hw => hw.pick [0, 2, 3, 4, 5] (by decide)) ?_
            refine WD.o 17 rfl (by kernel_rfl) rfl ?_
            obtain ⟨c101, hm102⟩ := ck_some hm99; clear hm99
            refine (EV.appendL (enc := Edg.cells) (xs := v12_8) (ys := [(Edg.mk ((ele x39 x33_8).st) x25_7 ((ele x39 x33_8).bk) x97)]) ((v12_8 ++ [(Edg.mk ((ele x39 x33_8).st) x25_7 ((ele x39 x33_8).bk) x97)])) 2 (by decide) ve68 rfl rfl rfl rfl rfl (Own.blkArr 0 (rows := [(Edg.mk ((ele x39 x33_8).st) x25_7 ((ele x39 x33_8).bk) x97)].map Edg.cells) rfl rfl (rows_len Edg.cells_len)) Edg.cells_len (Edg.cells_one _) rfl c101.1 c101.2 (fun u103 hu104 => ?_))
            refine WD.b (H' := [kn M w.heap.size K0 X42.2, blk b100 [.int .i64 ((ele x39 x33_8).st), .int .i64 x25_7, .int .i64 ((ele x39 x33_8).bk), .int .i64 x97] 71, blk b92 [.int .i64 ((ele x39 x33_8).st), .int .i64 ((ele x39 x33_8).bk)] 79, vec u103 71 4 (List.map Edg.cells (v12_8 ++ [(Edg.mk ((ele x39 x33_8).st) x25_7 ((ele x39 x33_8).bk) x97)])), blk b38 [.int .i64 ((ele l.body x25_7).op), .int .i64 (((ele l.body x25_7).a).st), .int .i64 (((ele l.body x25_7).a).bk), .int .i64 (((ele l.body x25_7).b).st), .int .i64 (((ele l.body x25_7).b).bk), .int .i64 ((ele l.body x25_7).ar), .int .i64 ((ele l.body x25_7).sp), .int .i64 ((ele l.body x25_7).pl), .int .i64 ((ele l.body x25_7).n)] 81, blk b2 [.int .i64 t.u0, .int .i64 t.u1, .int .i64 t.u2, .int .i64 t.w0, .int .i64 t.w1, .int .i64 t.w2, .int .i64 t.regs] 28, blk b1 [v_l_logs, v_l_body, v_l_outs] 25]) (fun w hw => hw.pick [3, 0, 1, 2, 4, 5, 6] (by decide)) (fun w hw => hw.pick [0, 1, 2, 4, 5, 6] (by decide)) ?_
            refine WD.q 18 rfl (by kernel_rfl) rfl rfl rfl (QV.assign rfl rfl) ?_
            refine WD.e (by kernel_rfl) ?_
            refine WQ.block ?_
            refine WQ.then ?_
            refine WC.region ?_
            obtain ⟨c105, hm106⟩ := ck_some hm102; clear hm102
            refine WL.q rfl rfl rfl (QV.add rfl rfl rfl rfl c105) ?_
            refine WL.q rfl rfl rfl (QV.move rfl rfl) ?_
            refine WL.nil ?_
            exact WQ.again3 (v12_8 ++ [(Edg.mk ((ele x39 x33_8).st) x25_7 ((ele x39 x33_8).bk) x97)]) (x33_8 + 1) u103 m82 ⟨up_next hm106 hn85, hu104⟩ (Nat.lt_succ_self _) ⟨rfl, rfl, rfl, rfl, rfl, rfl, rfl, rfl, rfl, rfl, trivial⟩ (fun w hw => hw.pick [2, 3, 4, 5, 6] (by decide))
          · skip
            have hm107 := br_f h86 hm84; clear hm84
            refine WC.exit ?_
            refine WQ.then_exit ?_
            refine WQ.then_exit ?_
            refine WQ.block_exit ?_
            exact WQ.out3 v12_8 x33_8 uv12_8 ⟨up_brk hm107 hn85, hlv12_8⟩ ⟨rfl, rfl, rfl, rfl, rfl, rfl, rfl, rfl, rfl, rfl, trivial⟩ (fun w hw => hw.pick [0, 1, 2, 3, 4] (by decide))
      · skip
        have hm108 := br_f h32 hm30; clear hm30
        refine WC.exit ?_
        refine WQ.then_exit ?_
        refine WQ.then_exit ?_
        refine WQ.block_exit ?_
        exact WQ.out4 v12_7 x25_7 uv12_7 k_7 ⟨up_brk hm108 hn31, hlv12_7, hle_7⟩ ⟨rfl, rfl, rfl, rfl, rfl, rfl, trivial⟩ (fun w hw => hw.pick [0, 1, 2, 3] (by decide))
end Go.Proofs.Ytaimbkndebaaiac
end

section
namespace Go.Proofs.Ytaimbkndebaaiac
open Go.Rd
set_option linter.unusedVariables false
namespace TSched1
theorem ag146 : AggT Try.prog 146 2 := ⟨_, Try.underlying146, rfl, by kernel_rfl⟩
theorem ag25 : AggT Try.prog 25 3 := ⟨_, Try.underlying25, rfl, by kernel_rfl⟩
theorem ag28 : AggT Try.prog 28 7 := ⟨_, Try.underlying28, rfl, by kernel_rfl⟩
theorem ag71 : AggT Try.prog 71 4 := ⟨_, Try.underlying71, rfl, by kernel_rfl⟩
theorem ar146 : ArrayT Try.prog 146 2 1 := ⟨_, Try.underlying146, by kernel_rfl⟩
theorem ar26 : ArrayT Try.prog 26 3 1 := ⟨_, Try.underlying26, by kernel_rfl⟩
theorem en62 : Go.Rd.Enters Try.prog 62 := ⟨Try.f62, Try.func62, by kernel_rfl, by kernel_rfl⟩
theorem en89 : Go.Rd.Enters Try.prog 89 := ⟨Try.f89, Try.func89, by kernel_rfl, by kernel_rfl⟩
theorem fd25_1 : FieldT Try.prog 25 1 1 := ⟨_, _, 0, Try.underlying25, rfl, rfl, by kernel_rfl⟩
theorem fd28_0 : FieldT Try.prog 28 0 0 := ⟨_, _, 2, Try.underlying28, rfl, rfl, by kernel_rfl⟩
theorem fd71_0 : FieldT Try.prog 71 0 0 := ⟨_, _, 0, Try.underlying71, rfl, rfl, by kernel_rfl⟩
theorem fd71_1 : FieldT Try.prog 71 1 1 := ⟨_, _, 0, Try.underlying71, rfl, rfl, by kernel_rfl⟩
theorem fd71_2 : FieldT Try.prog 71 2 2 := ⟨_, _, 0, Try.underlying71, rfl, rfl, by kernel_rfl⟩
theorem fd71_3 : FieldT Try.prog 71 3 3 := ⟨_, _, 0, Try.underlying71, rfl, rfl, by kernel_rfl⟩
theorem fd81_0 : FieldT Try.prog 81 0 0 := ⟨_, _, 0, Try.underlying81, rfl, rfl, by kernel_rfl⟩
theorem kt146 : KeyT Try.prog 146 kP := KeyT.pair Try.underlying146 Try.underlying3 (by kernel_rfl)
theorem mt145 : MapT Try.prog 145 146 3 := Try.underlying145
theorem pl22 : Plain Try.prog 22 := ⟨_, Try.underlying22, rfl⟩
theorem pl23 : Plain Try.prog 23 := ⟨_, Try.underlying23, rfl⟩
theorem pl3 : Plain Try.prog 3 := ⟨_, Try.underlying3, rfl⟩
theorem sl22 : SliceT Try.prog 22 3 1 := ⟨Try.underlying22, by kernel_rfl⟩
theorem sl23 : SliceT Try.prog 23 81 9 := ⟨Try.underlying23, by kernel_rfl⟩
theorem sl68 : SliceT Try.prog 68 71 4 := ⟨Try.underlying68, by kernel_rfl⟩
theorem sz146 : SizeT Try.prog 146 2 := by unfold SizeT; kernel_rfl
theorem sz71 : SizeT Try.prog 71 4 := by unfold SizeT; kernel_rfl
theorem ze146 : ZeroT Try.prog 146 [.int .i64 0, .int .i64 0] := by unfold ZeroT; kernel_rfl
theorem ze71 : ZeroT Try.prog 71 [.int .i64 0, .int .i64 0, .int .i64 0, .int .i64 0] := by unfold ZeroT; kernel_rfl
theorem zv3i64v : ZVal Try.prog 3 (i64v 0) := by unfold ZVal; kernel_rfl
end TSched1
open TSched1
end Go.Proofs.Ytaimbkndebaaiac
end

section
namespace Go.Proofs.Ytaimbkndebaaiac
open Go.Rd
set_option linter.unusedVariables false
namespace TEmit
theorem ag25 : AggT Try.prog 25 3 := ⟨_, Try.underlying25, rfl, by kernel_rfl⟩
theorem ag28 : AggT Try.prog 28 7 := ⟨_, Try.underlying28, rfl, by kernel_rfl⟩
theorem ag31 : AggT Try.prog 31 3 := ⟨_, Try.underlying31, rfl, by kernel_rfl⟩
theorem ag75 : AggT Try.prog 75 10 := ⟨_, Try.underlying75, rfl, by kernel_rfl⟩
theorem ag79 : AggT Try.prog 79 2 := ⟨_, Try.underlying79, rfl, by kernel_rfl⟩
theorem ag81 : AggT Try.prog 81 9 := ⟨_, Try.underlying81, rfl, by kernel_rfl⟩
theorem en37 : Go.Rd.Enters Try.prog 37 := ⟨Try.f37, Try.func37, by kernel_rfl, by kernel_rfl⟩
theorem en66 : Go.Rd.Enters Try.prog 66 := ⟨Try.f66, Try.func66, by kernel_rfl, by kernel_rfl⟩
theorem fd25_1 : FieldT Try.prog 25 1 1 := ⟨_, _, 0, Try.underlying25, rfl, rfl, by kernel_rfl⟩
theorem fd28_2 : FieldT Try.prog 28 2 6 := ⟨_, _, 0, Try.underlying28, rfl, rfl, by kernel_rfl⟩
theorem fd31_1 : FieldT Try.prog 31 1 1 := ⟨_, _, 0, Try.underlying31, rfl, rfl, by kernel_rfl⟩
theorem fd31_2 : FieldT Try.prog 31 2 2 := ⟨_, _, 0, Try.underlying31, rfl, rfl, by kernel_rfl⟩
theorem fd75_1 : FieldT Try.prog 75 1 1 := ⟨_, _, 0, Try.underlying75, rfl, rfl, by kernel_rfl⟩
theorem fd75_4 : FieldT Try.prog 75 4 4 := ⟨_, _, 0, Try.underlying75, rfl, rfl, by kernel_rfl⟩
theorem fd75_5 : FieldT Try.prog 75 5 5 := ⟨_, _, 0, Try.underlying75, rfl, rfl, by kernel_rfl⟩
theorem fd79_0 : FieldT Try.prog 79 0 0 := ⟨_, _, 0, Try.underlying79, rfl, rfl, by kernel_rfl⟩
theorem fd79_1 : FieldT Try.prog 79 1 1 := ⟨_, _, 0, Try.underlying79, rfl, rfl, by kernel_rfl⟩
theorem fd81_0 : FieldT Try.prog 81 0 0 := ⟨_, _, 0, Try.underlying81, rfl, rfl, by kernel_rfl⟩
theorem fd81_3 : FieldT Try.prog 81 3 5 := ⟨_, _, 0, Try.underlying81, rfl, rfl, by kernel_rfl⟩
theorem fd81_4 : FieldT Try.prog 81 4 6 := ⟨_, _, 0, Try.underlying81, rfl, rfl, by kernel_rfl⟩
theorem fd81_5 : FieldT Try.prog 81 5 7 := ⟨_, _, 0, Try.underlying81, rfl, rfl, by kernel_rfl⟩
theorem fd81_6 : FieldT Try.prog 81 6 8 := ⟨_, _, 0, Try.underlying81, rfl, rfl, by kernel_rfl⟩
theorem pl2 : Plain Try.prog 2 := ⟨_, Try.underlying2, rfl⟩
theorem pl22 : Plain Try.prog 22 := ⟨_, Try.underlying22, rfl⟩
theorem pl23 : Plain Try.prog 23 := ⟨_, Try.underlying23, rfl⟩
theorem pl29 : Plain Try.prog 29 := ⟨_, Try.underlying29, rfl⟩
theorem pl3 : Plain Try.prog 3 := ⟨_, Try.underlying3, rfl⟩
theorem sl22 : SliceT Try.prog 22 3 1 := ⟨Try.underlying22, by kernel_rfl⟩
theorem sl23 : SliceT Try.prog 23 81 9 := ⟨Try.underlying23, by kernel_rfl⟩
theorem sl76 : SliceT Try.prog 76 79 2 := ⟨Try.underlying76, by kernel_rfl⟩
theorem sz3 : SizeT Try.prog 3 1 := by unfold SizeT; kernel_rfl
theorem sz75 : SizeT Try.prog 75 10 := by unfold SizeT; kernel_rfl
theorem sz79 : SizeT Try.prog 79 2 := by unfold SizeT; kernel_rfl
theorem sz81 : SizeT Try.prog 81 9 := by unfold SizeT; kernel_rfl
theorem ze75 : ZeroT Try.prog 75 [.int .i64 0, .int .i64 0, .int .i64 0, .int .i64 0, .int .i64 0, .int .i64 0, .int .i64 0, .int .i64 0, .int .i64 0, .int .i64 0] := by unfold ZeroT; kernel_rfl
theorem ze79 : ZeroT Try.prog 79 [.int .i64 0, .int .i64 0] := by unfold ZeroT; kernel_rfl
theorem ze81 : ZeroT Try.prog 81 [.int .i64 0, .int .i64 0, .int .i64 0, .int .i64 0, .int .i64 0, .int .i64 0, .int .i64 0, .int .i64 0, .int .i64 0] := by unfold ZeroT; kernel_rfl
end TEmit
open TEmit
set_option maxRecDepth 8000 in
theorem emit_Rest_w {a : Int} {b : Int} {r : Int} (w : World) (hm : emit_Rest_m a b = some r)  : Calls Try.prog 37 #[.int .i64 a, .int .i64 b] w (fun e w' => e = .returned (.int .i64 r) ∧ Grow w w') := by
  unfold emit_Rest_m at hm
  have hk := Base.rfl (w := w)
  refine calls_of_WC (n := 12) (args := [.int .i64 a, .int .i64 b]) Try.func37 rfl rfl (Nat.le_of_ble_eq_true rfl) ?_ (Own.startK hk (Own.start w))
  refine WC.seq ?_
  refine WC.region ?_
  refine WL.q rfl rfl rfl (QV.assign rfl rfl) ?_
  refine WL.nil ?_
  refine WQ.then ?_
  refine WC.seq ?_
  refine WC.region ?_
  refine WL.q rfl rfl rfl (QV.move rfl rfl) ?_
  refine WL.q rfl rfl rfl (QV.move rfl rfl) ?_
  obtain ⟨c1, hm2⟩ := ck_some hm; clear hm
  refine WL.q rfl rfl rfl (QV.rem rfl rfl rfl rfl c1) ?_
  refine WL.q rfl rfl rfl (QV.move rfl rfl) ?_
  obtain ⟨c3, hm4⟩ := ck_some hm2; clear hm2
  refine WL.q rfl rfl rfl (QV.add rfl rfl rfl rfl c3) ?_
  refine WL.q rfl rfl rfl (QV.move rfl rfl) ?_
  obtain ⟨c5, hm6⟩ := ck_some hm4; clear hm4
  refine WL.q rfl rfl rfl (QV.rem rfl rfl rfl rfl c5) ?_
  refine WL.q rfl rfl rfl (QV.assign rfl rfl) ?_
  refine WL.nil ?_
  refine WQ.then ?_
  refine WC.ret ?_
  obtain rfl := (eq_of_some hm6).symm
  refine WQ.ret1 rfl rfl (fun w hw => ?_)
  exact ⟨rfl, Own.kgrow (fun _ x => x) hw⟩

end Go.Proofs.Ytaimbkndebaaiac
end
