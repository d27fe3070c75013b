/- Texts that the law stands on: part 4. -/
import Derived.Test.YtaimbkndebaaiacZLcheckTells3
import Derived.Test.YtaimbkndebaaiacProg
import Derived.KernelRfl
section
namespace Go.Proofs.Ytaimbkndebaaiac
open Go.Rd
set_option linter.unusedVariables false
set_option linter.unusedSimpArgs false
namespace TLoop
theorem ag25 : AggT Try.prog 25 3 := ⟨_, Try.underlying25, rfl, by kernel_rfl⟩
theorem ag28 : AggT Try.prog 28 7 := ⟨_, Try.underlying28, rfl, by kernel_rfl⟩
theorem ag79 : AggT Try.prog 79 2 := ⟨_, Try.underlying79, rfl, by kernel_rfl⟩
theorem ag81 : AggT Try.prog 81 9 := ⟨_, Try.underlying81, rfl, by kernel_rfl⟩
theorem ar26 : ArrayT Try.prog 26 3 1 := ⟨_, Try.underlying26, by kernel_rfl⟩
theorem en105 : Go.Rd.Enters Try.prog 105 := ⟨Try.f105, Try.func105, by kernel_rfl, by kernel_rfl⟩
theorem en30 : Go.Rd.Enters Try.prog 30 := ⟨Try.f30, Try.func30, by kernel_rfl, by kernel_rfl⟩
theorem en38 : Go.Rd.Enters Try.prog 38 := ⟨Try.f38, Try.func38, by kernel_rfl, by kernel_rfl⟩
theorem en39 : Go.Rd.Enters Try.prog 39 := ⟨Try.f39, Try.func39, by kernel_rfl, by kernel_rfl⟩
theorem en43 : Go.Rd.Enters Try.prog 43 := ⟨Try.f43, Try.func43, by kernel_rfl, by kernel_rfl⟩
theorem en44 : Go.Rd.Enters Try.prog 44 := ⟨Try.f44, Try.func44, by kernel_rfl, by kernel_rfl⟩
theorem en45 : Go.Rd.Enters Try.prog 45 := ⟨Try.f45, Try.func45, by kernel_rfl, by kernel_rfl⟩
theorem en48 : Go.Rd.Enters Try.prog 48 := ⟨Try.f48, Try.func48, by kernel_rfl, by kernel_rfl⟩
theorem en66 : Go.Rd.Enters Try.prog 66 := ⟨Try.f66, Try.func66, by kernel_rfl, by kernel_rfl⟩
theorem en67 : Go.Rd.Enters Try.prog 67 := ⟨Try.f67, Try.func67, by kernel_rfl, by kernel_rfl⟩
theorem en68 : Go.Rd.Enters Try.prog 68 := ⟨Try.f68, Try.func68, by kernel_rfl, by kernel_rfl⟩
theorem en76 : Go.Rd.Enters Try.prog 76 := ⟨Try.f76, Try.func76, by kernel_rfl, by kernel_rfl⟩
theorem en77 : Go.Rd.Enters Try.prog 77 := ⟨Try.f77, Try.func77, by kernel_rfl, by kernel_rfl⟩
theorem en89 : Go.Rd.Enters Try.prog 89 := ⟨Try.f89, Try.func89, by kernel_rfl, by kernel_rfl⟩
theorem eq79 : EqT Try.prog 79 2 := ⟨by kernel_rfl, ⟨_, Try.underlying79⟩, by kernel_rfl, by kernel_rfl⟩
theorem fd25_0 : FieldT Try.prog 25 0 0 := ⟨_, _, 0, Try.underlying25, rfl, rfl, by kernel_rfl⟩
theorem fd25_1 : FieldT Try.prog 25 1 1 := ⟨_, _, 0, Try.underlying25, rfl, rfl, by kernel_rfl⟩
theorem fd25_2 : FieldT Try.prog 25 2 2 := ⟨_, _, 0, Try.underlying25, rfl, rfl, by kernel_rfl⟩
theorem fd28_0 : FieldT Try.prog 28 0 0 := ⟨_, _, 2, Try.underlying28, rfl, rfl, by kernel_rfl⟩
theorem fd28_1 : FieldT Try.prog 28 1 3 := ⟨_, _, 2, Try.underlying28, rfl, rfl, by kernel_rfl⟩
theorem fd28_2 : FieldT Try.prog 28 2 6 := ⟨_, _, 0, Try.underlying28, rfl, rfl, by kernel_rfl⟩
theorem fd79_0 : FieldT Try.prog 79 0 0 := ⟨_, _, 0, Try.underlying79, rfl, rfl, by kernel_rfl⟩
theorem fd79_1 : FieldT Try.prog 79 1 1 := ⟨_, _, 0, Try.underlying79, rfl, rfl, by kernel_rfl⟩
theorem fd81_0 : FieldT Try.prog 81 0 0 := ⟨_, _, 0, Try.underlying81, rfl, rfl, by kernel_rfl⟩
theorem fd81_1 : FieldT Try.prog 81 1 1 := ⟨_, _, 1, Try.underlying81, rfl, rfl, by kernel_rfl⟩
theorem fd81_2 : FieldT Try.prog 81 2 3 := ⟨_, _, 1, Try.underlying81, rfl, rfl, by kernel_rfl⟩
theorem fd81_3 : FieldT Try.prog 81 3 5 := ⟨_, _, 0, Try.underlying81, rfl, rfl, by kernel_rfl⟩
theorem fd81_4 : FieldT Try.prog 81 4 6 := ⟨_, _, 0, Try.underlying81, rfl, rfl, by kernel_rfl⟩
theorem fd81_5 : FieldT Try.prog 81 5 7 := ⟨_, _, 0, Try.underlying81, rfl, rfl, by kernel_rfl⟩
theorem fd81_6 : FieldT Try.prog 81 6 8 := ⟨_, _, 0, Try.underlying81, rfl, rfl, by kernel_rfl⟩
theorem pl2 : Plain Try.prog 2 := ⟨_, Try.underlying2, rfl⟩
theorem pl22 : Plain Try.prog 22 := ⟨_, Try.underlying22, rfl⟩
theorem pl23 : Plain Try.prog 23 := ⟨_, Try.underlying23, rfl⟩
theorem pl3 : Plain Try.prog 3 := ⟨_, Try.underlying3, rfl⟩
theorem pl33 : Plain Try.prog 33 := ⟨_, Try.underlying33, rfl⟩
theorem sl22 : SliceT Try.prog 22 3 1 := ⟨Try.underlying22, by kernel_rfl⟩
theorem sl23 : SliceT Try.prog 23 81 9 := ⟨Try.underlying23, by kernel_rfl⟩
theorem sl32 : SliceT Try.prog 32 33 1 := ⟨Try.underlying32, by kernel_rfl⟩
theorem sl76 : SliceT Try.prog 76 79 2 := ⟨Try.underlying76, by kernel_rfl⟩
theorem sz79 : SizeT Try.prog 79 2 := by unfold SizeT; kernel_rfl
theorem sz81 : SizeT Try.prog 81 9 := by unfold SizeT; kernel_rfl
theorem sz_76 : SliceZ Try.prog 76 79 2 [.int .i64 0, .int .i64 0] := ⟨Try.underlying76, by kernel_rfl⟩
theorem ze79 : ZeroT Try.prog 79 [.int .i64 0, .int .i64 0] := by unfold ZeroT; kernel_rfl
theorem ze81 : ZeroT Try.prog 81 [.int .i64 0, .int .i64 0, .int .i64 0, .int .i64 0, .int .i64 0, .int .i64 0, .int .i64 0, .int .i64 0, .int .i64 0] := by unfold ZeroT; kernel_rfl
end TLoop
open TLoop
set_option maxRecDepth 8000 in
theorem target_May_w {t : Tgt} {r : Bool} (w : World) (hm : target_May_m t = some r)  : Calls Try.prog 39 #[.agg #[.int .i64 t.u0, .int .i64 t.u1, .int .i64 t.u2, .int .i64 t.w0, .int .i64 t.w1, .int .i64 t.w2, .int .i64 t.regs]] w (fun e w' => e = .returned (.bool r) ∧ Grow w w') := by
  unfold target_May_m at hm
  have hk := Base.rfl (w := w)
  refine calls_of_WC (n := 42) (args := [.agg #[.int .i64 t.u0, .int .i64 t.u1, .int .i64 t.u2, .int .i64 t.w0, .int .i64 t.w1, .int .i64 t.w2, .int .i64 t.regs]]) Try.func39 rfl rfl (Nat.le_of_ble_eq_true rfl) ?_ (Own.startK hk (Own.start w))
  refine WC.seq ?_
  refine WC.region ?_
  refine WL.effect rfl ?_
  refine (EV.boxAgg (by decide) rfl rfl (fun b1 => ?_))
  refine WL.q rfl rfl rfl (QV.assign rfl rfl) ?_
  refine WL.nil ?_
  refine WQ.then ?_
  refine WC.seq ?_
  refine WC.seq ?_
  refine WC.region ?_
  refine WL.q rfl rfl rfl (QV.move rfl rfl) ?_
  refine WL.nil ?_
  refine WQ.then ?_
  obtain ⟨o2, ho3, hm4⟩ := bd_some hm; clear hm; obtain ⟨n5, ho6⟩ := lp_some ho3
  refine WC.bloop1 (H2 := [blk b1 [.int .i64 t.u0, .int .i64 t.u1, .int .i64 t.u2, .int .i64 t.w0, .int .i64 t.w1, .int .i64 t.w2, .int .i64 t.regs] 28, kn noM w.heap.size w w]) (τ := [(1, (true, _))]) (fun (x4_1 : Int) => [(4, (true, .int .i64 x4_1))]) (fun (x4_1 : Int) => []) (fun (x4_1 : Int) (m : Nat) => iter (target_May_L0 t) m x4_1 = some o2) (fun (x4_1 : Int) => o2 = .go x4_1) 0 n5 ho6 ⟨rfl, rfl, trivial⟩ (fun w hw => hw.pick [0, 1] (by decide)) ?_ ?_
  · skip
    rintro x4_1 rfl
    refine WQ.then ?_
    refine WC.seq ?_
    refine WC.region ?_
    refine WL.q rfl rfl rfl (QV.fieldAddr fd28_2 rfl rfl) ?_
    refine WL.q rfl rfl rfl (QV.load pl3 rfl rfl (Own.cell 0 rfl rfl)) ?_
    refine WL.q rfl rfl rfl (QV.geq rfl rfl rfl rfl) ?_
    refine WL.q rfl rfl rfl (QV.move rfl rfl) ?_
    refine WL.g rfl rfl (GuardIs.pos rfl rfl) (fun hG => QV.fieldAddr fd28_2 rfl rfl) ?_
    refine WL.g rfl rfl (GuardIs.pos rfl rfl) (fun hG => QV.load pl3 rfl hG (Own.cell 0 rfl rfl)) ?_
    refine WL.g rfl rfl (GuardIs.pos rfl rfl) (fun hG => QV.leq rfl hG rfl rfl) ?_
    refine WL.q rfl rfl rfl (QV.pickAnd rfl rfl rfl (fun h => h)) ?_
    refine WL.q rfl rfl rfl (QV.assign rfl rfl) ?_
    refine WL.nil ?_
    refine WQ.then ?_
    refine WC.ret ?_
    obtain rfl := (eq_of_some hm4).symm
    refine WQ.ret1 rfl rfl (fun w hw => ?_)
    exact ⟨rfl, Own.kgrow (fun _ x => x) hw⟩
  · skip
    rintro x4_1 m7 hI8
    obtain ⟨m9, s10, rfl, hm11, hn12⟩ := iter_step hI8; clear hI8; unfold target_May_L0 at hm11
    refine WC.seq ?_
    refine WC.region ?_
    refine WL.q rfl rfl rfl (QV.lss rfl rfl rfl rfl) ?_
    refine WL.nil ?_
    refine WQ.then ?_
    refine WC.seq ?_
    refine WC.cond rfl (fun h13 => ?_) (fun h13 => ?_)
    · skip
      have hm14 := br_t h13 hm11; clear hm11
      refine WC.skip ?_
      refine WQ.then ?_
      refine WC.seq ?_
      refine WC.block ?_
      refine WC.seq ?_
      refine WC.region ?_
      refine WL.q rfl rfl rfl (QV.move rfl rfl) ?_
      refine WL.q rfl rfl rfl (QV.assign rfl rfl) ?_
      refine WL.nil ?_
      refine WQ.then ?_
      refine WC.seq ?_
      refine WC.region ?_
      refine WL.q rfl rfl rfl (QV.move rfl rfl) ?_
      refine WL.q rfl rfl rfl (QV.fieldAddr fd28_0 rfl rfl) ?_
      obtain ⟨c15, hm16⟩ := ck_some hm14; clear hm14
      refine WL.q rfl rfl rfl (QV.indexArray ar26 rfl rfl rfl rfl c15.1 c15.2) ?_
      refine WL.q rfl rfl rfl (QV.load pl3 rfl rfl (Own.cellSym 0 rfl (sel3_get (off := 0) (i := x4_1) c15.1 c15.2 rfl rfl rfl) (addr_sym _ _ _))) ?_
      refine WL.q rfl rfl rfl (QV.lss rfl rfl rfl rfl) ?_
      refine WL.q rfl rfl rfl (QV.move rfl rfl) ?_
      refine WL.g rfl rfl (GuardIs.neg rfl rfl) (fun hG => QV.move rfl rfl) ?_
      refine WL.g rfl rfl (GuardIs.neg rfl rfl) (fun hG => QV.fieldAddr fd28_0 rfl rfl) ?_
      obtain ⟨c17, hm18⟩ := ck_some hm16; clear hm16
      refine WL.g rfl rfl (GuardIs.neg rfl rfl) (fun hG => QV.indexArray ar26 rfl hG rfl hG (c17 hG).1 (c17 hG).2) ?_
      refine WL.g rfl rfl (GuardIs.neg rfl rfl) (fun hG => QV.load pl3 rfl hG (Own.cellSym 0 rfl (sel3_get (off := 0) (i := x4_1) (c17 hG).1 (c17 hG).2 rfl rfl rfl) (addr_sym _ _ _))) ?_
      refine WL.g rfl rfl (GuardIs.neg rfl rfl) (fun hG => QV.gtr rfl hG rfl rfl) ?_
      refine WL.q rfl rfl rfl (QV.pickOr rfl rfl rfl (fun h => notF h)) ?_
      refine WL.q rfl rfl rfl (QV.move rfl rfl) ?_
      refine WL.g rfl rfl (GuardIs.neg rfl rfl) (fun hG => QV.move rfl rfl) ?_
      refine WL.g rfl rfl (GuardIs.neg rfl rfl) (fun hG => QV.fieldAddr fd28_1 rfl rfl) ?_
      obtain ⟨c19, hm20⟩ := ck_some hm18; clear hm18
      refine WL.g rfl rfl (GuardIs.neg rfl rfl) (fun hG => QV.indexArray ar26 rfl hG rfl hG (c19 hG).1 (c19 hG).2) ?_
      refine WL.g rfl rfl (GuardIs.neg rfl rfl) (fun hG => QV.load pl3 rfl hG (Own.cellSym 0 rfl (sel3_get (off := 3) (i := x4_1) (c19 hG).1 (c19 hG).2 rfl rfl rfl) (addr_sym _ _ _))) ?_
      refine WL.g rfl rfl (GuardIs.neg rfl rfl) (fun hG => QV.lss rfl hG rfl rfl) ?_
      refine WL.q rfl rfl rfl (QV.pickOr rfl rfl rfl (fun h => notF h)) ?_
      refine WL.q rfl rfl rfl (QV.move rfl rfl) ?_
      refine WL.g rfl rfl (GuardIs.neg rfl rfl) (fun hG => QV.move rfl rfl) ?_
      refine WL.g rfl rfl (GuardIs.neg rfl rfl) (fun hG => QV.fieldAddr fd28_1 rfl rfl) ?_
      obtain ⟨c21, hm22⟩ := ck_some hm20; clear hm20
      refine WL.g rfl rfl (GuardIs.neg rfl rfl) (fun hG => QV.indexArray ar26 rfl hG rfl hG (c21 hG).1 (c21 hG).2) ?_
      refine WL.g rfl rfl (GuardIs.neg rfl rfl) (fun hG => QV.load pl3 rfl hG (Own.cellSym 0 rfl (sel3_get (off := 3) (i := x4_1) (c21 hG).1 (c21 hG).2 rfl rfl rfl) (addr_sym _ _ _))) ?_
      refine WL.g rfl rfl (GuardIs.neg rfl rfl) (fun hG => QV.gtr rfl hG rfl rfl) ?_
      refine WL.q rfl rfl rfl (QV.pickOr rfl rfl rfl (fun h => notF h)) ?_
      refine WL.nil ?_
      refine WQ.then ?_
      refine WC.cond rfl (fun h23 => ?_) (fun h23 => ?_)
      · skip
        have hm24 := br_t h23 hm22; clear hm22
        refine WC.seq ?_
        refine WC.region ?_
        refine WL.q rfl rfl rfl (QV.assign rfl rfl) ?_
        refine WL.nil ?_
        refine WQ.then ?_
        refine WC.ret ?_
        refine WQ.block_ret ?_
        refine WQ.then_ret ?_
        refine WQ.then_ret ?_
        refine WQ.block_ret ?_
        refine WQ.then_ret ?_
        refine WQ.then_ret ?_
        obtain rfl := up_ret hm24 hn12
        obtain rfl := (eq_of_some hm4).symm
        refine WQ.ret1 rfl rfl (fun w hw => ?_)
        exact ⟨rfl, Own.kgrow (fun _ x => x) hw⟩
      · skip
        have hm25 := br_f h23 hm22; clear hm22
        refine WC.skip ?_
        refine WQ.block ?_
        refine WQ.then ?_
        refine WC.region ?_
        obtain ⟨c26, hm27⟩ := ck_some hm25; clear hm25
        refine WL.q rfl rfl rfl (QV.add rfl rfl rfl rfl c26) ?_
        refine WL.q rfl rfl rfl (QV.move rfl rfl) ?_
        refine WL.nil ?_
        exact WQ.again1 (x4_1 + 1) m9 (up_next hm27 hn12) (Nat.lt_succ_self _) ⟨rfl, rfl, trivial⟩ (fun w hw => hw.pick [0, 1] (by decide))
    · skip
      have hm28 := br_f h13 hm11; clear hm11
      refine WC.exit ?_
      refine WQ.then_exit ?_
      refine WQ.then_exit ?_
      refine WQ.block_exit ?_
      exact WQ.out1 x4_1 (up_brk hm28 hn12) ⟨rfl, rfl, trivial⟩ (fun w hw => hw.pick [0, 1] (by decide))

set_option maxRecDepth 8000 in
theorem target_Wait_w {t : Tgt} {op : Int} {r : Int} (w : World) (hm : target_Wait_m t op = some r)  : Calls Try.prog 69 #[.agg #[.int .i64 t.u0, .int .i64 t.u1, .int .i64 t.u2, .int .i64 t.w0, .int .i64 t.w1, .int .i64 t.w2, .int .i64 t.regs], .int .i64 op] w (fun e w' => e = .returned (.int .i64 r) ∧ Grow w w') := by
  unfold target_Wait_m at hm
  have hk := Base.rfl (w := w)
  refine calls_of_WC (n := 13) (args := [.agg #[.int .i64 t.u0, .int .i64 t.u1, .int .i64 t.u2, .int .i64 t.w0, .int .i64 t.w1, .int .i64 t.w2, .int .i64 t.regs], .int .i64 op]) Try.func69 rfl rfl (Nat.le_of_ble_eq_true rfl) ?_ (Own.startK hk (Own.start w))
  refine WC.seq ?_
  refine WC.region ?_
  refine WL.effect rfl ?_
  refine (EV.boxAgg (by decide) rfl rfl (fun b1 => ?_))
  refine WL.q rfl rfl rfl (QV.assign rfl rfl) ?_
  refine WL.nil ?_
  refine WQ.then ?_
  refine WC.seq ?_
  refine WC.seq ?_
  refine WC.region ?_
  refine WL.q rfl rfl rfl (QV.loadAgg ag28 rfl rfl rfl (Own.cellsBlk 0 rfl)) ?_
  obtain ⟨x2, hx3, hm4⟩ := bd_some hm; clear hm
  refine WL.q rfl rfl rfl (QV.call en39 (EvAll.cons rfl rfl EvAll.nil) (fun w hw => have h := target_May_w w hx3 ; h)) ?_
  refine WL.q rfl rfl rfl (QV.not rfl rfl) ?_
  refine WL.nil ?_
  refine WQ.then ?_
  refine WC.cond rfl (fun h5 => ?_) (fun h5 => ?_)
  · skip
    have hm6 := br_t h5 hm4; clear hm4
    refine WC.seq ?_
    refine WC.region ?_
    refine WL.q rfl rfl rfl (QV.assign rfl rfl) ?_
    refine WL.nil ?_
    refine WQ.then ?_
    refine WC.ret ?_
    refine WQ.then_ret ?_
    obtain rfl := (eq_of_some hm6).symm
    refine WQ.ret1 rfl rfl (fun w hw => ?_)
    exact ⟨rfl, Own.kgrow (fun _ x => x) hw⟩
  · skip
    have hm7 := br_f h5 hm4; clear hm4
    refine WC.skip ?_
    refine WQ.then ?_
    refine WC.seq ?_
    refine WC.region ?_
    refine WL.q rfl rfl rfl (QV.move rfl rfl) ?_
    obtain ⟨x8, hx9, hm10⟩ := bd_some hm7; clear hm7
    refine WL.q rfl rfl rfl (QV.call en89 (EvAll.cons rfl rfl EvAll.nil) (fun w hw => have h := num_Class_w w hx9 ; h)) ?_
    refine WL.q rfl rfl rfl (QV.fieldAddr fd28_1 rfl rfl) ?_
    obtain ⟨c11, hm12⟩ := ck_some hm10; clear hm10
    refine WL.q rfl rfl rfl (QV.indexArray ar26 rfl rfl rfl rfl c11.1 c11.2) ?_
    refine WL.q rfl rfl rfl (QV.load pl3 rfl rfl (Own.cellSym 0 rfl (sel3_get (off := 3) (i := x8) c11.1 c11.2 rfl rfl rfl) (addr_sym _ _ _))) ?_
    refine WL.q rfl rfl rfl (QV.assign rfl rfl) ?_
    refine WL.nil ?_
    refine WQ.then ?_
    refine WC.ret ?_
    obtain rfl := (eq_of_some hm12).symm
    refine WQ.ret1 rfl rfl (fun w hw => ?_)
    exact ⟨rfl, Own.kgrow (fun _ x => x) hw⟩

set_option maxRecDepth 8000 in
theorem roundelayref4_May_w {t : Tgt} {r : Bool} (w : World) (hm : roundelayref4_May_m t = some r)  : Calls Try.prog 44 #[.agg #[.int .i64 t.u0, .int .i64 t.u1, .int .i64 t.u2, .int .i64 t.w0, .int .i64 t.w1, .int .i64 t.w2, .int .i64 t.regs]] w (fun e w' => e = .returned (.bool r) ∧ Grow w w') := by
  unfold roundelayref4_May_m at hm
  have hk := Base.rfl (w := w)
  refine calls_of_WC (n := 42) (args := [.agg #[.int .i64 t.u0, .int .i64 t.u1, .int .i64 t.u2, .int .i64 t.w0, .int .i64 t.w1, .int .i64 t.w2, .int .i64 t.regs]]) Try.func44 rfl rfl (Nat.le_of_ble_eq_true rfl) ?_ (Own.startK hk (Own.start w))
  refine WC.seq ?_
  refine WC.region ?_
  refine WL.effect rfl ?_
  refine (EV.boxAgg (by decide) rfl rfl (fun b1 => ?_))
  refine WL.q rfl rfl rfl (QV.assign rfl rfl) ?_
  refine WL.nil ?_
  refine WQ.then ?_
  refine WC.seq ?_
  refine WC.seq ?_
  refine WC.region ?_
  refine WL.q rfl rfl rfl (QV.assign rfl rfl) ?_
  refine WL.nil ?_
  refine WQ.then ?_
  obtain ⟨o2, ho3, hm4⟩ := bd_some hm; clear hm; obtain ⟨n5, ho6⟩ := lp_some ho3
  refine WC.bloop1 (H2 := [blk b1 [.int .i64 t.u0, .int .i64 t.u1, .int .i64 t.u2, .int .i64 t.w0, .int .i64 t.w1, .int .i64 t.w2, .int .i64 t.regs] 28, kn noM w.heap.size w w]) (τ := [(1, (true, _))]) (fun (k3_1 : Int) => [(3, (true, .int .i64 k3_1))]) (fun (k3_1 : Int) => []) (fun (k3_1 : Int) (m : Nat) => iter (roundelayref4_May_L0 t) m k3_1 = some o2) (fun (k3_1 : Int) => o2 = .go k3_1) 0 n5 ho6 ⟨rfl, rfl, trivial⟩ (fun w hw => hw.pick [0, 1] (by decide)) ?_ ?_
  · skip
    rintro k3_1 rfl
    refine WQ.then ?_
    refine WC.seq ?_
    refine WC.region ?_
    refine WL.q rfl rfl rfl (QV.fieldAddr fd28_2 rfl rfl) ?_
    refine WL.q rfl rfl rfl (QV.load pl3 rfl rfl (Own.cell 0 rfl rfl)) ?_
    refine WL.q rfl rfl rfl (QV.gtr rfl rfl rfl rfl) ?_
    refine WL.q rfl rfl rfl (QV.move rfl rfl) ?_
    refine WL.g rfl rfl (GuardIs.pos rfl rfl) (fun hG => QV.fieldAddr fd28_2 rfl rfl) ?_
    refine WL.g rfl rfl (GuardIs.pos rfl rfl) (fun hG => QV.load pl3 rfl hG (Own.cell 0 rfl rfl)) ?_
    refine WL.g rfl rfl (GuardIs.pos rfl rfl) (fun hG => QV.leq rfl hG rfl rfl) ?_
    refine WL.q rfl rfl rfl (QV.pickAnd rfl rfl rfl (fun h => h)) ?_
    refine WL.q rfl rfl rfl (QV.assign rfl rfl) ?_
    refine WL.nil ?_
    refine WQ.then ?_
    refine WC.ret ?_
    obtain rfl := (eq_of_some hm4).symm
    refine WQ.ret1 rfl rfl (fun w hw => ?_)
    exact ⟨rfl, Own.kgrow (fun _ x => x) hw⟩
  · skip
    rintro k3_1 m7 hI8
    obtain ⟨m9, s10, rfl, hm11, hn12⟩ := iter_step hI8; clear hI8; unfold roundelayref4_May_L0 at hm11
    refine WC.seq ?_
    refine WC.seq ?_
    refine WC.region ?_
    refine WL.q rfl rfl rfl (QV.move rfl rfl) ?_
    refine WL.q rfl rfl rfl (QV.lss rfl rfl rfl rfl) ?_
    refine WL.nil ?_
    refine WQ.then ?_
    refine WC.cond rfl (fun h13 => ?_) (fun h13 => ?_)
    · skip
      have hm14 := br_t h13 hm11; clear hm11
      refine WC.skip ?_
      refine WQ.then ?_
      refine WC.seq ?_
      refine WC.block ?_
      refine WC.seq ?_
      refine WC.region ?_
      refine WL.q rfl rfl rfl (QV.move rfl rfl) ?_
      refine WL.q rfl rfl rfl (QV.fieldAddr fd28_0 rfl rfl) ?_
      obtain ⟨c15, hm16⟩ := ck_some hm14; clear hm14
      refine WL.q rfl rfl rfl (QV.indexArray ar26 rfl rfl rfl rfl c15.1 c15.2) ?_
      refine WL.q rfl rfl rfl (QV.load pl3 rfl rfl (Own.cellSym 0 rfl (sel3_get (off := 0) (i := k3_1) c15.1 c15.2 rfl rfl rfl) (addr_sym _ _ _))) ?_
      refine WL.q rfl rfl rfl (QV.lss rfl rfl rfl rfl) ?_
      refine WL.q rfl rfl rfl (QV.move rfl rfl) ?_
      refine WL.g rfl rfl (GuardIs.neg rfl rfl) (fun hG => QV.move rfl rfl) ?_
      refine WL.g rfl rfl (GuardIs.neg rfl rfl) (fun hG => QV.fieldAddr fd28_0 rfl rfl) ?_
      obtain ⟨c17, hm18⟩ := ck_some hm16; clear hm16
      refine WL.g rfl rfl (GuardIs.neg rfl rfl) (fun hG => QV.indexArray ar26 rfl hG rfl hG (c17 hG).1 (c17 hG).2) ?_
      refine WL.g rfl rfl (GuardIs.neg rfl rfl) (fun hG => QV.load pl3 rfl hG (Own.cellSym 0 rfl (sel3_get (off := 0) (i := k3_1) (c17 hG).1 (c17 hG).2 rfl rfl rfl) (addr_sym _ _ _))) ?_
      refine WL.g rfl rfl (GuardIs.neg rfl rfl) (fun hG => QV.gtr rfl hG rfl rfl) ?_
      refine WL.q rfl rfl rfl (QV.pickOr rfl rfl rfl (fun h => notF h)) ?_
      refine WL.q rfl rfl rfl (QV.move rfl rfl) ?_
      refine WL.g rfl rfl (GuardIs.neg rfl rfl) (fun hG => QV.move rfl rfl) ?_
      refine WL.g rfl rfl (GuardIs.neg rfl rfl) (fun hG => QV.fieldAddr fd28_1 rfl rfl) ?_
      obtain ⟨c19, hm20⟩ := ck_some hm18; clear hm18
      refine WL.g rfl rfl (GuardIs.neg rfl rfl) (fun hG => QV.indexArray ar26 rfl hG rfl hG (c19 hG).1 (c19 hG).2) ?_
      refine WL.g rfl rfl (GuardIs.neg rfl rfl) (fun hG => QV.load pl3 rfl hG (Own.cellSym 0 rfl (sel3_get (off := 3) (i := k3_1) (c19 hG).1 (c19 hG).2 rfl rfl rfl) (addr_sym _ _ _))) ?_
      refine WL.g rfl rfl (GuardIs.neg rfl rfl) (fun hG => QV.lss rfl hG rfl rfl) ?_
      refine WL.q rfl rfl rfl (QV.pickOr rfl rfl rfl (fun h => notF h)) ?_
      refine WL.q rfl rfl rfl (QV.move rfl rfl) ?_
      refine WL.g rfl rfl (GuardIs.neg rfl rfl) (fun hG => QV.move rfl rfl) ?_
      refine WL.g rfl rfl (GuardIs.neg rfl rfl) (fun hG => QV.fieldAddr fd28_1 rfl rfl) ?_
      obtain ⟨c21, hm22⟩ := ck_some hm20; clear hm20
      refine WL.g rfl rfl (GuardIs.neg rfl rfl) (fun hG => QV.indexArray ar26 rfl hG rfl hG (c21 hG).1 (c21 hG).2) ?_
      refine WL.g rfl rfl (GuardIs.neg rfl rfl) (fun hG => QV.load pl3 rfl hG (Own.cellSym 0 rfl (sel3_get (off := 3) (i := k3_1) (c21 hG).1 (c21 hG).2 rfl rfl rfl) (addr_sym _ _ _))) ?_
      refine WL.g rfl rfl (GuardIs.neg rfl rfl) (fun hG => QV.gtr rfl hG rfl rfl) ?_
      refine WL.q rfl rfl rfl (QV.pickOr rfl rfl rfl (fun h => notF h)) ?_
      refine WL.nil ?_
      refine WQ.then ?_
      refine WC.cond rfl (fun h23 => ?_) (fun h23 => ?_)
      · skip
        have hm24 := br_t h23 hm22; clear hm22
        refine WC.seq ?_
        refine WC.region ?_
        refine WL.q rfl rfl rfl (QV.assign rfl rfl) ?_
        refine WL.nil ?_
        refine WQ.then ?_
        refine WC.ret ?_
        refine WQ.block_ret ?_
        refine WQ.then_ret ?_
        refine WQ.then_ret ?_
        refine WQ.block_ret ?_
        refine WQ.then_ret ?_
        refine WQ.then_ret ?_
        obtain rfl := up_ret hm24 hn12
        obtain rfl := (eq_of_some hm4).symm
        refine WQ.ret1 rfl rfl (fun w hw => ?_)
        exact ⟨rfl, Own.kgrow (fun _ x => x) hw⟩
      · skip
        have hm25 := br_f h23 hm22; clear hm22
        refine WC.skip ?_
        refine WQ.block ?_
        refine WQ.then ?_
        refine WC.region ?_
        refine WL.q rfl rfl rfl (QV.move rfl rfl) ?_
        obtain ⟨c26, hm27⟩ := ck_some hm25; clear hm25
        refine WL.q rfl rfl rfl (QV.add rfl rfl rfl rfl c26) ?_
        refine WL.q rfl rfl rfl (QV.assign rfl rfl) ?_
        refine WL.nil ?_
        exact WQ.again1 (k3_1 + 1) m9 (up_next hm27 hn12) (Nat.lt_succ_self _) ⟨rfl, rfl, trivial⟩ (fun w hw => hw.pick [0, 1] (by decide))
    · skip
      have hm28 := br_f h13 hm11; clear hm11
      refine WC.exit ?_
      refine WQ.then_exit ?_
      refine WQ.then_exit ?_
      refine WQ.block_exit ?_
      exact WQ.out1 k3_1 (up_brk hm28 hn12) ⟨rfl, rfl, trivial⟩ (fun w hw => hw.pick [0, 1] (by decide))

set_option maxRecDepth 8000 in
theorem roundelayref4_Wait_w {t : Tgt} {op : Int} {r : Int} (w : World) (hm : roundelayref4_Wait_m t op = some r)  : Calls Try.prog 47 #[.agg #[.int .i64 t.u0, .int .i64 t.u1, .int .i64 t.u2, .int .i64 t.w0, .int .i64 t.w1, .int .i64 t.w2, .int .i64 t.regs], .int .i64 op] w (fun e w' => e = .returned (.int .i64 r) ∧ Grow w w') := by
  unfold roundelayref4_Wait_m at hm
  have hk := Base.rfl (w := w)
  refine calls_of_WC (n := 15) (args := [.agg #[.int .i64 t.u0, .int .i64 t.u1, .int .i64 t.u2, .int .i64 t.w0, .int .i64 t.w1, .int .i64 t.w2, .int .i64 t.regs], .int .i64 op]) Try.func47 rfl rfl (Nat.le_of_ble_eq_true rfl) ?_ (Own.startK hk (Own.start w))
  refine WC.seq ?_
  refine WC.region ?_
  refine WL.effect rfl ?_
  refine (EV.boxAgg (by decide) rfl rfl (fun b1 => ?_))
  refine WL.q rfl rfl rfl (QV.assign rfl rfl) ?_
  refine WL.nil ?_
  refine WQ.then ?_
  refine WC.seq ?_
  refine WC.seq ?_
  refine WC.region ?_
  refine WL.q rfl rfl rfl (QV.loadAgg ag28 rfl rfl rfl (Own.cellsBlk 0 rfl)) ?_
  obtain ⟨x2, hx3, hm4⟩ := bd_some hm; clear hm
  refine WL.q rfl rfl rfl (QV.call en44 (EvAll.cons rfl rfl EvAll.nil) (fun w hw => have h := roundelayref4_May_w w hx3 ; h)) ?_
  refine WL.q rfl rfl rfl (QV.not rfl rfl) ?_
  refine WL.nil ?_
  refine WQ.then ?_
  refine WC.cond rfl (fun h5 => ?_) (fun h5 => ?_)
  · skip
    have hm6 := br_t h5 hm4; clear hm4
    refine WC.seq ?_
    refine WC.region ?_
    refine WL.q rfl rfl rfl (QV.assign rfl rfl) ?_
    refine WL.nil ?_
    refine WQ.then ?_
    refine WC.ret ?_
    refine WQ.then_ret ?_
    obtain rfl := (eq_of_some hm6).symm
    refine WQ.ret1 rfl rfl (fun w hw => ?_)
    exact ⟨rfl, Own.kgrow (fun _ x => x) hw⟩
  · skip
    have hm7 := br_f h5 hm4; clear hm4
    refine WC.skip ?_
    refine WQ.then ?_
    refine WC.seq ?_
    refine WC.region ?_
    refine WL.q rfl rfl rfl (QV.move rfl rfl) ?_
    obtain ⟨x8, hx9, hm10⟩ := bd_some hm7; clear hm7
    refine WL.q rfl rfl rfl (QV.call en45 (EvAll.cons rfl rfl EvAll.nil) (fun w hw => have h := roundelayref1_Class_w w hx9 ; h)) ?_
    refine WL.q rfl rfl rfl (QV.assign rfl rfl) ?_
    refine WL.nil ?_
    refine WQ.then ?_
    refine WC.seq ?_
    refine WC.region ?_
    refine WL.q rfl rfl rfl (QV.move rfl rfl) ?_
    refine WL.q rfl rfl rfl (QV.fieldAddr fd28_1 rfl rfl) ?_
    obtain ⟨c11, hm12⟩ := ck_some hm10; clear hm10
    refine WL.q rfl rfl rfl (QV.indexArray ar26 rfl rfl rfl rfl c11.1 c11.2) ?_
    refine WL.q rfl rfl rfl (QV.load pl3 rfl rfl (Own.cellSym 0 rfl (sel3_get (off := 3) (i := x8) c11.1 c11.2 rfl rfl rfl) (addr_sym _ _ _))) ?_
    refine WL.q rfl rfl rfl (QV.assign rfl rfl) ?_
    refine WL.nil ?_
    refine WQ.then ?_
    refine WC.ret ?_
    obtain rfl := (eq_of_some hm12).symm
    refine WQ.ret1 rfl rfl (fun w hw => ?_)
    exact ⟨rfl, Own.kgrow (fun _ x => x) hw⟩

set_option maxRecDepth 8000 in
theorem loop_in_w {n_ : Int} {from_ : Int} {below : Int} {r : Bool} (w : World) (hm : loop_in_m n_ from_ below = some r)  : Calls Try.prog 67 #[.int .i64 n_, .int .i64 from_, .int .i64 below] w (fun e w' => e = .returned (.bool r) ∧ Grow w w') := by
  unfold loop_in_m at hm
  have hk := Base.rfl (w := w)
  refine calls_of_WC (n := 15) (args := [.int .i64 n_, .int .i64 from_, .int .i64 below]) Try.func67 rfl rfl (Nat.le_of_ble_eq_true rfl) ?_ (Own.startK hk (Own.start w))
  refine WC.seq ?_
  refine WC.region ?_
  refine WL.q rfl rfl rfl (QV.assign rfl rfl) ?_
  refine WL.nil ?_
  refine WQ.then ?_
  refine WC.seq ?_
  refine WC.region ?_
  refine WL.q rfl rfl rfl (QV.move rfl rfl) ?_
  refine WL.q rfl rfl rfl (QV.move rfl rfl) ?_
  refine WL.q rfl rfl rfl (QV.geq rfl rfl rfl rfl) ?_
  refine WL.q rfl rfl rfl (QV.move rfl rfl) ?_
  refine WL.g rfl rfl (GuardIs.pos rfl rfl) (fun hG => QV.move rfl rfl) ?_
  refine WL.g rfl rfl (GuardIs.pos rfl rfl) (fun hG => QV.move rfl rfl) ?_
  refine WL.g rfl rfl (GuardIs.pos rfl rfl) (fun hG => QV.lss rfl hG rfl hG) ?_
  refine WL.q rfl rfl rfl (QV.pickAnd rfl rfl rfl (fun h => h)) ?_
  refine WL.q rfl rfl rfl (QV.assign rfl rfl) ?_
  refine WL.nil ?_
  refine WQ.then ?_
  refine WC.ret ?_
  obtain rfl := (eq_of_some hm).symm
  refine WQ.ret1 rfl rfl (fun w hw => ?_)
  exact ⟨rfl, Own.kgrow (fun _ x => x) hw⟩

set_option maxRecDepth 8000 in
theorem loop_Uses_w {s : Stm} {r : List Rf} {K0 : World} (hm : loop_Uses_m s = some r)  (M : Nat → Prop) (w : World) (hk : Base M K0 w) (hw0 : Own M w [] w) : Calls Try.prog 66 #[.agg #[.int .i64 s.op, .int .i64 s.a.st, .int .i64 s.a.bk, .int .i64 s.b.st, .int .i64 s.b.bk, .int .i64 s.ar, .int .i64 s.sp, .int .i64 s.pl, .int .i64 s.n]] w (fun e w' => ∃ X : Value × World, e = .returned (X.1) ∧ Own M w (kn M w.heap.size K0 X.2 :: []) w' ∧ Arr X.2 X.1 2 (r.map Rf.cells)) := by
  unfold loop_Uses_m at hm
  refine calls_of_WC (n := 19) (args := [.agg #[.int .i64 s.op, .int .i64 s.a.st, .int .i64 s.a.bk, .int .i64 s.b.st, .int .i64 s.b.bk, .int .i64 s.ar, .int .i64 s.sp, .int .i64 s.pl, .int .i64 s.n]]) Try.func66 rfl rfl (Nat.le_of_ble_eq_true rfl) ?_ (Own.startK hk hw0)
  refine WC.seq ?_
  refine WC.region ?_
  refine WL.effect rfl ?_
  refine (EV.boxAgg (by decide) rfl rfl (fun b1 => ?_))
  refine WL.q rfl rfl rfl (QV.assign rfl rfl) ?_
  refine WL.nil ?_
  refine WQ.then ?_
  refine WC.seq ?_
  refine WC.block ?_
  refine WC.seq ?_
  refine WC.region ?_
  refine WL.q rfl rfl rfl (QV.fieldAddr fd81_0 rfl rfl) ?_
  refine WL.q rfl rfl rfl (QV.load pl3 rfl rfl (Own.cell 0 rfl rfl)) ?_
  refine WL.q rfl rfl rfl (QV.eql rfl rfl rfl rfl) ?_
  refine WL.q rfl rfl rfl (QV.assign rfl rfl) ?_
  refine WL.nil ?_
  refine WQ.then ?_
  refine WC.cond rfl (fun h2 => ?_) (fun h2 => ?_)
  · skip
    have hm3 := br_t h2 hm; clear hm
    refine WC.seq ?_
    refine WC.region ?_
    refine WL.q rfl rfl rfl (QV.fieldAddr fd81_1 rfl rfl) ?_
    refine WL.q rfl rfl rfl (QV.loadAgg ag79 rfl rfl rfl (fun w hw => (Own.cellsBlk 0 rfl w hw).sub 1 2 rfl)) ?_
    refine WL.effect rfl ?_
    refine (EV.buildSlice (by decide) sz_76 (by decide) (by decide) (ps := [(0, .tmp 8)]) (cells := [.int .i64 s.a.st, .int .i64 s.a.bk]) (EvAll.cons rfl rfl EvAll.nil) (by kernel_rfl) (fun b4 => ?_))
    refine WL.q rfl rfl rfl (QV.assign rfl rfl) ?_
    refine WL.nil ?_
    refine WQ.then ?_
    refine WC.ret ?_
    refine WQ.block_ret ?_
    refine WQ.then_ret ?_
    obtain rfl := (eq_of_some hm3).symm
    refine WK.of (fun w hw => hw.blkVec Rf.cells ([s.a] : List Rf) rfl Rf.cells_len (Nat.le_of_ble_eq_true rfl)) ?_
    refine WK.of (C' := Own M w [kn M w.heap.size K0 K0, vec (blkSlice b4 1 1) 79 2 (List.map Rf.cells [s.a]), blk b1 [.int .i64 s.op, .int .i64 s.a.st, .int .i64 s.a.bk, .int .i64 s.b.st, .int .i64 s.b.bk, .int .i64 s.ar, .int .i64 s.sp, .int .i64 s.pl, .int .i64 s.n] 81]) (fun w hw => hw.pick [2, 0, 1] (by decide)) ?_
    refine WK.freeze hk (fun k5 hle5 hr5 => ?_)
    have hA5 := vec_arr hr5
    refine WQ.ret1 rfl rfl (fun w hw => ?_)
    exact ⟨((blkSlice b4 1 1), k5), rfl, hw.pick [0] (by decide), hA5⟩
  · skip
    have hm6 := br_f h2 hm; clear hm
    refine WC.seq ?_
    refine WC.region ?_
    refine WL.q rfl rfl rfl (QV.fieldAddr fd81_0 rfl rfl) ?_
    refine WL.q rfl rfl rfl (QV.load pl3 rfl rfl (Own.cell 0 rfl rfl)) ?_
    refine WL.q rfl rfl rfl (QV.gtr rfl rfl rfl rfl) ?_
    refine WL.q rfl rfl rfl (QV.assign rfl rfl) ?_
    refine WL.nil ?_
    refine WQ.then ?_
    refine WC.cond rfl (fun h7 => ?_) (fun h7 => ?_)
    · skip
      have hm8 := br_t h7 hm6; clear hm6
      refine WC.seq ?_
      refine WC.region ?_
      refine WL.q rfl rfl rfl (QV.fieldAddr fd81_1 rfl rfl) ?_
      refine WL.q rfl rfl rfl (QV.loadAgg ag79 rfl rfl rfl (fun w hw => (Own.cellsBlk 0 rfl w hw).sub 1 2 rfl)) ?_
      refine WL.q rfl rfl rfl (QV.fieldAddr fd81_2 rfl rfl) ?_
      refine WL.q rfl rfl rfl (QV.loadAgg ag79 rfl rfl rfl (fun w hw => (Own.cellsBlk 0 rfl w hw).sub 3 2 rfl)) ?_
      refine WL.effect rfl ?_
      refine (EV.buildSlice (by decide) sz_76 (by decide) (by decide) (ps := [(0, .tmp 15), (1, .tmp 17)]) (cells := [.int .i64 s.a.st, .int .i64 s.a.bk, .int .i64 s.b.st, .int .i64 s.b.bk]) (EvAll.cons rfl rfl (EvAll.cons rfl rfl EvAll.nil)) (by kernel_rfl) (fun b9 => ?_))
      refine WL.q rfl rfl rfl (QV.assign rfl rfl) ?_
      refine WL.nil ?_
      refine WQ.then ?_
      refine WC.ret ?_
      refine WQ.block_ret ?_
      refine WQ.then_ret ?_
      obtain rfl := (eq_of_some hm8).symm
      refine WK.of (fun w hw => hw.blkVec Rf.cells ([s.a, s.b] : List Rf) rfl Rf.cells_len (Nat.le_of_ble_eq_true rfl)) ?_
      refine WK.of (C' := Own M w [kn M w.heap.size K0 K0, vec (blkSlice b9 2 2) 79 2 (List.map Rf.cells [s.a, s.b]), blk b1 [.int .i64 s.op, .int .i64 s.a.st, .int .i64 s.a.bk, .int .i64 s.b.st, .int .i64 s.b.bk, .int .i64 s.ar, .int .i64 s.sp, .int .i64 s.pl, .int .i64 s.n] 81]) (fun w hw => hw.pick [2, 0, 1] (by decide)) ?_
      refine WK.freeze hk (fun k10 hle10 hr10 => ?_)
      have hA10 := vec_arr hr10
      refine WQ.ret1 rfl rfl (fun w hw => ?_)
      exact ⟨((blkSlice b9 2 2), k10), rfl, hw.pick [0] (by decide), hA10⟩
    · skip
      have hm11 := br_f h7 hm6; clear hm6
      refine WC.skip ?_
      refine WQ.block ?_
      refine WQ.then ?_
      refine WC.seq ?_
      refine WC.region ?_
      refine WL.q rfl rfl rfl (QV.assign rfl rfl) ?_
      refine WL.nil ?_
      refine WQ.then ?_
      refine WC.ret ?_
      obtain rfl := (eq_of_some hm11).symm
      refine WQ.ret1 rfl rfl (fun w hw => ?_)
      exact ⟨(.slice none 0 0, K0), rfl, hw.pick [1] (by decide), Arr.nil⟩

set_option maxRecDepth 8000 in
theorem loop_ref_w {v_l_logs : Value} {v_l_body : Value} {v_l_outs : Value} {l : Lp} {k_ : Int} {r_ : Rf} {r : Bool} (w : World) (hm : loop_ref_m l k_ r_ = some r) (h_l_logs : Arr w v_l_logs 1 (l.logs.map icell)) (h_l_body : Arr w v_l_body 9 (l.body.map Stm.cells)) (h_l_outs : Arr w v_l_outs 1 (l.outs.map icell)) : Calls Try.prog 105 #[.agg #[v_l_logs, v_l_body, v_l_outs], .int .i64 k_, .agg #[.int .i64 r_.st, .int .i64 r_.bk]] w (fun e w' => e = .returned (.bool r) ∧ Grow w w') := by
  unfold loop_ref_m at hm
  have hk := Base.rfl (w := w)
  refine calls_of_WC (n := 24) (args := [.agg #[v_l_logs, v_l_body, v_l_outs], .int .i64 k_, .agg #[.int .i64 r_.st, .int .i64 r_.bk]]) Try.func105 rfl rfl (Nat.le_of_ble_eq_true rfl) ?_ (Own.startK hk (Own.start w))
  refine WC.seq ?_
  refine WC.region ?_
  refine WL.effect rfl ?_
  refine (EV.boxAgg (by decide) rfl rfl (fun b1 => ?_))
  refine WL.effect rfl ?_
  refine (EV.boxAgg (by decide) rfl rfl (fun b2 => ?_))
  refine WL.q rfl rfl rfl (QV.assign rfl rfl) ?_
  refine WL.nil ?_
  refine WQ.then ?_
  refine WC.seq ?_
  refine WC.region ?_
  refine WL.q rfl rfl rfl (QV.fieldAddr fd25_1 rfl rfl) ?_
  refine WL.q rfl rfl rfl (QV.load pl23 rfl rfl (Own.cell 1 rfl rfl)) ?_
  refine WL.q rfl rfl rfl (QV.lenS Try.underlying23 rfl rfl h_l_body.lenMap) ?_
  refine WL.q rfl rfl rfl (QV.assign rfl rfl) ?_
  refine WL.nil ?_
  refine WQ.then ?_
  refine WC.seq ?_
  refine WC.seq ?_
  refine WC.region ?_
  refine WL.q rfl rfl rfl (QV.fieldAddr fd79_1 rfl rfl) ?_
  refine WL.q rfl rfl rfl (QV.load pl3 rfl rfl (Own.cell 0 rfl rfl)) ?_
  refine WL.q rfl rfl rfl (QV.eql rfl rfl rfl rfl) ?_
  refine WL.nil ?_
  refine WQ.then ?_
  refine WC.cond rfl (fun h3 => ?_) (fun h3 => ?_)
  · skip
    have hm4 := br_t h3 hm; clear hm
    refine WC.region ?_
    refine WL.q rfl rfl rfl (QV.move rfl rfl) ?_
    refine WL.q rfl rfl rfl (QV.assign rfl rfl) ?_
    refine WL.nil ?_
    refine WQ.then ?_
    refine WC.seq ?_
    refine WC.region ?_
    refine WL.q rfl rfl rfl (QV.fieldAddr fd79_1 rfl rfl) ?_
    refine WL.q rfl rfl rfl (QV.load pl3 rfl rfl (Own.cell 0 rfl rfl)) ?_
    obtain ⟨x5, hx6, hm7⟩ := bd_some hm4; clear hm4
    refine WL.q rfl rfl rfl (QV.call en67 (EvAll.cons rfl rfl (EvAll.cons rfl rfl (EvAll.cons rfl rfl EvAll.nil))) (fun w hw => have h := loop_in_w w hx6 ; h)) ?_
    refine WL.q rfl rfl rfl (QV.move rfl rfl) ?_
    refine WL.g rfl rfl (GuardIs.pos rfl rfl) (fun hG => QV.fieldAddr fd79_0 rfl rfl) ?_
    refine WL.g rfl rfl (GuardIs.pos rfl rfl) (fun hG => QV.load pl3 rfl hG (Own.cell 0 rfl rfl)) ?_
    refine WL.g rfl rfl (GuardIs.pos rfl rfl) (fun hG => QV.move rfl rfl) ?_
    obtain ⟨x8, hx9, hm10⟩ := bdG_some hm7; clear hm7
    refine WL.g rfl rfl (GuardIs.pos rfl rfl) (fun hG => QV.call en67 (EvAll.cons rfl hG (EvAll.cons rfl rfl (EvAll.cons rfl hG EvAll.nil))) (fun w hw => have h := loop_in_w w (hx9 hG) ; h)) ?_
    refine WL.q rfl rfl rfl (QV.pickAnd rfl rfl rfl (fun h => h)) ?_
    refine WL.q rfl rfl rfl (QV.assign rfl rfl) ?_
    refine WL.nil ?_
    refine WQ.then ?_
    refine WC.ret ?_
    obtain rfl := (eq_of_some hm10).symm
    refine WQ.ret1 rfl rfl (fun w hw => ?_)
    exact ⟨rfl, Own.kgrow (fun _ x => x) hw⟩
  · skip
    have hm11 := br_f h3 hm; clear hm
    refine WC.skip ?_
    refine WQ.then ?_
    refine WC.seq ?_
    refine WC.region ?_
    refine WL.q rfl rfl rfl (QV.fieldAddr fd79_1 rfl rfl) ?_
    refine WL.q rfl rfl rfl (QV.load pl3 rfl rfl (Own.cell 0 rfl rfl)) ?_
    obtain ⟨x12, hx13, hm14⟩ := bd_some hm11; clear hm11
    refine WL.q rfl rfl rfl (QV.call en67 (EvAll.cons rfl rfl (EvAll.cons rfl rfl (EvAll.cons rfl rfl EvAll.nil))) (fun w hw => have h := loop_in_w w hx13 ; h)) ?_
    refine WL.q rfl rfl rfl (QV.move rfl rfl) ?_
    refine WL.g rfl rfl (GuardIs.pos rfl rfl) (fun hG => QV.fieldAddr fd79_0 rfl rfl) ?_
    refine WL.g rfl rfl (GuardIs.pos rfl rfl) (fun hG => QV.load pl3 rfl hG (Own.cell 0 rfl rfl)) ?_
    refine WL.g rfl rfl (GuardIs.pos rfl rfl) (fun hG => QV.move rfl rfl) ?_
    obtain ⟨x15, hx16, hm17⟩ := bdG_some hm14; clear hm14
    refine WL.g rfl rfl (GuardIs.pos rfl rfl) (fun hG => QV.call en67 (EvAll.cons rfl hG (EvAll.cons rfl rfl (EvAll.cons rfl hG EvAll.nil))) (fun w hw => have h := loop_in_w w (hx16 hG) ; h)) ?_
    refine WL.q rfl rfl rfl (QV.pickAnd rfl rfl rfl (fun h => h)) ?_
    refine WL.q rfl rfl rfl (QV.assign rfl rfl) ?_
    refine WL.nil ?_
    refine WQ.then ?_
    refine WC.ret ?_
    obtain rfl := (eq_of_some hm17).symm
    refine WQ.ret1 rfl rfl (fun w hw => ?_)
    exact ⟨rfl, Own.kgrow (fun _ x => x) hw⟩

set_option maxRecDepth 8000 in
theorem loop_stmt_w {v_l_logs : Value} {v_l_body : Value} {v_l_outs : Value} {l : Lp} {k_ : Int} {r : Bool} (w : World) (hm : loop_stmt_m l k_ = some r) (h_l_logs : Arr w v_l_logs 1 (l.logs.map icell)) (h_l_body : Arr w v_l_body 9 (l.body.map Stm.cells)) (h_l_outs : Arr w v_l_outs 1 (l.outs.map icell)) : Calls Try.prog 68 #[.agg #[v_l_logs, v_l_body, v_l_outs], .int .i64 k_] w (fun e w' => e = .returned (.bool r) ∧ Grow w w') := by
  unfold loop_stmt_m at hm
  have hk := Base.rfl (w := w)
  refine calls_of_WC (n := 132) (args := [.agg #[v_l_logs, v_l_body, v_l_outs], .int .i64 k_]) Try.func68 rfl rfl (Nat.le_of_ble_eq_true rfl) ?_ (Own.startK hk (Own.start w))
  refine WC.seq ?_
  refine WC.region ?_
  refine WL.effect rfl ?_
  refine (EV.boxAgg (by decide) rfl rfl (fun b1 => ?_))
  refine WL.q rfl rfl rfl (QV.assign rfl rfl) ?_
  refine WL.nil ?_
  refine WQ.then ?_
  refine WC.seq ?_
  refine WC.region ?_
  refine WL.q rfl rfl rfl (QV.fieldAddr fd25_1 rfl rfl) ?_
  refine WL.q rfl rfl rfl (QV.load pl23 rfl rfl (Own.cell 0 rfl rfl)) ?_
  refine WL.q rfl rfl rfl (QV.move rfl rfl) ?_
  obtain ⟨c2, hm3⟩ := ck_some hm; clear hm
  obtain ⟨p4, hp5⟩ := h_l_body.lenMap.ix (sz := 9) ln_len c2
  refine WL.q rfl rfl rfl (QV.indexSlice sl23 rfl rfl rfl rfl hp5) ?_
  refine WL.q rfl rfl rfl (QV.loadAgg ag81 rfl rfl rfl (fun w hw => ((Own.karr 1 rfl hk h_l_body) w hw).ele hp5 c2)) ?_
  refine WL.effect rfl ?_
  refine (EV.alloc (by decide) ze81 (fun b6 => ?_))
  refine WL.effect rfl ?_
  refine (EV.store 0 rfl rfl rfl rfl rfl rfl (vs := [.int .i64 ((ele l.body k_).op), .int .i64 (((ele l.body k_).a).st), .int .i64 (((ele l.body k_).a).bk), .int .i64 (((ele l.body k_).b).st), .int .i64 (((ele l.body k_).b).bk), .int .i64 ((ele l.body k_).ar), .int .i64 ((ele l.body k_).sp), .int .i64 ((ele l.body k_).pl), .int .i64 ((ele l.body k_).n)]) (show Value.cells _ = List.toArray _ from rfl) sz81 (Nat.le_of_ble_eq_true rfl) (one_cons rfl (one_cons rfl (one_cons rfl (one_cons rfl (one_cons rfl (one_cons rfl (one_cons rfl (one_cons rfl (one_cons rfl one_nil))))))))) ?_)
  refine WL.nil ?_
  refine WQ.then ?_
  refine WC.seq ?_
  refine WC.region ?_
  refine WL.q rfl rfl rfl (QV.build (ps := []) (cells := [.int .i64 0, .int .i64 0]) EvAll.nil (by kernel_rfl)) ?_
  refine WL.effect rfl ?_
  refine (EV.alloc (by decide) ze79 (fun b7 => ?_))
  refine WL.effect rfl ?_
  refine (EV.store 0 rfl rfl rfl rfl rfl rfl (vs := [.int .i64 0, .int .i64 0]) (show Value.cells _ = List.toArray _ from rfl) sz79 (Nat.le_of_ble_eq_true rfl) (one_cons rfl (one_cons rfl one_nil)) ?_)
  refine WL.nil ?_
  refine WQ.then ?_
  refine WC.seq ?_
  refine WC.region ?_
  refine WL.q rfl rfl rfl (QV.fieldAddr fd81_3 rfl rfl) ?_
  refine WL.q rfl rfl rfl (QV.load pl3 rfl rfl (Own.cell 1 rfl rfl)) ?_
  refine WL.q rfl rfl rfl (QV.fieldAddr fd25_0 rfl rfl) ?_
  refine WL.q rfl rfl rfl (QV.load pl22 rfl rfl (Own.cell 2 rfl rfl)) ?_
  refine WL.q rfl rfl rfl (QV.lenS Try.underlying22 rfl rfl h_l_logs.lenMap) ?_
  obtain ⟨x8, hx9, hm10⟩ := bd_some hm3; clear hm3
  refine WL.q rfl rfl rfl (QV.call en67 (EvAll.cons rfl rfl (EvAll.cons rfl rfl (EvAll.cons rfl rfl EvAll.nil))) (fun w hw => have h := loop_in_w w hx9 ; h)) ?_
  refine WL.q rfl rfl rfl (QV.move rfl rfl) ?_
  refine WL.g rfl rfl (GuardIs.pos rfl rfl) (fun hG => QV.fieldAddr fd81_4 rfl rfl) ?_
  refine WL.g rfl rfl (GuardIs.pos rfl rfl) (fun hG => QV.load pl3 rfl hG (Own.cell 1 rfl rfl)) ?_
  obtain ⟨x11, hx12, hm13⟩ := bdG_some hm10; clear hm10
  refine WL.g rfl rfl (GuardIs.pos rfl rfl) (fun hG => QV.call en67 (EvAll.cons rfl hG (EvAll.cons rfl rfl (EvAll.cons rfl rfl EvAll.nil))) (fun w hw => have h := loop_in_w w (hx12 hG) ; h)) ?_
  refine WL.q rfl rfl rfl (QV.pickAnd rfl rfl rfl (fun h => h)) ?_
  refine WL.q rfl rfl rfl (QV.move rfl rfl) ?_
  refine WL.g rfl rfl (GuardIs.pos rfl rfl) (fun hG => QV.fieldAddr fd81_5 rfl rfl) ?_
  refine WL.g rfl rfl (GuardIs.pos rfl rfl) (fun hG => QV.load pl3 rfl hG (Own.cell 1 rfl rfl)) ?_
  obtain ⟨x14, hx15, hm16⟩ := bdG_some hm13; clear hm13
  refine WL.g rfl rfl (GuardIs.pos rfl rfl) (fun hG => QV.call en67 (EvAll.cons rfl hG (EvAll.cons rfl rfl (EvAll.cons rfl rfl EvAll.nil))) (fun w hw => have h := loop_in_w w (hx15 hG) ; h)) ?_
  refine WL.q rfl rfl rfl (QV.pickAnd rfl rfl rfl (fun h => h)) ?_
  refine WL.q rfl rfl rfl (QV.assign rfl rfl) ?_
  refine WL.nil ?_
  refine WQ.then ?_
  refine WC.seq ?_
  refine WC.region ?_
  refine WL.q rfl rfl rfl (QV.fieldAddr fd81_3 rfl rfl) ?_
  refine WL.q rfl rfl rfl (QV.load pl3 rfl rfl (Own.cell 1 rfl rfl)) ?_
  refine WL.q rfl rfl rfl (QV.eql rfl rfl rfl rfl) ?_
  refine WL.q rfl rfl rfl (QV.move rfl rfl) ?_
  refine WL.g rfl rfl (GuardIs.pos rfl rfl) (fun hG => QV.fieldAddr fd81_4 rfl rfl) ?_
  refine WL.g rfl rfl (GuardIs.pos rfl rfl) (fun hG => QV.load pl3 rfl hG (Own.cell 1 rfl rfl)) ?_
  refine WL.g rfl rfl (GuardIs.pos rfl rfl) (fun hG => QV.eql rfl hG rfl rfl) ?_
  refine WL.q rfl rfl rfl (QV.pickAnd rfl rfl rfl (fun h => h)) ?_
  refine WL.q rfl rfl rfl (QV.move rfl rfl) ?_
  refine WL.g rfl rfl (GuardIs.pos rfl rfl) (fun hG => QV.fieldAddr fd81_5 rfl rfl) ?_
  refine WL.g rfl rfl (GuardIs.pos rfl rfl) (fun hG => QV.load pl3 rfl hG (Own.cell 1 rfl rfl)) ?_
  refine WL.g rfl rfl (GuardIs.pos rfl rfl) (fun hG => QV.eql rfl hG rfl rfl) ?_
  refine WL.q rfl rfl rfl (QV.pickAnd rfl rfl rfl (fun h => h)) ?_
  refine WL.q rfl rfl rfl (QV.assign rfl rfl) ?_
  refine WL.nil ?_
  refine WQ.then ?_
  refine WC.seq ?_
  refine WC.seq ?_
  refine WC.region ?_
  refine WL.q rfl rfl rfl (QV.loadAgg ag81 rfl rfl rfl (Own.cellsBlk 1 rfl)) ?_
  refine WL.effect rfl ?_
  obtain ⟨x17, hx18, hm19⟩ := bd_some hm16; clear hm16
  refine EV.of (C' := Own noM w [kn noM w.heap.size w w, blk b7 [.int .i64 0, .int .i64 0] 79, blk b6 [.int .i64 ((ele l.body k_).op), .int .i64 (((ele l.body k_).a).st), .int .i64 (((ele l.body k_).a).bk), .int .i64 (((ele l.body k_).b).st), .int .i64 (((ele l.body k_).b).bk), .int .i64 ((ele l.body k_).ar), .int .i64 ((ele l.body k_).sp), .int .i64 ((ele l.body k_).pl), .int .i64 ((ele l.body k_).n)] 81, blk b1 [v_l_logs, v_l_body, v_l_outs] 25]) (fun w hw => hw.pick [3, 0, 1, 2] (by decide)) ?_
  refine (EV.callR (X := Value × World) (R := []) (fun X => X.1) (fun X => []) (fun X => X.2) (fun X => Arr X.2 X.1 2 (x17.map Rf.cells)) hk (fun _ h => by cases h; decide) en66 (EvAll.cons rfl rfl EvAll.nil) (fun M w h1 h2 => have h := loop_Uses_w hx18  M w h1 h2; h) (fun X20 hF20 hle20 => ?_))
  refine WL.q rfl rfl rfl (QV.lenS Try.underlying76 rfl rfl hF20.lenMap) ?_
  refine WL.q rfl rfl rfl (QV.move rfl rfl) ?_
  refine WL.nil ?_
  refine WQ.then ?_
  obtain ⟨o21, ho22, hm23⟩ := bd_some hm19; clear hm19; obtain ⟨n24, ho25⟩ := lp_some ho22
  refine WC.bloop1 (H2 := [kn noM w.heap.size w X20.2, blk b7 [.int .i64 0, .int .i64 0] 79, blk b6 [.int .i64 ((ele l.body k_).op), .int .i64 (((ele l.body k_).a).st), .int .i64 (((ele l.body k_).a).bk), .int .i64 (((ele l.body k_).b).st), .int .i64 (((ele l.body k_).b).bk), .int .i64 ((ele l.body k_).ar), .int .i64 ((ele l.body k_).sp), .int .i64 ((ele l.body k_).pl), .int .i64 ((ele l.body k_).n)] 81, blk b1 [v_l_logs, v_l_body, v_l_outs] 25]) (τ := [(1, (true, _)), (2, (true, _)), (5, (true, _)), (6, (true, _)), (7, (true, _)), (8, (true, _)), (47, (true, _)), (48, (true, _))]) (fun (x49_1 : Int) => [(49, (true, .int .i64 x49_1))]) (fun (x49_1 : Int) => []) (fun (x49_1 : Int) (m : Nat) => iter (loop_stmt_L0 l k_ x17) m x49_1 = some o21) (fun (x49_1 : Int) => o21 = .go x49_1) 0 n24 ho25 ⟨rfl, rfl, rfl, rfl, rfl, rfl, rfl, rfl, rfl, trivial⟩ (fun w hw => hw.pick [0, 1, 2, 3] (by decide)) ?_ ?_
  · skip
    rintro x49_1 rfl
    refine WQ.then ?_
    refine WC.seq ?_
    refine WC.block ?_
    refine WC.seq ?_
    refine WC.region ?_
    refine WL.q rfl rfl rfl (QV.fieldAddr fd81_0 rfl rfl) ?_
    refine WL.q rfl rfl rfl (QV.load pl3 rfl rfl (Own.cell 2 rfl rfl)) ?_
    refine WL.q rfl rfl rfl (QV.eql rfl rfl rfl rfl) ?_
    refine WL.q rfl rfl rfl (QV.assign rfl rfl) ?_
    refine WL.nil ?_
    refine WQ.then ?_
    refine WC.cond rfl (fun h26 => ?_) (fun h26 => ?_)
    · skip
      have hm27 := br_t h26 hm23; clear hm23
      refine WC.seq ?_
      refine WC.region ?_
      refine WL.q rfl rfl rfl (QV.move rfl rfl) ?_
      refine WL.q rfl rfl rfl (QV.move rfl rfl) ?_
      refine WL.g rfl rfl (GuardIs.pos rfl rfl) (fun hG => QV.fieldAddr fd81_1 rfl rfl) ?_
      refine WL.g rfl rfl (GuardIs.pos rfl rfl) (fun hG => QV.loadAgg ag79 rfl rfl hG (fun w hw => (Own.cellsBlk 2 rfl w hw).sub 1 2 rfl)) ?_
      refine WL.g rfl rfl (GuardIs.pos rfl rfl) (fun hG => QV.loadAgg ag79 rfl rfl rfl (Own.cellsBlk 1 rfl)) ?_
      refine WL.g rfl rfl (GuardIs.pos rfl rfl) (fun hG => QV.eqlF eq79 (ns := [((ele l.body k_).a).st, ((ele l.body k_).a).bk]) (ms := [0, 0]) rfl hG rfl hG rfl rfl) ?_
      refine WL.q rfl rfl rfl (QV.pickAnd rfl rfl rfl (fun h => h)) ?_
      refine WL.q rfl rfl rfl (QV.move rfl rfl) ?_
      refine WL.g rfl rfl (GuardIs.pos rfl rfl) (fun hG => QV.fieldAddr fd81_2 rfl rfl) ?_
      refine WL.g rfl rfl (GuardIs.pos rfl rfl) (fun hG => QV.loadAgg ag79 rfl rfl hG (fun w hw => (Own.cellsBlk 2 rfl w hw).sub 3 2 rfl)) ?_
      refine WL.g rfl rfl (GuardIs.pos rfl rfl) (fun hG => QV.loadAgg ag79 rfl rfl rfl (Own.cellsBlk 1 rfl)) ?_
      refine WL.g rfl rfl (GuardIs.pos rfl rfl) (fun hG => QV.eqlF eq79 (ns := [((ele l.body k_).b).st, ((ele l.body k_).b).bk]) (ms := [0, 0]) rfl hG rfl hG rfl rfl) ?_
      refine WL.q rfl rfl rfl (QV.pickAnd rfl rfl rfl (fun h => h)) ?_
      refine WL.q rfl rfl rfl (QV.assign rfl rfl) ?_
      refine WL.nil ?_
      refine WQ.then ?_
      refine WC.ret ?_
      refine WQ.block_ret ?_
      refine WQ.then_ret ?_
      obtain rfl := (eq_of_some hm27).symm
      refine WQ.ret1 rfl rfl (fun w hw => ?_)
      exact ⟨rfl, Own.kgrow (fun _ x => x) hw⟩
    · skip
      have hm28 := br_f h26 hm23; clear hm23
      refine WC.seq ?_
      refine WC.region ?_
      refine WL.q rfl rfl rfl (QV.fieldAddr fd81_6 rfl rfl) ?_
      refine WL.q rfl rfl rfl (QV.load pl2 rfl rfl (Own.cell 2 rfl rfl)) ?_
      refine WL.q rfl rfl rfl (QV.neq rfl rfl rfl rfl) ?_
      refine WL.q rfl rfl rfl (QV.assign rfl rfl) ?_
      refine WL.nil ?_
      refine WQ.then ?_
      refine WC.cond rfl (fun h29 => ?_) (fun h29 => ?_)
      · skip
        have hm30 := br_t h29 hm28; clear hm28
        refine WC.seq ?_
        refine WC.region ?_
        refine WL.q rfl rfl rfl (QV.assign rfl rfl) ?_
        refine WL.nil ?_
        refine WQ.then ?_
        refine WC.ret ?_
        refine WQ.block_ret ?_
        refine WQ.then_ret ?_
        obtain rfl := (eq_of_some hm30).symm
        refine WQ.ret1 rfl rfl (fun w hw => ?_)
        exact ⟨rfl, Own.kgrow (fun _ x => x) hw⟩
      · skip
        have hm31 := br_f h29 hm28; clear hm28
        refine WC.seq ?_
        refine WC.region ?_
        refine WL.q rfl rfl rfl (QV.fieldAddr fd81_0 rfl rfl) ?_
        refine WL.q rfl rfl rfl (QV.load pl3 rfl rfl (Own.cell 2 rfl rfl)) ?_
        refine WL.q rfl rfl rfl (QV.eql rfl rfl rfl rfl) ?_
        refine WL.q rfl rfl rfl (QV.assign rfl rfl) ?_
        refine WL.nil ?_
        refine WQ.then ?_
        refine WC.cond rfl (fun h32 => ?_) (fun h32 => ?_)
        · skip
          have hm33 := br_t h32 hm31; clear hm31
          refine WC.seq ?_
          refine WC.region ?_
          refine WL.q rfl rfl rfl (QV.move rfl rfl) ?_
          refine WL.q rfl rfl rfl (QV.move rfl rfl) ?_
          refine WL.g rfl rfl (GuardIs.pos rfl rfl) (fun hG => QV.fieldAddr fd81_1 rfl rfl) ?_
          refine WL.g rfl rfl (GuardIs.pos rfl rfl) (fun hG => QV.loadAgg ag79 rfl rfl hG (fun w hw => (Own.cellsBlk 2 rfl w hw).sub 1 2 rfl)) ?_
          refine WL.g rfl rfl (GuardIs.pos rfl rfl) (fun hG => QV.loadAgg ag79 rfl rfl rfl (Own.cellsBlk 1 rfl)) ?_
          refine WL.g rfl rfl (GuardIs.pos rfl rfl) (fun hG => QV.eqlF eq79 (ns := [((ele l.body k_).a).st, ((ele l.body k_).a).bk]) (ms := [0, 0]) rfl hG rfl hG rfl rfl) ?_
          refine WL.q rfl rfl rfl (QV.pickAnd rfl rfl rfl (fun h => h)) ?_
          refine WL.q rfl rfl rfl (QV.move rfl rfl) ?_
          refine WL.g rfl rfl (GuardIs.pos rfl rfl) (fun hG => QV.fieldAddr fd81_2 rfl rfl) ?_
          refine WL.g rfl rfl (GuardIs.pos rfl rfl) (fun hG => QV.loadAgg ag79 rfl rfl hG (fun w hw => (Own.cellsBlk 2 rfl w hw).sub 3 2 rfl)) ?_
          refine WL.g rfl rfl (GuardIs.pos rfl rfl) (fun hG => QV.loadAgg ag79 rfl rfl rfl (Own.cellsBlk 1 rfl)) ?_
          refine WL.g rfl rfl (GuardIs.pos rfl rfl) (fun hG => QV.eqlF eq79 (ns := [((ele l.body k_).b).st, ((ele l.body k_).b).bk]) (ms := [0, 0]) rfl hG rfl hG rfl rfl) ?_
          refine WL.q rfl rfl rfl (QV.pickAnd rfl rfl rfl (fun h => h)) ?_
          refine WL.q rfl rfl rfl (QV.assign rfl rfl) ?_
          refine WL.nil ?_
          refine WQ.then ?_
          refine WC.ret ?_
          refine WQ.block_ret ?_
          refine WQ.then_ret ?_
          obtain rfl := (eq_of_some hm33).symm
          refine WQ.ret1 rfl rfl (fun w hw => ?_)
          exact ⟨rfl, Own.kgrow (fun _ x => x) hw⟩
        · skip
          have hm34 := br_f h32 hm31; clear hm31
          refine WC.seq ?_
          refine WC.region ?_
          refine WL.q rfl rfl rfl (QV.fieldAddr fd81_0 rfl rfl) ?_
          refine WL.q rfl rfl rfl (QV.load pl3 rfl rfl (Own.cell 2 rfl rfl)) ?_
          refine WL.q rfl rfl rfl (QV.eql rfl rfl rfl rfl) ?_
          refine WL.q rfl rfl rfl (QV.assign rfl rfl) ?_
          refine WL.nil ?_
          refine WQ.then ?_
          refine WC.cond rfl (fun h35 => ?_) (fun h35 => ?_)
          · skip
            have hm36 := br_t h35 hm34; clear hm34
            refine WC.seq ?_
            refine WC.region ?_
            refine WL.q rfl rfl rfl (QV.move rfl rfl) ?_
            refine WL.q rfl rfl rfl (QV.move rfl rfl) ?_
            refine WL.g rfl rfl (GuardIs.pos rfl rfl) (fun hG => QV.fieldAddr fd81_1 rfl rfl) ?_
            refine WL.g rfl rfl (GuardIs.pos rfl rfl) (fun hG => QV.loadAgg ag79 rfl rfl hG (fun w hw => (Own.cellsBlk 2 rfl w hw).sub 1 2 rfl)) ?_
            refine WL.g rfl rfl (GuardIs.pos rfl rfl) (fun hG => QV.loadAgg ag79 rfl rfl rfl (Own.cellsBlk 1 rfl)) ?_
            refine WL.g rfl rfl (GuardIs.pos rfl rfl) (fun hG => QV.eqlF eq79 (ns := [((ele l.body k_).a).st, ((ele l.body k_).a).bk]) (ms := [0, 0]) rfl hG rfl hG rfl rfl) ?_
            refine WL.q rfl rfl rfl (QV.pickAnd rfl rfl rfl (fun h => h)) ?_
            refine WL.q rfl rfl rfl (QV.move rfl rfl) ?_
            refine WL.g rfl rfl (GuardIs.pos rfl rfl) (fun hG => QV.fieldAddr fd81_2 rfl rfl) ?_
            refine WL.g rfl rfl (GuardIs.pos rfl rfl) (fun hG => QV.loadAgg ag79 rfl rfl hG (fun w hw => (Own.cellsBlk 2 rfl w hw).sub 3 2 rfl)) ?_
            refine WL.g rfl rfl (GuardIs.pos rfl rfl) (fun hG => QV.loadAgg ag79 rfl rfl rfl (Own.cellsBlk 1 rfl)) ?_
            refine WL.g rfl rfl (GuardIs.pos rfl rfl) (fun hG => QV.eqlF eq79 (ns := [((ele l.body k_).b).st, ((ele l.body k_).b).bk]) (ms := [0, 0]) rfl hG rfl hG rfl rfl) ?_
            refine WL.q rfl rfl rfl (QV.pickAnd rfl rfl rfl (fun h => h)) ?_
            refine WL.q rfl rfl rfl (QV.assign rfl rfl) ?_
            refine WL.nil ?_
            refine WQ.then ?_
            refine WC.ret ?_
            refine WQ.block_ret ?_
            refine WQ.then_ret ?_
            obtain rfl := (eq_of_some hm36).symm
            refine WQ.ret1 rfl rfl (fun w hw => ?_)
            exact ⟨rfl, Own.kgrow (fun _ x => x) hw⟩
          · skip
            have hm37 := br_f h35 hm34; clear hm34
            refine WC.seq ?_
            refine WC.region ?_
            refine WL.q rfl rfl rfl (QV.fieldAddr fd81_0 rfl rfl) ?_
            refine WL.q rfl rfl rfl (QV.load pl3 rfl rfl (Own.cell 2 rfl rfl)) ?_
            refine WL.q rfl rfl rfl (QV.eql rfl rfl rfl rfl) ?_
            refine WL.q rfl rfl rfl (QV.assign rfl rfl) ?_
            refine WL.nil ?_
            refine WQ.then ?_
            refine WC.cond rfl (fun h38 => ?_) (fun h38 => ?_)
            · skip
              have hm39 := br_t h38 hm37; clear hm37
              refine WC.seq ?_
              refine WC.region ?_
              refine WL.q rfl rfl rfl (QV.move rfl rfl) ?_
              refine WL.q rfl rfl rfl (QV.move rfl rfl) ?_
              refine WL.g rfl rfl (GuardIs.pos rfl rfl) (fun hG => QV.fieldAddr fd81_2 rfl rfl) ?_
              refine WL.g rfl rfl (GuardIs.pos rfl rfl) (fun hG => QV.loadAgg ag79 rfl rfl hG (fun w hw => (Own.cellsBlk 2 rfl w hw).sub 3 2 rfl)) ?_
              refine WL.g rfl rfl (GuardIs.pos rfl rfl) (fun hG => QV.loadAgg ag79 rfl rfl rfl (Own.cellsBlk 1 rfl)) ?_
              refine WL.g rfl rfl (GuardIs.pos rfl rfl) (fun hG => QV.eqlF eq79 (ns := [((ele l.body k_).b).st, ((ele l.body k_).b).bk]) (ms := [0, 0]) rfl hG rfl hG rfl rfl) ?_
              refine WL.q rfl rfl rfl (QV.pickAnd rfl rfl rfl (fun h => h)) ?_
              refine WL.q rfl rfl rfl (QV.assign rfl rfl) ?_
              refine WL.nil ?_
              refine WQ.then ?_
              refine WC.ret ?_
              refine WQ.block_ret ?_
              refine WQ.then_ret ?_
              obtain rfl := (eq_of_some hm39).symm
              refine WQ.ret1 rfl rfl (fun w hw => ?_)
              exact ⟨rfl, Own.kgrow (fun _ x => x) hw⟩
            · skip
              have hm40 := br_f h38 hm37; clear hm37
              refine WC.skip ?_
              refine WQ.block ?_
              refine WQ.then ?_
              refine WC.seq ?_
              refine WC.region ?_
              refine WL.q rfl rfl rfl (QV.move rfl rfl) ?_
              refine WL.q rfl rfl rfl (QV.move rfl rfl) ?_
              refine WL.g rfl rfl (GuardIs.pos rfl rfl) (fun hG => QV.fieldAddr fd81_0 rfl rfl) ?_
              refine WL.g rfl rfl (GuardIs.pos rfl rfl) (fun hG => QV.load pl3 rfl hG (Own.cell 2 rfl rfl)) ?_
              refine WL.g rfl rfl (GuardIs.pos rfl rfl) (fun hG => QV.subW rfl hG rfl rfl) ?_
              obtain ⟨x41, hx42, hm43⟩ := bdG_some hm40; clear hm40
              refine WL.g rfl rfl (GuardIs.pos rfl rfl) (fun hG => QV.call en67 (EvAll.cons rfl hG (EvAll.cons rfl rfl (EvAll.cons rfl rfl EvAll.nil))) (fun w hw => have h := loop_in_w w (hx42 hG) ; h)) ?_
              refine WL.q rfl rfl rfl (QV.pickAnd rfl rfl rfl (fun h => h)) ?_
              refine WL.q rfl rfl rfl (QV.assign rfl rfl) ?_
              refine WL.nil ?_
              refine WQ.then ?_
              refine WC.ret ?_
              obtain rfl := (eq_of_some hm43).symm
              refine WQ.ret1 rfl rfl (fun w hw => ?_)
              exact ⟨rfl, Own.kgrow (fun _ x => x) hw⟩
  · skip
    rintro x49_1 m44 hI45
    obtain ⟨m46, s47, rfl, hm48, hn49⟩ := iter_step hI45; clear hI45; unfold loop_stmt_L0 at hm48
    refine WC.seq ?_
    refine WC.region ?_
    refine WL.q rfl rfl rfl (QV.lss rfl rfl rfl rfl) ?_
    refine WL.nil ?_
    refine WQ.then ?_
    refine WC.seq ?_
    refine WC.cond rfl (fun h50 => ?_) (fun h50 => ?_)
    · skip
      have hm51 := br_t h50 hm48; clear hm48
      refine WC.skip ?_
      refine WQ.then ?_
      refine WC.seq ?_
      refine WC.block ?_
      refine WC.seq ?_
      refine WC.region ?_
      obtain ⟨c52, hm53⟩ := ck_some hm51; clear hm51
      obtain ⟨p54, hp55⟩ := hF20.lenMap.ix (sz := 2) ln_len c52
      refine WL.q rfl rfl rfl (QV.indexSlice sl76 rfl rfl rfl rfl hp55) ?_
      refine WL.q rfl rfl rfl (QV.loadAgg ag79 rfl rfl rfl (fun w hw => ((Own.karr 0 rfl hk hF20) w hw).ele hp55 c52)) ?_
      refine WL.effect rfl ?_
      refine (EV.alloc (by decide) ze79 (fun b56 => ?_))
      refine WL.effect rfl ?_
      refine (EV.store 0 rfl rfl rfl rfl rfl rfl (vs := [.int .i64 ((ele x17 x49_1).st), .int .i64 ((ele x17 x49_1).bk)]) (show Value.cells _ = List.toArray _ from rfl) sz79 (Nat.le_of_ble_eq_true rfl) (one_cons rfl (one_cons rfl one_nil)) ?_)
      refine WL.nil ?_
      refine WQ.then ?_
      refine WC.seq ?_
      refine WC.region ?_
      refine WL.q rfl rfl rfl (QV.loadAgg ag25 rfl rfl rfl (Own.cellsBlk 4 rfl)) ?_
      refine WL.q rfl rfl rfl (QV.move rfl rfl) ?_
      refine WL.q rfl rfl rfl (QV.loadAgg ag79 rfl rfl rfl (Own.cellsBlk 0 rfl)) ?_
      obtain ⟨x57, hx58, hm59⟩ := bd_some hm53; clear hm53
      refine WL.q rfl rfl rfl (QV.call en105 (EvAll.cons rfl rfl (EvAll.cons rfl rfl (EvAll.cons rfl rfl EvAll.nil))) (fun w hw => have h := loop_ref_w w hx58 ((Own.karr 1 rfl hk (h_l_logs.le hle20)) w hw) ((Own.karr 1 rfl hk (h_l_body.le hle20)) w hw) ((Own.karr 1 rfl hk (h_l_outs.le hle20)) w hw); h)) ?_
      refine WL.q rfl rfl rfl (QV.not rfl rfl) ?_
      refine WL.nil ?_
      refine WQ.then ?_
      refine WC.cond rfl (fun h60 => ?_) (fun h60 => ?_)
      · skip
        have hm61 := br_t h60 hm59; clear hm59
        refine WC.seq ?_
        refine WC.region ?_
        refine WL.q rfl rfl rfl (QV.assign rfl rfl) ?_
        refine WL.nil ?_
        refine WQ.then ?_
        refine WC.ret ?_
        refine WQ.block_ret ?_
        refine WQ.then_ret ?_
        refine WQ.then_ret ?_
        refine WQ.block_ret ?_
        refine WQ.then_ret ?_
        refine WQ.then_ret ?_
        obtain rfl := up_ret hm61 hn49
        obtain rfl := (eq_of_some hm23).symm
        refine WQ.ret1 rfl rfl (fun w hw => ?_)
        exact ⟨rfl, Own.kgrow (fun _ x => x) hw⟩
      · skip
        have hm62 := br_f h60 hm59; clear hm59
        refine WC.skip ?_
        refine WQ.block ?_
        refine WQ.then ?_
        refine WC.region ?_
        obtain ⟨c63, hm64⟩ := ck_some hm62; clear hm62
        refine WL.q rfl rfl rfl (QV.add rfl rfl rfl rfl c63) ?_
        refine WL.q rfl rfl rfl (QV.move rfl rfl) ?_
        refine WL.nil ?_
        exact WQ.again1 (x49_1 + 1) m46 (up_next hm64 hn49) (Nat.lt_succ_self _) ⟨rfl, rfl, rfl, rfl, rfl, rfl, rfl, rfl, rfl, trivial⟩ (fun w hw => hw.pick [1, 2, 3, 4] (by decide))
    · skip
      have hm65 := br_f h50 hm48; clear hm48
      refine WC.exit ?_
      refine WQ.then_exit ?_
      refine WQ.then_exit ?_
      refine WQ.block_exit ?_
      exact WQ.out1 x49_1 (up_brk hm65 hn49) ⟨rfl, rfl, rfl, rfl, rfl, rfl, rfl, rfl, rfl, trivial⟩ (fun w hw => hw.pick [0, 1, 2, 3] (by decide))

set_option maxRecDepth 8000 in
theorem loop_May_w {v_l_logs : Value} {v_l_body : Value} {v_l_outs : Value} {l : Lp} {r : Bool} (w : World) (hm : loop_May_m l = some r) (h_l_logs : Arr w v_l_logs 1 (l.logs.map icell)) (h_l_body : Arr w v_l_body 9 (l.body.map Stm.cells)) (h_l_outs : Arr w v_l_outs 1 (l.outs.map icell)) : Calls Try.prog 38 #[.agg #[v_l_logs, v_l_body, v_l_outs]] w (fun e w' => e = .returned (.bool r) ∧ Grow w w') := by
  unfold loop_May_m at hm
  have hk := Base.rfl (w := w)
  refine calls_of_WC (n := 64) (args := [.agg #[v_l_logs, v_l_body, v_l_outs]]) Try.func38 rfl rfl (Nat.le_of_ble_eq_true rfl) ?_ (Own.startK hk (Own.start w))
  refine WC.seq ?_
  refine WC.region ?_
  refine WL.effect rfl ?_
  refine (EV.boxAgg (by decide) rfl rfl (fun b1 => ?_))
  refine WL.q rfl rfl rfl (QV.assign rfl rfl) ?_
  refine WL.nil ?_
  refine WQ.then ?_
  refine WC.seq ?_
  refine WC.seq ?_
  refine WC.region ?_
  refine WL.q rfl rfl rfl (QV.fieldAddr fd25_0 rfl rfl) ?_
  refine WL.q rfl rfl rfl (QV.load pl22 rfl rfl (Own.cell 0 rfl rfl)) ?_
  refine WL.q rfl rfl rfl (QV.lenS Try.underlying22 rfl rfl h_l_logs.lenMap) ?_
  refine WL.q rfl rfl rfl (QV.move rfl rfl) ?_
  refine WL.nil ?_
  refine WQ.then ?_
  obtain ⟨o2, ho3, hm4⟩ := bd_some hm; clear hm; obtain ⟨n5, ho6⟩ := lp_some ho3
  refine WC.bloop1 (H2 := [blk b1 [v_l_logs, v_l_body, v_l_outs] 25, kn noM w.heap.size w w]) (τ := [(1, (true, _)), (10, (true, _)), (11, (true, _))]) (fun (x12_1 : Int) => [(12, (true, .int .i64 x12_1))]) (fun (x12_1 : Int) => []) (fun (x12_1 : Int) (m : Nat) => iter (loop_May_L0 l) m x12_1 = some o2) (fun (x12_1 : Int) => o2 = .go x12_1) 0 n5 ho6 ⟨rfl, rfl, rfl, rfl, trivial⟩ (fun w hw => hw.pick [0, 1] (by decide)) ?_ ?_
  · skip
    rintro x12_1 rfl
    refine WQ.then ?_
    refine WC.seq ?_
    refine WC.region ?_
    refine WL.q rfl rfl rfl (QV.assign rfl rfl) ?_
    refine WL.nil ?_
    refine WQ.then ?_
    refine WC.seq ?_
    refine WC.seq ?_
    refine WC.region ?_
    refine WL.q rfl rfl rfl (QV.fieldAddr fd25_2 rfl rfl) ?_
    refine WL.q rfl rfl rfl (QV.load pl22 rfl rfl (Own.cell 0 rfl rfl)) ?_
    refine WL.q rfl rfl rfl (QV.lenS Try.underlying22 rfl rfl h_l_outs.lenMap) ?_
    refine WL.q rfl rfl rfl (QV.move rfl rfl) ?_
    refine WL.nil ?_
    refine WQ.then ?_
    obtain ⟨o7, ho8, hm9⟩ := bd_some hm4; clear hm4; obtain ⟨n10, ho11⟩ := lp_some ho8
    refine WC.bloop2 (H2 := [blk b1 [v_l_logs, v_l_body, v_l_outs] 25, kn noM w.heap.size w w]) (τ := [(1, (true, _)), (21, (true, _)), (22, (true, _))]) (fun (last5_2 : Int) (x23_2 : Int) => [(5, (true, .int .i64 last5_2)), (23, (true, .int .i64 x23_2))]) (fun (last5_2 : Int) (x23_2 : Int) => []) (fun (last5_2 : Int) (x23_2 : Int) (m : Nat) => iter (loop_May_L2 l) m (last5_2, x23_2) = some o7) (fun (last5_2 : Int) (x23_2 : Int) => o7 = .go (last5_2, x23_2)) (-1) 0 n10 ho11 ⟨rfl, rfl, rfl, rfl, rfl, trivial⟩ (fun w hw => hw.pick [0, 1] (by decide)) ?_ ?_
    · skip
      rintro last5_2 x23_2 rfl
      refine WQ.then ?_
      refine WC.seq ?_
      refine WC.seq ?_
      refine WC.region ?_
      refine WL.q rfl rfl rfl (QV.fieldAddr fd25_1 rfl rfl) ?_
      refine WL.q rfl rfl rfl (QV.load pl23 rfl rfl (Own.cell 0 rfl rfl)) ?_
      refine WL.q rfl rfl rfl (QV.lenS Try.underlying23 rfl rfl h_l_body.lenMap) ?_
      refine WL.q rfl rfl rfl (QV.move rfl rfl) ?_
      refine WL.nil ?_
      refine WQ.then ?_
      obtain ⟨o12, ho13, hm14⟩ := bd_some hm9; clear hm9; obtain ⟨n15, ho16⟩ := lp_some ho13
      refine WC.bloop1 (H2 := [blk b1 [v_l_logs, v_l_body, v_l_outs] 25, kn noM w.heap.size w w]) (τ := [(1, (true, _)), (39, (true, _))]) (fun (x40_3 : Int) => [(40, (true, .int .i64 x40_3))]) (fun (x40_3 : Int) => []) (fun (x40_3 : Int) (m : Nat) => iter (loop_May_L4 l) m x40_3 = some o12) (fun (x40_3 : Int) => o12 = .go x40_3) 0 n15 ho16 ⟨rfl, rfl, rfl, trivial⟩ (fun w hw => hw.pick [0, 1] (by decide)) ?_ ?_
      · skip
        rintro x40_3 rfl
        refine WQ.then ?_
        refine WC.seq ?_
        refine WC.region ?_
        refine WL.q rfl rfl rfl (QV.fieldAddr fd25_0 rfl rfl) ?_
        refine WL.q rfl rfl rfl (QV.load pl22 rfl rfl (Own.cell 0 rfl rfl)) ?_
        refine WL.q rfl rfl rfl (QV.lenS Try.underlying22 rfl rfl h_l_logs.lenMap) ?_
        refine WL.q rfl rfl rfl (QV.leq rfl rfl rfl rfl) ?_
        refine WL.q rfl rfl rfl (QV.move rfl rfl) ?_
        refine WL.g rfl rfl (GuardIs.pos rfl rfl) (fun hG => QV.fieldAddr fd25_1 rfl rfl) ?_
        refine WL.g rfl rfl (GuardIs.pos rfl rfl) (fun hG => QV.load pl23 rfl hG (Own.cell 0 rfl rfl)) ?_
        refine WL.g rfl rfl (GuardIs.pos rfl rfl) (fun hG => QV.lenS Try.underlying23 rfl hG h_l_body.lenMap) ?_
        refine WL.g rfl rfl (GuardIs.pos rfl rfl) (fun hG => QV.gtr rfl hG rfl rfl) ?_
        refine WL.q rfl rfl rfl (QV.pickAnd rfl rfl rfl (fun h => h)) ?_
        refine WL.q rfl rfl rfl (QV.assign rfl rfl) ?_
        refine WL.nil ?_
        refine WQ.then ?_
        refine WC.ret ?_
        obtain rfl := (eq_of_some hm14).symm
        refine WQ.ret1 rfl rfl (fun w hw => ?_)
        exact ⟨rfl, Own.kgrow (fun _ x => x) hw⟩
      · skip
        rintro x40_3 m17 hI18
        obtain ⟨m19, s20, rfl, hm21, hn22⟩ := iter_step hI18; clear hI18; unfold loop_May_L4 at hm21
        refine WC.seq ?_
        refine WC.region ?_
        refine WL.q rfl rfl rfl (QV.lss rfl rfl rfl rfl) ?_
        refine WL.nil ?_
        refine WQ.then ?_
        refine WC.seq ?_
        refine WC.cond rfl (fun h23 => ?_) (fun h23 => ?_)
        · skip
          have hm24 := br_t h23 hm21; clear hm21
          refine WC.skip ?_
          refine WQ.then ?_
          refine WC.seq ?_
          refine WC.block ?_
          refine WC.seq ?_
          refine WC.region ?_
          refine WL.q rfl rfl rfl (QV.move rfl rfl) ?_
          refine WL.q rfl rfl rfl (QV.assign rfl rfl) ?_
          refine WL.nil ?_
          refine WQ.then ?_
          refine WC.seq ?_
          refine WC.region ?_
          refine WL.q rfl rfl rfl (QV.fieldAddr fd25_1 rfl rfl) ?_
          refine WL.q rfl rfl rfl (QV.load pl23 rfl rfl (Own.cell 0 rfl rfl)) ?_
          refine WL.q rfl rfl rfl (QV.lenS Try.underlying23 rfl rfl h_l_body.lenMap) ?_
          refine WL.q rfl rfl rfl (QV.gtr rfl rfl rfl rfl) ?_
          refine WL.q rfl rfl rfl (QV.move rfl rfl) ?_
          refine WL.g rfl rfl (GuardIs.neg rfl rfl) (fun hG => QV.loadAgg ag25 rfl rfl rfl (Own.cellsBlk 0 rfl)) ?_
          refine WL.g rfl rfl (GuardIs.neg rfl rfl) (fun hG => QV.move rfl rfl) ?_
          obtain ⟨x25, hx26, hm27⟩ := bdG_some hm24; clear hm24
          refine WL.g rfl rfl (GuardIs.neg rfl rfl) (fun hG => QV.call en68 (EvAll.cons rfl hG (EvAll.cons rfl hG EvAll.nil)) (fun w hw => have h := loop_stmt_w w (hx26 hG) ((Own.karr 1 rfl hk h_l_logs) w hw) ((Own.karr 1 rfl hk h_l_body) w hw) ((Own.karr 1 rfl hk h_l_outs) w hw); h)) ?_
          refine WL.g rfl rfl (GuardIs.neg rfl rfl) (fun hG => QV.not rfl hG) ?_
          refine WL.q rfl rfl rfl (QV.pickOr rfl rfl rfl (fun h => notF h)) ?_
          refine WL.nil ?_
          refine WQ.then ?_
          refine WC.cond rfl (fun h28 => ?_) (fun h28 => ?_)
          · skip
            have hm29 := br_t h28 hm27; clear hm27
            refine WC.seq ?_
            refine WC.region ?_
            refine WL.q rfl rfl rfl (QV.assign rfl rfl) ?_
            refine WL.nil ?_
            refine WQ.then ?_
            refine WC.ret ?_
            refine WQ.block_ret ?_
            refine WQ.then_ret ?_
            refine WQ.then_ret ?_
            refine WQ.block_ret ?_
            refine WQ.then_ret ?_
            refine WQ.then_ret ?_
            obtain rfl := up_ret hm29 hn22
            obtain rfl := (eq_of_some hm14).symm
            refine WQ.ret1 rfl rfl (fun w hw => ?_)
            exact ⟨rfl, Own.kgrow (fun _ x => x) hw⟩
          · skip
            have hm30 := br_f h28 hm27; clear hm27
            refine WC.skip ?_
            refine WQ.block ?_
            refine WQ.then ?_
            refine WC.region ?_
            obtain ⟨c31, hm32⟩ := ck_some hm30; clear hm30
            refine WL.q rfl rfl rfl (QV.add rfl rfl rfl rfl c31) ?_
            refine WL.q rfl rfl rfl (QV.move rfl rfl) ?_
            refine WL.nil ?_
            exact WQ.again1 (x40_3 + 1) m19 (up_next hm32 hn22) (Nat.lt_succ_self _) ⟨rfl, rfl, rfl, trivial⟩ (fun w hw => hw.pick [0, 1] (by decide))
        · skip
          have hm33 := br_f h23 hm21; clear hm21
          refine WC.exit ?_
          refine WQ.then_exit ?_
          refine WQ.then_exit ?_
          refine WQ.block_exit ?_
          exact WQ.out1 x40_3 (up_brk hm33 hn22) ⟨rfl, rfl, rfl, trivial⟩ (fun w hw => hw.pick [0, 1] (by decide))
    · skip
      rintro last5_2 x23_2 m34 hI35
      obtain ⟨m36, s37, rfl, hm38, hn39⟩ := iter_step hI35; clear hI35; unfold loop_May_L2 at hm38; simp only at hm38
      refine WC.seq ?_
      refine WC.region ?_
      refine WL.q rfl rfl rfl (QV.lss rfl rfl rfl rfl) ?_
      refine WL.nil ?_
      refine WQ.then ?_
      refine WC.seq ?_
      refine WC.cond rfl (fun h40 => ?_) (fun h40 => ?_)
      · skip
        have hm41 := br_t h40 hm38; clear hm38
        refine WC.skip ?_
        refine WQ.then ?_
        refine WC.seq ?_
        refine WC.block ?_
        refine WC.seq ?_
        refine WC.region ?_
        obtain ⟨c42, hm43⟩ := ck_some hm41; clear hm41
        obtain ⟨p44, hp45⟩ := h_l_outs.lenMap.ix (sz := 1) ln_len c42
        refine WL.q rfl rfl rfl (QV.indexSlice sl22 rfl rfl rfl rfl hp45) ?_
        refine WL.q rfl rfl rfl (QV.load pl3 rfl rfl (fun w hw => CellsAt.one 0 (((Own.karr 1 rfl hk h_l_outs) w hw).ele hp45 c42) rfl)) ?_
        refine WL.q rfl rfl rfl (QV.assign rfl rfl) ?_
        refine WL.nil ?_
        refine WQ.then ?_
        refine WC.seq ?_
        refine WC.seq ?_
        refine WC.region ?_
        refine WL.q rfl rfl rfl (QV.move rfl rfl) ?_
        refine WL.q rfl rfl rfl (QV.move rfl rfl) ?_
        obtain ⟨c46, hm47⟩ := ck_some hm43; clear hm43
        refine WL.q rfl rfl rfl (QV.add rfl rfl rfl rfl c46) ?_
        refine WL.q rfl rfl rfl (QV.fieldAddr fd25_1 rfl rfl) ?_
        refine WL.q rfl rfl rfl (QV.load pl23 rfl rfl (Own.cell 0 rfl rfl)) ?_
        refine WL.q rfl rfl rfl (QV.lenS Try.underlying23 rfl rfl h_l_body.lenMap) ?_
        obtain ⟨x48, hx49, hm50⟩ := bd_some hm47; clear hm47
        refine WL.q rfl rfl rfl (QV.call en67 (EvAll.cons rfl rfl (EvAll.cons rfl rfl (EvAll.cons rfl rfl EvAll.nil))) (fun w hw => have h := loop_in_w w hx49 ; h)) ?_
        refine WL.q rfl rfl rfl (QV.not rfl rfl) ?_
        refine WL.nil ?_
        refine WQ.then ?_
        refine WC.cond rfl (fun h51 => ?_) (fun h51 => ?_)
        · skip
          have hm52 := br_t h51 hm50; clear hm50
          refine WC.seq ?_
          refine WC.region ?_
          refine WL.q rfl rfl rfl (QV.assign rfl rfl) ?_
          refine WL.nil ?_
          refine WQ.then ?_
          refine WC.ret ?_
          refine WQ.then_ret ?_
          refine WQ.block_ret ?_
          refine WQ.then_ret ?_
          refine WQ.then_ret ?_
          refine WQ.block_ret ?_
          refine WQ.then_ret ?_
          refine WQ.then_ret ?_
          obtain rfl := up_ret hm52 hn39
          obtain rfl := (eq_of_some hm9).symm
          refine WQ.ret1 rfl rfl (fun w hw => ?_)
          exact ⟨rfl, Own.kgrow (fun _ x => x) hw⟩
        · skip
          have hm53 := br_f h51 hm50; clear hm50
          refine WC.skip ?_
          refine WQ.then ?_
          refine WC.region ?_
          refine WL.q rfl rfl rfl (QV.move rfl rfl) ?_
          refine WL.q rfl rfl rfl (QV.assign rfl rfl) ?_
          refine WL.nil ?_
          refine WQ.block ?_
          refine WQ.then ?_
          refine WC.region ?_
          obtain ⟨c54, hm55⟩ := ck_some hm53; clear hm53
          refine WL.q rfl rfl rfl (QV.add rfl rfl rfl rfl c54) ?_
          refine WL.q rfl rfl rfl (QV.move rfl rfl) ?_
          refine WL.nil ?_
          exact WQ.again2 (ele l.outs x23_2) (x23_2 + 1) m36 (up_next hm55 hn39) (Nat.lt_succ_self _) ⟨rfl, rfl, rfl, rfl, rfl, trivial⟩ (fun w hw => hw.pick [0, 1] (by decide))
      · skip
        have hm56 := br_f h40 hm38; clear hm38
        refine WC.exit ?_
        refine WQ.then_exit ?_
        refine WQ.then_exit ?_
        refine WQ.block_exit ?_
        exact WQ.out2 last5_2 x23_2 (up_brk hm56 hn39) ⟨rfl, rfl, rfl, rfl, rfl, trivial⟩ (fun w hw => hw.pick [0, 1] (by decide))
  · skip
    rintro x12_1 m57 hI58
    obtain ⟨m59, s60, rfl, hm61, hn62⟩ := iter_step hI58; clear hI58; unfold loop_May_L0 at hm61
    refine WC.seq ?_
    refine WC.region ?_
    refine WL.q rfl rfl rfl (QV.lss rfl rfl rfl rfl) ?_
    refine WL.nil ?_
    refine WQ.then ?_
    refine WC.seq ?_
    refine WC.cond rfl (fun h63 => ?_) (fun h63 => ?_)
    · skip
      have hm64 := br_t h63 hm61; clear hm61
      refine WC.skip ?_
      refine WQ.then ?_
      refine WC.seq ?_
      refine WC.block ?_
      refine WC.seq ?_
      refine WC.region ?_
      obtain ⟨c65, hm66⟩ := ck_some hm64; clear hm64
      obtain ⟨p67, hp68⟩ := h_l_logs.lenMap.ix (sz := 1) ln_len c65
      refine WL.q rfl rfl rfl (QV.indexSlice sl22 rfl rfl rfl rfl hp68) ?_
      refine WL.q rfl rfl rfl (QV.load pl3 rfl rfl (fun w hw => CellsAt.one 0 (((Own.karr 1 rfl hk h_l_logs) w hw).ele hp68 c65) rfl)) ?_
      refine WL.q rfl rfl rfl (QV.assign rfl rfl) ?_
      refine WL.nil ?_
      refine WQ.then ?_
      refine WC.seq ?_
      refine WC.region ?_
      refine WL.q rfl rfl rfl (QV.move rfl rfl) ?_
      obtain ⟨x69, hx70, hm71⟩ := bd_some hm66; clear hm66
      refine WL.q rfl rfl rfl (QV.call en67 (EvAll.cons rfl rfl (EvAll.cons rfl rfl (EvAll.cons rfl rfl EvAll.nil))) (fun w hw => have h := loop_in_w w hx70 ; h)) ?_
      refine WL.q rfl rfl rfl (QV.not rfl rfl) ?_
      refine WL.nil ?_
      refine WQ.then ?_
      refine WC.cond rfl (fun h72 => ?_) (fun h72 => ?_)
      · skip
        have hm73 := br_t h72 hm71; clear hm71
        refine WC.seq ?_
        refine WC.region ?_
        refine WL.q rfl rfl rfl (QV.assign rfl rfl) ?_
        refine WL.nil ?_
        refine WQ.then ?_
        refine WC.ret ?_
        refine WQ.block_ret ?_
        refine WQ.then_ret ?_
        refine WQ.then_ret ?_
        refine WQ.block_ret ?_
        refine WQ.then_ret ?_
        refine WQ.then_ret ?_
        obtain rfl := up_ret hm73 hn62
        obtain rfl := (eq_of_some hm4).symm
        refine WQ.ret1 rfl rfl (fun w hw => ?_)
        exact ⟨rfl, Own.kgrow (fun _ x => x) hw⟩
      · skip
        have hm74 := br_f h72 hm71; clear hm71
        refine WC.skip ?_
        refine WQ.block ?_
        refine WQ.then ?_
        refine WC.region ?_
        obtain ⟨c75, hm76⟩ := ck_some hm74; clear hm74
        refine WL.q rfl rfl rfl (QV.add rfl rfl rfl rfl c75) ?_
        refine WL.q rfl rfl rfl (QV.move rfl rfl) ?_
        refine WL.nil ?_
        exact WQ.again1 (x12_1 + 1) m59 (up_next hm76 hn62) (Nat.lt_succ_self _) ⟨rfl, rfl, rfl, rfl, trivial⟩ (fun w hw => hw.pick [0, 1] (by decide))
    · skip
      have hm77 := br_f h63 hm61; clear hm61
      refine WC.exit ?_
      refine WQ.then_exit ?_
      refine WQ.then_exit ?_
      refine WQ.block_exit ?_
      exact WQ.out1 x12_1 (up_brk hm77 hn62) ⟨rfl, rfl, rfl, rfl, trivial⟩ (fun w hw => hw.pick [0, 1] (by decide))

set_option maxRecDepth 8000 in
theorem roundelayref2_Within_w {n_ : Int} {least : Int} {most : Int} {r : Bool} (w : World) (hm : roundelayref2_Within_m n_ least most = some r)  : Calls Try.prog 76 #[.int .i64 n_, .int .i64 least, .int .i64 most] w (fun e w' => e = .returned (.bool r) ∧ Grow w w') := by
  unfold roundelayref2_Within_m at hm
  have hk := Base.rfl (w := w)
  refine calls_of_WC (n := 15) (args := [.int .i64 n_, .int .i64 least, .int .i64 most]) Try.func76 rfl rfl (Nat.le_of_ble_eq_true rfl) ?_ (Own.startK hk (Own.start w))
  refine WC.seq ?_
  refine WC.region ?_
  refine WL.q rfl rfl rfl (QV.assign rfl rfl) ?_
  refine WL.nil ?_
  refine WQ.then ?_
  refine WC.seq ?_
  refine WC.region ?_
  refine WL.q rfl rfl rfl (QV.move rfl rfl) ?_
  refine WL.q rfl rfl rfl (QV.move rfl rfl) ?_
  refine WL.q rfl rfl rfl (QV.geq rfl rfl rfl rfl) ?_
  refine WL.q rfl rfl rfl (QV.move rfl rfl) ?_
  refine WL.g rfl rfl (GuardIs.pos rfl rfl) (fun hG => QV.move rfl rfl) ?_
  refine WL.g rfl rfl (GuardIs.pos rfl rfl) (fun hG => QV.move rfl rfl) ?_
  refine WL.g rfl rfl (GuardIs.pos rfl rfl) (fun hG => QV.leq rfl hG rfl hG) ?_
  refine WL.q rfl rfl rfl (QV.pickAnd rfl rfl rfl (fun h => h)) ?_
  refine WL.q rfl rfl rfl (QV.assign rfl rfl) ?_
  refine WL.nil ?_
  refine WQ.then ?_
  refine WC.ret ?_
  obtain rfl := (eq_of_some hm).symm
  refine WQ.ret1 rfl rfl (fun w hw => ?_)
  exact ⟨rfl, Own.kgrow (fun _ x => x) hw⟩

set_option maxRecDepth 8000 in
theorem roundelayref2_Uses_w {s : Stm} {r : List Rf} {K0 : World} (hm : roundelayref2_Uses_m s = some r)  (M : Nat → Prop) (w : World) (hk : Base M K0 w) (hw0 : Own M w [] w) : Calls Try.prog 30 #[.agg #[.int .i64 s.op, .int .i64 s.a.st, .int .i64 s.a.bk, .int .i64 s.b.st, .int .i64 s.b.bk, .int .i64 s.ar, .int .i64 s.sp, .int .i64 s.pl, .int .i64 s.n]] w (fun e w' => ∃ X : Value × World, e = .returned (X.1) ∧ Own M w (kn M w.heap.size K0 X.2 :: []) w' ∧ Arr X.2 X.1 2 (r.map Rf.cells)) := by
  unfold roundelayref2_Uses_m at hm
  refine calls_of_WC (n := 17) (args := [.agg #[.int .i64 s.op, .int .i64 s.a.st, .int .i64 s.a.bk, .int .i64 s.b.st, .int .i64 s.b.bk, .int .i64 s.ar, .int .i64 s.sp, .int .i64 s.pl, .int .i64 s.n]]) Try.func30 rfl rfl (Nat.le_of_ble_eq_true rfl) ?_ (Own.startK hk hw0)
  refine WC.seq ?_
  refine WC.region ?_
  refine WL.effect rfl ?_
  refine (EV.boxAgg (by decide) rfl rfl (fun b1 => ?_))
  refine WL.q rfl rfl rfl (QV.assign rfl rfl) ?_
  refine WL.nil ?_
  refine WQ.then ?_
  refine WC.seq ?_
  refine WC.seq ?_
  refine WC.region ?_
  refine WL.q rfl rfl rfl (QV.fieldAddr fd81_0 rfl rfl) ?_
  refine WL.q rfl rfl rfl (QV.load pl3 rfl rfl (Own.cell 0 rfl rfl)) ?_
  refine WL.q rfl rfl rfl (QV.eql rfl rfl rfl rfl) ?_
  refine WL.nil ?_
  refine WQ.then ?_
  refine WC.cond rfl (fun h2 => ?_) (fun h2 => ?_)
  · skip
    have hm3 := br_t h2 hm; clear hm
    refine WC.seq ?_
    refine WC.region ?_
    refine WL.q rfl rfl rfl (QV.fieldAddr fd81_1 rfl rfl) ?_
    refine WL.q rfl rfl rfl (QV.loadAgg ag79 rfl rfl rfl (fun w hw => (Own.cellsBlk 0 rfl w hw).sub 1 2 rfl)) ?_
    refine WL.effect rfl ?_
    refine (EV.buildSlice (by decide) sz_76 (by decide) (by decide) (ps := [(0, .tmp 7)]) (cells := [.int .i64 s.a.st, .int .i64 s.a.bk]) (EvAll.cons rfl rfl EvAll.nil) (by kernel_rfl) (fun b4 => ?_))
    refine WL.q rfl rfl rfl (QV.assign rfl rfl) ?_
    refine WL.nil ?_
    refine WQ.then ?_
    refine WC.ret ?_
    refine WQ.then_ret ?_
    obtain rfl := (eq_of_some hm3).symm
    refine WK.of (fun w hw => hw.blkVec Rf.cells ([s.a] : List Rf) rfl Rf.cells_len (Nat.le_of_ble_eq_true rfl)) ?_
    refine WK.of (C' := Own M w [kn M w.heap.size K0 K0, vec (blkSlice b4 1 1) 79 2 (List.map Rf.cells [s.a]), blk b1 [.int .i64 s.op, .int .i64 s.a.st, .int .i64 s.a.bk, .int .i64 s.b.st, .int .i64 s.b.bk, .int .i64 s.ar, .int .i64 s.sp, .int .i64 s.pl, .int .i64 s.n] 81]) (fun w hw => hw.pick [2, 0, 1] (by decide)) ?_
    refine WK.freeze hk (fun k5 hle5 hr5 => ?_)
    have hA5 := vec_arr hr5
    refine WQ.ret1 rfl rfl (fun w hw => ?_)
    exact ⟨((blkSlice b4 1 1), k5), rfl, hw.pick [0] (by decide), hA5⟩
  · skip
    have hm6 := br_f h2 hm; clear hm
    refine WC.skip ?_
    refine WQ.then ?_
    refine WC.seq ?_
    refine WC.seq ?_
    refine WC.region ?_
    refine WL.q rfl rfl rfl (QV.fieldAddr fd81_0 rfl rfl) ?_
    refine WL.q rfl rfl rfl (QV.load pl3 rfl rfl (Own.cell 0 rfl rfl)) ?_
    refine WL.q rfl rfl rfl (QV.gtr rfl rfl rfl rfl) ?_
    refine WL.nil ?_
    refine WQ.then ?_
    refine WC.cond rfl (fun h7 => ?_) (fun h7 => ?_)
    · skip
      have hm8 := br_t h7 hm6; clear hm6
      refine WC.seq ?_
      refine WC.region ?_
      refine WL.q rfl rfl rfl (QV.fieldAddr fd81_1 rfl rfl) ?_
      refine WL.q rfl rfl rfl (QV.loadAgg ag79 rfl rfl rfl (fun w hw => (Own.cellsBlk 0 rfl w hw).sub 1 2 rfl)) ?_
      refine WL.q rfl rfl rfl (QV.fieldAddr fd81_2 rfl rfl) ?_
      refine WL.q rfl rfl rfl (QV.loadAgg ag79 rfl rfl rfl (fun w hw => (Own.cellsBlk 0 rfl w hw).sub 3 2 rfl)) ?_
      refine WL.effect rfl ?_
      refine (EV.buildSlice (by decide) sz_76 (by decide) (by decide) (ps := [(0, .tmp 13), (1, .tmp 15)]) (cells := [.int .i64 s.a.st, .int .i64 s.a.bk, .int .i64 s.b.st, .int .i64 s.b.bk]) (EvAll.cons rfl rfl (EvAll.cons rfl rfl EvAll.nil)) (by kernel_rfl) (fun b9 => ?_))
      refine WL.q rfl rfl rfl (QV.assign rfl rfl) ?_
      refine WL.nil ?_
      refine WQ.then ?_
      refine WC.ret ?_
      refine WQ.then_ret ?_
      obtain rfl := (eq_of_some hm8).symm
      refine WK.of (fun w hw => hw.blkVec Rf.cells ([s.a, s.b] : List Rf) rfl Rf.cells_len (Nat.le_of_ble_eq_true rfl)) ?_
      refine WK.of (C' := Own M w [kn M w.heap.size K0 K0, vec (blkSlice b9 2 2) 79 2 (List.map Rf.cells [s.a, s.b]), blk b1 [.int .i64 s.op, .int .i64 s.a.st, .int .i64 s.a.bk, .int .i64 s.b.st, .int .i64 s.b.bk, .int .i64 s.ar, .int .i64 s.sp, .int .i64 s.pl, .int .i64 s.n] 81]) (fun w hw => hw.pick [2, 0, 1] (by decide)) ?_
      refine WK.freeze hk (fun k10 hle10 hr10 => ?_)
      have hA10 := vec_arr hr10
      refine WQ.ret1 rfl rfl (fun w hw => ?_)
      exact ⟨((blkSlice b9 2 2), k10), rfl, hw.pick [0] (by decide), hA10⟩
    · skip
      have hm11 := br_f h7 hm6; clear hm6
      refine WC.skip ?_
      refine WQ.then ?_
      refine WC.seq ?_
      refine WC.region ?_
      refine WL.q rfl rfl rfl (QV.assign rfl rfl) ?_
      refine WL.nil ?_
      refine WQ.then ?_
      refine WC.ret ?_
      obtain rfl := (eq_of_some hm11).symm
      refine WQ.ret1 rfl rfl (fun w hw => ?_)
      exact ⟨(.slice none 0 0, K0), rfl, hw.pick [1] (by decide), Arr.nil⟩

set_option maxRecDepth 8000 in
theorem roundelayref2_stmt_w {v_l_logs : Value} {v_l_body : Value} {v_l_outs : Value} {l : Lp} {k_ : Int} {r : Bool} (w : World) (hm : roundelayref2_stmt_m l k_ = some r) (h_l_logs : Arr w v_l_logs 1 (l.logs.map icell)) (h_l_body : Arr w v_l_body 9 (l.body.map Stm.cells)) (h_l_outs : Arr w v_l_outs 1 (l.outs.map icell)) : Calls Try.prog 77 #[.agg #[v_l_logs, v_l_body, v_l_outs], .int .i64 k_] w (fun e w' => e = .returned (.bool r) ∧ Grow w w') := by
  unfold roundelayref2_stmt_m at hm
  have hk := Base.rfl (w := w)
  refine calls_of_WC (n := 142) (args := [.agg #[v_l_logs, v_l_body, v_l_outs], .int .i64 k_]) Try.func77 rfl rfl (Nat.le_of_ble_eq_true rfl) ?_ (Own.startK hk (Own.start w))
  refine WC.seq ?_
  refine WC.region ?_
  refine WL.effect rfl ?_
  refine (EV.boxAgg (by decide) rfl rfl (fun b1 => ?_))
  refine WL.q rfl rfl rfl (QV.assign rfl rfl) ?_
  refine WL.nil ?_
  refine WQ.then ?_
  refine WC.seq ?_
  refine WC.region ?_
  refine WL.q rfl rfl rfl (QV.fieldAddr fd25_1 rfl rfl) ?_
  refine WL.q rfl rfl rfl (QV.load pl23 rfl rfl (Own.cell 0 rfl rfl)) ?_
  refine WL.q rfl rfl rfl (QV.move rfl rfl) ?_
  obtain ⟨c2, hm3⟩ := ck_some hm; clear hm
  obtain ⟨p4, hp5⟩ := h_l_body.lenMap.ix (sz := 9) ln_len c2
  refine WL.q rfl rfl rfl (QV.indexSlice sl23 rfl rfl rfl rfl hp5) ?_
  refine WL.q rfl rfl rfl (QV.loadAgg ag81 rfl rfl rfl (fun w hw => ((Own.karr 1 rfl hk h_l_body) w hw).ele hp5 c2)) ?_
  refine WL.effect rfl ?_
  refine (EV.alloc (by decide) ze81 (fun b6 => ?_))
  refine WL.effect rfl ?_
  refine (EV.store 0 rfl rfl rfl rfl rfl rfl (vs := [.int .i64 ((ele l.body k_).op), .int .i64 (((ele l.body k_).a).st), .int .i64 (((ele l.body k_).a).bk), .int .i64 (((ele l.body k_).b).st), .int .i64 (((ele l.body k_).b).bk), .int .i64 ((ele l.body k_).ar), .int .i64 ((ele l.body k_).sp), .int .i64 ((ele l.body k_).pl), .int .i64 ((ele l.body k_).n)]) (show Value.cells _ = List.toArray _ from rfl) sz81 (Nat.le_of_ble_eq_true rfl) (one_cons rfl (one_cons rfl (one_cons rfl (one_cons rfl (one_cons rfl (one_cons rfl (one_cons rfl (one_cons rfl (one_cons rfl one_nil))))))))) ?_)
  refine WL.nil ?_
  refine WQ.then ?_
  refine WC.seq ?_
  refine WC.region ?_
  refine WL.q rfl rfl rfl (QV.loadAgg ag81 rfl rfl rfl (Own.cellsBlk 0 rfl)) ?_
  refine WL.effect rfl ?_
  obtain ⟨x7, hx8, hm9⟩ := bd_some hm3; clear hm3
  refine EV.of (C' := Own noM w [kn noM w.heap.size w w, blk b6 [.int .i64 ((ele l.body k_).op), .int .i64 (((ele l.body k_).a).st), .int .i64 (((ele l.body k_).a).bk), .int .i64 (((ele l.body k_).b).st), .int .i64 (((ele l.body k_).b).bk), .int .i64 ((ele l.body k_).ar), .int .i64 ((ele l.body k_).sp), .int .i64 ((ele l.body k_).pl), .int .i64 ((ele l.body k_).n)] 81, blk b1 [v_l_logs, v_l_body, v_l_outs] 25]) (fun w hw => hw.pick [2, 0, 1] (by decide)) ?_
  refine (EV.callR (X := Value × World) (R := []) (fun X => X.1) (fun X => []) (fun X => X.2) (fun X => Arr X.2 X.1 2 (x7.map Rf.cells)) hk (fun _ h => by cases h; decide) en30 (EvAll.cons rfl rfl EvAll.nil) (fun M w h1 h2 => have h := roundelayref2_Uses_w hx8  M w h1 h2; h) (fun X10 hF10 hle10 => ?_))
  refine WL.q rfl rfl rfl (QV.assign rfl rfl) ?_
  refine WL.nil ?_
  refine WQ.then ?_
  refine WC.seq ?_
  refine WC.seq ?_
  refine WC.region ?_
  refine WL.q rfl rfl rfl (QV.assign rfl rfl) ?_
  refine WL.nil ?_
  refine WQ.then ?_
  obtain ⟨o11, ho12, hm13⟩ := bd_some hm9; clear hm9; obtain ⟨n14, ho15⟩ := lp_some ho12
  refine WC.bloop1 (H2 := [kn noM w.heap.size w X10.2, blk b6 [.int .i64 ((ele l.body k_).op), .int .i64 (((ele l.body k_).a).st), .int .i64 (((ele l.body k_).a).bk), .int .i64 (((ele l.body k_).b).st), .int .i64 (((ele l.body k_).b).bk), .int .i64 ((ele l.body k_).ar), .int .i64 ((ele l.body k_).sp), .int .i64 ((ele l.body k_).pl), .int .i64 ((ele l.body k_).n)] 81, blk b1 [v_l_logs, v_l_body, v_l_outs] 25]) (τ := [(1, (true, _)), (2, (true, _)), (5, (true, _)), (6, (true, _))]) (fun (i7_1 : Int) => [(7, (true, .int .i64 i7_1))]) (fun (i7_1 : Int) => []) (fun (i7_1 : Int) (m : Nat) => iter (roundelayref2_stmt_L0 l k_ x7) m i7_1 = some o11) (fun (i7_1 : Int) => o11 = .go i7_1) 0 n14 ho15 ⟨rfl, rfl, rfl, rfl, rfl, trivial⟩ (fun w hw => hw.pick [0, 1, 2] (by decide)) ?_ ?_
  · skip
    rintro i7_1 rfl
    refine WQ.then ?_
    refine WC.seq ?_
    refine WC.seq ?_
    refine WC.region ?_
    refine WL.q rfl rfl rfl (QV.move rfl rfl) ?_
    refine WL.q rfl rfl rfl (QV.lenS Try.underlying76 rfl rfl hF10.lenMap) ?_
    refine WL.q rfl rfl rfl (QV.lss rfl rfl rfl rfl) ?_
    refine WL.q rfl rfl rfl (QV.move rfl rfl) ?_
    refine WL.g rfl rfl (GuardIs.pos rfl rfl) (fun hG => QV.fieldAddr fd81_2 rfl rfl) ?_
    refine WL.g rfl rfl (GuardIs.pos rfl rfl) (fun hG => QV.fieldAddr fd79_0 rfl hG) ?_
    refine WL.g rfl rfl (GuardIs.pos rfl rfl) (fun hG => QV.load pl3 rfl hG (Own.cell 1 rfl rfl)) ?_
    refine WL.g rfl rfl (GuardIs.pos rfl rfl) (fun hG => QV.neq rfl hG rfl rfl) ?_
    refine WL.g rfl rfl (GuardIs.pos rfl rfl) (fun hG => QV.move rfl hG) ?_
    refine WL.g rfl rfl (GuardIs.negC rfl rfl) (fun hG => QV.fieldAddr fd81_2 rfl rfl) ?_
    refine WL.g rfl rfl (GuardIs.negC rfl rfl) (fun hG => QV.fieldAddr fd79_1 rfl hG) ?_
    refine WL.g rfl rfl (GuardIs.negC rfl rfl) (fun hG => QV.load pl3 rfl hG (Own.cell 1 rfl rfl)) ?_
    refine WL.g rfl rfl (GuardIs.negC rfl rfl) (fun hG => QV.neq rfl hG rfl rfl) ?_
    refine WL.g rfl rfl (GuardIs.pos rfl rfl) (fun hG => QV.pickOr rfl hG rfl (fun h => andN hG h)) ?_
    refine WL.q rfl rfl rfl (QV.pickAnd rfl rfl rfl (fun h => h)) ?_
    refine WL.q rfl rfl rfl (QV.move rfl rfl) ?_
    refine WL.g rfl rfl (GuardIs.neg rfl rfl) (fun hG => QV.move rfl rfl) ?_
    refine WL.g rfl rfl (GuardIs.neg rfl rfl) (fun hG => QV.lenS Try.underlying76 rfl hG hF10.lenMap) ?_
    refine WL.g rfl rfl (GuardIs.neg rfl rfl) (fun hG => QV.lss rfl hG rfl rfl) ?_
    refine WL.g rfl rfl (GuardIs.neg rfl rfl) (fun hG => QV.move rfl hG) ?_
    refine WL.g rfl rfl (GuardIs.posC rfl rfl) (fun hG => QV.fieldAddr fd81_1 rfl rfl) ?_
    refine WL.g rfl rfl (GuardIs.posC rfl rfl) (fun hG => QV.fieldAddr fd79_0 rfl hG) ?_
    refine WL.g rfl rfl (GuardIs.posC rfl rfl) (fun hG => QV.load pl3 rfl hG (Own.cell 1 rfl rfl)) ?_
    refine WL.g rfl rfl (GuardIs.posC rfl rfl) (fun hG => QV.neq rfl hG rfl rfl) ?_
    refine WL.g rfl rfl (GuardIs.posC rfl rfl) (fun hG => QV.move rfl hG) ?_
    refine WL.g rfl rfl (GuardIs.negC rfl rfl) (fun hG => QV.fieldAddr fd81_1 rfl rfl) ?_
    refine WL.g rfl rfl (GuardIs.negC rfl rfl) (fun hG => QV.fieldAddr fd79_1 rfl hG) ?_
    refine WL.g rfl rfl (GuardIs.negC rfl rfl) (fun hG => QV.load pl3 rfl hG (Own.cell 1 rfl rfl)) ?_
    refine WL.g rfl rfl (GuardIs.negC rfl rfl) (fun hG => QV.neq rfl hG rfl rfl) ?_
    refine WL.g rfl rfl (GuardIs.posC rfl rfl) (fun hG => QV.pickOr rfl hG rfl (fun h => andN hG h)) ?_
    refine WL.g rfl rfl (GuardIs.neg rfl rfl) (fun hG => QV.pickAnd rfl hG rfl (fun h => andT hG h)) ?_
    refine WL.q rfl rfl rfl (QV.pickOr rfl rfl rfl (fun h => notF h)) ?_
    refine WL.nil ?_
    refine WQ.then ?_
    refine WC.cond rfl (fun h16 => ?_) (fun h16 => ?_)
    · skip
      have hm17 := br_t h16 hm13; clear hm13
      refine WC.seq ?_
      refine WC.region ?_
      refine WL.q rfl rfl rfl (QV.assign rfl rfl) ?_
      refine WL.nil ?_
      refine WQ.then ?_
      refine WC.ret ?_
      refine WQ.then_ret ?_
      obtain rfl := (eq_of_some hm17).symm
      refine WQ.ret1 rfl rfl (fun w hw => ?_)
      exact ⟨rfl, Own.kgrow (fun _ x => x) hw⟩
    · skip
      have hm18 := br_f h16 hm13; clear hm13
      refine WC.skip ?_
      refine WQ.then ?_
      refine WC.seq ?_
      refine WC.seq ?_
      refine WC.region ?_
      refine WL.q rfl rfl rfl (QV.fieldAddr fd81_0 rfl rfl) ?_
      refine WL.q rfl rfl rfl (QV.load pl3 rfl rfl (Own.cell 1 rfl rfl)) ?_
      refine WL.q rfl rfl rfl (QV.neq rfl rfl rfl rfl) ?_
      refine WL.q rfl rfl rfl (QV.move rfl rfl) ?_
      refine WL.g rfl rfl (GuardIs.pos rfl rfl) (fun hG => QV.fieldAddr fd81_6 rfl rfl) ?_
      refine WL.g rfl rfl (GuardIs.pos rfl rfl) (fun hG => QV.load pl2 rfl hG (Own.cell 1 rfl rfl)) ?_
      refine WL.g rfl rfl (GuardIs.pos rfl rfl) (fun hG => QV.neq rfl hG rfl rfl) ?_
      refine WL.q rfl rfl rfl (QV.pickAnd rfl rfl rfl (fun h => h)) ?_
      refine WL.nil ?_
      refine WQ.then ?_
      refine WC.cond rfl (fun h19 => ?_) (fun h19 => ?_)
      · skip
        have hm20 := br_t h19 hm18; clear hm18
        refine WC.seq ?_
        refine WC.region ?_
        refine WL.q rfl rfl rfl (QV.assign rfl rfl) ?_
        refine WL.nil ?_
        refine WQ.then ?_
        refine WC.ret ?_
        refine WQ.then_ret ?_
        obtain rfl := (eq_of_some hm20).symm
        refine WQ.ret1 rfl rfl (fun w hw => ?_)
        exact ⟨rfl, Own.kgrow (fun _ x => x) hw⟩
      · skip
        have hm21 := br_f h19 hm18; clear hm18
        refine WC.skip ?_
        refine WQ.then ?_
        refine WC.seq ?_
        refine WC.seq ?_
        refine WC.region ?_
        refine WL.q rfl rfl rfl (QV.fieldAddr fd81_0 rfl rfl) ?_
        refine WL.q rfl rfl rfl (QV.load pl3 rfl rfl (Own.cell 1 rfl rfl)) ?_
        refine WL.q rfl rfl rfl (QV.eql rfl rfl rfl rfl) ?_
        refine WL.q rfl rfl rfl (QV.move rfl rfl) ?_
        refine WL.g rfl rfl (GuardIs.neg rfl rfl) (fun hG => QV.fieldAddr fd81_0 rfl rfl) ?_
        refine WL.g rfl rfl (GuardIs.neg rfl rfl) (fun hG => QV.load pl3 rfl hG (Own.cell 1 rfl rfl)) ?_
        refine WL.g rfl rfl (GuardIs.neg rfl rfl) (fun hG => QV.eql rfl hG rfl rfl) ?_
        refine WL.q rfl rfl rfl (QV.pickOr rfl rfl rfl (fun h => notF h)) ?_
        refine WL.nil ?_
        refine WQ.then ?_
        refine WC.cond rfl (fun h22 => ?_) (fun h22 => ?_)
        · skip
          have hm23 := br_t h22 hm21; clear hm21
          refine WC.seq ?_
          refine WC.region ?_
          refine WL.q rfl rfl rfl (QV.fieldAddr fd81_3 rfl rfl) ?_
          refine WL.q rfl rfl rfl (QV.load pl3 rfl rfl (Own.cell 1 rfl rfl)) ?_
          refine WL.q rfl rfl rfl (QV.fieldAddr fd25_0 rfl rfl) ?_
          refine WL.q rfl rfl rfl (QV.load pl22 rfl rfl (Own.cell 2 rfl rfl)) ?_
          refine WL.q rfl rfl rfl (QV.lenS Try.underlying22 rfl rfl (h_l_logs.le hle10).lenMap) ?_
          obtain ⟨c24, hm25⟩ := ck_some hm23; clear hm23
          refine WL.q rfl rfl rfl (QV.sub rfl rfl rfl rfl c24) ?_
          obtain ⟨x26, hx27, hm28⟩ := bd_some hm25; clear hm25
          refine WL.q rfl rfl rfl (QV.call en76 (EvAll.cons rfl rfl (EvAll.cons rfl rfl (EvAll.cons rfl rfl EvAll.nil))) (fun w hw => have h := roundelayref2_Within_w w hx27 ; h)) ?_
          refine WL.q rfl rfl rfl (QV.move rfl rfl) ?_
          refine WL.g rfl rfl (GuardIs.pos rfl rfl) (fun hG => QV.fieldAddr fd81_4 rfl rfl) ?_
          refine WL.g rfl rfl (GuardIs.pos rfl rfl) (fun hG => QV.load pl3 rfl hG (Own.cell 1 rfl rfl)) ?_
          obtain ⟨x29, hx30, hm31⟩ := bdG_some hm28; clear hm28
          refine WL.g rfl rfl (GuardIs.pos rfl rfl) (fun hG => QV.call en76 (EvAll.cons rfl hG (EvAll.cons rfl rfl (EvAll.cons rfl rfl EvAll.nil))) (fun w hw => have h := roundelayref2_Within_w w (hx30 hG) ; h)) ?_
          refine WL.q rfl rfl rfl (QV.pickAnd rfl rfl rfl (fun h => h)) ?_
          refine WL.q rfl rfl rfl (QV.move rfl rfl) ?_
          refine WL.g rfl rfl (GuardIs.pos rfl rfl) (fun hG => QV.fieldAddr fd81_5 rfl rfl) ?_
          refine WL.g rfl rfl (GuardIs.pos rfl rfl) (fun hG => QV.load pl3 rfl hG (Own.cell 1 rfl rfl)) ?_
          obtain ⟨x32, hx33, hm34⟩ := bdG_some hm31; clear hm31
          refine WL.g rfl rfl (GuardIs.pos rfl rfl) (fun hG => QV.call en76 (EvAll.cons rfl hG (EvAll.cons rfl rfl (EvAll.cons rfl rfl EvAll.nil))) (fun w hw => have h := roundelayref2_Within_w w (hx33 hG) ; h)) ?_
          refine WL.q rfl rfl rfl (QV.pickAnd rfl rfl rfl (fun h => h)) ?_
          refine WL.q rfl rfl rfl (QV.assign rfl rfl) ?_
          refine WL.nil ?_
          refine WQ.then ?_
          refine WC.ret ?_
          refine WQ.then_ret ?_
          obtain rfl := (eq_of_some hm34).symm
          refine WQ.ret1 rfl rfl (fun w hw => ?_)
          exact ⟨rfl, Own.kgrow (fun _ x => x) hw⟩
        · skip
          have hm35 := br_f h22 hm21; clear hm21
          refine WC.skip ?_
          refine WQ.then ?_
          refine WC.seq ?_
          refine WC.seq ?_
          refine WC.region ?_
          refine WL.q rfl rfl rfl (QV.fieldAddr fd81_3 rfl rfl) ?_
          refine WL.q rfl rfl rfl (QV.load pl3 rfl rfl (Own.cell 1 rfl rfl)) ?_
          refine WL.q rfl rfl rfl (QV.neq rfl rfl rfl rfl) ?_
          refine WL.q rfl rfl rfl (QV.move rfl rfl) ?_
          refine WL.g rfl rfl (GuardIs.neg rfl rfl) (fun hG => QV.fieldAddr fd81_4 rfl rfl) ?_
          refine WL.g rfl rfl (GuardIs.neg rfl rfl) (fun hG => QV.load pl3 rfl hG (Own.cell 1 rfl rfl)) ?_
          refine WL.g rfl rfl (GuardIs.neg rfl rfl) (fun hG => QV.neq rfl hG rfl rfl) ?_
          refine WL.q rfl rfl rfl (QV.pickOr rfl rfl rfl (fun h => notF h)) ?_
          refine WL.q rfl rfl rfl (QV.move rfl rfl) ?_
          refine WL.g rfl rfl (GuardIs.neg rfl rfl) (fun hG => QV.fieldAddr fd81_5 rfl rfl) ?_
          refine WL.g rfl rfl (GuardIs.neg rfl rfl) (fun hG => QV.load pl3 rfl hG (Own.cell 1 rfl rfl)) ?_
          refine WL.g rfl rfl (GuardIs.neg rfl rfl) (fun hG => QV.neq rfl hG rfl rfl) ?_
          refine WL.q rfl rfl rfl (QV.pickOr rfl rfl rfl (fun h => notF h)) ?_
          refine WL.nil ?_
          refine WQ.then ?_
          refine WC.cond rfl (fun h36 => ?_) (fun h36 => ?_)
          · skip
            have hm37 := br_t h36 hm35; clear hm35
            refine WC.seq ?_
            refine WC.region ?_
            refine WL.q rfl rfl rfl (QV.assign rfl rfl) ?_
            refine WL.nil ?_
            refine WQ.then ?_
            refine WC.ret ?_
            refine WQ.then_ret ?_
            obtain rfl := (eq_of_some hm37).symm
            refine WQ.ret1 rfl rfl (fun w hw => ?_)
            exact ⟨rfl, Own.kgrow (fun _ x => x) hw⟩
          · skip
            have hm38 := br_f h36 hm35; clear hm35
            refine WC.skip ?_
            refine WQ.then ?_
            refine WC.seq ?_
            refine WC.region ?_
            refine WL.q rfl rfl rfl (QV.fieldAddr fd81_0 rfl rfl) ?_
            refine WL.q rfl rfl rfl (QV.load pl3 rfl rfl (Own.cell 1 rfl rfl)) ?_
            refine WL.q rfl rfl rfl (QV.eql rfl rfl rfl rfl) ?_
            refine WL.q rfl rfl rfl (QV.move rfl rfl) ?_
            refine WL.g rfl rfl (GuardIs.neg rfl rfl) (fun hG => QV.fieldAddr fd81_0 rfl rfl) ?_
            refine WL.g rfl rfl (GuardIs.neg rfl rfl) (fun hG => QV.load pl3 rfl hG (Own.cell 1 rfl rfl)) ?_
            refine WL.g rfl rfl (GuardIs.neg rfl rfl) (fun hG => QV.eql rfl hG rfl rfl) ?_
            refine WL.q rfl rfl rfl (QV.pickOr rfl rfl rfl (fun h => notF h)) ?_
            refine WL.q rfl rfl rfl (QV.move rfl rfl) ?_
            refine WL.g rfl rfl (GuardIs.neg rfl rfl) (fun hG => QV.fieldAddr fd81_0 rfl rfl) ?_
            refine WL.g rfl rfl (GuardIs.neg rfl rfl) (fun hG => QV.load pl3 rfl hG (Own.cell 1 rfl rfl)) ?_
            obtain ⟨x39, hx40, hm41⟩ := bdG_some hm38; clear hm38
            refine WL.g rfl rfl (GuardIs.neg rfl rfl) (fun hG => QV.call en76 (EvAll.cons rfl hG (EvAll.cons rfl rfl (EvAll.cons rfl rfl EvAll.nil))) (fun w hw => have h := roundelayref2_Within_w w (hx40 hG) ; h)) ?_
            refine WL.q rfl rfl rfl (QV.pickOr rfl rfl rfl (fun h => notF h)) ?_
            refine WL.q rfl rfl rfl (QV.assign rfl rfl) ?_
            refine WL.nil ?_
            refine WQ.then ?_
            refine WC.ret ?_
            obtain rfl := (eq_of_some hm41).symm
            refine WQ.ret1 rfl rfl (fun w hw => ?_)
            exact ⟨rfl, Own.kgrow (fun _ x => x) hw⟩
  · skip
    rintro i7_1 m42 hI43
    obtain ⟨m44, s45, rfl, hm46, hn47⟩ := iter_step hI43; clear hI43; unfold roundelayref2_stmt_L0 at hm46
    refine WC.seq ?_
    refine WC.seq ?_
    refine WC.region ?_
    refine WL.q rfl rfl rfl (QV.move rfl rfl) ?_
    refine WL.q rfl rfl rfl (QV.move rfl rfl) ?_
    refine WL.q rfl rfl rfl (QV.lenS Try.underlying76 rfl rfl hF10.lenMap) ?_
    refine WL.q rfl rfl rfl (QV.lss rfl rfl rfl rfl) ?_
    refine WL.nil ?_
    refine WQ.then ?_
    refine WC.cond rfl (fun h48 => ?_) (fun h48 => ?_)
    · skip
      have hm49 := br_t h48 hm46; clear hm46
      refine WC.skip ?_
      refine WQ.then ?_
      refine WC.seq ?_
      refine WC.block ?_
      refine WC.seq ?_
      refine WC.region ?_
      refine WL.q rfl rfl rfl (QV.fieldAddr fd25_1 rfl rfl) ?_
      refine WL.q rfl rfl rfl (QV.load pl23 rfl rfl (Own.cell 2 rfl rfl)) ?_
      refine WL.q rfl rfl rfl (QV.lenS Try.underlying23 rfl rfl (h_l_body.le hle10).lenMap) ?_
      obtain ⟨c50, hm51⟩ := ck_some hm49; clear hm49
      refine WL.q rfl rfl rfl (QV.sub rfl rfl rfl rfl c50) ?_
      refine WL.q rfl rfl rfl (QV.assign rfl rfl) ?_
      refine WL.nil ?_
      refine WQ.then ?_
      refine WC.seq ?_
      refine WC.seq ?_
      refine WC.region ?_
      refine WL.q rfl rfl rfl (QV.move rfl rfl) ?_
      refine WL.q rfl rfl rfl (QV.move rfl rfl) ?_
      obtain ⟨c52, hm53⟩ := ck_some hm51; clear hm51
      obtain ⟨p54, hp55⟩ := hF10.lenMap.ix (sz := 2) ln_len c52
      refine WL.q rfl rfl rfl (QV.indexSlice sl76 rfl rfl rfl rfl hp55) ?_
      refine WL.q rfl rfl rfl (QV.fieldAddr fd79_1 rfl rfl) ?_
      refine WL.q rfl rfl rfl (QV.load pl3 rfl rfl (fun w hw => CellsAt.one 1 (((Own.karr 0 rfl hk hF10) w hw).ele hp55 c52) rfl)) ?_
      refine WL.q rfl rfl rfl (QV.eql rfl rfl rfl rfl) ?_
      refine WL.nil ?_
      refine WQ.then ?_
      refine WC.cond rfl (fun h56 => ?_) (fun h56 => ?_)
      · skip
        have hm57 := br_t h56 hm53; clear hm53
        refine WC.region ?_
        refine WL.q rfl rfl rfl (QV.move rfl rfl) ?_
        obtain ⟨c58, hm59⟩ := ck_some hm57; clear hm57
        refine WL.q rfl rfl rfl (QV.sub rfl rfl rfl rfl c58) ?_
        refine WL.q rfl rfl rfl (QV.assign rfl rfl) ?_
        refine WL.nil ?_
        refine WQ.then ?_
        refine WC.seq ?_
        refine WC.region ?_
        refine WL.q rfl rfl rfl (QV.move rfl rfl) ?_
        refine WL.q rfl rfl rfl (QV.move rfl rfl) ?_
        obtain ⟨c60, hm61⟩ := ck_some hm59; clear hm59
        obtain ⟨p62, hp63⟩ := hF10.lenMap.ix (sz := 2) ln_len c60
        refine WL.q rfl rfl rfl (QV.indexSlice sl76 rfl rfl rfl rfl hp63) ?_
        refine WL.q rfl rfl rfl (QV.fieldAddr fd79_1 rfl rfl) ?_
        refine WL.q rfl rfl rfl (QV.load pl3 rfl rfl (fun w hw => CellsAt.one 1 (((Own.karr 0 rfl hk hF10) w hw).ele hp63 c60) rfl)) ?_
        obtain ⟨x64, hx65, hm66⟩ := bd_some hm61; clear hm61
        refine WL.q rfl rfl rfl (QV.call en76 (EvAll.cons rfl rfl (EvAll.cons rfl rfl (EvAll.cons rfl rfl EvAll.nil))) (fun w hw => have h := roundelayref2_Within_w w hx65 ; h)) ?_
        refine WL.q rfl rfl rfl (QV.not rfl rfl) ?_
        refine WL.q rfl rfl rfl (QV.move rfl rfl) ?_
        refine WL.g rfl rfl (GuardIs.neg rfl rfl) (fun hG => QV.move rfl rfl) ?_
        refine WL.g rfl rfl (GuardIs.neg rfl rfl) (fun hG => QV.move rfl rfl) ?_
        obtain ⟨c67, hm68⟩ := ck_some hm66; clear hm66
        obtain ⟨p69, hp70⟩ := hF10.lenMap.ixG (sz := 2) ln_len c67
        refine WL.g rfl rfl (GuardIs.neg rfl rfl) (fun hG => QV.indexSlice sl76 rfl hG rfl hG (hp70 hG)) ?_
        refine WL.g rfl rfl (GuardIs.neg rfl rfl) (fun hG => QV.fieldAddr fd79_0 rfl hG) ?_
        refine WL.g rfl rfl (GuardIs.neg rfl rfl) (fun hG => QV.load pl3 rfl hG (fun w hw => CellsAt.one 0 (((Own.karr 0 rfl hk hF10) w hw).ele (hp70 hG) (c67 hG)) rfl)) ?_
        refine WL.g rfl rfl (GuardIs.neg rfl rfl) (fun hG => QV.move rfl rfl) ?_
        obtain ⟨x71, hx72, hm73⟩ := bdG_some hm68; clear hm68
        refine WL.g rfl rfl (GuardIs.neg rfl rfl) (fun hG => QV.call en76 (EvAll.cons rfl hG (EvAll.cons rfl rfl (EvAll.cons rfl hG EvAll.nil))) (fun w hw => have h := roundelayref2_Within_w w (hx72 hG) ; h)) ?_
        refine WL.g rfl rfl (GuardIs.neg rfl rfl) (fun hG => QV.not rfl hG) ?_
        refine WL.q rfl rfl rfl (QV.pickOr rfl rfl rfl (fun h => notF h)) ?_
        refine WL.nil ?_
        refine WQ.then ?_
        refine WC.cond rfl (fun h74 => ?_) (fun h74 => ?_)
        · skip
          have hm75 := br_t h74 hm73; clear hm73
          refine WC.seq ?_
          refine WC.region ?_
          refine WL.q rfl rfl rfl (QV.assign rfl rfl) ?_
          refine WL.nil ?_
          refine WQ.then ?_
          refine WC.ret ?_
          refine WQ.block_ret ?_
          refine WQ.then_ret ?_
          refine WQ.then_ret ?_
          refine WQ.block_ret ?_
          refine WQ.then_ret ?_
          refine WQ.then_ret ?_
          obtain rfl := up_ret hm75 hn47
          obtain rfl := (eq_of_some hm13).symm
          refine WQ.ret1 rfl rfl (fun w hw => ?_)
          exact ⟨rfl, Own.kgrow (fun _ x => x) hw⟩
        · skip
          have hm76 := br_f h74 hm73; clear hm73
          refine WC.skip ?_
          refine WQ.block ?_
          refine WQ.then ?_
          refine WC.region ?_
          refine WL.q rfl rfl rfl (QV.move rfl rfl) ?_
          obtain ⟨c77, hm78⟩ := ck_some hm76; clear hm76
          refine WL.q rfl rfl rfl (QV.add rfl rfl rfl rfl c77) ?_
          refine WL.q rfl rfl rfl (QV.assign rfl rfl) ?_
          refine WL.nil ?_
          exact WQ.again1 (i7_1 + 1) m44 (up_next hm78 hn47) (Nat.lt_succ_self _) ⟨rfl, rfl, rfl, rfl, rfl, trivial⟩ (fun w hw => hw.pick [0, 1, 2] (by decide))
      · skip
        have hm79 := br_f h56 hm53; clear hm53
        refine WC.skip ?_
        refine WQ.then ?_
        refine WC.seq ?_
        refine WC.region ?_
        refine WL.q rfl rfl rfl (QV.move rfl rfl) ?_
        refine WL.q rfl rfl rfl (QV.move rfl rfl) ?_
        obtain ⟨c80, hm81⟩ := ck_some hm79; clear hm79
        obtain ⟨p82, hp83⟩ := hF10.lenMap.ix (sz := 2) ln_len c80
        refine WL.q rfl rfl rfl (QV.indexSlice sl76 rfl rfl rfl rfl hp83) ?_
        refine WL.q rfl rfl rfl (QV.fieldAddr fd79_1 rfl rfl) ?_
        refine WL.q rfl rfl rfl (QV.load pl3 rfl rfl (fun w hw => CellsAt.one 1 (((Own.karr 0 rfl hk hF10) w hw).ele hp83 c80) rfl)) ?_
        obtain ⟨x84, hx85, hm86⟩ := bd_some hm81; clear hm81
        refine WL.q rfl rfl rfl (QV.call en76 (EvAll.cons rfl rfl (EvAll.cons rfl rfl (EvAll.cons rfl rfl EvAll.nil))) (fun w hw => have h := roundelayref2_Within_w w hx85 ; h)) ?_
        refine WL.q rfl rfl rfl (QV.not rfl rfl) ?_
        refine WL.q rfl rfl rfl (QV.move rfl rfl) ?_
        refine WL.g rfl rfl (GuardIs.neg rfl rfl) (fun hG => QV.move rfl rfl) ?_
        refine WL.g rfl rfl (GuardIs.neg rfl rfl) (fun hG => QV.move rfl rfl) ?_
        obtain ⟨c87, hm88⟩ := ck_some hm86; clear hm86
        obtain ⟨p89, hp90⟩ := hF10.lenMap.ixG (sz := 2) ln_len c87
        refine WL.g rfl rfl (GuardIs.neg rfl rfl) (fun hG => QV.indexSlice sl76 rfl hG rfl hG (hp90 hG)) ?_
        refine WL.g rfl rfl (GuardIs.neg rfl rfl) (fun hG => QV.fieldAddr fd79_0 rfl hG) ?_
        refine WL.g rfl rfl (GuardIs.neg rfl rfl) (fun hG => QV.load pl3 rfl hG (fun w hw => CellsAt.one 0 (((Own.karr 0 rfl hk hF10) w hw).ele (hp90 hG) (c87 hG)) rfl)) ?_
        refine WL.g rfl rfl (GuardIs.neg rfl rfl) (fun hG => QV.move rfl rfl) ?_
        obtain ⟨x91, hx92, hm93⟩ := bdG_some hm88; clear hm88
        refine WL.g rfl rfl (GuardIs.neg rfl rfl) (fun hG => QV.call en76 (EvAll.cons rfl hG (EvAll.cons rfl rfl (EvAll.cons rfl hG EvAll.nil))) (fun w hw => have h := roundelayref2_Within_w w (hx92 hG) ; h)) ?_
        refine WL.g rfl rfl (GuardIs.neg rfl rfl) (fun hG => QV.not rfl hG) ?_
        refine WL.q rfl rfl rfl (QV.pickOr rfl rfl rfl (fun h => notF h)) ?_
        refine WL.nil ?_
        refine WQ.then ?_
        refine WC.cond rfl (fun h94 => ?_) (fun h94 => ?_)
        · skip
          have hm95 := br_t h94 hm93; clear hm93
          refine WC.seq ?_
          refine WC.region ?_
          refine WL.q rfl rfl rfl (QV.assign rfl rfl) ?_
          refine WL.nil ?_
          refine WQ.then ?_
          refine WC.ret ?_
          refine WQ.block_ret ?_
          refine WQ.then_ret ?_
          refine WQ.then_ret ?_
          refine WQ.block_ret ?_
          refine WQ.then_ret ?_
          refine WQ.then_ret ?_
          obtain rfl := up_ret hm95 hn47
          obtain rfl := (eq_of_some hm13).symm
          refine WQ.ret1 rfl rfl (fun w hw => ?_)
          exact ⟨rfl, Own.kgrow (fun _ x => x) hw⟩
        · skip
          have hm96 := br_f h94 hm93; clear hm93
          refine WC.skip ?_
          refine WQ.block ?_
          refine WQ.then ?_
          refine WC.region ?_
          refine WL.q rfl rfl rfl (QV.move rfl rfl) ?_
          obtain ⟨c97, hm98⟩ := ck_some hm96; clear hm96
          refine WL.q rfl rfl rfl (QV.add rfl rfl rfl rfl c97) ?_
          refine WL.q rfl rfl rfl (QV.assign rfl rfl) ?_
          refine WL.nil ?_
          exact WQ.again1 (i7_1 + 1) m44 (up_next hm98 hn47) (Nat.lt_succ_self _) ⟨rfl, rfl, rfl, rfl, rfl, trivial⟩ (fun w hw => hw.pick [0, 1, 2] (by decide))
    · skip
      have hm99 := br_f h48 hm46; clear hm46
      refine WC.exit ?_
      refine WQ.then_exit ?_
      refine WQ.then_exit ?_
      refine WQ.block_exit ?_
      exact WQ.out1 i7_1 (up_brk hm99 hn47) ⟨rfl, rfl, rfl, rfl, rfl, trivial⟩ (fun w hw => hw.pick [0, 1, 2] (by decide))

set_option maxRecDepth 8000 in
theorem roundelayref2_May_w {v_l_logs : Value} {v_l_body : Value} {v_l_outs : Value} {l : Lp} {r : Bool} (w : World) (hm : roundelayref2_May_m l = some r) (h_l_logs : Arr w v_l_logs 1 (l.logs.map icell)) (h_l_body : Arr w v_l_body 9 (l.body.map Stm.cells)) (h_l_outs : Arr w v_l_outs 1 (l.outs.map icell)) : Calls Try.prog 43 #[.agg #[v_l_logs, v_l_body, v_l_outs]] w (fun e w' => e = .returned (.bool r) ∧ Grow w w') := by
  unfold roundelayref2_May_m at hm
  have hk := Base.rfl (w := w)
  refine calls_of_WC (n := 79) (args := [.agg #[v_l_logs, v_l_body, v_l_outs]]) Try.func43 rfl rfl (Nat.le_of_ble_eq_true rfl) ?_ (Own.startK hk (Own.start w))
  refine WC.seq ?_
  refine WC.region ?_
  refine WL.effect rfl ?_
  refine (EV.boxAgg (by decide) rfl rfl (fun b1 => ?_))
  refine WL.q rfl rfl rfl (QV.assign rfl rfl) ?_
  refine WL.nil ?_
  refine WQ.then ?_
  refine WC.seq ?_
  refine WC.region ?_
  refine WL.q rfl rfl rfl (QV.fieldAddr fd25_1 rfl rfl) ?_
  refine WL.q rfl rfl rfl (QV.load pl23 rfl rfl (Own.cell 0 rfl rfl)) ?_
  refine WL.q rfl rfl rfl (QV.lenS Try.underlying23 rfl rfl h_l_body.lenMap) ?_
  refine WL.q rfl rfl rfl (QV.assign rfl rfl) ?_
  refine WL.nil ?_
  refine WQ.then ?_
  refine WC.seq ?_
  refine WC.seq ?_
  refine WC.region ?_
  refine WL.q rfl rfl rfl (QV.fieldAddr fd25_0 rfl rfl) ?_
  refine WL.q rfl rfl rfl (QV.load pl22 rfl rfl (Own.cell 0 rfl rfl)) ?_
  refine WL.q rfl rfl rfl (QV.lenS Try.underlying22 rfl rfl h_l_logs.lenMap) ?_
  refine WL.q rfl rfl rfl (QV.gtr rfl rfl rfl rfl) ?_
  refine WL.q rfl rfl rfl (QV.move rfl rfl) ?_
  refine WL.g rfl rfl (GuardIs.neg rfl rfl) (fun hG => QV.move rfl rfl) ?_
  refine WL.g rfl rfl (GuardIs.neg rfl rfl) (fun hG => QV.lss rfl hG rfl rfl) ?_
  refine WL.q rfl rfl rfl (QV.pickOr rfl rfl rfl (fun h => notF h)) ?_
  refine WL.q rfl rfl rfl (QV.move rfl rfl) ?_
  refine WL.g rfl rfl (GuardIs.neg rfl rfl) (fun hG => QV.move rfl rfl) ?_
  refine WL.g rfl rfl (GuardIs.neg rfl rfl) (fun hG => QV.gtr rfl hG rfl rfl) ?_
  refine WL.q rfl rfl rfl (QV.pickOr rfl rfl rfl (fun h => notF h)) ?_
  refine WL.nil ?_
  refine WQ.then ?_
  refine WC.cond rfl (fun h2 => ?_) (fun h2 => ?_)
  · skip
    have hm3 := br_t h2 hm; clear hm
    refine WC.seq ?_
    refine WC.region ?_
    refine WL.q rfl rfl rfl (QV.assign rfl rfl) ?_
    refine WL.nil ?_
    refine WQ.then ?_
    refine WC.ret ?_
    refine WQ.then_ret ?_
    obtain rfl := (eq_of_some hm3).symm
    refine WQ.ret1 rfl rfl (fun w hw => ?_)
    exact ⟨rfl, Own.kgrow (fun _ x => x) hw⟩
  · skip
    have hm4 := br_f h2 hm; clear hm
    refine WC.skip ?_
    refine WQ.then ?_
    refine WC.seq ?_
    refine WC.seq ?_
    refine WC.region ?_
    refine WL.q rfl rfl rfl (QV.assign rfl rfl) ?_
    refine WL.nil ?_
    refine WQ.then ?_
    obtain ⟨o5, ho6, hm7⟩ := bd_some hm4; clear hm4; obtain ⟨n8, ho9⟩ := lp_some ho6
    refine WC.bloop1 (H2 := [blk b1 [v_l_logs, v_l_body, v_l_outs] 25, kn noM w.heap.size w w]) (τ := [(1, (true, _)), (3, (true, _))]) (fun (i4_1 : Int) => [(4, (true, .int .i64 i4_1))]) (fun (i4_1 : Int) => []) (fun (i4_1 : Int) (m : Nat) => iter (roundelayref2_May_L0 l) m i4_1 = some o5) (fun (i4_1 : Int) => o5 = .go i4_1) 0 n8 ho9 ⟨rfl, rfl, rfl, trivial⟩ (fun w hw => hw.pick [0, 1] (by decide)) ?_ ?_
    · skip
      rintro i4_1 rfl
      refine WQ.then ?_
      refine WC.seq ?_
      refine WC.seq ?_
      refine WC.region ?_
      refine WL.q rfl rfl rfl (QV.assign rfl rfl) ?_
      refine WL.nil ?_
      refine WQ.then ?_
      obtain ⟨o10, ho11, hm12⟩ := bd_some hm7; clear hm7; obtain ⟨n13, ho14⟩ := lp_some ho11
      refine WC.bloop1 (H2 := [blk b1 [v_l_logs, v_l_body, v_l_outs] 25, kn noM w.heap.size w w]) (τ := [(1, (true, _)), (3, (true, _))]) (fun (i5_2 : Int) => [(5, (true, .int .i64 i5_2))]) (fun (i5_2 : Int) => []) (fun (i5_2 : Int) (m : Nat) => iter (roundelayref2_May_L2 l) m i5_2 = some o10) (fun (i5_2 : Int) => o10 = .go i5_2) 0 n13 ho14 ⟨rfl, rfl, rfl, trivial⟩ (fun w hw => hw.pick [0, 1] (by decide)) ?_ ?_
      · skip
        rintro i5_2 rfl
        refine WQ.then ?_
        refine WC.seq ?_
        refine WC.seq ?_
        refine WC.region ?_
        refine WL.q rfl rfl rfl (QV.assign rfl rfl) ?_
        refine WL.nil ?_
        refine WQ.then ?_
        obtain ⟨o15, ho16, hm17⟩ := bd_some hm12; clear hm12; obtain ⟨n18, ho19⟩ := lp_some ho16
        refine WC.bloop1 (H2 := [blk b1 [v_l_logs, v_l_body, v_l_outs] 25, kn noM w.heap.size w w]) (τ := [(1, (true, _)), (3, (true, _))]) (fun (k6_3 : Int) => [(6, (true, .int .i64 k6_3))]) (fun (k6_3 : Int) => []) (fun (k6_3 : Int) (m : Nat) => iter (roundelayref2_May_L4 l) m k6_3 = some o15) (fun (k6_3 : Int) => o15 = .go k6_3) 0 n18 ho19 ⟨rfl, rfl, rfl, trivial⟩ (fun w hw => hw.pick [0, 1] (by decide)) ?_ ?_
        · skip
          rintro k6_3 rfl
          refine WQ.then ?_
          refine WC.seq ?_
          refine WC.region ?_
          refine WL.q rfl rfl rfl (QV.assign rfl rfl) ?_
          refine WL.nil ?_
          refine WQ.then ?_
          refine WC.ret ?_
          obtain rfl := (eq_of_some hm17).symm
          refine WQ.ret1 rfl rfl (fun w hw => ?_)
          exact ⟨rfl, Own.kgrow (fun _ x => x) hw⟩
        · skip
          rintro k6_3 m20 hI21
          obtain ⟨m22, s23, rfl, hm24, hn25⟩ := iter_step hI21; clear hI21; unfold roundelayref2_May_L4 at hm24
          refine WC.seq ?_
          refine WC.seq ?_
          refine WC.region ?_
          refine WL.q rfl rfl rfl (QV.move rfl rfl) ?_
          refine WL.q rfl rfl rfl (QV.move rfl rfl) ?_
          refine WL.q rfl rfl rfl (QV.lss rfl rfl rfl rfl) ?_
          refine WL.nil ?_
          refine WQ.then ?_
          refine WC.cond rfl (fun h26 => ?_) (fun h26 => ?_)
          · skip
            have hm27 := br_t h26 hm24; clear hm24
            refine WC.skip ?_
            refine WQ.then ?_
            refine WC.seq ?_
            refine WC.block ?_
            refine WC.seq ?_
            refine WC.region ?_
            refine WL.q rfl rfl rfl (QV.loadAgg ag25 rfl rfl rfl (Own.cellsBlk 0 rfl)) ?_
            refine WL.q rfl rfl rfl (QV.move rfl rfl) ?_
            obtain ⟨x28, hx29, hm30⟩ := bd_some hm27; clear hm27
            refine WL.q rfl rfl rfl (QV.call en77 (EvAll.cons rfl rfl (EvAll.cons rfl rfl EvAll.nil)) (fun w hw => have h := roundelayref2_stmt_w w hx29 ((Own.karr 1 rfl hk h_l_logs) w hw) ((Own.karr 1 rfl hk h_l_body) w hw) ((Own.karr 1 rfl hk h_l_outs) w hw); h)) ?_
            refine WL.q rfl rfl rfl (QV.not rfl rfl) ?_
            refine WL.nil ?_
            refine WQ.then ?_
            refine WC.cond rfl (fun h31 => ?_) (fun h31 => ?_)
            · skip
              have hm32 := br_t h31 hm30; clear hm30
              refine WC.seq ?_
              refine WC.region ?_
              refine WL.q rfl rfl rfl (QV.assign rfl rfl) ?_
              refine WL.nil ?_
              refine WQ.then ?_
              refine WC.ret ?_
              refine WQ.block_ret ?_
              refine WQ.then_ret ?_
              refine WQ.then_ret ?_
              refine WQ.block_ret ?_
              refine WQ.then_ret ?_
              refine WQ.then_ret ?_
              obtain rfl := up_ret hm32 hn25
              obtain rfl := (eq_of_some hm17).symm
              refine WQ.ret1 rfl rfl (fun w hw => ?_)
              exact ⟨rfl, Own.kgrow (fun _ x => x) hw⟩
            · skip
              have hm33 := br_f h31 hm30; clear hm30
              refine WC.skip ?_
              refine WQ.block ?_
              refine WQ.then ?_
              refine WC.region ?_
              refine WL.q rfl rfl rfl (QV.move rfl rfl) ?_
              obtain ⟨c34, hm35⟩ := ck_some hm33; clear hm33
              refine WL.q rfl rfl rfl (QV.add rfl rfl rfl rfl c34) ?_
              refine WL.q rfl rfl rfl (QV.assign rfl rfl) ?_
              refine WL.nil ?_
              exact WQ.again1 (k6_3 + 1) m22 (up_next hm35 hn25) (Nat.lt_succ_self _) ⟨rfl, rfl, rfl, trivial⟩ (fun w hw => hw.pick [0, 1] (by decide))
          · skip
            have hm36 := br_f h26 hm24; clear hm24
            refine WC.exit ?_
            refine WQ.then_exit ?_
            refine WQ.then_exit ?_
            refine WQ.block_exit ?_
            exact WQ.out1 k6_3 (up_brk hm36 hn25) ⟨rfl, rfl, rfl, trivial⟩ (fun w hw => hw.pick [0, 1] (by decide))
      · skip
        rintro i5_2 m37 hI38
        obtain ⟨m39, s40, rfl, hm41, hn42⟩ := iter_step hI38; clear hI38; unfold roundelayref2_May_L2 at hm41
        refine WC.seq ?_
        refine WC.seq ?_
        refine WC.region ?_
        refine WL.q rfl rfl rfl (QV.move rfl rfl) ?_
        refine WL.q rfl rfl rfl (QV.fieldAddr fd25_2 rfl rfl) ?_
        refine WL.q rfl rfl rfl (QV.load pl22 rfl rfl (Own.cell 0 rfl rfl)) ?_
        refine WL.q rfl rfl rfl (QV.lenS Try.underlying22 rfl rfl h_l_outs.lenMap) ?_
        refine WL.q rfl rfl rfl (QV.lss rfl rfl rfl rfl) ?_
        refine WL.nil ?_
        refine WQ.then ?_
        refine WC.cond rfl (fun h43 => ?_) (fun h43 => ?_)
        · skip
          have hm44 := br_t h43 hm41; clear hm41
          refine WC.skip ?_
          refine WQ.then ?_
          refine WC.seq ?_
          refine WC.block ?_
          refine WC.seq ?_
          refine WC.dr (m := 27) (S := Own noM w [kn noM w.heap.size w w, blk b1 [v_l_logs, v_l_body, v_l_outs] 25]) (by kernel_rfl) (by kernel_rfl) (fun w hw => hw.pick [1, 0] (by decide)) ?_
          refine WD.q 0 rfl (by kernel_rfl) rfl rfl rfl (QV.fieldAddr fd25_2 rfl rfl) ?_
          refine WD.q 1 rfl (by kernel_rfl) rfl rfl rfl (QV.load pl22 rfl rfl (Own.cell 1 rfl rfl)) ?_
          refine WD.q 2 rfl (by kernel_rfl) rfl rfl rfl (QV.move rfl rfl) ?_
          obtain ⟨c45, hm46⟩ := ck_some hm44; clear hm44
          obtain ⟨p47, hp48⟩ := h_l_outs.lenMap.ix (sz := 1) ln_len c45
          refine WD.q 3 rfl (by kernel_rfl) rfl rfl rfl (QV.indexSlice sl22 rfl rfl rfl rfl hp48) ?_
          refine WD.q 4 rfl (by kernel_rfl) rfl rfl rfl (QV.load pl3 rfl rfl (fun w hw => CellsAt.one 0 (((Own.karr 0 rfl hk h_l_outs) w hw).ele hp48 c45) rfl)) ?_
          refine WD.q 5 rfl (by kernel_rfl) rfl rfl rfl (QV.move rfl rfl) ?_
          obtain ⟨c49, hm50⟩ := ck_some hm46; clear hm46
          refine WD.q 6 rfl (by kernel_rfl) rfl rfl rfl (QV.sub rfl rfl rfl rfl c49) ?_
          obtain ⟨x51, hx52, hm53⟩ := bd_some hm50; clear hm50
          refine WD.q 7 rfl (by kernel_rfl) rfl rfl rfl (QV.call en76 (EvAll.cons rfl rfl (EvAll.cons rfl rfl (EvAll.cons rfl rfl EvAll.nil))) (fun w hw => have h := roundelayref2_Within_w w hx52 ; h)) ?_
          refine WD.q 8 rfl (by kernel_rfl) rfl rfl rfl (QV.not rfl rfl) ?_
          refine WD.q 9 rfl (by kernel_rfl) rfl rfl rfl (QV.move rfl rfl) ?_
          refine WD.g 10 rfl (by kernel_rfl) rfl rfl (GuardIs.neg rfl rfl) (fun hG => QV.move rfl rfl) ?_
          refine WD.g 11 rfl (by kernel_rfl) rfl rfl (GuardIs.neg rfl rfl) (fun hG => QV.gtr rfl hG rfl rfl) ?_
          refine WD.g 12 rfl (by kernel_rfl) rfl rfl (GuardIs.neg rfl rfl) (fun hG => QV.move rfl hG) ?_
          refine WD.g 13 rfl (by kernel_rfl) rfl rfl (GuardIs.posC rfl rfl) (fun hG => QV.fieldAddr fd25_2 rfl rfl) ?_
          refine WD.g 14 rfl (by kernel_rfl) rfl rfl (GuardIs.posC rfl rfl) (fun hG => QV.load pl22 rfl hG (Own.cell 1 rfl rfl)) ?_
          refine WD.g 15 rfl (by kernel_rfl) rfl rfl (GuardIs.posC rfl rfl) (fun hG => QV.move rfl rfl) ?_
          obtain ⟨c54, hm55⟩ := ck_some hm53; clear hm53
          obtain ⟨p56, hp57⟩ := h_l_outs.lenMap.ixG (sz := 1) ln_len c54
          refine WD.g 16 rfl (by kernel_rfl) rfl rfl (GuardIs.posC rfl rfl) (fun hG => QV.indexSlice sl22 rfl hG rfl hG (hp57 hG)) ?_
          refine WD.g 17 rfl (by kernel_rfl) rfl rfl (GuardIs.posC rfl rfl) (fun hG => QV.load pl3 rfl hG (fun w hw => CellsAt.one 0 (((Own.karr 0 rfl hk h_l_outs) w hw).ele (hp57 hG) (c54 hG)) rfl)) ?_
          refine WD.g 18 rfl (by kernel_rfl) rfl rfl (GuardIs.posC rfl rfl) (fun hG => QV.fieldAddr fd25_2 rfl rfl) ?_
          refine WD.g 19 rfl (by kernel_rfl) rfl rfl (GuardIs.posC rfl rfl) (fun hG => QV.load pl22 rfl hG (Own.cell 1 rfl rfl)) ?_
          refine WD.g 20 rfl (by kernel_rfl) rfl rfl (GuardIs.posC rfl rfl) (fun hG => QV.move rfl rfl) ?_
          obtain ⟨c58, hm59⟩ := ck_some hm55; clear hm55
          refine WD.g 21 rfl (by kernel_rfl) rfl rfl (GuardIs.posC rfl rfl) (fun hG => QV.sub rfl hG rfl rfl (c58 hG)) ?_
          obtain ⟨c60, hm61⟩ := ck_some hm59; clear hm59
          obtain ⟨p62, hp63⟩ := h_l_outs.lenMap.ixG (sz := 1) ln_len c60
          refine WD.g 22 rfl (by kernel_rfl) rfl rfl (GuardIs.posC rfl rfl) (fun hG => QV.indexSlice sl22 rfl hG rfl hG (hp63 hG)) ?_
          refine WD.g 23 rfl (by kernel_rfl) rfl rfl (GuardIs.posC rfl rfl) (fun hG => QV.load pl3 rfl hG (fun w hw => CellsAt.one 0 (((Own.karr 0 rfl hk h_l_outs) w hw).ele (hp63 hG) (c60 hG)) rfl)) ?_
          refine WD.g 24 rfl (by kernel_rfl) rfl rfl (GuardIs.posC rfl rfl) (fun hG => QV.leq rfl hG rfl hG) ?_
          refine WD.g 25 rfl (by kernel_rfl) rfl rfl (GuardIs.neg rfl rfl) (fun hG => QV.pickAnd rfl hG rfl (fun h => andT hG h)) ?_
          refine WD.q 26 rfl (by kernel_rfl) rfl rfl rfl (QV.pickOr rfl rfl rfl (fun h => notF h)) ?_
          refine WD.e (by kernel_rfl) ?_
          refine WQ.then ?_
          refine WC.cond rfl (fun h64 => ?_) (fun h64 => ?_)
          · skip
            have hm65 := br_t h64 hm61; clear hm61
            refine WC.seq ?_
            refine WC.region ?_
            refine WL.q rfl rfl rfl (QV.assign rfl rfl) ?_
            refine WL.nil ?_
            refine WQ.then ?_
            refine WC.ret ?_
            refine WQ.block_ret ?_
            refine WQ.then_ret ?_
            refine WQ.then_ret ?_
            refine WQ.block_ret ?_
            refine WQ.then_ret ?_
            refine WQ.then_ret ?_
            obtain rfl := up_ret hm65 hn42
            obtain rfl := (eq_of_some hm12).symm
            refine WQ.ret1 rfl rfl (fun w hw => ?_)
            exact ⟨rfl, Own.kgrow (fun _ x => x) hw⟩
          · skip
            have hm66 := br_f h64 hm61; clear hm61
            refine WC.skip ?_
            refine WQ.block ?_
            refine WQ.then ?_
            refine WC.region ?_
            refine WL.q rfl rfl rfl (QV.move rfl rfl) ?_
            obtain ⟨c67, hm68⟩ := ck_some hm66; clear hm66
            refine WL.q rfl rfl rfl (QV.add rfl rfl rfl rfl c67) ?_
            refine WL.q rfl rfl rfl (QV.assign rfl rfl) ?_
            refine WL.nil ?_
            exact WQ.again1 (i5_2 + 1) m39 (up_next hm68 hn42) (Nat.lt_succ_self _) ⟨rfl, rfl, rfl, trivial⟩ (fun w hw => hw.pick [0, 1] (by decide))
        · skip
          have hm69 := br_f h43 hm41; clear hm41
          refine WC.exit ?_
          refine WQ.then_exit ?_
          refine WQ.then_exit ?_
          refine WQ.block_exit ?_
          exact WQ.out1 i5_2 (up_brk hm69 hn42) ⟨rfl, rfl, rfl, trivial⟩ (fun w hw => hw.pick [0, 1] (by decide))
    · skip
      rintro i4_1 m70 hI71
      obtain ⟨m72, s73, rfl, hm74, hn75⟩ := iter_step hI71; clear hI71; unfold roundelayref2_May_L0 at hm74
      refine WC.seq ?_
      refine WC.seq ?_
      refine WC.region ?_
      refine WL.q rfl rfl rfl (QV.move rfl rfl) ?_
      refine WL.q rfl rfl rfl (QV.fieldAddr fd25_0 rfl rfl) ?_
      refine WL.q rfl rfl rfl (QV.load pl22 rfl rfl (Own.cell 0 rfl rfl)) ?_
      refine WL.q rfl rfl rfl (QV.lenS Try.underlying22 rfl rfl h_l_logs.lenMap) ?_
      refine WL.q rfl rfl rfl (QV.lss rfl rfl rfl rfl) ?_
      refine WL.nil ?_
      refine WQ.then ?_
      refine WC.cond rfl (fun h76 => ?_) (fun h76 => ?_)
      · skip
        have hm77 := br_t h76 hm74; clear hm74
        refine WC.skip ?_
        refine WQ.then ?_
        refine WC.seq ?_
        refine WC.block ?_
        refine WC.seq ?_
        refine WC.region ?_
        refine WL.q rfl rfl rfl (QV.fieldAddr fd25_0 rfl rfl) ?_
        refine WL.q rfl rfl rfl (QV.load pl22 rfl rfl (Own.cell 0 rfl rfl)) ?_
        refine WL.q rfl rfl rfl (QV.move rfl rfl) ?_
        obtain ⟨c78, hm79⟩ := ck_some hm77; clear hm77
        obtain ⟨p80, hp81⟩ := h_l_logs.lenMap.ix (sz := 1) ln_len c78
        refine WL.q rfl rfl rfl (QV.indexSlice sl22 rfl rfl rfl rfl hp81) ?_
        refine WL.q rfl rfl rfl (QV.load pl3 rfl rfl (fun w hw => CellsAt.one 0 (((Own.karr 1 rfl hk h_l_logs) w hw).ele hp81 c78) rfl)) ?_
        obtain ⟨x82, hx83, hm84⟩ := bd_some hm79; clear hm79
        refine WL.q rfl rfl rfl (QV.call en76 (EvAll.cons rfl rfl (EvAll.cons rfl rfl (EvAll.cons rfl rfl EvAll.nil))) (fun w hw => have h := roundelayref2_Within_w w hx83 ; h)) ?_
        refine WL.q rfl rfl rfl (QV.not rfl rfl) ?_
        refine WL.nil ?_
        refine WQ.then ?_
        refine WC.cond rfl (fun h85 => ?_) (fun h85 => ?_)
        · skip
          have hm86 := br_t h85 hm84; clear hm84
          refine WC.seq ?_
          refine WC.region ?_
          refine WL.q rfl rfl rfl (QV.assign rfl rfl) ?_
          refine WL.nil ?_
          refine WQ.then ?_
          refine WC.ret ?_
          refine WQ.block_ret ?_
          refine WQ.then_ret ?_
          refine WQ.then_ret ?_
          refine WQ.block_ret ?_
          refine WQ.then_ret ?_
          refine WQ.then_ret ?_
          obtain rfl := up_ret hm86 hn75
          obtain rfl := (eq_of_some hm7).symm
          refine WQ.ret1 rfl rfl (fun w hw => ?_)
          exact ⟨rfl, Own.kgrow (fun _ x => x) hw⟩
        · skip
          have hm87 := br_f h85 hm84; clear hm84
          refine WC.skip ?_
          refine WQ.block ?_
          refine WQ.then ?_
          refine WC.region ?_
          refine WL.q rfl rfl rfl (QV.move rfl rfl) ?_
          obtain ⟨c88, hm89⟩ := ck_some hm87; clear hm87
          refine WL.q rfl rfl rfl (QV.add rfl rfl rfl rfl c88) ?_
          refine WL.q rfl rfl rfl (QV.assign rfl rfl) ?_
          refine WL.nil ?_
          exact WQ.again1 (i4_1 + 1) m72 (up_next hm89 hn75) (Nat.lt_succ_self _) ⟨rfl, rfl, rfl, trivial⟩ (fun w hw => hw.pick [0, 1] (by decide))
      · skip
        have hm90 := br_f h76 hm74; clear hm74
        refine WC.exit ?_
        refine WQ.then_exit ?_
        refine WQ.then_exit ?_
        refine WQ.block_exit ?_
        exact WQ.out1 i4_1 (up_brk hm90 hn75) ⟨rfl, rfl, rfl, trivial⟩ (fun w hw => hw.pick [0, 1] (by decide))

end Go.Proofs.Ytaimbkndebaaiac
end

section
namespace Go.Proofs.Ytaimbkndebaaiac
open Go.Rd
set_option linter.unusedVariables false
namespace TKern
theorem ag146 : AggT Try.prog 146 2 := ⟨_, Try.underlying146, rfl, by kernel_rfl⟩
theorem ag25 : AggT Try.prog 25 3 := ⟨_, Try.underlying25, rfl, by kernel_rfl⟩
theorem ag28 : AggT Try.prog 28 7 := ⟨_, Try.underlying28, rfl, by kernel_rfl⟩
theorem ag31 : AggT Try.prog 31 3 := ⟨_, Try.underlying31, rfl, by kernel_rfl⟩
theorem ag75 : AggT Try.prog 75 10 := ⟨_, Try.underlying75, rfl, by kernel_rfl⟩
theorem ag81 : AggT Try.prog 81 9 := ⟨_, Try.underlying81, rfl, by kernel_rfl⟩
theorem ar146 : ArrayT Try.prog 146 2 1 := ⟨_, Try.underlying146, by kernel_rfl⟩
theorem ar26 : ArrayT Try.prog 26 3 1 := ⟨_, Try.underlying26, by kernel_rfl⟩
theorem en118 : Go.Rd.Enters Try.prog 118 := ⟨Try.f118, Try.func118, by kernel_rfl, by kernel_rfl⟩
theorem en38 : Go.Rd.Enters Try.prog 38 := ⟨Try.f38, Try.func38, by kernel_rfl, by kernel_rfl⟩
theorem en39 : Go.Rd.Enters Try.prog 39 := ⟨Try.f39, Try.func39, by kernel_rfl, by kernel_rfl⟩
theorem en66 : Go.Rd.Enters Try.prog 66 := ⟨Try.f66, Try.func66, by kernel_rfl, by kernel_rfl⟩
theorem en88 : Go.Rd.Enters Try.prog 88 := ⟨Try.f88, Try.func88, by kernel_rfl, by kernel_rfl⟩
theorem en89 : Go.Rd.Enters Try.prog 89 := ⟨Try.f89, Try.func89, by kernel_rfl, by kernel_rfl⟩
theorem en95 : Go.Rd.Enters Try.prog 95 := ⟨Try.f95, Try.func95, by kernel_rfl, by kernel_rfl⟩
theorem en96 : Go.Rd.Enters Try.prog 96 := ⟨Try.f96, Try.func96, by kernel_rfl, by kernel_rfl⟩
theorem fd28_0 : FieldT Try.prog 28 0 0 := ⟨_, _, 2, Try.underlying28, rfl, rfl, by kernel_rfl⟩
theorem fd28_2 : FieldT Try.prog 28 2 6 := ⟨_, _, 0, Try.underlying28, rfl, rfl, by kernel_rfl⟩
theorem fd31_0 : FieldT Try.prog 31 0 0 := ⟨_, _, 0, Try.underlying31, rfl, rfl, by kernel_rfl⟩
theorem fd31_1 : FieldT Try.prog 31 1 1 := ⟨_, _, 0, Try.underlying31, rfl, rfl, by kernel_rfl⟩
theorem fd31_2 : FieldT Try.prog 31 2 2 := ⟨_, _, 0, Try.underlying31, rfl, rfl, by kernel_rfl⟩
theorem fd75_0 : FieldT Try.prog 75 0 0 := ⟨_, _, 0, Try.underlying75, rfl, rfl, by kernel_rfl⟩
theorem fd75_1 : FieldT Try.prog 75 1 1 := ⟨_, _, 0, Try.underlying75, rfl, rfl, by kernel_rfl⟩
theorem fd75_2 : FieldT Try.prog 75 2 2 := ⟨_, _, 0, Try.underlying75, rfl, rfl, by kernel_rfl⟩
theorem fd75_3 : FieldT Try.prog 75 3 3 := ⟨_, _, 0, Try.underlying75, rfl, rfl, by kernel_rfl⟩
theorem fd75_4 : FieldT Try.prog 75 4 4 := ⟨_, _, 0, Try.underlying75, rfl, rfl, by kernel_rfl⟩
theorem fd75_5 : FieldT Try.prog 75 5 5 := ⟨_, _, 0, Try.underlying75, rfl, rfl, by kernel_rfl⟩
theorem fd75_6 : FieldT Try.prog 75 6 6 := ⟨_, _, 0, Try.underlying75, rfl, rfl, by kernel_rfl⟩
theorem fd75_7 : FieldT Try.prog 75 7 7 := ⟨_, _, 0, Try.underlying75, rfl, rfl, by kernel_rfl⟩
theorem fd75_8 : FieldT Try.prog 75 8 8 := ⟨_, _, 0, Try.underlying75, rfl, rfl, by kernel_rfl⟩
theorem fd75_9 : FieldT Try.prog 75 9 9 := ⟨_, _, 0, Try.underlying75, rfl, rfl, by kernel_rfl⟩
theorem fd81_1 : FieldT Try.prog 81 1 1 := ⟨_, _, 1, Try.underlying81, rfl, rfl, by kernel_rfl⟩
theorem fd81_2 : FieldT Try.prog 81 2 3 := ⟨_, _, 1, Try.underlying81, rfl, rfl, by kernel_rfl⟩
theorem kt146 : KeyT Try.prog 146 kP := KeyT.pair Try.underlying146 Try.underlying3 (by kernel_rfl)
theorem mt145 : MapT Try.prog 145 146 3 := Try.underlying145
theorem pl2 : Plain Try.prog 2 := ⟨_, Try.underlying2, rfl⟩
theorem pl29 : Plain Try.prog 29 := ⟨_, Try.underlying29, rfl⟩
theorem pl3 : Plain Try.prog 3 := ⟨_, Try.underlying3, rfl⟩
theorem sl29 : SliceT Try.prog 29 75 10 := ⟨Try.underlying29, by kernel_rfl⟩
theorem sz146 : SizeT Try.prog 146 2 := by unfold SizeT; kernel_rfl
theorem sz25 : SizeT Try.prog 25 3 := by unfold SizeT; kernel_rfl
theorem sz3 : SizeT Try.prog 3 1 := by unfold SizeT; kernel_rfl
theorem sz75 : SizeT Try.prog 75 10 := by unfold SizeT; kernel_rfl
theorem sz79 : SizeT Try.prog 79 2 := by unfold SizeT; kernel_rfl
theorem sz81 : SizeT Try.prog 81 9 := by unfold SizeT; kernel_rfl
theorem sz_23 : SliceZ Try.prog 23 81 9 [.int .i64 0, .int .i64 0, .int .i64 0, .int .i64 0, .int .i64 0, .int .i64 0, .int .i64 0, .int .i64 0, .int .i64 0] := ⟨Try.underlying23, by kernel_rfl⟩
theorem ze146 : ZeroT Try.prog 146 [.int .i64 0, .int .i64 0] := by unfold ZeroT; kernel_rfl
theorem ze25 : ZeroT Try.prog 25 [.slice none 0 0, .slice none 0 0, .slice none 0 0] := by unfold ZeroT; kernel_rfl
theorem ze3 : ZeroT Try.prog 3 [.int .i64 0] := by unfold ZeroT; kernel_rfl
theorem ze75 : ZeroT Try.prog 75 [.int .i64 0, .int .i64 0, .int .i64 0, .int .i64 0, .int .i64 0, .int .i64 0, .int .i64 0, .int .i64 0, .int .i64 0, .int .i64 0] := by unfold ZeroT; kernel_rfl
theorem ze81 : ZeroT Try.prog 81 [.int .i64 0, .int .i64 0, .int .i64 0, .int .i64 0, .int .i64 0, .int .i64 0, .int .i64 0, .int .i64 0, .int .i64 0] := by unfold ZeroT; kernel_rfl
theorem zv3i64v : ZVal Try.prog 3 (i64v 0) := by unfold ZVal; kernel_rfl
end TKern
open TKern
set_option maxRecDepth 8000 in
theorem kernel_Stmt_w {o : Opr} {r : Stm} (w : World) (hm : kernel_Stmt_m o = some r)  : Calls Try.prog 95 #[.agg #[.int .i64 o.slot, .int .i64 o.stage, .int .i64 o.op, .int .i64 o.dest, .int .i64 o.a, .int .i64 o.b, .int .i64 o.ar, .int .i64 o.sp, .int .i64 o.pl, .int .i64 o.n]] w (fun e w' => e = .returned (.agg #[.int .i64 r.op, .int .i64 r.a.st, .int .i64 r.a.bk, .int .i64 r.b.st, .int .i64 r.b.bk, .int .i64 r.ar, .int .i64 r.sp, .int .i64 r.pl, .int .i64 r.n]) ∧ Grow w w') := by
  unfold kernel_Stmt_m at hm
  have hk := Base.rfl (w := w)
  refine calls_of_WC (n := 14) (args := [.agg #[.int .i64 o.slot, .int .i64 o.stage, .int .i64 o.op, .int .i64 o.dest, .int .i64 o.a, .int .i64 o.b, .int .i64 o.ar, .int .i64 o.sp, .int .i64 o.pl, .int .i64 o.n]]) Try.func95 rfl rfl (Nat.le_of_ble_eq_true rfl) ?_ (Own.startK hk (Own.start w))
  refine WC.seq ?_
  refine WC.region ?_
  refine WL.effect rfl ?_
  refine (EV.boxAgg (by decide) rfl rfl (fun b1 => ?_))
  refine WL.effect rfl ?_
  refine (EV.alloc (by decide) ze81 (fun b2 => ?_))
  refine WL.nil ?_
  refine WQ.then ?_
  refine WC.seq ?_
  refine WC.region ?_
  refine WL.q rfl rfl rfl (QV.fieldAddr fd75_2 rfl rfl) ?_
  refine WL.q rfl rfl rfl (QV.load pl3 rfl rfl (Own.cell 1 rfl rfl)) ?_
  refine WL.q rfl rfl rfl (QV.fieldAddr fd75_6 rfl rfl) ?_
  refine WL.q rfl rfl rfl (QV.load pl3 rfl rfl (Own.cell 1 rfl rfl)) ?_
  refine WL.q rfl rfl rfl (QV.fieldAddr fd75_7 rfl rfl) ?_
  refine WL.q rfl rfl rfl (QV.load pl3 rfl rfl (Own.cell 1 rfl rfl)) ?_
  refine WL.q rfl rfl rfl (QV.fieldAddr fd75_8 rfl rfl) ?_
  refine WL.q rfl rfl rfl (QV.load pl3 rfl rfl (Own.cell 1 rfl rfl)) ?_
  refine WL.q rfl rfl rfl (QV.fieldAddr fd75_9 rfl rfl) ?_
  refine WL.q rfl rfl rfl (QV.load pl2 rfl rfl (Own.cell 1 rfl rfl)) ?_
  refine WL.q rfl rfl rfl (QV.build (ps := [(0, .tmp 4), (3, .tmp 6), (4, .tmp 8), (5, .tmp 10), (6, .tmp 12)]) (cells := [.int .i64 o.op, .int .i64 0, .int .i64 0, .int .i64 0, .int .i64 0, .int .i64 o.ar, .int .i64 o.sp, .int .i64 o.pl, .int .i64 o.n]) (EvAll.cons rfl rfl (EvAll.cons rfl rfl (EvAll.cons rfl rfl (EvAll.cons rfl rfl (EvAll.cons rfl rfl EvAll.nil))))) (by kernel_rfl)) ?_
  refine WL.effect rfl ?_
  refine (EV.store 0 rfl rfl rfl rfl rfl rfl (vs := [.int .i64 o.op, .int .i64 0, .int .i64 0, .int .i64 0, .int .i64 0, .int .i64 o.ar, .int .i64 o.sp, .int .i64 o.pl, .int .i64 o.n]) (show Value.cells _ = List.toArray _ from rfl) sz81 (Nat.le_of_ble_eq_true rfl) (one_cons rfl (one_cons rfl (one_cons rfl (one_cons rfl (one_cons rfl (one_cons rfl (one_cons rfl (one_cons rfl (one_cons rfl one_nil))))))))) ?_)
  refine WL.nil ?_
  refine WQ.then ?_
  refine WC.ret ?_
  obtain rfl := (eq_of_some hm).symm
  refine WQ.retCell rfl ag81 rfl rfl (Own.cellsBlk 0 rfl) (fun w hw => ?_)
  exact ⟨rfl, Own.kgrow (fun _ x => x) hw⟩

set_option maxRecDepth 8000 in
theorem kernel_Time_w {v_k__ops : Value} {k_ : Krn} {o : Opr} {r : Int} (w : World) (hm : kernel_Time_m k_ o = some r) (h_k__ops : Arr w v_k__ops 10 (k_.ops.map Opr.cells)) : Calls Try.prog 96 #[.agg #[.int .i64 k_.pace, .int .i64 k_.stages, v_k__ops], .agg #[.int .i64 o.slot, .int .i64 o.stage, .int .i64 o.op, .int .i64 o.dest, .int .i64 o.a, .int .i64 o.b, .int .i64 o.ar, .int .i64 o.sp, .int .i64 o.pl, .int .i64 o.n]] w (fun e w' => e = .returned (.int .i64 r) ∧ Grow w w') := by
  unfold kernel_Time_m at hm
  have hk := Base.rfl (w := w)
  refine calls_of_WC (n := 13) (args := [.agg #[.int .i64 k_.pace, .int .i64 k_.stages, v_k__ops], .agg #[.int .i64 o.slot, .int .i64 o.stage, .int .i64 o.op, .int .i64 o.dest, .int .i64 o.a, .int .i64 o.b, .int .i64 o.ar, .int .i64 o.sp, .int .i64 o.pl, .int .i64 o.n]]) Try.func96 rfl rfl (Nat.le_of_ble_eq_true rfl) ?_ (Own.startK hk (Own.start w))
  refine WC.seq ?_
  refine WC.region ?_
  refine WL.effect rfl ?_
  refine (EV.boxAgg (by decide) rfl rfl (fun b1 => ?_))
  refine WL.effect rfl ?_
  refine (EV.boxAgg (by decide) rfl rfl (fun b2 => ?_))
  refine WL.q rfl rfl rfl (QV.assign rfl rfl) ?_
  refine WL.nil ?_
  refine WQ.then ?_
  refine WC.seq ?_
  refine WC.region ?_
  refine WL.q rfl rfl rfl (QV.fieldAddr fd75_1 rfl rfl) ?_
  refine WL.q rfl rfl rfl (QV.load pl3 rfl rfl (Own.cell 0 rfl rfl)) ?_
  refine WL.q rfl rfl rfl (QV.fieldAddr fd31_0 rfl rfl) ?_
  refine WL.q rfl rfl rfl (QV.load pl3 rfl rfl (Own.cell 1 rfl rfl)) ?_
  obtain ⟨c3, hm4⟩ := ck_some hm; clear hm
  refine WL.q rfl rfl rfl (QV.mul rfl rfl rfl rfl c3) ?_
  refine WL.q rfl rfl rfl (QV.fieldAddr fd75_0 rfl rfl) ?_
  refine WL.q rfl rfl rfl (QV.load pl3 rfl rfl (Own.cell 0 rfl rfl)) ?_
  obtain ⟨c5, hm6⟩ := ck_some hm4; clear hm4
  refine WL.q rfl rfl rfl (QV.add rfl rfl rfl rfl c5) ?_
  refine WL.q rfl rfl rfl (QV.assign rfl rfl) ?_
  refine WL.nil ?_
  refine WQ.then ?_
  refine WC.ret ?_
  obtain rfl := (eq_of_some hm6).symm
  refine WQ.ret1 rfl rfl (fun w hw => ?_)
  exact ⟨rfl, Own.kgrow (fun _ x => x) hw⟩

set_option maxRecDepth 8000 in
theorem kernel_op_c1_w {p_n : Addr} {p_t : Addr} {r_ : Int} {from_ : Int} {n : Int} {t : Tgt} {r : Bool} (w : World) (hm : kernel_op_c1_m r_ from_ n t = some r) (hp_n : CellsAt w p_n [.int .i64 n] 0) (hp_t : CellsAt w p_t [.int .i64 t.u0, .int .i64 t.u1, .int .i64 t.u2, .int .i64 t.w0, .int .i64 t.w1, .int .i64 t.w2, .int .i64 t.regs] 0) : Calls Try.prog 118 #[.int .i64 r_, .int .i64 from_, .pointer (some p_n), .pointer (some p_t)] w (fun e w' => e = .returned (.bool r) ∧ Grow w w') := by
  unfold kernel_op_c1_m at hm
  have hk := Base.rfl (w := w)
  refine calls_of_WC (n := 24) (args := [.int .i64 r_, .int .i64 from_, .pointer (some p_n), .pointer (some p_t)]) Try.func118 rfl rfl (Nat.le_of_ble_eq_true rfl) ?_ (Own.startK hk (Own.start w))
  refine WC.seq ?_
  refine WC.region ?_
  refine WL.q rfl rfl rfl (QV.assign rfl rfl) ?_
  refine WL.nil ?_
  refine WQ.then ?_
  refine WC.seq ?_
  refine WC.region ?_
  refine WL.q rfl rfl rfl (QV.move rfl rfl) ?_
  refine WL.q rfl rfl rfl (QV.eql rfl rfl rfl rfl) ?_
  refine WL.q rfl rfl rfl (QV.move rfl rfl) ?_
  refine WL.g rfl rfl (GuardIs.neg rfl rfl) (fun hG => QV.load pl3 rfl rfl (fun w hw => CellsAt.one 0 ((Own.kcells 0 rfl hk hp_n) w hw) rfl)) ?_
  refine WL.g rfl rfl (GuardIs.neg rfl rfl) (fun hG => QV.move rfl rfl) ?_
  refine WL.g rfl rfl (GuardIs.neg rfl rfl) (fun hG => QV.gtr rfl hG rfl hG) ?_
  refine WL.g rfl rfl (GuardIs.neg rfl rfl) (fun hG => QV.move rfl hG) ?_
  refine WL.g rfl rfl (GuardIs.posC rfl rfl) (fun hG => QV.move rfl rfl) ?_
  refine WL.g rfl rfl (GuardIs.posC rfl rfl) (fun hG => QV.gtr rfl hG rfl rfl) ?_
  refine WL.g rfl rfl (GuardIs.neg rfl rfl) (fun hG => QV.pickAnd rfl hG rfl (fun h => andT hG h)) ?_
  refine WL.g rfl rfl (GuardIs.neg rfl rfl) (fun hG => QV.move rfl hG) ?_
  refine WL.g rfl rfl (GuardIs.posC rfl rfl) (fun hG => QV.move rfl rfl) ?_
  refine WL.g rfl rfl (GuardIs.posC rfl rfl) (fun hG => QV.fieldAddr fd28_2 rfl rfl) ?_
  refine WL.g rfl rfl (GuardIs.posC rfl rfl) (fun hG => QV.load pl3 rfl hG (fun w hw => CellsAt.one 6 ((Own.kcells 0 rfl hk hp_t) w hw) rfl)) ?_
  refine WL.g rfl rfl (GuardIs.posC rfl rfl) (fun hG => QV.lss rfl hG rfl hG) ?_
  refine WL.g rfl rfl (GuardIs.neg rfl rfl) (fun hG => QV.pickAnd rfl hG rfl (fun h => andT hG h)) ?_
  refine WL.q rfl rfl rfl (QV.pickOr rfl rfl rfl (fun h => notF h)) ?_
  refine WL.q rfl rfl rfl (QV.assign rfl rfl) ?_
  refine WL.nil ?_
  refine WQ.then ?_
  refine WC.ret ?_
  obtain rfl := (eq_of_some hm).symm
  refine WQ.ret1 rfl rfl (fun w hw => ?_)
  exact ⟨rfl, Own.kgrow (fun _ x => x) hw⟩

set_option maxRecDepth 8000 in
theorem kernel_op_w {v_k__ops : Value} {v_logs : Value} {t : Tgt} {k_ : Krn} {o : Opr} {logs : List Int} {r : Bool} (w : World) (hm : kernel_op_m t k_ o logs = some r) (h_k__ops : Arr w v_k__ops 10 (k_.ops.map Opr.cells)) (h_logs : Arr w v_logs 1 (logs.map icell)) : Calls Try.prog 88 #[.agg #[.int .i64 t.u0, .int .i64 t.u1, .int .i64 t.u2, .int .i64 t.w0, .int .i64 t.w1, .int .i64 t.w2, .int .i64 t.regs], .agg #[.int .i64 k_.pace, .int .i64 k_.stages, v_k__ops], .agg #[.int .i64 o.slot, .int .i64 o.stage, .int .i64 o.op, .int .i64 o.dest, .int .i64 o.a, .int .i64 o.b, .int .i64 o.ar, .int .i64 o.sp, .int .i64 o.pl, .int .i64 o.n], v_logs] w (fun e w' => e = .returned (.bool r) ∧ Grow w w') := by
  unfold kernel_op_m at hm
  have hk := Base.rfl (w := w)
  refine calls_of_WC (n := 88) (args := [.agg #[.int .i64 t.u0, .int .i64 t.u1, .int .i64 t.u2, .int .i64 t.w0, .int .i64 t.w1, .int .i64 t.w2, .int .i64 t.regs], .agg #[.int .i64 k_.pace, .int .i64 k_.stages, v_k__ops], .agg #[.int .i64 o.slot, .int .i64 o.stage, .int .i64 o.op, .int .i64 o.dest, .int .i64 o.a, .int .i64 o.b, .int .i64 o.ar, .int .i64 o.sp, .int .i64 o.pl, .int .i64 o.n], v_logs]) Try.func88 rfl rfl (Nat.le_of_ble_eq_true rfl) ?_ (Own.startK hk (Own.start w))
  refine WC.seq ?_
  refine WC.region ?_
  refine WL.effect rfl ?_
  refine (EV.boxAgg (by decide) rfl rfl (fun b1 => ?_))
  refine WL.effect rfl ?_
  refine (EV.boxAgg (by decide) rfl rfl (fun b2 => ?_))
  refine WL.effect rfl ?_
  refine (EV.boxAgg (by decide) rfl rfl (fun b3 => ?_))
  refine WL.q rfl rfl rfl (QV.assign rfl rfl) ?_
  refine WL.nil ?_
  refine WQ.then ?_
  refine WC.seq ?_
  refine WC.region ?_
  refine WL.q rfl rfl rfl (QV.loadAgg ag75 rfl rfl rfl (Own.cellsBlk 0 rfl)) ?_
  obtain ⟨x4, hx5, hm6⟩ := bd_some hm; clear hm
  refine WL.q rfl rfl rfl (QV.call en95 (EvAll.cons rfl rfl EvAll.nil) (fun w hw => have h := kernel_Stmt_w w hx5 ; h)) ?_
  refine WL.effect rfl ?_
  refine (EV.alloc (by decide) ze81 (fun b7 => ?_))
  refine WL.effect rfl ?_
  refine (EV.store 0 rfl rfl rfl rfl rfl rfl (vs := [.int .i64 x4.op, .int .i64 x4.a.st, .int .i64 x4.a.bk, .int .i64 x4.b.st, .int .i64 x4.b.bk, .int .i64 x4.ar, .int .i64 x4.sp, .int .i64 x4.pl, .int .i64 x4.n]) (show Value.cells _ = List.toArray _ from rfl) sz81 (Nat.le_of_ble_eq_true rfl) (one_cons rfl (one_cons rfl (one_cons rfl (one_cons rfl (one_cons rfl (one_cons rfl (one_cons rfl (one_cons rfl (one_cons rfl one_nil))))))))) ?_)
  refine WL.nil ?_
  refine WQ.then ?_
  refine WC.seq ?_
  refine WC.region ?_
  refine WL.q rfl rfl rfl (QV.loadAgg ag81 rfl rfl rfl (Own.cellsBlk 0 rfl)) ?_
  refine WL.effect rfl ?_
  obtain ⟨x8, hx9, hm10⟩ := bd_some hm6; clear hm6
  refine EV.of (C' := Own noM w [kn noM w.heap.size w w, blk b7 [.int .i64 x4.op, .int .i64 x4.a.st, .int .i64 x4.a.bk, .int .i64 x4.b.st, .int .i64 x4.b.bk, .int .i64 x4.ar, .int .i64 x4.sp, .int .i64 x4.pl, .int .i64 x4.n] 81, blk b3 [.int .i64 o.slot, .int .i64 o.stage, .int .i64 o.op, .int .i64 o.dest, .int .i64 o.a, .int .i64 o.b, .int .i64 o.ar, .int .i64 o.sp, .int .i64 o.pl, .int .i64 o.n] 75, blk b2 [.int .i64 k_.pace, .int .i64 k_.stages, v_k__ops] 31, blk b1 [.int .i64 t.u0, .int .i64 t.u1, .int .i64 t.u2, .int .i64 t.w0, .int .i64 t.w1, .int .i64 t.w2, .int .i64 t.regs] 28]) (fun w hw => hw.pick [4, 0, 1, 2, 3] (by decide)) ?_
  refine (EV.callR (X := Value × World) (R := []) (fun X => X.1) (fun X => []) (fun X => X.2) (fun X => Arr X.2 X.1 2 (x8.map Rf.cells)) hk (fun _ h => by cases h; decide) en66 (EvAll.cons rfl rfl EvAll.nil) (fun M w h1 h2 => have h := loop_Uses_w hx9  M w h1 h2; h) (fun X11 hF11 hle11 => ?_))
  refine WL.q rfl rfl rfl (QV.lenS Try.underlying76 rfl rfl hF11.lenMap) ?_
  refine WL.effect rfl ?_
  refine (EV.alloc (by decide) ze3 (fun b12 => ?_))
  refine WL.effect rfl ?_
  refine (EV.store 0 rfl rfl rfl rfl rfl rfl (vs := [.int .i64 (ln x8)]) (show Value.cells _ = List.toArray _ from rfl) sz3 (Nat.le_of_ble_eq_true rfl) (one_cons rfl one_nil) ?_)
  refine WL.nil ?_
  refine WQ.then ?_
  refine WC.seq ?_
  refine WC.region ?_
  refine WL.q rfl rfl rfl (QV.makeFunc (EvAll.cons rfl rfl (EvAll.cons rfl rfl EvAll.nil))) ?_
  refine WL.q rfl rfl rfl (QV.assign rfl rfl) ?_
  refine WL.nil ?_
  refine WQ.then ?_
  refine WC.seq ?_
  refine WC.seq ?_
  refine WC.region ?_
  refine WL.q rfl rfl rfl (QV.load pl3 rfl rfl (Own.cell 0 rfl rfl)) ?_
  refine WL.q rfl rfl rfl (QV.gtr rfl rfl rfl rfl) ?_
  refine WL.nil ?_
  refine WQ.then ?_
  obtain ⟨o13, hj14, hm15⟩ := bd_some hm10; clear hm10
  refine WC.joint4 (H2 := [blk b12 [.int .i64 (ln x8)] 3, kn noM w.heap.size w X11.2, blk b3 [.int .i64 o.slot, .int .i64 o.stage, .int .i64 o.op, .int .i64 o.dest, .int .i64 o.a, .int .i64 o.b, .int .i64 o.ar, .int .i64 o.sp, .int .i64 o.pl, .int .i64 o.n] 75, blk b2 [.int .i64 k_.pace, .int .i64 k_.stages, v_k__ops] 31, blk b1 [.int .i64 t.u0, .int .i64 t.u1, .int .i64 t.u2, .int .i64 t.w0, .int .i64 t.w1, .int .i64 t.w2, .int .i64 t.regs] 28]) (τ := [(3, (true, _)), (4, (true, _)), (5, (true, _)), (6, (true, _)), (9, (true, _)), (11, (true, _))]) (fun (b7c1_1 : Int) (b7c2_1 : Int) (b7c3_1 : Int) (b7c4_1 : Int) => []) (fun (b7c1_1 : Int) (b7c2_1 : Int) (b7c3_1 : Int) (b7c4_1 : Int) => [blk b7 [.int .i64 x4.op, .int .i64 b7c1_1, .int .i64 b7c2_1, .int .i64 b7c3_1, .int .i64 b7c4_1, .int .i64 x4.ar, .int .i64 x4.sp, .int .i64 x4.pl, .int .i64 x4.n] 81]) (fun (b7c1_1 : Int) (b7c2_1 : Int) (b7c3_1 : Int) (b7c4_1 : Int) => o13 = .go (b7c1_1, b7c2_1, b7c3_1, b7c4_1)) ⟨rfl, rfl, rfl, rfl, rfl, rfl, trivial⟩ (fun w hw => hw.pick [0, 1, 3, 4, 5] (by decide)) ?_ ?_
  · skip
    rintro b7c1_1 b7c2_1 b7c3_1 b7c4_1 rfl
    refine WC.seq ?_
    refine WC.region ?_
    refine WL.q rfl rfl rfl (QV.move rfl rfl) ?_
    refine WL.q rfl rfl rfl (QV.build (ps := [(0, .const (.int .i64 1))]) (cells := [.int .i64 1, .int .i64 0, .int .i64 0, .int .i64 0, .int .i64 0, .int .i64 0, .int .i64 0, .int .i64 0, .int .i64 0]) (EvAll.cons rfl rfl EvAll.nil) (by kernel_rfl)) ?_
    refine WL.q rfl rfl rfl (QV.loadAgg ag81 rfl rfl rfl (Own.cellsBlk 0 rfl)) ?_
    refine WL.effect rfl ?_
    refine (EV.buildSlice (by decide) sz_23 (by decide) (by decide) (ps := [(0, .tmp 27), (1, .tmp 28)]) (cells := [.int .i64 1, .int .i64 0, .int .i64 0, .int .i64 0, .int .i64 0, .int .i64 0, .int .i64 0, .int .i64 0, .int .i64 0, .int .i64 x4.op, .int .i64 b7c1_1, .int .i64 b7c2_1, .int .i64 b7c3_1, .int .i64 b7c4_1, .int .i64 x4.ar, .int .i64 x4.sp, .int .i64 x4.pl, .int .i64 x4.n]) (EvAll.cons rfl rfl (EvAll.cons rfl rfl EvAll.nil)) (by kernel_rfl) (fun b16 => ?_))
    refine WL.q rfl rfl rfl (QV.buildS (ps := [(0, .tmp 26), (1, .tmp 29)]) (cells := [v_logs, (blkSlice b16 2 2), .slice none 0 0]) (css := [[v_logs], [(blkSlice b16 2 2)]]) (EvAll.cons rfl rfl (EvAll.cons rfl rfl EvAll.nil)) (CellsAll.cons (SliceLen.cells (h_logs.le hle11).lenMap) (CellsAll.cons (SliceLen.cells SliceLen.blk) CellsAll.nil)) (by kernel_rfl)) ?_
    refine WL.effect rfl ?_
    refine (EV.alloc (by decide) ze25 (fun b17 => ?_))
    refine WL.effect rfl ?_
    refine (EV.store 0 rfl rfl rfl rfl rfl rfl (vs := [v_logs, (blkSlice b16 2 2), .slice none 0 0]) (show Value.cells _ = List.toArray _ from rfl) sz25 (Nat.le_of_ble_eq_true rfl) (one_cons (SliceLen.one (h_logs.le hle11).lenMap) (one_cons (SliceLen.one SliceLen.blk) (one_cons rfl one_nil))) ?_)
    refine WL.nil ?_
    refine WQ.then ?_
    refine WC.seq ?_
    refine WC.region ?_
    refine WL.q rfl rfl rfl (QV.fieldAddr fd75_0 rfl rfl) ?_
    refine WL.q rfl rfl rfl (QV.load pl3 rfl rfl (Own.cell 5 rfl rfl)) ?_
    refine WL.q rfl rfl rfl (QV.geq rfl rfl rfl rfl) ?_
    refine WL.q rfl rfl rfl (QV.move rfl rfl) ?_
    refine WL.g rfl rfl (GuardIs.pos rfl rfl) (fun hG => QV.fieldAddr fd75_0 rfl rfl) ?_
    refine WL.g rfl rfl (GuardIs.pos rfl rfl) (fun hG => QV.load pl3 rfl hG (Own.cell 5 rfl rfl)) ?_
    refine WL.g rfl rfl (GuardIs.pos rfl rfl) (fun hG => QV.fieldAddr fd31_0 rfl rfl) ?_
    refine WL.g rfl rfl (GuardIs.pos rfl rfl) (fun hG => QV.load pl3 rfl hG (Own.cell 6 rfl rfl)) ?_
    refine WL.g rfl rfl (GuardIs.pos rfl rfl) (fun hG => QV.lss rfl hG rfl hG) ?_
    refine WL.q rfl rfl rfl (QV.pickAnd rfl rfl rfl (fun h => h)) ?_
    refine WL.q rfl rfl rfl (QV.move rfl rfl) ?_
    refine WL.g rfl rfl (GuardIs.pos rfl rfl) (fun hG => QV.fieldAddr fd75_1 rfl rfl) ?_
    refine WL.g rfl rfl (GuardIs.pos rfl rfl) (fun hG => QV.load pl3 rfl hG (Own.cell 5 rfl rfl)) ?_
    refine WL.g rfl rfl (GuardIs.pos rfl rfl) (fun hG => QV.geq rfl hG rfl rfl) ?_
    refine WL.q rfl rfl rfl (QV.pickAnd rfl rfl rfl (fun h => h)) ?_
    refine WL.q rfl rfl rfl (QV.move rfl rfl) ?_
    refine WL.g rfl rfl (GuardIs.pos rfl rfl) (fun hG => QV.fieldAddr fd75_1 rfl rfl) ?_
    refine WL.g rfl rfl (GuardIs.pos rfl rfl) (fun hG => QV.load pl3 rfl hG (Own.cell 5 rfl rfl)) ?_
    refine WL.g rfl rfl (GuardIs.pos rfl rfl) (fun hG => QV.fieldAddr fd31_1 rfl rfl) ?_
    refine WL.g rfl rfl (GuardIs.pos rfl rfl) (fun hG => QV.load pl3 rfl hG (Own.cell 6 rfl rfl)) ?_
    refine WL.g rfl rfl (GuardIs.pos rfl rfl) (fun hG => QV.lss rfl hG rfl hG) ?_
    refine WL.q rfl rfl rfl (QV.pickAnd rfl rfl rfl (fun h => h)) ?_
    refine WL.q rfl rfl rfl (QV.move rfl rfl) ?_
    refine WL.g rfl rfl (GuardIs.pos rfl rfl) (fun hG => QV.loadAgg ag31 rfl rfl rfl (Own.cellsBlk 6 rfl)) ?_
    refine WL.g rfl rfl (GuardIs.pos rfl rfl) (fun hG => QV.loadAgg ag75 rfl rfl rfl (Own.cellsBlk 5 rfl)) ?_
    obtain ⟨x18, hx19, hm20⟩ := bdG_some hm15; clear hm15
    refine WL.g rfl rfl (GuardIs.pos rfl rfl) (fun hG => QV.call en96 (EvAll.cons rfl hG (EvAll.cons rfl hG EvAll.nil)) (fun w hw => have h := kernel_Time_w w (hx19 hG) ((Own.karr 4 rfl hk (h_k__ops.le hle11)) w hw); h)) ?_
    refine WL.g rfl rfl (GuardIs.pos rfl rfl) (fun hG => QV.leq rfl hG rfl rfl) ?_
    refine WL.q rfl rfl rfl (QV.pickAnd rfl rfl rfl (fun h => h)) ?_
    refine WL.q rfl rfl rfl (QV.assign rfl rfl) ?_
    refine WL.nil ?_
    refine WQ.then ?_
    refine WC.seq ?_
    refine WC.region ?_
    refine WL.q rfl rfl rfl (QV.move rfl rfl) ?_
    refine WL.q rfl rfl rfl (QV.move rfl rfl) ?_
    refine WL.g rfl rfl (GuardIs.pos rfl rfl) (fun hG => QV.loadAgg ag25 rfl rfl rfl (Own.cellsBlk 0 rfl)) ?_
    obtain ⟨x21, hx22, hm23⟩ := bdG_some hm20; clear hm20
    refine WL.g rfl rfl (GuardIs.pos rfl rfl) (fun hG => QV.call en38 (EvAll.cons rfl hG EvAll.nil) (fun w hw => have h := loop_May_w w (hx22 hG) ((Own.karr 4 rfl hk (h_logs.le hle11)) w hw) ((Own.blkArr 1 (rows := [(Stm.mk 1 (Rf.mk 0 0) (Rf.mk 0 0) 0 0 0 0), (Stm.mk x4.op (Rf.mk b7c1_1 b7c2_1) (Rf.mk b7c3_1 b7c4_1) x4.ar x4.sp x4.pl x4.n)].map Stm.cells) rfl rfl (rows_len Stm.cells_len)) w hw) Arr.nil; h)) ?_
    refine WL.q rfl rfl rfl (QV.pickAnd rfl rfl rfl (fun h => h)) ?_
    refine WL.q rfl rfl rfl (QV.move rfl rfl) ?_
    refine WL.g rfl rfl (GuardIs.pos rfl rfl) (fun hG => QV.fieldAddr fd75_3 rfl rfl) ?_
    refine WL.g rfl rfl (GuardIs.pos rfl rfl) (fun hG => QV.load pl3 rfl hG (Own.cell 5 rfl rfl)) ?_
    refine WL.g rfl rfl (GuardIs.pos rfl rfl) (fun hG => QV.geq rfl hG rfl rfl) ?_
    refine WL.q rfl rfl rfl (QV.pickAnd rfl rfl rfl (fun h => h)) ?_
    refine WL.q rfl rfl rfl (QV.move rfl rfl) ?_
    refine WL.g rfl rfl (GuardIs.pos rfl rfl) (fun hG => QV.fieldAddr fd75_3 rfl rfl) ?_
    refine WL.g rfl rfl (GuardIs.pos rfl rfl) (fun hG => QV.load pl3 rfl hG (Own.cell 5 rfl rfl)) ?_
    refine WL.g rfl rfl (GuardIs.pos rfl rfl) (fun hG => QV.fieldAddr fd28_2 rfl rfl) ?_
    refine WL.g rfl rfl (GuardIs.pos rfl rfl) (fun hG => QV.load pl3 rfl hG (Own.cell 7 rfl rfl)) ?_
    refine WL.g rfl rfl (GuardIs.pos rfl rfl) (fun hG => QV.lss rfl hG rfl hG) ?_
    refine WL.q rfl rfl rfl (QV.pickAnd rfl rfl rfl (fun h => h)) ?_
    refine WL.q rfl rfl rfl (QV.move rfl rfl) ?_
    refine WL.g rfl rfl (GuardIs.pos rfl rfl) (fun hG => QV.move rfl rfl) ?_
    refine WL.g rfl rfl (GuardIs.pos rfl rfl) (fun hG => QV.fieldAddr fd75_4 rfl rfl) ?_
    refine WL.g rfl rfl (GuardIs.pos rfl rfl) (fun hG => QV.load pl3 rfl hG (Own.cell 5 rfl rfl)) ?_
    obtain ⟨x24, hx25, hm26⟩ := bdG_some hm23; clear hm23
    refine WL.g rfl rfl (GuardIs.pos rfl rfl) (fun hG => QV.callV en118 rfl hG (EvAll.cons rfl hG (EvAll.cons rfl rfl EvAll.nil)) (fun w hw => have h := kernel_op_c1_w w (hx25 hG) (Own.cellsBlk 3 rfl w hw) (Own.cellsBlk 7 rfl w hw); h)) ?_
    refine WL.q rfl rfl rfl (QV.pickAnd rfl rfl rfl (fun h => h)) ?_
    refine WL.q rfl rfl rfl (QV.move rfl rfl) ?_
    refine WL.g rfl rfl (GuardIs.pos rfl rfl) (fun hG => QV.move rfl rfl) ?_
    refine WL.g rfl rfl (GuardIs.pos rfl rfl) (fun hG => QV.fieldAddr fd75_5 rfl rfl) ?_
    refine WL.g rfl rfl (GuardIs.pos rfl rfl) (fun hG => QV.load pl3 rfl hG (Own.cell 5 rfl rfl)) ?_
    obtain ⟨x27, hx28, hm29⟩ := bdG_some hm26; clear hm26
    refine WL.g rfl rfl (GuardIs.pos rfl rfl) (fun hG => QV.callV en118 rfl hG (EvAll.cons rfl hG (EvAll.cons rfl rfl EvAll.nil)) (fun w hw => have h := kernel_op_c1_w w (hx28 hG) (Own.cellsBlk 3 rfl w hw) (Own.cellsBlk 7 rfl w hw); h)) ?_
    refine WL.q rfl rfl rfl (QV.pickAnd rfl rfl rfl (fun h => h)) ?_
    refine WL.q rfl rfl rfl (QV.assign rfl rfl) ?_
    refine WL.nil ?_
    refine WQ.then ?_
    refine WC.ret ?_
    obtain rfl := (eq_of_some hm29).symm
    refine WQ.ret1 rfl rfl (fun w hw => ?_)
    exact ⟨rfl, Own.kgrow (fun _ x => x) hw⟩
  · skip
    refine WC.cond rfl (fun h30 => ?_) (fun h30 => ?_)
    · skip
      have hm31 := br_t h30 hj14; clear hj14
      refine WC.region ?_
      refine WL.q rfl rfl rfl (QV.build (ps := []) (cells := [.int .i64 0, .int .i64 0]) EvAll.nil (by kernel_rfl)) ?_
      refine WL.q rfl rfl rfl (QV.build (ps := []) (cells := [.int .i64 0, .int .i64 0]) EvAll.nil (by kernel_rfl)) ?_
      refine WL.q rfl rfl rfl (QV.fieldAddr fd81_1 rfl rfl) ?_
      refine WL.effect rfl ?_
      refine (EV.store 2 rfl rfl rfl rfl rfl rfl (vs := [.int .i64 0, .int .i64 0]) (show Value.cells _ = List.toArray _ from rfl) sz79 (Nat.le_of_ble_eq_true rfl) (one_cons rfl (one_cons rfl one_nil)) ?_)
      refine WL.q rfl rfl rfl (QV.fieldAddr fd81_2 rfl rfl) ?_
      refine WL.effect rfl ?_
      refine (EV.store 2 rfl rfl rfl rfl rfl rfl (vs := [.int .i64 0, .int .i64 0]) (show Value.cells _ = List.toArray _ from rfl) sz79 (Nat.le_of_ble_eq_true rfl) (one_cons rfl (one_cons rfl one_nil)) ?_)
      refine WL.nil ?_
      exact WQ.out4 0 0 0 0 (eq_of_some hm31) ⟨rfl, rfl, rfl, rfl, rfl, rfl, trivial⟩ (fun w hw => hw.pick [2, 0, 1, 3, 4, 5] (by decide))
    · skip
      have hm32 := br_f h30 hj14; clear hj14
      refine WC.skip ?_
      exact WQ.out4 x4.a.st x4.a.bk x4.b.st x4.b.bk (eq_of_some hm32) ⟨rfl, rfl, rfl, rfl, rfl, rfl, trivial⟩ (fun w hw => hw.pick [2, 0, 1, 3, 4, 5] (by decide))

set_option maxRecDepth 8000 in
theorem kernel_May_w {v_k__ops : Value} {v_logs : Value} {t : Tgt} {k_ : Krn} {logs : List Int} {r : Bool} (w : World) (hm : kernel_May_m t k_ logs = some r) (h_k__ops : Arr w v_k__ops 10 (k_.ops.map Opr.cells)) (h_logs : Arr w v_logs 1 (logs.map icell)) : Calls Try.prog 56 #[.agg #[.int .i64 t.u0, .int .i64 t.u1, .int .i64 t.u2, .int .i64 t.w0, .int .i64 t.w1, .int .i64 t.w2, .int .i64 t.regs], .agg #[.int .i64 k_.pace, .int .i64 k_.stages, v_k__ops], v_logs] w (fun e w' => e = .returned (.bool r) ∧ Grow w w') := by
  unfold kernel_May_m at hm
  have hk := Base.rfl (w := w)
  refine calls_of_WC (n := 82) (args := [.agg #[.int .i64 t.u0, .int .i64 t.u1, .int .i64 t.u2, .int .i64 t.w0, .int .i64 t.w1, .int .i64 t.w2, .int .i64 t.regs], .agg #[.int .i64 k_.pace, .int .i64 k_.stages, v_k__ops], v_logs]) Try.func56 rfl rfl (Nat.le_of_ble_eq_true rfl) ?_ (Own.startK hk (Own.start w))
  refine WC.seq ?_
  refine WC.region ?_
  refine WL.effect rfl ?_
  refine (EV.boxAgg (by decide) rfl rfl (fun b1 => ?_))
  refine WL.effect rfl ?_
  refine (EV.boxAgg (by decide) rfl rfl (fun b2 => ?_))
  refine WL.q rfl rfl rfl (QV.assign rfl rfl) ?_
  refine WL.nil ?_
  refine WQ.then ?_
  refine WC.seq ?_
  refine WC.seq ?_
  refine WC.region ?_
  refine WL.q rfl rfl rfl (QV.loadAgg ag28 rfl rfl rfl (Own.cellsBlk 1 rfl)) ?_
  obtain ⟨x3, hx4, hm5⟩ := bd_some hm; clear hm
  refine WL.q rfl rfl rfl (QV.call en39 (EvAll.cons rfl rfl EvAll.nil) (fun w hw => have h := target_May_w w hx4 ; h)) ?_
  refine WL.q rfl rfl rfl (QV.not rfl rfl) ?_
  refine WL.q rfl rfl rfl (QV.move rfl rfl) ?_
  refine WL.g rfl rfl (GuardIs.neg rfl rfl) (fun hG => QV.fieldAddr fd31_0 rfl rfl) ?_
  refine WL.g rfl rfl (GuardIs.neg rfl rfl) (fun hG => QV.load pl3 rfl hG (Own.cell 0 rfl rfl)) ?_
  refine WL.g rfl rfl (GuardIs.neg rfl rfl) (fun hG => QV.lss rfl hG rfl rfl) ?_
  refine WL.q rfl rfl rfl (QV.pickOr rfl rfl rfl (fun h => notF h)) ?_
  refine WL.q rfl rfl rfl (QV.move rfl rfl) ?_
  refine WL.g rfl rfl (GuardIs.neg rfl rfl) (fun hG => QV.fieldAddr fd31_0 rfl rfl) ?_
  refine WL.g rfl rfl (GuardIs.neg rfl rfl) (fun hG => QV.load pl3 rfl hG (Own.cell 0 rfl rfl)) ?_
  refine WL.g rfl rfl (GuardIs.neg rfl rfl) (fun hG => QV.gtr rfl hG rfl rfl) ?_
  refine WL.q rfl rfl rfl (QV.pickOr rfl rfl rfl (fun h => notF h)) ?_
  refine WL.q rfl rfl rfl (QV.move rfl rfl) ?_
  refine WL.g rfl rfl (GuardIs.neg rfl rfl) (fun hG => QV.fieldAddr fd31_1 rfl rfl) ?_
  refine WL.g rfl rfl (GuardIs.neg rfl rfl) (fun hG => QV.load pl3 rfl hG (Own.cell 0 rfl rfl)) ?_
  refine WL.g rfl rfl (GuardIs.neg rfl rfl) (fun hG => QV.lss rfl hG rfl rfl) ?_
  refine WL.q rfl rfl rfl (QV.pickOr rfl rfl rfl (fun h => notF h)) ?_
  refine WL.q rfl rfl rfl (QV.move rfl rfl) ?_
  refine WL.g rfl rfl (GuardIs.neg rfl rfl) (fun hG => QV.fieldAddr fd31_1 rfl rfl) ?_
  refine WL.g rfl rfl (GuardIs.neg rfl rfl) (fun hG => QV.load pl3 rfl hG (Own.cell 0 rfl rfl)) ?_
  refine WL.g rfl rfl (GuardIs.neg rfl rfl) (fun hG => QV.gtr rfl hG rfl rfl) ?_
  refine WL.q rfl rfl rfl (QV.pickOr rfl rfl rfl (fun h => notF h)) ?_
  refine WL.q rfl rfl rfl (QV.move rfl rfl) ?_
  refine WL.g rfl rfl (GuardIs.neg rfl rfl) (fun hG => QV.fieldAddr fd31_2 rfl rfl) ?_
  refine WL.g rfl rfl (GuardIs.neg rfl rfl) (fun hG => QV.load pl29 rfl hG (Own.cell 0 rfl rfl)) ?_
  refine WL.g rfl rfl (GuardIs.neg rfl rfl) (fun hG => QV.lenS Try.underlying29 rfl hG h_k__ops.lenMap) ?_
  refine WL.g rfl rfl (GuardIs.neg rfl rfl) (fun hG => QV.lss rfl hG rfl rfl) ?_
  refine WL.q rfl rfl rfl (QV.pickOr rfl rfl rfl (fun h => notF h)) ?_
  refine WL.q rfl rfl rfl (QV.move rfl rfl) ?_
  refine WL.g rfl rfl (GuardIs.neg rfl rfl) (fun hG => QV.fieldAddr fd31_2 rfl rfl) ?_
  refine WL.g rfl rfl (GuardIs.neg rfl rfl) (fun hG => QV.load pl29 rfl hG (Own.cell 0 rfl rfl)) ?_
  refine WL.g rfl rfl (GuardIs.neg rfl rfl) (fun hG => QV.lenS Try.underlying29 rfl hG h_k__ops.lenMap) ?_
  refine WL.g rfl rfl (GuardIs.neg rfl rfl) (fun hG => QV.gtr rfl hG rfl rfl) ?_
  refine WL.q rfl rfl rfl (QV.pickOr rfl rfl rfl (fun h => notF h)) ?_
  refine WL.nil ?_
  refine WQ.then ?_
  refine WC.cond rfl (fun h6 => ?_) (fun h6 => ?_)
  · skip
    have hm7 := br_t h6 hm5; clear hm5
    refine WC.seq ?_
    refine WC.region ?_
    refine WL.q rfl rfl rfl (QV.assign rfl rfl) ?_
    refine WL.nil ?_
    refine WQ.then ?_
    refine WC.ret ?_
    refine WQ.then_ret ?_
    obtain rfl := (eq_of_some hm7).symm
    refine WQ.ret1 rfl rfl (fun w hw => ?_)
    exact ⟨rfl, Own.kgrow (fun _ x => x) hw⟩
  · skip
    have hm8 := br_f h6 hm5; clear hm5
    refine WC.skip ?_
    refine WQ.then ?_
    refine WC.seq ?_
    refine WC.region ?_
    refine WL.effect rfl ?_
    refine (EV.makeMap (ke := kP) (ve := i64v) (by decide) (fun b9 => ?_))
    refine WL.q rfl rfl rfl (QV.assign rfl rfl) ?_
    refine WL.nil ?_
    refine WQ.then ?_
    refine WC.seq ?_
    refine WC.seq ?_
    refine WC.region ?_
    refine WL.q rfl rfl rfl (QV.fieldAddr fd31_2 rfl rfl) ?_
    refine WL.q rfl rfl rfl (QV.load pl29 rfl rfl (Own.cell 1 rfl rfl)) ?_
    refine WL.q rfl rfl rfl (QV.lenS Try.underlying29 rfl rfl h_k__ops.lenMap) ?_
    refine WL.q rfl rfl rfl (QV.move rfl rfl) ?_
    refine WL.nil ?_
    refine WQ.then ?_
    obtain ⟨o10, ho11, hm12⟩ := bd_some hm8; clear hm8; obtain ⟨n13, ho14⟩ := lp_some ho11
    refine WC.bloop2 (H2 := [blk b2 [.int .i64 k_.pace, .int .i64 k_.stages, v_k__ops] 31, blk b1 [.int .i64 t.u0, .int .i64 t.u1, .int .i64 t.u2, .int .i64 t.w0, .int .i64 t.w1, .int .i64 t.w2, .int .i64 t.regs] 28, kn noM w.heap.size w w]) (τ := [(2, (true, _)), (3, (true, _)), (4, (true, _)), (7, (true, _)), (48, (true, _)), (49, (true, _))]) (fun (m9n_1 : List ((Int × Int) × Int)) (x50_1 : Int) => [(50, (true, .int .i64 x50_1))]) (fun (m9n_1 : List ((Int × Int) × Int)) (x50_1 : Int) => [mapR b9 kP i64v m9n_1]) (fun (m9n_1 : List ((Int × Int) × Int)) (x50_1 : Int) (m : Nat) => iter (kernel_May_L0 t k_ logs) m (m9n_1, x50_1) = some o10) (fun (m9n_1 : List ((Int × Int) × Int)) (x50_1 : Int) => o10 = .go (m9n_1, x50_1)) ([] : List ((Int × Int) × Int)) 0 n13 ho14 ⟨rfl, rfl, rfl, rfl, rfl, rfl, rfl, trivial⟩ (fun w hw => hw.pick [0, 1, 2, 3] (by decide)) ?_ ?_
    · skip
      rintro m9n_1 x50_1 rfl
      refine WQ.then ?_
      refine WC.seq ?_
      refine WC.region ?_
      refine WL.q rfl rfl rfl (QV.assign rfl rfl) ?_
      refine WL.nil ?_
      refine WQ.then ?_
      refine WC.ret ?_
      obtain rfl := (eq_of_some hm12).symm
      refine WQ.ret1 rfl rfl (fun w hw => ?_)
      exact ⟨rfl, Own.kgrow (fun _ x => x) hw⟩
    · skip
      rintro m9n_1 x50_1 m15 hI16
      obtain ⟨m17, s18, rfl, hm19, hn20⟩ := iter_step hI16; clear hI16; unfold kernel_May_L0 at hm19; simp only at hm19
      refine WC.seq ?_
      refine WC.region ?_
      refine WL.q rfl rfl rfl (QV.lss rfl rfl rfl rfl) ?_
      refine WL.nil ?_
      refine WQ.then ?_
      refine WC.seq ?_
      refine WC.cond rfl (fun h21 => ?_) (fun h21 => ?_)
      · skip
        have hm22 := br_t h21 hm19; clear hm19
        refine WC.skip ?_
        refine WQ.then ?_
        refine WC.seq ?_
        refine WC.block ?_
        refine WC.seq ?_
        refine WC.region ?_
        obtain ⟨c23, hm24⟩ := ck_some hm22; clear hm22
        obtain ⟨p25, hp26⟩ := h_k__ops.lenMap.ix (sz := 10) ln_len c23
        refine WL.q rfl rfl rfl (QV.indexSlice sl29 rfl rfl rfl rfl hp26) ?_
        refine WL.q rfl rfl rfl (QV.loadAgg ag75 rfl rfl rfl (fun w hw => ((Own.karr 3 rfl hk h_k__ops) w hw).ele hp26 c23)) ?_
        refine WL.effect rfl ?_
        refine (EV.alloc (by decide) ze75 (fun b27 => ?_))
        refine WL.effect rfl ?_
        refine (EV.store 0 rfl rfl rfl rfl rfl rfl (vs := [.int .i64 ((ele k_.ops x50_1).slot), .int .i64 ((ele k_.ops x50_1).stage), .int .i64 ((ele k_.ops x50_1).op), .int .i64 ((ele k_.ops x50_1).dest), .int .i64 ((ele k_.ops x50_1).a), .int .i64 ((ele k_.ops x50_1).b), .int .i64 ((ele k_.ops x50_1).ar), .int .i64 ((ele k_.ops x50_1).sp), .int .i64 ((ele k_.ops x50_1).pl), .int .i64 ((ele k_.ops x50_1).n)]) (show Value.cells _ = List.toArray _ from rfl) sz75 (Nat.le_of_ble_eq_true rfl) (one_cons rfl (one_cons rfl (one_cons rfl (one_cons rfl (one_cons rfl (one_cons rfl (one_cons rfl (one_cons rfl (one_cons rfl (one_cons rfl one_nil)))))))))) ?_)
        refine WL.nil ?_
        refine WQ.then ?_
        refine WC.seq ?_
        refine WC.seq ?_
        refine WC.region ?_
        refine WL.q rfl rfl rfl (QV.loadAgg ag28 rfl rfl rfl (Own.cellsBlk 3 rfl)) ?_
        refine WL.q rfl rfl rfl (QV.loadAgg ag31 rfl rfl rfl (Own.cellsBlk 2 rfl)) ?_
        refine WL.q rfl rfl rfl (QV.loadAgg ag75 rfl rfl rfl (Own.cellsBlk 0 rfl)) ?_
        refine WL.q rfl rfl rfl (QV.move rfl rfl) ?_
        obtain ⟨x28, hx29, hm30⟩ := bd_some hm24; clear hm24
        refine WL.q rfl rfl rfl (QV.call en88 (EvAll.cons rfl rfl (EvAll.cons rfl rfl (EvAll.cons rfl rfl (EvAll.cons rfl rfl EvAll.nil)))) (fun w hw => have h := kernel_op_w w hx29 ((Own.karr 4 rfl hk h_k__ops) w hw) ((Own.karr 4 rfl hk h_logs) w hw); h)) ?_
        refine WL.q rfl rfl rfl (QV.not rfl rfl) ?_
        refine WL.nil ?_
        refine WQ.then ?_
        refine WC.cond rfl (fun h31 => ?_) (fun h31 => ?_)
        · skip
          have hm32 := br_t h31 hm30; clear hm30
          refine WC.seq ?_
          refine WC.region ?_
          refine WL.q rfl rfl rfl (QV.assign rfl rfl) ?_
          refine WL.nil ?_
          refine WQ.then ?_
          refine WC.ret ?_
          refine WQ.then_ret ?_
          refine WQ.block_ret ?_
          refine WQ.then_ret ?_
          refine WQ.then_ret ?_
          refine WQ.block_ret ?_
          refine WQ.then_ret ?_
          refine WQ.then_ret ?_
          obtain rfl := up_ret hm32 hn20
          obtain rfl := (eq_of_some hm12).symm
          refine WQ.ret1 rfl rfl (fun w hw => ?_)
          exact ⟨rfl, Own.kgrow (fun _ x => x) hw⟩
        · skip
          have hm33 := br_f h31 hm30; clear hm30
          refine WC.skip ?_
          refine WQ.then ?_
          refine WC.seq ?_
          refine WC.dr (m := 8) (S := Own noM w [kn noM w.heap.size w w, blk b27 [.int .i64 ((ele k_.ops x50_1).slot), .int .i64 ((ele k_.ops x50_1).stage), .int .i64 ((ele k_.ops x50_1).op), .int .i64 ((ele k_.ops x50_1).dest), .int .i64 ((ele k_.ops x50_1).a), .int .i64 ((ele k_.ops x50_1).b), .int .i64 ((ele k_.ops x50_1).ar), .int .i64 ((ele k_.ops x50_1).sp), .int .i64 ((ele k_.ops x50_1).pl), .int .i64 ((ele k_.ops x50_1).n)] 75, mapR b9 kP i64v m9n_1, blk b2 [.int .i64 k_.pace, .int .i64 k_.stages, v_k__ops] 31, blk b1 [.int .i64 t.u0, .int .i64 t.u1, .int .i64 t.u2, .int .i64 t.w0, .int .i64 t.w1, .int .i64 t.w2, .int .i64 t.regs] 28]) (by kernel_rfl) (by kernel_rfl) (fun w hw => hw.pick [4, 0, 1, 2, 3] (by decide)) ?_
          refine WD.q 0 rfl (by kernel_rfl) rfl rfl rfl (QV.fieldAddr fd75_0 rfl rfl) ?_
          refine WD.q 1 rfl (by kernel_rfl) rfl rfl rfl (QV.load pl3 rfl rfl (Own.cell 1 rfl rfl)) ?_
          refine WD.q 2 rfl (by kernel_rfl) rfl rfl rfl (QV.fieldAddr fd75_2 rfl rfl) ?_
          refine WD.q 3 rfl (by kernel_rfl) rfl rfl rfl (QV.load pl3 rfl rfl (Own.cell 1 rfl rfl)) ?_
          obtain ⟨x34, hx35, hm36⟩ := bd_some hm33; clear hm33
          refine WD.q 4 rfl (by kernel_rfl) rfl rfl rfl (QV.call en89 (EvAll.cons rfl rfl EvAll.nil) (fun w hw => have h := num_Class_w w hx35 ; h)) ?_
          refine WD.q 5 rfl (by kernel_rfl) rfl rfl rfl (QV.build (ps := [(0, .tmp 61), (1, .tmp 64)]) (cells := [.int .i64 ((ele k_.ops x50_1).slot), .int .i64 x34]) (EvAll.cons rfl rfl (EvAll.cons rfl rfl EvAll.nil)) (by kernel_rfl)) ?_
          refine WD.o 6 rfl (by kernel_rfl) rfl ?_
          refine (EV.alloc (by decide) ze146 (fun b37 => ?_))
          refine WD.b (H' := [kn noM w.heap.size w w, blk b37 [.int .i64 0, .int .i64 0] 146, blk b27 [.int .i64 ((ele k_.ops x50_1).slot), .int .i64 ((ele k_.ops x50_1).stage), .int .i64 ((ele k_.ops x50_1).op), .int .i64 ((ele k_.ops x50_1).dest), .int .i64 ((ele k_.ops x50_1).a), .int .i64 ((ele k_.ops x50_1).b), .int .i64 ((ele k_.ops x50_1).ar), .int .i64 ((ele k_.ops x50_1).sp), .int .i64 ((ele k_.ops x50_1).pl), .int .i64 ((ele k_.ops x50_1).n)] 75, mapR b9 kP i64v m9n_1, blk b2 [.int .i64 k_.pace, .int .i64 k_.stages, v_k__ops] 31, blk b1 [.int .i64 t.u0, .int .i64 t.u1, .int .i64 t.u2, .int .i64 t.w0, .int .i64 t.w1, .int .i64 t.w2, .int .i64 t.regs] 28]) (fun w hw => hw.pick [5, 0, 1, 2, 3, 4] (by decide)) (fun w hw => hw.pick [0, 2, 3, 4, 5] (by decide)) ?_
          refine WD.l 7 rfl (by kernel_rfl) rfl ?_
          refine (EV.store 0 rfl rfl rfl rfl rfl rfl (vs := [.int .i64 ((ele k_.ops x50_1).slot), .int .i64 x34]) (show Value.cells _ = List.toArray _ from rfl) sz146 (Nat.le_of_ble_eq_true rfl) (one_cons rfl (one_cons rfl one_nil)) ?_)
          refine WQ.then ?_
          refine WC.seq ?_
          refine WC.dr (m := 7) (S := Own noM w [kn noM w.heap.size w w, blk b37 [.int .i64 ((ele k_.ops x50_1).slot), .int .i64 x34] 146, blk b27 [.int .i64 ((ele k_.ops x50_1).slot), .int .i64 ((ele k_.ops x50_1).stage), .int .i64 ((ele k_.ops x50_1).op), .int .i64 ((ele k_.ops x50_1).dest), .int .i64 ((ele k_.ops x50_1).a), .int .i64 ((ele k_.ops x50_1).b), .int .i64 ((ele k_.ops x50_1).ar), .int .i64 ((ele k_.ops x50_1).sp), .int .i64 ((ele k_.ops x50_1).pl), .int .i64 ((ele k_.ops x50_1).n)] 75, mapW b9 kP i64v 0 m9n_1, blk b2 [.int .i64 k_.pace, .int .i64 k_.stages, v_k__ops] 31, blk b1 [.int .i64 t.u0, .int .i64 t.u1, .int .i64 t.u2, .int .i64 t.w0, .int .i64 t.w1, .int .i64 t.w2, .int .i64 t.regs] 28]) (by kernel_rfl) (by kernel_rfl) (fun w hw => Own.mapWeak 3 0 rfl (hw.pick [5, 0, 1, 2, 3, 4] (by decide))) ?_
          refine WD.q 0 rfl (by kernel_rfl) rfl rfl rfl (QV.move rfl rfl) ?_
          refine WD.q 1 rfl (by kernel_rfl) rfl rfl rfl (QV.loadAgg ag146 rfl rfl rfl (Own.cellsBlk 1 rfl)) ?_
          refine WD.q 2 rfl (by kernel_rfl) rfl rfl rfl (QV.lookupW (k := ((ele k_.ops x50_1).slot, x34)) 3 0 mt145 kt146 zv3i64v rfl rfl rfl rfl rfl) ?_
          obtain ⟨c38, hm39⟩ := ck_some hm36; clear hm36
          refine WD.q 3 rfl (by kernel_rfl) rfl rfl rfl (QV.add rfl rfl rfl rfl c38) ?_
          refine WD.o 4 rfl (by kernel_rfl) rfl ?_
          refine (EV.mapEntry (by decide) ((ele k_.ops x50_1).slot, x34) 2 0 mt145 kt146 zv3i64v rfl rfl rfl rfl rfl (fun s40 => ?_))
          refine WD.b (H' := [kn noM w.heap.size w w, blk b37 [.int .i64 ((ele k_.ops x50_1).slot), .int .i64 x34] 146, blk b27 [.int .i64 ((ele k_.ops x50_1).slot), .int .i64 ((ele k_.ops x50_1).stage), .int .i64 ((ele k_.ops x50_1).op), .int .i64 ((ele k_.ops x50_1).dest), .int .i64 ((ele k_.ops x50_1).a), .int .i64 ((ele k_.ops x50_1).b), .int .i64 ((ele k_.ops x50_1).ar), .int .i64 ((ele k_.ops x50_1).sp), .int .i64 ((ele k_.ops x50_1).pl), .int .i64 ((ele k_.ops x50_1).n)] 75, mapW b9 kP i64v 0 m9n_1, blk b2 [.int .i64 k_.pace, .int .i64 k_.stages, v_k__ops] 31, blk b1 [.int .i64 t.u0, .int .i64 t.u1, .int .i64 t.u2, .int .i64 t.w0, .int .i64 t.w1, .int .i64 t.w2, .int .i64 t.regs] 28]) (fun w hw => Own.midWeak 3 rfl (hw.pick [5, 0, 1, 2, 3, 4] (by decide))) (fun w hw => hw.pick [0, 1, 2, 3, 4, 5] (by decide)) ?_
          refine WD.q 5 rfl (by kernel_rfl) rfl rfl rfl (QV.extract rfl rfl rfl) ?_
          refine WD.l 6 rfl (by kernel_rfl) rfl ?_
          refine (EV.entryStore (ke := kP) (ve := i64v) ((ele k_.ops x50_1).slot, x34) 2 ((mget m9n_1 ((ele k_.ops x50_1).slot, x34) 0) + 1) s40 rfl rfl rfl rfl rfl rfl rfl ?_)
          refine WQ.then ?_
          refine WC.seq ?_
          refine WC.dr (m := 9) (S := Own noM w [kn noM w.heap.size w w, blk b37 [.int .i64 ((ele k_.ops x50_1).slot), .int .i64 x34] 146, blk b27 [.int .i64 ((ele k_.ops x50_1).slot), .int .i64 ((ele k_.ops x50_1).stage), .int .i64 ((ele k_.ops x50_1).op), .int .i64 ((ele k_.ops x50_1).dest), .int .i64 ((ele k_.ops x50_1).a), .int .i64 ((ele k_.ops x50_1).b), .int .i64 ((ele k_.ops x50_1).ar), .int .i64 ((ele k_.ops x50_1).sp), .int .i64 ((ele k_.ops x50_1).pl), .int .i64 ((ele k_.ops x50_1).n)] 75, mapR b9 kP i64v (mput m9n_1 ((ele k_.ops x50_1).slot, x34) ((mget m9n_1 ((ele k_.ops x50_1).slot, x34) 0) + 1)), blk b2 [.int .i64 k_.pace, .int .i64 k_.stages, v_k__ops] 31, blk b1 [.int .i64 t.u0, .int .i64 t.u1, .int .i64 t.u2, .int .i64 t.w0, .int .i64 t.w1, .int .i64 t.w2, .int .i64 t.regs] 28]) (by kernel_rfl) (by kernel_rfl) (fun w hw => hw.pick [5, 0, 1, 2, 3, 4] (by decide)) ?_
          refine WD.q 0 rfl (by kernel_rfl) rfl rfl rfl (QV.move rfl rfl) ?_
          refine WD.q 1 rfl (by kernel_rfl) rfl rfl rfl (QV.loadAgg ag146 rfl rfl rfl (Own.cellsBlk 1 rfl)) ?_
          refine WD.q 2 rfl (by kernel_rfl) rfl rfl rfl (QV.lookup (k := ((ele k_.ops x50_1).slot, x34)) 3 0 mt145 kt146 zv3i64v rfl rfl rfl rfl rfl) ?_
          refine WD.q 3 rfl (by kernel_rfl) rfl rfl rfl (QV.indexArray ar146 rfl rfl rfl rfl (by decide) (by decide)) ?_
          refine WD.q 4 rfl (by kernel_rfl) rfl rfl rfl (QV.load pl3 rfl rfl (Own.cell 1 rfl rfl)) ?_
          refine WD.q 5 rfl (by kernel_rfl) rfl rfl rfl (QV.fieldAddr fd28_0 rfl rfl) ?_
          obtain ⟨c41, hm42⟩ := ck_some hm39; clear hm39
          refine WD.q 6 rfl (by kernel_rfl) rfl rfl rfl (QV.indexArray ar26 rfl rfl rfl rfl c41.1 c41.2) ?_
          refine WD.q 7 rfl (by kernel_rfl) rfl rfl rfl (QV.load pl3 rfl rfl (Own.cellSym 5 rfl (sel3_get (off := 0) (i := x34) c41.1 c41.2 rfl rfl rfl) (addr_sym _ _ _))) ?_
          refine WD.q 8 rfl (by kernel_rfl) rfl rfl rfl (QV.gtr rfl rfl rfl rfl) ?_
          refine WD.e (by kernel_rfl) ?_
          refine WQ.then ?_
          refine WC.cond rfl (fun h43 => ?_) (fun h43 => ?_)
          · skip
            have hm44 := br_t h43 hm42; clear hm42
            refine WC.seq ?_
            refine WC.region ?_
            refine WL.q rfl rfl rfl (QV.assign rfl rfl) ?_
            refine WL.nil ?_
            refine WQ.then ?_
            refine WC.ret ?_
            refine WQ.block_ret ?_
            refine WQ.then_ret ?_
            refine WQ.then_ret ?_
            refine WQ.block_ret ?_
            refine WQ.then_ret ?_
            refine WQ.then_ret ?_
            obtain rfl := up_ret hm44 hn20
            obtain rfl := (eq_of_some hm12).symm
            refine WQ.ret1 rfl rfl (fun w hw => ?_)
            exact ⟨rfl, Own.kgrow (fun _ x => x) hw⟩
          · skip
            have hm45 := br_f h43 hm42; clear hm42
            refine WC.skip ?_
            refine WQ.block ?_
            refine WQ.then ?_
            refine WC.region ?_
            obtain ⟨c46, hm47⟩ := ck_some hm45; clear hm45
            refine WL.q rfl rfl rfl (QV.add rfl rfl rfl rfl c46) ?_
            refine WL.q rfl rfl rfl (QV.move rfl rfl) ?_
            refine WL.nil ?_
            exact WQ.again2 (mput m9n_1 ((ele k_.ops x50_1).slot, x34) ((mget m9n_1 ((ele k_.ops x50_1).slot, x34) 0) + 1)) (x50_1 + 1) m17 (up_next hm47 hn20) (Nat.lt_succ_self _) ⟨rfl, rfl, rfl, rfl, rfl, rfl, rfl, trivial⟩ (fun w hw => hw.pick [2, 3, 4, 5] (by decide))
      · skip
        have hm48 := br_f h21 hm19; clear hm19
        refine WC.exit ?_
        refine WQ.then_exit ?_
        refine WQ.then_exit ?_
        refine WQ.block_exit ?_
        exact WQ.out2 m9n_1 x50_1 (up_brk hm48 hn20) ⟨rfl, rfl, rfl, rfl, rfl, rfl, rfl, trivial⟩ (fun w hw => hw.pick [0, 1, 2, 3] (by decide))
end Go.Proofs.Ytaimbkndebaaiac
end
