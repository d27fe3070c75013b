/- Texts that the law stands on: part 4. -/
import Derived.Test.YtaimbkndebaaiabZLregsMakes3
import Derived.Test.YtaimbkndebaaiabProg
import Derived.KernelRfl
import Derived.Shelf.SlSortCmp.NoneTotal
section
namespace Go.Proofs.Ytaimbkndebaaiab
open Go.Rd
set_option linter.unusedVariables false
set_option linter.unusedSimpArgs false
namespace TLoop
theorem ag24 : AggT Try.prog 24 7 := ⟨_, Try.underlying24, rfl, by kernel_rfl⟩
theorem ag49 : AggT Try.prog 49 3 := ⟨_, Try.underlying49, rfl, by kernel_rfl⟩
theorem ag57 : AggT Try.prog 57 2 := ⟨_, Try.underlying57, rfl, by kernel_rfl⟩
theorem ag59 : AggT Try.prog 59 9 := ⟨_, Try.underlying59, rfl, by kernel_rfl⟩
theorem ar22 : ArrayT Try.prog 22 3 1 := ⟨_, Try.underlying22, by kernel_rfl⟩
theorem en102 : Go.Rd.Enters Try.prog 102 := ⟨Try.f102, Try.func102, by kernel_rfl, by kernel_rfl⟩
theorem en103 : Go.Rd.Enters Try.prog 103 := ⟨Try.f103, Try.func103, by kernel_rfl, by kernel_rfl⟩
theorem en109 : Go.Rd.Enters Try.prog 109 := ⟨Try.f109, Try.func109, by kernel_rfl, by kernel_rfl⟩
theorem en123 : Go.Rd.Enters Try.prog 123 := ⟨Try.f123, Try.func123, by kernel_rfl, by kernel_rfl⟩
theorem en45 : Go.Rd.Enters Try.prog 45 := ⟨Try.f45, Try.func45, by kernel_rfl, by kernel_rfl⟩
theorem en46 : Go.Rd.Enters Try.prog 46 := ⟨Try.f46, Try.func46, by kernel_rfl, by kernel_rfl⟩
theorem en48 : Go.Rd.Enters Try.prog 48 := ⟨Try.f48, Try.func48, by kernel_rfl, by kernel_rfl⟩
theorem en49 : Go.Rd.Enters Try.prog 49 := ⟨Try.f49, Try.func49, by kernel_rfl, by kernel_rfl⟩
theorem en50 : Go.Rd.Enters Try.prog 50 := ⟨Try.f50, Try.func50, by kernel_rfl, by kernel_rfl⟩
theorem en52 : Go.Rd.Enters Try.prog 52 := ⟨Try.f52, Try.func52, by kernel_rfl, by kernel_rfl⟩
theorem en62 : Go.Rd.Enters Try.prog 62 := ⟨Try.f62, Try.func62, by kernel_rfl, by kernel_rfl⟩
theorem en68 : Go.Rd.Enters Try.prog 68 := ⟨Try.f68, Try.func68, by kernel_rfl, by kernel_rfl⟩
theorem en74 : Go.Rd.Enters Try.prog 74 := ⟨Try.f74, Try.func74, by kernel_rfl, by kernel_rfl⟩
theorem eq57 : EqT Try.prog 57 2 := ⟨by kernel_rfl, ⟨_, Try.underlying57⟩, by kernel_rfl, by kernel_rfl⟩
theorem fd24_0 : FieldT Try.prog 24 0 0 := ⟨_, _, 2, Try.underlying24, rfl, rfl, by kernel_rfl⟩
theorem fd24_1 : FieldT Try.prog 24 1 3 := ⟨_, _, 2, Try.underlying24, rfl, rfl, by kernel_rfl⟩
theorem fd24_2 : FieldT Try.prog 24 2 6 := ⟨_, _, 0, Try.underlying24, rfl, rfl, by kernel_rfl⟩
theorem fd49_0 : FieldT Try.prog 49 0 0 := ⟨_, _, 0, Try.underlying49, rfl, rfl, by kernel_rfl⟩
theorem fd49_1 : FieldT Try.prog 49 1 1 := ⟨_, _, 0, Try.underlying49, rfl, rfl, by kernel_rfl⟩
theorem fd49_2 : FieldT Try.prog 49 2 2 := ⟨_, _, 0, Try.underlying49, rfl, rfl, by kernel_rfl⟩
theorem fd57_0 : FieldT Try.prog 57 0 0 := ⟨_, _, 0, Try.underlying57, rfl, rfl, by kernel_rfl⟩
theorem fd57_1 : FieldT Try.prog 57 1 1 := ⟨_, _, 0, Try.underlying57, rfl, rfl, by kernel_rfl⟩
theorem fd59_0 : FieldT Try.prog 59 0 0 := ⟨_, _, 0, Try.underlying59, rfl, rfl, by kernel_rfl⟩
theorem fd59_1 : FieldT Try.prog 59 1 1 := ⟨_, _, 1, Try.underlying59, rfl, rfl, by kernel_rfl⟩
theorem fd59_2 : FieldT Try.prog 59 2 3 := ⟨_, _, 1, Try.underlying59, rfl, rfl, by kernel_rfl⟩
theorem fd59_3 : FieldT Try.prog 59 3 5 := ⟨_, _, 0, Try.underlying59, rfl, rfl, by kernel_rfl⟩
theorem fd59_4 : FieldT Try.prog 59 4 6 := ⟨_, _, 0, Try.underlying59, rfl, rfl, by kernel_rfl⟩
theorem fd59_5 : FieldT Try.prog 59 5 7 := ⟨_, _, 0, Try.underlying59, rfl, rfl, by kernel_rfl⟩
theorem fd59_6 : FieldT Try.prog 59 6 8 := ⟨_, _, 0, Try.underlying59, rfl, rfl, by kernel_rfl⟩
theorem pl2 : Plain Try.prog 2 := ⟨_, Try.underlying2, rfl⟩
theorem pl3 : Plain Try.prog 3 := ⟨_, Try.underlying3, rfl⟩
theorem pl30 : Plain Try.prog 30 := ⟨_, Try.underlying30, rfl⟩
theorem pl47 : Plain Try.prog 47 := ⟨_, Try.underlying47, rfl⟩
theorem sl106 : SliceT Try.prog 106 57 2 := ⟨Try.underlying106, by kernel_rfl⟩
theorem sl30 : SliceT Try.prog 30 3 1 := ⟨Try.underlying30, by kernel_rfl⟩
theorem sl47 : SliceT Try.prog 47 59 9 := ⟨Try.underlying47, by kernel_rfl⟩
theorem sz57 : SizeT Try.prog 57 2 := by unfold SizeT; kernel_rfl
theorem sz59 : SizeT Try.prog 59 9 := by unfold SizeT; kernel_rfl
theorem sz_106 : SliceZ Try.prog 106 57 2 [.int .i64 0, .int .i64 0] := ⟨Try.underlying106, by kernel_rfl⟩
theorem ze57 : ZeroT Try.prog 57 [.int .i64 0, .int .i64 0] := by unfold ZeroT; kernel_rfl
theorem ze59 : ZeroT Try.prog 59 [.int .i64 0, .int .i64 0, .int .i64 0, .int .i64 0, .int .i64 0, .int .i64 0, .int .i64 0, .int .i64 0, .int .i64 0] := by unfold ZeroT; kernel_rfl
end TLoop
open TLoop
set_option maxRecDepth 8000 in
theorem target_May_w {t : Tgt} {r : Bool} (w : World) (hm : target_May_m t = some r)  : Calls Try.prog 46 #[.agg #[.int .i64 t.u0, .int .i64 t.u1, .int .i64 t.u2, .int .i64 t.w0, .int .i64 t.w1, .int .i64 t.w2, .int .i64 t.regs]] w (fun e w' => e = .returned (.bool r) ∧ Grow w w') := by
  unfold target_May_m at hm
  have hk := Base.rfl (w := w)
  refine calls_of_WC (n := 42) (args := [.agg #[.int .i64 t.u0, .int .i64 t.u1, .int .i64 t.u2, .int .i64 t.w0, .int .i64 t.w1, .int .i64 t.w2, .int .i64 t.regs]]) Try.func46 rfl rfl (Nat.le_of_ble_eq_true rfl) ?_ (Own.startK hk (Own.start w))
  refine WC.seq ?_
  refine WC.region ?_
  refine WL.effect rfl ?_
  refine (EV.boxAgg (by decide) rfl rfl (fun b1 => ?_))
  refine WL.q rfl rfl rfl (QV.assign rfl rfl) ?_
  refine WL.nil ?_
  refine WQ.then ?_
  refine WC.seq ?_
  refine WC.seq ?_
  refine WC.region ?_
  refine WL.q rfl rfl rfl (QV.move rfl rfl) ?_
  refine WL.nil ?_
  refine WQ.then ?_
  obtain ⟨o2, ho3, hm4⟩ := bd_some hm; clear hm; obtain ⟨n5, ho6⟩ := lp_some ho3
  refine WC.bloop1 (H2 := [blk b1 [.int .i64 t.u0, .int .i64 t.u1, .int .i64 t.u2, .int .i64 t.w0, .int .i64 t.w1, .int .i64 t.w2, .int .i64 t.regs] 24, kn noM w.heap.size w w]) (τ := [(1, (true, _))]) (fun (x4_1 : Int) => [(4, (true, .int .i64 x4_1))]) (fun (x4_1 : Int) => []) (fun (x4_1 : Int) (m : Nat) => iter (target_May_L0 t) m x4_1 = some o2) (fun (x4_1 : Int) => o2 = .go x4_1) 0 n5 ho6 ⟨rfl, rfl, trivial⟩ (fun w hw => hw.pick [0, 1] (by decide)) ?_ ?_
  · skip
    rintro x4_1 rfl
    refine WQ.then ?_
    refine WC.seq ?_
    refine WC.region ?_
    refine WL.q rfl rfl rfl (QV.fieldAddr fd24_2 rfl rfl) ?_
    refine WL.q rfl rfl rfl (QV.load pl3 rfl rfl (Own.cell 0 rfl rfl)) ?_
    refine WL.q rfl rfl rfl (QV.geq rfl rfl rfl rfl) ?_
    refine WL.q rfl rfl rfl (QV.move rfl rfl) ?_
    refine WL.g rfl rfl (GuardIs.pos rfl rfl) (fun hG => QV.fieldAddr fd24_2 rfl rfl) ?_
    refine WL.g rfl rfl (GuardIs.pos rfl rfl) (fun hG => QV.load pl3 rfl hG (Own.cell 0 rfl rfl)) ?_
    refine WL.g rfl rfl (GuardIs.pos rfl rfl) (fun hG => QV.leq rfl hG rfl rfl) ?_
    refine WL.q rfl rfl rfl (QV.pickAnd rfl rfl rfl (fun h => h)) ?_
    refine WL.q rfl rfl rfl (QV.assign rfl rfl) ?_
    refine WL.nil ?_
    refine WQ.then ?_
    refine WC.ret ?_
    obtain rfl := (eq_of_some hm4).symm
    refine WQ.ret1 rfl rfl (fun w hw => ?_)
    exact ⟨rfl, Own.kgrow (fun _ x => x) hw⟩
  · skip
    rintro x4_1 m7 hI8
    obtain ⟨m9, s10, rfl, hm11, hn12⟩ := iter_step hI8; clear hI8; unfold target_May_L0 at hm11
    refine WC.seq ?_
    refine WC.region ?_
    refine WL.q rfl rfl rfl (QV.lss rfl rfl rfl rfl) ?_
    refine WL.nil ?_
    refine WQ.then ?_
    refine WC.seq ?_
    refine WC.cond rfl (fun h13 => ?_) (fun h13 => ?_)
    · skip
      have hm14 := br_t h13 hm11; clear hm11
      refine WC.skip ?_
      refine WQ.then ?_
      refine WC.seq ?_
      refine WC.block ?_
      refine WC.seq ?_
      refine WC.region ?_
      refine WL.q rfl rfl rfl (QV.move rfl rfl) ?_
      refine WL.q rfl rfl rfl (QV.assign rfl rfl) ?_
      refine WL.nil ?_
      refine WQ.then ?_
      refine WC.seq ?_
      refine WC.region ?_
      refine WL.q rfl rfl rfl (QV.move rfl rfl) ?_
      refine WL.q rfl rfl rfl (QV.fieldAddr fd24_0 rfl rfl) ?_
      obtain ⟨c15, hm16⟩ := ck_some hm14; clear hm14
      refine WL.q rfl rfl rfl (QV.indexArray ar22 rfl rfl rfl rfl c15.1 c15.2) ?_
      refine WL.q rfl rfl rfl (QV.load pl3 rfl rfl (Own.cellSym 0 rfl (sel3_get (off := 0) (i := x4_1) c15.1 c15.2 rfl rfl rfl) (addr_sym _ _ _))) ?_
      refine WL.q rfl rfl rfl (QV.lss rfl rfl rfl rfl) ?_
      refine WL.q rfl rfl rfl (QV.move rfl rfl) ?_
      refine WL.g rfl rfl (GuardIs.neg rfl rfl) (fun hG => QV.move rfl rfl) ?_
      refine WL.g rfl rfl (GuardIs.neg rfl rfl) (fun hG => QV.fieldAddr fd24_0 rfl rfl) ?_
      obtain ⟨c17, hm18⟩ := ck_some hm16; clear hm16
      refine WL.g rfl rfl (GuardIs.neg rfl rfl) (fun hG => QV.indexArray ar22 rfl hG rfl hG (c17 hG).1 (c17 hG).2) ?_
      refine WL.g rfl rfl (GuardIs.neg rfl rfl) (fun hG => QV.load pl3 rfl hG (Own.cellSym 0 rfl (sel3_get (off := 0) (i := x4_1) (c17 hG).1 (c17 hG).2 rfl rfl rfl) (addr_sym _ _ _))) ?_
      refine WL.g rfl rfl (GuardIs.neg rfl rfl) (fun hG => QV.gtr rfl hG rfl rfl) ?_
      refine WL.q rfl rfl rfl (QV.pickOr rfl rfl rfl (fun h => notF h)) ?_
      refine WL.q rfl rfl rfl (QV.move rfl rfl) ?_
      refine WL.g rfl rfl (GuardIs.neg rfl rfl) (fun hG => QV.move rfl rfl) ?_
      refine WL.g rfl rfl (GuardIs.neg rfl rfl) (fun hG => QV.fieldAddr fd24_1 rfl rfl) ?_
      obtain ⟨c19, hm20⟩ := ck_some hm18; clear hm18
      refine WL.g rfl rfl (GuardIs.neg rfl rfl) (fun hG => QV.indexArray ar22 rfl hG rfl hG (c19 hG).1 (c19 hG).2) ?_
      refine WL.g rfl rfl (GuardIs.neg rfl rfl) (fun hG => QV.load pl3 rfl hG (Own.cellSym 0 rfl (sel3_get (off := 3) (i := x4_1) (c19 hG).1 (c19 hG).2 rfl rfl rfl) (addr_sym _ _ _))) ?_
      refine WL.g rfl rfl (GuardIs.neg rfl rfl) (fun hG => QV.lss rfl hG rfl rfl) ?_
      refine WL.q rfl rfl rfl (QV.pickOr rfl rfl rfl (fun h => notF h)) ?_
      refine WL.q rfl rfl rfl (QV.move rfl rfl) ?_
      refine WL.g rfl rfl (GuardIs.neg rfl rfl) (fun hG => QV.move rfl rfl) ?_
      refine WL.g rfl rfl (GuardIs.neg rfl rfl) (fun hG => QV.fieldAddr fd24_1 rfl rfl) ?_
      obtain ⟨c21, hm22⟩ := ck_some hm20; clear hm20
      refine WL.g rfl rfl (GuardIs.neg rfl rfl) (fun hG => QV.indexArray ar22 rfl hG rfl hG (c21 hG).1 (c21 hG).2) ?_
      refine WL.g rfl rfl (GuardIs.neg rfl rfl) (fun hG => QV.load pl3 rfl hG (Own.cellSym 0 rfl (sel3_get (off := 3) (i := x4_1) (c21 hG).1 (c21 hG).2 rfl rfl rfl) (addr_sym _ _ _))) ?_
      refine WL.g rfl rfl (GuardIs.neg rfl rfl) (fun hG => QV.gtr rfl hG rfl rfl) ?_
      refine WL.q rfl rfl rfl (QV.pickOr rfl rfl rfl (fun h => notF h)) ?_
      refine WL.nil ?_
      refine WQ.then ?_
      refine WC.cond rfl (fun h23 => ?_) (fun h23 => ?_)
      · skip
        have hm24 := br_t h23 hm22; clear hm22
        refine WC.seq ?_
        refine WC.region ?_
        refine WL.q rfl rfl rfl (QV.assign rfl rfl) ?_
        refine WL.nil ?_
        refine WQ.then ?_
        refine WC.ret ?_
        refine WQ.block_ret ?_
        refine WQ.then_ret ?_
        refine WQ.then_ret ?_
        refine WQ.block_ret ?_
        refine WQ.then_ret ?_
        refine WQ.then_ret ?_
        obtain rfl := up_ret hm24 hn12
        obtain rfl := (eq_of_some hm4).symm
        refine WQ.ret1 rfl rfl (fun w hw => ?_)
        exact ⟨rfl, Own.kgrow (fun _ x => x) hw⟩
      · skip
        have hm25 := br_f h23 hm22; clear hm22
        refine WC.skip ?_
        refine WQ.block ?_
        refine WQ.then ?_
        refine WC.region ?_
        obtain ⟨c26, hm27⟩ := ck_some hm25; clear hm25
        refine WL.q rfl rfl rfl (QV.add rfl rfl rfl rfl c26) ?_
        refine WL.q rfl rfl rfl (QV.move rfl rfl) ?_
        refine WL.nil ?_
        exact WQ.again1 (x4_1 + 1) m9 (up_next hm27 hn12) (Nat.lt_succ_self _) ⟨rfl, rfl, trivial⟩ (fun w hw => hw.pick [0, 1] (by decide))
    · skip
      have hm28 := br_f h13 hm11; clear hm11
      refine WC.exit ?_
      refine WQ.then_exit ?_
      refine WQ.then_exit ?_
      refine WQ.block_exit ?_
      exact WQ.out1 x4_1 (up_brk hm28 hn12) ⟨rfl, rfl, trivial⟩ (fun w hw => hw.pick [0, 1] (by decide))

set_option maxRecDepth 8000 in
theorem target_Wait_w {t : Tgt} {op : Int} {r : Int} (w : World) (hm : target_Wait_m t op = some r)  : Calls Try.prog 63 #[.agg #[.int .i64 t.u0, .int .i64 t.u1, .int .i64 t.u2, .int .i64 t.w0, .int .i64 t.w1, .int .i64 t.w2, .int .i64 t.regs], .int .i64 op] w (fun e w' => e = .returned (.int .i64 r) ∧ Grow w w') := by
  unfold target_Wait_m at hm
  have hk := Base.rfl (w := w)
  refine calls_of_WC (n := 13) (args := [.agg #[.int .i64 t.u0, .int .i64 t.u1, .int .i64 t.u2, .int .i64 t.w0, .int .i64 t.w1, .int .i64 t.w2, .int .i64 t.regs], .int .i64 op]) Try.func63 rfl rfl (Nat.le_of_ble_eq_true rfl) ?_ (Own.startK hk (Own.start w))
  refine WC.seq ?_
  refine WC.region ?_
  refine WL.effect rfl ?_
  refine (EV.boxAgg (by decide) rfl rfl (fun b1 => ?_))
  refine WL.q rfl rfl rfl (QV.assign rfl rfl) ?_
  refine WL.nil ?_
  refine WQ.then ?_
  refine WC.seq ?_
  refine WC.seq ?_
  refine WC.region ?_
  refine WL.q rfl rfl rfl (QV.loadAgg ag24 rfl rfl rfl (Own.cellsBlk 0 rfl)) ?_
  obtain ⟨x2, hx3, hm4⟩ := bd_some hm; clear hm
  refine WL.q rfl rfl rfl (QV.call en46 (EvAll.cons rfl rfl EvAll.nil) (fun w hw => have h := target_May_w w hx3 ; h)) ?_
  refine WL.q rfl rfl rfl (QV.not rfl rfl) ?_
  refine WL.nil ?_
  refine WQ.then ?_
  refine WC.cond rfl (fun h5 => ?_) (fun h5 => ?_)
  · skip
    have hm6 := br_t h5 hm4; clear hm4
    refine WC.seq ?_
    refine WC.region ?_
    refine WL.q rfl rfl rfl (QV.assign rfl rfl) ?_
    refine WL.nil ?_
    refine WQ.then ?_
    refine WC.ret ?_
    refine WQ.then_ret ?_
    obtain rfl := (eq_of_some hm6).symm
    refine WQ.ret1 rfl rfl (fun w hw => ?_)
    exact ⟨rfl, Own.kgrow (fun _ x => x) hw⟩
  · skip
    have hm7 := br_f h5 hm4; clear hm4
    refine WC.skip ?_
    refine WQ.then ?_
    refine WC.seq ?_
    refine WC.region ?_
    refine WL.q rfl rfl rfl (QV.move rfl rfl) ?_
    obtain ⟨x8, hx9, hm10⟩ := bd_some hm7; clear hm7
    refine WL.q rfl rfl rfl (QV.call en48 (EvAll.cons rfl rfl EvAll.nil) (fun w hw => have h := num_Class_w w hx9 ; h)) ?_
    refine WL.q rfl rfl rfl (QV.fieldAddr fd24_1 rfl rfl) ?_
    obtain ⟨c11, hm12⟩ := ck_some hm10; clear hm10
    refine WL.q rfl rfl rfl (QV.indexArray ar22 rfl rfl rfl rfl c11.1 c11.2) ?_
    refine WL.q rfl rfl rfl (QV.load pl3 rfl rfl (Own.cellSym 0 rfl (sel3_get (off := 3) (i := x8) c11.1 c11.2 rfl rfl rfl) (addr_sym _ _ _))) ?_
    refine WL.q rfl rfl rfl (QV.assign rfl rfl) ?_
    refine WL.nil ?_
    refine WQ.then ?_
    refine WC.ret ?_
    obtain rfl := (eq_of_some hm12).symm
    refine WQ.ret1 rfl rfl (fun w hw => ?_)
    exact ⟨rfl, Own.kgrow (fun _ x => x) hw⟩

set_option maxRecDepth 8000 in
theorem roundelayref4_May_w {t : Tgt} {r : Bool} (w : World) (hm : roundelayref4_May_m t = some r)  : Calls Try.prog 49 #[.agg #[.int .i64 t.u0, .int .i64 t.u1, .int .i64 t.u2, .int .i64 t.w0, .int .i64 t.w1, .int .i64 t.w2, .int .i64 t.regs]] w (fun e w' => e = .returned (.bool r) ∧ Grow w w') := by
  unfold roundelayref4_May_m at hm
  have hk := Base.rfl (w := w)
  refine calls_of_WC (n := 42) (args := [.agg #[.int .i64 t.u0, .int .i64 t.u1, .int .i64 t.u2, .int .i64 t.w0, .int .i64 t.w1, .int .i64 t.w2, .int .i64 t.regs]]) Try.func49 rfl rfl (Nat.le_of_ble_eq_true rfl) ?_ (Own.startK hk (Own.start w))
  refine WC.seq ?_
  refine WC.region ?_
  refine WL.effect rfl ?_
  refine (EV.boxAgg (by decide) rfl rfl (fun b1 => ?_))
  refine WL.q rfl rfl rfl (QV.assign rfl rfl) ?_
  refine WL.nil ?_
  refine WQ.then ?_
  refine WC.seq ?_
  refine WC.seq ?_
  refine WC.region ?_
  refine WL.q rfl rfl rfl (QV.assign rfl rfl) ?_
  refine WL.nil ?_
  refine WQ.then ?_
  obtain ⟨o2, ho3, hm4⟩ := bd_some hm; clear hm; obtain ⟨n5, ho6⟩ := lp_some ho3
  refine WC.bloop1 (H2 := [blk b1 [.int .i64 t.u0, .int .i64 t.u1, .int .i64 t.u2, .int .i64 t.w0, .int .i64 t.w1, .int .i64 t.w2, .int .i64 t.regs] 24, kn noM w.heap.size w w]) (τ := [(1, (true, _))]) (fun (k3_1 : Int) => [(3, (true, .int .i64 k3_1))]) (fun (k3_1 : Int) => []) (fun (k3_1 : Int) (m : Nat) => iter (roundelayref4_May_L0 t) m k3_1 = some o2) (fun (k3_1 : Int) => o2 = .go k3_1) 0 n5 ho6 ⟨rfl, rfl, trivial⟩ (fun w hw => hw.pick [0, 1] (by decide)) ?_ ?_
  · skip
    rintro k3_1 rfl
    refine WQ.then ?_
    refine WC.seq ?_
    refine WC.region ?_
    refine WL.q rfl rfl rfl (QV.fieldAddr fd24_2 rfl rfl) ?_
    refine WL.q rfl rfl rfl (QV.load pl3 rfl rfl (Own.cell 0 rfl rfl)) ?_
    refine WL.q rfl rfl rfl (QV.gtr rfl rfl rfl rfl) ?_
    refine WL.q rfl rfl rfl (QV.move rfl rfl) ?_
    refine WL.g rfl rfl (GuardIs.pos rfl rfl) (fun hG => QV.fieldAddr fd24_2 rfl rfl) ?_
    refine WL.g rfl rfl (GuardIs.pos rfl rfl) (fun hG => QV.load pl3 rfl hG (Own.cell 0 rfl rfl)) ?_
    refine WL.g rfl rfl (GuardIs.pos rfl rfl) (fun hG => QV.leq rfl hG rfl rfl) ?_
    refine WL.q rfl rfl rfl (QV.pickAnd rfl rfl rfl (fun h => h)) ?_
    refine WL.q rfl rfl rfl (QV.assign rfl rfl) ?_
    refine WL.nil ?_
    refine WQ.then ?_
    refine WC.ret ?_
    obtain rfl := (eq_of_some hm4).symm
    refine WQ.ret1 rfl rfl (fun w hw => ?_)
    exact ⟨rfl, Own.kgrow (fun _ x => x) hw⟩
  · skip
    rintro k3_1 m7 hI8
    obtain ⟨m9, s10, rfl, hm11, hn12⟩ := iter_step hI8; clear hI8; unfold roundelayref4_May_L0 at hm11
    refine WC.seq ?_
    refine WC.seq ?_
    refine WC.region ?_
    refine WL.q rfl rfl rfl (QV.move rfl rfl) ?_
    refine WL.q rfl rfl rfl (QV.lss rfl rfl rfl rfl) ?_
    refine WL.nil ?_
    refine WQ.then ?_
    refine WC.cond rfl (fun h13 => ?_) (fun h13 => ?_)
    · skip
      have hm14 := br_t h13 hm11; clear hm11
      refine WC.skip ?_
      refine WQ.then ?_
      refine WC.seq ?_
      refine WC.block ?_
      refine WC.seq ?_
      refine WC.region ?_
      refine WL.q rfl rfl rfl (QV.move rfl rfl) ?_
      refine WL.q rfl rfl rfl (QV.fieldAddr fd24_0 rfl rfl) ?_
      obtain ⟨c15, hm16⟩ := ck_some hm14; clear hm14
      refine WL.q rfl rfl rfl (QV.indexArray ar22 rfl rfl rfl rfl c15.1 c15.2) ?_
      refine WL.q rfl rfl rfl (QV.load pl3 rfl rfl (Own.cellSym 0 rfl (sel3_get (off := 0) (i := k3_1) c15.1 c15.2 rfl rfl rfl) (addr_sym _ _ _))) ?_
      refine WL.q rfl rfl rfl (QV.lss rfl rfl rfl rfl) ?_
      refine WL.q rfl rfl rfl (QV.move rfl rfl) ?_
      refine WL.g rfl rfl (GuardIs.neg rfl rfl) (fun hG => QV.move rfl rfl) ?_
      refine WL.g rfl rfl (GuardIs.neg rfl rfl) (fun hG => QV.fieldAddr fd24_0 rfl rfl) ?_
      obtain ⟨c17, hm18⟩ := ck_some hm16; clear hm16
      refine WL.g rfl rfl (GuardIs.neg rfl rfl) (fun hG => QV.indexArray ar22 rfl hG rfl hG (c17 hG).1 (c17 hG).2) ?_
      refine WL.g rfl rfl (GuardIs.neg rfl rfl) (fun hG => QV.load pl3 rfl hG (Own.cellSym 0 rfl (sel3_get (off := 0) (i := k3_1) (c17 hG).1 (c17 hG).2 rfl rfl rfl) (addr_sym _ _ _))) ?_
      refine WL.g rfl rfl (GuardIs.neg rfl rfl) (fun hG => QV.gtr rfl hG rfl rfl) ?_
      refine WL.q rfl rfl rfl (QV.pickOr rfl rfl rfl (fun h => notF h)) ?_
      refine WL.q rfl rfl rfl (QV.move rfl rfl) ?_
      refine WL.g rfl rfl (GuardIs.neg rfl rfl) (fun hG => QV.move rfl rfl) ?_
      refine WL.g rfl rfl (GuardIs.neg rfl rfl) (fun hG => QV.fieldAddr fd24_1 rfl rfl) ?_
      obtain ⟨c19, hm20⟩ := ck_some hm18; clear hm18
      refine WL.g rfl rfl (GuardIs.neg rfl rfl) (fun hG => QV.indexArray ar22 rfl hG rfl hG (c19 hG).1 (c19 hG).2) ?_
      refine WL.g rfl rfl (GuardIs.neg rfl rfl) (fun hG => QV.load pl3 rfl hG (Own.cellSym 0 rfl (sel3_get (off := 3) (i := k3_1) (c19 hG).1 (c19 hG).2 rfl rfl rfl) (addr_sym _ _ _))) ?_
      refine WL.g rfl rfl (GuardIs.neg rfl rfl) (fun hG => QV.lss rfl hG rfl rfl) ?_
      refine WL.q rfl rfl rfl (QV.pickOr rfl rfl rfl (fun h => notF h)) ?_
      refine WL.q rfl rfl rfl (QV.move rfl rfl) ?_
      refine WL.g rfl rfl (GuardIs.neg rfl rfl) (fun hG => QV.move rfl rfl) ?_
      refine WL.g rfl rfl (GuardIs.neg rfl rfl) (fun hG => QV.fieldAddr fd24_1 rfl rfl) ?_
      obtain ⟨c21, hm22⟩ := ck_some hm20; clear hm20
      refine WL.g rfl rfl (GuardIs.neg rfl rfl) (fun hG => QV.indexArray ar22 rfl hG rfl hG (c21 hG).1 (c21 hG).2) ?_
      refine WL.g rfl rfl (GuardIs.neg rfl rfl) (fun hG => QV.load pl3 rfl hG (Own.cellSym 0 rfl (sel3_get (off := 3) (i := k3_1) (c21 hG).1 (c21 hG).2 rfl rfl rfl) (addr_sym _ _ _))) ?_
      refine WL.g rfl rfl (GuardIs.neg rfl rfl) (fun hG => QV.gtr rfl hG rfl rfl) ?_
      refine WL.q rfl rfl rfl (QV.pickOr rfl rfl rfl (fun h => notF h)) ?_
      refine WL.nil ?_
      refine WQ.then ?_
      refine WC.cond rfl (fun h23 => ?_) (fun h23 => ?_)
      · skip
        have hm24 := br_t h23 hm22; clear hm22
        refine WC.seq ?_
        refine WC.region ?_
        refine WL.q rfl rfl rfl (QV.assign rfl rfl) ?_
        refine WL.nil ?_
        refine WQ.then ?_
        refine WC.ret ?_
        refine WQ.block_ret ?_
        refine WQ.then_ret ?_
        refine WQ.then_ret ?_
        refine WQ.block_ret ?_
        refine WQ.then_ret ?_
        refine WQ.then_ret ?_
        obtain rfl := up_ret hm24 hn12
        obtain rfl := (eq_of_some hm4).symm
        refine WQ.ret1 rfl rfl (fun w hw => ?_)
        exact ⟨rfl, Own.kgrow (fun _ x => x) hw⟩
      · skip
        have hm25 := br_f h23 hm22; clear hm22
        refine WC.skip ?_
        refine WQ.block ?_
        refine WQ.then ?_
        refine WC.region ?_
        refine WL.q rfl rfl rfl (QV.move rfl rfl) ?_
        obtain ⟨c26, hm27⟩ := ck_some hm25; clear hm25
        refine WL.q rfl rfl rfl (QV.add rfl rfl rfl rfl c26) ?_
        refine WL.q rfl rfl rfl (QV.assign rfl rfl) ?_
        refine WL.nil ?_
        exact WQ.again1 (k3_1 + 1) m9 (up_next hm27 hn12) (Nat.lt_succ_self _) ⟨rfl, rfl, trivial⟩ (fun w hw => hw.pick [0, 1] (by decide))
    · skip
      have hm28 := br_f h13 hm11; clear hm11
      refine WC.exit ?_
      refine WQ.then_exit ?_
      refine WQ.then_exit ?_
      refine WQ.block_exit ?_
      exact WQ.out1 k3_1 (up_brk hm28 hn12) ⟨rfl, rfl, trivial⟩ (fun w hw => hw.pick [0, 1] (by decide))

set_option maxRecDepth 8000 in
theorem roundelayref4_Wait_w {t : Tgt} {op : Int} {r : Int} (w : World) (hm : roundelayref4_Wait_m t op = some r)  : Calls Try.prog 78 #[.agg #[.int .i64 t.u0, .int .i64 t.u1, .int .i64 t.u2, .int .i64 t.w0, .int .i64 t.w1, .int .i64 t.w2, .int .i64 t.regs], .int .i64 op] w (fun e w' => e = .returned (.int .i64 r) ∧ Grow w w') := by
  unfold roundelayref4_Wait_m at hm
  have hk := Base.rfl (w := w)
  refine calls_of_WC (n := 15) (args := [.agg #[.int .i64 t.u0, .int .i64 t.u1, .int .i64 t.u2, .int .i64 t.w0, .int .i64 t.w1, .int .i64 t.w2, .int .i64 t.regs], .int .i64 op]) Try.func78 rfl rfl (Nat.le_of_ble_eq_true rfl) ?_ (Own.startK hk (Own.start w))
  refine WC.seq ?_
  refine WC.region ?_
  refine WL.effect rfl ?_
  refine (EV.boxAgg (by decide) rfl rfl (fun b1 => ?_))
  refine WL.q rfl rfl rfl (QV.assign rfl rfl) ?_
  refine WL.nil ?_
  refine WQ.then ?_
  refine WC.seq ?_
  refine WC.seq ?_
  refine WC.region ?_
  refine WL.q rfl rfl rfl (QV.loadAgg ag24 rfl rfl rfl (Own.cellsBlk 0 rfl)) ?_
  obtain ⟨x2, hx3, hm4⟩ := bd_some hm; clear hm
  refine WL.q rfl rfl rfl (QV.call en49 (EvAll.cons rfl rfl EvAll.nil) (fun w hw => have h := roundelayref4_May_w w hx3 ; h)) ?_
  refine WL.q rfl rfl rfl (QV.not rfl rfl) ?_
  refine WL.nil ?_
  refine WQ.then ?_
  refine WC.cond rfl (fun h5 => ?_) (fun h5 => ?_)
  · skip
    have hm6 := br_t h5 hm4; clear hm4
    refine WC.seq ?_
    refine WC.region ?_
    refine WL.q rfl rfl rfl (QV.assign rfl rfl) ?_
    refine WL.nil ?_
    refine WQ.then ?_
    refine WC.ret ?_
    refine WQ.then_ret ?_
    obtain rfl := (eq_of_some hm6).symm
    refine WQ.ret1 rfl rfl (fun w hw => ?_)
    exact ⟨rfl, Own.kgrow (fun _ x => x) hw⟩
  · skip
    have hm7 := br_f h5 hm4; clear hm4
    refine WC.skip ?_
    refine WQ.then ?_
    refine WC.seq ?_
    refine WC.region ?_
    refine WL.q rfl rfl rfl (QV.move rfl rfl) ?_
    obtain ⟨x8, hx9, hm10⟩ := bd_some hm7; clear hm7
    refine WL.q rfl rfl rfl (QV.call en52 (EvAll.cons rfl rfl EvAll.nil) (fun w hw => have h := roundelayref1_Class_w w hx9 ; h)) ?_
    refine WL.q rfl rfl rfl (QV.assign rfl rfl) ?_
    refine WL.nil ?_
    refine WQ.then ?_
    refine WC.seq ?_
    refine WC.region ?_
    refine WL.q rfl rfl rfl (QV.move rfl rfl) ?_
    refine WL.q rfl rfl rfl (QV.fieldAddr fd24_1 rfl rfl) ?_
    obtain ⟨c11, hm12⟩ := ck_some hm10; clear hm10
    refine WL.q rfl rfl rfl (QV.indexArray ar22 rfl rfl rfl rfl c11.1 c11.2) ?_
    refine WL.q rfl rfl rfl (QV.load pl3 rfl rfl (Own.cellSym 0 rfl (sel3_get (off := 3) (i := x8) c11.1 c11.2 rfl rfl rfl) (addr_sym _ _ _))) ?_
    refine WL.q rfl rfl rfl (QV.assign rfl rfl) ?_
    refine WL.nil ?_
    refine WQ.then ?_
    refine WC.ret ?_
    obtain rfl := (eq_of_some hm12).symm
    refine WQ.ret1 rfl rfl (fun w hw => ?_)
    exact ⟨rfl, Own.kgrow (fun _ x => x) hw⟩

set_option maxRecDepth 8000 in
theorem loop_in_w {n_ : Int} {from_ : Int} {below : Int} {r : Bool} (w : World) (hm : loop_in_m n_ from_ below = some r)  : Calls Try.prog 102 #[.int .i64 n_, .int .i64 from_, .int .i64 below] w (fun e w' => e = .returned (.bool r) ∧ Grow w w') := by
  unfold loop_in_m at hm
  have hk := Base.rfl (w := w)
  refine calls_of_WC (n := 15) (args := [.int .i64 n_, .int .i64 from_, .int .i64 below]) Try.func102 rfl rfl (Nat.le_of_ble_eq_true rfl) ?_ (Own.startK hk (Own.start w))
  refine WC.seq ?_
  refine WC.region ?_
  refine WL.q rfl rfl rfl (QV.assign rfl rfl) ?_
  refine WL.nil ?_
  refine WQ.then ?_
  refine WC.seq ?_
  refine WC.region ?_
  refine WL.q rfl rfl rfl (QV.move rfl rfl) ?_
  refine WL.q rfl rfl rfl (QV.move rfl rfl) ?_
  refine WL.q rfl rfl rfl (QV.geq rfl rfl rfl rfl) ?_
  refine WL.q rfl rfl rfl (QV.move rfl rfl) ?_
  refine WL.g rfl rfl (GuardIs.pos rfl rfl) (fun hG => QV.move rfl rfl) ?_
  refine WL.g rfl rfl (GuardIs.pos rfl rfl) (fun hG => QV.move rfl rfl) ?_
  refine WL.g rfl rfl (GuardIs.pos rfl rfl) (fun hG => QV.lss rfl hG rfl hG) ?_
  refine WL.q rfl rfl rfl (QV.pickAnd rfl rfl rfl (fun h => h)) ?_
  refine WL.q rfl rfl rfl (QV.assign rfl rfl) ?_
  refine WL.nil ?_
  refine WQ.then ?_
  refine WC.ret ?_
  obtain rfl := (eq_of_some hm).symm
  refine WQ.ret1 rfl rfl (fun w hw => ?_)
  exact ⟨rfl, Own.kgrow (fun _ x => x) hw⟩

set_option maxRecDepth 8000 in
theorem loop_Uses_w {s : Stm} {r : List Rf} {K0 : World} (hm : loop_Uses_m s = some r)  (M : Nat → Prop) (w : World) (hk : Base M K0 w) (hw0 : Own M w [] w) : Calls Try.prog 62 #[.agg #[.int .i64 s.op, .int .i64 s.a.st, .int .i64 s.a.bk, .int .i64 s.b.st, .int .i64 s.b.bk, .int .i64 s.ar, .int .i64 s.sp, .int .i64 s.pl, .int .i64 s.n]] w (fun e w' => ∃ X : Value × World, e = .returned (X.1) ∧ Own M w (kn M w.heap.size K0 X.2 :: []) w' ∧ Arr X.2 X.1 2 (r.map Rf.cells)) := by
  unfold loop_Uses_m at hm
  refine calls_of_WC (n := 19) (args := [.agg #[.int .i64 s.op, .int .i64 s.a.st, .int .i64 s.a.bk, .int .i64 s.b.st, .int .i64 s.b.bk, .int .i64 s.ar, .int .i64 s.sp, .int .i64 s.pl, .int .i64 s.n]]) Try.func62 rfl rfl (Nat.le_of_ble_eq_true rfl) ?_ (Own.startK hk hw0)
  refine WC.seq ?_
  refine WC.region ?_
  refine WL.effect rfl ?_
  refine (EV.boxAgg (by decide) rfl rfl (fun b1 => ?_))
  refine WL.q rfl rfl rfl (QV.assign rfl rfl) ?_
  refine WL.nil ?_
  refine WQ.then ?_
  refine WC.seq ?_
  refine WC.block ?_
  refine WC.seq ?_
  refine WC.region ?_
  refine WL.q rfl rfl rfl (QV.fieldAddr fd59_0 rfl rfl) ?_
  refine WL.q rfl rfl rfl (QV.load pl3 rfl rfl (Own.cell 0 rfl rfl)) ?_
  refine WL.q rfl rfl rfl (QV.eql rfl rfl rfl rfl) ?_
  refine WL.q rfl rfl rfl (QV.assign rfl rfl) ?_
  refine WL.nil ?_
  refine WQ.then ?_
  refine WC.cond rfl (fun h2 => ?_) (fun h2 => ?_)
  · skip
    have hm3 := br_t h2 hm; clear hm
    refine WC.seq ?_
    refine WC.region ?_
    refine WL.q rfl rfl rfl (QV.fieldAddr fd59_1 rfl rfl) ?_
    refine WL.q rfl rfl rfl (QV.loadAgg ag57 rfl rfl rfl (fun w hw => (Own.cellsBlk 0 rfl w hw).sub 1 2 rfl)) ?_
    refine WL.effect rfl ?_
    refine (EV.buildSlice (by decide) sz_106 (by decide) (by decide) (ps := [(0, .tmp 8)]) (cells := [.int .i64 s.a.st, .int .i64 s.a.bk]) (EvAll.cons rfl rfl EvAll.nil) (by kernel_rfl) (fun b4 => ?_))
    refine WL.q rfl rfl rfl (QV.assign rfl rfl) ?_
    refine WL.nil ?_
    refine WQ.then ?_
    refine WC.ret ?_
    refine WQ.block_ret ?_
    refine WQ.then_ret ?_
    obtain rfl := (eq_of_some hm3).symm
    refine WK.of (fun w hw => hw.blkVec Rf.cells ([s.a] : List Rf) rfl Rf.cells_len (Nat.le_of_ble_eq_true rfl)) ?_
    refine WK.of (C' := Own M w [kn M w.heap.size K0 K0, vec (blkSlice b4 1 1) 57 2 (List.map Rf.cells [s.a]), blk b1 [.int .i64 s.op, .int .i64 s.a.st, .int .i64 s.a.bk, .int .i64 s.b.st, .int .i64 s.b.bk, .int .i64 s.ar, .int .i64 s.sp, .int .i64 s.pl, .int .i64 s.n] 59]) (fun w hw => hw.pick [2, 0, 1] (by decide)) ?_
    refine WK.freeze hk (fun k5 hle5 hr5 => ?_)
    have hA5 := vec_arr hr5
    refine WQ.ret1 rfl rfl (fun w hw => ?_)
    exact ⟨((blkSlice b4 1 1), k5), rfl, hw.pick [0] (by decide), hA5⟩
  · skip
    have hm6 := br_f h2 hm; clear hm
    refine WC.seq ?_
    refine WC.region ?_
    refine WL.q rfl rfl rfl (QV.fieldAddr fd59_0 rfl rfl) ?_
    refine WL.q rfl rfl rfl (QV.load pl3 rfl rfl (Own.cell 0 rfl rfl)) ?_
    refine WL.q rfl rfl rfl (QV.gtr rfl rfl rfl rfl) ?_
    refine WL.q rfl rfl rfl (QV.assign rfl rfl) ?_
    refine WL.nil ?_
    refine WQ.then ?_
    refine WC.cond rfl (fun h7 => ?_) (fun h7 => ?_)
    · skip
      have hm8 := br_t h7 hm6; clear hm6
      refine WC.seq ?_
      refine WC.region ?_
      refine WL.q rfl rfl rfl (QV.fieldAddr fd59_1 rfl rfl) ?_
      refine WL.q rfl rfl rfl (QV.loadAgg ag57 rfl rfl rfl (fun w hw => (Own.cellsBlk 0 rfl w hw).sub 1 2 rfl)) ?_
      refine WL.q rfl rfl rfl (QV.fieldAddr fd59_2 rfl rfl) ?_
      refine WL.q rfl rfl rfl (QV.loadAgg ag57 rfl rfl rfl (fun w hw => (Own.cellsBlk 0 rfl w hw).sub 3 2 rfl)) ?_
      refine WL.effect rfl ?_
      refine (EV.buildSlice (by decide) sz_106 (by decide) (by decide) (ps := [(0, .tmp 15), (1, .tmp 17)]) (cells := [.int .i64 s.a.st, .int .i64 s.a.bk, .int .i64 s.b.st, .int .i64 s.b.bk]) (EvAll.cons rfl rfl (EvAll.cons rfl rfl EvAll.nil)) (by kernel_rfl) (fun b9 => ?_))
      refine WL.q rfl rfl rfl (QV.assign rfl rfl) ?_
      refine WL.nil ?_
      refine WQ.then ?_
      refine WC.ret ?_
      refine WQ.block_ret ?_
      refine WQ.then_ret ?_
      obtain rfl := (eq_of_some hm8).symm
      refine WK.of (fun w hw => hw.blkVec Rf.cells ([s.a, s.b] : List Rf) rfl Rf.cells_len (Nat.le_of_ble_eq_true rfl)) ?_
      refine WK.of (C' := Own M w [kn M w.heap.size K0 K0, vec (blkSlice b9 2 2) 57 2 (List.map Rf.cells [s.a, s.b]), blk b1 [.int .i64 s.op, .int .i64 s.a.st, .int .i64 s.a.bk, .int .i64 s.b.st, .int .i64 s.b.bk, .int .i64 s.ar, .int .i64 s.sp, .int .i64 s.pl, .int .i64 s.n] 59]) (fun w hw => hw.pick [2, 0, 1] (by decide)) ?_
      refine WK.freeze hk (fun k10 hle10 hr10 => ?_)
      have hA10 := vec_arr hr10
      refine WQ.ret1 rfl rfl (fun w hw => ?_)
      exact ⟨((blkSlice b9 2 2), k10), rfl, hw.pick [0] (by decide), hA10⟩
    · skip
      have hm11 := br_f h7 hm6; clear hm6
      refine WC.skip ?_
      refine WQ.block ?_
      refine WQ.then ?_
      refine WC.seq ?_
      refine WC.region ?_
      refine WL.q rfl rfl rfl (QV.assign rfl rfl) ?_
      refine WL.nil ?_
      refine WQ.then ?_
      refine WC.ret ?_
      obtain rfl := (eq_of_some hm11).symm
      refine WQ.ret1 rfl rfl (fun w hw => ?_)
      exact ⟨(.slice none 0 0, K0), rfl, hw.pick [1] (by decide), Arr.nil⟩

set_option maxRecDepth 8000 in
theorem loop_ref_w {v_l_logs : Value} {v_l_body : Value} {v_l_outs : Value} {l : Lp} {k_ : Int} {r_ : Rf} {r : Bool} (w : World) (hm : loop_ref_m l k_ r_ = some r) (h_l_logs : Arr w v_l_logs 1 (l.logs.map icell)) (h_l_body : Arr w v_l_body 9 (l.body.map Stm.cells)) (h_l_outs : Arr w v_l_outs 1 (l.outs.map icell)) : Calls Try.prog 123 #[.agg #[v_l_logs, v_l_body, v_l_outs], .int .i64 k_, .agg #[.int .i64 r_.st, .int .i64 r_.bk]] w (fun e w' => e = .returned (.bool r) ∧ Grow w w') := by
  unfold loop_ref_m at hm
  have hk := Base.rfl (w := w)
  refine calls_of_WC (n := 24) (args := [.agg #[v_l_logs, v_l_body, v_l_outs], .int .i64 k_, .agg #[.int .i64 r_.st, .int .i64 r_.bk]]) Try.func123 rfl rfl (Nat.le_of_ble_eq_true rfl) ?_ (Own.startK hk (Own.start w))
  refine WC.seq ?_
  refine WC.region ?_
  refine WL.effect rfl ?_
  refine (EV.boxAgg (by decide) rfl rfl (fun b1 => ?_))
  refine WL.effect rfl ?_
  refine (EV.boxAgg (by decide) rfl rfl (fun b2 => ?_))
  refine WL.q rfl rfl rfl (QV.assign rfl rfl) ?_
  refine WL.nil ?_
  refine WQ.then ?_
  refine WC.seq ?_
  refine WC.region ?_
  refine WL.q rfl rfl rfl (QV.fieldAddr fd49_1 rfl rfl) ?_
  refine WL.q rfl rfl rfl (QV.load pl47 rfl rfl (Own.cell 1 rfl rfl)) ?_
  refine WL.q rfl rfl rfl (QV.lenS Try.underlying47 rfl rfl h_l_body.lenMap) ?_
  refine WL.q rfl rfl rfl (QV.assign rfl rfl) ?_
  refine WL.nil ?_
  refine WQ.then ?_
  refine WC.seq ?_
  refine WC.seq ?_
  refine WC.region ?_
  refine WL.q rfl rfl rfl (QV.fieldAddr fd57_1 rfl rfl) ?_
  refine WL.q rfl rfl rfl (QV.load pl3 rfl rfl (Own.cell 0 rfl rfl)) ?_
  refine WL.q rfl rfl rfl (QV.eql rfl rfl rfl rfl) ?_
  refine WL.nil ?_
  refine WQ.then ?_
  refine WC.cond rfl (fun h3 => ?_) (fun h3 => ?_)
  · skip
    have hm4 := br_t h3 hm; clear hm
    refine WC.region ?_
    refine WL.q rfl rfl rfl (QV.move rfl rfl) ?_
    refine WL.q rfl rfl rfl (QV.assign rfl rfl) ?_
    refine WL.nil ?_
    refine WQ.then ?_
    refine WC.seq ?_
    refine WC.region ?_
    refine WL.q rfl rfl rfl (QV.fieldAddr fd57_1 rfl rfl) ?_
    refine WL.q rfl rfl rfl (QV.load pl3 rfl rfl (Own.cell 0 rfl rfl)) ?_
    obtain ⟨x5, hx6, hm7⟩ := bd_some hm4; clear hm4
    refine WL.q rfl rfl rfl (QV.call en102 (EvAll.cons rfl rfl (EvAll.cons rfl rfl (EvAll.cons rfl rfl EvAll.nil))) (fun w hw => have h := loop_in_w w hx6 ; h)) ?_
    refine WL.q rfl rfl rfl (QV.move rfl rfl) ?_
    refine WL.g rfl rfl (GuardIs.pos rfl rfl) (fun hG => QV.fieldAddr fd57_0 rfl rfl) ?_
    refine WL.g rfl rfl (GuardIs.pos rfl rfl) (fun hG => QV.load pl3 rfl hG (Own.cell 0 rfl rfl)) ?_
    refine WL.g rfl rfl (GuardIs.pos rfl rfl) (fun hG => QV.move rfl rfl) ?_
    obtain ⟨x8, hx9, hm10⟩ := bdG_some hm7; clear hm7
    refine WL.g rfl rfl (GuardIs.pos rfl rfl) (fun hG => QV.call en102 (EvAll.cons rfl hG (EvAll.cons rfl rfl (EvAll.cons rfl hG EvAll.nil))) (fun w hw => have h := loop_in_w w (hx9 hG) ; h)) ?_
    refine WL.q rfl rfl rfl (QV.pickAnd rfl rfl rfl (fun h => h)) ?_
    refine WL.q rfl rfl rfl (QV.assign rfl rfl) ?_
    refine WL.nil ?_
    refine WQ.then ?_
    refine WC.ret ?_
    obtain rfl := (eq_of_some hm10).symm
    refine WQ.ret1 rfl rfl (fun w hw => ?_)
    exact ⟨rfl, Own.kgrow (fun _ x => x) hw⟩
  · skip
    have hm11 := br_f h3 hm; clear hm
    refine WC.skip ?_
    refine WQ.then ?_
    refine WC.seq ?_
    refine WC.region ?_
    refine WL.q rfl rfl rfl (QV.fieldAddr fd57_1 rfl rfl) ?_
    refine WL.q rfl rfl rfl (QV.load pl3 rfl rfl (Own.cell 0 rfl rfl)) ?_
    obtain ⟨x12, hx13, hm14⟩ := bd_some hm11; clear hm11
    refine WL.q rfl rfl rfl (QV.call en102 (EvAll.cons rfl rfl (EvAll.cons rfl rfl (EvAll.cons rfl rfl EvAll.nil))) (fun w hw => have h := loop_in_w w hx13 ; h)) ?_
    refine WL.q rfl rfl rfl (QV.move rfl rfl) ?_
    refine WL.g rfl rfl (GuardIs.pos rfl rfl) (fun hG => QV.fieldAddr fd57_0 rfl rfl) ?_
    refine WL.g rfl rfl (GuardIs.pos rfl rfl) (fun hG => QV.load pl3 rfl hG (Own.cell 0 rfl rfl)) ?_
    refine WL.g rfl rfl (GuardIs.pos rfl rfl) (fun hG => QV.move rfl rfl) ?_
    obtain ⟨x15, hx16, hm17⟩ := bdG_some hm14; clear hm14
    refine WL.g rfl rfl (GuardIs.pos rfl rfl) (fun hG => QV.call en102 (EvAll.cons rfl hG (EvAll.cons rfl rfl (EvAll.cons rfl hG EvAll.nil))) (fun w hw => have h := loop_in_w w (hx16 hG) ; h)) ?_
    refine WL.q rfl rfl rfl (QV.pickAnd rfl rfl rfl (fun h => h)) ?_
    refine WL.q rfl rfl rfl (QV.assign rfl rfl) ?_
    refine WL.nil ?_
    refine WQ.then ?_
    refine WC.ret ?_
    obtain rfl := (eq_of_some hm17).symm
    refine WQ.ret1 rfl rfl (fun w hw => ?_)
    exact ⟨rfl, Own.kgrow (fun _ x => x) hw⟩

set_option maxRecDepth 8000 in
theorem loop_stmt_w {v_l_logs : Value} {v_l_body : Value} {v_l_outs : Value} {l : Lp} {k_ : Int} {r : Bool} (w : World) (hm : loop_stmt_m l k_ = some r) (h_l_logs : Arr w v_l_logs 1 (l.logs.map icell)) (h_l_body : Arr w v_l_body 9 (l.body.map Stm.cells)) (h_l_outs : Arr w v_l_outs 1 (l.outs.map icell)) : Calls Try.prog 103 #[.agg #[v_l_logs, v_l_body, v_l_outs], .int .i64 k_] w (fun e w' => e = .returned (.bool r) ∧ Grow w w') := by
  unfold loop_stmt_m at hm
  have hk := Base.rfl (w := w)
  refine calls_of_WC (n := 132) (args := [.agg #[v_l_logs, v_l_body, v_l_outs], .int .i64 k_]) Try.func103 rfl rfl (Nat.le_of_ble_eq_true rfl) ?_ (Own.startK hk (Own.start w))
  refine WC.seq ?_
  refine WC.region ?_
  refine WL.effect rfl ?_
  refine (EV.boxAgg (by decide) rfl rfl (fun b1 => ?_))
  refine WL.q rfl rfl rfl (QV.assign rfl rfl) ?_
  refine WL.nil ?_
  refine WQ.then ?_
  refine WC.seq ?_
  refine WC.region ?_
  refine WL.q rfl rfl rfl (QV.fieldAddr fd49_1 rfl rfl) ?_
  refine WL.q rfl rfl rfl (QV.load pl47 rfl rfl (Own.cell 0 rfl rfl)) ?_
  refine WL.q rfl rfl rfl (QV.move rfl rfl) ?_
  obtain ⟨c2, hm3⟩ := ck_some hm; clear hm
  obtain ⟨p4, hp5⟩ := h_l_body.lenMap.ix (sz := 9) ln_len c2
  refine WL.q rfl rfl rfl (QV.indexSlice sl47 rfl rfl rfl rfl hp5) ?_
  refine WL.q rfl rfl rfl (QV.loadAgg ag59 rfl rfl rfl (fun w hw => ((Own.karr 1 rfl hk h_l_body) w hw).ele hp5 c2)) ?_
  refine WL.effect rfl ?_
  refine (EV.alloc (by decide) ze59 (fun b6 => ?_))
  refine WL.effect rfl ?_
  refine (EV.store 0 rfl rfl rfl rfl rfl rfl (vs := [.int .i64 ((ele l.body k_).op), .int .i64 (((ele l.body k_).a).st), .int .i64 (((ele l.body k_).a).bk), .int .i64 (((ele l.body k_).b).st), .int .i64 (((ele l.body k_).b).bk), .int .i64 ((ele l.body k_).ar), .int .i64 ((ele l.body k_).sp), .int .i64 ((ele l.body k_).pl), .int .i64 ((ele l.body k_).n)]) (show Value.cells _ = List.toArray _ from rfl) sz59 (Nat.le_of_ble_eq_true rfl) (one_cons rfl (one_cons rfl (one_cons rfl (one_cons rfl (one_cons rfl (one_cons rfl (one_cons rfl (one_cons rfl (one_cons rfl one_nil))))))))) ?_)
  refine WL.nil ?_
  refine WQ.then ?_
  refine WC.seq ?_
  refine WC.region ?_
  refine WL.q rfl rfl rfl (QV.build (ps := []) (cells := [.int .i64 0, .int .i64 0]) EvAll.nil (by kernel_rfl)) ?_
  refine WL.effect rfl ?_
  refine (EV.alloc (by decide) ze57 (fun b7 => ?_))
  refine WL.effect rfl ?_
  refine (EV.store 0 rfl rfl rfl rfl rfl rfl (vs := [.int .i64 0, .int .i64 0]) (show Value.cells _ = List.toArray _ from rfl) sz57 (Nat.le_of_ble_eq_true rfl) (one_cons rfl (one_cons rfl one_nil)) ?_)
  refine WL.nil ?_
  refine WQ.then ?_
  refine WC.seq ?_
  refine WC.region ?_
  refine WL.q rfl rfl rfl (QV.fieldAddr fd59_3 rfl rfl) ?_
  refine WL.q rfl rfl rfl (QV.load pl3 rfl rfl (Own.cell 1 rfl rfl)) ?_
  refine WL.q rfl rfl rfl (QV.fieldAddr fd49_0 rfl rfl) ?_
  refine WL.q rfl rfl rfl (QV.load pl30 rfl rfl (Own.cell 2 rfl rfl)) ?_
  refine WL.q rfl rfl rfl (QV.lenS Try.underlying30 rfl rfl h_l_logs.lenMap) ?_
  obtain ⟨x8, hx9, hm10⟩ := bd_some hm3; clear hm3
  refine WL.q rfl rfl rfl (QV.call en102 (EvAll.cons rfl rfl (EvAll.cons rfl rfl (EvAll.cons rfl rfl EvAll.nil))) (fun w hw => have h := loop_in_w w hx9 ; h)) ?_
  refine WL.q rfl rfl rfl (QV.move rfl rfl) ?_
  refine WL.g rfl rfl (GuardIs.pos rfl rfl) (fun hG => QV.fieldAddr fd59_4 rfl rfl) ?_
  refine WL.g rfl rfl (GuardIs.pos rfl rfl) (fun hG => QV.load pl3 rfl hG (Own.cell 1 rfl rfl)) ?_
  obtain ⟨x11, hx12, hm13⟩ := bdG_some hm10; clear hm10
  refine WL.g rfl rfl (GuardIs.pos rfl rfl) (fun hG => QV.call en102 (EvAll.cons rfl hG (EvAll.cons rfl rfl (EvAll.cons rfl rfl EvAll.nil))) (fun w hw => have h := loop_in_w w (hx12 hG) ; h)) ?_
  refine WL.q rfl rfl rfl (QV.pickAnd rfl rfl rfl (fun h => h)) ?_
  refine WL.q rfl rfl rfl (QV.move rfl rfl) ?_
  refine WL.g rfl rfl (GuardIs.pos rfl rfl) (fun hG => QV.fieldAddr fd59_5 rfl rfl) ?_
  refine WL.g rfl rfl (GuardIs.pos rfl rfl) (fun hG => QV.load pl3 rfl hG (Own.cell 1 rfl rfl)) ?_
  obtain ⟨x14, hx15, hm16⟩ := bdG_some hm13; clear hm13
  refine WL.g rfl rfl (GuardIs.pos rfl rfl) (fun hG => QV.call en102 (EvAll.cons rfl hG (EvAll.cons rfl rfl (EvAll.cons rfl rfl EvAll.nil))) (fun w hw => have h := loop_in_w w (hx15 hG) ; h)) ?_
  refine WL.q rfl rfl rfl (QV.pickAnd rfl rfl rfl (fun h => h)) ?_
  refine WL.q rfl rfl rfl (QV.assign rfl rfl) ?_
  refine WL.nil ?_
  refine WQ.then ?_
  refine WC.seq ?_
  refine WC.region ?_
  refine WL.q rfl rfl rfl (QV.fieldAddr fd59_3 rfl rfl) ?_
  refine WL.q rfl rfl rfl (QV.load pl3 rfl rfl (Own.cell 1 rfl rfl)) ?_
  refine WL.q rfl rfl rfl (QV.eql rfl rfl rfl rfl) ?_
  refine WL.q rfl rfl rfl (QV.move rfl rfl) ?_
  refine WL.g rfl rfl (GuardIs.pos rfl rfl) (fun hG => QV.fieldAddr fd59_4 rfl rfl) ?_
  refine WL.g rfl rfl (GuardIs.pos rfl rfl) (fun hG => QV.load pl3 rfl hG (Own.cell 1 rfl rfl)) ?_
  refine WL.g rfl rfl (GuardIs.pos rfl rfl) (fun hG => QV.eql rfl hG rfl rfl) ?_
  refine WL.q rfl rfl rfl (QV.pickAnd rfl rfl rfl (fun h => h)) ?_
  refine WL.q rfl rfl rfl (QV.move rfl rfl) ?_
  refine WL.g rfl rfl (GuardIs.pos rfl rfl) (fun hG => QV.fieldAddr fd59_5 rfl rfl) ?_
  refine WL.g rfl rfl (GuardIs.pos rfl rfl) (fun hG => QV.load pl3 rfl hG (Own.cell 1 rfl rfl)) ?_
  refine WL.g rfl rfl (GuardIs.pos rfl rfl) (fun hG => QV.eql rfl hG rfl rfl) ?_
  refine WL.q rfl rfl rfl (QV.pickAnd rfl rfl rfl (fun h => h)) ?_
  refine WL.q rfl rfl rfl (QV.assign rfl rfl) ?_
  refine WL.nil ?_
  refine WQ.then ?_
  refine WC.seq ?_
  refine WC.seq ?_
  refine WC.region ?_
  refine WL.q rfl rfl rfl (QV.loadAgg ag59 rfl rfl rfl (Own.cellsBlk 1 rfl)) ?_
  refine WL.effect rfl ?_
  obtain ⟨x17, hx18, hm19⟩ := bd_some hm16; clear hm16
  refine EV.of (C' := Own noM w [kn noM w.heap.size w w, blk b7 [.int .i64 0, .int .i64 0] 57, blk b6 [.int .i64 ((ele l.body k_).op), .int .i64 (((ele l.body k_).a).st), .int .i64 (((ele l.body k_).a).bk), .int .i64 (((ele l.body k_).b).st), .int .i64 (((ele l.body k_).b).bk), .int .i64 ((ele l.body k_).ar), .int .i64 ((ele l.body k_).sp), .int .i64 ((ele l.body k_).pl), .int .i64 ((ele l.body k_).n)] 59, blk b1 [v_l_logs, v_l_body, v_l_outs] 49]) (fun w hw => hw.pick [3, 0, 1, 2] (by decide)) ?_
  refine (EV.callR (X := Value × World) (R := []) (fun X => X.1) (fun X => []) (fun X => X.2) (fun X => Arr X.2 X.1 2 (x17.map Rf.cells)) hk (fun _ h => by cases h; decide) en62 (EvAll.cons rfl rfl EvAll.nil) (fun M w h1 h2 => have h := loop_Uses_w hx18  M w h1 h2; h) (fun X20 hF20 hle20 => ?_))
  refine WL.q rfl rfl rfl (QV.lenS Try.underlying106 rfl rfl hF20.lenMap) ?_
  refine WL.q rfl rfl rfl (QV.move rfl rfl) ?_
  refine WL.nil ?_
  refine WQ.then ?_
  obtain ⟨o21, ho22, hm23⟩ := bd_some hm19; clear hm19; obtain ⟨n24, ho25⟩ := lp_some ho22
  refine WC.bloop1 (H2 := [kn noM w.heap.size w X20.2, blk b7 [.int .i64 0, .int .i64 0] 57, blk b6 [.int .i64 ((ele l.body k_).op), .int .i64 (((ele l.body k_).a).st), .int .i64 (((ele l.body k_).a).bk), .int .i64 (((ele l.body k_).b).st), .int .i64 (((ele l.body k_).b).bk), .int .i64 ((ele l.body k_).ar), .int .i64 ((ele l.body k_).sp), .int .i64 ((ele l.body k_).pl), .int .i64 ((ele l.body k_).n)] 59, blk b1 [v_l_logs, v_l_body, v_l_outs] 49]) (τ := [(1, (true, _)), (2, (true, _)), (5, (true, _)), (6, (true, _)), (7, (true, _)), (8, (true, _)), (47, (true, _)), (48, (true, _))]) (fun (x49_1 : Int) => [(49, (true, .int .i64 x49_1))]) (fun (x49_1 : Int) => []) (fun (x49_1 : Int) (m : Nat) => iter (loop_stmt_L0 l k_ x17) m x49_1 = some o21) (fun (x49_1 : Int) => o21 = .go x49_1) 0 n24 ho25 ⟨rfl, rfl, rfl, rfl, rfl, rfl, rfl, rfl, rfl, trivial⟩ (fun w hw => hw.pick [0, 1, 2, 3] (by decide)) ?_ ?_
  · skip
    rintro x49_1 rfl
    refine WQ.then ?_
    refine WC.seq ?_
    refine WC.block ?_
    refine WC.seq ?_
    refine WC.region ?_
    refine WL.q rfl rfl rfl (QV.fieldAddr fd59_0 rfl rfl) ?_
    refine WL.q rfl rfl rfl (QV.load pl3 rfl rfl (Own.cell 2 rfl rfl)) ?_
    refine WL.q rfl rfl rfl (QV.eql rfl rfl rfl rfl) ?_
    refine WL.q rfl rfl rfl (QV.assign rfl rfl) ?_
    refine WL.nil ?_
    refine WQ.then ?_
    refine WC.cond rfl (fun h26 => ?_) (fun h26 => ?_)
    · skip
      have hm27 := br_t h26 hm23; clear hm23
      refine WC.seq ?_
      refine WC.region ?_
      refine WL.q rfl rfl rfl (QV.move rfl rfl) ?_
      refine WL.q rfl rfl rfl (QV.move rfl rfl) ?_
      refine WL.g rfl rfl (GuardIs.pos rfl rfl) (fun hG => QV.fieldAddr fd59_1 rfl rfl) ?_
      refine WL.g rfl rfl (GuardIs.pos rfl rfl) (fun hG => QV.loadAgg ag57 rfl rfl hG (fun w hw => (Own.cellsBlk 2 rfl w hw).sub 1 2 rfl)) ?_
      refine WL.g rfl rfl (GuardIs.pos rfl rfl) (fun hG => QV.loadAgg ag57 rfl rfl rfl (Own.cellsBlk 1 rfl)) ?_
      refine WL.g rfl rfl (GuardIs.pos rfl rfl) (fun hG => QV.eqlF eq57 (ns := [((ele l.body k_).a).st, ((ele l.body k_).a).bk]) (ms := [0, 0]) rfl hG rfl hG rfl rfl) ?_
      refine WL.q rfl rfl rfl (QV.pickAnd rfl rfl rfl (fun h => h)) ?_
      refine WL.q rfl rfl rfl (QV.move rfl rfl) ?_
      refine WL.g rfl rfl (GuardIs.pos rfl rfl) (fun hG => QV.fieldAddr fd59_2 rfl rfl) ?_
      refine WL.g rfl rfl (GuardIs.pos rfl rfl) (fun hG => QV.loadAgg ag57 rfl rfl hG (fun w hw => (Own.cellsBlk 2 rfl w hw).sub 3 2 rfl)) ?_
      refine WL.g rfl rfl (GuardIs.pos rfl rfl) (fun hG => QV.loadAgg ag57 rfl rfl rfl (Own.cellsBlk 1 rfl)) ?_
      refine WL.g rfl rfl (GuardIs.pos rfl rfl) (fun hG => QV.eqlF eq57 (ns := [((ele l.body k_).b).st, ((ele l.body k_).b).bk]) (ms := [0, 0]) rfl hG rfl hG rfl rfl) ?_
      refine WL.q rfl rfl rfl (QV.pickAnd rfl rfl rfl (fun h => h)) ?_
      refine WL.q rfl rfl rfl (QV.assign rfl rfl) ?_
      refine WL.nil ?_
      refine WQ.then ?_
      refine WC.ret ?_
      refine WQ.block_ret ?_
      refine WQ.then_ret ?_
      obtain rfl := (eq_of_some hm27).symm
      refine WQ.ret1 rfl rfl (fun w hw => ?_)
      exact ⟨rfl, Own.kgrow (fun _ x => x) hw⟩
    · skip
      have hm28 := br_f h26 hm23; clear hm23
      refine WC.seq ?_
      refine WC.region ?_
      refine WL.q rfl rfl rfl (QV.fieldAddr fd59_6 rfl rfl) ?_
      refine WL.q rfl rfl rfl (QV.load pl2 rfl rfl (Own.cell 2 rfl rfl)) ?_
      refine WL.q rfl rfl rfl (QV.neq rfl rfl rfl rfl) ?_
      refine WL.q rfl rfl rfl (QV.assign rfl rfl) ?_
      refine WL.nil ?_
      refine WQ.then ?_
      refine WC.cond rfl (fun h29 => ?_) (fun h29 => ?_)
      · skip
        have hm30 := br_t h29 hm28; clear hm28
        refine WC.seq ?_
        refine WC.region ?_
        refine WL.q rfl rfl rfl (QV.assign rfl rfl) ?_
        refine WL.nil ?_
        refine WQ.then ?_
        refine WC.ret ?_
        refine WQ.block_ret ?_
        refine WQ.then_ret ?_
        obtain rfl := (eq_of_some hm30).symm
        refine WQ.ret1 rfl rfl (fun w hw => ?_)
        exact ⟨rfl, Own.kgrow (fun _ x => x) hw⟩
      · skip
        have hm31 := br_f h29 hm28; clear hm28
        refine WC.seq ?_
        refine WC.region ?_
        refine WL.q rfl rfl rfl (QV.fieldAddr fd59_0 rfl rfl) ?_
        refine WL.q rfl rfl rfl (QV.load pl3 rfl rfl (Own.cell 2 rfl rfl)) ?_
        refine WL.q rfl rfl rfl (QV.eql rfl rfl rfl rfl) ?_
        refine WL.q rfl rfl rfl (QV.assign rfl rfl) ?_
        refine WL.nil ?_
        refine WQ.then ?_
        refine WC.cond rfl (fun h32 => ?_) (fun h32 => ?_)
        · skip
          have hm33 := br_t h32 hm31; clear hm31
          refine WC.seq ?_
          refine WC.region ?_
          refine WL.q rfl rfl rfl (QV.move rfl rfl) ?_
          refine WL.q rfl rfl rfl (QV.move rfl rfl) ?_
          refine WL.g rfl rfl (GuardIs.pos rfl rfl) (fun hG => QV.fieldAddr fd59_1 rfl rfl) ?_
          refine WL.g rfl rfl (GuardIs.pos rfl rfl) (fun hG => QV.loadAgg ag57 rfl rfl hG (fun w hw => (Own.cellsBlk 2 rfl w hw).sub 1 2 rfl)) ?_
          refine WL.g rfl rfl (GuardIs.pos rfl rfl) (fun hG => QV.loadAgg ag57 rfl rfl rfl (Own.cellsBlk 1 rfl)) ?_
          refine WL.g rfl rfl (GuardIs.pos rfl rfl) (fun hG => QV.eqlF eq57 (ns := [((ele l.body k_).a).st, ((ele l.body k_).a).bk]) (ms := [0, 0]) rfl hG rfl hG rfl rfl) ?_
          refine WL.q rfl rfl rfl (QV.pickAnd rfl rfl rfl (fun h => h)) ?_
          refine WL.q rfl rfl rfl (QV.move rfl rfl) ?_
          refine WL.g rfl rfl (GuardIs.pos rfl rfl) (fun hG => QV.fieldAddr fd59_2 rfl rfl) ?_
          refine WL.g rfl rfl (GuardIs.pos rfl rfl) (fun hG => QV.loadAgg ag57 rfl rfl hG (fun w hw => (Own.cellsBlk 2 rfl w hw).sub 3 2 rfl)) ?_
          refine WL.g rfl rfl (GuardIs.pos rfl rfl) (fun hG => QV.loadAgg ag57 rfl rfl rfl (Own.cellsBlk 1 rfl)) ?_
          refine WL.g rfl rfl (GuardIs.pos rfl rfl) (fun hG => QV.eqlF eq57 (ns := [((ele l.body k_).b).st, ((ele l.body k_).b).bk]) (ms := [0, 0]) rfl hG rfl hG rfl rfl) ?_
          refine WL.q rfl rfl rfl (QV.pickAnd rfl rfl rfl (fun h => h)) ?_
          refine WL.q rfl rfl rfl (QV.assign rfl rfl) ?_
          refine WL.nil ?_
          refine WQ.then ?_
          refine WC.ret ?_
          refine WQ.block_ret ?_
          refine WQ.then_ret ?_
          obtain rfl := (eq_of_some hm33).symm
          refine WQ.ret1 rfl rfl (fun w hw => ?_)
          exact ⟨rfl, Own.kgrow (fun _ x => x) hw⟩
        · skip
          have hm34 := br_f h32 hm31; clear hm31
          refine WC.seq ?_
          refine WC.region ?_
          refine WL.q rfl rfl rfl (QV.fieldAddr fd59_0 rfl rfl) ?_
          refine WL.q rfl rfl rfl (QV.load pl3 rfl rfl (Own.cell 2 rfl rfl)) ?_
          refine WL.q rfl rfl rfl (QV.eql rfl rfl rfl rfl) ?_
          refine WL.q rfl rfl rfl (QV.assign rfl rfl) ?_
          refine WL.nil ?_
          refine WQ.then ?_
          refine WC.cond rfl (fun h35 => ?_) (fun h35 => ?_)
          · skip
            have hm36 := br_t h35 hm34; clear hm34
            refine WC.seq ?_
            refine WC.region ?_
            refine WL.q rfl rfl rfl (QV.move rfl rfl) ?_
            refine WL.q rfl rfl rfl (QV.move rfl rfl) ?_
            refine WL.g rfl rfl (GuardIs.pos rfl rfl) (fun hG => QV.fieldAddr fd59_1 rfl rfl) ?_
            refine WL.g rfl rfl (GuardIs.pos rfl rfl) (fun hG => QV.loadAgg ag57 rfl rfl hG (fun w hw => (Own.cellsBlk 2 rfl w hw).sub 1 2 rfl)) ?_
            refine WL.g rfl rfl (GuardIs.pos rfl rfl) (fun hG => QV.loadAgg ag57 rfl rfl rfl (Own.cellsBlk 1 rfl)) ?_
            refine WL.g rfl rfl (GuardIs.pos rfl rfl) (fun hG => QV.eqlF eq57 (ns := [((ele l.body k_).a).st, ((ele l.body k_).a).bk]) (ms := [0, 0]) rfl hG rfl hG rfl rfl) ?_
            refine WL.q rfl rfl rfl (QV.pickAnd rfl rfl rfl (fun h => h)) ?_
            refine WL.q rfl rfl rfl (QV.move rfl rfl) ?_
            refine WL.g rfl rfl (GuardIs.pos rfl rfl) (fun hG => QV.fieldAddr fd59_2 rfl rfl) ?_
            refine WL.g rfl rfl (GuardIs.pos rfl rfl) (fun hG => QV.loadAgg ag57 rfl rfl hG (fun w hw => (Own.cellsBlk 2 rfl w hw).sub 3 2 rfl)) ?_
            refine WL.g rfl rfl (GuardIs.pos rfl rfl) (fun hG => QV.loadAgg ag57 rfl rfl rfl (Own.cellsBlk 1 rfl)) ?_
            refine WL.g rfl rfl (GuardIs.pos rfl rfl) (fun hG => QV.eqlF eq57 (ns := [((ele l.body k_).b).st, ((ele l.body k_).b).bk]) (ms := [0, 0]) rfl hG rfl hG rfl rfl) ?_
            refine WL.q rfl rfl rfl (QV.pickAnd rfl rfl rfl (fun h => h)) ?_
            refine WL.q rfl rfl rfl (QV.assign rfl rfl) ?_
            refine WL.nil ?_
            refine WQ.then ?_
            refine WC.ret ?_
            refine WQ.block_ret ?_
            refine WQ.then_ret ?_
            obtain rfl := (eq_of_some hm36).symm
            refine WQ.ret1 rfl rfl (fun w hw => ?_)
            exact ⟨rfl, Own.kgrow (fun _ x => x) hw⟩
          · skip
            have hm37 := br_f h35 hm34; clear hm34
            refine WC.seq ?_
            refine WC.region ?_
            refine WL.q rfl rfl rfl (QV.fieldAddr fd59_0 rfl rfl) ?_
            refine WL.q rfl rfl rfl (QV.load pl3 rfl rfl (Own.cell 2 rfl rfl)) ?_
            refine WL.q rfl rfl rfl (QV.eql rfl rfl rfl rfl) ?_
            refine WL.q rfl rfl rfl (QV.assign rfl rfl) ?_
            refine WL.nil ?_
            refine WQ.then ?_
            refine WC.cond rfl (fun h38 => ?_) (fun h38 => ?_)
            · skip
              have hm39 := br_t h38 hm37; clear hm37
              refine WC.seq ?_
              refine WC.region ?_
              refine WL.q rfl rfl rfl (QV.move rfl rfl) ?_
              refine WL.q rfl rfl rfl (QV.move rfl rfl) ?_
              refine WL.g rfl rfl (GuardIs.pos rfl rfl) (fun hG => QV.fieldAddr fd59_2 rfl rfl) ?_
              refine WL.g rfl rfl (GuardIs.pos rfl rfl) (fun hG => QV.loadAgg ag57 rfl rfl hG (fun w hw => (Own.cellsBlk 2 rfl w hw).sub 3 2 rfl)) ?_
              refine WL.g rfl rfl (GuardIs.pos rfl rfl) (fun hG => QV.loadAgg ag57 rfl rfl rfl (Own.cellsBlk 1 rfl)) ?_
              refine WL.g rfl rfl (GuardIs.pos rfl rfl) (fun hG => QV.eqlF eq57 (ns := [((ele l.body k_).b).st, ((ele l.body k_).b).bk]) (ms := [0, 0]) rfl hG rfl hG rfl rfl) ?_
              refine WL.q rfl rfl rfl (QV.pickAnd rfl rfl rfl (fun h => h)) ?_
              refine WL.q rfl rfl rfl (QV.assign rfl rfl) ?_
              refine WL.nil ?_
              refine WQ.then ?_
              refine WC.ret ?_
              refine WQ.block_ret ?_
              refine WQ.then_ret ?_
              obtain rfl := (eq_of_some hm39).symm
              refine WQ.ret1 rfl rfl (fun w hw => ?_)
              exact ⟨rfl, Own.kgrow (fun _ x => x) hw⟩
            · skip
              have hm40 := br_f h38 hm37; clear hm37
              refine WC.skip ?_
              refine WQ.block ?_
              refine WQ.then ?_
              refine WC.seq ?_
              refine WC.region ?_
              refine WL.q rfl rfl rfl (QV.move rfl rfl) ?_
              refine WL.q rfl rfl rfl (QV.move rfl rfl) ?_
              refine WL.g rfl rfl (GuardIs.pos rfl rfl) (fun hG => QV.fieldAddr fd59_0 rfl rfl) ?_
              refine WL.g rfl rfl (GuardIs.pos rfl rfl) (fun hG => QV.load pl3 rfl hG (Own.cell 2 rfl rfl)) ?_
              refine WL.g rfl rfl (GuardIs.pos rfl rfl) (fun hG => QV.subW rfl hG rfl rfl) ?_
              obtain ⟨x41, hx42, hm43⟩ := bdG_some hm40; clear hm40
              refine WL.g rfl rfl (GuardIs.pos rfl rfl) (fun hG => QV.call en102 (EvAll.cons rfl hG (EvAll.cons rfl rfl (EvAll.cons rfl rfl EvAll.nil))) (fun w hw => have h := loop_in_w w (hx42 hG) ; h)) ?_
              refine WL.q rfl rfl rfl (QV.pickAnd rfl rfl rfl (fun h => h)) ?_
              refine WL.q rfl rfl rfl (QV.assign rfl rfl) ?_
              refine WL.nil ?_
              refine WQ.then ?_
              refine WC.ret ?_
              obtain rfl := (eq_of_some hm43).symm
              refine WQ.ret1 rfl rfl (fun w hw => ?_)
              exact ⟨rfl, Own.kgrow (fun _ x => x) hw⟩
  · skip
    rintro x49_1 m44 hI45
    obtain ⟨m46, s47, rfl, hm48, hn49⟩ := iter_step hI45; clear hI45; unfold loop_stmt_L0 at hm48
    refine WC.seq ?_
    refine WC.region ?_
    refine WL.q rfl rfl rfl (QV.lss rfl rfl rfl rfl) ?_
    refine WL.nil ?_
    refine WQ.then ?_
    refine WC.seq ?_
    refine WC.cond rfl (fun h50 => ?_) (fun h50 => ?_)
    · skip
      have hm51 := br_t h50 hm48; clear hm48
      refine WC.skip ?_
      refine WQ.then ?_
      refine WC.seq ?_
      refine WC.block ?_
      refine WC.seq ?_
      refine WC.region ?_
      obtain ⟨c52, hm53⟩ := ck_some hm51; clear hm51
      obtain ⟨p54, hp55⟩ := hF20.lenMap.ix (sz := 2) ln_len c52
      refine WL.q rfl rfl rfl (QV.indexSlice sl106 rfl rfl rfl rfl hp55) ?_
      refine WL.q rfl rfl rfl (QV.loadAgg ag57 rfl rfl rfl (fun w hw => ((Own.karr 0 rfl hk hF20) w hw).ele hp55 c52)) ?_
      refine WL.effect rfl ?_
      refine (EV.alloc (by decide) ze57 (fun b56 => ?_))
      refine WL.effect rfl ?_
      refine (EV.store 0 rfl rfl rfl rfl rfl rfl (vs := [.int .i64 ((ele x17 x49_1).st), .int .i64 ((ele x17 x49_1).bk)]) (show Value.cells _ = List.toArray _ from rfl) sz57 (Nat.le_of_ble_eq_true rfl) (one_cons rfl (one_cons rfl one_nil)) ?_)
      refine WL.nil ?_
      refine WQ.then ?_
      refine WC.seq ?_
      refine WC.region ?_
      refine WL.q rfl rfl rfl (QV.loadAgg ag49 rfl rfl rfl (Own.cellsBlk 4 rfl)) ?_
      refine WL.q rfl rfl rfl (QV.move rfl rfl) ?_
      refine WL.q rfl rfl rfl (QV.loadAgg ag57 rfl rfl rfl (Own.cellsBlk 0 rfl)) ?_
      obtain ⟨x57, hx58, hm59⟩ := bd_some hm53; clear hm53
      refine WL.q rfl rfl rfl (QV.call en123 (EvAll.cons rfl rfl (EvAll.cons rfl rfl (EvAll.cons rfl rfl EvAll.nil))) (fun w hw => have h := loop_ref_w w hx58 ((Own.karr 1 rfl hk (h_l_logs.le hle20)) w hw) ((Own.karr 1 rfl hk (h_l_body.le hle20)) w hw) ((Own.karr 1 rfl hk (h_l_outs.le hle20)) w hw); h)) ?_
      refine WL.q rfl rfl rfl (QV.not rfl rfl) ?_
      refine WL.nil ?_
      refine WQ.then ?_
      refine WC.cond rfl (fun h60 => ?_) (fun h60 => ?_)
      · skip
        have hm61 := br_t h60 hm59; clear hm59
        refine WC.seq ?_
        refine WC.region ?_
        refine WL.q rfl rfl rfl (QV.assign rfl rfl) ?_
        refine WL.nil ?_
        refine WQ.then ?_
        refine WC.ret ?_
        refine WQ.block_ret ?_
        refine WQ.then_ret ?_
        refine WQ.then_ret ?_
        refine WQ.block_ret ?_
        refine WQ.then_ret ?_
        refine WQ.then_ret ?_
        obtain rfl := up_ret hm61 hn49
        obtain rfl := (eq_of_some hm23).symm
        refine WQ.ret1 rfl rfl (fun w hw => ?_)
        exact ⟨rfl, Own.kgrow (fun _ x => x) hw⟩
      · skip
        have hm62 := br_f h60 hm59; clear hm59
        refine WC.skip ?_
        refine WQ.block ?_
        refine WQ.then ?_
        refine WC.region ?_
        obtain ⟨c63, hm64⟩ := ck_some hm62; clear hm62
        refine WL.q rfl rfl rfl (QV.add rfl rfl rfl rfl c63) ?_
        refine WL.q rfl rfl rfl (QV.move rfl rfl) ?_
        refine WL.nil ?_
        exact WQ.again1 (x49_1 + 1) m46 (up_next hm64 hn49) (Nat.lt_succ_self _) ⟨rfl, rfl, rfl, rfl, rfl, rfl, rfl, rfl, rfl, trivial⟩ (fun w hw => hw.pick [1, 2, 3, 4] (by decide))
    · skip
      have hm65 := br_f h50 hm48; clear hm48
      refine WC.exit ?_
      refine WQ.then_exit ?_
      refine WQ.then_exit ?_
      refine WQ.block_exit ?_
      exact WQ.out1 x49_1 (up_brk hm65 hn49) ⟨rfl, rfl, rfl, rfl, rfl, rfl, rfl, rfl, rfl, trivial⟩ (fun w hw => hw.pick [0, 1, 2, 3] (by decide))

set_option maxRecDepth 8000 in
theorem loop_May_w {v_l_logs : Value} {v_l_body : Value} {v_l_outs : Value} {l : Lp} {r : Bool} (w : World) (hm : loop_May_m l = some r) (h_l_logs : Arr w v_l_logs 1 (l.logs.map icell)) (h_l_body : Arr w v_l_body 9 (l.body.map Stm.cells)) (h_l_outs : Arr w v_l_outs 1 (l.outs.map icell)) : Calls Try.prog 61 #[.agg #[v_l_logs, v_l_body, v_l_outs]] w (fun e w' => e = .returned (.bool r) ∧ Grow w w') := by
  unfold loop_May_m at hm
  have hk := Base.rfl (w := w)
  refine calls_of_WC (n := 64) (args := [.agg #[v_l_logs, v_l_body, v_l_outs]]) Try.func61 rfl rfl (Nat.le_of_ble_eq_true rfl) ?_ (Own.startK hk (Own.start w))
  refine WC.seq ?_
  refine WC.region ?_
  refine WL.effect rfl ?_
  refine (EV.boxAgg (by decide) rfl rfl (fun b1 => ?_))
  refine WL.q rfl rfl rfl (QV.assign rfl rfl) ?_
  refine WL.nil ?_
  refine WQ.then ?_
  refine WC.seq ?_
  refine WC.seq ?_
  refine WC.region ?_
  refine WL.q rfl rfl rfl (QV.fieldAddr fd49_0 rfl rfl) ?_
  refine WL.q rfl rfl rfl (QV.load pl30 rfl rfl (Own.cell 0 rfl rfl)) ?_
  refine WL.q rfl rfl rfl (QV.lenS Try.underlying30 rfl rfl h_l_logs.lenMap) ?_
  refine WL.q rfl rfl rfl (QV.move rfl rfl) ?_
  refine WL.nil ?_
  refine WQ.then ?_
  obtain ⟨o2, ho3, hm4⟩ := bd_some hm; clear hm; obtain ⟨n5, ho6⟩ := lp_some ho3
  refine WC.bloop1 (H2 := [blk b1 [v_l_logs, v_l_body, v_l_outs] 49, kn noM w.heap.size w w]) (τ := [(1, (true, _)), (10, (true, _)), (11, (true, _))]) (fun (x12_1 : Int) => [(12, (true, .int .i64 x12_1))]) (fun (x12_1 : Int) => []) (fun (x12_1 : Int) (m : Nat) => iter (loop_May_L0 l) m x12_1 = some o2) (fun (x12_1 : Int) => o2 = .go x12_1) 0 n5 ho6 ⟨rfl, rfl, rfl, rfl, trivial⟩ (fun w hw => hw.pick [0, 1] (by decide)) ?_ ?_
  · skip
    rintro x12_1 rfl
    refine WQ.then ?_
    refine WC.seq ?_
    refine WC.region ?_
    refine WL.q rfl rfl rfl (QV.assign rfl rfl) ?_
    refine WL.nil ?_
    refine WQ.then ?_
    refine WC.seq ?_
    refine WC.seq ?_
    refine WC.region ?_
    refine WL.q rfl rfl rfl (QV.fieldAddr fd49_2 rfl rfl) ?_
    refine WL.q rfl rfl rfl (QV.load pl30 rfl rfl (Own.cell 0 rfl rfl)) ?_
    refine WL.q rfl rfl rfl (QV.lenS Try.underlying30 rfl rfl h_l_outs.lenMap) ?_
    refine WL.q rfl rfl rfl (QV.move rfl rfl) ?_
    refine WL.nil ?_
    refine WQ.then ?_
    obtain ⟨o7, ho8, hm9⟩ := bd_some hm4; clear hm4; obtain ⟨n10, ho11⟩ := lp_some ho8
    refine WC.bloop2 (H2 := [blk b1 [v_l_logs, v_l_body, v_l_outs] 49, kn noM w.heap.size w w]) (τ := [(1, (true, _)), (21, (true, _)), (22, (true, _))]) (fun (last5_2 : Int) (x23_2 : Int) => [(5, (true, .int .i64 last5_2)), (23, (true, .int .i64 x23_2))]) (fun (last5_2 : Int) (x23_2 : Int) => []) (fun (last5_2 : Int) (x23_2 : Int) (m : Nat) => iter (loop_May_L2 l) m (last5_2, x23_2) = some o7) (fun (last5_2 : Int) (x23_2 : Int) => o7 = .go (last5_2, x23_2)) (-1) 0 n10 ho11 ⟨rfl, rfl, rfl, rfl, rfl, trivial⟩ (fun w hw => hw.pick [0, 1] (by decide)) ?_ ?_
    · skip
      rintro last5_2 x23_2 rfl
      refine WQ.then ?_
      refine WC.seq ?_
      refine WC.seq ?_
      refine WC.region ?_
      refine WL.q rfl rfl rfl (QV.fieldAddr fd49_1 rfl rfl) ?_
      refine WL.q rfl rfl rfl (QV.load pl47 rfl rfl (Own.cell 0 rfl rfl)) ?_
      refine WL.q rfl rfl rfl (QV.lenS Try.underlying47 rfl rfl h_l_body.lenMap) ?_
      refine WL.q rfl rfl rfl (QV.move rfl rfl) ?_
      refine WL.nil ?_
      refine WQ.then ?_
      obtain ⟨o12, ho13, hm14⟩ := bd_some hm9; clear hm9; obtain ⟨n15, ho16⟩ := lp_some ho13
      refine WC.bloop1 (H2 := [blk b1 [v_l_logs, v_l_body, v_l_outs] 49, kn noM w.heap.size w w]) (τ := [(1, (true, _)), (39, (true, _))]) (fun (x40_3 : Int) => [(40, (true, .int .i64 x40_3))]) (fun (x40_3 : Int) => []) (fun (x40_3 : Int) (m : Nat) => iter (loop_May_L4 l) m x40_3 = some o12) (fun (x40_3 : Int) => o12 = .go x40_3) 0 n15 ho16 ⟨rfl, rfl, rfl, trivial⟩ (fun w hw => hw.pick [0, 1] (by decide)) ?_ ?_
      · skip
        rintro x40_3 rfl
        refine WQ.then ?_
        refine WC.seq ?_
        refine WC.region ?_
        refine WL.q rfl rfl rfl (QV.fieldAddr fd49_0 rfl rfl) ?_
        refine WL.q rfl rfl rfl (QV.load pl30 rfl rfl (Own.cell 0 rfl rfl)) ?_
        refine WL.q rfl rfl rfl (QV.lenS Try.underlying30 rfl rfl h_l_logs.lenMap) ?_
        refine WL.q rfl rfl rfl (QV.leq rfl rfl rfl rfl) ?_
        refine WL.q rfl rfl rfl (QV.move rfl rfl) ?_
        refine WL.g rfl rfl (GuardIs.pos rfl rfl) (fun hG => QV.fieldAddr fd49_1 rfl rfl) ?_
        refine WL.g rfl rfl (GuardIs.pos rfl rfl) (fun hG => QV.load pl47 rfl hG (Own.cell 0 rfl rfl)) ?_
        refine WL.g rfl rfl (GuardIs.pos rfl rfl) (fun hG => QV.lenS Try.underlying47 rfl hG h_l_body.lenMap) ?_
        refine WL.g rfl rfl (GuardIs.pos rfl rfl) (fun hG => QV.gtr rfl hG rfl rfl) ?_
        refine WL.q rfl rfl rfl (QV.pickAnd rfl rfl rfl (fun h => h)) ?_
        refine WL.q rfl rfl rfl (QV.assign rfl rfl) ?_
        refine WL.nil ?_
        refine WQ.then ?_
        refine WC.ret ?_
        obtain rfl := (eq_of_some hm14).symm
        refine WQ.ret1 rfl rfl (fun w hw => ?_)
        exact ⟨rfl, Own.kgrow (fun _ x => x) hw⟩
      · skip
        rintro x40_3 m17 hI18
        obtain ⟨m19, s20, rfl, hm21, hn22⟩ := iter_step hI18; clear hI18; unfold loop_May_L4 at hm21
        refine WC.seq ?_
        refine WC.region ?_
        refine WL.q rfl rfl rfl (QV.lss rfl rfl rfl rfl) ?_
        refine WL.nil ?_
        refine WQ.then ?_
        refine WC.seq ?_
        refine WC.cond rfl (fun h23 => ?_) (fun h23 => ?_)
        · skip
          have hm24 := br_t h23 hm21; clear hm21
          refine WC.skip ?_
          refine WQ.then ?_
          refine WC.seq ?_
          refine WC.block ?_
          refine WC.seq ?_
          refine WC.region ?_
          refine WL.q rfl rfl rfl (QV.move rfl rfl) ?_
          refine WL.q rfl rfl rfl (QV.assign rfl rfl) ?_
          refine WL.nil ?_
          refine WQ.then ?_
          refine WC.seq ?_
          refine WC.region ?_
          refine WL.q rfl rfl rfl (QV.fieldAddr fd49_1 rfl rfl) ?_
          refine WL.q rfl rfl rfl (QV.load pl47 rfl rfl (Own.cell 0 rfl rfl)) ?_
          refine WL.q rfl rfl rfl (QV.lenS Try.underlying47 rfl rfl h_l_body.lenMap) ?_
          refine WL.q rfl rfl rfl (QV.gtr rfl rfl rfl rfl) ?_
          refine WL.q rfl rfl rfl (QV.move rfl rfl) ?_
          refine WL.g rfl rfl (GuardIs.neg rfl rfl) (fun hG => QV.loadAgg ag49 rfl rfl rfl (Own.cellsBlk 0 rfl)) ?_
          refine WL.g rfl rfl (GuardIs.neg rfl rfl) (fun hG => QV.move rfl rfl) ?_
          obtain ⟨x25, hx26, hm27⟩ := bdG_some hm24; clear hm24
          refine WL.g rfl rfl (GuardIs.neg rfl rfl) (fun hG => QV.call en103 (EvAll.cons rfl hG (EvAll.cons rfl hG EvAll.nil)) (fun w hw => have h := loop_stmt_w w (hx26 hG) ((Own.karr 1 rfl hk h_l_logs) w hw) ((Own.karr 1 rfl hk h_l_body) w hw) ((Own.karr 1 rfl hk h_l_outs) w hw); h)) ?_
          refine WL.g rfl rfl (GuardIs.neg rfl rfl) (fun hG => QV.not rfl hG) ?_
          refine WL.q rfl rfl rfl (QV.pickOr rfl rfl rfl (fun h => notF h)) ?_
          refine WL.nil ?_
          refine WQ.then ?_
          refine WC.cond rfl (fun h28 => ?_) (fun h28 => ?_)
          · skip
            have hm29 := br_t h28 hm27; clear hm27
            refine WC.seq ?_
            refine WC.region ?_
            refine WL.q rfl rfl rfl (QV.assign rfl rfl) ?_
            refine WL.nil ?_
            refine WQ.then ?_
            refine WC.ret ?_
            refine WQ.block_ret ?_
            refine WQ.then_ret ?_
            refine WQ.then_ret ?_
            refine WQ.block_ret ?_
            refine WQ.then_ret ?_
            refine WQ.then_ret ?_
            obtain rfl := up_ret hm29 hn22
            obtain rfl := (eq_of_some hm14).symm
            refine WQ.ret1 rfl rfl (fun w hw => ?_)
            exact ⟨rfl, Own.kgrow (fun _ x => x) hw⟩
          · skip
            have hm30 := br_f h28 hm27; clear hm27
            refine WC.skip ?_
            refine WQ.block ?_
            refine WQ.then ?_
            refine WC.region ?_
            obtain ⟨c31, hm32⟩ := ck_some hm30; clear hm30
            refine WL.q rfl rfl rfl (QV.add rfl rfl rfl rfl c31) ?_
            refine WL.q rfl rfl rfl (QV.move rfl rfl) ?_
            refine WL.nil ?_
            exact WQ.again1 (x40_3 + 1) m19 (up_next hm32 hn22) (Nat.lt_succ_self _) ⟨rfl, rfl, rfl, trivial⟩ (fun w hw => hw.pick [0, 1] (by decide))
        · skip
          have hm33 := br_f h23 hm21; clear hm21
          refine WC.exit ?_
          refine WQ.then_exit ?_
          refine WQ.then_exit ?_
          refine WQ.block_exit ?_
          exact WQ.out1 x40_3 (up_brk hm33 hn22) ⟨rfl, rfl, rfl, trivial⟩ (fun w hw => hw.pick [0, 1] (by decide))
    · skip
      rintro last5_2 x23_2 m34 hI35
      obtain ⟨m36, s37, rfl, hm38, hn39⟩ := iter_step hI35; clear hI35; unfold loop_May_L2 at hm38; simp only at hm38
      refine WC.seq ?_
      refine WC.region ?_
      refine WL.q rfl rfl rfl (QV.lss rfl rfl rfl rfl) ?_
      refine WL.nil ?_
      refine WQ.then ?_
      refine WC.seq ?_
      refine WC.cond rfl (fun h40 => ?_) (fun h40 => ?_)
      · skip
        have hm41 := br_t h40 hm38; clear hm38
        refine WC.skip ?_
        refine WQ.then ?_
        refine WC.seq ?_
        refine WC.block ?_
        refine WC.seq ?_
        refine WC.region ?_
        obtain ⟨c42, hm43⟩ := ck_some hm41; clear hm41
        obtain ⟨p44, hp45⟩ := h_l_outs.lenMap.ix (sz := 1) ln_len c42
        refine WL.q rfl rfl rfl (QV.indexSlice sl30 rfl rfl rfl rfl hp45) ?_
        refine WL.q rfl rfl rfl (QV.load pl3 rfl rfl (fun w hw => CellsAt.one 0 (((Own.karr 1 rfl hk h_l_outs) w hw).ele hp45 c42) rfl)) ?_
        refine WL.q rfl rfl rfl (QV.assign rfl rfl) ?_
        refine WL.nil ?_
        refine WQ.then ?_
        refine WC.seq ?_
        refine WC.seq ?_
        refine WC.region ?_
        refine WL.q rfl rfl rfl (QV.move rfl rfl) ?_
        refine WL.q rfl rfl rfl (QV.move rfl rfl) ?_
        obtain ⟨c46, hm47⟩ := ck_some hm43; clear hm43
        refine WL.q rfl rfl rfl (QV.add rfl rfl rfl rfl c46) ?_
        refine WL.q rfl rfl rfl (QV.fieldAddr fd49_1 rfl rfl) ?_
        refine WL.q rfl rfl rfl (QV.load pl47 rfl rfl (Own.cell 0 rfl rfl)) ?_
        refine WL.q rfl rfl rfl (QV.lenS Try.underlying47 rfl rfl h_l_body.lenMap) ?_
        obtain ⟨x48, hx49, hm50⟩ := bd_some hm47; clear hm47
        refine WL.q rfl rfl rfl (QV.call en102 (EvAll.cons rfl rfl (EvAll.cons rfl rfl (EvAll.cons rfl rfl EvAll.nil))) (fun w hw => have h := loop_in_w w hx49 ; h)) ?_
        refine WL.q rfl rfl rfl (QV.not rfl rfl) ?_
        refine WL.nil ?_
        refine WQ.then ?_
        refine WC.cond rfl (fun h51 => ?_) (fun h51 => ?_)
        · skip
          have hm52 := br_t h51 hm50; clear hm50
          refine WC.seq ?_
          refine WC.region ?_
          refine WL.q rfl rfl rfl (QV.assign rfl rfl) ?_
          refine WL.nil ?_
          refine WQ.then ?_
          refine WC.ret ?_
          refine WQ.then_ret ?_
          refine WQ.block_ret ?_
          refine WQ.then_ret ?_
          refine WQ.then_ret ?_
          refine WQ.block_ret ?_
          refine WQ.then_ret ?_
          refine WQ.then_ret ?_
          obtain rfl := up_ret hm52 hn39
          obtain rfl := (eq_of_some hm9).symm
          refine WQ.ret1 rfl rfl (fun w hw => ?_)
          exact ⟨rfl, Own.kgrow (fun _ x => x) hw⟩
        · skip
          have hm53 := br_f h51 hm50; clear hm50
          refine WC.skip ?_
          refine WQ.then ?_
          refine WC.region ?_
          refine WL.q rfl rfl rfl (QV.move rfl rfl) ?_
          refine WL.q rfl rfl rfl (QV.assign rfl rfl) ?_
          refine WL.nil ?_
          refine WQ.block ?_
          refine WQ.then ?_
          refine WC.region ?_
          obtain ⟨c54, hm55⟩ := ck_some hm53; clear hm53
          refine WL.q rfl rfl rfl (QV.add rfl rfl rfl rfl c54) ?_
          refine WL.q rfl rfl rfl (QV.move rfl rfl) ?_
          refine WL.nil ?_
          exact WQ.again2 (ele l.outs x23_2) (x23_2 + 1) m36 (up_next hm55 hn39) (Nat.lt_succ_self _) ⟨rfl, rfl, rfl, rfl, rfl, trivial⟩ (fun w hw => hw.pick [0, 1] (by decide))
      · skip
        have hm56 := br_f h40 hm38; clear hm38
        refine WC.exit ?_
        refine WQ.then_exit ?_
        refine WQ.then_exit ?_
        refine WQ.block_exit ?_
        exact WQ.out2 last5_2 x23_2 (up_brk hm56 hn39) ⟨rfl, rfl, rfl, rfl, rfl, trivial⟩ (fun w hw => hw.pick [0, 1] (by decide))
  · skip
    rintro x12_1 m57 hI58
    obtain ⟨m59, s60, rfl, hm61, hn62⟩ := iter_step hI58; clear hI58; unfold loop_May_L0 at hm61
    refine WC.seq ?_
    refine WC.region ?_
    refine WL.q rfl rfl rfl (QV.lss rfl rfl rfl rfl) ?_
    refine WL.nil ?_
    refine WQ.then ?_
    refine WC.seq ?_
    refine WC.cond rfl (fun h63 => ?_) (fun h63 => ?_)
    · skip
      have hm64 := br_t h63 hm61; clear hm61
      refine WC.skip ?_
      refine WQ.then ?_
      refine WC.seq ?_
      refine WC.block ?_
      refine WC.seq ?_
      refine WC.region ?_
      obtain ⟨c65, hm66⟩ := ck_some hm64; clear hm64
      obtain ⟨p67, hp68⟩ := h_l_logs.lenMap.ix (sz := 1) ln_len c65
      refine WL.q rfl rfl rfl (QV.indexSlice sl30 rfl rfl rfl rfl hp68) ?_
      refine WL.q rfl rfl rfl (QV.load pl3 rfl rfl (fun w hw => CellsAt.one 0 (((Own.karr 1 rfl hk h_l_logs) w hw).ele hp68 c65) rfl)) ?_
      refine WL.q rfl rfl rfl (QV.assign rfl rfl) ?_
      refine WL.nil ?_
      refine WQ.then ?_
      refine WC.seq ?_
      refine WC.region ?_
      refine WL.q rfl rfl rfl (QV.move rfl rfl) ?_
      obtain ⟨x69, hx70, hm71⟩ := bd_some hm66; clear hm66
      refine WL.q rfl rfl rfl (QV.call en102 (EvAll.cons rfl rfl (EvAll.cons rfl rfl (EvAll.cons rfl rfl EvAll.nil))) (fun w hw => have h := loop_in_w w hx70 ; h)) ?_
      refine WL.q rfl rfl rfl (QV.not rfl rfl) ?_
      refine WL.nil ?_
      refine WQ.then ?_
      refine WC.cond rfl (fun h72 => ?_) (fun h72 => ?_)
      · skip
        have hm73 := br_t h72 hm71; clear hm71
        refine WC.seq ?_
        refine WC.region ?_
        refine WL.q rfl rfl rfl (QV.assign rfl rfl) ?_
        refine WL.nil ?_
        refine WQ.then ?_
        refine WC.ret ?_
        refine WQ.block_ret ?_
        refine WQ.then_ret ?_
        refine WQ.then_ret ?_
        refine WQ.block_ret ?_
        refine WQ.then_ret ?_
        refine WQ.then_ret ?_
        obtain rfl := up_ret hm73 hn62
        obtain rfl := (eq_of_some hm4).symm
        refine WQ.ret1 rfl rfl (fun w hw => ?_)
        exact ⟨rfl, Own.kgrow (fun _ x => x) hw⟩
      · skip
        have hm74 := br_f h72 hm71; clear hm71
        refine WC.skip ?_
        refine WQ.block ?_
        refine WQ.then ?_
        refine WC.region ?_
        obtain ⟨c75, hm76⟩ := ck_some hm74; clear hm74
        refine WL.q rfl rfl rfl (QV.add rfl rfl rfl rfl c75) ?_
        refine WL.q rfl rfl rfl (QV.move rfl rfl) ?_
        refine WL.nil ?_
        exact WQ.again1 (x12_1 + 1) m59 (up_next hm76 hn62) (Nat.lt_succ_self _) ⟨rfl, rfl, rfl, rfl, trivial⟩ (fun w hw => hw.pick [0, 1] (by decide))
    · skip
      have hm77 := br_f h63 hm61; clear hm61
      refine WC.exit ?_
      refine WQ.then_exit ?_
      refine WQ.then_exit ?_
      refine WQ.block_exit ?_
      exact WQ.out1 x12_1 (up_brk hm77 hn62) ⟨rfl, rfl, rfl, rfl, trivial⟩ (fun w hw => hw.pick [0, 1] (by decide))

set_option maxRecDepth 8000 in
theorem roundelayref2_Within_w {n_ : Int} {least : Int} {most : Int} {r : Bool} (w : World) (hm : roundelayref2_Within_m n_ least most = some r)  : Calls Try.prog 50 #[.int .i64 n_, .int .i64 least, .int .i64 most] w (fun e w' => e = .returned (.bool r) ∧ Grow w w') := by
  unfold roundelayref2_Within_m at hm
  have hk := Base.rfl (w := w)
  refine calls_of_WC (n := 15) (args := [.int .i64 n_, .int .i64 least, .int .i64 most]) Try.func50 rfl rfl (Nat.le_of_ble_eq_true rfl) ?_ (Own.startK hk (Own.start w))
  refine WC.seq ?_
  refine WC.region ?_
  refine WL.q rfl rfl rfl (QV.assign rfl rfl) ?_
  refine WL.nil ?_
  refine WQ.then ?_
  refine WC.seq ?_
  refine WC.region ?_
  refine WL.q rfl rfl rfl (QV.move rfl rfl) ?_
  refine WL.q rfl rfl rfl (QV.move rfl rfl) ?_
  refine WL.q rfl rfl rfl (QV.geq rfl rfl rfl rfl) ?_
  refine WL.q rfl rfl rfl (QV.move rfl rfl) ?_
  refine WL.g rfl rfl (GuardIs.pos rfl rfl) (fun hG => QV.move rfl rfl) ?_
  refine WL.g rfl rfl (GuardIs.pos rfl rfl) (fun hG => QV.move rfl rfl) ?_
  refine WL.g rfl rfl (GuardIs.pos rfl rfl) (fun hG => QV.leq rfl hG rfl hG) ?_
  refine WL.q rfl rfl rfl (QV.pickAnd rfl rfl rfl (fun h => h)) ?_
  refine WL.q rfl rfl rfl (QV.assign rfl rfl) ?_
  refine WL.nil ?_
  refine WQ.then ?_
  refine WC.ret ?_
  obtain rfl := (eq_of_some hm).symm
  refine WQ.ret1 rfl rfl (fun w hw => ?_)
  exact ⟨rfl, Own.kgrow (fun _ x => x) hw⟩

set_option maxRecDepth 8000 in
theorem roundelayref2_Uses_w {s : Stm} {r : List Rf} {K0 : World} (hm : roundelayref2_Uses_m s = some r)  (M : Nat → Prop) (w : World) (hk : Base M K0 w) (hw0 : Own M w [] w) : Calls Try.prog 74 #[.agg #[.int .i64 s.op, .int .i64 s.a.st, .int .i64 s.a.bk, .int .i64 s.b.st, .int .i64 s.b.bk, .int .i64 s.ar, .int .i64 s.sp, .int .i64 s.pl, .int .i64 s.n]] w (fun e w' => ∃ X : Value × World, e = .returned (X.1) ∧ Own M w (kn M w.heap.size K0 X.2 :: []) w' ∧ Arr X.2 X.1 2 (r.map Rf.cells)) := by
  unfold roundelayref2_Uses_m at hm
  refine calls_of_WC (n := 17) (args := [.agg #[.int .i64 s.op, .int .i64 s.a.st, .int .i64 s.a.bk, .int .i64 s.b.st, .int .i64 s.b.bk, .int .i64 s.ar, .int .i64 s.sp, .int .i64 s.pl, .int .i64 s.n]]) Try.func74 rfl rfl (Nat.le_of_ble_eq_true rfl) ?_ (Own.startK hk hw0)
  refine WC.seq ?_
  refine WC.region ?_
  refine WL.effect rfl ?_
  refine (EV.boxAgg (by decide) rfl rfl (fun b1 => ?_))
  refine WL.q rfl rfl rfl (QV.assign rfl rfl) ?_
  refine WL.nil ?_
  refine WQ.then ?_
  refine WC.seq ?_
  refine WC.seq ?_
  refine WC.region ?_
  refine WL.q rfl rfl rfl (QV.fieldAddr fd59_0 rfl rfl) ?_
  refine WL.q rfl rfl rfl (QV.load pl3 rfl rfl (Own.cell 0 rfl rfl)) ?_
  refine WL.q rfl rfl rfl (QV.eql rfl rfl rfl rfl) ?_
  refine WL.nil ?_
  refine WQ.then ?_
  refine WC.cond rfl (fun h2 => ?_) (fun h2 => ?_)
  · skip
    have hm3 := br_t h2 hm; clear hm
    refine WC.seq ?_
    refine WC.region ?_
    refine WL.q rfl rfl rfl (QV.fieldAddr fd59_1 rfl rfl) ?_
    refine WL.q rfl rfl rfl (QV.loadAgg ag57 rfl rfl rfl (fun w hw => (Own.cellsBlk 0 rfl w hw).sub 1 2 rfl)) ?_
    refine WL.effect rfl ?_
    refine (EV.buildSlice (by decide) sz_106 (by decide) (by decide) (ps := [(0, .tmp 7)]) (cells := [.int .i64 s.a.st, .int .i64 s.a.bk]) (EvAll.cons rfl rfl EvAll.nil) (by kernel_rfl) (fun b4 => ?_))
    refine WL.q rfl rfl rfl (QV.assign rfl rfl) ?_
    refine WL.nil ?_
    refine WQ.then ?_
    refine WC.ret ?_
    refine WQ.then_ret ?_
    obtain rfl := (eq_of_some hm3).symm
    refine WK.of (fun w hw => hw.blkVec Rf.cells ([s.a] : List Rf) rfl Rf.cells_len (Nat.le_of_ble_eq_true rfl)) ?_
    refine WK.of (C' := Own M w [kn M w.heap.size K0 K0, vec (blkSlice b4 1 1) 57 2 (List.map Rf.cells [s.a]), blk b1 [.int .i64 s.op, .int .i64 s.a.st, .int .i64 s.a.bk, .int .i64 s.b.st, .int .i64 s.b.bk, .int .i64 s.ar, .int .i64 s.sp, .int .i64 s.pl, .int .i64 s.n] 59]) (fun w hw => hw.pick [2, 0, 1] (by decide)) ?_
    refine WK.freeze hk (fun k5 hle5 hr5 => ?_)
    have hA5 := vec_arr hr5
    refine WQ.ret1 rfl rfl (fun w hw => ?_)
    exact ⟨((blkSlice b4 1 1), k5), rfl, hw.pick [0] (by decide), hA5⟩
  · skip
    have hm6 := br_f h2 hm; clear hm
    refine WC.skip ?_
    refine WQ.then ?_
    refine WC.seq ?_
    refine WC.seq ?_
    refine WC.region ?_
    refine WL.q rfl rfl rfl (QV.fieldAddr fd59_0 rfl rfl) ?_
    refine WL.q rfl rfl rfl (QV.load pl3 rfl rfl (Own.cell 0 rfl rfl)) ?_
    refine WL.q rfl rfl rfl (QV.gtr rfl rfl rfl rfl) ?_
    refine WL.nil ?_
    refine WQ.then ?_
    refine WC.cond rfl (fun h7 => ?_) (fun h7 => ?_)
    · skip
      have hm8 := br_t h7 hm6; clear hm6
      refine WC.seq ?_
      refine WC.region ?_
      refine WL.q rfl rfl rfl (QV.fieldAddr fd59_1 rfl rfl) ?_
      refine WL.q rfl rfl rfl (QV.loadAgg ag57 rfl rfl rfl (fun w hw => (Own.cellsBlk 0 rfl w hw).sub 1 2 rfl)) ?_
      refine WL.q rfl rfl rfl (QV.fieldAddr fd59_2 rfl rfl) ?_
      refine WL.q rfl rfl rfl (QV.loadAgg ag57 rfl rfl rfl (fun w hw => (Own.cellsBlk 0 rfl w hw).sub 3 2 rfl)) ?_
      refine WL.effect rfl ?_
      refine (EV.buildSlice (by decide) sz_106 (by decide) (by decide) (ps := [(0, .tmp 13), (1, .tmp 15)]) (cells := [.int .i64 s.a.st, .int .i64 s.a.bk, .int .i64 s.b.st, .int .i64 s.b.bk]) (EvAll.cons rfl rfl (EvAll.cons rfl rfl EvAll.nil)) (by kernel_rfl) (fun b9 => ?_))
      refine WL.q rfl rfl rfl (QV.assign rfl rfl) ?_
      refine WL.nil ?_
      refine WQ.then ?_
      refine WC.ret ?_
      refine WQ.then_ret ?_
      obtain rfl := (eq_of_some hm8).symm
      refine WK.of (fun w hw => hw.blkVec Rf.cells ([s.a, s.b] : List Rf) rfl Rf.cells_len (Nat.le_of_ble_eq_true rfl)) ?_
      refine WK.of (C' := Own M w [kn M w.heap.size K0 K0, vec (blkSlice b9 2 2) 57 2 (List.map Rf.cells [s.a, s.b]), blk b1 [.int .i64 s.op, .int .i64 s.a.st, .int .i64 s.a.bk, .int .i64 s.b.st, .int .i64 s.b.bk, .int .i64 s.ar, .int .i64 s.sp, .int .i64 s.pl, .int .i64 s.n] 59]) (fun w hw => hw.pick [2, 0, 1] (by decide)) ?_
      refine WK.freeze hk (fun k10 hle10 hr10 => ?_)
      have hA10 := vec_arr hr10
      refine WQ.ret1 rfl rfl (fun w hw => ?_)
      exact ⟨((blkSlice b9 2 2), k10), rfl, hw.pick [0] (by decide), hA10⟩
    · skip
      have hm11 := br_f h7 hm6; clear hm6
      refine WC.skip ?_
      refine WQ.then ?_
      refine WC.seq ?_
      refine WC.region ?_
      refine WL.q rfl rfl rfl (QV.assign rfl rfl) ?_
      refine WL.nil ?_
      refine WQ.then ?_
      refine WC.ret ?_
      obtain rfl := (eq_of_some hm11).symm
      refine WQ.ret1 rfl rfl (fun w hw => ?_)
      exact ⟨(.slice none 0 0, K0), rfl, hw.pick [1] (by decide), Arr.nil⟩

set_option maxRecDepth 8000 in
theorem roundelayref2_stmt_w {v_l_logs : Value} {v_l_body : Value} {v_l_outs : Value} {l : Lp} {k_ : Int} {r : Bool} (w : World) (hm : roundelayref2_stmt_m l k_ = some r) (h_l_logs : Arr w v_l_logs 1 (l.logs.map icell)) (h_l_body : Arr w v_l_body 9 (l.body.map Stm.cells)) (h_l_outs : Arr w v_l_outs 1 (l.outs.map icell)) : Calls Try.prog 109 #[.agg #[v_l_logs, v_l_body, v_l_outs], .int .i64 k_] w (fun e w' => e = .returned (.bool r) ∧ Grow w w') := by
  unfold roundelayref2_stmt_m at hm
  have hk := Base.rfl (w := w)
  refine calls_of_WC (n := 142) (args := [.agg #[v_l_logs, v_l_body, v_l_outs], .int .i64 k_]) Try.func109 rfl rfl (Nat.le_of_ble_eq_true rfl) ?_ (Own.startK hk (Own.start w))
  refine WC.seq ?_
  refine WC.region ?_
  refine WL.effect rfl ?_
  refine (EV.boxAgg (by decide) rfl rfl (fun b1 => ?_))
  refine WL.q rfl rfl rfl (QV.assign rfl rfl) ?_
  refine WL.nil ?_
  refine WQ.then ?_
  refine WC.seq ?_
  refine WC.region ?_
  refine WL.q rfl rfl rfl (QV.fieldAddr fd49_1 rfl rfl) ?_
  refine WL.q rfl rfl rfl (QV.load pl47 rfl rfl (Own.cell 0 rfl rfl)) ?_
  refine WL.q rfl rfl rfl (QV.move rfl rfl) ?_
  obtain ⟨c2, hm3⟩ := ck_some hm; clear hm
  obtain ⟨p4, hp5⟩ := h_l_body.lenMap.ix (sz := 9) ln_len c2
  refine WL.q rfl rfl rfl (QV.indexSlice sl47 rfl rfl rfl rfl hp5) ?_
  refine WL.q rfl rfl rfl (QV.loadAgg ag59 rfl rfl rfl (fun w hw => ((Own.karr 1 rfl hk h_l_body) w hw).ele hp5 c2)) ?_
  refine WL.effect rfl ?_
  refine (EV.alloc (by decide) ze59 (fun b6 => ?_))
  refine WL.effect rfl ?_
  refine (EV.store 0 rfl rfl rfl rfl rfl rfl (vs := [.int .i64 ((ele l.body k_).op), .int .i64 (((ele l.body k_).a).st), .int .i64 (((ele l.body k_).a).bk), .int .i64 (((ele l.body k_).b).st), .int .i64 (((ele l.body k_).b).bk), .int .i64 ((ele l.body k_).ar), .int .i64 ((ele l.body k_).sp), .int .i64 ((ele l.body k_).pl), .int .i64 ((ele l.body k_).n)]) (show Value.cells _ = List.toArray _ from rfl) sz59 (Nat.le_of_ble_eq_true rfl) (one_cons rfl (one_cons rfl (one_cons rfl (one_cons rfl (one_cons rfl (one_cons rfl (one_cons rfl (one_cons rfl (one_cons rfl one_nil))))))))) ?_)
  refine WL.nil ?_
  refine WQ.then ?_
  refine WC.seq ?_
  refine WC.region ?_
  refine WL.q rfl rfl rfl (QV.loadAgg ag59 rfl rfl rfl (Own.cellsBlk 0 rfl)) ?_
  refine WL.effect rfl ?_
  obtain ⟨x7, hx8, hm9⟩ := bd_some hm3; clear hm3
  refine EV.of (C' := Own noM w [kn noM w.heap.size w w, blk b6 [.int .i64 ((ele l.body k_).op), .int .i64 (((ele l.body k_).a).st), .int .i64 (((ele l.body k_).a).bk), .int .i64 (((ele l.body k_).b).st), .int .i64 (((ele l.body k_).b).bk), .int .i64 ((ele l.body k_).ar), .int .i64 ((ele l.body k_).sp), .int .i64 ((ele l.body k_).pl), .int .i64 ((ele l.body k_).n)] 59, blk b1 [v_l_logs, v_l_body, v_l_outs] 49]) (fun w hw => hw.pick [2, 0, 1] (by decide)) ?_
  refine (EV.callR (X := Value × World) (R := []) (fun X => X.1) (fun X => []) (fun X => X.2) (fun X => Arr X.2 X.1 2 (x7.map Rf.cells)) hk (fun _ h => by cases h; decide) en74 (EvAll.cons rfl rfl EvAll.nil) (fun M w h1 h2 => have h := roundelayref2_Uses_w hx8  M w h1 h2; h) (fun X10 hF10 hle10 => ?_))
  refine WL.q rfl rfl rfl (QV.assign rfl rfl) ?_
  refine WL.nil ?_
  refine WQ.then ?_
  refine WC.seq ?_
  refine WC.seq ?_
  refine WC.region ?_
  refine WL.q rfl rfl rfl (QV.assign rfl rfl) ?_
  refine WL.nil ?_
  refine WQ.then ?_
  obtain ⟨o11, ho12, hm13⟩ := bd_some hm9; clear hm9; obtain ⟨n14, ho15⟩ := lp_some ho12
  refine WC.bloop1 (H2 := [kn noM w.heap.size w X10.2, blk b6 [.int .i64 ((ele l.body k_).op), .int .i64 (((ele l.body k_).a).st), .int .i64 (((ele l.body k_).a).bk), .int .i64 (((ele l.body k_).b).st), .int .i64 (((ele l.body k_).b).bk), .int .i64 ((ele l.body k_).ar), .int .i64 ((ele l.body k_).sp), .int .i64 ((ele l.body k_).pl), .int .i64 ((ele l.body k_).n)] 59, blk b1 [v_l_logs, v_l_body, v_l_outs] 49]) (τ := [(1, (true, _)), (2, (true, _)), (5, (true, _)), (6, (true, _))]) (fun (i7_1 : Int) => [(7, (true, .int .i64 i7_1))]) (fun (i7_1 : Int) => []) (fun (i7_1 : Int) (m : Nat) => iter (roundelayref2_stmt_L0 l k_ x7) m i7_1 = some o11) (fun (i7_1 : Int) => o11 = .go i7_1) 0 n14 ho15 ⟨rfl, rfl, rfl, rfl, rfl, trivial⟩ (fun w hw => hw.pick [0, 1, 2] (by decide)) ?_ ?_
  · skip
    rintro i7_1 rfl
    refine WQ.then ?_
    refine WC.seq ?_
    refine WC.seq ?_
    refine WC.region ?_
    refine WL.q rfl rfl rfl (QV.move rfl rfl) ?_
    refine WL.q rfl rfl rfl (QV.lenS Try.underlying106 rfl rfl hF10.lenMap) ?_
    refine WL.q rfl rfl rfl (QV.lss rfl rfl rfl rfl) ?_
    refine WL.q rfl rfl rfl (QV.move rfl rfl) ?_
    refine WL.g rfl rfl (GuardIs.pos rfl rfl) (fun hG => QV.fieldAddr fd59_2 rfl rfl) ?_
    refine WL.g rfl rfl (GuardIs.pos rfl rfl) (fun hG => QV.fieldAddr fd57_0 rfl hG) ?_
    refine WL.g rfl rfl (GuardIs.pos rfl rfl) (fun hG => QV.load pl3 rfl hG (Own.cell 1 rfl rfl)) ?_
    refine WL.g rfl rfl (GuardIs.pos rfl rfl) (fun hG => QV.neq rfl hG rfl rfl) ?_
    refine WL.g rfl rfl (GuardIs.pos rfl rfl) (fun hG => QV.move rfl hG) ?_
    refine WL.g rfl rfl (GuardIs.negC rfl rfl) (fun hG => QV.fieldAddr fd59_2 rfl rfl) ?_
    refine WL.g rfl rfl (GuardIs.negC rfl rfl) (fun hG => QV.fieldAddr fd57_1 rfl hG) ?_
    refine WL.g rfl rfl (GuardIs.negC rfl rfl) (fun hG => QV.load pl3 rfl hG (Own.cell 1 rfl rfl)) ?_
    refine WL.g rfl rfl (GuardIs.negC rfl rfl) (fun hG => QV.neq rfl hG rfl rfl) ?_
    refine WL.g rfl rfl (GuardIs.pos rfl rfl) (fun hG => QV.pickOr rfl hG rfl (fun h => andN hG h)) ?_
    refine WL.q rfl rfl rfl (QV.pickAnd rfl rfl rfl (fun h => h)) ?_
    refine WL.q rfl rfl rfl (QV.move rfl rfl) ?_
    refine WL.g rfl rfl (GuardIs.neg rfl rfl) (fun hG => QV.move rfl rfl) ?_
    refine WL.g rfl rfl (GuardIs.neg rfl rfl) (fun hG => QV.lenS Try.underlying106 rfl hG hF10.lenMap) ?_
    refine WL.g rfl rfl (GuardIs.neg rfl rfl) (fun hG => QV.lss rfl hG rfl rfl) ?_
    refine WL.g rfl rfl (GuardIs.neg rfl rfl) (fun hG => QV.move rfl hG) ?_
    refine WL.g rfl rfl (GuardIs.posC rfl rfl) (fun hG => QV.fieldAddr fd59_1 rfl rfl) ?_
    refine WL.g rfl rfl (GuardIs.posC rfl rfl) (fun hG => QV.fieldAddr fd57_0 rfl hG) ?_
    refine WL.g rfl rfl (GuardIs.posC rfl rfl) (fun hG => QV.load pl3 rfl hG (Own.cell 1 rfl rfl)) ?_
    refine WL.g rfl rfl (GuardIs.posC rfl rfl) (fun hG => QV.neq rfl hG rfl rfl) ?_
    refine WL.g rfl rfl (GuardIs.posC rfl rfl) (fun hG => QV.move rfl hG) ?_
    refine WL.g rfl rfl (GuardIs.negC rfl rfl) (fun hG => QV.fieldAddr fd59_1 rfl rfl) ?_
    refine WL.g rfl rfl (GuardIs.negC rfl rfl) (fun hG => QV.fieldAddr fd57_1 rfl hG) ?_
    refine WL.g rfl rfl (GuardIs.negC rfl rfl) (fun hG => QV.load pl3 rfl hG (Own.cell 1 rfl rfl)) ?_
    refine WL.g rfl rfl (GuardIs.negC rfl rfl) (fun hG => QV.neq rfl hG rfl rfl) ?_
    refine WL.g rfl rfl (GuardIs.posC rfl rfl) (fun hG => QV.pickOr rfl hG rfl (fun h => andN hG h)) ?_
    refine WL.g rfl rfl (GuardIs.neg rfl rfl) (fun hG => QV.pickAnd rfl hG rfl (fun h => andT hG h)) ?_
    refine WL.q rfl rfl rfl (QV.pickOr rfl rfl rfl (fun h => notF h)) ?_
    refine WL.nil ?_
    refine WQ.then ?_
    refine WC.cond rfl (fun h16 => ?_) (fun h16 => ?_)
    · skip
      have hm17 := br_t h16 hm13; clear hm13
      refine WC.seq ?_
      refine WC.region ?_
      refine WL.q rfl rfl rfl (QV.assign rfl rfl) ?_
      refine WL.nil ?_
      refine WQ.then ?_
      refine WC.ret ?_
      refine WQ.then_ret ?_
      obtain rfl := (eq_of_some hm17).symm
      refine WQ.ret1 rfl rfl (fun w hw => ?_)
      exact ⟨rfl, Own.kgrow (fun _ x => x) hw⟩
    · skip
      have hm18 := br_f h16 hm13; clear hm13
      refine WC.skip ?_
      refine WQ.then ?_
      refine WC.seq ?_
      refine WC.seq ?_
      refine WC.region ?_
      refine WL.q rfl rfl rfl (QV.fieldAddr fd59_0 rfl rfl) ?_
      refine WL.q rfl rfl rfl (QV.load pl3 rfl rfl (Own.cell 1 rfl rfl)) ?_
      refine WL.q rfl rfl rfl (QV.neq rfl rfl rfl rfl) ?_
      refine WL.q rfl rfl rfl (QV.move rfl rfl) ?_
      refine WL.g rfl rfl (GuardIs.pos rfl rfl) (fun hG => QV.fieldAddr fd59_6 rfl rfl) ?_
      refine WL.g rfl rfl (GuardIs.pos rfl rfl) (fun hG => QV.load pl2 rfl hG (Own.cell 1 rfl rfl)) ?_
      refine WL.g rfl rfl (GuardIs.pos rfl rfl) (fun hG => QV.neq rfl hG rfl rfl) ?_
      refine WL.q rfl rfl rfl (QV.pickAnd rfl rfl rfl (fun h => h)) ?_
      refine WL.nil ?_
      refine WQ.then ?_
      refine WC.cond rfl (fun h19 => ?_) (fun h19 => ?_)
      · skip
        have hm20 := br_t h19 hm18; clear hm18
        refine WC.seq ?_
        refine WC.region ?_
        refine WL.q rfl rfl rfl (QV.assign rfl rfl) ?_
        refine WL.nil ?_
        refine WQ.then ?_
        refine WC.ret ?_
        refine WQ.then_ret ?_
        obtain rfl := (eq_of_some hm20).symm
        refine WQ.ret1 rfl rfl (fun w hw => ?_)
        exact ⟨rfl, Own.kgrow (fun _ x => x) hw⟩
      · skip
        have hm21 := br_f h19 hm18; clear hm18
        refine WC.skip ?_
        refine WQ.then ?_
        refine WC.seq ?_
        refine WC.seq ?_
        refine WC.region ?_
        refine WL.q rfl rfl rfl (QV.fieldAddr fd59_0 rfl rfl) ?_
        refine WL.q rfl rfl rfl (QV.load pl3 rfl rfl (Own.cell 1 rfl rfl)) ?_
        refine WL.q rfl rfl rfl (QV.eql rfl rfl rfl rfl) ?_
        refine WL.q rfl rfl rfl (QV.move rfl rfl) ?_
        refine WL.g rfl rfl (GuardIs.neg rfl rfl) (fun hG => QV.fieldAddr fd59_0 rfl rfl) ?_
        refine WL.g rfl rfl (GuardIs.neg rfl rfl) (fun hG => QV.load pl3 rfl hG (Own.cell 1 rfl rfl)) ?_
        refine WL.g rfl rfl (GuardIs.neg rfl rfl) (fun hG => QV.eql rfl hG rfl rfl) ?_
        refine WL.q rfl rfl rfl (QV.pickOr rfl rfl rfl (fun h => notF h)) ?_
        refine WL.nil ?_
        refine WQ.then ?_
        refine WC.cond rfl (fun h22 => ?_) (fun h22 => ?_)
        · skip
          have hm23 := br_t h22 hm21; clear hm21
          refine WC.seq ?_
          refine WC.region ?_
          refine WL.q rfl rfl rfl (QV.fieldAddr fd59_3 rfl rfl) ?_
          refine WL.q rfl rfl rfl (QV.load pl3 rfl rfl (Own.cell 1 rfl rfl)) ?_
          refine WL.q rfl rfl rfl (QV.fieldAddr fd49_0 rfl rfl) ?_
          refine WL.q rfl rfl rfl (QV.load pl30 rfl rfl (Own.cell 2 rfl rfl)) ?_
          refine WL.q rfl rfl rfl (QV.lenS Try.underlying30 rfl rfl (h_l_logs.le hle10).lenMap) ?_
          obtain ⟨c24, hm25⟩ := ck_some hm23; clear hm23
          refine WL.q rfl rfl rfl (QV.sub rfl rfl rfl rfl c24) ?_
          obtain ⟨x26, hx27, hm28⟩ := bd_some hm25; clear hm25
          refine WL.q rfl rfl rfl (QV.call en50 (EvAll.cons rfl rfl (EvAll.cons rfl rfl (EvAll.cons rfl rfl EvAll.nil))) (fun w hw => have h := roundelayref2_Within_w w hx27 ; h)) ?_
          refine WL.q rfl rfl rfl (QV.move rfl rfl) ?_
          refine WL.g rfl rfl (GuardIs.pos rfl rfl) (fun hG => QV.fieldAddr fd59_4 rfl rfl) ?_
          refine WL.g rfl rfl (GuardIs.pos rfl rfl) (fun hG => QV.load pl3 rfl hG (Own.cell 1 rfl rfl)) ?_
          obtain ⟨x29, hx30, hm31⟩ := bdG_some hm28; clear hm28
          refine WL.g rfl rfl (GuardIs.pos rfl rfl) (fun hG => QV.call en50 (EvAll.cons rfl hG (EvAll.cons rfl rfl (EvAll.cons rfl rfl EvAll.nil))) (fun w hw => have h := roundelayref2_Within_w w (hx30 hG) ; h)) ?_
          refine WL.q rfl rfl rfl (QV.pickAnd rfl rfl rfl (fun h => h)) ?_
          refine WL.q rfl rfl rfl (QV.move rfl rfl) ?_
          refine WL.g rfl rfl (GuardIs.pos rfl rfl) (fun hG => QV.fieldAddr fd59_5 rfl rfl) ?_
          refine WL.g rfl rfl (GuardIs.pos rfl rfl) (fun hG => QV.load pl3 rfl hG (Own.cell 1 rfl rfl)) ?_
          obtain ⟨x32, hx33, hm34⟩ := bdG_some hm31; clear hm31
          refine WL.g rfl rfl (GuardIs.pos rfl rfl) (fun hG => QV.call en50 (EvAll.cons rfl hG (EvAll.cons rfl rfl (EvAll.cons rfl rfl EvAll.nil))) (fun w hw => have h := roundelayref2_Within_w w (hx33 hG) ; h)) ?_
          refine WL.q rfl rfl rfl (QV.pickAnd rfl rfl rfl (fun h => h)) ?_
          refine WL.q rfl rfl rfl (QV.assign rfl rfl) ?_
          refine WL.nil ?_
          refine WQ.then ?_
          refine WC.ret ?_
          refine WQ.then_ret ?_
          obtain rfl := (eq_of_some hm34).symm
          refine WQ.ret1 rfl rfl (fun w hw => ?_)
          exact ⟨rfl, Own.kgrow (fun _ x => x) hw⟩
        · skip
          have hm35 := br_f h22 hm21; clear hm21
          refine WC.skip ?_
          refine WQ.then ?_
          refine WC.seq ?_
          refine WC.seq ?_
          refine WC.region ?_
          refine WL.q rfl rfl rfl (QV.fieldAddr fd59_3 rfl rfl) ?_
          refine WL.q rfl rfl rfl (QV.load pl3 rfl rfl (Own.cell 1 rfl rfl)) ?_
          refine WL.q rfl rfl rfl (QV.neq rfl rfl rfl rfl) ?_
          refine WL.q rfl rfl rfl (QV.move rfl rfl) ?_
          refine WL.g rfl rfl (GuardIs.neg rfl rfl) (fun hG => QV.fieldAddr fd59_4 rfl rfl) ?_
          refine WL.g rfl rfl (GuardIs.neg rfl rfl) (fun hG => QV.load pl3 rfl hG (Own.cell 1 rfl rfl)) ?_
          refine WL.g rfl rfl (GuardIs.neg rfl rfl) (fun hG => QV.neq rfl hG rfl rfl) ?_
          refine WL.q rfl rfl rfl (QV.pickOr rfl rfl rfl (fun h => notF h)) ?_
          refine WL.q rfl rfl rfl (QV.move rfl rfl) ?_
          refine WL.g rfl rfl (GuardIs.neg rfl rfl) (fun hG => QV.fieldAddr fd59_5 rfl rfl) ?_
          refine WL.g rfl rfl (GuardIs.neg rfl rfl) (fun hG => QV.load pl3 rfl hG (Own.cell 1 rfl rfl)) ?_
          refine WL.g rfl rfl (GuardIs.neg rfl rfl) (fun hG => QV.neq rfl hG rfl rfl) ?_
          refine WL.q rfl rfl rfl (QV.pickOr rfl rfl rfl (fun h => notF h)) ?_
          refine WL.nil ?_
          refine WQ.then ?_
          refine WC.cond rfl (fun h36 => ?_) (fun h36 => ?_)
          · skip
            have hm37 := br_t h36 hm35; clear hm35
            refine WC.seq ?_
            refine WC.region ?_
            refine WL.q rfl rfl rfl (QV.assign rfl rfl) ?_
            refine WL.nil ?_
            refine WQ.then ?_
            refine WC.ret ?_
            refine WQ.then_ret ?_
            obtain rfl := (eq_of_some hm37).symm
            refine WQ.ret1 rfl rfl (fun w hw => ?_)
            exact ⟨rfl, Own.kgrow (fun _ x => x) hw⟩
          · skip
            have hm38 := br_f h36 hm35; clear hm35
            refine WC.skip ?_
            refine WQ.then ?_
            refine WC.seq ?_
            refine WC.region ?_
            refine WL.q rfl rfl rfl (QV.fieldAddr fd59_0 rfl rfl) ?_
            refine WL.q rfl rfl rfl (QV.load pl3 rfl rfl (Own.cell 1 rfl rfl)) ?_
            refine WL.q rfl rfl rfl (QV.eql rfl rfl rfl rfl) ?_
            refine WL.q rfl rfl rfl (QV.move rfl rfl) ?_
            refine WL.g rfl rfl (GuardIs.neg rfl rfl) (fun hG => QV.fieldAddr fd59_0 rfl rfl) ?_
            refine WL.g rfl rfl (GuardIs.neg rfl rfl) (fun hG => QV.load pl3 rfl hG (Own.cell 1 rfl rfl)) ?_
            refine WL.g rfl rfl (GuardIs.neg rfl rfl) (fun hG => QV.eql rfl hG rfl rfl) ?_
            refine WL.q rfl rfl rfl (QV.pickOr rfl rfl rfl (fun h => notF h)) ?_
            refine WL.q rfl rfl rfl (QV.move rfl rfl) ?_
            refine WL.g rfl rfl (GuardIs.neg rfl rfl) (fun hG => QV.fieldAddr fd59_0 rfl rfl) ?_
            refine WL.g rfl rfl (GuardIs.neg rfl rfl) (fun hG => QV.load pl3 rfl hG (Own.cell 1 rfl rfl)) ?_
            obtain ⟨x39, hx40, hm41⟩ := bdG_some hm38; clear hm38
            refine WL.g rfl rfl (GuardIs.neg rfl rfl) (fun hG => QV.call en50 (EvAll.cons rfl hG (EvAll.cons rfl rfl (EvAll.cons rfl rfl EvAll.nil))) (fun w hw => have h := roundelayref2_Within_w w (hx40 hG) ; h)) ?_
            refine WL.q rfl rfl rfl (QV.pickOr rfl rfl rfl (fun h => notF h)) ?_
            refine WL.q rfl rfl rfl (QV.assign rfl rfl) ?_
            refine WL.nil ?_
            refine WQ.then ?_
            refine WC.ret ?_
            obtain rfl := (eq_of_some hm41).symm
            refine WQ.ret1 rfl rfl (fun w hw => ?_)
            exact ⟨rfl, Own.kgrow (fun _ x => x) hw⟩
  · skip
    rintro i7_1 m42 hI43
    obtain ⟨m44, s45, rfl, hm46, hn47⟩ := iter_step hI43; clear hI43; unfold roundelayref2_stmt_L0 at hm46
    refine WC.seq ?_
    refine WC.seq ?_
    refine WC.region ?_
    refine WL.q rfl rfl rfl (QV.move rfl rfl) ?_
    refine WL.q rfl rfl rfl (QV.move rfl rfl) ?_
    refine WL.q rfl rfl rfl (QV.lenS Try.underlying106 rfl rfl hF10.lenMap) ?_
    refine WL.q rfl rfl rfl (QV.lss rfl rfl rfl rfl) ?_
    refine WL.nil ?_
    refine WQ.then ?_
    refine WC.cond rfl (fun h48 => ?_) (fun h48 => ?_)
    · skip
      have hm49 := br_t h48 hm46; clear hm46
      refine WC.skip ?_
      refine WQ.then ?_
      refine WC.seq ?_
      refine WC.block ?_
      refine WC.seq ?_
      refine WC.region ?_
      refine WL.q rfl rfl rfl (QV.fieldAddr fd49_1 rfl rfl) ?_
      refine WL.q rfl rfl rfl (QV.load pl47 rfl rfl (Own.cell 2 rfl rfl)) ?_
      refine WL.q rfl rfl rfl (QV.lenS Try.underlying47 rfl rfl (h_l_body.le hle10).lenMap) ?_
      obtain ⟨c50, hm51⟩ := ck_some hm49; clear hm49
      refine WL.q rfl rfl rfl (QV.sub rfl rfl rfl rfl c50) ?_
      refine WL.q rfl rfl rfl (QV.assign rfl rfl) ?_
      refine WL.nil ?_
      refine WQ.then ?_
      refine WC.seq ?_
      refine WC.seq ?_
      refine WC.region ?_
      refine WL.q rfl rfl rfl (QV.move rfl rfl) ?_
      refine WL.q rfl rfl rfl (QV.move rfl rfl) ?_
      obtain ⟨c52, hm53⟩ := ck_some hm51; clear hm51
      obtain ⟨p54, hp55⟩ := hF10.lenMap.ix (sz := 2) ln_len c52
      refine WL.q rfl rfl rfl (QV.indexSlice sl106 rfl rfl rfl rfl hp55) ?_
      refine WL.q rfl rfl rfl (QV.fieldAddr fd57_1 rfl rfl) ?_
      refine WL.q rfl rfl rfl (QV.load pl3 rfl rfl (fun w hw => CellsAt.one 1 (((Own.karr 0 rfl hk hF10) w hw).ele hp55 c52) rfl)) ?_
      refine WL.q rfl rfl rfl (QV.eql rfl rfl rfl rfl) ?_
      refine WL.nil ?_
      refine WQ.then ?_
      refine WC.cond rfl (fun h56 => ?_) (fun h56 => ?_)
      · skip
        have hm57 := br_t h56 hm53; clear hm53
        refine WC.region ?_
        refine WL.q rfl rfl rfl (QV.move rfl rfl) ?_
        obtain ⟨c58, hm59⟩ := ck_some hm57; clear hm57
        refine WL.q rfl rfl rfl (QV.sub rfl rfl rfl rfl c58) ?_
        refine WL.q rfl rfl rfl (QV.assign rfl rfl) ?_
        refine WL.nil ?_
        refine WQ.then ?_
        refine WC.seq ?_
        refine WC.region ?_
        refine WL.q rfl rfl rfl (QV.move rfl rfl) ?_
        refine WL.q rfl rfl rfl (QV.move rfl rfl) ?_
        obtain ⟨c60, hm61⟩ := ck_some hm59; clear hm59
        obtain ⟨p62, hp63⟩ := hF10.lenMap.ix (sz := 2) ln_len c60
        refine WL.q rfl rfl rfl (QV.indexSlice sl106 rfl rfl rfl rfl hp63) ?_
        refine WL.q rfl rfl rfl (QV.fieldAddr fd57_1 rfl rfl) ?_
        refine WL.q rfl rfl rfl (QV.load pl3 rfl rfl (fun w hw => CellsAt.one 1 (((Own.karr 0 rfl hk hF10) w hw).ele hp63 c60) rfl)) ?_
        obtain ⟨x64, hx65, hm66⟩ := bd_some hm61; clear hm61
        refine WL.q rfl rfl rfl (QV.call en50 (EvAll.cons rfl rfl (EvAll.cons rfl rfl (EvAll.cons rfl rfl EvAll.nil))) (fun w hw => have h := roundelayref2_Within_w w hx65 ; h)) ?_
        refine WL.q rfl rfl rfl (QV.not rfl rfl) ?_
        refine WL.q rfl rfl rfl (QV.move rfl rfl) ?_
        refine WL.g rfl rfl (GuardIs.neg rfl rfl) (fun hG => QV.move rfl rfl) ?_
        refine WL.g rfl rfl (GuardIs.neg rfl rfl) (fun hG => QV.move rfl rfl) ?_
        obtain ⟨c67, hm68⟩ := ck_some hm66; clear hm66
        obtain ⟨p69, hp70⟩ := hF10.lenMap.ixG (sz := 2) ln_len c67
        refine WL.g rfl rfl (GuardIs.neg rfl rfl) (fun hG => QV.indexSlice sl106 rfl hG rfl hG (hp70 hG)) ?_
        refine WL.g rfl rfl (GuardIs.neg rfl rfl) (fun hG => QV.fieldAddr fd57_0 rfl hG) ?_
        refine WL.g rfl rfl (GuardIs.neg rfl rfl) (fun hG => QV.load pl3 rfl hG (fun w hw => CellsAt.one 0 (((Own.karr 0 rfl hk hF10) w hw).ele (hp70 hG) (c67 hG)) rfl)) ?_
        refine WL.g rfl rfl (GuardIs.neg rfl rfl) (fun hG => QV.move rfl rfl) ?_
        obtain ⟨x71, hx72, hm73⟩ := bdG_some hm68; clear hm68
        refine WL.g rfl rfl (GuardIs.neg rfl rfl) (fun hG => QV.call en50 (EvAll.cons rfl hG (EvAll.cons rfl rfl (EvAll.cons rfl hG EvAll.nil))) (fun w hw => have h := roundelayref2_Within_w w (hx72 hG) ; h)) ?_
        refine WL.g rfl rfl (GuardIs.neg rfl rfl) (fun hG => QV.not rfl hG) ?_
        refine WL.q rfl rfl rfl (QV.pickOr rfl rfl rfl (fun h => notF h)) ?_
        refine WL.nil ?_
        refine WQ.then ?_
        refine WC.cond rfl (fun h74 => ?_) (fun h74 => ?_)
        · skip
          have hm75 := br_t h74 hm73; clear hm73
          refine WC.seq ?_
          refine WC.region ?_
          refine WL.q rfl rfl rfl (QV.assign rfl rfl) ?_
          refine WL.nil ?_
          refine WQ.then ?_
          refine WC.ret ?_
          refine WQ.block_ret ?_
          refine WQ.then_ret ?_
          refine WQ.then_ret ?_
          refine WQ.block_ret ?_
          refine WQ.then_ret ?_
          refine WQ.then_ret ?_
          obtain rfl := up_ret hm75 hn47
          obtain rfl := (eq_of_some hm13).symm
          refine WQ.ret1 rfl rfl (fun w hw => ?_)
          exact ⟨rfl, Own.kgrow (fun _ x => x) hw⟩
        · skip
          have hm76 := br_f h74 hm73; clear hm73
          refine WC.skip ?_
          refine WQ.block ?_
          refine WQ.then ?_
          refine WC.region ?_
          refine WL.q rfl rfl rfl (QV.move rfl rfl) ?_
          obtain ⟨c77, hm78⟩ := ck_some hm76; clear hm76
          refine WL.q rfl rfl rfl (QV.add rfl rfl rfl rfl c77) ?_
          refine WL.q rfl rfl rfl (QV.assign rfl rfl) ?_
          refine WL.nil ?_
          exact WQ.again1 (i7_1 + 1) m44 (up_next hm78 hn47) (Nat.lt_succ_self _) ⟨rfl, rfl, rfl, rfl, rfl, trivial⟩ (fun w hw => hw.pick [0, 1, 2] (by decide))
      · skip
        have hm79 := br_f h56 hm53; clear hm53
        refine WC.skip ?_
        refine WQ.then ?_
        refine WC.seq ?_
        refine WC.region ?_
        refine WL.q rfl rfl rfl (QV.move rfl rfl) ?_
        refine WL.q rfl rfl rfl (QV.move rfl rfl) ?_
        obtain ⟨c80, hm81⟩ := ck_some hm79; clear hm79
        obtain ⟨p82, hp83⟩ := hF10.lenMap.ix (sz := 2) ln_len c80
        refine WL.q rfl rfl rfl (QV.indexSlice sl106 rfl rfl rfl rfl hp83) ?_
        refine WL.q rfl rfl rfl (QV.fieldAddr fd57_1 rfl rfl) ?_
        refine WL.q rfl rfl rfl (QV.load pl3 rfl rfl (fun w hw => CellsAt.one 1 (((Own.karr 0 rfl hk hF10) w hw).ele hp83 c80) rfl)) ?_
        obtain ⟨x84, hx85, hm86⟩ := bd_some hm81; clear hm81
        refine WL.q rfl rfl rfl (QV.call en50 (EvAll.cons rfl rfl (EvAll.cons rfl rfl (EvAll.cons rfl rfl EvAll.nil))) (fun w hw => have h := roundelayref2_Within_w w hx85 ; h)) ?_
        refine WL.q rfl rfl rfl (QV.not rfl rfl) ?_
        refine WL.q rfl rfl rfl (QV.move rfl rfl) ?_
        refine WL.g rfl rfl (GuardIs.neg rfl rfl) (fun hG => QV.move rfl rfl) ?_
        refine WL.g rfl rfl (GuardIs.neg rfl rfl) (fun hG => QV.move rfl rfl) ?_
        obtain ⟨c87, hm88⟩ := ck_some hm86; clear hm86
        obtain ⟨p89, hp90⟩ := hF10.lenMap.ixG (sz := 2) ln_len c87
        refine WL.g rfl rfl (GuardIs.neg rfl rfl) (fun hG => QV.indexSlice sl106 rfl hG rfl hG (hp90 hG)) ?_
        refine WL.g rfl rfl (GuardIs.neg rfl rfl) (fun hG => QV.fieldAddr fd57_0 rfl hG) ?_
        refine WL.g rfl rfl (GuardIs.neg rfl rfl) (fun hG => QV.load pl3 rfl hG (fun w hw => CellsAt.one 0 (((Own.karr 0 rfl hk hF10) w hw).ele (hp90 hG) (c87 hG)) rfl)) ?_
        refine WL.g rfl rfl (GuardIs.neg rfl rfl) (fun hG => QV.move rfl rfl) ?_
        obtain ⟨x91, hx92, hm93⟩ := bdG_some hm88; clear hm88
        refine WL.g rfl rfl (GuardIs.neg rfl rfl) (fun hG => QV.call en50 (EvAll.cons rfl hG (EvAll.cons rfl rfl (EvAll.cons rfl hG EvAll.nil))) (fun w hw => have h := roundelayref2_Within_w w (hx92 hG) ; h)) ?_
        refine WL.g rfl rfl (GuardIs.neg rfl rfl) (fun hG => QV.not rfl hG) ?_
        refine WL.q rfl rfl rfl (QV.pickOr rfl rfl rfl (fun h => notF h)) ?_
        refine WL.nil ?_
        refine WQ.then ?_
        refine WC.cond rfl (fun h94 => ?_) (fun h94 => ?_)
        · skip
          have hm95 := br_t h94 hm93; clear hm93
          refine WC.seq ?_
          refine WC.region ?_
          refine WL.q rfl rfl rfl (QV.assign rfl rfl) ?_
          refine WL.nil ?_
          refine WQ.then ?_
          refine WC.ret ?_
          refine WQ.block_ret ?_
          refine WQ.then_ret ?_
          refine WQ.then_ret ?_
          refine WQ.block_ret ?_
          refine WQ.then_ret ?_
          refine WQ.then_ret ?_
          obtain rfl := up_ret hm95 hn47
          obtain rfl := (eq_of_some hm13).symm
          refine WQ.ret1 rfl rfl (fun w hw => ?_)
          exact ⟨rfl, Own.kgrow (fun _ x => x) hw⟩
        · skip
          have hm96 := br_f h94 hm93; clear hm93
          refine WC.skip ?_
          refine WQ.block ?_
          refine WQ.then ?_
          refine WC.region ?_
          refine WL.q rfl rfl rfl (QV.move rfl rfl) ?_
          obtain ⟨c97, hm98⟩ := ck_some hm96; clear hm96
          refine WL.q rfl rfl rfl (QV.add rfl rfl rfl rfl c97) ?_
          refine WL.q rfl rfl rfl (QV.assign rfl rfl) ?_
          refine WL.nil ?_
          exact WQ.again1 (i7_1 + 1) m44 (up_next hm98 hn47) (Nat.lt_succ_self _) ⟨rfl, rfl, rfl, rfl, rfl, trivial⟩ (fun w hw => hw.pick [0, 1, 2] (by decide))
    · skip
      have hm99 := br_f h48 hm46; clear hm46
      refine WC.exit ?_
      refine WQ.then_exit ?_
      refine WQ.then_exit ?_
      refine WQ.block_exit ?_
      exact WQ.out1 i7_1 (up_brk hm99 hn47) ⟨rfl, rfl, rfl, rfl, rfl, trivial⟩ (fun w hw => hw.pick [0, 1, 2] (by decide))

set_option maxRecDepth 8000 in
theorem roundelayref2_May_w {v_l_logs : Value} {v_l_body : Value} {v_l_outs : Value} {l : Lp} {r : Bool} (w : World) (hm : roundelayref2_May_m l = some r) (h_l_logs : Arr w v_l_logs 1 (l.logs.map icell)) (h_l_body : Arr w v_l_body 9 (l.body.map Stm.cells)) (h_l_outs : Arr w v_l_outs 1 (l.outs.map icell)) : Calls Try.prog 68 #[.agg #[v_l_logs, v_l_body, v_l_outs]] w (fun e w' => e = .returned (.bool r) ∧ Grow w w') := by
  unfold roundelayref2_May_m at hm
  have hk := Base.rfl (w := w)
  refine calls_of_WC (n := 79) (args := [.agg #[v_l_logs, v_l_body, v_l_outs]]) Try.func68 rfl rfl (Nat.le_of_ble_eq_true rfl) ?_ (Own.startK hk (Own.start w))
  refine WC.seq ?_
  refine WC.region ?_
  refine WL.effect rfl ?_
  refine (EV.boxAgg (by decide) rfl rfl (fun b1 => ?_))
  refine WL.q rfl rfl rfl (QV.assign rfl rfl) ?_
  refine WL.nil ?_
  refine WQ.then ?_
  refine WC.seq ?_
  refine WC.region ?_
  refine WL.q rfl rfl rfl (QV.fieldAddr fd49_1 rfl rfl) ?_
  refine WL.q rfl rfl rfl (QV.load pl47 rfl rfl (Own.cell 0 rfl rfl)) ?_
  refine WL.q rfl rfl rfl (QV.lenS Try.underlying47 rfl rfl h_l_body.lenMap) ?_
  refine WL.q rfl rfl rfl (QV.assign rfl rfl) ?_
  refine WL.nil ?_
  refine WQ.then ?_
  refine WC.seq ?_
  refine WC.seq ?_
  refine WC.region ?_
  refine WL.q rfl rfl rfl (QV.fieldAddr fd49_0 rfl rfl) ?_
  refine WL.q rfl rfl rfl (QV.load pl30 rfl rfl (Own.cell 0 rfl rfl)) ?_
  refine WL.q rfl rfl rfl (QV.lenS Try.underlying30 rfl rfl h_l_logs.lenMap) ?_
  refine WL.q rfl rfl rfl (QV.gtr rfl rfl rfl rfl) ?_
  refine WL.q rfl rfl rfl (QV.move rfl rfl) ?_
  refine WL.g rfl rfl (GuardIs.neg rfl rfl) (fun hG => QV.move rfl rfl) ?_
  refine WL.g rfl rfl (GuardIs.neg rfl rfl) (fun hG => QV.lss rfl hG rfl rfl) ?_
  refine WL.q rfl rfl rfl (QV.pickOr rfl rfl rfl (fun h => notF h)) ?_
  refine WL.q rfl rfl rfl (QV.move rfl rfl) ?_
  refine WL.g rfl rfl (GuardIs.neg rfl rfl) (fun hG => QV.move rfl rfl) ?_
  refine WL.g rfl rfl (GuardIs.neg rfl rfl) (fun hG => QV.gtr rfl hG rfl rfl) ?_
  refine WL.q rfl rfl rfl (QV.pickOr rfl rfl rfl (fun h => notF h)) ?_
  refine WL.nil ?_
  refine WQ.then ?_
  refine WC.cond rfl (fun h2 => ?_) (fun h2 => ?_)
  · skip
    have hm3 := br_t h2 hm; clear hm
    refine WC.seq ?_
    refine WC.region ?_
    refine WL.q rfl rfl rfl (QV.assign rfl rfl) ?_
    refine WL.nil ?_
    refine WQ.then ?_
    refine WC.ret ?_
    refine WQ.then_ret ?_
    obtain rfl := (eq_of_some hm3).symm
    refine WQ.ret1 rfl rfl (fun w hw => ?_)
    exact ⟨rfl, Own.kgrow (fun _ x => x) hw⟩
  · skip
    have hm4 := br_f h2 hm; clear hm
    refine WC.skip ?_
    refine WQ.then ?_
    refine WC.seq ?_
    refine WC.seq ?_
    refine WC.region ?_
    refine WL.q rfl rfl rfl (QV.assign rfl rfl) ?_
    refine WL.nil ?_
    refine WQ.then ?_
    obtain ⟨o5, ho6, hm7⟩ := bd_some hm4; clear hm4; obtain ⟨n8, ho9⟩ := lp_some ho6
    refine WC.bloop1 (H2 := [blk b1 [v_l_logs, v_l_body, v_l_outs] 49, kn noM w.heap.size w w]) (τ := [(1, (true, _)), (3, (true, _))]) (fun (i4_1 : Int) => [(4, (true, .int .i64 i4_1))]) (fun (i4_1 : Int) => []) (fun (i4_1 : Int) (m : Nat) => iter (roundelayref2_May_L0 l) m i4_1 = some o5) (fun (i4_1 : Int) => o5 = .go i4_1) 0 n8 ho9 ⟨rfl, rfl, rfl, trivial⟩ (fun w hw => hw.pick [0, 1] (by decide)) ?_ ?_
    · skip
      rintro i4_1 rfl
      refine WQ.then ?_
      refine WC.seq ?_
      refine WC.seq ?_
      refine WC.region ?_
      refine WL.q rfl rfl rfl (QV.assign rfl rfl) ?_
      refine WL.nil ?_
      refine WQ.then ?_
      obtain ⟨o10, ho11, hm12⟩ := bd_some hm7; clear hm7; obtain ⟨n13, ho14⟩ := lp_some ho11
      refine WC.bloop1 (H2 := [blk b1 [v_l_logs, v_l_body, v_l_outs] 49, kn noM w.heap.size w w]) (τ := [(1, (true, _)), (3, (true, _))]) (fun (i5_2 : Int) => [(5, (true, .int .i64 i5_2))]) (fun (i5_2 : Int) => []) (fun (i5_2 : Int) (m : Nat) => iter (roundelayref2_May_L2 l) m i5_2 = some o10) (fun (i5_2 : Int) => o10 = .go i5_2) 0 n13 ho14 ⟨rfl, rfl, rfl, trivial⟩ (fun w hw => hw.pick [0, 1] (by decide)) ?_ ?_
      · skip
        rintro i5_2 rfl
        refine WQ.then ?_
        refine WC.seq ?_
        refine WC.seq ?_
        refine WC.region ?_
        refine WL.q rfl rfl rfl (QV.assign rfl rfl) ?_
        refine WL.nil ?_
        refine WQ.then ?_
        obtain ⟨o15, ho16, hm17⟩ := bd_some hm12; clear hm12; obtain ⟨n18, ho19⟩ := lp_some ho16
        refine WC.bloop1 (H2 := [blk b1 [v_l_logs, v_l_body, v_l_outs] 49, kn noM w.heap.size w w]) (τ := [(1, (true, _)), (3, (true, _))]) (fun (k6_3 : Int) => [(6, (true, .int .i64 k6_3))]) (fun (k6_3 : Int) => []) (fun (k6_3 : Int) (m : Nat) => iter (roundelayref2_May_L4 l) m k6_3 = some o15) (fun (k6_3 : Int) => o15 = .go k6_3) 0 n18 ho19 ⟨rfl, rfl, rfl, trivial⟩ (fun w hw => hw.pick [0, 1] (by decide)) ?_ ?_
        · skip
          rintro k6_3 rfl
          refine WQ.then ?_
          refine WC.seq ?_
          refine WC.region ?_
          refine WL.q rfl rfl rfl (QV.assign rfl rfl) ?_
          refine WL.nil ?_
          refine WQ.then ?_
          refine WC.ret ?_
          obtain rfl := (eq_of_some hm17).symm
          refine WQ.ret1 rfl rfl (fun w hw => ?_)
          exact ⟨rfl, Own.kgrow (fun _ x => x) hw⟩
        · skip
          rintro k6_3 m20 hI21
          obtain ⟨m22, s23, rfl, hm24, hn25⟩ := iter_step hI21; clear hI21; unfold roundelayref2_May_L4 at hm24
          refine WC.seq ?_
          refine WC.seq ?_
          refine WC.region ?_
          refine WL.q rfl rfl rfl (QV.move rfl rfl) ?_
          refine WL.q rfl rfl rfl (QV.move rfl rfl) ?_
          refine WL.q rfl rfl rfl (QV.lss rfl rfl rfl rfl) ?_
          refine WL.nil ?_
          refine WQ.then ?_
          refine WC.cond rfl (fun h26 => ?_) (fun h26 => ?_)
          · skip
            have hm27 := br_t h26 hm24; clear hm24
            refine WC.skip ?_
            refine WQ.then ?_
            refine WC.seq ?_
            refine WC.block ?_
            refine WC.seq ?_
            refine WC.region ?_
            refine WL.q rfl rfl rfl (QV.loadAgg ag49 rfl rfl rfl (Own.cellsBlk 0 rfl)) ?_
            refine WL.q rfl rfl rfl (QV.move rfl rfl) ?_
            obtain ⟨x28, hx29, hm30⟩ := bd_some hm27; clear hm27
            refine WL.q rfl rfl rfl (QV.call en109 (EvAll.cons rfl rfl (EvAll.cons rfl rfl EvAll.nil)) (fun w hw => have h := roundelayref2_stmt_w w hx29 ((Own.karr 1 rfl hk h_l_logs) w hw) ((Own.karr 1 rfl hk h_l_body) w hw) ((Own.karr 1 rfl hk h_l_outs) w hw); h)) ?_
            refine WL.q rfl rfl rfl (QV.not rfl rfl) ?_
            refine WL.nil ?_
            refine WQ.then ?_
            refine WC.cond rfl (fun h31 => ?_) (fun h31 => ?_)
            · skip
              have hm32 := br_t h31 hm30; clear hm30
              refine WC.seq ?_
              refine WC.region ?_
              refine WL.q rfl rfl rfl (QV.assign rfl rfl) ?_
              refine WL.nil ?_
              refine WQ.then ?_
              refine WC.ret ?_
              refine WQ.block_ret ?_
              refine WQ.then_ret ?_
              refine WQ.then_ret ?_
              refine WQ.block_ret ?_
              refine WQ.then_ret ?_
              refine WQ.then_ret ?_
              obtain rfl := up_ret hm32 hn25
              obtain rfl := (eq_of_some hm17).symm
              refine WQ.ret1 rfl rfl (fun w hw => ?_)
              exact ⟨rfl, Own.kgrow (fun _ x => x) hw⟩
            · skip
              have hm33 := br_f h31 hm30; clear hm30
              refine WC.skip ?_
              refine WQ.block ?_
              refine WQ.then ?_
              refine WC.region ?_
              refine WL.q rfl rfl rfl (QV.move rfl rfl) ?_
              obtain ⟨c34, hm35⟩ := ck_some hm33; clear hm33
              refine WL.q rfl rfl rfl (QV.add rfl rfl rfl rfl c34) ?_
              refine WL.q rfl rfl rfl (QV.assign rfl rfl) ?_
              refine WL.nil ?_
              exact WQ.again1 (k6_3 + 1) m22 (up_next hm35 hn25) (Nat.lt_succ_self _) ⟨rfl, rfl, rfl, trivial⟩ (fun w hw => hw.pick [0, 1] (by decide))
          · skip
            have hm36 := br_f h26 hm24; clear hm24
            refine WC.exit ?_
            refine WQ.then_exit ?_
            refine WQ.then_exit ?_
            refine WQ.block_exit ?_
            exact WQ.out1 k6_3 (up_brk hm36 hn25) ⟨rfl, rfl, rfl, trivial⟩ (fun w hw => hw.pick [0, 1] (by decide))
      · skip
        rintro i5_2 m37 hI38
        obtain ⟨m39, s40, rfl, hm41, hn42⟩ := iter_step hI38; clear hI38; unfold roundelayref2_May_L2 at hm41
        refine WC.seq ?_
        refine WC.seq ?_
        refine WC.region ?_
        refine WL.q rfl rfl rfl (QV.move rfl rfl) ?_
        refine WL.q rfl rfl rfl (QV.fieldAddr fd49_2 rfl rfl) ?_
        refine WL.q rfl rfl rfl (QV.load pl30 rfl rfl (Own.cell 0 rfl rfl)) ?_
        refine WL.q rfl rfl rfl (QV.lenS Try.underlying30 rfl rfl h_l_outs.lenMap) ?_
        refine WL.q rfl rfl rfl (QV.lss rfl rfl rfl rfl) ?_
        refine WL.nil ?_
        refine WQ.then ?_
        refine WC.cond rfl (fun h43 => ?_) (fun h43 => ?_)
        · skip
          have hm44 := br_t h43 hm41; clear hm41
          refine WC.skip ?_
          refine WQ.then ?_
          refine WC.seq ?_
          refine WC.block ?_
          refine WC.seq ?_
          refine WC.dr (m := 27) (S := Own noM w [kn noM w.heap.size w w, blk b1 [v_l_logs, v_l_body, v_l_outs] 49]) (by kernel_rfl) (by kernel_rfl) (fun w hw => hw.pick [1, 0] (by decide)) ?_
          refine WD.q 0 rfl (by kernel_rfl) rfl rfl rfl (QV.fieldAddr fd49_2 rfl rfl) ?_
          refine WD.q 1 rfl (by kernel_rfl) rfl rfl rfl (QV.load pl30 rfl rfl (Own.cell 1 rfl rfl)) ?_
          refine WD.q 2 rfl (by kernel_rfl) rfl rfl rfl (QV.move rfl rfl) ?_
          obtain ⟨c45, hm46⟩ := ck_some hm44; clear hm44
          obtain ⟨p47, hp48⟩ := h_l_outs.lenMap.ix (sz := 1) ln_len c45
          refine WD.q 3 rfl (by kernel_rfl) rfl rfl rfl (QV.indexSlice sl30 rfl rfl rfl rfl hp48) ?_
          refine WD.q 4 rfl (by kernel_rfl) rfl rfl rfl (QV.load pl3 rfl rfl (fun w hw => CellsAt.one 0 (((Own.karr 0 rfl hk h_l_outs) w hw).ele hp48 c45) rfl)) ?_
          refine WD.q 5 rfl (by kernel_rfl) rfl rfl rfl (QV.move rfl rfl) ?_
          obtain ⟨c49, hm50⟩ := ck_some hm46; clear hm46
          refine WD.q 6 rfl (by kernel_rfl) rfl rfl rfl (QV.sub rfl rfl rfl rfl c49) ?_
          obtain ⟨x51, hx52, hm53⟩ := bd_some hm50; clear hm50
          refine WD.q 7 rfl (by kernel_rfl) rfl rfl rfl (QV.call en50 (EvAll.cons rfl rfl (EvAll.cons rfl rfl (EvAll.cons rfl rfl EvAll.nil))) (fun w hw => have h := roundelayref2_Within_w w hx52 ; h)) ?_
          refine WD.q 8 rfl (by kernel_rfl) rfl rfl rfl (QV.not rfl rfl) ?_
          refine WD.q 9 rfl (by kernel_rfl) rfl rfl rfl (QV.move rfl rfl) ?_
          refine WD.g 10 rfl (by kernel_rfl) rfl rfl (GuardIs.neg rfl rfl) (fun hG => QV.move rfl rfl) ?_
          refine WD.g 11 rfl (by kernel_rfl) rfl rfl (GuardIs.neg rfl rfl) (fun hG => QV.gtr rfl hG rfl rfl) ?_
          refine WD.g 12 rfl (by kernel_rfl) rfl rfl (GuardIs.neg rfl rfl) (fun hG => QV.move rfl hG) ?_
          refine WD.g 13 rfl (by kernel_rfl) rfl rfl (GuardIs.posC rfl rfl) (fun hG => QV.fieldAddr fd49_2 rfl rfl) ?_
          refine WD.g 14 rfl (by kernel_rfl) rfl rfl (GuardIs.posC rfl rfl) (fun hG => QV.load pl30 rfl hG (Own.cell 1 rfl rfl)) ?_
          refine WD.g 15 rfl (by kernel_rfl) rfl rfl (GuardIs.posC rfl rfl) (fun hG => QV.move rfl rfl) ?_
          obtain ⟨c54, hm55⟩ := ck_some hm53; clear hm53
          obtain ⟨p56, hp57⟩ := h_l_outs.lenMap.ixG (sz := 1) ln_len c54
          refine WD.g 16 rfl (by kernel_rfl) rfl rfl (GuardIs.posC rfl rfl) (fun hG => QV.indexSlice sl30 rfl hG rfl hG (hp57 hG)) ?_
          refine WD.g 17 rfl (by kernel_rfl) rfl rfl (GuardIs.posC rfl rfl) (fun hG => QV.load pl3 rfl hG (fun w hw => CellsAt.one 0 (((Own.karr 0 rfl hk h_l_outs) w hw).ele (hp57 hG) (c54 hG)) rfl)) ?_
          refine WD.g 18 rfl (by kernel_rfl) rfl rfl (GuardIs.posC rfl rfl) (fun hG => QV.fieldAddr fd49_2 rfl rfl) ?_
          refine WD.g 19 rfl (by kernel_rfl) rfl rfl (GuardIs.posC rfl rfl) (fun hG => QV.load pl30 rfl hG (Own.cell 1 rfl rfl)) ?_
          refine WD.g 20 rfl (by kernel_rfl) rfl rfl (GuardIs.posC rfl rfl) (fun hG => QV.move rfl rfl) ?_
          obtain ⟨c58, hm59⟩ := ck_some hm55; clear hm55
          refine WD.g 21 rfl (by kernel_rfl) rfl rfl (GuardIs.posC rfl rfl) (fun hG => QV.sub rfl hG rfl rfl (c58 hG)) ?_
          obtain ⟨c60, hm61⟩ := ck_some hm59; clear hm59
          obtain ⟨p62, hp63⟩ := h_l_outs.lenMap.ixG (sz := 1) ln_len c60
          refine WD.g 22 rfl (by kernel_rfl) rfl rfl (GuardIs.posC rfl rfl) (fun hG => QV.indexSlice sl30 rfl hG rfl hG (hp63 hG)) ?_
          refine WD.g 23 rfl (by kernel_rfl) rfl rfl (GuardIs.posC rfl rfl) (fun hG => QV.load pl3 rfl hG (fun w hw => CellsAt.one 0 (((Own.karr 0 rfl hk h_l_outs) w hw).ele (hp63 hG) (c60 hG)) rfl)) ?_
          refine WD.g 24 rfl (by kernel_rfl) rfl rfl (GuardIs.posC rfl rfl) (fun hG => QV.leq rfl hG rfl hG) ?_
          refine WD.g 25 rfl (by kernel_rfl) rfl rfl (GuardIs.neg rfl rfl) (fun hG => QV.pickAnd rfl hG rfl (fun h => andT hG h)) ?_
          refine WD.q 26 rfl (by kernel_rfl) rfl rfl rfl (QV.pickOr rfl rfl rfl (fun h => notF h)) ?_
          refine WD.e (by kernel_rfl) ?_
          refine WQ.then ?_
          refine WC.cond rfl (fun h64 => ?_) (fun h64 => ?_)
          · skip
            have hm65 := br_t h64 hm61; clear hm61
            refine WC.seq ?_
            refine WC.region ?_
            refine WL.q rfl rfl rfl (QV.assign rfl rfl) ?_
            refine WL.nil ?_
            refine WQ.then ?_
            refine WC.ret ?_
            refine WQ.block_ret ?_
            refine WQ.then_ret ?_
            refine WQ.then_ret ?_
            refine WQ.block_ret ?_
            refine WQ.then_ret ?_
            refine WQ.then_ret ?_
            obtain rfl := up_ret hm65 hn42
            obtain rfl := (eq_of_some hm12).symm
            refine WQ.ret1 rfl rfl (fun w hw => ?_)
            exact ⟨rfl, Own.kgrow (fun _ x => x) hw⟩
          · skip
            have hm66 := br_f h64 hm61; clear hm61
            refine WC.skip ?_
            refine WQ.block ?_
            refine WQ.then ?_
            refine WC.region ?_
            refine WL.q rfl rfl rfl (QV.move rfl rfl) ?_
            obtain ⟨c67, hm68⟩ := ck_some hm66; clear hm66
            refine WL.q rfl rfl rfl (QV.add rfl rfl rfl rfl c67) ?_
            refine WL.q rfl rfl rfl (QV.assign rfl rfl) ?_
            refine WL.nil ?_
            exact WQ.again1 (i5_2 + 1) m39 (up_next hm68 hn42) (Nat.lt_succ_self _) ⟨rfl, rfl, rfl, trivial⟩ (fun w hw => hw.pick [0, 1] (by decide))
        · skip
          have hm69 := br_f h43 hm41; clear hm41
          refine WC.exit ?_
          refine WQ.then_exit ?_
          refine WQ.then_exit ?_
          refine WQ.block_exit ?_
          exact WQ.out1 i5_2 (up_brk hm69 hn42) ⟨rfl, rfl, rfl, trivial⟩ (fun w hw => hw.pick [0, 1] (by decide))
    · skip
      rintro i4_1 m70 hI71
      obtain ⟨m72, s73, rfl, hm74, hn75⟩ := iter_step hI71; clear hI71; unfold roundelayref2_May_L0 at hm74
      refine WC.seq ?_
      refine WC.seq ?_
      refine WC.region ?_
      refine WL.q rfl rfl rfl (QV.move rfl rfl) ?_
      refine WL.q rfl rfl rfl (QV.fieldAddr fd49_0 rfl rfl) ?_
      refine WL.q rfl rfl rfl (QV.load pl30 rfl rfl (Own.cell 0 rfl rfl)) ?_
      refine WL.q rfl rfl rfl (QV.lenS Try.underlying30 rfl rfl h_l_logs.lenMap) ?_
      refine WL.q rfl rfl rfl (QV.lss rfl rfl rfl rfl) ?_
      refine WL.nil ?_
      refine WQ.then ?_
      refine WC.cond rfl (fun h76 => ?_) (fun h76 => ?_)
      · skip
        have hm77 := br_t h76 hm74; clear hm74
        refine WC.skip ?_
        refine WQ.then ?_
        refine WC.seq ?_
        refine WC.block ?_
        refine WC.seq ?_
        refine WC.region ?_
        refine WL.q rfl rfl rfl (QV.fieldAddr fd49_0 rfl rfl) ?_
        refine WL.q rfl rfl rfl (QV.load pl30 rfl rfl (Own.cell 0 rfl rfl)) ?_
        refine WL.q rfl rfl rfl (QV.move rfl rfl) ?_
        obtain ⟨c78, hm79⟩ := ck_some hm77; clear hm77
        obtain ⟨p80, hp81⟩ := h_l_logs.lenMap.ix (sz := 1) ln_len c78
        refine WL.q rfl rfl rfl (QV.indexSlice sl30 rfl rfl rfl rfl hp81) ?_
        refine WL.q rfl rfl rfl (QV.load pl3 rfl rfl (fun w hw => CellsAt.one 0 (((Own.karr 1 rfl hk h_l_logs) w hw).ele hp81 c78) rfl)) ?_
        obtain ⟨x82, hx83, hm84⟩ := bd_some hm79; clear hm79
        refine WL.q rfl rfl rfl (QV.call en50 (EvAll.cons rfl rfl (EvAll.cons rfl rfl (EvAll.cons rfl rfl EvAll.nil))) (fun w hw => have h := roundelayref2_Within_w w hx83 ; h)) ?_
        refine WL.q rfl rfl rfl (QV.not rfl rfl) ?_
        refine WL.nil ?_
        refine WQ.then ?_
        refine WC.cond rfl (fun h85 => ?_) (fun h85 => ?_)
        · skip
          have hm86 := br_t h85 hm84; clear hm84
          refine WC.seq ?_
          refine WC.region ?_
          refine WL.q rfl rfl rfl (QV.assign rfl rfl) ?_
          refine WL.nil ?_
          refine WQ.then ?_
          refine WC.ret ?_
          refine WQ.block_ret ?_
          refine WQ.then_ret ?_
          refine WQ.then_ret ?_
          refine WQ.block_ret ?_
          refine WQ.then_ret ?_
          refine WQ.then_ret ?_
          obtain rfl := up_ret hm86 hn75
          obtain rfl := (eq_of_some hm7).symm
          refine WQ.ret1 rfl rfl (fun w hw => ?_)
          exact ⟨rfl, Own.kgrow (fun _ x => x) hw⟩
        · skip
          have hm87 := br_f h85 hm84; clear hm84
          refine WC.skip ?_
          refine WQ.block ?_
          refine WQ.then ?_
          refine WC.region ?_
          refine WL.q rfl rfl rfl (QV.move rfl rfl) ?_
          obtain ⟨c88, hm89⟩ := ck_some hm87; clear hm87
          refine WL.q rfl rfl rfl (QV.add rfl rfl rfl rfl c88) ?_
          refine WL.q rfl rfl rfl (QV.assign rfl rfl) ?_
          refine WL.nil ?_
          exact WQ.again1 (i4_1 + 1) m72 (up_next hm89 hn75) (Nat.lt_succ_self _) ⟨rfl, rfl, rfl, trivial⟩ (fun w hw => hw.pick [0, 1] (by decide))
      · skip
        have hm90 := br_f h76 hm74; clear hm74
        refine WC.exit ?_
        refine WQ.then_exit ?_
        refine WQ.then_exit ?_
        refine WQ.block_exit ?_
        exact WQ.out1 i4_1 (up_brk hm90 hn75) ⟨rfl, rfl, rfl, trivial⟩ (fun w hw => hw.pick [0, 1] (by decide))

end Go.Proofs.Ytaimbkndebaaiab
end

section
namespace Go.Proofs.Ytaimbkndebaaiab
open Go.Rd
set_option linter.unusedVariables false
namespace TKeep
theorem ag192 : AggT Try.prog 192 2 := ⟨_, Try.underlying192, rfl, by kernel_rfl⟩
theorem ag49 : AggT Try.prog 49 3 := ⟨_, Try.underlying49, rfl, by kernel_rfl⟩
theorem ag57 : AggT Try.prog 57 2 := ⟨_, Try.underlying57, rfl, by kernel_rfl⟩
theorem ag59 : AggT Try.prog 59 9 := ⟨_, Try.underlying59, rfl, by kernel_rfl⟩
theorem en133 : Go.Rd.Enters Try.prog 133 := ⟨Try.f133, Try.func133, by kernel_rfl, by kernel_rfl⟩
theorem en134 : Go.Rd.Enters Try.prog 134 := ⟨Try.f134, Try.func134, by kernel_rfl, by kernel_rfl⟩
theorem en135 : Go.Rd.Enters Try.prog 135 := ⟨Try.f135, Try.func135, by kernel_rfl, by kernel_rfl⟩
theorem en144 : Go.Rd.Enters Try.prog 144 := ⟨Try.f144, Try.func144, by kernel_rfl, by kernel_rfl⟩
theorem en147 : Go.Rd.Enters Try.prog 147 := ⟨Try.f147, Try.func147, by kernel_rfl, by kernel_rfl⟩
theorem en62 : Go.Rd.Enters Try.prog 62 := ⟨Try.f62, Try.func62, by kernel_rfl, by kernel_rfl⟩
theorem fd159_0 : FieldT Try.prog 159 0 0 := ⟨_, _, 2, Try.underlying159, rfl, rfl, by kernel_rfl⟩
theorem fd159_1 : FieldT Try.prog 159 1 3 := ⟨_, _, 0, Try.underlying159, rfl, rfl, by kernel_rfl⟩
theorem fd159_2 : FieldT Try.prog 159 2 4 := ⟨_, _, 0, Try.underlying159, rfl, rfl, by kernel_rfl⟩
theorem fd159_3 : FieldT Try.prog 159 3 5 := ⟨_, _, 0, Try.underlying159, rfl, rfl, by kernel_rfl⟩
theorem fd159_4 : FieldT Try.prog 159 4 6 := ⟨_, _, 0, Try.underlying159, rfl, rfl, by kernel_rfl⟩
theorem fd159_5 : FieldT Try.prog 159 5 7 := ⟨_, _, 0, Try.underlying159, rfl, rfl, by kernel_rfl⟩
theorem fd192_0 : FieldT Try.prog 192 0 0 := ⟨_, _, 0, Try.underlying192, rfl, rfl, by kernel_rfl⟩
theorem fd192_1 : FieldT Try.prog 192 1 1 := ⟨_, _, 0, Try.underlying192, rfl, rfl, by kernel_rfl⟩
theorem fd49_1 : FieldT Try.prog 49 1 1 := ⟨_, _, 0, Try.underlying49, rfl, rfl, by kernel_rfl⟩
theorem fd49_2 : FieldT Try.prog 49 2 2 := ⟨_, _, 0, Try.underlying49, rfl, rfl, by kernel_rfl⟩
theorem fd57_0 : FieldT Try.prog 57 0 0 := ⟨_, _, 0, Try.underlying57, rfl, rfl, by kernel_rfl⟩
theorem fd57_1 : FieldT Try.prog 57 1 1 := ⟨_, _, 0, Try.underlying57, rfl, rfl, by kernel_rfl⟩
theorem kt3 : KeyT Try.prog 3 kI := KeyT.int Try.underlying3
theorem mt180 : MapT Try.prog 180 3 4 := Try.underlying180
theorem pl3 : Plain Try.prog 3 := ⟨_, Try.underlying3, rfl⟩
theorem pl30 : Plain Try.prog 30 := ⟨_, Try.underlying30, rfl⟩
theorem pl4 : Plain Try.prog 4 := ⟨_, Try.underlying4, rfl⟩
theorem pl47 : Plain Try.prog 47 := ⟨_, Try.underlying47, rfl⟩
theorem sl106 : SliceT Try.prog 106 57 2 := ⟨Try.underlying106, by kernel_rfl⟩
theorem sl181 : SliceT Try.prog 181 192 2 := ⟨Try.underlying181, by kernel_rfl⟩
theorem sl30 : SliceT Try.prog 30 3 1 := ⟨Try.underlying30, by kernel_rfl⟩
theorem sl47 : SliceT Try.prog 47 59 9 := ⟨Try.underlying47, by kernel_rfl⟩
theorem sz192 : SizeT Try.prog 192 2 := by unfold SizeT; kernel_rfl
theorem sz57 : SizeT Try.prog 57 2 := by unfold SizeT; kernel_rfl
theorem sz59 : SizeT Try.prog 59 9 := by unfold SizeT; kernel_rfl
theorem sz_181 : SliceZ Try.prog 181 192 2 [.int .i64 0, .bool false] := ⟨Try.underlying181, by kernel_rfl⟩
theorem ve181 : VecT Try.prog 181 192 2 16 := ⟨Try.underlying181, by kernel_rfl, by decide⟩
theorem ze192 : ZeroT Try.prog 192 [.int .i64 0, .bool false] := by unfold ZeroT; kernel_rfl
theorem ze57 : ZeroT Try.prog 57 [.int .i64 0, .int .i64 0] := by unfold ZeroT; kernel_rfl
theorem ze59 : ZeroT Try.prog 59 [.int .i64 0, .int .i64 0, .int .i64 0, .int .i64 0, .int .i64 0, .int .i64 0, .int .i64 0, .int .i64 0, .int .i64 0] := by unfold ZeroT; kernel_rfl
theorem zv4bv : ZVal Try.prog 4 (bv false) := by unfold ZVal; kernel_rfl
end TKeep
open TKeep
set_option maxRecDepth 8000 in
theorem keep_Far_w {v_l_logs : Value} {v_l_body : Value} {v_l_outs : Value} {l : Lp} {a : Int} {r : Int} (w : World) (hm : keep_Far_m l a = some r) (h_l_logs : Arr w v_l_logs 1 (l.logs.map icell)) (h_l_body : Arr w v_l_body 9 (l.body.map Stm.cells)) (h_l_outs : Arr w v_l_outs 1 (l.outs.map icell)) : Calls Try.prog 135 #[.agg #[v_l_logs, v_l_body, v_l_outs], .int .i64 a] w (fun e w' => e = .returned (.int .i64 r) ∧ Grow w w') := by
  unfold keep_Far_m at hm
  have hk := Base.rfl (w := w)
  refine calls_of_WC (n := 35) (args := [.agg #[v_l_logs, v_l_body, v_l_outs], .int .i64 a]) Try.func135 rfl rfl (Nat.le_of_ble_eq_true rfl) ?_ (Own.startK hk (Own.start w))
  refine WC.seq ?_
  refine WC.region ?_
  refine WL.effect rfl ?_
  refine (EV.boxAgg (by decide) rfl rfl (fun b1 => ?_))
  refine WL.q rfl rfl rfl (QV.assign rfl rfl) ?_
  refine WL.nil ?_
  refine WQ.then ?_
  refine WC.seq ?_
  refine WC.region ?_
  refine WL.q rfl rfl rfl (QV.assign rfl rfl) ?_
  refine WL.nil ?_
  refine WQ.then ?_
  refine WC.seq ?_
  refine WC.seq ?_
  refine WC.region ?_
  refine WL.q rfl rfl rfl (QV.fieldAddr fd49_1 rfl rfl) ?_
  refine WL.q rfl rfl rfl (QV.load pl47 rfl rfl (Own.cell 0 rfl rfl)) ?_
  refine WL.q rfl rfl rfl (QV.lenS Try.underlying47 rfl rfl h_l_body.lenMap) ?_
  refine WL.q rfl rfl rfl (QV.move rfl rfl) ?_
  refine WL.nil ?_
  refine WQ.then ?_
  obtain ⟨o2, ho3, hm4⟩ := bd_some hm; clear hm; obtain ⟨n5, ho6⟩ := lp_some ho3
  refine WC.bloop3 (H2 := [blk b1 [v_l_logs, v_l_body, v_l_outs] 49]) (τ := [(1, (true, _)), (11, (true, _)), (12, (true, _))]) (fun (far5_3 : Int) (x13_3 : Int) (k_3 : World) => [(5, (true, .int .i64 far5_3)), (13, (true, .int .i64 x13_3))]) (fun (far5_3 : Int) (x13_3 : Int) (k_3 : World) => [kn noM w.heap.size w k_3]) (fun (far5_3 : Int) (x13_3 : Int) (k_3 : World) (m : Nat) => iter (keep_Far_L0 l a) m (far5_3, x13_3) = some o2 ∧ Le w k_3) (fun (far5_3 : Int) (x13_3 : Int) (k_3 : World) => o2 = .go (far5_3, x13_3) ∧ Le w k_3) 0 0 w n5 ⟨ho6, (Le.refl _)⟩ ⟨rfl, rfl, rfl, rfl, rfl, trivial⟩ (fun w hw => hw.pick [1, 0] (by decide)) ?_ ?_
  · skip
    rintro far5_3 x13_3 k_3 ⟨rfl, hle_3⟩
    refine WQ.then ?_
    refine WC.seq ?_
    refine WC.region ?_
    refine WL.q rfl rfl rfl (QV.move rfl rfl) ?_
    refine WL.q rfl rfl rfl (QV.assign rfl rfl) ?_
    refine WL.nil ?_
    refine WQ.then ?_
    refine WC.ret ?_
    obtain rfl := (eq_of_some hm4).symm
    refine WQ.ret1 rfl rfl (fun w hw => ?_)
    exact ⟨rfl, Own.kgrow (fun _ x => x) hw⟩
  · skip
    rintro far5_3 x13_3 k_3 m7 ⟨hI8, hle_3⟩
    obtain ⟨m9, s10, rfl, hm11, hn12⟩ := iter_step hI8; clear hI8; unfold keep_Far_L0 at hm11; simp only at hm11
    refine WC.seq ?_
    refine WC.region ?_
    refine WL.q rfl rfl rfl (QV.lss rfl rfl rfl rfl) ?_
    refine WL.nil ?_
    refine WQ.then ?_
    refine WC.seq ?_
    refine WC.cond rfl (fun h13 => ?_) (fun h13 => ?_)
    · skip
      have hm14 := br_t h13 hm11; clear hm11
      refine WC.skip ?_
      refine WQ.then ?_
      refine WC.seq ?_
      refine WC.block ?_
      refine WC.seq ?_
      refine WC.region ?_
      obtain ⟨c15, hm16⟩ := ck_some hm14; clear hm14
      obtain ⟨p17, hp18⟩ := (h_l_body.le hle_3).lenMap.ix (sz := 9) ln_len c15
      refine WL.q rfl rfl rfl (QV.indexSlice sl47 rfl rfl rfl rfl hp18) ?_
      refine WL.q rfl rfl rfl (QV.loadAgg ag59 rfl rfl rfl (fun w hw => ((Own.karr 0 rfl hk (h_l_body.le hle_3)) w hw).ele hp18 c15)) ?_
      refine WL.effect rfl ?_
      refine (EV.alloc (by decide) ze59 (fun b19 => ?_))
      refine WL.effect rfl ?_
      refine (EV.store 0 rfl rfl rfl rfl rfl rfl (vs := [.int .i64 ((ele l.body x13_3).op), .int .i64 (((ele l.body x13_3).a).st), .int .i64 (((ele l.body x13_3).a).bk), .int .i64 (((ele l.body x13_3).b).st), .int .i64 (((ele l.body x13_3).b).bk), .int .i64 ((ele l.body x13_3).ar), .int .i64 ((ele l.body x13_3).sp), .int .i64 ((ele l.body x13_3).pl), .int .i64 ((ele l.body x13_3).n)]) (show Value.cells _ = List.toArray _ from rfl) sz59 (Nat.le_of_ble_eq_true rfl) (one_cons rfl (one_cons rfl (one_cons rfl (one_cons rfl (one_cons rfl (one_cons rfl (one_cons rfl (one_cons rfl (one_cons rfl one_nil))))))))) ?_)
      refine WL.nil ?_
      refine WQ.then ?_
      refine WC.seq ?_
      refine WC.region ?_
      refine WL.q rfl rfl rfl (QV.loadAgg ag59 rfl rfl rfl (Own.cellsBlk 0 rfl)) ?_
      refine WL.effect rfl ?_
      obtain ⟨x20, hx21, hm22⟩ := bd_some hm16; clear hm16
      refine EV.of (C' := Own noM w [kn noM w.heap.size w k_3, blk b19 [.int .i64 ((ele l.body x13_3).op), .int .i64 (((ele l.body x13_3).a).st), .int .i64 (((ele l.body x13_3).a).bk), .int .i64 (((ele l.body x13_3).b).st), .int .i64 (((ele l.body x13_3).b).bk), .int .i64 ((ele l.body x13_3).ar), .int .i64 ((ele l.body x13_3).sp), .int .i64 ((ele l.body x13_3).pl), .int .i64 ((ele l.body x13_3).n)] 59, blk b1 [v_l_logs, v_l_body, v_l_outs] 49]) (fun w hw => hw.pick [1, 0, 2] (by decide)) ?_
      refine (EV.callR (X := Value × World) (R := []) (fun X => X.1) (fun X => []) (fun X => X.2) (fun X => Arr X.2 X.1 2 (x20.map Rf.cells)) hk (fun _ h => by cases h; decide) en62 (EvAll.cons rfl rfl EvAll.nil) (fun M w h1 h2 => have h := loop_Uses_w hx21  M w h1 h2; h) (fun X23 hF23 hle23 => ?_))
      refine WL.q rfl rfl rfl (QV.lenS Try.underlying106 rfl rfl hF23.lenMap) ?_
      refine WL.q rfl rfl rfl (QV.move rfl rfl) ?_
      refine WL.nil ?_
      refine WQ.then ?_
      obtain ⟨o24, ho25, hm26⟩ := bd_some hm22; clear hm22; obtain ⟨n27, ho28⟩ := lp_some ho25
      refine WC.bloop2 (H2 := [kn noM w.heap.size w X23.2, blk b19 [.int .i64 ((ele l.body x13_3).op), .int .i64 (((ele l.body x13_3).a).st), .int .i64 (((ele l.body x13_3).a).bk), .int .i64 (((ele l.body x13_3).b).st), .int .i64 (((ele l.body x13_3).b).bk), .int .i64 ((ele l.body x13_3).ar), .int .i64 ((ele l.body x13_3).sp), .int .i64 ((ele l.body x13_3).pl), .int .i64 ((ele l.body x13_3).n)] 59, blk b1 [v_l_logs, v_l_body, v_l_outs] 49]) (τ := [(1, (true, _)), (11, (true, _)), (12, (true, _)), (13, (true, _)), (18, (true, _)), (19, (true, _))]) (fun (far5_4 : Int) (x20_4 : Int) => [(5, (true, .int .i64 far5_4)), (20, (true, .int .i64 x20_4))]) (fun (far5_4 : Int) (x20_4 : Int) => []) (fun (far5_4 : Int) (x20_4 : Int) (m : Nat) => iter (keep_Far_L2 a x20) m (far5_4, x20_4) = some o24) (fun (far5_4 : Int) (x20_4 : Int) => o24 = .go (far5_4, x20_4)) far5_3 0 n27 ho28 ⟨rfl, rfl, rfl, rfl, rfl, rfl, rfl, rfl, trivial⟩ (fun w hw => hw.pick [0, 1, 2] (by decide)) ?_ ?_
      · skip
        rintro far5_4 x20_4 rfl
        refine WQ.block ?_
        refine WQ.then ?_
        refine WC.region ?_
        obtain ⟨c29, hm30⟩ := ck_some hm26; clear hm26
        refine WL.q rfl rfl rfl (QV.add rfl rfl rfl rfl c29) ?_
        refine WL.q rfl rfl rfl (QV.move rfl rfl) ?_
        refine WL.nil ?_
        exact WQ.again3 far5_4 (x13_3 + 1) X23.2 m9 ⟨up_next hm30 hn12, (hle_3.trans hle23)⟩ (Nat.lt_succ_self _) ⟨rfl, rfl, rfl, rfl, rfl, trivial⟩ (fun w hw => hw.pick [0, 2] (by decide))
      · skip
        rintro far5_4 x20_4 m31 hI32
        obtain ⟨m33, s34, rfl, hm35, hn36⟩ := iter_step hI32; clear hI32; unfold keep_Far_L2 at hm35; simp only at hm35
        refine WC.seq ?_
        refine WC.region ?_
        refine WL.q rfl rfl rfl (QV.lss rfl rfl rfl rfl) ?_
        refine WL.nil ?_
        refine WQ.then ?_
        refine WC.seq ?_
        refine WC.cond rfl (fun h37 => ?_) (fun h37 => ?_)
        · skip
          have hm38 := br_t h37 hm35; clear hm35
          refine WC.skip ?_
          refine WQ.then ?_
          refine WC.seq ?_
          refine WC.block ?_
          refine WC.seq ?_
          refine WC.region ?_
          obtain ⟨c39, hm40⟩ := ck_some hm38; clear hm38
          obtain ⟨p41, hp42⟩ := hF23.lenMap.ix (sz := 2) ln_len c39
          refine WL.q rfl rfl rfl (QV.indexSlice sl106 rfl rfl rfl rfl hp42) ?_
          refine WL.q rfl rfl rfl (QV.loadAgg ag57 rfl rfl rfl (fun w hw => ((Own.karr 0 rfl hk hF23) w hw).ele hp42 c39)) ?_
          refine WL.effect rfl ?_
          refine (EV.alloc (by decide) ze57 (fun b43 => ?_))
          refine WL.effect rfl ?_
          refine (EV.store 0 rfl rfl rfl rfl rfl rfl (vs := [.int .i64 ((ele x20 x20_4).st), .int .i64 ((ele x20 x20_4).bk)]) (show Value.cells _ = List.toArray _ from rfl) sz57 (Nat.le_of_ble_eq_true rfl) (one_cons rfl (one_cons rfl one_nil)) ?_)
          refine WL.nil ?_
          refine WQ.then ?_
          refine WC.seq ?_
          refine WC.region ?_
          refine WL.q rfl rfl rfl (QV.fieldAddr fd57_0 rfl rfl) ?_
          refine WL.q rfl rfl rfl (QV.load pl3 rfl rfl (Own.cell 0 rfl rfl)) ?_
          refine WL.q rfl rfl rfl (QV.move rfl rfl) ?_
          refine WL.q rfl rfl rfl (QV.eql rfl rfl rfl rfl) ?_
          refine WL.nil ?_
          refine WQ.then ?_
          refine WC.cond rfl (fun h44 => ?_) (fun h44 => ?_)
          · skip
            have hm45 := br_t h44 hm40; clear hm40
            refine WC.region ?_
            refine WL.q rfl rfl rfl (QV.move rfl rfl) ?_
            refine WL.q rfl rfl rfl (QV.fieldAddr fd57_1 rfl rfl) ?_
            refine WL.q rfl rfl rfl (QV.load pl3 rfl rfl (Own.cell 0 rfl rfl)) ?_
            refine WL.q rfl rfl rfl (QV.max2 rfl rfl rfl rfl) ?_
            refine WL.q rfl rfl rfl (QV.assign rfl rfl) ?_
            refine WL.nil ?_
            refine WQ.block ?_
            refine WQ.then ?_
            refine WC.region ?_
            obtain ⟨c46, hm47⟩ := ck_some hm45; clear hm45
            refine WL.q rfl rfl rfl (QV.add rfl rfl rfl rfl c46) ?_
            refine WL.q rfl rfl rfl (QV.move rfl rfl) ?_
            refine WL.nil ?_
            exact WQ.again2 (max far5_4 ((ele x20 x20_4).bk)) (x20_4 + 1) m33 (up_next hm47 hn36) (Nat.lt_succ_self _) ⟨rfl, rfl, rfl, rfl, rfl, rfl, rfl, rfl, trivial⟩ (fun w hw => hw.pick [1, 2, 3] (by decide))
          · skip
            have hm48 := br_f h44 hm40; clear hm40
            refine WC.skip ?_
            refine WQ.block ?_
            refine WQ.then ?_
            refine WC.region ?_
            obtain ⟨c49, hm50⟩ := ck_some hm48; clear hm48
            refine WL.q rfl rfl rfl (QV.add rfl rfl rfl rfl c49) ?_
            refine WL.q rfl rfl rfl (QV.move rfl rfl) ?_
            refine WL.nil ?_
            exact WQ.again2 far5_4 (x20_4 + 1) m33 (up_next hm50 hn36) (Nat.lt_succ_self _) ⟨rfl, rfl, rfl, rfl, rfl, rfl, rfl, rfl, trivial⟩ (fun w hw => hw.pick [1, 2, 3] (by decide))
        · skip
          have hm51 := br_f h37 hm35; clear hm35
          refine WC.exit ?_
          refine WQ.then_exit ?_
          refine WQ.then_exit ?_
          refine WQ.block_exit ?_
          exact WQ.out2 far5_4 x20_4 (up_brk hm51 hn36) ⟨rfl, rfl, rfl, rfl, rfl, rfl, rfl, rfl, trivial⟩ (fun w hw => hw.pick [0, 1, 2] (by decide))
    · skip
      have hm52 := br_f h13 hm11; clear hm11
      refine WC.exit ?_
      refine WQ.then_exit ?_
      refine WQ.then_exit ?_
      refine WQ.block_exit ?_
      exact WQ.out3 far5_3 x13_3 k_3 ⟨up_brk hm52 hn12, hle_3⟩ ⟨rfl, rfl, rfl, rfl, rfl, trivial⟩ (fun w hw => hw.pick [0, 1] (by decide))

set_option maxRecDepth 8000 in
theorem slices_Index___int_int__w {v_s : Value} {s : List Int} {v : Int} {r : Int} (w : World) (hm : slices_Index___int_int__m s v = some r) (h_s : Arr w v_s 1 (s.map icell)) : Calls Try.prog 147 #[v_s, .int .i64 v] w (fun e w' => e = .returned (.int .i64 r) ∧ Grow w w') := by
  unfold slices_Index___int_int__m at hm
  have hk := Base.rfl (w := w)
  refine calls_of_WC (n := 19) (args := [v_s, .int .i64 v]) Try.func147 rfl rfl (Nat.le_of_ble_eq_true rfl) ?_ (Own.startK hk (Own.start w))
  refine WC.seq ?_
  refine WC.region ?_
  refine WL.q rfl rfl rfl (QV.assign rfl rfl) ?_
  refine WL.nil ?_
  refine WQ.then ?_
  refine WC.seq ?_
  refine WC.seq ?_
  refine WC.region ?_
  refine WL.q rfl rfl rfl (QV.move rfl rfl) ?_
  refine WL.q rfl rfl rfl (QV.lenS Try.underlying30 rfl rfl h_s.lenMap) ?_
  refine WL.q rfl rfl rfl (QV.move rfl rfl) ?_
  refine WL.nil ?_
  refine WQ.then ?_
  obtain ⟨o1, ho2, hm3⟩ := bd_some hm; clear hm; obtain ⟨n4, ho5⟩ := lp_some ho2
  refine WC.bloop1 (H2 := [kn noM w.heap.size w w]) (τ := [(0, (true, _)), (1, (true, _)), (7, (true, _))]) (fun (x8_1 : Int) => [(8, (true, .int .i64 x8_1))]) (fun (x8_1 : Int) => []) (fun (x8_1 : Int) (m : Nat) => iter (slices_Index___int_int__L0 s v) m x8_1 = some o1) (fun (x8_1 : Int) => o1 = .go x8_1) 0 n4 ho5 ⟨rfl, rfl, rfl, rfl, trivial⟩ (fun w hw => hw.pick [0] (by decide)) ?_ ?_
  · skip
    rintro x8_1 rfl
    refine WQ.then ?_
    refine WC.seq ?_
    refine WC.region ?_
    refine WL.q rfl rfl rfl (QV.assign rfl rfl) ?_
    refine WL.nil ?_
    refine WQ.then ?_
    refine WC.ret ?_
    obtain rfl := (eq_of_some hm3).symm
    refine WQ.ret1 rfl rfl (fun w hw => ?_)
    exact ⟨rfl, Own.kgrow (fun _ x => x) hw⟩
  · skip
    rintro x8_1 m6 hI7
    obtain ⟨m8, s9, rfl, hm10, hn11⟩ := iter_step hI7; clear hI7; unfold slices_Index___int_int__L0 at hm10
    refine WC.seq ?_
    refine WC.region ?_
    refine WL.q rfl rfl rfl (QV.lss rfl rfl rfl rfl) ?_
    refine WL.nil ?_
    refine WQ.then ?_
    refine WC.seq ?_
    refine WC.cond rfl (fun h12 => ?_) (fun h12 => ?_)
    · skip
      have hm13 := br_t h12 hm10; clear hm10
      refine WC.skip ?_
      refine WQ.then ?_
      refine WC.seq ?_
      refine WC.block ?_
      refine WC.seq ?_
      refine WC.region ?_
      refine WL.q rfl rfl rfl (QV.move rfl rfl) ?_
      refine WL.q rfl rfl rfl (QV.assign rfl rfl) ?_
      refine WL.nil ?_
      refine WQ.then ?_
      refine WC.seq ?_
      refine WC.region ?_
      refine WL.q rfl rfl rfl (QV.move rfl rfl) ?_
      refine WL.q rfl rfl rfl (QV.move rfl rfl) ?_
      refine WL.q rfl rfl rfl (QV.move rfl rfl) ?_
      obtain ⟨c14, hm15⟩ := ck_some hm13; clear hm13
      obtain ⟨p16, hp17⟩ := h_s.lenMap.ix (sz := 1) ln_len c14
      refine WL.q rfl rfl rfl (QV.indexSlice sl30 rfl rfl rfl rfl hp17) ?_
      refine WL.q rfl rfl rfl (QV.load pl3 rfl rfl (fun w hw => CellsAt.one 0 (((Own.karr 0 rfl hk h_s) w hw).ele hp17 c14) rfl)) ?_
      refine WL.q rfl rfl rfl (QV.eql rfl rfl rfl rfl) ?_
      refine WL.nil ?_
      refine WQ.then ?_
      refine WC.cond rfl (fun h18 => ?_) (fun h18 => ?_)
      · skip
        have hm19 := br_t h18 hm15; clear hm15
        refine WC.seq ?_
        refine WC.region ?_
        refine WL.q rfl rfl rfl (QV.move rfl rfl) ?_
        refine WL.q rfl rfl rfl (QV.assign rfl rfl) ?_
        refine WL.nil ?_
        refine WQ.then ?_
        refine WC.ret ?_
        refine WQ.block_ret ?_
        refine WQ.then_ret ?_
        refine WQ.then_ret ?_
        refine WQ.block_ret ?_
        refine WQ.then_ret ?_
        refine WQ.then_ret ?_
        obtain rfl := up_ret hm19 hn11
        obtain rfl := (eq_of_some hm3).symm
        refine WQ.ret1 rfl rfl (fun w hw => ?_)
        exact ⟨rfl, Own.kgrow (fun _ x => x) hw⟩
      · skip
        have hm20 := br_f h18 hm15; clear hm15
        refine WC.skip ?_
        refine WQ.block ?_
        refine WQ.then ?_
        refine WC.region ?_
        obtain ⟨c21, hm22⟩ := ck_some hm20; clear hm20
        refine WL.q rfl rfl rfl (QV.add rfl rfl rfl rfl c21) ?_
        refine WL.q rfl rfl rfl (QV.move rfl rfl) ?_
        refine WL.nil ?_
        exact WQ.again1 (x8_1 + 1) m8 (up_next hm22 hn11) (Nat.lt_succ_self _) ⟨rfl, rfl, rfl, rfl, trivial⟩ (fun w hw => hw.pick [0] (by decide))
    · skip
      have hm23 := br_f h12 hm10; clear hm10
      refine WC.exit ?_
      refine WQ.then_exit ?_
      refine WQ.then_exit ?_
      refine WQ.block_exit ?_
      exact WQ.out1 x8_1 (up_brk hm23 hn11) ⟨rfl, rfl, rfl, rfl, trivial⟩ (fun w hw => hw.pick [0] (by decide))

set_option maxRecDepth 8000 in
theorem slices_Contains___int_int__w {v_s : Value} {s : List Int} {v : Int} {r : Bool} (w : World) (hm : slices_Contains___int_int__m s v = some r) (h_s : Arr w v_s 1 (s.map icell)) : Calls Try.prog 144 #[v_s, .int .i64 v] w (fun e w' => e = .returned (.bool r) ∧ Grow w w') := by
  unfold slices_Contains___int_int__m at hm
  have hk := Base.rfl (w := w)
  refine calls_of_WC (n := 9) (args := [v_s, .int .i64 v]) Try.func144 rfl rfl (Nat.le_of_ble_eq_true rfl) ?_ (Own.startK hk (Own.start w))
  refine WC.seq ?_
  refine WC.region ?_
  refine WL.q rfl rfl rfl (QV.assign rfl rfl) ?_
  refine WL.nil ?_
  refine WQ.then ?_
  refine WC.seq ?_
  refine WC.region ?_
  refine WL.q rfl rfl rfl (QV.move rfl rfl) ?_
  refine WL.q rfl rfl rfl (QV.move rfl rfl) ?_
  obtain ⟨x1, hx2, hm3⟩ := bd_some hm; clear hm
  refine WL.q rfl rfl rfl (QV.call en147 (EvAll.cons rfl rfl (EvAll.cons rfl rfl EvAll.nil)) (fun w hw => have h := slices_Index___int_int__w w hx2 ((Own.karr 0 rfl hk h_s) w hw); h)) ?_
  refine WL.q rfl rfl rfl (QV.geq rfl rfl rfl rfl) ?_
  refine WL.q rfl rfl rfl (QV.assign rfl rfl) ?_
  refine WL.nil ?_
  refine WQ.then ?_
  refine WC.ret ?_
  obtain rfl := (eq_of_some hm3).symm
  refine WQ.ret1 rfl rfl (fun w hw => ?_)
  exact ⟨rfl, Own.kgrow (fun _ x => x) hw⟩

set_option maxRecDepth 8000 in
theorem keep_Layout_uses_w {p_y : Addr} {v_y_Loop_Logs : Value} {v_y_Loop_Body : Value} {v_y_Loop_Outs : Value} {v_y_Time : Value} {v_y_Ready : Value} {v_y_Places : Value} {y_Loop_Body : List Stm} {y_Pace : Int} {y_Regs : Int} {y_Time : List Int} {a : Int} {r : List Use} {K0 : World} (hm : keep_Layout_uses_m y_Loop_Body y_Pace y_Regs y_Time a = some r) (h_y_Loop_Body : Arr K0 v_y_Loop_Body 9 (y_Loop_Body.map Stm.cells)) (h_y_Time : Arr K0 v_y_Time 1 (y_Time.map icell)) (hp_y : CellsAt K0 p_y [v_y_Loop_Logs, v_y_Loop_Body, v_y_Loop_Outs, .int .i64 y_Pace, .int .i64 y_Regs, v_y_Time, v_y_Ready, v_y_Places] 0) (M : Nat → Prop) (w : World) (hk : Base M K0 w) (hw0 : Own M w [] w) : Calls Try.prog 133 #[.pointer (some p_y), .int .i64 a] w (fun e w' => ∃ X : Value × World, e = .returned (X.1) ∧ Own M w (kn M w.heap.size K0 X.2 :: []) w' ∧ Arr X.2 X.1 2 (r.map Use.cells)) := by
  unfold keep_Layout_uses_m at hm
  refine calls_of_WC (n := 57) (args := [.pointer (some p_y), .int .i64 a]) Try.func133 rfl rfl (Nat.le_of_ble_eq_true rfl) ?_ (Own.startK hk hw0)
  refine WC.seq ?_
  refine WC.region ?_
  refine WL.q rfl rfl rfl (QV.assign rfl rfl) ?_
  refine WL.nil ?_
  refine WQ.then ?_
  refine WC.seq ?_
  refine WC.region ?_
  refine WL.q rfl rfl rfl (QV.assign rfl rfl) ?_
  refine WL.nil ?_
  refine WQ.then ?_
  refine WC.seq ?_
  refine WC.seq ?_
  refine WC.region ?_
  refine WL.q rfl rfl rfl (QV.move rfl rfl) ?_
  refine WL.q rfl rfl rfl (QV.nilCheck rfl rfl) ?_
  refine WL.q rfl rfl rfl (QV.fieldAddr fd159_0 rfl rfl) ?_
  refine WL.q rfl rfl rfl (QV.fieldAddr fd49_1 rfl rfl) ?_
  refine WL.q rfl rfl rfl (QV.load pl47 rfl rfl (fun w hw => CellsAt.one 1 ((Own.kcells 0 rfl hk hp_y) w hw) rfl)) ?_
  refine WL.q rfl rfl rfl (QV.lenS Try.underlying47 rfl rfl h_y_Loop_Body.lenMap) ?_
  refine WL.q rfl rfl rfl (QV.move rfl rfl) ?_
  refine WL.nil ?_
  refine WQ.then ?_
  refine WK.of (fun w hw => hw.vecNil (E := 192) (sz := 2) (enc := Use.cells)) ?_
  obtain ⟨o2, ho3, hm4⟩ := bd_some hm; clear hm; obtain ⟨n5, ho6⟩ := lp_some ho3
  refine WC.bloop4 (H2 := []) (τ := [(0, (true, _)), (1, (true, _)), (14, (true, _)), (15, (true, _))]) (fun (v1_4 : List Use) (x16_4 : Int) (uv1_4 : Value) (k_4 : World) => [(5, (true, uv1_4)), (16, (true, .int .i64 x16_4))]) (fun (v1_4 : List Use) (x16_4 : Int) (uv1_4 : Value) (k_4 : World) => [vec uv1_4 192 2 (List.map Use.cells v1_4), kn M w.heap.size K0 k_4]) (fun (v1_4 : List Use) (x16_4 : Int) (uv1_4 : Value) (k_4 : World) (m : Nat) => iter (keep_Layout_uses_L0 y_Loop_Body y_Pace y_Time a) m (v1_4, x16_4) = some o2 ∧ SliceLen uv1_4 v1_4.length ∧ Le K0 k_4) (fun (v1_4 : List Use) (x16_4 : Int) (uv1_4 : Value) (k_4 : World) => o2 = .go (v1_4, x16_4) ∧ SliceLen uv1_4 v1_4.length ∧ Le K0 k_4) [] 0 (.slice none 0 0) K0 n5 ⟨ho6, SliceLen.nil, (Le.refl _)⟩ ⟨rfl, rfl, rfl, rfl, rfl, rfl, trivial⟩ (fun w hw => hw.pick [0, 1] (by decide)) ?_ ?_
  · skip
    rintro v1_4 x16_4 uv1_4 k_4 ⟨rfl, hlv1_4, hle_4⟩
    refine WQ.then ?_
    refine WC.seq ?_
    refine WC.region ?_
    refine WL.q rfl rfl rfl (QV.move rfl rfl) ?_
    refine WL.q rfl rfl rfl (QV.assign rfl rfl) ?_
    refine WL.nil ?_
    refine WQ.then ?_
    refine WC.ret ?_
    obtain rfl := (eq_of_some hm4).symm
    refine WK.of (C' := Own M w [kn M w.heap.size K0 k_4, vec uv1_4 192 2 (List.map Use.cells v1_4)]) (fun w hw => hw.pick [1, 0] (by decide)) ?_
    refine WK.freeze hk (fun k7 hle7 hr7 => ?_)
    have hA7 := vec_arr hr7
    refine WQ.ret1 rfl rfl (fun w hw => ?_)
    exact ⟨(uv1_4, k7), rfl, hw.pick [0] (by decide), hA7⟩
  · skip
    rintro v1_4 x16_4 uv1_4 k_4 m8 ⟨hI9, hlv1_4, hle_4⟩
    obtain ⟨m10, s11, rfl, hm12, hn13⟩ := iter_step hI9; clear hI9; unfold keep_Layout_uses_L0 at hm12; simp only at hm12
    refine WC.seq ?_
    refine WC.region ?_
    refine WL.q rfl rfl rfl (QV.lss rfl rfl rfl rfl) ?_
    refine WL.nil ?_
    refine WQ.then ?_
    refine WC.seq ?_
    refine WC.cond rfl (fun h14 => ?_) (fun h14 => ?_)
    · skip
      have hm15 := br_t h14 hm12; clear hm12
      refine WC.skip ?_
      refine WQ.then ?_
      refine WC.seq ?_
      refine WC.block ?_
      refine WC.seq ?_
      refine WC.region ?_
      refine WL.q rfl rfl rfl (QV.move rfl rfl) ?_
      obtain ⟨c16, hm17⟩ := ck_some hm15; clear hm15
      obtain ⟨p18, hp19⟩ := (h_y_Loop_Body.le hle_4).lenMap.ix (sz := 9) ln_len c16
      refine WL.q rfl rfl rfl (QV.indexSlice sl47 rfl rfl rfl rfl hp19) ?_
      refine WL.q rfl rfl rfl (QV.loadAgg ag59 rfl rfl rfl (fun w hw => ((Own.karr 1 rfl hk (h_y_Loop_Body.le hle_4)) w hw).ele hp19 c16)) ?_
      refine WL.effect rfl ?_
      refine (EV.alloc (by decide) ze59 (fun b20 => ?_))
      refine WL.q rfl rfl rfl (QV.assign rfl rfl) ?_
      refine WL.effect rfl ?_
      refine (EV.store 0 rfl rfl rfl rfl rfl rfl (vs := [.int .i64 ((ele y_Loop_Body x16_4).op), .int .i64 (((ele y_Loop_Body x16_4).a).st), .int .i64 (((ele y_Loop_Body x16_4).a).bk), .int .i64 (((ele y_Loop_Body x16_4).b).st), .int .i64 (((ele y_Loop_Body x16_4).b).bk), .int .i64 ((ele y_Loop_Body x16_4).ar), .int .i64 ((ele y_Loop_Body x16_4).sp), .int .i64 ((ele y_Loop_Body x16_4).pl), .int .i64 ((ele y_Loop_Body x16_4).n)]) (show Value.cells _ = List.toArray _ from rfl) sz59 (Nat.le_of_ble_eq_true rfl) (one_cons rfl (one_cons rfl (one_cons rfl (one_cons rfl (one_cons rfl (one_cons rfl (one_cons rfl (one_cons rfl (one_cons rfl one_nil))))))))) ?_)
      refine WL.nil ?_
      refine WQ.then ?_
      refine WC.seq ?_
      refine WC.region ?_
      refine WL.q rfl rfl rfl (QV.loadAgg ag59 rfl rfl rfl (Own.cellsBlk 0 rfl)) ?_
      refine WL.effect rfl ?_
      obtain ⟨x21, hx22, hm23⟩ := bd_some hm17; clear hm17
      refine EV.of (C' := Own M w [kn M w.heap.size K0 k_4, blk b20 [.int .i64 ((ele y_Loop_Body x16_4).op), .int .i64 (((ele y_Loop_Body x16_4).a).st), .int .i64 (((ele y_Loop_Body x16_4).a).bk), .int .i64 (((ele y_Loop_Body x16_4).b).st), .int .i64 (((ele y_Loop_Body x16_4).b).bk), .int .i64 ((ele y_Loop_Body x16_4).ar), .int .i64 ((ele y_Loop_Body x16_4).sp), .int .i64 ((ele y_Loop_Body x16_4).pl), .int .i64 ((ele y_Loop_Body x16_4).n)] 59, vec uv1_4 192 2 (List.map Use.cells v1_4)]) (fun w hw => hw.pick [2, 0, 1] (by decide)) ?_
      refine (EV.callR (X := Value × World) (R := []) (fun X => X.1) (fun X => []) (fun X => X.2) (fun X => Arr X.2 X.1 2 (x21.map Rf.cells)) hk (fun _ h => by cases h; decide) en62 (EvAll.cons rfl rfl EvAll.nil) (fun M w h1 h2 => have h := loop_Uses_w hx22  M w h1 h2; h) (fun X24 hF24 hle24 => ?_))
      refine WL.q rfl rfl rfl (QV.lenS Try.underlying106 rfl rfl hF24.lenMap) ?_
      refine WL.q rfl rfl rfl (QV.move rfl rfl) ?_
      refine WL.nil ?_
      refine WQ.then ?_
      obtain ⟨o25, ho26, hm27⟩ := bd_some hm23; clear hm23; obtain ⟨n28, ho29⟩ := lp_some ho26
      refine WC.bloop3 (H2 := [kn M w.heap.size K0 X24.2, blk b20 [.int .i64 ((ele y_Loop_Body x16_4).op), .int .i64 (((ele y_Loop_Body x16_4).a).st), .int .i64 (((ele y_Loop_Body x16_4).a).bk), .int .i64 (((ele y_Loop_Body x16_4).b).st), .int .i64 (((ele y_Loop_Body x16_4).b).bk), .int .i64 ((ele y_Loop_Body x16_4).ar), .int .i64 ((ele y_Loop_Body x16_4).sp), .int .i64 ((ele y_Loop_Body x16_4).pl), .int .i64 ((ele y_Loop_Body x16_4).n)] 59]) (τ := [(0, (true, _)), (1, (true, _)), (6, (true, _)), (14, (true, _)), (15, (true, _)), (16, (true, _)), (22, (true, _)), (23, (true, _))]) (fun (v1_5 : List Use) (x24_5 : Int) (uv1_5 : Value) => [(5, (true, uv1_5)), (24, (true, .int .i64 x24_5))]) (fun (v1_5 : List Use) (x24_5 : Int) (uv1_5 : Value) => [vec uv1_5 192 2 (List.map Use.cells v1_5)]) (fun (v1_5 : List Use) (x24_5 : Int) (uv1_5 : Value) (m : Nat) => iter (keep_Layout_uses_L2 y_Pace y_Time a x16_4 x21) m (v1_5, x24_5) = some o25 ∧ SliceLen uv1_5 v1_5.length) (fun (v1_5 : List Use) (x24_5 : Int) (uv1_5 : Value) => o25 = .go (v1_5, x24_5) ∧ SliceLen uv1_5 v1_5.length) v1_4 0 uv1_4 n28 ⟨ho29, hlv1_4⟩ ⟨rfl, rfl, rfl, rfl, rfl, rfl, rfl, rfl, rfl, rfl, trivial⟩ (fun w hw => hw.pick [2, 0, 1] (by decide)) ?_ ?_
      · skip
        rintro v1_5 x24_5 uv1_5 ⟨rfl, hlv1_5⟩
        refine WQ.block ?_
        refine WQ.then ?_
        refine WC.region ?_
        obtain ⟨c30, hm31⟩ := ck_some hm27; clear hm27
        refine WL.q rfl rfl rfl (QV.add rfl rfl rfl rfl c30) ?_
        refine WL.q rfl rfl rfl (QV.move rfl rfl) ?_
        refine WL.nil ?_
        exact WQ.again4 v1_5 (x16_4 + 1) uv1_5 X24.2 m10 ⟨up_next hm31 hn13, hlv1_5, (hle_4.trans hle24)⟩ (Nat.lt_succ_self _) ⟨rfl, rfl, rfl, rfl, rfl, rfl, trivial⟩ (fun w hw => hw.pick [0, 1] (by decide))
      · skip
        rintro v1_5 x24_5 uv1_5 m32 ⟨hI33, hlv1_5⟩
        obtain ⟨m34, s35, rfl, hm36, hn37⟩ := iter_step hI33; clear hI33; unfold keep_Layout_uses_L2 at hm36; simp only at hm36
        refine WC.seq ?_
        refine WC.region ?_
        refine WL.q rfl rfl rfl (QV.lss rfl rfl rfl rfl) ?_
        refine WL.nil ?_
        refine WQ.then ?_
        refine WC.seq ?_
        refine WC.cond rfl (fun h38 => ?_) (fun h38 => ?_)
        · skip
          have hm39 := br_t h38 hm36; clear hm36
          refine WC.skip ?_
          refine WQ.then ?_
          refine WC.seq ?_
          refine WC.block ?_
          refine WC.seq ?_
          refine WC.region ?_
          obtain ⟨c40, hm41⟩ := ck_some hm39; clear hm39
          obtain ⟨p42, hp43⟩ := hF24.lenMap.ix (sz := 2) ln_len c40
          refine WL.q rfl rfl rfl (QV.indexSlice sl106 rfl rfl rfl rfl hp43) ?_
          refine WL.q rfl rfl rfl (QV.loadAgg ag57 rfl rfl rfl (fun w hw => ((Own.karr 1 rfl hk hF24) w hw).ele hp43 c40)) ?_
          refine WL.effect rfl ?_
          refine (EV.alloc (by decide) ze57 (fun b44 => ?_))
          refine WL.effect rfl ?_
          refine (EV.store 0 rfl rfl rfl rfl rfl rfl (vs := [.int .i64 ((ele x21 x24_5).st), .int .i64 ((ele x21 x24_5).bk)]) (show Value.cells _ = List.toArray _ from rfl) sz57 (Nat.le_of_ble_eq_true rfl) (one_cons rfl (one_cons rfl one_nil)) ?_)
          refine WL.nil ?_
          refine WQ.then ?_
          refine WC.seq ?_
          refine WC.region ?_
          refine WL.q rfl rfl rfl (QV.fieldAddr fd57_0 rfl rfl) ?_
          refine WL.q rfl rfl rfl (QV.load pl3 rfl rfl (Own.cell 0 rfl rfl)) ?_
          refine WL.q rfl rfl rfl (QV.move rfl rfl) ?_
          refine WL.q rfl rfl rfl (QV.eql rfl rfl rfl rfl) ?_
          refine WL.nil ?_
          refine WQ.then ?_
          refine WC.cond rfl (fun h45 => ?_) (fun h45 => ?_)
          · skip
            have hm46 := br_t h45 hm41; clear hm41
            refine WC.dr (m := 23) (S := Own M w [kn M w.heap.size K0 X24.2, blk b44 [.int .i64 ((ele x21 x24_5).st), .int .i64 ((ele x21 x24_5).bk)] 57, blk b20 [.int .i64 ((ele y_Loop_Body x16_4).op), .int .i64 (((ele y_Loop_Body x16_4).a).st), .int .i64 (((ele y_Loop_Body x16_4).a).bk), .int .i64 (((ele y_Loop_Body x16_4).b).st), .int .i64 (((ele y_Loop_Body x16_4).b).bk), .int .i64 ((ele y_Loop_Body x16_4).ar), .int .i64 ((ele y_Loop_Body x16_4).sp), .int .i64 ((ele y_Loop_Body x16_4).pl), .int .i64 ((ele y_Loop_Body x16_4).n)] 59]) (by kernel_rfl) (by kernel_rfl) (fun w hw => hw.pick [2, 0, 3] (by decide)) ?_
            refine WD.q 0 rfl (by kernel_rfl) rfl rfl rfl (QV.move rfl rfl) ?_
            refine WD.q 1 rfl (by kernel_rfl) rfl rfl rfl (QV.move rfl rfl) ?_
            refine WD.q 2 rfl (by kernel_rfl) rfl rfl rfl (QV.nilCheck rfl rfl) ?_
            refine WD.q 3 rfl (by kernel_rfl) rfl rfl rfl (QV.fieldAddr fd159_3 rfl rfl) ?_
            refine WD.q 4 rfl (by kernel_rfl) rfl rfl rfl (QV.load pl30 rfl rfl (fun w hw => CellsAt.one 5 ((Own.kcells 0 rfl hk (hp_y.le (hle_4.trans hle24))) w hw) rfl)) ?_
            refine WD.q 5 rfl (by kernel_rfl) rfl rfl rfl (QV.move rfl rfl) ?_
            obtain ⟨c47, hm48⟩ := ck_some hm46; clear hm46
            obtain ⟨p49, hp50⟩ := (h_y_Time.le (hle_4.trans hle24)).lenMap.ix (sz := 1) ln_len c47
            refine WD.q 6 rfl (by kernel_rfl) rfl rfl rfl (QV.indexSlice sl30 rfl rfl rfl rfl hp50) ?_
            refine WD.q 7 rfl (by kernel_rfl) rfl rfl rfl (QV.load pl3 rfl rfl (fun w hw => CellsAt.one 0 (((Own.karr 0 rfl hk (h_y_Time.le (hle_4.trans hle24))) w hw).ele hp50 c47) rfl)) ?_
            refine WD.q 8 rfl (by kernel_rfl) rfl rfl rfl (QV.fieldAddr fd57_1 rfl rfl) ?_
            refine WD.q 9 rfl (by kernel_rfl) rfl rfl rfl (QV.load pl3 rfl rfl (Own.cell 1 rfl rfl)) ?_
            refine WD.q 10 rfl (by kernel_rfl) rfl rfl rfl (QV.move rfl rfl) ?_
            refine WD.q 11 rfl (by kernel_rfl) rfl rfl rfl (QV.nilCheck rfl rfl) ?_
            refine WD.q 12 rfl (by kernel_rfl) rfl rfl rfl (QV.fieldAddr fd159_1 rfl rfl) ?_
            refine WD.q 13 rfl (by kernel_rfl) rfl rfl rfl (QV.load pl3 rfl rfl (fun w hw => CellsAt.one 3 ((Own.kcells 0 rfl hk (hp_y.le (hle_4.trans hle24))) w hw) rfl)) ?_
            obtain ⟨c51, hm52⟩ := ck_some hm48; clear hm48
            refine WD.q 14 rfl (by kernel_rfl) rfl rfl rfl (QV.mul rfl rfl rfl rfl c51) ?_
            obtain ⟨c53, hm54⟩ := ck_some hm52; clear hm52
            refine WD.q 15 rfl (by kernel_rfl) rfl rfl rfl (QV.add rfl rfl rfl rfl c53) ?_
            refine WD.q 16 rfl (by kernel_rfl) rfl rfl rfl (QV.fieldAddr fd57_1 rfl rfl) ?_
            refine WD.q 17 rfl (by kernel_rfl) rfl rfl rfl (QV.load pl3 rfl rfl (Own.cell 1 rfl rfl)) ?_
            refine WD.q 18 rfl (by kernel_rfl) rfl rfl rfl (QV.gtr rfl rfl rfl rfl) ?_
            refine WD.q 19 rfl (by kernel_rfl) rfl rfl rfl (QV.build (ps := [(0, .tmp 47), (1, .tmp 50)]) (cells := [.int .i64 ((ele y_Time x16_4) + ((ele x21 x24_5).bk * y_Pace)), .bool (decide ((ele x21 x24_5).bk > 0))]) (EvAll.cons rfl rfl (EvAll.cons rfl rfl EvAll.nil)) (by kernel_rfl)) ?_
            refine WD.o 20 rfl (by kernel_rfl) rfl ?_
            refine (EV.buildSlice (by decide) sz_181 (by decide) (by decide) (ps := [(0, .tmp 51)]) (cells := [.int .i64 ((ele y_Time x16_4) + ((ele x21 x24_5).bk * y_Pace)), .bool (decide ((ele x21 x24_5).bk > 0))]) (EvAll.cons rfl rfl EvAll.nil) (by kernel_rfl) (fun b55 => ?_))
            refine WD.b (H' := [kn M w.heap.size K0 X24.2, blk b55 [.int .i64 ((ele y_Time x16_4) + ((ele x21 x24_5).bk * y_Pace)), .bool (decide ((ele x21 x24_5).bk > 0))] 192, blk b44 [.int .i64 ((ele x21 x24_5).st), .int .i64 ((ele x21 x24_5).bk)] 57, blk b20 [.int .i64 ((ele y_Loop_Body x16_4).op), .int .i64 (((ele y_Loop_Body x16_4).a).st), .int .i64 (((ele y_Loop_Body x16_4).a).bk), .int .i64 (((ele y_Loop_Body x16_4).b).st), .int .i64 (((ele y_Loop_Body x16_4).b).bk), .int .i64 ((ele y_Loop_Body x16_4).ar), .int .i64 ((ele y_Loop_Body x16_4).sp), .int .i64 ((ele y_Loop_Body x16_4).pl), .int .i64 ((ele y_Loop_Body x16_4).n)] 59]) (fun w hw => hw.pick [3, 0, 1, 4] (by decide)) (fun w hw => hw.pick [0, 2, 3] (by decide)) ?_
            refine WD.o 21 rfl (by kernel_rfl) rfl ?_
            obtain ⟨c56, hm57⟩ := ck_some hm54; clear hm54
            refine (EV.appendL (enc := Use.cells) (xs := v1_5) (ys := [(Use.mk ((ele y_Time x16_4) + ((ele x21 x24_5).bk * y_Pace)) (decide ((ele x21 x24_5).bk > 0)))]) ((v1_5 ++ [(Use.mk ((ele y_Time x16_4) + ((ele x21 x24_5).bk * y_Pace)) (decide ((ele x21 x24_5).bk > 0)))])) 2 (by decide) ve181 rfl rfl rfl rfl rfl (Own.blkArr 0 (rows := [(Use.mk ((ele y_Time x16_4) + ((ele x21 x24_5).bk * y_Pace)) (decide ((ele x21 x24_5).bk > 0)))].map Use.cells) rfl rfl (rows_len Use.cells_len)) Use.cells_len (Use.cells_one _) rfl c56.1 c56.2 (fun u58 hu59 => ?_))
            refine WD.b (H' := [kn M w.heap.size K0 X24.2, blk b55 [.int .i64 ((ele y_Time x16_4) + ((ele x21 x24_5).bk * y_Pace)), .bool (decide ((ele x21 x24_5).bk > 0))] 192, blk b44 [.int .i64 ((ele x21 x24_5).st), .int .i64 ((ele x21 x24_5).bk)] 57, vec u58 192 2 (List.map Use.cells (v1_5 ++ [(Use.mk ((ele y_Time x16_4) + ((ele x21 x24_5).bk * y_Pace)) (decide ((ele x21 x24_5).bk > 0)))])), blk b20 [.int .i64 ((ele y_Loop_Body x16_4).op), .int .i64 (((ele y_Loop_Body x16_4).a).st), .int .i64 (((ele y_Loop_Body x16_4).a).bk), .int .i64 (((ele y_Loop_Body x16_4).b).st), .int .i64 (((ele y_Loop_Body x16_4).b).bk), .int .i64 ((ele y_Loop_Body x16_4).ar), .int .i64 ((ele y_Loop_Body x16_4).sp), .int .i64 ((ele y_Loop_Body x16_4).pl), .int .i64 ((ele y_Loop_Body x16_4).n)] 59]) (fun w hw => hw.pick [3, 0, 1, 2, 4] (by decide)) (fun w hw => hw.pick [0, 1, 2, 4] (by decide)) ?_
            refine WD.q 22 rfl (by kernel_rfl) rfl rfl rfl (QV.assign rfl rfl) ?_
            refine WD.e (by kernel_rfl) ?_
            refine WQ.block ?_
            refine WQ.then ?_
            refine WC.region ?_
            obtain ⟨c60, hm61⟩ := ck_some hm57; clear hm57
            refine WL.q rfl rfl rfl (QV.add rfl rfl rfl rfl c60) ?_
            refine WL.q rfl rfl rfl (QV.move rfl rfl) ?_
            refine WL.nil ?_
            exact WQ.again3 (v1_5 ++ [(Use.mk ((ele y_Time x16_4) + ((ele x21 x24_5).bk * y_Pace)) (decide ((ele x21 x24_5).bk > 0)))]) (x24_5 + 1) u58 m34 ⟨up_next hm61 hn37, hu59⟩ (Nat.lt_succ_self _) ⟨rfl, rfl, rfl, rfl, rfl, rfl, rfl, rfl, rfl, rfl, trivial⟩ (fun w hw => hw.pick [2, 3, 4] (by decide))
          · skip
            have hm62 := br_f h45 hm41; clear hm41
            refine WC.skip ?_
            refine WQ.block ?_
            refine WQ.then ?_
            refine WC.region ?_
            obtain ⟨c63, hm64⟩ := ck_some hm62; clear hm62
            refine WL.q rfl rfl rfl (QV.add rfl rfl rfl rfl c63) ?_
            refine WL.q rfl rfl rfl (QV.move rfl rfl) ?_
            refine WL.nil ?_
            exact WQ.again3 v1_5 (x24_5 + 1) uv1_5 m34 ⟨up_next hm64 hn37, hlv1_5⟩ (Nat.lt_succ_self _) ⟨rfl, rfl, rfl, rfl, rfl, rfl, rfl, rfl, rfl, rfl, trivial⟩ (fun w hw => hw.pick [1, 2, 3] (by decide))
        · skip
          have hm65 := br_f h38 hm36; clear hm36
          refine WC.exit ?_
          refine WQ.then_exit ?_
          refine WQ.then_exit ?_
          refine WQ.block_exit ?_
          exact WQ.out3 v1_5 x24_5 uv1_5 ⟨up_brk hm65 hn37, hlv1_5⟩ ⟨rfl, rfl, rfl, rfl, rfl, rfl, rfl, rfl, rfl, rfl, trivial⟩ (fun w hw => hw.pick [0, 1, 2] (by decide))
    · skip
      have hm66 := br_f h14 hm12; clear hm12
      refine WC.exit ?_
      refine WQ.then_exit ?_
      refine WQ.then_exit ?_
      refine WQ.block_exit ?_
      exact WQ.out4 v1_4 x16_4 uv1_4 k_4 ⟨up_brk hm66 hn13, hlv1_4, hle_4⟩ ⟨rfl, rfl, rfl, rfl, rfl, rfl, trivial⟩ (fun w hw => hw.pick [0, 1] (by decide))

set_option maxRecDepth 8000 in
theorem keep_Layout_bad_w {p_y : Addr} {v_y_Loop_Logs : Value} {v_y_Loop_Body : Value} {v_y_Loop_Outs : Value} {v_y_Time : Value} {v_y_Ready : Value} {v_y_Places : Value} {v_uses : Value} {y_Loop_Outs : List Int} {y_Pace : Int} {y_Regs : Int} {y_Ready : List Int} {a : Int} {m_ : Int} {j : Int} {uses : List Use} {r : Bool} (w : World) (hm : keep_Layout_bad_m y_Loop_Outs y_Pace y_Regs y_Ready a m_ j uses = some r) (h_y_Loop_Outs : Arr w v_y_Loop_Outs 1 (y_Loop_Outs.map icell)) (h_y_Ready : Arr w v_y_Ready 1 (y_Ready.map icell)) (hp_y : CellsAt w p_y [v_y_Loop_Logs, v_y_Loop_Body, v_y_Loop_Outs, .int .i64 y_Pace, .int .i64 y_Regs, v_y_Time, v_y_Ready, v_y_Places] 0) (h_uses : Arr w v_uses 2 (uses.map Use.cells)) : Calls Try.prog 134 #[.pointer (some p_y), .int .i64 a, .int .i64 m_, .int .i64 j, v_uses] w (fun e w' => e = .returned (.bool r) ∧ Grow w w') := by
  unfold keep_Layout_bad_m at hm
  have hk := Base.rfl (w := w)
  refine calls_of_WC (n := 86) (args := [.pointer (some p_y), .int .i64 a, .int .i64 m_, .int .i64 j, v_uses]) Try.func134 rfl rfl (Nat.le_of_ble_eq_true rfl) ?_ (Own.startK hk (Own.start w))
  refine WC.seq ?_
  refine WC.region ?_
  refine WL.q rfl rfl rfl (QV.assign rfl rfl) ?_
  refine WL.nil ?_
  refine WQ.then ?_
  refine WC.seq ?_
  refine WC.dr (m := 15) (by kernel_rfl) (by kernel_rfl) (fun w hw => hw) ?_
  refine WD.q 0 rfl (by kernel_rfl) rfl rfl rfl (QV.move rfl rfl) ?_
  refine WD.q 1 rfl (by kernel_rfl) rfl rfl rfl (QV.nilCheck rfl rfl) ?_
  refine WD.q 2 rfl (by kernel_rfl) rfl rfl rfl (QV.fieldAddr fd159_4 rfl rfl) ?_
  refine WD.q 3 rfl (by kernel_rfl) rfl rfl rfl (QV.load pl30 rfl rfl (fun w hw => CellsAt.one 6 ((Own.kcells 0 rfl hk hp_y) w hw) rfl)) ?_
  refine WD.q 4 rfl (by kernel_rfl) rfl rfl rfl (QV.move rfl rfl) ?_
  obtain ⟨c1, hm2⟩ := ck_some hm; clear hm
  obtain ⟨p3, hp4⟩ := h_y_Ready.lenMap.ix (sz := 1) ln_len c1
  refine WD.q 5 rfl (by kernel_rfl) rfl rfl rfl (QV.indexSlice sl30 rfl rfl rfl rfl hp4) ?_
  refine WD.q 6 rfl (by kernel_rfl) rfl rfl rfl (QV.load pl3 rfl rfl (fun w hw => CellsAt.one 0 (((Own.karr 0 rfl hk h_y_Ready) w hw).ele hp4 c1) rfl)) ?_
  refine WD.q 7 rfl (by kernel_rfl) rfl rfl rfl (QV.move rfl rfl) ?_
  refine WD.q 8 rfl (by kernel_rfl) rfl rfl rfl (QV.move rfl rfl) ?_
  refine WD.q 9 rfl (by kernel_rfl) rfl rfl rfl (QV.nilCheck rfl rfl) ?_
  refine WD.q 10 rfl (by kernel_rfl) rfl rfl rfl (QV.fieldAddr fd159_1 rfl rfl) ?_
  refine WD.q 11 rfl (by kernel_rfl) rfl rfl rfl (QV.load pl3 rfl rfl (fun w hw => CellsAt.one 3 ((Own.kcells 0 rfl hk hp_y) w hw) rfl)) ?_
  obtain ⟨c5, hm6⟩ := ck_some hm2; clear hm2
  refine WD.q 12 rfl (by kernel_rfl) rfl rfl rfl (QV.mul rfl rfl rfl rfl c5) ?_
  obtain ⟨c7, hm8⟩ := ck_some hm6; clear hm6
  refine WD.q 13 rfl (by kernel_rfl) rfl rfl rfl (QV.add rfl rfl rfl rfl c7) ?_
  refine WD.q 14 rfl (by kernel_rfl) rfl rfl rfl (QV.assign rfl rfl) ?_
  refine WD.e (by kernel_rfl) ?_
  refine WQ.then ?_
  refine WC.seq ?_
  refine WC.seq ?_
  refine WC.region ?_
  refine WL.q rfl rfl rfl (QV.move rfl rfl) ?_
  refine WL.q rfl rfl rfl (QV.lenS Try.underlying181 rfl rfl h_uses.lenMap) ?_
  refine WL.q rfl rfl rfl (QV.move rfl rfl) ?_
  refine WL.nil ?_
  refine WQ.then ?_
  obtain ⟨o9, ho10, hm11⟩ := bd_some hm8; clear hm8; obtain ⟨n12, ho13⟩ := lp_some ho10
  refine WC.bloop1 (H2 := [kn noM w.heap.size w w]) (τ := [(0, (true, _)), (1, (true, _)), (3, (true, _)), (11, (true, _)), (28, (true, _)), (29, (true, _))]) (fun (x30_1 : Int) => [(30, (true, .int .i64 x30_1))]) (fun (x30_1 : Int) => []) (fun (x30_1 : Int) (m : Nat) => iter (keep_Layout_bad_L0 y_Pace y_Ready a m_ j uses) m x30_1 = some o9) (fun (x30_1 : Int) => o9 = .go x30_1) 0 n12 ho13 ⟨rfl, rfl, rfl, rfl, rfl, rfl, rfl, trivial⟩ (fun w hw => hw.pick [0] (by decide)) ?_ ?_
  · skip
    rintro x30_1 rfl
    refine WQ.then ?_
    refine WC.seq ?_
    refine WC.region ?_
    refine WL.q rfl rfl rfl (QV.move rfl rfl) ?_
    refine WL.q rfl rfl rfl (QV.leq rfl rfl rfl rfl) ?_
    refine WL.q rfl rfl rfl (QV.move rfl rfl) ?_
    refine WL.g rfl rfl (GuardIs.pos rfl rfl) (fun hG => QV.move rfl rfl) ?_
    refine WL.g rfl rfl (GuardIs.pos rfl rfl) (fun hG => QV.move rfl rfl) ?_
    refine WL.g rfl rfl (GuardIs.pos rfl rfl) (fun hG => QV.nilCheck rfl hG) ?_
    refine WL.g rfl rfl (GuardIs.pos rfl rfl) (fun hG => QV.fieldAddr fd159_4 rfl hG) ?_
    refine WL.g rfl rfl (GuardIs.pos rfl rfl) (fun hG => QV.load pl30 rfl hG (fun w hw => CellsAt.one 6 ((Own.kcells 0 rfl hk hp_y) w hw) rfl)) ?_
    refine WL.g rfl rfl (GuardIs.pos rfl rfl) (fun hG => QV.move rfl rfl) ?_
    obtain ⟨c14, hm15⟩ := ck_some hm11; clear hm11
    obtain ⟨p16, hp17⟩ := h_y_Ready.lenMap.ixG (sz := 1) ln_len c14
    refine WL.g rfl rfl (GuardIs.pos rfl rfl) (fun hG => QV.indexSlice sl30 rfl hG rfl hG (hp17 hG)) ?_
    refine WL.g rfl rfl (GuardIs.pos rfl rfl) (fun hG => QV.load pl3 rfl hG (fun w hw => CellsAt.one 0 (((Own.karr 0 rfl hk h_y_Ready) w hw).ele (hp17 hG) (c14 hG)) rfl)) ?_
    refine WL.g rfl rfl (GuardIs.pos rfl rfl) (fun hG => QV.geq rfl hG rfl hG) ?_
    refine WL.q rfl rfl rfl (QV.pickAnd rfl rfl rfl (fun h => h)) ?_
    refine WL.q rfl rfl rfl (QV.move rfl rfl) ?_
    refine WL.g rfl rfl (GuardIs.pos rfl rfl) (fun hG => QV.move rfl rfl) ?_
    refine WL.g rfl rfl (GuardIs.pos rfl rfl) (fun hG => QV.nilCheck rfl hG) ?_
    refine WL.g rfl rfl (GuardIs.pos rfl rfl) (fun hG => QV.fieldAddr fd159_0 rfl hG) ?_
    refine WL.g rfl rfl (GuardIs.pos rfl rfl) (fun hG => QV.fieldAddr fd49_2 rfl hG) ?_
    refine WL.g rfl rfl (GuardIs.pos rfl rfl) (fun hG => QV.load pl30 rfl hG (fun w hw => CellsAt.one 2 ((Own.kcells 0 rfl hk hp_y) w hw) rfl)) ?_
    refine WL.g rfl rfl (GuardIs.pos rfl rfl) (fun hG => QV.move rfl rfl) ?_
    obtain ⟨x18, hx19, hm20⟩ := bdG_some hm15; clear hm15
    refine WL.g rfl rfl (GuardIs.pos rfl rfl) (fun hG => QV.call en144 (EvAll.cons rfl hG (EvAll.cons rfl hG EvAll.nil)) (fun w hw => have h := slices_Contains___int_int__w w (hx19 hG) ((Own.karr 0 rfl hk h_y_Loop_Outs) w hw); h)) ?_
    refine WL.q rfl rfl rfl (QV.pickAnd rfl rfl rfl (fun h => h)) ?_
    refine WL.q rfl rfl rfl (QV.assign rfl rfl) ?_
    refine WL.nil ?_
    refine WQ.then ?_
    refine WC.ret ?_
    obtain rfl := (eq_of_some hm20).symm
    refine WQ.ret1 rfl rfl (fun w hw => ?_)
    exact ⟨rfl, Own.kgrow (fun _ x => x) hw⟩
  · skip
    rintro x30_1 m21 hI22
    obtain ⟨m23, s24, rfl, hm25, hn26⟩ := iter_step hI22; clear hI22; unfold keep_Layout_bad_L0 at hm25
    refine WC.seq ?_
    refine WC.region ?_
    refine WL.q rfl rfl rfl (QV.lss rfl rfl rfl rfl) ?_
    refine WL.nil ?_
    refine WQ.then ?_
    refine WC.seq ?_
    refine WC.cond rfl (fun h27 => ?_) (fun h27 => ?_)
    · skip
      have hm28 := br_t h27 hm25; clear hm25
      refine WC.skip ?_
      refine WQ.then ?_
      refine WC.seq ?_
      refine WC.block ?_
      refine WC.seq ?_
      refine WC.region ?_
      obtain ⟨c29, hm30⟩ := ck_some hm28; clear hm28
      obtain ⟨p31, hp32⟩ := h_uses.lenMap.ix (sz := 2) ln_len c29
      refine WL.q rfl rfl rfl (QV.indexSlice sl181 rfl rfl rfl rfl hp32) ?_
      refine WL.q rfl rfl rfl (QV.loadAgg ag192 rfl rfl rfl (fun w hw => ((Own.karr 0 rfl hk h_uses) w hw).ele hp32 c29)) ?_
      refine WL.effect rfl ?_
      refine (EV.alloc (by decide) ze192 (fun b33 => ?_))
      refine WL.effect rfl ?_
      refine (EV.store 0 rfl rfl rfl rfl rfl rfl (vs := [.int .i64 ((ele uses x30_1).til), .bool ((ele uses x30_1).later)]) (show Value.cells _ = List.toArray _ from rfl) sz192 (Nat.le_of_ble_eq_true rfl) (one_cons rfl (one_cons rfl one_nil)) ?_)
      refine WL.nil ?_
      refine WQ.then ?_
      refine WC.seq ?_
      refine WC.region ?_
      refine WL.q rfl rfl rfl (QV.move rfl rfl) ?_
      refine WL.q rfl rfl rfl (QV.move rfl rfl) ?_
      refine WL.q rfl rfl rfl (QV.nilCheck rfl rfl) ?_
      refine WL.q rfl rfl rfl (QV.fieldAddr fd159_4 rfl rfl) ?_
      refine WL.q rfl rfl rfl (QV.load pl30 rfl rfl (fun w hw => CellsAt.one 6 ((Own.kcells 1 rfl hk hp_y) w hw) rfl)) ?_
      refine WL.q rfl rfl rfl (QV.move rfl rfl) ?_
      obtain ⟨c34, hm35⟩ := ck_some hm30; clear hm30
      obtain ⟨p36, hp37⟩ := h_y_Ready.lenMap.ix (sz := 1) ln_len c34
      refine WL.q rfl rfl rfl (QV.indexSlice sl30 rfl rfl rfl rfl hp37) ?_
      refine WL.q rfl rfl rfl (QV.load pl3 rfl rfl (fun w hw => CellsAt.one 0 (((Own.karr 1 rfl hk h_y_Ready) w hw).ele hp37 c34) rfl)) ?_
      refine WL.q rfl rfl rfl (QV.geq rfl rfl rfl rfl) ?_
      refine WL.q rfl rfl rfl (QV.move rfl rfl) ?_
      refine WL.g rfl rfl (GuardIs.pos rfl rfl) (fun hG => QV.move rfl rfl) ?_
      refine WL.g rfl rfl (GuardIs.pos rfl rfl) (fun hG => QV.fieldAddr fd192_0 rfl rfl) ?_
      refine WL.g rfl rfl (GuardIs.pos rfl rfl) (fun hG => QV.load pl3 rfl hG (Own.cell 0 rfl rfl)) ?_
      refine WL.g rfl rfl (GuardIs.pos rfl rfl) (fun hG => QV.leq rfl hG rfl hG) ?_
      refine WL.q rfl rfl rfl (QV.pickAnd rfl rfl rfl (fun h => h)) ?_
      refine WL.q rfl rfl rfl (QV.move rfl rfl) ?_
      refine WL.g rfl rfl (GuardIs.neg rfl rfl) (fun hG => QV.fieldAddr fd192_1 rfl rfl) ?_
      refine WL.g rfl rfl (GuardIs.neg rfl rfl) (fun hG => QV.load pl4 rfl hG (Own.cell 0 rfl rfl)) ?_
      refine WL.g rfl rfl (GuardIs.neg rfl rfl) (fun hG => QV.move rfl hG) ?_
      refine WL.g rfl rfl (GuardIs.posC rfl rfl) (fun hG => QV.move rfl rfl) ?_
      refine WL.g rfl rfl (GuardIs.posC rfl rfl) (fun hG => QV.gtr rfl hG rfl rfl) ?_
      refine WL.g rfl rfl (GuardIs.neg rfl rfl) (fun hG => QV.pickAnd rfl hG rfl (fun h => andT hG h)) ?_
      refine WL.g rfl rfl (GuardIs.neg rfl rfl) (fun hG => QV.move rfl hG) ?_
      refine WL.g rfl rfl (GuardIs.posC rfl rfl) (fun hG => QV.move rfl rfl) ?_
      refine WL.g rfl rfl (GuardIs.posC rfl rfl) (fun hG => QV.fieldAddr fd192_0 rfl rfl) ?_
      refine WL.g rfl rfl (GuardIs.posC rfl rfl) (fun hG => QV.load pl3 rfl hG (Own.cell 0 rfl rfl)) ?_
      refine WL.g rfl rfl (GuardIs.posC rfl rfl) (fun hG => QV.leq rfl hG rfl hG) ?_
      refine WL.g rfl rfl (GuardIs.neg rfl rfl) (fun hG => QV.pickAnd rfl hG rfl (fun h => andT hG h)) ?_
      refine WL.q rfl rfl rfl (QV.pickOr rfl rfl rfl (fun h => notF h)) ?_
      refine WL.nil ?_
      refine WQ.then ?_
      refine WC.cond rfl (fun h38 => ?_) (fun h38 => ?_)
      · skip
        have hm39 := br_t h38 hm35; clear hm35
        refine WC.seq ?_
        refine WC.region ?_
        refine WL.q rfl rfl rfl (QV.assign rfl rfl) ?_
        refine WL.nil ?_
        refine WQ.then ?_
        refine WC.ret ?_
        refine WQ.block_ret ?_
        refine WQ.then_ret ?_
        refine WQ.then_ret ?_
        refine WQ.block_ret ?_
        refine WQ.then_ret ?_
        refine WQ.then_ret ?_
        obtain rfl := up_ret hm39 hn26
        obtain rfl := (eq_of_some hm11).symm
        refine WQ.ret1 rfl rfl (fun w hw => ?_)
        exact ⟨rfl, Own.kgrow (fun _ x => x) hw⟩
      · skip
        have hm40 := br_f h38 hm35; clear hm35
        refine WC.skip ?_
        refine WQ.block ?_
        refine WQ.then ?_
        refine WC.region ?_
        obtain ⟨c41, hm42⟩ := ck_some hm40; clear hm40
        refine WL.q rfl rfl rfl (QV.add rfl rfl rfl rfl c41) ?_
        refine WL.q rfl rfl rfl (QV.move rfl rfl) ?_
        refine WL.nil ?_
        exact WQ.again1 (x30_1 + 1) m23 (up_next hm42 hn26) (Nat.lt_succ_self _) ⟨rfl, rfl, rfl, rfl, rfl, rfl, rfl, trivial⟩ (fun w hw => hw.pick [1] (by decide))
    · skip
      have hm43 := br_f h27 hm25; clear hm25
      refine WC.exit ?_
      refine WQ.then_exit ?_
      refine WQ.then_exit ?_
      refine WQ.block_exit ?_
      exact WQ.out1 x30_1 (up_brk hm43 hn26) ⟨rfl, rfl, rfl, rfl, rfl, rfl, rfl, trivial⟩ (fun w hw => hw.pick [0] (by decide))

set_option maxRecDepth 8000 in
theorem keep_Layout_Apart_w {p_y : Addr} {v_y_Loop_Logs : Value} {v_y_Loop_Body : Value} {v_y_Loop_Outs : Value} {v_y_Time : Value} {v_y_Ready : Value} {v_y_Places : Value} {y_Loop_Body : List Stm} {y_Loop_Outs : List Int} {y_Pace : Int} {y_Regs : Int} {y_Time : List Int} {y_Ready : List Int} {y_Places : List Int} {a : Int} {m_ : Int} {r : Bool} (w : World) (hm : keep_Layout_Apart_m y_Loop_Body y_Loop_Outs y_Pace y_Regs y_Time y_Ready y_Places a m_ = some r) (h_y_Loop_Body : Arr w v_y_Loop_Body 9 (y_Loop_Body.map Stm.cells)) (h_y_Loop_Outs : Arr w v_y_Loop_Outs 1 (y_Loop_Outs.map icell)) (h_y_Time : Arr w v_y_Time 1 (y_Time.map icell)) (h_y_Ready : Arr w v_y_Ready 1 (y_Ready.map icell)) (h_y_Places : Arr w v_y_Places 1 (y_Places.map icell)) (hp_y : CellsAt w p_y [v_y_Loop_Logs, v_y_Loop_Body, v_y_Loop_Outs, .int .i64 y_Pace, .int .i64 y_Regs, v_y_Time, v_y_Ready, v_y_Places] 0) : Calls Try.prog 115 #[.pointer (some p_y), .int .i64 a, .int .i64 m_] w (fun e w' => e = .returned (.bool r) ∧ Grow w w') := by
  unfold keep_Layout_Apart_m at hm
  have hk := Base.rfl (w := w)
  refine calls_of_WC (n := 88) (args := [.pointer (some p_y), .int .i64 a, .int .i64 m_]) Try.func115 rfl rfl (Nat.le_of_ble_eq_true rfl) ?_ (Own.startK hk (Own.start w))
  refine WC.seq ?_
  refine WC.region ?_
  refine WL.q rfl rfl rfl (QV.assign rfl rfl) ?_
  refine WL.nil ?_
  refine WQ.then ?_
  refine WC.seq ?_
  refine WC.region ?_
  refine WL.q rfl rfl rfl (QV.move rfl rfl) ?_
  refine WL.q rfl rfl rfl (QV.move rfl rfl) ?_
  refine WL.effect rfl ?_
  obtain ⟨x1, hx2, hm3⟩ := bd_some hm; clear hm
  refine (EV.callR (X := Value × World) (R := []) (fun X => X.1) (fun X => []) (fun X => X.2) (fun X => Arr X.2 X.1 2 (x1.map Use.cells)) hk (fun _ h => by cases h; decide) en133 (EvAll.cons rfl rfl (EvAll.cons rfl rfl EvAll.nil)) (fun M w h1 h2 => have h := keep_Layout_uses_w hx2 h_y_Loop_Body h_y_Time hp_y M w h1 h2; h) (fun X4 hF4 hle4 => ?_))
  refine WL.q rfl rfl rfl (QV.assign rfl rfl) ?_
  refine WL.nil ?_
  refine WQ.then ?_
  refine WC.seq ?_
  refine WC.dr (m := 31) (by kernel_rfl) (by kernel_rfl) (fun w hw => hw) ?_
  refine WD.q 0 rfl (by kernel_rfl) rfl rfl rfl (QV.move rfl rfl) ?_
  refine WD.q 1 rfl (by kernel_rfl) rfl rfl rfl (QV.nilCheck rfl rfl) ?_
  refine WD.q 2 rfl (by kernel_rfl) rfl rfl rfl (QV.fieldAddr fd159_5 rfl rfl) ?_
  refine WD.q 3 rfl (by kernel_rfl) rfl rfl rfl (QV.load pl30 rfl rfl (fun w hw => CellsAt.one 7 ((Own.kcells 0 rfl hk (hp_y.le hle4)) w hw) rfl)) ?_
  refine WD.q 4 rfl (by kernel_rfl) rfl rfl rfl (QV.move rfl rfl) ?_
  obtain ⟨c5, hm6⟩ := ck_some hm3; clear hm3
  obtain ⟨p7, hp8⟩ := (h_y_Places.le hle4).lenMap.ix (sz := 1) ln_len c5
  refine WD.q 5 rfl (by kernel_rfl) rfl rfl rfl (QV.indexSlice sl30 rfl rfl rfl rfl hp8) ?_
  refine WD.q 6 rfl (by kernel_rfl) rfl rfl rfl (QV.load pl3 rfl rfl (fun w hw => CellsAt.one 0 (((Own.karr 0 rfl hk (h_y_Places.le hle4)) w hw).ele hp8 c5) rfl)) ?_
  refine WD.q 7 rfl (by kernel_rfl) rfl rfl rfl (QV.move rfl rfl) ?_
  refine WD.q 8 rfl (by kernel_rfl) rfl rfl rfl (QV.nilCheck rfl rfl) ?_
  refine WD.q 9 rfl (by kernel_rfl) rfl rfl rfl (QV.fieldAddr fd159_5 rfl rfl) ?_
  refine WD.q 10 rfl (by kernel_rfl) rfl rfl rfl (QV.load pl30 rfl rfl (fun w hw => CellsAt.one 7 ((Own.kcells 0 rfl hk (hp_y.le hle4)) w hw) rfl)) ?_
  refine WD.q 11 rfl (by kernel_rfl) rfl rfl rfl (QV.move rfl rfl) ?_
  obtain ⟨c9, hm10⟩ := ck_some hm6; clear hm6
  obtain ⟨p11, hp12⟩ := (h_y_Places.le hle4).lenMap.ix (sz := 1) ln_len c9
  refine WD.q 12 rfl (by kernel_rfl) rfl rfl rfl (QV.indexSlice sl30 rfl rfl rfl rfl hp12) ?_
  refine WD.q 13 rfl (by kernel_rfl) rfl rfl rfl (QV.load pl3 rfl rfl (fun w hw => CellsAt.one 0 (((Own.karr 0 rfl hk (h_y_Places.le hle4)) w hw).ele hp12 c9) rfl)) ?_
  obtain ⟨c13, hm14⟩ := ck_some hm10; clear hm10
  refine WD.q 14 rfl (by kernel_rfl) rfl rfl rfl (QV.sub rfl rfl rfl rfl c13) ?_
  refine WD.q 15 rfl (by kernel_rfl) rfl rfl rfl (QV.move rfl rfl) ?_
  refine WD.q 16 rfl (by kernel_rfl) rfl rfl rfl (QV.nilCheck rfl rfl) ?_
  refine WD.q 17 rfl (by kernel_rfl) rfl rfl rfl (QV.fieldAddr fd159_2 rfl rfl) ?_
  refine WD.q 18 rfl (by kernel_rfl) rfl rfl rfl (QV.load pl3 rfl rfl (fun w hw => CellsAt.one 4 ((Own.kcells 0 rfl hk (hp_y.le hle4)) w hw) rfl)) ?_
  obtain ⟨c15, hm16⟩ := ck_some hm14; clear hm14
  refine WD.q 19 rfl (by kernel_rfl) rfl rfl rfl (QV.rem rfl rfl rfl rfl c15) ?_
  refine WD.q 20 rfl (by kernel_rfl) rfl rfl rfl (QV.move rfl rfl) ?_
  refine WD.q 21 rfl (by kernel_rfl) rfl rfl rfl (QV.nilCheck rfl rfl) ?_
  refine WD.q 22 rfl (by kernel_rfl) rfl rfl rfl (QV.fieldAddr fd159_2 rfl rfl) ?_
  refine WD.q 23 rfl (by kernel_rfl) rfl rfl rfl (QV.load pl3 rfl rfl (fun w hw => CellsAt.one 4 ((Own.kcells 0 rfl hk (hp_y.le hle4)) w hw) rfl)) ?_
  obtain ⟨c17, hm18⟩ := ck_some hm16; clear hm16
  refine WD.q 24 rfl (by kernel_rfl) rfl rfl rfl (QV.add rfl rfl rfl rfl c17) ?_
  refine WD.q 25 rfl (by kernel_rfl) rfl rfl rfl (QV.move rfl rfl) ?_
  refine WD.q 26 rfl (by kernel_rfl) rfl rfl rfl (QV.nilCheck rfl rfl) ?_
  refine WD.q 27 rfl (by kernel_rfl) rfl rfl rfl (QV.fieldAddr fd159_2 rfl rfl) ?_
  refine WD.q 28 rfl (by kernel_rfl) rfl rfl rfl (QV.load pl3 rfl rfl (fun w hw => CellsAt.one 4 ((Own.kcells 0 rfl hk (hp_y.le hle4)) w hw) rfl)) ?_
  obtain ⟨c19, hm20⟩ := ck_some hm18; clear hm18
  refine WD.q 29 rfl (by kernel_rfl) rfl rfl rfl (QV.rem rfl rfl rfl rfl c19) ?_
  refine WD.q 30 rfl (by kernel_rfl) rfl rfl rfl (QV.assign rfl rfl) ?_
  refine WD.e (by kernel_rfl) ?_
  refine WQ.then ?_
  refine WC.seq ?_
  refine WC.region ?_
  refine WL.q rfl rfl rfl (QV.move rfl rfl) ?_
  refine WL.q rfl rfl rfl (QV.nilCheck rfl rfl) ?_
  refine WL.q rfl rfl rfl (QV.fieldAddr fd159_1 rfl rfl) ?_
  refine WL.q rfl rfl rfl (QV.load pl3 rfl rfl (fun w hw => CellsAt.one 3 ((Own.kcells 0 rfl hk (hp_y.le hle4)) w hw) rfl)) ?_
  obtain ⟨c21, hm22⟩ := ck_some hm20; clear hm20
  obtain ⟨c23, hm24⟩ := ck_some hm22; clear hm22
  refine WL.q rfl rfl rfl (QV.quo rfl rfl rfl rfl c21 c23) ?_
  obtain ⟨c25, hm26⟩ := ck_some hm24; clear hm24
  refine WL.q rfl rfl rfl (QV.add rfl rfl rfl rfl c25) ?_
  refine WL.q rfl rfl rfl (QV.assign rfl rfl) ?_
  refine WL.nil ?_
  refine WQ.then ?_
  refine WC.seq ?_
  refine WC.seq ?_
  refine WC.dr (m := 15) (by kernel_rfl) (by kernel_rfl) (fun w hw => hw) ?_
  refine WD.q 0 rfl (by kernel_rfl) rfl rfl rfl (QV.move rfl rfl) ?_
  refine WD.q 1 rfl (by kernel_rfl) rfl rfl rfl (QV.move rfl rfl) ?_
  refine WD.q 2 rfl (by kernel_rfl) rfl rfl rfl (QV.move rfl rfl) ?_
  refine WD.q 3 rfl (by kernel_rfl) rfl rfl rfl (QV.nilCheck rfl rfl) ?_
  refine WD.q 4 rfl (by kernel_rfl) rfl rfl rfl (QV.fieldAddr fd159_2 rfl rfl) ?_
  refine WD.q 5 rfl (by kernel_rfl) rfl rfl rfl (QV.load pl3 rfl rfl (fun w hw => CellsAt.one 4 ((Own.kcells 0 rfl hk (hp_y.le hle4)) w hw) rfl)) ?_
  obtain ⟨c27, hm28⟩ := ck_some hm26; clear hm26
  obtain ⟨c29, hm30⟩ := ck_some hm28; clear hm28
  refine WD.q 6 rfl (by kernel_rfl) rfl rfl rfl (QV.quo rfl rfl rfl rfl c27 c29) ?_
  obtain ⟨c31, hm32⟩ := ck_some hm30; clear hm30
  refine WD.q 7 rfl (by kernel_rfl) rfl rfl rfl (QV.add rfl rfl rfl rfl c31) ?_
  refine WD.q 8 rfl (by kernel_rfl) rfl rfl rfl (QV.move rfl rfl) ?_
  refine WD.q 9 rfl (by kernel_rfl) rfl rfl rfl (QV.nilCheck rfl rfl) ?_
  refine WD.q 10 rfl (by kernel_rfl) rfl rfl rfl (QV.fieldAddr fd159_2 rfl rfl) ?_
  refine WD.q 11 rfl (by kernel_rfl) rfl rfl rfl (QV.load pl3 rfl rfl (fun w hw => CellsAt.one 4 ((Own.kcells 0 rfl hk (hp_y.le hle4)) w hw) rfl)) ?_
  obtain ⟨c33, hm34⟩ := ck_some hm32; clear hm32
  refine WD.q 12 rfl (by kernel_rfl) rfl rfl rfl (QV.mul rfl rfl rfl rfl c33) ?_
  obtain ⟨c35, hm36⟩ := ck_some hm34; clear hm34
  refine WD.q 13 rfl (by kernel_rfl) rfl rfl rfl (QV.sub rfl rfl rfl rfl c35) ?_
  refine WD.q 14 rfl (by kernel_rfl) rfl rfl rfl (QV.assign rfl rfl) ?_
  refine WD.e (by kernel_rfl) ?_
  refine WQ.then ?_
  obtain ⟨o37, ho38, hm39⟩ := bd_some hm36; clear hm36; obtain ⟨n40, ho41⟩ := lp_some ho38
  refine WC.bloop1 (H2 := [kn noM w.heap.size w X4.2]) (τ := [(0, (true, _)), (1, (true, _)), (2, (true, _)), (7, (true, _)), (9, (true, _))]) (fun (j10_1 : Int) => [(10, (true, .int .i64 j10_1))]) (fun (j10_1 : Int) => []) (fun (j10_1 : Int) (m : Nat) => iter (keep_Layout_Apart_L0 y_Loop_Outs y_Pace y_Regs y_Ready a m_ x1) m j10_1 = some o37) (fun (j10_1 : Int) => o37 = .go j10_1) ((Int.tmod ((Int.tmod ((ele y_Places a) - (ele y_Places m_)) y_Regs) + y_Regs) y_Regs) - (((Int.tdiv ((Int.tdiv 4000 y_Pace) + 1) y_Regs) + 2) * y_Regs)) n40 ho41 ⟨rfl, rfl, rfl, rfl, rfl, rfl, trivial⟩ (fun w hw => hw.pick [0] (by decide)) ?_ ?_
  · skip
    rintro j10_1 rfl
    refine WQ.then ?_
    refine WC.seq ?_
    refine WC.region ?_
    refine WL.q rfl rfl rfl (QV.assign rfl rfl) ?_
    refine WL.nil ?_
    refine WQ.then ?_
    refine WC.ret ?_
    obtain rfl := (eq_of_some hm39).symm
    refine WQ.ret1 rfl rfl (fun w hw => ?_)
    exact ⟨rfl, Own.kgrow (fun _ x => x) hw⟩
  · skip
    rintro j10_1 m42 hI43
    obtain ⟨m44, s45, rfl, hm46, hn47⟩ := iter_step hI43; clear hI43; unfold keep_Layout_Apart_L0 at hm46
    refine WC.seq ?_
    refine WC.seq ?_
    refine WC.region ?_
    refine WL.q rfl rfl rfl (QV.move rfl rfl) ?_
    refine WL.q rfl rfl rfl (QV.move rfl rfl) ?_
    refine WL.q rfl rfl rfl (QV.leq rfl rfl rfl rfl) ?_
    refine WL.nil ?_
    refine WQ.then ?_
    refine WC.cond rfl (fun h48 => ?_) (fun h48 => ?_)
    · skip
      have hm49 := br_t h48 hm46; clear hm46
      refine WC.skip ?_
      refine WQ.then ?_
      refine WC.seq ?_
      refine WC.block ?_
      refine WC.seq ?_
      refine WC.region ?_
      refine WL.q rfl rfl rfl (QV.move rfl rfl) ?_
      refine WL.q rfl rfl rfl (QV.move rfl rfl) ?_
      refine WL.q rfl rfl rfl (QV.neq rfl rfl rfl rfl) ?_
      refine WL.q rfl rfl rfl (QV.move rfl rfl) ?_
      refine WL.g rfl rfl (GuardIs.neg rfl rfl) (fun hG => QV.move rfl rfl) ?_
      refine WL.g rfl rfl (GuardIs.neg rfl rfl) (fun hG => QV.neq rfl hG rfl rfl) ?_
      refine WL.q rfl rfl rfl (QV.pickOr rfl rfl rfl (fun h => notF h)) ?_
      refine WL.q rfl rfl rfl (QV.move rfl rfl) ?_
      refine WL.g rfl rfl (GuardIs.pos rfl rfl) (fun hG => QV.move rfl rfl) ?_
      refine WL.g rfl rfl (GuardIs.pos rfl rfl) (fun hG => QV.move rfl rfl) ?_
      refine WL.g rfl rfl (GuardIs.pos rfl rfl) (fun hG => QV.move rfl rfl) ?_
      refine WL.g rfl rfl (GuardIs.pos rfl rfl) (fun hG => QV.move rfl rfl) ?_
      refine WL.g rfl rfl (GuardIs.pos rfl rfl) (fun hG => QV.move rfl rfl) ?_
      obtain ⟨x50, hx51, hm52⟩ := bdG_some hm49; clear hm49
      refine WL.g rfl rfl (GuardIs.pos rfl rfl) (fun hG => QV.call en134 (EvAll.cons rfl hG (EvAll.cons rfl hG (EvAll.cons rfl hG (EvAll.cons rfl hG (EvAll.cons rfl hG EvAll.nil))))) (fun w hw => have h := keep_Layout_bad_w w (hx51 hG) ((Own.karr 0 rfl hk (h_y_Loop_Outs.le hle4)) w hw) ((Own.karr 0 rfl hk (h_y_Ready.le hle4)) w hw) (Own.kcells 0 rfl hk (hp_y.le hle4) w hw) ((Own.karr 0 rfl hk hF4) w hw); h)) ?_
      refine WL.q rfl rfl rfl (QV.pickAnd rfl rfl rfl (fun h => h)) ?_
      refine WL.nil ?_
      refine WQ.then ?_
      refine WC.cond rfl (fun h53 => ?_) (fun h53 => ?_)
      · skip
        have hm54 := br_t h53 hm52; clear hm52
        refine WC.seq ?_
        refine WC.region ?_
        refine WL.q rfl rfl rfl (QV.assign rfl rfl) ?_
        refine WL.nil ?_
        refine WQ.then ?_
        refine WC.ret ?_
        refine WQ.block_ret ?_
        refine WQ.then_ret ?_
        refine WQ.then_ret ?_
        refine WQ.block_ret ?_
        refine WQ.then_ret ?_
        refine WQ.then_ret ?_
        obtain rfl := up_ret hm54 hn47
        obtain rfl := (eq_of_some hm39).symm
        refine WQ.ret1 rfl rfl (fun w hw => ?_)
        exact ⟨rfl, Own.kgrow (fun _ x => x) hw⟩
      · skip
        have hm55 := br_f h53 hm52; clear hm52
        refine WC.skip ?_
        refine WQ.block ?_
        refine WQ.then ?_
        refine WC.region ?_
        refine WL.q rfl rfl rfl (QV.move rfl rfl) ?_
        refine WL.q rfl rfl rfl (QV.move rfl rfl) ?_
        refine WL.q rfl rfl rfl (QV.nilCheck rfl rfl) ?_
        refine WL.q rfl rfl rfl (QV.fieldAddr fd159_2 rfl rfl) ?_
        refine WL.q rfl rfl rfl (QV.load pl3 rfl rfl (fun w hw => CellsAt.one 4 ((Own.kcells 0 rfl hk (hp_y.le hle4)) w hw) rfl)) ?_
        obtain ⟨c56, hm57⟩ := ck_some hm55; clear hm55
        refine WL.q rfl rfl rfl (QV.add rfl rfl rfl rfl c56) ?_
        refine WL.q rfl rfl rfl (QV.assign rfl rfl) ?_
        refine WL.nil ?_
        exact WQ.again1 (j10_1 + y_Regs) m44 (up_next hm57 hn47) (Nat.lt_succ_self _) ⟨rfl, rfl, rfl, rfl, rfl, rfl, trivial⟩ (fun w hw => hw.pick [0] (by decide))
    · skip
      have hm58 := br_f h48 hm46; clear hm46
      refine WC.exit ?_
      refine WQ.then_exit ?_
      refine WQ.then_exit ?_
      refine WQ.block_exit ?_
      exact WQ.out1 j10_1 (up_brk hm58 hn47) ⟨rfl, rfl, rfl, rfl, rfl, rfl, trivial⟩ (fun w hw => hw.pick [0] (by decide))

set_option maxRecDepth 8000 in
theorem keep_Layout_Firsts_w {p_y : Addr} {v_y_Loop_Logs : Value} {v_y_Loop_Body : Value} {v_y_Loop_Outs : Value} {v_y_Time : Value} {v_y_Ready : Value} {v_y_Places : Value} {v_l : Value} {y_Loop_Logs : List Int} {y_Loop_Body : List Stm} {y_Loop_Outs : List Int} {y_Pace : Int} {y_Regs : Int} {y_Places : List Int} {l : List Int} {r : Bool} (w : World) (hm : keep_Layout_Firsts_m y_Loop_Logs y_Loop_Body y_Loop_Outs y_Pace y_Regs y_Places l = some r) (h_y_Loop_Logs : Arr w v_y_Loop_Logs 1 (y_Loop_Logs.map icell)) (h_y_Loop_Body : Arr w v_y_Loop_Body 9 (y_Loop_Body.map Stm.cells)) (h_y_Loop_Outs : Arr w v_y_Loop_Outs 1 (y_Loop_Outs.map icell)) (h_y_Places : Arr w v_y_Places 1 (y_Places.map icell)) (hp_y : CellsAt w p_y [v_y_Loop_Logs, v_y_Loop_Body, v_y_Loop_Outs, .int .i64 y_Pace, .int .i64 y_Regs, v_y_Time, v_y_Ready, v_y_Places] 0) (h_l : Arr w v_l 1 (l.map icell)) : Calls Try.prog 116 #[.pointer (some p_y), v_l] w (fun e w' => e = .returned (.bool r) ∧ Grow w w') := by
  unfold keep_Layout_Firsts_m at hm
  have hk := Base.rfl (w := w)
  refine calls_of_WC (n := 58) (args := [.pointer (some p_y), v_l]) Try.func116 rfl rfl (Nat.le_of_ble_eq_true rfl) ?_ (Own.startK hk (Own.start w))
  refine WC.seq ?_
  refine WC.region ?_
  refine WL.q rfl rfl rfl (QV.assign rfl rfl) ?_
  refine WL.nil ?_
  refine WQ.then ?_
  refine WC.seq ?_
  refine WC.region ?_
  refine WL.effect rfl ?_
  refine (EV.makeMap (ke := kI) (ve := bv) (by decide) (fun b1 => ?_))
  refine WL.q rfl rfl rfl (QV.assign rfl rfl) ?_
  refine WL.nil ?_
  refine WQ.then ?_
  refine WC.seq ?_
  refine WC.seq ?_
  refine WC.region ?_
  refine WL.q rfl rfl rfl (QV.move rfl rfl) ?_
  refine WL.q rfl rfl rfl (QV.lenS Try.underlying30 rfl rfl h_l.lenMap) ?_
  refine WL.q rfl rfl rfl (QV.move rfl rfl) ?_
  refine WL.nil ?_
  refine WQ.then ?_
  obtain ⟨o2, ho3, hm4⟩ := bd_some hm; clear hm; obtain ⟨n5, ho6⟩ := lp_some ho3
  refine WC.bloop2 (H2 := [kn noM w.heap.size w w]) (τ := [(0, (true, _)), (5, (true, _)), (11, (true, _)), (12, (true, _))]) (fun (m1n_3 : List (Int × Bool)) (x13_3 : Int) => [(13, (true, .int .i64 x13_3))]) (fun (m1n_3 : List (Int × Bool)) (x13_3 : Int) => [mapR b1 kI bv m1n_3]) (fun (m1n_3 : List (Int × Bool)) (x13_3 : Int) (m : Nat) => iter (keep_Layout_Firsts_L0 y_Loop_Logs y_Loop_Body y_Loop_Outs y_Regs y_Places l) m (m1n_3, x13_3) = some o2) (fun (m1n_3 : List (Int × Bool)) (x13_3 : Int) => o2 = .go (m1n_3, x13_3)) ([] : List (Int × Bool)) 0 n5 ho6 ⟨rfl, rfl, rfl, rfl, rfl, trivial⟩ (fun w hw => hw.pick [0, 1] (by decide)) ?_ ?_
  · skip
    rintro m1n_3 x13_3 rfl
    refine WQ.then ?_
    refine WC.seq ?_
    refine WC.region ?_
    refine WL.q rfl rfl rfl (QV.assign rfl rfl) ?_
    refine WL.nil ?_
    refine WQ.then ?_
    refine WC.ret ?_
    obtain rfl := (eq_of_some hm4).symm
    refine WQ.ret1 rfl rfl (fun w hw => ?_)
    exact ⟨rfl, Own.kgrow (fun _ x => x) hw⟩
  · skip
    rintro m1n_3 x13_3 m7 hI8
    obtain ⟨m9, s10, rfl, hm11, hn12⟩ := iter_step hI8; clear hI8; unfold keep_Layout_Firsts_L0 at hm11; simp only at hm11
    refine WC.seq ?_
    refine WC.region ?_
    refine WL.q rfl rfl rfl (QV.lss rfl rfl rfl rfl) ?_
    refine WL.nil ?_
    refine WQ.then ?_
    refine WC.seq ?_
    refine WC.cond rfl (fun h13 => ?_) (fun h13 => ?_)
    · skip
      have hm14 := br_t h13 hm11; clear hm11
      refine WC.skip ?_
      refine WQ.then ?_
      refine WC.seq ?_
      refine WC.block ?_
      refine WC.seq ?_
      refine WC.region ?_
      obtain ⟨c15, hm16⟩ := ck_some hm14; clear hm14
      obtain ⟨p17, hp18⟩ := h_l.lenMap.ix (sz := 1) ln_len c15
      refine WL.q rfl rfl rfl (QV.indexSlice sl30 rfl rfl rfl rfl hp18) ?_
      refine WL.q rfl rfl rfl (QV.load pl3 rfl rfl (fun w hw => CellsAt.one 0 (((Own.karr 1 rfl hk h_l) w hw).ele hp18 c15) rfl)) ?_
      refine WL.q rfl rfl rfl (QV.assign rfl rfl) ?_
      refine WL.nil ?_
      refine WQ.then ?_
      refine WC.seq ?_
      refine WC.region ?_
      refine WL.q rfl rfl rfl (QV.move rfl rfl) ?_
      refine WL.q rfl rfl rfl (QV.nilCheck rfl rfl) ?_
      refine WL.q rfl rfl rfl (QV.fieldAddr fd159_0 rfl rfl) ?_
      refine WL.q rfl rfl rfl (QV.loadAgg ag49 rfl rfl rfl (fun w hw => CellsAt.sub 0 3 ((Own.kcells 1 rfl hk hp_y) w hw) rfl)) ?_
      refine WL.q rfl rfl rfl (QV.move rfl rfl) ?_
      obtain ⟨x19, hx20, hm21⟩ := bd_some hm16; clear hm16
      refine WL.q rfl rfl rfl (QV.call en135 (EvAll.cons rfl rfl (EvAll.cons rfl rfl EvAll.nil)) (fun w hw => have h := keep_Far_w w hx20 ((Own.karr 1 rfl hk h_y_Loop_Logs) w hw) ((Own.karr 1 rfl hk h_y_Loop_Body) w hw) ((Own.karr 1 rfl hk h_y_Loop_Outs) w hw); h)) ?_
      refine WL.q rfl rfl rfl (QV.move rfl rfl) ?_
      refine WL.nil ?_
      refine WQ.then ?_
      obtain ⟨o22, ho23, hm24⟩ := bd_some hm21; clear hm21; obtain ⟨n25, ho26⟩ := lp_some ho23
      refine WC.bloop2 (H2 := [kn noM w.heap.size w w]) (τ := [(0, (true, _)), (5, (true, _)), (7, (true, _)), (11, (true, _)), (12, (true, _)), (13, (true, _)), (22, (true, _))]) (fun (m1n_4 : List (Int × Bool)) (x23_4 : Int) => [(23, (true, .int .i64 x23_4))]) (fun (m1n_4 : List (Int × Bool)) (x23_4 : Int) => [mapR b1 kI bv m1n_4]) (fun (m1n_4 : List (Int × Bool)) (x23_4 : Int) (m : Nat) => iter (keep_Layout_Firsts_L2 y_Regs y_Places l x13_3 x19) m (m1n_4, x23_4) = some o22) (fun (m1n_4 : List (Int × Bool)) (x23_4 : Int) => o22 = .go (m1n_4, x23_4)) m1n_3 0 n25 ho26 ⟨rfl, rfl, rfl, rfl, rfl, rfl, rfl, rfl, trivial⟩ (fun w hw => hw.pick [0, 1] (by decide)) ?_ ?_
      · skip
        rintro m1n_4 x23_4 rfl
        refine WQ.block ?_
        refine WQ.then ?_
        refine WC.region ?_
        obtain ⟨c27, hm28⟩ := ck_some hm24; clear hm24
        refine WL.q rfl rfl rfl (QV.add rfl rfl rfl rfl c27) ?_
        refine WL.q rfl rfl rfl (QV.move rfl rfl) ?_
        refine WL.nil ?_
        exact WQ.again2 m1n_4 (x13_3 + 1) m9 (up_next hm28 hn12) (Nat.lt_succ_self _) ⟨rfl, rfl, rfl, rfl, rfl, trivial⟩ (fun w hw => hw.pick [0, 1] (by decide))
      · skip
        rintro m1n_4 x23_4 m29 hI30
        obtain ⟨m31, s32, rfl, hm33, hn34⟩ := iter_step hI30; clear hI30; unfold keep_Layout_Firsts_L2 at hm33; simp only at hm33
        refine WC.seq ?_
        refine WC.region ?_
        refine WL.q rfl rfl rfl (QV.lss rfl rfl rfl rfl) ?_
        refine WL.nil ?_
        refine WQ.then ?_
        refine WC.seq ?_
        refine WC.cond rfl (fun h35 => ?_) (fun h35 => ?_)
        · skip
          have hm36 := br_t h35 hm33; clear hm33
          refine WC.skip ?_
          refine WQ.then ?_
          refine WC.seq ?_
          refine WC.block ?_
          refine WC.seq ?_
          refine WC.region ?_
          refine WL.q rfl rfl rfl (QV.move rfl rfl) ?_
          refine WL.q rfl rfl rfl (QV.assign rfl rfl) ?_
          refine WL.nil ?_
          refine WQ.then ?_
          refine WC.seq ?_
          refine WC.dr (m := 26) (S := Own noM w [kn noM w.heap.size w w, mapR b1 kI bv m1n_4]) (by kernel_rfl) (by kernel_rfl) (fun w hw => hw.pick [1, 0] (by decide)) ?_
          refine WD.q 0 rfl (by kernel_rfl) rfl rfl rfl (QV.move rfl rfl) ?_
          refine WD.q 1 rfl (by kernel_rfl) rfl rfl rfl (QV.nilCheck rfl rfl) ?_
          refine WD.q 2 rfl (by kernel_rfl) rfl rfl rfl (QV.fieldAddr fd159_5 rfl rfl) ?_
          refine WD.q 3 rfl (by kernel_rfl) rfl rfl rfl (QV.load pl30 rfl rfl (fun w hw => CellsAt.one 7 ((Own.kcells 0 rfl hk hp_y) w hw) rfl)) ?_
          refine WD.q 4 rfl (by kernel_rfl) rfl rfl rfl (QV.move rfl rfl) ?_
          obtain ⟨c37, hm38⟩ := ck_some hm36; clear hm36
          obtain ⟨p39, hp40⟩ := h_y_Places.lenMap.ix (sz := 1) ln_len c37
          refine WD.q 5 rfl (by kernel_rfl) rfl rfl rfl (QV.indexSlice sl30 rfl rfl rfl rfl hp40) ?_
          refine WD.q 6 rfl (by kernel_rfl) rfl rfl rfl (QV.load pl3 rfl rfl (fun w hw => CellsAt.one 0 (((Own.karr 0 rfl hk h_y_Places) w hw).ele hp40 c37) rfl)) ?_
          refine WD.q 7 rfl (by kernel_rfl) rfl rfl rfl (QV.move rfl rfl) ?_
          obtain ⟨c41, hm42⟩ := ck_some hm38; clear hm38
          refine WD.q 8 rfl (by kernel_rfl) rfl rfl rfl (QV.sub rfl rfl rfl rfl c41) ?_
          obtain ⟨c43, hm44⟩ := ck_some hm42; clear hm42
          refine WD.q 9 rfl (by kernel_rfl) rfl rfl rfl (QV.sub rfl rfl rfl rfl c43) ?_
          refine WD.q 10 rfl (by kernel_rfl) rfl rfl rfl (QV.move rfl rfl) ?_
          refine WD.q 11 rfl (by kernel_rfl) rfl rfl rfl (QV.nilCheck rfl rfl) ?_
          refine WD.q 12 rfl (by kernel_rfl) rfl rfl rfl (QV.fieldAddr fd159_2 rfl rfl) ?_
          refine WD.q 13 rfl (by kernel_rfl) rfl rfl rfl (QV.load pl3 rfl rfl (fun w hw => CellsAt.one 4 ((Own.kcells 0 rfl hk hp_y) w hw) rfl)) ?_
          obtain ⟨c45, hm46⟩ := ck_some hm44; clear hm44
          refine WD.q 14 rfl (by kernel_rfl) rfl rfl rfl (QV.rem rfl rfl rfl rfl c45) ?_
          refine WD.q 15 rfl (by kernel_rfl) rfl rfl rfl (QV.move rfl rfl) ?_
          refine WD.q 16 rfl (by kernel_rfl) rfl rfl rfl (QV.nilCheck rfl rfl) ?_
          refine WD.q 17 rfl (by kernel_rfl) rfl rfl rfl (QV.fieldAddr fd159_2 rfl rfl) ?_
          refine WD.q 18 rfl (by kernel_rfl) rfl rfl rfl (QV.load pl3 rfl rfl (fun w hw => CellsAt.one 4 ((Own.kcells 0 rfl hk hp_y) w hw) rfl)) ?_
          obtain ⟨c47, hm48⟩ := ck_some hm46; clear hm46
          refine WD.q 19 rfl (by kernel_rfl) rfl rfl rfl (QV.add rfl rfl rfl rfl c47) ?_
          refine WD.q 20 rfl (by kernel_rfl) rfl rfl rfl (QV.move rfl rfl) ?_
          refine WD.q 21 rfl (by kernel_rfl) rfl rfl rfl (QV.nilCheck rfl rfl) ?_
          refine WD.q 22 rfl (by kernel_rfl) rfl rfl rfl (QV.fieldAddr fd159_2 rfl rfl) ?_
          refine WD.q 23 rfl (by kernel_rfl) rfl rfl rfl (QV.load pl3 rfl rfl (fun w hw => CellsAt.one 4 ((Own.kcells 0 rfl hk hp_y) w hw) rfl)) ?_
          obtain ⟨c49, hm50⟩ := ck_some hm48; clear hm48
          refine WD.q 24 rfl (by kernel_rfl) rfl rfl rfl (QV.rem rfl rfl rfl rfl c49) ?_
          refine WD.q 25 rfl (by kernel_rfl) rfl rfl rfl (QV.assign rfl rfl) ?_
          refine WD.e (by kernel_rfl) ?_
          refine WQ.then ?_
          refine WC.seq ?_
          refine WC.seq ?_
          refine WC.region ?_
          refine WL.q rfl rfl rfl (QV.move rfl rfl) ?_
          refine WL.q rfl rfl rfl (QV.move rfl rfl) ?_
          refine WL.q rfl rfl rfl (QV.lookup (k := (Int.tmod ((Int.tmod (((ele y_Places (ele l x13_3)) - x23_4) - 1) y_Regs) + y_Regs) y_Regs)) 0 false mt180 kt3 zv4bv rfl rfl rfl rfl rfl) ?_
          refine WL.nil ?_
          refine WQ.then ?_
          refine WC.cond rfl (fun h51 => ?_) (fun h51 => ?_)
          · skip
            have hm52 := br_t h51 hm50; clear hm50
            refine WC.seq ?_
            refine WC.region ?_
            refine WL.q rfl rfl rfl (QV.assign rfl rfl) ?_
            refine WL.nil ?_
            refine WQ.then ?_
            refine WC.ret ?_
            refine WQ.then_ret ?_
            refine WQ.block_ret ?_
            refine WQ.then_ret ?_
            refine WQ.then_ret ?_
            refine WQ.block_ret ?_
            refine WQ.then_ret ?_
            refine WQ.block_ret ?_
            refine WQ.then_ret ?_
            refine WQ.then_ret ?_
            refine WQ.block_ret ?_
            refine WQ.then_ret ?_
            refine WQ.then_ret ?_
            obtain rfl := up_ret hm52 hn34
            obtain rfl := up_ret hm24 hn12
            obtain rfl := (eq_of_some hm4).symm
            refine WQ.ret1 rfl rfl (fun w hw => ?_)
            exact ⟨rfl, Own.kgrow (fun _ x => x) hw⟩
          · skip
            have hm53 := br_f h51 hm50; clear hm50
            refine WC.skip ?_
            refine WQ.then ?_
            refine WC.region ?_
            refine WL.q rfl rfl rfl (QV.move rfl rfl) ?_
            refine WL.q rfl rfl rfl (QV.move rfl rfl) ?_
            refine WL.effect rfl ?_
            refine (EV.mapUpdate (ke := kI) (ve := bv) (Int.tmod ((Int.tmod (((ele y_Places (ele l x13_3)) - x23_4) - 1) y_Regs) + y_Regs) y_Regs) 0 true mt180 kt3 rfl rfl rfl rfl rfl rfl rfl ?_)
            refine WL.nil ?_
            refine WQ.block ?_
            refine WQ.then ?_
            refine WC.region ?_
            obtain ⟨c54, hm55⟩ := ck_some hm53; clear hm53
            refine WL.q rfl rfl rfl (QV.add rfl rfl rfl rfl c54) ?_
            refine WL.q rfl rfl rfl (QV.move rfl rfl) ?_
            refine WL.nil ?_
            exact WQ.again2 (mput m1n_4 (Int.tmod ((Int.tmod (((ele y_Places (ele l x13_3)) - x23_4) - 1) y_Regs) + y_Regs) y_Regs) true) (x23_4 + 1) m31 (up_next hm55 hn34) (Nat.lt_succ_self _) ⟨rfl, rfl, rfl, rfl, rfl, rfl, rfl, rfl, trivial⟩ (fun w hw => hw.pick [0, 1] (by decide))
        · skip
          have hm56 := br_f h35 hm33; clear hm33
          refine WC.exit ?_
          refine WQ.then_exit ?_
          refine WQ.then_exit ?_
          refine WQ.block_exit ?_
          exact WQ.out2 m1n_4 x23_4 (up_brk hm56 hn34) ⟨rfl, rfl, rfl, rfl, rfl, rfl, rfl, rfl, trivial⟩ (fun w hw => hw.pick [0, 1] (by decide))
    · skip
      have hm57 := br_f h13 hm11; clear hm11
      refine WC.exit ?_
      refine WQ.then_exit ?_
      refine WQ.then_exit ?_
      refine WQ.block_exit ?_
      exact WQ.out2 m1n_3 x13_3 (up_brk hm57 hn12) ⟨rfl, rfl, rfl, rfl, rfl, trivial⟩ (fun w hw => hw.pick [0, 1] (by decide))
end Go.Proofs.Ytaimbkndebaaiab
end

section
namespace Go.Proofs.Ytaimbkndebaaiab
open Go.Rd
set_option linter.unusedVariables false
namespace TOrd
theorem en107 : Go.Rd.Enters Try.prog 107 := ⟨Try.f107, Try.func107, by kernel_rfl, by kernel_rfl⟩
theorem en108 : Go.Rd.Enters Try.prog 108 := ⟨Try.f108, Try.func108, by kernel_rfl, by kernel_rfl⟩
theorem en132 : Go.Rd.Enters Try.prog 132 := ⟨Try.f132, Try.func132, by kernel_rfl, by kernel_rfl⟩
theorem fd61_0 : FieldT Try.prog 61 0 0 := ⟨_, _, 0, Try.underlying61, rfl, rfl, by kernel_rfl⟩
theorem fd61_1 : FieldT Try.prog 61 1 1 := ⟨_, _, 0, Try.underlying61, rfl, rfl, by kernel_rfl⟩
theorem fd61_2 : FieldT Try.prog 61 2 2 := ⟨_, _, 0, Try.underlying61, rfl, rfl, by kernel_rfl⟩
theorem fd61_3 : FieldT Try.prog 61 3 3 := ⟨_, _, 0, Try.underlying61, rfl, rfl, by kernel_rfl⟩
theorem pl3 : Plain Try.prog 3 := ⟨_, Try.underlying3, rfl⟩
theorem sl30 : SliceT Try.prog 30 3 1 := ⟨Try.underlying30, by kernel_rfl⟩
theorem sz_30 : SliceZ Try.prog 30 3 1 [.int .i64 0] := ⟨Try.underlying30, by kernel_rfl⟩
end TOrd
open TOrd
set_option maxRecDepth 8000 in
theorem cmp_isNaN_int__w {x : Int} {r : Bool} (w : World) (hm : cmp_isNaN_int__m x = some r)  : Calls Try.prog 132 #[.int .i64 x] w (fun e w' => e = .returned (.bool r) ∧ Grow w w') := by
  unfold cmp_isNaN_int__m at hm
  have hk := Base.rfl (w := w)
  refine calls_of_WC (n := 6) (args := [.int .i64 x]) Try.func132 rfl rfl (Nat.le_of_ble_eq_true rfl) ?_ (Own.startK hk (Own.start w))
  refine WC.seq ?_
  refine WC.region ?_
  refine WL.q rfl rfl rfl (QV.assign rfl rfl) ?_
  refine WL.nil ?_
  refine WQ.then ?_
  refine WC.seq ?_
  refine WC.region ?_
  refine WL.q rfl rfl rfl (QV.move rfl rfl) ?_
  refine WL.q rfl rfl rfl (QV.move rfl rfl) ?_
  refine WL.q rfl rfl rfl (QV.neq rfl rfl rfl rfl) ?_
  refine WL.q rfl rfl rfl (QV.assign rfl rfl) ?_
  refine WL.nil ?_
  refine WQ.then ?_
  refine WC.ret ?_
  obtain rfl := (eq_of_some hm).symm
  refine WQ.ret1 rfl rfl (fun w hw => ?_)
  exact ⟨rfl, Own.kgrow (fun _ x => x) hw⟩

set_option maxRecDepth 8000 in
theorem cmp_Compare_int__w {x : Int} {y : Int} {r : Int} (w : World) (hm : cmp_Compare_int__m x y = some r)  : Calls Try.prog 108 #[.int .i64 x, .int .i64 y] w (fun e w' => e = .returned (.int .i64 r) ∧ Grow w w') := by
  unfold cmp_Compare_int__m at hm
  have hk := Base.rfl (w := w)
  refine calls_of_WC (n := 20) (args := [.int .i64 x, .int .i64 y]) Try.func108 rfl rfl (Nat.le_of_ble_eq_true rfl) ?_ (Own.startK hk (Own.start w))
  refine WC.seq ?_
  refine WC.region ?_
  refine WL.q rfl rfl rfl (QV.assign rfl rfl) ?_
  refine WL.nil ?_
  refine WQ.then ?_
  refine WC.seq ?_
  refine WC.region ?_
  refine WL.q rfl rfl rfl (QV.move rfl rfl) ?_
  obtain ⟨x1, hx2, hm3⟩ := bd_some hm; clear hm
  refine WL.q rfl rfl rfl (QV.call en132 (EvAll.cons rfl rfl EvAll.nil) (fun w hw => have h := cmp_isNaN_int__w w hx2 ; h)) ?_
  refine WL.q rfl rfl rfl (QV.assign rfl rfl) ?_
  refine WL.nil ?_
  refine WQ.then ?_
  refine WC.seq ?_
  refine WC.region ?_
  refine WL.q rfl rfl rfl (QV.move rfl rfl) ?_
  obtain ⟨x4, hx5, hm6⟩ := bd_some hm3; clear hm3
  refine WL.q rfl rfl rfl (QV.call en132 (EvAll.cons rfl rfl EvAll.nil) (fun w hw => have h := cmp_isNaN_int__w w hx5 ; h)) ?_
  refine WL.q rfl rfl rfl (QV.assign rfl rfl) ?_
  refine WL.nil ?_
  refine WQ.then ?_
  refine WC.seq ?_
  refine WC.seq ?_
  refine WC.region ?_
  refine WL.q rfl rfl rfl (QV.move rfl rfl) ?_
  refine WL.nil ?_
  refine WQ.then ?_
  refine WC.cond rfl (fun h7 => ?_) (fun h7 => ?_)
  · skip
    have hm8 := br_t h7 hm6; clear hm6
    refine WC.seq ?_
    refine WC.seq ?_
    refine WC.region ?_
    refine WL.q rfl rfl rfl (QV.move rfl rfl) ?_
    refine WL.nil ?_
    refine WQ.then ?_
    refine WC.cond rfl (fun h9 => ?_) (fun h9 => ?_)
    · skip
      have hm10 := br_t h9 hm8; clear hm8
      refine WC.seq ?_
      refine WC.region ?_
      refine WL.q rfl rfl rfl (QV.assign rfl rfl) ?_
      refine WL.nil ?_
      refine WQ.then ?_
      refine WC.ret ?_
      refine WQ.then_ret ?_
      refine WQ.then_ret ?_
      obtain rfl := (eq_of_some hm10).symm
      refine WQ.ret1 rfl rfl (fun w hw => ?_)
      exact ⟨rfl, Own.kgrow (fun _ x => x) hw⟩
    · skip
      have hm11 := br_f h9 hm8; clear hm8
      refine WC.skip ?_
      refine WQ.then ?_
      refine WC.seq ?_
      refine WC.region ?_
      refine WL.q rfl rfl rfl (QV.assign rfl rfl) ?_
      refine WL.nil ?_
      refine WQ.then ?_
      refine WC.ret ?_
      refine WQ.then_ret ?_
      obtain rfl := (eq_of_some hm11).symm
      refine WQ.ret1 rfl rfl (fun w hw => ?_)
      exact ⟨rfl, Own.kgrow (fun _ x => x) hw⟩
  · skip
    have hm12 := br_f h7 hm6; clear hm6
    refine WC.skip ?_
    refine WQ.then ?_
    refine WC.seq ?_
    refine WC.seq ?_
    refine WC.region ?_
    refine WL.q rfl rfl rfl (QV.move rfl rfl) ?_
    refine WL.nil ?_
    refine WQ.then ?_
    refine WC.cond rfl (fun h13 => ?_) (fun h13 => ?_)
    · skip
      have hm14 := br_t h13 hm12; clear hm12
      refine WC.seq ?_
      refine WC.region ?_
      refine WL.q rfl rfl rfl (QV.assign rfl rfl) ?_
      refine WL.nil ?_
      refine WQ.then ?_
      refine WC.ret ?_
      refine WQ.then_ret ?_
      obtain rfl := (eq_of_some hm14).symm
      refine WQ.ret1 rfl rfl (fun w hw => ?_)
      exact ⟨rfl, Own.kgrow (fun _ x => x) hw⟩
    · skip
      have hm15 := br_f h13 hm12; clear hm12
      refine WC.skip ?_
      refine WQ.then ?_
      refine WC.seq ?_
      refine WC.seq ?_
      refine WC.region ?_
      refine WL.q rfl rfl rfl (QV.move rfl rfl) ?_
      refine WL.q rfl rfl rfl (QV.move rfl rfl) ?_
      refine WL.q rfl rfl rfl (QV.lss rfl rfl rfl rfl) ?_
      refine WL.nil ?_
      refine WQ.then ?_
      refine WC.cond rfl (fun h16 => ?_) (fun h16 => ?_)
      · skip
        have hm17 := br_t h16 hm15; clear hm15
        refine WC.seq ?_
        refine WC.region ?_
        refine WL.q rfl rfl rfl (QV.assign rfl rfl) ?_
        refine WL.nil ?_
        refine WQ.then ?_
        refine WC.ret ?_
        refine WQ.then_ret ?_
        obtain rfl := (eq_of_some hm17).symm
        refine WQ.ret1 rfl rfl (fun w hw => ?_)
        exact ⟨rfl, Own.kgrow (fun _ x => x) hw⟩
      · skip
        have hm18 := br_f h16 hm15; clear hm15
        refine WC.skip ?_
        refine WQ.then ?_
        refine WC.seq ?_
        refine WC.seq ?_
        refine WC.region ?_
        refine WL.q rfl rfl rfl (QV.move rfl rfl) ?_
        refine WL.q rfl rfl rfl (QV.move rfl rfl) ?_
        refine WL.q rfl rfl rfl (QV.gtr rfl rfl rfl rfl) ?_
        refine WL.nil ?_
        refine WQ.then ?_
        refine WC.cond rfl (fun h19 => ?_) (fun h19 => ?_)
        · skip
          have hm20 := br_t h19 hm18; clear hm18
          refine WC.seq ?_
          refine WC.region ?_
          refine WL.q rfl rfl rfl (QV.assign rfl rfl) ?_
          refine WL.nil ?_
          refine WQ.then ?_
          refine WC.ret ?_
          refine WQ.then_ret ?_
          obtain rfl := (eq_of_some hm20).symm
          refine WQ.ret1 rfl rfl (fun w hw => ?_)
          exact ⟨rfl, Own.kgrow (fun _ x => x) hw⟩
        · skip
          have hm21 := br_f h19 hm18; clear hm18
          refine WC.skip ?_
          refine WQ.then ?_
          refine WC.seq ?_
          refine WC.region ?_
          refine WL.q rfl rfl rfl (QV.assign rfl rfl) ?_
          refine WL.nil ?_
          refine WQ.then ?_
          refine WC.ret ?_
          obtain rfl := (eq_of_some hm21).symm
          refine WQ.ret1 rfl rfl (fun w hw => ?_)
          exact ⟨rfl, Own.kgrow (fun _ x => x) hw⟩

set_option maxRecDepth 8000 in
theorem cmp_Or_int__w {v_vals : Value} {vals : List Int} {r : Int} (w : World) (hm : cmp_Or_int__m vals = some r) (h_vals : Arr w v_vals 1 (vals.map icell)) : Calls Try.prog 107 #[v_vals] w (fun e w' => e = .returned (.int .i64 r) ∧ Grow w w') := by
  unfold cmp_Or_int__m at hm
  have hk := Base.rfl (w := w)
  refine calls_of_WC (n := 18) (args := [v_vals]) Try.func107 rfl rfl (Nat.le_of_ble_eq_true rfl) ?_ (Own.startK hk (Own.start w))
  refine WC.seq ?_
  refine WC.region ?_
  refine WL.q rfl rfl rfl (QV.assign rfl rfl) ?_
  refine WL.nil ?_
  refine WQ.then ?_
  refine WC.seq ?_
  refine WC.region ?_
  refine WL.q rfl rfl rfl (QV.assign rfl rfl) ?_
  refine WL.nil ?_
  refine WQ.then ?_
  refine WC.seq ?_
  refine WC.seq ?_
  refine WC.region ?_
  refine WL.q rfl rfl rfl (QV.move rfl rfl) ?_
  refine WL.q rfl rfl rfl (QV.lenS Try.underlying30 rfl rfl h_vals.lenMap) ?_
  refine WL.q rfl rfl rfl (QV.move rfl rfl) ?_
  refine WL.nil ?_
  refine WQ.then ?_
  obtain ⟨o1, ho2, hm3⟩ := bd_some hm; clear hm; obtain ⟨n4, ho5⟩ := lp_some ho2
  refine WC.bloop1 (H2 := [kn noM w.heap.size w w]) (τ := [(3, (true, _)), (6, (true, _)), (7, (true, _))]) (fun (x8_1 : Int) => [(8, (true, .int .i64 x8_1))]) (fun (x8_1 : Int) => []) (fun (x8_1 : Int) (m : Nat) => iter (cmp_Or_int__L0 vals) m x8_1 = some o1) (fun (x8_1 : Int) => o1 = .go x8_1) 0 n4 ho5 ⟨rfl, rfl, rfl, rfl, trivial⟩ (fun w hw => hw.pick [0] (by decide)) ?_ ?_
  · skip
    rintro x8_1 rfl
    refine WQ.then ?_
    refine WC.seq ?_
    refine WC.region ?_
    refine WL.q rfl rfl rfl (QV.move rfl rfl) ?_
    refine WL.q rfl rfl rfl (QV.assign rfl rfl) ?_
    refine WL.nil ?_
    refine WQ.then ?_
    refine WC.ret ?_
    obtain rfl := (eq_of_some hm3).symm
    refine WQ.ret1 rfl rfl (fun w hw => ?_)
    exact ⟨rfl, Own.kgrow (fun _ x => x) hw⟩
  · skip
    rintro x8_1 m6 hI7
    obtain ⟨m8, s9, rfl, hm10, hn11⟩ := iter_step hI7; clear hI7; unfold cmp_Or_int__L0 at hm10
    refine WC.seq ?_
    refine WC.region ?_
    refine WL.q rfl rfl rfl (QV.lss rfl rfl rfl rfl) ?_
    refine WL.nil ?_
    refine WQ.then ?_
    refine WC.seq ?_
    refine WC.cond rfl (fun h12 => ?_) (fun h12 => ?_)
    · skip
      have hm13 := br_t h12 hm10; clear hm10
      refine WC.skip ?_
      refine WQ.then ?_
      refine WC.seq ?_
      refine WC.block ?_
      refine WC.seq ?_
      refine WC.region ?_
      obtain ⟨c14, hm15⟩ := ck_some hm13; clear hm13
      obtain ⟨p16, hp17⟩ := h_vals.lenMap.ix (sz := 1) ln_len c14
      refine WL.q rfl rfl rfl (QV.indexSlice sl30 rfl rfl rfl rfl hp17) ?_
      refine WL.q rfl rfl rfl (QV.load pl3 rfl rfl (fun w hw => CellsAt.one 0 (((Own.karr 0 rfl hk h_vals) w hw).ele hp17 c14) rfl)) ?_
      refine WL.q rfl rfl rfl (QV.assign rfl rfl) ?_
      refine WL.nil ?_
      refine WQ.then ?_
      refine WC.seq ?_
      refine WC.region ?_
      refine WL.q rfl rfl rfl (QV.move rfl rfl) ?_
      refine WL.q rfl rfl rfl (QV.move rfl rfl) ?_
      refine WL.q rfl rfl rfl (QV.neq rfl rfl rfl rfl) ?_
      refine WL.nil ?_
      refine WQ.then ?_
      refine WC.cond rfl (fun h18 => ?_) (fun h18 => ?_)
      · skip
        have hm19 := br_t h18 hm15; clear hm15
        refine WC.seq ?_
        refine WC.region ?_
        refine WL.q rfl rfl rfl (QV.move rfl rfl) ?_
        refine WL.q rfl rfl rfl (QV.assign rfl rfl) ?_
        refine WL.nil ?_
        refine WQ.then ?_
        refine WC.ret ?_
        refine WQ.block_ret ?_
        refine WQ.then_ret ?_
        refine WQ.then_ret ?_
        refine WQ.block_ret ?_
        refine WQ.then_ret ?_
        refine WQ.then_ret ?_
        obtain rfl := up_ret hm19 hn11
        obtain rfl := (eq_of_some hm3).symm
        refine WQ.ret1 rfl rfl (fun w hw => ?_)
        exact ⟨rfl, Own.kgrow (fun _ x => x) hw⟩
      · skip
        have hm20 := br_f h18 hm15; clear hm15
        refine WC.skip ?_
        refine WQ.block ?_
        refine WQ.then ?_
        refine WC.region ?_
        obtain ⟨c21, hm22⟩ := ck_some hm20; clear hm20
        refine WL.q rfl rfl rfl (QV.add rfl rfl rfl rfl c21) ?_
        refine WL.q rfl rfl rfl (QV.move rfl rfl) ?_
        refine WL.nil ?_
        exact WQ.again1 (x8_1 + 1) m8 (up_next hm22 hn11) (Nat.lt_succ_self _) ⟨rfl, rfl, rfl, rfl, trivial⟩ (fun w hw => hw.pick [0] (by decide))
    · skip
      have hm23 := br_f h12 hm10; clear hm10
      refine WC.exit ?_
      refine WQ.then_exit ?_
      refine WQ.then_exit ?_
      refine WQ.block_exit ?_
      exact WQ.out1 x8_1 (up_brk hm23 hn11) ⟨rfl, rfl, rfl, rfl, trivial⟩ (fun w hw => hw.pick [0] (by decide))

set_option maxRecDepth 8000 in
theorem dep_order_w {a : Edg} {b : Edg} {r : Int} (w : World) (hm : dep_order_m a b = some r)  : Calls Try.prog 66 #[.agg #[.int .i64 a.fr, .int .i64 a.to, .int .i64 a.bk, .int .i64 a.wt], .agg #[.int .i64 b.fr, .int .i64 b.to, .int .i64 b.bk, .int .i64 b.wt]] w (fun e w' => e = .returned (.int .i64 r) ∧ Grow w w') := by
  unfold dep_order_m at hm
  have hk := Base.rfl (w := w)
  refine calls_of_WC (n := 27) (args := [.agg #[.int .i64 a.fr, .int .i64 a.to, .int .i64 a.bk, .int .i64 a.wt], .agg #[.int .i64 b.fr, .int .i64 b.to, .int .i64 b.bk, .int .i64 b.wt]]) Try.func66 rfl rfl (Nat.le_of_ble_eq_true rfl) ?_ (Own.startK hk (Own.start w))
  refine WC.seq ?_
  refine WC.region ?_
  refine WL.effect rfl ?_
  refine (EV.boxAgg (by decide) rfl rfl (fun b1 => ?_))
  refine WL.effect rfl ?_
  refine (EV.boxAgg (by decide) rfl rfl (fun b2 => ?_))
  refine WL.q rfl rfl rfl (QV.assign rfl rfl) ?_
  refine WL.nil ?_
  refine WQ.then ?_
  refine WC.seq ?_
  refine WC.dr (m := 23) (S := Own noM w [kn noM w.heap.size w w, blk b2 [.int .i64 b.fr, .int .i64 b.to, .int .i64 b.bk, .int .i64 b.wt] 61, blk b1 [.int .i64 a.fr, .int .i64 a.to, .int .i64 a.bk, .int .i64 a.wt] 61]) (by kernel_rfl) (by kernel_rfl) (fun w hw => hw.pick [2, 0, 1] (by decide)) ?_
  refine WD.q 0 rfl (by kernel_rfl) rfl rfl rfl (QV.fieldAddr fd61_0 rfl rfl) ?_
  refine WD.q 1 rfl (by kernel_rfl) rfl rfl rfl (QV.load pl3 rfl rfl (Own.cell 2 rfl rfl)) ?_
  refine WD.q 2 rfl (by kernel_rfl) rfl rfl rfl (QV.fieldAddr fd61_0 rfl rfl) ?_
  refine WD.q 3 rfl (by kernel_rfl) rfl rfl rfl (QV.load pl3 rfl rfl (Own.cell 1 rfl rfl)) ?_
  obtain ⟨x3, hx4, hm5⟩ := bd_some hm; clear hm
  refine WD.q 4 rfl (by kernel_rfl) rfl rfl rfl (QV.call en108 (EvAll.cons rfl rfl (EvAll.cons rfl rfl EvAll.nil)) (fun w hw => have h := cmp_Compare_int__w w hx4 ; h)) ?_
  refine WD.q 5 rfl (by kernel_rfl) rfl rfl rfl (QV.fieldAddr fd61_1 rfl rfl) ?_
  refine WD.q 6 rfl (by kernel_rfl) rfl rfl rfl (QV.load pl3 rfl rfl (Own.cell 2 rfl rfl)) ?_
  refine WD.q 7 rfl (by kernel_rfl) rfl rfl rfl (QV.fieldAddr fd61_1 rfl rfl) ?_
  refine WD.q 8 rfl (by kernel_rfl) rfl rfl rfl (QV.load pl3 rfl rfl (Own.cell 1 rfl rfl)) ?_
  obtain ⟨x6, hx7, hm8⟩ := bd_some hm5; clear hm5
  refine WD.q 9 rfl (by kernel_rfl) rfl rfl rfl (QV.call en108 (EvAll.cons rfl rfl (EvAll.cons rfl rfl EvAll.nil)) (fun w hw => have h := cmp_Compare_int__w w hx7 ; h)) ?_
  refine WD.q 10 rfl (by kernel_rfl) rfl rfl rfl (QV.fieldAddr fd61_2 rfl rfl) ?_
  refine WD.q 11 rfl (by kernel_rfl) rfl rfl rfl (QV.load pl3 rfl rfl (Own.cell 2 rfl rfl)) ?_
  refine WD.q 12 rfl (by kernel_rfl) rfl rfl rfl (QV.fieldAddr fd61_2 rfl rfl) ?_
  refine WD.q 13 rfl (by kernel_rfl) rfl rfl rfl (QV.load pl3 rfl rfl (Own.cell 1 rfl rfl)) ?_
  obtain ⟨x9, hx10, hm11⟩ := bd_some hm8; clear hm8
  refine WD.q 14 rfl (by kernel_rfl) rfl rfl rfl (QV.call en108 (EvAll.cons rfl rfl (EvAll.cons rfl rfl EvAll.nil)) (fun w hw => have h := cmp_Compare_int__w w hx10 ; h)) ?_
  refine WD.q 15 rfl (by kernel_rfl) rfl rfl rfl (QV.fieldAddr fd61_3 rfl rfl) ?_
  refine WD.q 16 rfl (by kernel_rfl) rfl rfl rfl (QV.load pl3 rfl rfl (Own.cell 2 rfl rfl)) ?_
  refine WD.q 17 rfl (by kernel_rfl) rfl rfl rfl (QV.fieldAddr fd61_3 rfl rfl) ?_
  refine WD.q 18 rfl (by kernel_rfl) rfl rfl rfl (QV.load pl3 rfl rfl (Own.cell 1 rfl rfl)) ?_
  obtain ⟨x12, hx13, hm14⟩ := bd_some hm11; clear hm11
  refine WD.q 19 rfl (by kernel_rfl) rfl rfl rfl (QV.call en108 (EvAll.cons rfl rfl (EvAll.cons rfl rfl EvAll.nil)) (fun w hw => have h := cmp_Compare_int__w w hx13 ; h)) ?_
  refine WD.o 20 rfl (by kernel_rfl) rfl ?_
  refine (EV.buildSlice (by decide) sz_30 (by decide) (by decide) (ps := [(0, .tmp 9), (1, .tmp 14), (2, .tmp 19), (3, .tmp 24)]) (cells := [.int .i64 x3, .int .i64 x6, .int .i64 x9, .int .i64 x12]) (EvAll.cons rfl rfl (EvAll.cons rfl rfl (EvAll.cons rfl rfl (EvAll.cons rfl rfl EvAll.nil)))) (by kernel_rfl) (fun b15 => ?_))
  refine WD.b (H' := [kn noM w.heap.size w w, blk b15 [.int .i64 x3, .int .i64 x6, .int .i64 x9, .int .i64 x12] 3, blk b2 [.int .i64 b.fr, .int .i64 b.to, .int .i64 b.bk, .int .i64 b.wt] 61, blk b1 [.int .i64 a.fr, .int .i64 a.to, .int .i64 a.bk, .int .i64 a.wt] 61]) (fun w hw => hw.pick [3, 0, 1, 2] (by decide)) (fun w hw => hw.pick [0, 2, 3] (by decide)) ?_
  obtain ⟨x16, hx17, hm18⟩ := bd_some hm14; clear hm14
  refine WD.q 21 rfl (by kernel_rfl) rfl rfl rfl (QV.call en107 (EvAll.cons rfl rfl EvAll.nil) (fun w hw => have h := cmp_Or_int__w w hx17 ((Own.blkArr 1 (rows := [x3, x6, x9, x12].map icell) rfl rfl (rows_len icell_len)) w hw); h)) ?_
  refine WD.q 22 rfl (by kernel_rfl) rfl rfl rfl (QV.assign rfl rfl) ?_
  refine WD.e (by kernel_rfl) ?_
  refine WQ.then ?_
  refine WC.ret ?_
  obtain rfl := (eq_of_some hm18).symm
  refine WQ.ret1 rfl rfl (fun w hw => ?_)
  exact ⟨rfl, Own.kgrow (fun _ x => x) hw⟩
end Go.Proofs.Ytaimbkndebaaiab
end

section
namespace Go.Rd
open Go.RowKit Go.Sort Go.Shelf Go.Lib Go.Proofs
set_option linter.unusedVariables false
section
variable {α : Type} [Inhabited α] {enc : α → List Value} {k : Nat}
theorem flatK_list (hk : ∀ x, (enc x).length = k) (h0 : 0 < k) (xs : List α) : (flatK enc k xs.toArray).toList = (xs.map enc).flatten := by
  apply List.ext_getElem?
  intro j
  have hall : ∀ r ∈ xs.map enc, r.length = k := fun r hr => by obtain ⟨u, _, rfl⟩ := List.mem_map.1 hr; exact hk u
  have hfl := flatten_len hall
  rw [List.length_map] at hfl
  by_cases hj : j < xs.length * k
  · have hq : j / k < xs.length := Nat.div_lt_of_lt_mul (by rwa [Nat.mul_comm] at hj)
    have hmod : j % k < k := Nat.mod_lt _ h0
    have hd := drop_flatten (sz := k) (rows := xs.map enc) (i := j / k) (r := enc xs[j / k]) hall (by simp [hq])
    have e1 : (xs.map enc).flatten[j]? = (enc xs[j / k])[j % k]? := by
      have : (enc xs[j / k])[j % k]? = (((xs.map enc).flatten.drop (j / k * k)).take (enc xs[j / k]).length)[j % k]? := by rw [hd]
      rw [this, List.getElem?_take, hk, if_pos hmod, List.getElem?_drop, Nat.mul_comm, Nat.div_add_mod]
    have hlt : j % k < (enc xs[j / k]).length := by rw [hk]; exact hmod
    rw [e1, List.getElem?_eq_getElem hlt]
    simp [flatK, hj, hq, hlt]
  · rw [List.getElem?_eq_none (by rw [Array.length_toList, size_flatK, List.size_toArray]; omega), List.getElem?_eq_none (by rw [hfl]; omega)]
variable {M : Nat → Prop} {w w0 : World} {H : List Res} {E : TypeId} {b n cap : Nat} {xs ys : List α}
theorem vec_holdsK (hk : ∀ x, (enc x).length = k) (h0 : 0 < k) (h : (vec (.slice (some ⟨b, 0, none⟩) n cap) E k (xs.map enc)).holds w) : HoldsK enc k w b 0 xs.toArray ∧ n = xs.length ∧ b < w.heap.size := by
  obtain ⟨⟨h1, h2⟩, h3⟩ := h
  rcases h2 with ⟨h, _⟩ | ⟨g, cap', cur, hv, _, hh, hnc, _, hcs, ht⟩
  · cases h
  · simp only [Value.slice.injEq, Option.some.injEq, Addr.mk.injEq, List.length_map] at hv
    obtain ⟨⟨rfl, _⟩, rfl, rfl⟩ := hv
    refine ⟨fun j hj => ?_, rfl, (Array.getElem?_eq_some_iff.1 hh).1⟩
    rw [size_flatK, List.size_toArray] at hj
    rw [List.length_map] at hnc ht
    have hlt : j < cur.size := by rw [hcs]; exact Nat.lt_of_lt_of_le hj (Nat.mul_le_mul_right _ hnc)
    have hl := flatK_list hk h0 xs
    have hget : cur[j]? = some (id (flatK enc k xs.toArray)[j]!) := by
      have h1 : (flatK enc k xs.toArray)[j]? = some (flatK enc k xs.toArray)[j]! := by
        have : j < (flatK enc k xs.toArray).size := by simpa using hj
        rw [getElem!_pos (flatK enc k xs.toArray) j this, Array.getElem?_eq_getElem this]
      have h2 : (flatK enc k xs.toArray).toList[j]? = cur.toList[j]? := by
        rw [hl, ← ht, List.getElem?_take, if_pos hj]
      rw [Array.getElem?_toList, Array.getElem?_toList] at h2
      rw [← h2, h1]; rfl
    rw [Nat.zero_add]
    refine ⟨?_, by simp [World.frozen?, hh]⟩
    simp only [World.cell?, hh]
    exact hget
theorem sortedK_facts {m : Nat} {os : Array Obj} : ((sortWorldK enc k w b 0 m ys.toArray os).os = w.os ∧ (sortWorldK enc k w b 0 m ys.toArray os).tape = w.tape ∧ ((sortWorldK enc k w b 0 m ys.toArray os).output = w.output ∧ w.drawn ≤ (sortWorldK enc k w b 0 m ys.toArray os).drawn) ∧ w.heap.size ≤ (sortWorldK enc k w b 0 m ys.toArray os).heap.size) ∧
    (∀ j, j < w.heap.size → j ≠ b → (sortWorldK enc k w b 0 m ys.toArray os).heap[j]? = w.heap[j]?) ∧
    (∀ cur t, w.heap[b]? = some (.cells cur t (0, 0)) → (sortWorldK enc k w b 0 m ys.toArray os).heap[b]? = some (.cells (putCells id 0 (flatK enc k ys.toArray) cur) t (0, 0))) := by
  refine ⟨⟨rfl, rfl, ⟨rfl, Nat.le_add_right _ _⟩, ?_⟩, fun j hj hne => ?_, fun cur t hc => ?_⟩
  · show w.heap.size ≤ (w.heap.modify b _ ++ os).size
    simp
  · show (w.heap.modify b (onCells (putCells id 0 (flatK enc k ys.toArray))) ++ os)[j]? = _
    rw [Array.getElem?_append_left (by simpa using hj), Array.getElem?_modify, if_neg (Ne.symm hne)]
  · have hj := (Array.getElem?_eq_some_iff.1 hc).1
    show (w.heap.modify b (onCells (putCells id 0 (flatK enc k ys.toArray))) ++ os)[b]? = _
    rw [Array.getElem?_append_left (by simpa using hj), Array.getElem?_modify, if_pos rfl, hc]
    rfl
theorem vec_sorted (hk : ∀ x, (enc x).length = k) (h0 : 0 < k) (h : (vec (.slice (some ⟨b, 0, none⟩) n cap) E k (xs.map enc)).holds w) (hl : ys.length = xs.length) (m : Nat) (os : Array Obj) :
    (vec (.slice (some ⟨b, 0, none⟩) n cap) E k (ys.map enc)).holds (sortWorldK enc k w b 0 m ys.toArray os) := by
  obtain ⟨⟨h1, h2⟩, h3⟩ := h
  rcases h2 with ⟨h, _⟩ | ⟨g, cap', cur, hv, hg0, hh, hnc, hcm, hcs, ht⟩
  · cases h
  · simp only [Value.slice.injEq, Option.some.injEq, Addr.mk.injEq] at hv
    obtain ⟨⟨rfl, _⟩, rfl, rfl⟩ := hv
    have hall : ∀ r ∈ ys.map enc, r.length = k := fun r hr => by obtain ⟨u, _, rfl⟩ := List.mem_map.1 hr; exact hk u
    have hfl := flatten_len hall
    have hb := (sortedK_facts (enc := enc) (k := k) (w := w) (b := b) (ys := ys) (m := m) (os := os)).2.2 cur E hh
    have hlm : (ys.map enc).length = (xs.map enc).length := by simp [hl]
    refine ⟨⟨hfl, .inr ⟨b, cap, putCells id 0 (flatK enc k ys.toArray) cur, by rw [hlm], hg0, hb, by rw [hlm]; exact hnc, hcm, by simp [putCells, hcs], ?_⟩⟩, hall⟩
    rw [← flatK_list hk h0 ys]
    apply List.ext_getElem?
    intro j
    rw [List.getElem?_take]
    have hs : (flatK enc k ys.toArray).size = (ys.map enc).length * k := by simp
    by_cases hj : j < (ys.map enc).length * k
    · have hlt : j < cur.size := by rw [hcs]; rw [hlm] at hj; exact Nat.lt_of_lt_of_le hj (Nat.mul_le_mul_right _ hnc)
      have hjf : j < (flatK enc k ys.toArray).size := by rw [hs]; exact hj
      rw [if_pos hj, Array.getElem?_toList, Array.getElem?_toList]
      rw [Array.getElem?_eq_getElem hjf]
      have hj' : j < ys.length * k := by rw [List.length_map] at hj; exact hj
      simp [putCells, hlt, hj']
    · rw [if_neg hj, List.getElem?_eq_none (by rw [Array.length_toList, hs]; omega)]
theorem Own.sorted {K0 : World} (hb : Base M K0 w) (hk : ∀ x, (enc x).length = k) (h0 : 0 < k) (hw : Own M w [vec (.slice (some ⟨b, 0, none⟩) n cap) E k (xs.map enc)] w) (hl : ys.length = xs.length) (m : Nat) (os : Array Obj) :
    Own M w (kn M w.heap.size K0 K0 :: [vec (.slice (some ⟨b, 0, none⟩) n cap) E k (ys.map enc)]) (sortWorldK enc k w b 0 m ys.toArray os) := by
  have hs := Own.startK hb hw
  obtain ⟨⟨f1, f2, f3, f4⟩, f5, f6⟩ := sortedK_facts (enc := enc) (k := k) (w := w) (b := b) (ys := ys) (m := m) (os := os)
  refine hs.upd 1 rfl f1 f2 f3 f4 (fun j hj hn => f5 j hj fun e => hn (by subst e; exact ⟨_, _, rfl⟩)) (vec_sorted hk h0 hw.head hl m os) fun j hj => ?_
  refine ⟨.inl hj, ?_⟩
  obtain ⟨n2, c2, he⟩ := hj
  simp only [Value.slice.injEq, Option.some.injEq, Addr.mk.injEq] at he
  obtain ⟨⟨rfl, _⟩, _⟩ := he
  have := (vec_holdsK hk h0 hw.head).2.2
  omega
theorem grow_of {w w' : World} (h : Grow w w') : ∃ q os', w' = grow (w.drewN q) os' := by
  obtain ⟨h1, h2, ⟨h3, h4⟩, h5, h6⟩ := h
  refine ⟨w'.drawn - w.drawn, w'.heap.extract w.heap.size w'.heap.size, ?_⟩
  cases w'
  simp only [grow, World.drewN] at *
  subst h1 h2 h3
  congr 1
  · apply Array.ext_getElem?
    intro j
    by_cases hj : j < w.heap.size
    · rw [Array.getElem?_append_left hj]; exact h6 j hj
    · rw [Array.getElem?_append_right (by omega), Array.getElem?_extract]
      split
      · congr 1; omega
      · rw [Array.getElem?_eq_none (by omega)]
  · omega
end
end Go.Rd
end

section
namespace Go.Rd
open Go.Sort Go.Shelf Go.Lib Go.Proofs
set_option linter.unusedVariables false
theorem ord_swo : SWO (ltOf ordV) where
  irrefl x := by unfold ltOf; simp [ordV]
  trans x y z h1 h2 := by
    unfold ltOf at *
    simp only [decide_eq_true_eq, ordV_neg] at *
    omega
  ntrans x y z h1 h2 := by
    unfold ltOf at *
    simp only [decide_eq_false_iff_not, ordV_neg] at *
    omega
theorem ord_total (x y : Edg) (h1 : ltOf ordV x y = false) (h2 : ltOf ordV y x = false) : x = y := by
  unfold ltOf at *
  simp only [decide_eq_false_iff_not, ordV_neg] at *
  cases x; cases y
  simp only [Edg.mk.injEq] at *
  omega
end Go.Rd
end
