/- Texts that the law stands on: part 6. -/
import Derived.Test.YtaimbkndebaaiabZLboundTells5
import Derived.Test.YtaimbkndebaaiabProg
import Derived.KernelRfl
section
namespace Go.Proofs.Ytaimbkndebaaiab
open Go.Rd
set_option linter.unusedVariables false
set_option linter.unusedSimpArgs false
namespace TRDep
theorem ag24 : AggT Try.prog 24 7 := ⟨_, Try.underlying24, rfl, by kernel_rfl⟩
theorem ag49 : AggT Try.prog 49 3 := ⟨_, Try.underlying49, rfl, by kernel_rfl⟩
theorem ag59 : AggT Try.prog 59 9 := ⟨_, Try.underlying59, rfl, by kernel_rfl⟩
theorem ag61 : AggT Try.prog 61 4 := ⟨_, Try.underlying61, rfl, by kernel_rfl⟩
theorem en110 : Go.Rd.Enters Try.prog 110 := ⟨Try.f110, Try.func110, by kernel_rfl, by kernel_rfl⟩
theorem en111 : Go.Rd.Enters Try.prog 111 := ⟨Try.f111, Try.func111, by kernel_rfl, by kernel_rfl⟩
theorem en45 : Go.Rd.Enters Try.prog 45 := ⟨Try.f45, Try.func45, by kernel_rfl, by kernel_rfl⟩
theorem en49 : Go.Rd.Enters Try.prog 49 := ⟨Try.f49, Try.func49, by kernel_rfl, by kernel_rfl⟩
theorem en68 : Go.Rd.Enters Try.prog 68 := ⟨Try.f68, Try.func68, by kernel_rfl, by kernel_rfl⟩
theorem en69 : Go.Rd.Enters Try.prog 69 := ⟨Try.f69, Try.func69, by kernel_rfl, by kernel_rfl⟩
theorem en74 : Go.Rd.Enters Try.prog 74 := ⟨Try.f74, Try.func74, by kernel_rfl, by kernel_rfl⟩
theorem en75 : Go.Rd.Enters Try.prog 75 := ⟨Try.f75, Try.func75, by kernel_rfl, by kernel_rfl⟩
theorem en78 : Go.Rd.Enters Try.prog 78 := ⟨Try.f78, Try.func78, by kernel_rfl, by kernel_rfl⟩
theorem fd49_0 : FieldT Try.prog 49 0 0 := ⟨_, _, 0, Try.underlying49, rfl, rfl, by kernel_rfl⟩
theorem fd49_1 : FieldT Try.prog 49 1 1 := ⟨_, _, 0, Try.underlying49, rfl, rfl, by kernel_rfl⟩
theorem fd57_0 : FieldT Try.prog 57 0 0 := ⟨_, _, 0, Try.underlying57, rfl, rfl, by kernel_rfl⟩
theorem fd57_1 : FieldT Try.prog 57 1 1 := ⟨_, _, 0, Try.underlying57, rfl, rfl, by kernel_rfl⟩
theorem fd59_0 : FieldT Try.prog 59 0 0 := ⟨_, _, 0, Try.underlying59, rfl, rfl, by kernel_rfl⟩
theorem fd59_3 : FieldT Try.prog 59 3 5 := ⟨_, _, 0, Try.underlying59, rfl, rfl, by kernel_rfl⟩
theorem fd59_4 : FieldT Try.prog 59 4 6 := ⟨_, _, 0, Try.underlying59, rfl, rfl, by kernel_rfl⟩
theorem fd59_5 : FieldT Try.prog 59 5 7 := ⟨_, _, 0, Try.underlying59, rfl, rfl, by kernel_rfl⟩
theorem fd61_0 : FieldT Try.prog 61 0 0 := ⟨_, _, 0, Try.underlying61, rfl, rfl, by kernel_rfl⟩
theorem fd61_1 : FieldT Try.prog 61 1 1 := ⟨_, _, 0, Try.underlying61, rfl, rfl, by kernel_rfl⟩
theorem fd61_2 : FieldT Try.prog 61 2 2 := ⟨_, _, 0, Try.underlying61, rfl, rfl, by kernel_rfl⟩
theorem fd61_3 : FieldT Try.prog 61 3 3 := ⟨_, _, 0, Try.underlying61, rfl, rfl, by kernel_rfl⟩
theorem pl3 : Plain Try.prog 3 := ⟨_, Try.underlying3, rfl⟩
theorem pl30 : Plain Try.prog 30 := ⟨_, Try.underlying30, rfl⟩
theorem pl47 : Plain Try.prog 47 := ⟨_, Try.underlying47, rfl⟩
theorem sl106 : SliceT Try.prog 106 57 2 := ⟨Try.underlying106, by kernel_rfl⟩
theorem sl30 : SliceT Try.prog 30 3 1 := ⟨Try.underlying30, by kernel_rfl⟩
theorem sl47 : SliceT Try.prog 47 59 9 := ⟨Try.underlying47, by kernel_rfl⟩
theorem sz59 : SizeT Try.prog 59 9 := by unfold SizeT; kernel_rfl
theorem sz61 : SizeT Try.prog 61 4 := by unfold SizeT; kernel_rfl
theorem sz_50 : SliceZ Try.prog 50 61 4 [.int .i64 0, .int .i64 0, .int .i64 0, .int .i64 0] := ⟨Try.underlying50, by kernel_rfl⟩
theorem ve50 : VecT Try.prog 50 61 4 32 := ⟨Try.underlying50, by kernel_rfl, by decide⟩
theorem ze59 : ZeroT Try.prog 59 [.int .i64 0, .int .i64 0, .int .i64 0, .int .i64 0, .int .i64 0, .int .i64 0, .int .i64 0, .int .i64 0, .int .i64 0] := by unfold ZeroT; kernel_rfl
theorem ze61 : ZeroT Try.prog 61 [.int .i64 0, .int .i64 0, .int .i64 0, .int .i64 0] := by unfold ZeroT; kernel_rfl
end TRDep
open TRDep
set_option maxRecDepth 8000 in
theorem roundelayref6_Meets_w {a : Stm} {b : Stm} {back : Int} {size : Int} {r : Bool} (w : World) (hm : roundelayref6_Meets_m a b back size = some r)  : Calls Try.prog 111 #[.agg #[.int .i64 a.op, .int .i64 a.a.st, .int .i64 a.a.bk, .int .i64 a.b.st, .int .i64 a.b.bk, .int .i64 a.ar, .int .i64 a.sp, .int .i64 a.pl, .int .i64 a.n], .agg #[.int .i64 b.op, .int .i64 b.a.st, .int .i64 b.a.bk, .int .i64 b.b.st, .int .i64 b.b.bk, .int .i64 b.ar, .int .i64 b.sp, .int .i64 b.pl, .int .i64 b.n], .int .i64 back, .int .i64 size] w (fun e w' => e = .returned (.bool r) ∧ Grow w w') := by
  unfold roundelayref6_Meets_m at hm
  have hk := Base.rfl (w := w)
  refine calls_of_WC (n := 40) (args := [.agg #[.int .i64 a.op, .int .i64 a.a.st, .int .i64 a.a.bk, .int .i64 a.b.st, .int .i64 a.b.bk, .int .i64 a.ar, .int .i64 a.sp, .int .i64 a.pl, .int .i64 a.n], .agg #[.int .i64 b.op, .int .i64 b.a.st, .int .i64 b.a.bk, .int .i64 b.b.st, .int .i64 b.b.bk, .int .i64 b.ar, .int .i64 b.sp, .int .i64 b.pl, .int .i64 b.n], .int .i64 back, .int .i64 size]) Try.func111 rfl rfl (Nat.le_of_ble_eq_true rfl) ?_ (Own.startK hk (Own.start w))
  refine WC.seq ?_
  refine WC.region ?_
  refine WL.effect rfl ?_
  refine (EV.boxAgg (by decide) rfl rfl (fun b1 => ?_))
  refine WL.effect rfl ?_
  refine (EV.boxAgg (by decide) rfl rfl (fun b2 => ?_))
  refine WL.q rfl rfl rfl (QV.assign rfl rfl) ?_
  refine WL.nil ?_
  refine WQ.then ?_
  refine WC.seq ?_
  refine WC.seq ?_
  refine WC.region ?_
  refine WL.q rfl rfl rfl (QV.assign rfl rfl) ?_
  refine WL.nil ?_
  refine WQ.then ?_
  obtain ⟨o3, ho4, hm5⟩ := bd_some hm; clear hm; obtain ⟨n6, ho7⟩ := lp_some ho4
  refine WC.bloop1 (H2 := [blk b2 [.int .i64 b.op, .int .i64 b.a.st, .int .i64 b.a.bk, .int .i64 b.b.st, .int .i64 b.b.bk, .int .i64 b.ar, .int .i64 b.sp, .int .i64 b.pl, .int .i64 b.n] 59, blk b1 [.int .i64 a.op, .int .i64 a.a.st, .int .i64 a.a.bk, .int .i64 a.b.st, .int .i64 a.b.bk, .int .i64 a.ar, .int .i64 a.sp, .int .i64 a.pl, .int .i64 a.n] 59, kn noM w.heap.size w w]) (τ := [(2, (true, _)), (3, (true, _)), (4, (true, _)), (5, (true, _))]) (fun (turn9_1 : Int) => [(9, (true, .int .i64 turn9_1))]) (fun (turn9_1 : Int) => []) (fun (turn9_1 : Int) (m : Nat) => iter (roundelayref6_Meets_L0 a b back size) m turn9_1 = some o3) (fun (turn9_1 : Int) => o3 = .go turn9_1) 0 n6 ho7 ⟨rfl, rfl, rfl, rfl, rfl, trivial⟩ (fun w hw => hw.pick [0, 1, 2] (by decide)) ?_ ?_
  · skip
    rintro turn9_1 rfl
    refine WQ.then ?_
    refine WC.seq ?_
    refine WC.region ?_
    refine WL.q rfl rfl rfl (QV.assign rfl rfl) ?_
    refine WL.nil ?_
    refine WQ.then ?_
    refine WC.ret ?_
    obtain rfl := (eq_of_some hm5).symm
    refine WQ.ret1 rfl rfl (fun w hw => ?_)
    exact ⟨rfl, Own.kgrow (fun _ x => x) hw⟩
  · skip
    rintro turn9_1 m8 hI9
    obtain ⟨m10, s11, rfl, hm12, hn13⟩ := iter_step hI9; clear hI9; unfold roundelayref6_Meets_L0 at hm12
    refine WC.seq ?_
    refine WC.seq ?_
    refine WC.region ?_
    refine WL.q rfl rfl rfl (QV.move rfl rfl) ?_
    refine WL.q rfl rfl rfl (QV.move rfl rfl) ?_
    refine WL.q rfl rfl rfl (QV.lss rfl rfl rfl rfl) ?_
    refine WL.nil ?_
    refine WQ.then ?_
    refine WC.cond rfl (fun h14 => ?_) (fun h14 => ?_)
    · skip
      have hm15 := br_t h14 hm12; clear hm12
      refine WC.skip ?_
      refine WQ.then ?_
      refine WC.seq ?_
      refine WC.block ?_
      refine WC.seq ?_
      refine WC.region ?_
      refine WL.q rfl rfl rfl (QV.fieldAddr fd59_4 rfl rfl) ?_
      refine WL.q rfl rfl rfl (QV.load pl3 rfl rfl (Own.cell 1 rfl rfl)) ?_
      refine WL.q rfl rfl rfl (QV.move rfl rfl) ?_
      obtain ⟨c16, hm17⟩ := ck_some hm15; clear hm15
      refine WL.q rfl rfl rfl (QV.mul rfl rfl rfl rfl c16) ?_
      refine WL.q rfl rfl rfl (QV.fieldAddr fd59_5 rfl rfl) ?_
      refine WL.q rfl rfl rfl (QV.load pl3 rfl rfl (Own.cell 1 rfl rfl)) ?_
      obtain ⟨c18, hm19⟩ := ck_some hm17; clear hm17
      refine WL.q rfl rfl rfl (QV.add rfl rfl rfl rfl c18) ?_
      refine WL.q rfl rfl rfl (QV.move rfl rfl) ?_
      obtain ⟨x20, hx21, hm22⟩ := bd_some hm19; clear hm19
      refine WL.q rfl rfl rfl (QV.call en75 (EvAll.cons rfl rfl (EvAll.cons rfl rfl EvAll.nil)) (fun w hw => have h := roundelayref1_Rest_w w hx21 ; h)) ?_
      refine WL.q rfl rfl rfl (QV.assign rfl rfl) ?_
      refine WL.nil ?_
      refine WQ.then ?_
      refine WC.seq ?_
      refine WC.region ?_
      refine WL.q rfl rfl rfl (QV.fieldAddr fd59_4 rfl rfl) ?_
      refine WL.q rfl rfl rfl (QV.load pl3 rfl rfl (Own.cell 0 rfl rfl)) ?_
      refine WL.q rfl rfl rfl (QV.move rfl rfl) ?_
      refine WL.q rfl rfl rfl (QV.move rfl rfl) ?_
      obtain ⟨c23, hm24⟩ := ck_some hm22; clear hm22
      refine WL.q rfl rfl rfl (QV.add rfl rfl rfl rfl c23) ?_
      obtain ⟨c25, hm26⟩ := ck_some hm24; clear hm24
      refine WL.q rfl rfl rfl (QV.mul rfl rfl rfl rfl c25) ?_
      refine WL.q rfl rfl rfl (QV.fieldAddr fd59_5 rfl rfl) ?_
      refine WL.q rfl rfl rfl (QV.load pl3 rfl rfl (Own.cell 0 rfl rfl)) ?_
      obtain ⟨c27, hm28⟩ := ck_some hm26; clear hm26
      refine WL.q rfl rfl rfl (QV.add rfl rfl rfl rfl c27) ?_
      refine WL.q rfl rfl rfl (QV.move rfl rfl) ?_
      obtain ⟨x29, hx30, hm31⟩ := bd_some hm28; clear hm28
      refine WL.q rfl rfl rfl (QV.call en75 (EvAll.cons rfl rfl (EvAll.cons rfl rfl EvAll.nil)) (fun w hw => have h := roundelayref1_Rest_w w hx30 ; h)) ?_
      refine WL.q rfl rfl rfl (QV.assign rfl rfl) ?_
      refine WL.nil ?_
      refine WQ.then ?_
      refine WC.seq ?_
      refine WC.region ?_
      refine WL.q rfl rfl rfl (QV.move rfl rfl) ?_
      refine WL.q rfl rfl rfl (QV.move rfl rfl) ?_
      refine WL.q rfl rfl rfl (QV.eql rfl rfl rfl rfl) ?_
      refine WL.nil ?_
      refine WQ.then ?_
      refine WC.cond rfl (fun h32 => ?_) (fun h32 => ?_)
      · skip
        have hm33 := br_t h32 hm31; clear hm31
        refine WC.seq ?_
        refine WC.region ?_
        refine WL.q rfl rfl rfl (QV.assign rfl rfl) ?_
        refine WL.nil ?_
        refine WQ.then ?_
        refine WC.ret ?_
        refine WQ.block_ret ?_
        refine WQ.then_ret ?_
        refine WQ.then_ret ?_
        refine WQ.block_ret ?_
        refine WQ.then_ret ?_
        refine WQ.then_ret ?_
        obtain rfl := up_ret hm33 hn13
        obtain rfl := (eq_of_some hm5).symm
        refine WQ.ret1 rfl rfl (fun w hw => ?_)
        exact ⟨rfl, Own.kgrow (fun _ x => x) hw⟩
      · skip
        have hm34 := br_f h32 hm31; clear hm31
        refine WC.skip ?_
        refine WQ.block ?_
        refine WQ.then ?_
        refine WC.region ?_
        refine WL.q rfl rfl rfl (QV.move rfl rfl) ?_
        obtain ⟨c35, hm36⟩ := ck_some hm34; clear hm34
        refine WL.q rfl rfl rfl (QV.add rfl rfl rfl rfl c35) ?_
        refine WL.q rfl rfl rfl (QV.assign rfl rfl) ?_
        refine WL.nil ?_
        exact WQ.again1 (turn9_1 + 1) m10 (up_next hm36 hn13) (Nat.lt_succ_self _) ⟨rfl, rfl, rfl, rfl, rfl, trivial⟩ (fun w hw => hw.pick [0, 1, 2] (by decide))
    · skip
      have hm37 := br_f h14 hm12; clear hm12
      refine WC.exit ?_
      refine WQ.then_exit ?_
      refine WQ.then_exit ?_
      refine WQ.block_exit ?_
      exact WQ.out1 turn9_1 (up_brk hm37 hn13) ⟨rfl, rfl, rfl, rfl, rfl, trivial⟩ (fun w hw => hw.pick [0, 1, 2] (by decide))

set_option maxRecDepth 8000 in
theorem roundelayref6_Memory_w {a : Stm} {b : Stm} {r : Bool} (w : World) (hm : roundelayref6_Memory_m a b = some r)  : Calls Try.prog 110 #[.agg #[.int .i64 a.op, .int .i64 a.a.st, .int .i64 a.a.bk, .int .i64 a.b.st, .int .i64 a.b.bk, .int .i64 a.ar, .int .i64 a.sp, .int .i64 a.pl, .int .i64 a.n], .agg #[.int .i64 b.op, .int .i64 b.a.st, .int .i64 b.a.bk, .int .i64 b.b.st, .int .i64 b.b.bk, .int .i64 b.ar, .int .i64 b.sp, .int .i64 b.pl, .int .i64 b.n]] w (fun e w' => e = .returned (.bool r) ∧ Grow w w') := by
  unfold roundelayref6_Memory_m at hm
  have hk := Base.rfl (w := w)
  refine calls_of_WC (n := 44) (args := [.agg #[.int .i64 a.op, .int .i64 a.a.st, .int .i64 a.a.bk, .int .i64 a.b.st, .int .i64 a.b.bk, .int .i64 a.ar, .int .i64 a.sp, .int .i64 a.pl, .int .i64 a.n], .agg #[.int .i64 b.op, .int .i64 b.a.st, .int .i64 b.a.bk, .int .i64 b.b.st, .int .i64 b.b.bk, .int .i64 b.ar, .int .i64 b.sp, .int .i64 b.pl, .int .i64 b.n]]) Try.func110 rfl rfl (Nat.le_of_ble_eq_true rfl) ?_ (Own.startK hk (Own.start w))
  refine WC.seq ?_
  refine WC.region ?_
  refine WL.effect rfl ?_
  refine (EV.boxAgg (by decide) rfl rfl (fun b1 => ?_))
  refine WL.effect rfl ?_
  refine (EV.boxAgg (by decide) rfl rfl (fun b2 => ?_))
  refine WL.q rfl rfl rfl (QV.assign rfl rfl) ?_
  refine WL.nil ?_
  refine WQ.then ?_
  refine WC.seq ?_
  refine WC.region ?_
  refine WL.q rfl rfl rfl (QV.fieldAddr fd59_0 rfl rfl) ?_
  refine WL.q rfl rfl rfl (QV.load pl3 rfl rfl (Own.cell 1 rfl rfl)) ?_
  refine WL.q rfl rfl rfl (QV.eql rfl rfl rfl rfl) ?_
  refine WL.q rfl rfl rfl (QV.move rfl rfl) ?_
  refine WL.g rfl rfl (GuardIs.neg rfl rfl) (fun hG => QV.fieldAddr fd59_0 rfl rfl) ?_
  refine WL.g rfl rfl (GuardIs.neg rfl rfl) (fun hG => QV.load pl3 rfl hG (Own.cell 1 rfl rfl)) ?_
  refine WL.g rfl rfl (GuardIs.neg rfl rfl) (fun hG => QV.eql rfl hG rfl rfl) ?_
  refine WL.q rfl rfl rfl (QV.pickOr rfl rfl rfl (fun h => notF h)) ?_
  refine WL.q rfl rfl rfl (QV.assign rfl rfl) ?_
  refine WL.nil ?_
  refine WQ.then ?_
  refine WC.seq ?_
  refine WC.region ?_
  refine WL.q rfl rfl rfl (QV.fieldAddr fd59_0 rfl rfl) ?_
  refine WL.q rfl rfl rfl (QV.load pl3 rfl rfl (Own.cell 0 rfl rfl)) ?_
  refine WL.q rfl rfl rfl (QV.eql rfl rfl rfl rfl) ?_
  refine WL.q rfl rfl rfl (QV.move rfl rfl) ?_
  refine WL.g rfl rfl (GuardIs.neg rfl rfl) (fun hG => QV.fieldAddr fd59_0 rfl rfl) ?_
  refine WL.g rfl rfl (GuardIs.neg rfl rfl) (fun hG => QV.load pl3 rfl hG (Own.cell 0 rfl rfl)) ?_
  refine WL.g rfl rfl (GuardIs.neg rfl rfl) (fun hG => QV.eql rfl hG rfl rfl) ?_
  refine WL.q rfl rfl rfl (QV.pickOr rfl rfl rfl (fun h => notF h)) ?_
  refine WL.q rfl rfl rfl (QV.assign rfl rfl) ?_
  refine WL.nil ?_
  refine WQ.then ?_
  refine WC.seq ?_
  refine WC.region ?_
  refine WL.q rfl rfl rfl (QV.move rfl rfl) ?_
  refine WL.q rfl rfl rfl (QV.move rfl rfl) ?_
  refine WL.g rfl rfl (GuardIs.pos rfl rfl) (fun hG => QV.move rfl rfl) ?_
  refine WL.q rfl rfl rfl (QV.pickAnd rfl rfl rfl (fun h => h)) ?_
  refine WL.q rfl rfl rfl (QV.move rfl rfl) ?_
  refine WL.g rfl rfl (GuardIs.pos rfl rfl) (fun hG => QV.fieldAddr fd59_3 rfl rfl) ?_
  refine WL.g rfl rfl (GuardIs.pos rfl rfl) (fun hG => QV.load pl3 rfl hG (Own.cell 1 rfl rfl)) ?_
  refine WL.g rfl rfl (GuardIs.pos rfl rfl) (fun hG => QV.fieldAddr fd59_3 rfl rfl) ?_
  refine WL.g rfl rfl (GuardIs.pos rfl rfl) (fun hG => QV.load pl3 rfl hG (Own.cell 0 rfl rfl)) ?_
  refine WL.g rfl rfl (GuardIs.pos rfl rfl) (fun hG => QV.eql rfl hG rfl hG) ?_
  refine WL.q rfl rfl rfl (QV.pickAnd rfl rfl rfl (fun h => h)) ?_
  refine WL.q rfl rfl rfl (QV.move rfl rfl) ?_
  refine WL.g rfl rfl (GuardIs.pos rfl rfl) (fun hG => QV.fieldAddr fd59_0 rfl rfl) ?_
  refine WL.g rfl rfl (GuardIs.pos rfl rfl) (fun hG => QV.load pl3 rfl hG (Own.cell 1 rfl rfl)) ?_
  refine WL.g rfl rfl (GuardIs.pos rfl rfl) (fun hG => QV.eql rfl hG rfl rfl) ?_
  refine WL.g rfl rfl (GuardIs.pos rfl rfl) (fun hG => QV.move rfl hG) ?_
  refine WL.g rfl rfl (GuardIs.negC rfl rfl) (fun hG => QV.fieldAddr fd59_0 rfl rfl) ?_
  refine WL.g rfl rfl (GuardIs.negC rfl rfl) (fun hG => QV.load pl3 rfl hG (Own.cell 0 rfl rfl)) ?_
  refine WL.g rfl rfl (GuardIs.negC rfl rfl) (fun hG => QV.eql rfl hG rfl rfl) ?_
  refine WL.g rfl rfl (GuardIs.pos rfl rfl) (fun hG => QV.pickOr rfl hG rfl (fun h => andN hG h)) ?_
  refine WL.q rfl rfl rfl (QV.pickAnd rfl rfl rfl (fun h => h)) ?_
  refine WL.q rfl rfl rfl (QV.assign rfl rfl) ?_
  refine WL.nil ?_
  refine WQ.then ?_
  refine WC.ret ?_
  obtain rfl := (eq_of_some hm).symm
  refine WQ.ret1 rfl rfl (fun w hw => ?_)
  exact ⟨rfl, Own.kgrow (fun _ x => x) hw⟩

set_option maxRecDepth 8000 in
theorem roundelayref6_is_w {v_l_logs : Value} {v_l_body : Value} {v_l_outs : Value} {l : Lp} {t : Tgt} {e_ : Edg} {r : Bool} (w : World) (hm : roundelayref6_is_m l t e_ = some r) (h_l_logs : Arr w v_l_logs 1 (l.logs.map icell)) (h_l_body : Arr w v_l_body 9 (l.body.map Stm.cells)) (h_l_outs : Arr w v_l_outs 1 (l.outs.map icell)) : Calls Try.prog 69 #[.agg #[v_l_logs, v_l_body, v_l_outs], .agg #[.int .i64 t.u0, .int .i64 t.u1, .int .i64 t.u2, .int .i64 t.w0, .int .i64 t.w1, .int .i64 t.w2, .int .i64 t.regs], .agg #[.int .i64 e_.fr, .int .i64 e_.to, .int .i64 e_.bk, .int .i64 e_.wt]] w (fun e w' => e = .returned (.bool r) ∧ Grow w w') := by
  unfold roundelayref6_is_m at hm
  have hk := Base.rfl (w := w)
  refine calls_of_WC (n := 128) (args := [.agg #[v_l_logs, v_l_body, v_l_outs], .agg #[.int .i64 t.u0, .int .i64 t.u1, .int .i64 t.u2, .int .i64 t.w0, .int .i64 t.w1, .int .i64 t.w2, .int .i64 t.regs], .agg #[.int .i64 e_.fr, .int .i64 e_.to, .int .i64 e_.bk, .int .i64 e_.wt]]) Try.func69 rfl rfl (Nat.le_of_ble_eq_true rfl) ?_ (Own.startK hk (Own.start w))
  refine WC.seq ?_
  refine WC.region ?_
  refine WL.effect rfl ?_
  refine (EV.boxAgg (by decide) rfl rfl (fun b1 => ?_))
  refine WL.effect rfl ?_
  refine (EV.boxAgg (by decide) rfl rfl (fun b2 => ?_))
  refine WL.effect rfl ?_
  refine (EV.boxAgg (by decide) rfl rfl (fun b3 => ?_))
  refine WL.q rfl rfl rfl (QV.assign rfl rfl) ?_
  refine WL.nil ?_
  refine WQ.then ?_
  refine WC.seq ?_
  refine WC.region ?_
  refine WL.q rfl rfl rfl (QV.fieldAddr fd49_1 rfl rfl) ?_
  refine WL.q rfl rfl rfl (QV.load pl47 rfl rfl (Own.cell 2 rfl rfl)) ?_
  refine WL.q rfl rfl rfl (QV.fieldAddr fd61_1 rfl rfl) ?_
  refine WL.q rfl rfl rfl (QV.load pl3 rfl rfl (Own.cell 0 rfl rfl)) ?_
  obtain ⟨c4, hm5⟩ := ck_some hm; clear hm
  obtain ⟨p6, hp7⟩ := h_l_body.lenMap.ix (sz := 9) ln_len c4
  refine WL.q rfl rfl rfl (QV.indexSlice sl47 rfl rfl rfl rfl hp7) ?_
  refine WL.q rfl rfl rfl (QV.loadAgg ag59 rfl rfl rfl (fun w hw => ((Own.karr 3 rfl hk h_l_body) w hw).ele hp7 c4)) ?_
  refine WL.effect rfl ?_
  obtain ⟨x8, hx9, hm10⟩ := bd_some hm5; clear hm5
  refine EV.of (C' := Own noM w [kn noM w.heap.size w w, blk b3 [.int .i64 e_.fr, .int .i64 e_.to, .int .i64 e_.bk, .int .i64 e_.wt] 61, blk b2 [.int .i64 t.u0, .int .i64 t.u1, .int .i64 t.u2, .int .i64 t.w0, .int .i64 t.w1, .int .i64 t.w2, .int .i64 t.regs] 24, blk b1 [v_l_logs, v_l_body, v_l_outs] 49]) (fun w hw => hw.pick [3, 0, 1, 2] (by decide)) ?_
  refine (EV.callR (X := Value × World) (R := []) (fun X => X.1) (fun X => []) (fun X => X.2) (fun X => Arr X.2 X.1 2 (x8.map Rf.cells)) hk (fun _ h => by cases h; decide) en74 (EvAll.cons rfl rfl EvAll.nil) (fun M w h1 h2 => have h := roundelayref2_Uses_w hx9  M w h1 h2; h) (fun X11 hF11 hle11 => ?_))
  refine WL.q rfl rfl rfl (QV.assign rfl rfl) ?_
  refine WL.nil ?_
  refine WQ.then ?_
  refine WC.seq ?_
  refine WC.seq ?_
  refine WC.region ?_
  refine WL.q rfl rfl rfl (QV.assign rfl rfl) ?_
  refine WL.nil ?_
  refine WQ.then ?_
  obtain ⟨o12, ho13, hm14⟩ := bd_some hm10; clear hm10; obtain ⟨n15, ho16⟩ := lp_some ho13
  refine WC.bloop1 (H2 := [kn noM w.heap.size w X11.2, blk b3 [.int .i64 e_.fr, .int .i64 e_.to, .int .i64 e_.bk, .int .i64 e_.wt] 61, blk b2 [.int .i64 t.u0, .int .i64 t.u1, .int .i64 t.u2, .int .i64 t.w0, .int .i64 t.w1, .int .i64 t.w2, .int .i64 t.regs] 24, blk b1 [v_l_logs, v_l_body, v_l_outs] 49]) (τ := [(3, (true, _)), (4, (true, _)), (5, (true, _)), (7, (true, _))]) (fun (i8_1 : Int) => [(8, (true, .int .i64 i8_1))]) (fun (i8_1 : Int) => []) (fun (i8_1 : Int) (m : Nat) => iter (roundelayref6_is_L0 l t e_ x8) m i8_1 = some o12) (fun (i8_1 : Int) => o12 = .go i8_1) 0 n15 ho16 ⟨rfl, rfl, rfl, rfl, rfl, trivial⟩ (fun w hw => hw.pick [0, 1, 2, 3] (by decide)) ?_ ?_
  · skip
    rintro i8_1 rfl
    refine WQ.then ?_
    refine WC.seq ?_
    refine WC.region ?_
    refine WL.q rfl rfl rfl (QV.fieldAddr fd49_1 rfl rfl) ?_
    refine WL.q rfl rfl rfl (QV.load pl47 rfl rfl (Own.cell 3 rfl rfl)) ?_
    refine WL.q rfl rfl rfl (QV.fieldAddr fd61_0 rfl rfl) ?_
    refine WL.q rfl rfl rfl (QV.load pl3 rfl rfl (Own.cell 1 rfl rfl)) ?_
    obtain ⟨c17, hm18⟩ := ck_some hm14; clear hm14
    obtain ⟨p19, hp20⟩ := (h_l_body.le hle11).lenMap.ix (sz := 9) ln_len c17
    refine WL.q rfl rfl rfl (QV.indexSlice sl47 rfl rfl rfl rfl hp20) ?_
    refine WL.q rfl rfl rfl (QV.loadAgg ag59 rfl rfl rfl (fun w hw => ((Own.karr 0 rfl hk (h_l_body.le hle11)) w hw).ele hp20 c17)) ?_
    refine WL.effect rfl ?_
    refine (EV.alloc (by decide) ze59 (fun b21 => ?_))
    refine WL.effect rfl ?_
    refine (EV.store 0 rfl rfl rfl rfl rfl rfl (vs := [.int .i64 ((ele l.body e_.fr).op), .int .i64 (((ele l.body e_.fr).a).st), .int .i64 (((ele l.body e_.fr).a).bk), .int .i64 (((ele l.body e_.fr).b).st), .int .i64 (((ele l.body e_.fr).b).bk), .int .i64 ((ele l.body e_.fr).ar), .int .i64 ((ele l.body e_.fr).sp), .int .i64 ((ele l.body e_.fr).pl), .int .i64 ((ele l.body e_.fr).n)]) (show Value.cells _ = List.toArray _ from rfl) sz59 (Nat.le_of_ble_eq_true rfl) (one_cons rfl (one_cons rfl (one_cons rfl (one_cons rfl (one_cons rfl (one_cons rfl (one_cons rfl (one_cons rfl (one_cons rfl one_nil))))))))) ?_)
    refine WL.nil ?_
    refine WQ.then ?_
    refine WC.seq ?_
    refine WC.region ?_
    refine WL.q rfl rfl rfl (QV.fieldAddr fd49_1 rfl rfl) ?_
    refine WL.q rfl rfl rfl (QV.load pl47 rfl rfl (Own.cell 4 rfl rfl)) ?_
    refine WL.q rfl rfl rfl (QV.fieldAddr fd61_1 rfl rfl) ?_
    refine WL.q rfl rfl rfl (QV.load pl3 rfl rfl (Own.cell 2 rfl rfl)) ?_
    obtain ⟨c22, hm23⟩ := ck_some hm18; clear hm18
    obtain ⟨p24, hp25⟩ := (h_l_body.le hle11).lenMap.ix (sz := 9) ln_len c22
    refine WL.q rfl rfl rfl (QV.indexSlice sl47 rfl rfl rfl rfl hp25) ?_
    refine WL.q rfl rfl rfl (QV.loadAgg ag59 rfl rfl rfl (fun w hw => ((Own.karr 1 rfl hk (h_l_body.le hle11)) w hw).ele hp25 c22)) ?_
    refine WL.effect rfl ?_
    refine (EV.alloc (by decide) ze59 (fun b26 => ?_))
    refine WL.effect rfl ?_
    refine (EV.store 0 rfl rfl rfl rfl rfl rfl (vs := [.int .i64 ((ele l.body e_.to).op), .int .i64 (((ele l.body e_.to).a).st), .int .i64 (((ele l.body e_.to).a).bk), .int .i64 (((ele l.body e_.to).b).st), .int .i64 (((ele l.body e_.to).b).bk), .int .i64 ((ele l.body e_.to).ar), .int .i64 ((ele l.body e_.to).sp), .int .i64 ((ele l.body e_.to).pl), .int .i64 ((ele l.body e_.to).n)]) (show Value.cells _ = List.toArray _ from rfl) sz59 (Nat.le_of_ble_eq_true rfl) (one_cons rfl (one_cons rfl (one_cons rfl (one_cons rfl (one_cons rfl (one_cons rfl (one_cons rfl (one_cons rfl (one_cons rfl one_nil))))))))) ?_)
    refine WL.nil ?_
    refine WQ.then ?_
    refine WC.seq ?_
    refine WC.region ?_
    refine WL.q rfl rfl rfl (QV.assign rfl rfl) ?_
    refine WL.nil ?_
    refine WQ.then ?_
    refine WC.seq ?_
    refine WC.seq ?_
    refine WC.region ?_
    refine WL.q rfl rfl rfl (QV.fieldAddr fd59_0 rfl rfl) ?_
    refine WL.q rfl rfl rfl (QV.load pl3 rfl rfl (Own.cell 1 rfl rfl)) ?_
    refine WL.q rfl rfl rfl (QV.eql rfl rfl rfl rfl) ?_
    refine WL.nil ?_
    refine WQ.then ?_
    obtain ⟨o27, hj28, hm29⟩ := bd_some hm23; clear hm23
    refine WC.joint1 (H2 := [blk b26 [.int .i64 ((ele l.body e_.to).op), .int .i64 (((ele l.body e_.to).a).st), .int .i64 (((ele l.body e_.to).a).bk), .int .i64 (((ele l.body e_.to).b).st), .int .i64 (((ele l.body e_.to).b).bk), .int .i64 ((ele l.body e_.to).ar), .int .i64 ((ele l.body e_.to).sp), .int .i64 ((ele l.body e_.to).pl), .int .i64 ((ele l.body e_.to).n)] 59, blk b21 [.int .i64 ((ele l.body e_.fr).op), .int .i64 (((ele l.body e_.fr).a).st), .int .i64 (((ele l.body e_.fr).a).bk), .int .i64 (((ele l.body e_.fr).b).st), .int .i64 (((ele l.body e_.fr).b).bk), .int .i64 ((ele l.body e_.fr).ar), .int .i64 ((ele l.body e_.fr).sp), .int .i64 ((ele l.body e_.fr).pl), .int .i64 ((ele l.body e_.fr).n)] 59, kn noM w.heap.size w X11.2, blk b3 [.int .i64 e_.fr, .int .i64 e_.to, .int .i64 e_.bk, .int .i64 e_.wt] 61, blk b2 [.int .i64 t.u0, .int .i64 t.u1, .int .i64 t.u2, .int .i64 t.w0, .int .i64 t.w1, .int .i64 t.w2, .int .i64 t.regs] 24, blk b1 [v_l_logs, v_l_body, v_l_outs] 49]) (τ := [(3, (true, _)), (5, (true, _)), (9, (true, _)), (10, (true, _))]) (fun (wait11_2 : Int) => [(11, (true, .int .i64 wait11_2))]) (fun (wait11_2 : Int) => []) (fun (wait11_2 : Int) => o27 = .go wait11_2) ⟨rfl, rfl, rfl, rfl, trivial⟩ (fun w hw => hw.pick [0, 1, 2, 3, 4, 5] (by decide)) ?_ ?_
    · skip
      rintro wait11_2 rfl
      refine WC.seq ?_
      refine WC.seq ?_
      refine WC.region ?_
      refine WL.q rfl rfl rfl (QV.loadAgg ag59 rfl rfl rfl (Own.cellsBlk 1 rfl)) ?_
      refine WL.q rfl rfl rfl (QV.loadAgg ag59 rfl rfl rfl (Own.cellsBlk 0 rfl)) ?_
      obtain ⟨x30, hx31, hm32⟩ := bd_some hm29; clear hm29
      refine WL.q rfl rfl rfl (QV.call en110 (EvAll.cons rfl rfl (EvAll.cons rfl rfl EvAll.nil)) (fun w hw => have h := roundelayref6_Memory_w w hx31 ; h)) ?_
      refine WL.q rfl rfl rfl (QV.not rfl rfl) ?_
      refine WL.q rfl rfl rfl (QV.move rfl rfl) ?_
      refine WL.g rfl rfl (GuardIs.neg rfl rfl) (fun hG => QV.fieldAddr fd61_3 rfl rfl) ?_
      refine WL.g rfl rfl (GuardIs.neg rfl rfl) (fun hG => QV.load pl3 rfl hG (Own.cell 3 rfl rfl)) ?_
      refine WL.g rfl rfl (GuardIs.neg rfl rfl) (fun hG => QV.move rfl rfl) ?_
      refine WL.g rfl rfl (GuardIs.neg rfl rfl) (fun hG => QV.neq rfl hG rfl hG) ?_
      refine WL.q rfl rfl rfl (QV.pickOr rfl rfl rfl (fun h => notF h)) ?_
      refine WL.nil ?_
      refine WQ.then ?_
      refine WC.cond rfl (fun h33 => ?_) (fun h33 => ?_)
      · skip
        have hm34 := br_t h33 hm32; clear hm32
        refine WC.seq ?_
        refine WC.region ?_
        refine WL.q rfl rfl rfl (QV.assign rfl rfl) ?_
        refine WL.nil ?_
        refine WQ.then ?_
        refine WC.ret ?_
        refine WQ.then_ret ?_
        obtain rfl := (eq_of_some hm34).symm
        refine WQ.ret1 rfl rfl (fun w hw => ?_)
        exact ⟨rfl, Own.kgrow (fun _ x => x) hw⟩
      · skip
        have hm35 := br_f h33 hm32; clear hm32
        refine WC.skip ?_
        refine WQ.then ?_
        refine WC.seq ?_
        refine WC.region ?_
        refine WL.q rfl rfl rfl (QV.fieldAddr fd49_0 rfl rfl) ?_
        refine WL.q rfl rfl rfl (QV.load pl30 rfl rfl (Own.cell 5 rfl rfl)) ?_
        refine WL.q rfl rfl rfl (QV.fieldAddr fd59_3 rfl rfl) ?_
        refine WL.q rfl rfl rfl (QV.load pl3 rfl rfl (Own.cell 1 rfl rfl)) ?_
        obtain ⟨c36, hm37⟩ := ck_some hm35; clear hm35
        obtain ⟨p38, hp39⟩ := (h_l_logs.le hle11).lenMap.ix (sz := 1) ln_len c36
        refine WL.q rfl rfl rfl (QV.indexSlice sl30 rfl rfl rfl rfl hp39) ?_
        refine WL.q rfl rfl rfl (QV.load pl3 rfl rfl (fun w hw => CellsAt.one 0 (((Own.karr 2 rfl hk (h_l_logs.le hle11)) w hw).ele hp39 c36) rfl)) ?_
        obtain ⟨x40, hx41, hm42⟩ := bd_some hm37; clear hm37
        refine WL.q rfl rfl rfl (QV.call en45 (EvAll.cons rfl rfl EvAll.nil) (fun w hw => have h := roundelayref1_Size_w w hx41 ; h)) ?_
        refine WL.q rfl rfl rfl (QV.assign rfl rfl) ?_
        refine WL.nil ?_
        refine WQ.then ?_
        refine WC.seq ?_
        refine WC.region ?_
        refine WL.q rfl rfl rfl (QV.assign rfl rfl) ?_
        refine WL.nil ?_
        refine WQ.then ?_
        refine WC.seq ?_
        refine WC.seq ?_
        refine WC.region ?_
        refine WL.q rfl rfl rfl (QV.fieldAddr fd61_0 rfl rfl) ?_
        refine WL.q rfl rfl rfl (QV.load pl3 rfl rfl (Own.cell 3 rfl rfl)) ?_
        refine WL.q rfl rfl rfl (QV.fieldAddr fd61_1 rfl rfl) ?_
        refine WL.q rfl rfl rfl (QV.load pl3 rfl rfl (Own.cell 3 rfl rfl)) ?_
        refine WL.q rfl rfl rfl (QV.geq rfl rfl rfl rfl) ?_
        refine WL.nil ?_
        refine WQ.then ?_
        obtain ⟨o43, hj44, hm45⟩ := bd_some hm42; clear hm42
        refine WC.joint1 (H2 := [blk b26 [.int .i64 ((ele l.body e_.to).op), .int .i64 (((ele l.body e_.to).a).st), .int .i64 (((ele l.body e_.to).a).bk), .int .i64 (((ele l.body e_.to).b).st), .int .i64 (((ele l.body e_.to).b).bk), .int .i64 ((ele l.body e_.to).ar), .int .i64 ((ele l.body e_.to).sp), .int .i64 ((ele l.body e_.to).pl), .int .i64 ((ele l.body e_.to).n)] 59, blk b21 [.int .i64 ((ele l.body e_.fr).op), .int .i64 (((ele l.body e_.fr).a).st), .int .i64 (((ele l.body e_.fr).a).bk), .int .i64 (((ele l.body e_.fr).b).st), .int .i64 (((ele l.body e_.fr).b).bk), .int .i64 ((ele l.body e_.fr).ar), .int .i64 ((ele l.body e_.fr).sp), .int .i64 ((ele l.body e_.fr).pl), .int .i64 ((ele l.body e_.fr).n)] 59, kn noM w.heap.size w X11.2, blk b3 [.int .i64 e_.fr, .int .i64 e_.to, .int .i64 e_.bk, .int .i64 e_.wt] 61, blk b2 [.int .i64 t.u0, .int .i64 t.u1, .int .i64 t.u2, .int .i64 t.w0, .int .i64 t.w1, .int .i64 t.w2, .int .i64 t.regs] 24, blk b1 [v_l_logs, v_l_body, v_l_outs] 49]) (τ := [(5, (true, _)), (9, (true, _)), (10, (true, _)), (12, (true, _))]) (fun (least13_3 : Int) => [(13, (true, .int .i64 least13_3))]) (fun (least13_3 : Int) => []) (fun (least13_3 : Int) => o43 = .go least13_3) ⟨rfl, rfl, rfl, rfl, trivial⟩ (fun w hw => hw.pick [0, 1, 2, 3, 4, 5] (by decide)) ?_ ?_
        · skip
          rintro least13_3 rfl
          refine WC.seq ?_
          refine WC.seq ?_
          refine WC.region ?_
          refine WL.q rfl rfl rfl (QV.fieldAddr fd61_2 rfl rfl) ?_
          refine WL.q rfl rfl rfl (QV.load pl3 rfl rfl (Own.cell 3 rfl rfl)) ?_
          refine WL.q rfl rfl rfl (QV.move rfl rfl) ?_
          refine WL.q rfl rfl rfl (QV.lss rfl rfl rfl rfl) ?_
          refine WL.q rfl rfl rfl (QV.move rfl rfl) ?_
          refine WL.g rfl rfl (GuardIs.neg rfl rfl) (fun hG => QV.fieldAddr fd61_2 rfl rfl) ?_
          refine WL.g rfl rfl (GuardIs.neg rfl rfl) (fun hG => QV.load pl3 rfl hG (Own.cell 3 rfl rfl)) ?_
          refine WL.g rfl rfl (GuardIs.neg rfl rfl) (fun hG => QV.move rfl rfl) ?_
          refine WL.g rfl rfl (GuardIs.neg rfl rfl) (fun hG => QV.gtr rfl hG rfl hG) ?_
          refine WL.q rfl rfl rfl (QV.pickOr rfl rfl rfl (fun h => notF h)) ?_
          refine WL.q rfl rfl rfl (QV.move rfl rfl) ?_
          refine WL.g rfl rfl (GuardIs.neg rfl rfl) (fun hG => QV.loadAgg ag59 rfl rfl rfl (Own.cellsBlk 1 rfl)) ?_
          refine WL.g rfl rfl (GuardIs.neg rfl rfl) (fun hG => QV.loadAgg ag59 rfl rfl rfl (Own.cellsBlk 0 rfl)) ?_
          refine WL.g rfl rfl (GuardIs.neg rfl rfl) (fun hG => QV.fieldAddr fd61_2 rfl rfl) ?_
          refine WL.g rfl rfl (GuardIs.neg rfl rfl) (fun hG => QV.load pl3 rfl hG (Own.cell 3 rfl rfl)) ?_
          refine WL.g rfl rfl (GuardIs.neg rfl rfl) (fun hG => QV.move rfl rfl) ?_
          obtain ⟨x46, hx47, hm48⟩ := bdG_some hm45; clear hm45
          refine WL.g rfl rfl (GuardIs.neg rfl rfl) (fun hG => QV.call en111 (EvAll.cons rfl hG (EvAll.cons rfl hG (EvAll.cons rfl hG (EvAll.cons rfl hG EvAll.nil)))) (fun w hw => have h := roundelayref6_Meets_w w (hx47 hG) ; h)) ?_
          refine WL.g rfl rfl (GuardIs.neg rfl rfl) (fun hG => QV.not rfl hG) ?_
          refine WL.q rfl rfl rfl (QV.pickOr rfl rfl rfl (fun h => notF h)) ?_
          refine WL.nil ?_
          refine WQ.then ?_
          refine WC.cond rfl (fun h49 => ?_) (fun h49 => ?_)
          · skip
            have hm50 := br_t h49 hm48; clear hm48
            refine WC.seq ?_
            refine WC.region ?_
            refine WL.q rfl rfl rfl (QV.assign rfl rfl) ?_
            refine WL.nil ?_
            refine WQ.then ?_
            refine WC.ret ?_
            refine WQ.then_ret ?_
            obtain rfl := (eq_of_some hm50).symm
            refine WQ.ret1 rfl rfl (fun w hw => ?_)
            exact ⟨rfl, Own.kgrow (fun _ x => x) hw⟩
          · skip
            have hm51 := br_f h49 hm48; clear hm48
            refine WC.skip ?_
            refine WQ.then ?_
            refine WC.seq ?_
            refine WC.seq ?_
            refine WC.region ?_
            refine WL.q rfl rfl rfl (QV.move rfl rfl) ?_
            refine WL.q rfl rfl rfl (QV.assign rfl rfl) ?_
            refine WL.nil ?_
            refine WQ.then ?_
            obtain ⟨o52, ho53, hm54⟩ := bd_some hm51; clear hm51; obtain ⟨n55, ho56⟩ := lp_some ho53
            refine WC.bloop1 (H2 := [blk b26 [.int .i64 ((ele l.body e_.to).op), .int .i64 (((ele l.body e_.to).a).st), .int .i64 (((ele l.body e_.to).a).bk), .int .i64 (((ele l.body e_.to).b).st), .int .i64 (((ele l.body e_.to).b).bk), .int .i64 ((ele l.body e_.to).ar), .int .i64 ((ele l.body e_.to).sp), .int .i64 ((ele l.body e_.to).pl), .int .i64 ((ele l.body e_.to).n)] 59, blk b21 [.int .i64 ((ele l.body e_.fr).op), .int .i64 (((ele l.body e_.fr).a).st), .int .i64 (((ele l.body e_.fr).a).bk), .int .i64 (((ele l.body e_.fr).b).st), .int .i64 (((ele l.body e_.fr).b).bk), .int .i64 ((ele l.body e_.fr).ar), .int .i64 ((ele l.body e_.fr).sp), .int .i64 ((ele l.body e_.fr).pl), .int .i64 ((ele l.body e_.fr).n)] 59, kn noM w.heap.size w X11.2, blk b3 [.int .i64 e_.fr, .int .i64 e_.to, .int .i64 e_.bk, .int .i64 e_.wt] 61, blk b2 [.int .i64 t.u0, .int .i64 t.u1, .int .i64 t.u2, .int .i64 t.w0, .int .i64 t.w1, .int .i64 t.w2, .int .i64 t.regs] 24, blk b1 [v_l_logs, v_l_body, v_l_outs] 49]) (τ := [(5, (true, _)), (9, (true, _)), (10, (true, _)), (12, (true, _))]) (fun (back14_4 : Int) => [(14, (true, .int .i64 back14_4))]) (fun (back14_4 : Int) => []) (fun (back14_4 : Int) (m : Nat) => iter (roundelayref6_is_L2 l e_ x40) m back14_4 = some o52) (fun (back14_4 : Int) => o52 = .go back14_4) least13_3 n55 ho56 ⟨rfl, rfl, rfl, rfl, rfl, trivial⟩ (fun w hw => hw.pick [0, 1, 2, 3, 4, 5] (by decide)) ?_ ?_
            · skip
              rintro back14_4 rfl
              refine WQ.then ?_
              refine WC.seq ?_
              refine WC.region ?_
              refine WL.q rfl rfl rfl (QV.assign rfl rfl) ?_
              refine WL.nil ?_
              refine WQ.then ?_
              refine WC.ret ?_
              obtain rfl := (eq_of_some hm54).symm
              refine WQ.ret1 rfl rfl (fun w hw => ?_)
              exact ⟨rfl, Own.kgrow (fun _ x => x) hw⟩
            · skip
              rintro back14_4 m57 hI58
              obtain ⟨m59, s60, rfl, hm61, hn62⟩ := iter_step hI58; clear hI58; unfold roundelayref6_is_L2 at hm61
              refine WC.seq ?_
              refine WC.seq ?_
              refine WC.region ?_
              refine WL.q rfl rfl rfl (QV.move rfl rfl) ?_
              refine WL.q rfl rfl rfl (QV.fieldAddr fd61_2 rfl rfl) ?_
              refine WL.q rfl rfl rfl (QV.load pl3 rfl rfl (Own.cell 3 rfl rfl)) ?_
              refine WL.q rfl rfl rfl (QV.lss rfl rfl rfl rfl) ?_
              refine WL.nil ?_
              refine WQ.then ?_
              refine WC.cond rfl (fun h63 => ?_) (fun h63 => ?_)
              · skip
                have hm64 := br_t h63 hm61; clear hm61
                refine WC.skip ?_
                refine WQ.then ?_
                refine WC.seq ?_
                refine WC.block ?_
                refine WC.seq ?_
                refine WC.region ?_
                refine WL.q rfl rfl rfl (QV.loadAgg ag59 rfl rfl rfl (Own.cellsBlk 1 rfl)) ?_
                refine WL.q rfl rfl rfl (QV.loadAgg ag59 rfl rfl rfl (Own.cellsBlk 0 rfl)) ?_
                refine WL.q rfl rfl rfl (QV.move rfl rfl) ?_
                refine WL.q rfl rfl rfl (QV.move rfl rfl) ?_
                obtain ⟨x65, hx66, hm67⟩ := bd_some hm64; clear hm64
                refine WL.q rfl rfl rfl (QV.call en111 (EvAll.cons rfl rfl (EvAll.cons rfl rfl (EvAll.cons rfl rfl (EvAll.cons rfl rfl EvAll.nil)))) (fun w hw => have h := roundelayref6_Meets_w w hx66 ; h)) ?_
                refine WL.nil ?_
                refine WQ.then ?_
                refine WC.cond rfl (fun h68 => ?_) (fun h68 => ?_)
                · skip
                  have hm69 := br_t h68 hm67; clear hm67
                  refine WC.seq ?_
                  refine WC.region ?_
                  refine WL.q rfl rfl rfl (QV.assign rfl rfl) ?_
                  refine WL.nil ?_
                  refine WQ.then ?_
                  refine WC.ret ?_
                  refine WQ.block_ret ?_
                  refine WQ.then_ret ?_
                  refine WQ.then_ret ?_
                  refine WQ.block_ret ?_
                  refine WQ.then_ret ?_
                  refine WQ.then_ret ?_
                  obtain rfl := up_ret hm69 hn62
                  obtain rfl := (eq_of_some hm54).symm
                  refine WQ.ret1 rfl rfl (fun w hw => ?_)
                  exact ⟨rfl, Own.kgrow (fun _ x => x) hw⟩
                · skip
                  have hm70 := br_f h68 hm67; clear hm67
                  refine WC.skip ?_
                  refine WQ.block ?_
                  refine WQ.then ?_
                  refine WC.region ?_
                  refine WL.q rfl rfl rfl (QV.move rfl rfl) ?_
                  obtain ⟨c71, hm72⟩ := ck_some hm70; clear hm70
                  refine WL.q rfl rfl rfl (QV.add rfl rfl rfl rfl c71) ?_
                  refine WL.q rfl rfl rfl (QV.assign rfl rfl) ?_
                  refine WL.nil ?_
                  exact WQ.again1 (back14_4 + 1) m59 (up_next hm72 hn62) (Nat.lt_succ_self _) ⟨rfl, rfl, rfl, rfl, rfl, trivial⟩ (fun w hw => hw.pick [0, 1, 2, 3, 4, 5] (by decide))
              · skip
                have hm73 := br_f h63 hm61; clear hm61
                refine WC.exit ?_
                refine WQ.then_exit ?_
                refine WQ.then_exit ?_
                refine WQ.block_exit ?_
                exact WQ.out1 back14_4 (up_brk hm73 hn62) ⟨rfl, rfl, rfl, rfl, rfl, trivial⟩ (fun w hw => hw.pick [0, 1, 2, 3, 4, 5] (by decide))
        · skip
          refine WC.cond rfl (fun h74 => ?_) (fun h74 => ?_)
          · skip
            have hm75 := br_t h74 hj44; clear hj44
            refine WC.region ?_
            refine WL.q rfl rfl rfl (QV.assign rfl rfl) ?_
            refine WL.nil ?_
            exact WQ.out1 1 (eq_of_some hm75) ⟨rfl, rfl, rfl, rfl, rfl, trivial⟩ (fun w hw => hw.pick [0, 1, 2, 3, 4, 5] (by decide))
          · skip
            have hm76 := br_f h74 hj44; clear hj44
            refine WC.skip ?_
            exact WQ.out1 0 (eq_of_some hm76) ⟨rfl, rfl, rfl, rfl, rfl, trivial⟩ (fun w hw => hw.pick [0, 1, 2, 3, 4, 5] (by decide))
    · skip
      refine WC.cond rfl (fun h77 => ?_) (fun h77 => ?_)
      · skip
        have hm78 := br_t h77 hj28; clear hj28
        refine WC.region ?_
        refine WL.q rfl rfl rfl (QV.assign rfl rfl) ?_
        refine WL.nil ?_
        exact WQ.out1 1 (eq_of_some hm78) ⟨rfl, rfl, rfl, rfl, rfl, trivial⟩ (fun w hw => hw.pick [0, 1, 2, 3, 4, 5] (by decide))
      · skip
        have hm79 := br_f h77 hj28; clear hj28
        refine WC.skip ?_
        exact WQ.out1 0 (eq_of_some hm79) ⟨rfl, rfl, rfl, rfl, rfl, trivial⟩ (fun w hw => hw.pick [0, 1, 2, 3, 4, 5] (by decide))
  · skip
    rintro i8_1 m80 hI81
    obtain ⟨m82, s83, rfl, hm84, hn85⟩ := iter_step hI81; clear hI81; unfold roundelayref6_is_L0 at hm84
    refine WC.seq ?_
    refine WC.seq ?_
    refine WC.region ?_
    refine WL.q rfl rfl rfl (QV.move rfl rfl) ?_
    refine WL.q rfl rfl rfl (QV.move rfl rfl) ?_
    refine WL.q rfl rfl rfl (QV.lenS Try.underlying106 rfl rfl hF11.lenMap) ?_
    refine WL.q rfl rfl rfl (QV.lss rfl rfl rfl rfl) ?_
    refine WL.nil ?_
    refine WQ.then ?_
    refine WC.cond rfl (fun h86 => ?_) (fun h86 => ?_)
    · skip
      have hm87 := br_t h86 hm84; clear hm84
      refine WC.skip ?_
      refine WQ.then ?_
      refine WC.seq ?_
      refine WC.block ?_
      refine WC.seq ?_
      refine WC.dr (m := 32) (by kernel_rfl) (by kernel_rfl) (fun w hw => hw) ?_
      refine WD.q 0 rfl (by kernel_rfl) rfl rfl rfl (QV.move rfl rfl) ?_
      refine WD.q 1 rfl (by kernel_rfl) rfl rfl rfl (QV.move rfl rfl) ?_
      obtain ⟨c88, hm89⟩ := ck_some hm87; clear hm87
      obtain ⟨p90, hp91⟩ := hF11.lenMap.ix (sz := 2) ln_len c88
      refine WD.q 2 rfl (by kernel_rfl) rfl rfl rfl (QV.indexSlice sl106 rfl rfl rfl rfl hp91) ?_
      refine WD.q 3 rfl (by kernel_rfl) rfl rfl rfl (QV.fieldAddr fd57_0 rfl rfl) ?_
      refine WD.q 4 rfl (by kernel_rfl) rfl rfl rfl (QV.load pl3 rfl rfl (fun w hw => CellsAt.one 0 (((Own.karr 0 rfl hk hF11) w hw).ele hp91 c88) rfl)) ?_
      refine WD.q 5 rfl (by kernel_rfl) rfl rfl rfl (QV.fieldAddr fd61_0 rfl rfl) ?_
      refine WD.q 6 rfl (by kernel_rfl) rfl rfl rfl (QV.load pl3 rfl rfl (Own.cell 1 rfl rfl)) ?_
      refine WD.q 7 rfl (by kernel_rfl) rfl rfl rfl (QV.eql rfl rfl rfl rfl) ?_
      refine WD.q 8 rfl (by kernel_rfl) rfl rfl rfl (QV.move rfl rfl) ?_
      refine WD.g 9 rfl (by kernel_rfl) rfl rfl (GuardIs.pos rfl rfl) (fun hG => QV.move rfl rfl) ?_
      refine WD.g 10 rfl (by kernel_rfl) rfl rfl (GuardIs.pos rfl rfl) (fun hG => QV.move rfl rfl) ?_
      obtain ⟨c92, hm93⟩ := ck_some hm89; clear hm89
      obtain ⟨p94, hp95⟩ := hF11.lenMap.ixG (sz := 2) ln_len c92
      refine WD.g 11 rfl (by kernel_rfl) rfl rfl (GuardIs.pos rfl rfl) (fun hG => QV.indexSlice sl106 rfl hG rfl hG (hp95 hG)) ?_
      refine WD.g 12 rfl (by kernel_rfl) rfl rfl (GuardIs.pos rfl rfl) (fun hG => QV.fieldAddr fd57_1 rfl hG) ?_
      refine WD.g 13 rfl (by kernel_rfl) rfl rfl (GuardIs.pos rfl rfl) (fun hG => QV.load pl3 rfl hG (fun w hw => CellsAt.one 1 (((Own.karr 0 rfl hk hF11) w hw).ele (hp95 hG) (c92 hG)) rfl)) ?_
      refine WD.g 14 rfl (by kernel_rfl) rfl rfl (GuardIs.pos rfl rfl) (fun hG => QV.fieldAddr fd61_2 rfl rfl) ?_
      refine WD.g 15 rfl (by kernel_rfl) rfl rfl (GuardIs.pos rfl rfl) (fun hG => QV.load pl3 rfl hG (Own.cell 1 rfl rfl)) ?_
      refine WD.g 16 rfl (by kernel_rfl) rfl rfl (GuardIs.pos rfl rfl) (fun hG => QV.eql rfl hG rfl hG) ?_
      refine WD.q 17 rfl (by kernel_rfl) rfl rfl rfl (QV.pickAnd rfl rfl rfl (fun h => h)) ?_
      refine WD.q 18 rfl (by kernel_rfl) rfl rfl rfl (QV.move rfl rfl) ?_
      refine WD.g 19 rfl (by kernel_rfl) rfl rfl (GuardIs.pos rfl rfl) (fun hG => QV.fieldAddr fd61_3 rfl rfl) ?_
      refine WD.g 20 rfl (by kernel_rfl) rfl rfl (GuardIs.pos rfl rfl) (fun hG => QV.load pl3 rfl hG (Own.cell 1 rfl rfl)) ?_
      refine WD.g 21 rfl (by kernel_rfl) rfl rfl (GuardIs.pos rfl rfl) (fun hG => QV.loadAgg ag24 rfl rfl rfl (Own.cellsBlk 2 rfl)) ?_
      refine WD.g 22 rfl (by kernel_rfl) rfl rfl (GuardIs.pos rfl rfl) (fun hG => QV.fieldAddr fd49_1 rfl rfl) ?_
      refine WD.g 23 rfl (by kernel_rfl) rfl rfl (GuardIs.pos rfl rfl) (fun hG => QV.load pl47 rfl hG (Own.cell 3 rfl rfl)) ?_
      refine WD.g 24 rfl (by kernel_rfl) rfl rfl (GuardIs.pos rfl rfl) (fun hG => QV.fieldAddr fd61_0 rfl rfl) ?_
      refine WD.g 25 rfl (by kernel_rfl) rfl rfl (GuardIs.pos rfl rfl) (fun hG => QV.load pl3 rfl hG (Own.cell 1 rfl rfl)) ?_
      obtain ⟨c96, hm97⟩ := ck_some hm93; clear hm93
      obtain ⟨p98, hp99⟩ := (h_l_body.le hle11).lenMap.ixG (sz := 9) ln_len c96
      refine WD.g 26 rfl (by kernel_rfl) rfl rfl (GuardIs.pos rfl rfl) (fun hG => QV.indexSlice sl47 rfl hG rfl hG (hp99 hG)) ?_
      refine WD.g 27 rfl (by kernel_rfl) rfl rfl (GuardIs.pos rfl rfl) (fun hG => QV.fieldAddr fd59_0 rfl hG) ?_
      refine WD.g 28 rfl (by kernel_rfl) rfl rfl (GuardIs.pos rfl rfl) (fun hG => QV.load pl3 rfl hG (fun w hw => CellsAt.one 0 (((Own.karr 0 rfl hk (h_l_body.le hle11)) w hw).ele (hp99 hG) (c96 hG)) rfl)) ?_
      obtain ⟨x100, hx101, hm102⟩ := bdG_some hm97; clear hm97
      refine WD.g 29 rfl (by kernel_rfl) rfl rfl (GuardIs.pos rfl rfl) (fun hG => QV.call en78 (EvAll.cons rfl hG (EvAll.cons rfl hG EvAll.nil)) (fun w hw => have h := roundelayref4_Wait_w w (hx101 hG) ; h)) ?_
      refine WD.g 30 rfl (by kernel_rfl) rfl rfl (GuardIs.pos rfl rfl) (fun hG => QV.eql rfl hG rfl hG) ?_
      refine WD.q 31 rfl (by kernel_rfl) rfl rfl rfl (QV.pickAnd rfl rfl rfl (fun h => h)) ?_
      refine WD.e (by kernel_rfl) ?_
      refine WQ.then ?_
      refine WC.cond rfl (fun h103 => ?_) (fun h103 => ?_)
      · skip
        have hm104 := br_t h103 hm102; clear hm102
        refine WC.seq ?_
        refine WC.region ?_
        refine WL.q rfl rfl rfl (QV.assign rfl rfl) ?_
        refine WL.nil ?_
        refine WQ.then ?_
        refine WC.ret ?_
        refine WQ.block_ret ?_
        refine WQ.then_ret ?_
        refine WQ.then_ret ?_
        refine WQ.block_ret ?_
        refine WQ.then_ret ?_
        refine WQ.then_ret ?_
        obtain rfl := up_ret hm104 hn85
        obtain rfl := (eq_of_some hm14).symm
        refine WQ.ret1 rfl rfl (fun w hw => ?_)
        exact ⟨rfl, Own.kgrow (fun _ x => x) hw⟩
      · skip
        have hm105 := br_f h103 hm102; clear hm102
        refine WC.skip ?_
        refine WQ.block ?_
        refine WQ.then ?_
        refine WC.region ?_
        refine WL.q rfl rfl rfl (QV.move rfl rfl) ?_
        obtain ⟨c106, hm107⟩ := ck_some hm105; clear hm105
        refine WL.q rfl rfl rfl (QV.add rfl rfl rfl rfl c106) ?_
        refine WL.q rfl rfl rfl (QV.assign rfl rfl) ?_
        refine WL.nil ?_
        exact WQ.again1 (i8_1 + 1) m82 (up_next hm107 hn85) (Nat.lt_succ_self _) ⟨rfl, rfl, rfl, rfl, rfl, trivial⟩ (fun w hw => hw.pick [0, 1, 2, 3] (by decide))
    · skip
      have hm108 := br_f h86 hm84; clear hm84
      refine WC.exit ?_
      refine WQ.then_exit ?_
      refine WQ.then_exit ?_
      refine WQ.block_exit ?_
      exact WQ.out1 i8_1 (up_brk hm108 hn85) ⟨rfl, rfl, rfl, rfl, rfl, trivial⟩ (fun w hw => hw.pick [0, 1, 2, 3] (by decide))

set_option maxRecDepth 8000 in
theorem roundelayref6_Edges_w {v_l_logs : Value} {v_l_body : Value} {v_l_outs : Value} {l : Lp} {t : Tgt} {r : List Edg} {K0 : World} (hm : roundelayref6_Edges_m l t = some r) (h_l_logs : Arr K0 v_l_logs 1 (l.logs.map icell)) (h_l_body : Arr K0 v_l_body 9 (l.body.map Stm.cells)) (h_l_outs : Arr K0 v_l_outs 1 (l.outs.map icell)) (M : Nat → Prop) (w : World) (hk : Base M K0 w) (hw0 : Own M w [] w) : Calls Try.prog 25 #[.agg #[v_l_logs, v_l_body, v_l_outs], .agg #[.int .i64 t.u0, .int .i64 t.u1, .int .i64 t.u2, .int .i64 t.w0, .int .i64 t.w1, .int .i64 t.w2, .int .i64 t.regs]] w (fun e w' => ∃ X : Value × World, e = .returned (X.1) ∧ Own M w (kn M w.heap.size K0 X.2 :: []) w' ∧ Arr X.2 X.1 4 (r.map Edg.cells)) := by
  unfold roundelayref6_Edges_m at hm
  refine calls_of_WC (n := 47) (args := [.agg #[v_l_logs, v_l_body, v_l_outs], .agg #[.int .i64 t.u0, .int .i64 t.u1, .int .i64 t.u2, .int .i64 t.w0, .int .i64 t.w1, .int .i64 t.w2, .int .i64 t.regs]]) Try.func25 rfl rfl (Nat.le_of_ble_eq_true rfl) ?_ (Own.startK hk hw0)
  refine WC.seq ?_
  refine WC.region ?_
  refine WL.effect rfl ?_
  refine (EV.boxAgg (by decide) rfl rfl (fun b1 => ?_))
  refine WL.effect rfl ?_
  refine (EV.boxAgg (by decide) rfl rfl (fun b2 => ?_))
  refine WL.q rfl rfl rfl (QV.assign rfl rfl) ?_
  refine WL.nil ?_
  refine WQ.then ?_
  refine WC.seq ?_
  refine WC.region ?_
  refine WL.q rfl rfl rfl (QV.assign rfl rfl) ?_
  refine WL.nil ?_
  refine WQ.then ?_
  refine WC.seq ?_
  refine WC.seq ?_
  refine WC.region ?_
  refine WL.q rfl rfl rfl (QV.assign rfl rfl) ?_
  refine WL.nil ?_
  refine WQ.then ?_
  refine WK.of (fun w hw => hw.vecNil (E := 61) (sz := 4) (enc := Edg.cells)) ?_
  obtain ⟨o4, ho5, hm6⟩ := bd_some hm; clear hm; obtain ⟨n7, ho8⟩ := lp_some ho5
  refine WC.bloop3 (H2 := [blk b2 [.int .i64 t.u0, .int .i64 t.u1, .int .i64 t.u2, .int .i64 t.w0, .int .i64 t.w1, .int .i64 t.w2, .int .i64 t.regs] 24, blk b1 [v_l_logs, v_l_body, v_l_outs] 49, kn M w.heap.size K0 K0]) (τ := [(2, (true, _)), (3, (true, _))]) (fun (v3_45 : List Edg) (from6_45 : Int) (uv3_45 : Value) => [(5, (true, uv3_45)), (6, (true, .int .i64 from6_45))]) (fun (v3_45 : List Edg) (from6_45 : Int) (uv3_45 : Value) => [vec uv3_45 61 4 (List.map Edg.cells v3_45)]) (fun (v3_45 : List Edg) (from6_45 : Int) (uv3_45 : Value) (m : Nat) => iter (roundelayref6_Edges_L0 l t) m (v3_45, from6_45) = some o4 ∧ SliceLen uv3_45 v3_45.length) (fun (v3_45 : List Edg) (from6_45 : Int) (uv3_45 : Value) => o4 = .go (v3_45, from6_45) ∧ SliceLen uv3_45 v3_45.length) [] 0 (.slice none 0 0) n7 ⟨ho8, SliceLen.nil⟩ ⟨rfl, rfl, rfl, rfl, trivial⟩ (fun w hw => hw.pick [0, 1, 2, 3] (by decide)) ?_ ?_
  · skip
    rintro v3_45 from6_45 uv3_45 ⟨rfl, hlv3_45⟩
    refine WQ.then ?_
    refine WC.seq ?_
    refine WC.region ?_
    refine WL.q rfl rfl rfl (QV.move rfl rfl) ?_
    refine WL.q rfl rfl rfl (QV.assign rfl rfl) ?_
    refine WL.nil ?_
    refine WQ.then ?_
    refine WC.ret ?_
    obtain rfl := (eq_of_some hm6).symm
    refine WK.of (C' := Own M w [kn M w.heap.size K0 K0, vec uv3_45 61 4 (List.map Edg.cells v3_45), blk b2 [.int .i64 t.u0, .int .i64 t.u1, .int .i64 t.u2, .int .i64 t.w0, .int .i64 t.w1, .int .i64 t.w2, .int .i64 t.regs] 24, blk b1 [v_l_logs, v_l_body, v_l_outs] 49]) (fun w hw => hw.pick [3, 0, 1, 2] (by decide)) ?_
    refine WK.freeze hk (fun k9 hle9 hr9 => ?_)
    have hA9 := vec_arr hr9
    refine WQ.ret1 rfl rfl (fun w hw => ?_)
    exact ⟨(uv3_45, k9), rfl, hw.pick [0] (by decide), hA9⟩
  · skip
    rintro v3_45 from6_45 uv3_45 m10 ⟨hI11, hlv3_45⟩
    obtain ⟨m12, s13, rfl, hm14, hn15⟩ := iter_step hI11; clear hI11; unfold roundelayref6_Edges_L0 at hm14; simp only at hm14
    refine WC.seq ?_
    refine WC.seq ?_
    refine WC.region ?_
    refine WL.q rfl rfl rfl (QV.move rfl rfl) ?_
    refine WL.q rfl rfl rfl (QV.fieldAddr fd49_1 rfl rfl) ?_
    refine WL.q rfl rfl rfl (QV.load pl47 rfl rfl (Own.cell 2 rfl rfl)) ?_
    refine WL.q rfl rfl rfl (QV.lenS Try.underlying47 rfl rfl h_l_body.lenMap) ?_
    refine WL.q rfl rfl rfl (QV.lss rfl rfl rfl rfl) ?_
    refine WL.nil ?_
    refine WQ.then ?_
    refine WC.cond rfl (fun h16 => ?_) (fun h16 => ?_)
    · skip
      have hm17 := br_t h16 hm14; clear hm14
      refine WC.skip ?_
      refine WQ.then ?_
      refine WC.seq ?_
      refine WC.block ?_
      refine WC.seq ?_
      refine WC.region ?_
      refine WL.q rfl rfl rfl (QV.assign rfl rfl) ?_
      refine WL.nil ?_
      refine WQ.then ?_
      obtain ⟨o18, ho19, hm20⟩ := bd_some hm17; clear hm17; obtain ⟨n21, ho22⟩ := lp_some ho19
      refine WC.bloop3 (H2 := [blk b2 [.int .i64 t.u0, .int .i64 t.u1, .int .i64 t.u2, .int .i64 t.w0, .int .i64 t.w1, .int .i64 t.w2, .int .i64 t.regs] 24, blk b1 [v_l_logs, v_l_body, v_l_outs] 49, kn M w.heap.size K0 K0]) (τ := [(2, (true, _)), (3, (true, _)), (6, (true, _))]) (fun (v3_54 : List Edg) (to7_54 : Int) (uv3_54 : Value) => [(5, (true, uv3_54)), (7, (true, .int .i64 to7_54))]) (fun (v3_54 : List Edg) (to7_54 : Int) (uv3_54 : Value) => [vec uv3_54 61 4 (List.map Edg.cells v3_54)]) (fun (v3_54 : List Edg) (to7_54 : Int) (uv3_54 : Value) (m : Nat) => iter (roundelayref6_Edges_L2 l t from6_45) m (v3_54, to7_54) = some o18 ∧ SliceLen uv3_54 v3_54.length) (fun (v3_54 : List Edg) (to7_54 : Int) (uv3_54 : Value) => o18 = .go (v3_54, to7_54) ∧ SliceLen uv3_54 v3_54.length) v3_45 0 uv3_45 n21 ⟨ho22, hlv3_45⟩ ⟨rfl, rfl, rfl, rfl, rfl, trivial⟩ (fun w hw => hw.pick [0, 1, 2, 3] (by decide)) ?_ ?_
      · skip
        rintro v3_54 to7_54 uv3_54 ⟨rfl, hlv3_54⟩
        refine WQ.block ?_
        refine WQ.then ?_
        refine WC.region ?_
        refine WL.q rfl rfl rfl (QV.move rfl rfl) ?_
        obtain ⟨c23, hm24⟩ := ck_some hm20; clear hm20
        refine WL.q rfl rfl rfl (QV.add rfl rfl rfl rfl c23) ?_
        refine WL.q rfl rfl rfl (QV.assign rfl rfl) ?_
        refine WL.nil ?_
        exact WQ.again3 v3_54 (from6_45 + 1) uv3_54 m12 ⟨up_next hm24 hn15, hlv3_54⟩ (Nat.lt_succ_self _) ⟨rfl, rfl, rfl, rfl, trivial⟩ (fun w hw => hw.pick [0, 1, 2, 3] (by decide))
      · skip
        rintro v3_54 to7_54 uv3_54 m25 ⟨hI26, hlv3_54⟩
        obtain ⟨m27, s28, rfl, hm29, hn30⟩ := iter_step hI26; clear hI26; unfold roundelayref6_Edges_L2 at hm29; simp only at hm29
        refine WC.seq ?_
        refine WC.seq ?_
        refine WC.region ?_
        refine WL.q rfl rfl rfl (QV.move rfl rfl) ?_
        refine WL.q rfl rfl rfl (QV.fieldAddr fd49_1 rfl rfl) ?_
        refine WL.q rfl rfl rfl (QV.load pl47 rfl rfl (Own.cell 2 rfl rfl)) ?_
        refine WL.q rfl rfl rfl (QV.lenS Try.underlying47 rfl rfl h_l_body.lenMap) ?_
        refine WL.q rfl rfl rfl (QV.lss rfl rfl rfl rfl) ?_
        refine WL.nil ?_
        refine WQ.then ?_
        refine WC.cond rfl (fun h31 => ?_) (fun h31 => ?_)
        · skip
          have hm32 := br_t h31 hm29; clear hm29
          refine WC.skip ?_
          refine WQ.then ?_
          refine WC.seq ?_
          refine WC.block ?_
          refine WC.seq ?_
          refine WC.region ?_
          refine WL.q rfl rfl rfl (QV.assign rfl rfl) ?_
          refine WL.nil ?_
          refine WQ.then ?_
          obtain ⟨o33, ho34, hm35⟩ := bd_some hm32; clear hm32; obtain ⟨n36, ho37⟩ := lp_some ho34
          refine WC.bloop3 (H2 := [blk b2 [.int .i64 t.u0, .int .i64 t.u1, .int .i64 t.u2, .int .i64 t.w0, .int .i64 t.w1, .int .i64 t.w2, .int .i64 t.regs] 24, blk b1 [v_l_logs, v_l_body, v_l_outs] 49, kn M w.heap.size K0 K0]) (τ := [(2, (true, _)), (3, (true, _)), (6, (true, _)), (7, (true, _))]) (fun (v3_57 : List Edg) (back8_57 : Int) (uv3_57 : Value) => [(5, (true, uv3_57)), (8, (true, .int .i64 back8_57))]) (fun (v3_57 : List Edg) (back8_57 : Int) (uv3_57 : Value) => [vec uv3_57 61 4 (List.map Edg.cells v3_57)]) (fun (v3_57 : List Edg) (back8_57 : Int) (uv3_57 : Value) (m : Nat) => iter (roundelayref6_Edges_L4 l t from6_45 to7_54) m (v3_57, back8_57) = some o33 ∧ SliceLen uv3_57 v3_57.length) (fun (v3_57 : List Edg) (back8_57 : Int) (uv3_57 : Value) => o33 = .go (v3_57, back8_57) ∧ SliceLen uv3_57 v3_57.length) v3_54 0 uv3_54 n36 ⟨ho37, hlv3_54⟩ ⟨rfl, rfl, rfl, rfl, rfl, rfl, trivial⟩ (fun w hw => hw.pick [0, 1, 2, 3] (by decide)) ?_ ?_
          · skip
            rintro v3_57 back8_57 uv3_57 ⟨rfl, hlv3_57⟩
            refine WQ.block ?_
            refine WQ.then ?_
            refine WC.region ?_
            refine WL.q rfl rfl rfl (QV.move rfl rfl) ?_
            obtain ⟨c38, hm39⟩ := ck_some hm35; clear hm35
            refine WL.q rfl rfl rfl (QV.add rfl rfl rfl rfl c38) ?_
            refine WL.q rfl rfl rfl (QV.assign rfl rfl) ?_
            refine WL.nil ?_
            exact WQ.again3 v3_57 (to7_54 + 1) uv3_57 m27 ⟨up_next hm39 hn30, hlv3_57⟩ (Nat.lt_succ_self _) ⟨rfl, rfl, rfl, rfl, rfl, trivial⟩ (fun w hw => hw.pick [0, 1, 2, 3] (by decide))
          · skip
            rintro v3_57 back8_57 uv3_57 m40 ⟨hI41, hlv3_57⟩
            obtain ⟨m42, s43, rfl, hm44, hn45⟩ := iter_step hI41; clear hI41; unfold roundelayref6_Edges_L4 at hm44; simp only at hm44
            refine WC.seq ?_
            refine WC.seq ?_
            refine WC.region ?_
            refine WL.q rfl rfl rfl (QV.move rfl rfl) ?_
            refine WL.q rfl rfl rfl (QV.leq rfl rfl rfl rfl) ?_
            refine WL.nil ?_
            refine WQ.then ?_
            refine WC.cond rfl (fun h46 => ?_) (fun h46 => ?_)
            · skip
              have hm47 := br_t h46 hm44; clear hm44
              refine WC.skip ?_
              refine WQ.then ?_
              refine WC.seq ?_
              refine WC.block ?_
              refine WC.seq ?_
              refine WC.region ?_
              refine WL.q rfl rfl rfl (QV.assign rfl rfl) ?_
              refine WL.nil ?_
              refine WQ.then ?_
              obtain ⟨o48, ho49, hm50⟩ := bd_some hm47; clear hm47; obtain ⟨n51, ho52⟩ := lp_some ho49
              refine WC.bloop3 (H2 := [blk b2 [.int .i64 t.u0, .int .i64 t.u1, .int .i64 t.u2, .int .i64 t.w0, .int .i64 t.w1, .int .i64 t.w2, .int .i64 t.regs] 24, blk b1 [v_l_logs, v_l_body, v_l_outs] 49, kn M w.heap.size K0 K0]) (τ := [(2, (true, _)), (3, (true, _)), (6, (true, _)), (7, (true, _)), (8, (true, _))]) (fun (v3_58 : List Edg) (wait9_58 : Int) (uv3_58 : Value) => [(5, (true, uv3_58)), (9, (true, .int .i64 wait9_58))]) (fun (v3_58 : List Edg) (wait9_58 : Int) (uv3_58 : Value) => [vec uv3_58 61 4 (List.map Edg.cells v3_58)]) (fun (v3_58 : List Edg) (wait9_58 : Int) (uv3_58 : Value) (m : Nat) => iter (roundelayref6_Edges_L6 l t from6_45 to7_54 back8_57) m (v3_58, wait9_58) = some o48 ∧ SliceLen uv3_58 v3_58.length) (fun (v3_58 : List Edg) (wait9_58 : Int) (uv3_58 : Value) => o48 = .go (v3_58, wait9_58) ∧ SliceLen uv3_58 v3_58.length) v3_57 0 uv3_57 n51 ⟨ho52, hlv3_57⟩ ⟨rfl, rfl, rfl, rfl, rfl, rfl, rfl, trivial⟩ (fun w hw => hw.pick [0, 1, 2, 3] (by decide)) ?_ ?_
              · skip
                rintro v3_58 wait9_58 uv3_58 ⟨rfl, hlv3_58⟩
                refine WQ.block ?_
                refine WQ.then ?_
                refine WC.region ?_
                refine WL.q rfl rfl rfl (QV.move rfl rfl) ?_
                obtain ⟨c53, hm54⟩ := ck_some hm50; clear hm50
                refine WL.q rfl rfl rfl (QV.add rfl rfl rfl rfl c53) ?_
                refine WL.q rfl rfl rfl (QV.assign rfl rfl) ?_
                refine WL.nil ?_
                exact WQ.again3 v3_58 (back8_57 + 1) uv3_58 m42 ⟨up_next hm54 hn45, hlv3_58⟩ (Nat.lt_succ_self _) ⟨rfl, rfl, rfl, rfl, rfl, rfl, trivial⟩ (fun w hw => hw.pick [0, 1, 2, 3] (by decide))
              · skip
                rintro v3_58 wait9_58 uv3_58 m55 ⟨hI56, hlv3_58⟩
                obtain ⟨m57, s58, rfl, hm59, hn60⟩ := iter_step hI56; clear hI56; unfold roundelayref6_Edges_L6 at hm59; simp only at hm59
                refine WC.seq ?_
                refine WC.seq ?_
                refine WC.region ?_
                refine WL.q rfl rfl rfl (QV.move rfl rfl) ?_
                refine WL.q rfl rfl rfl (QV.leq rfl rfl rfl rfl) ?_
                refine WL.nil ?_
                refine WQ.then ?_
                refine WC.cond rfl (fun h61 => ?_) (fun h61 => ?_)
                · skip
                  have hm62 := br_t h61 hm59; clear hm59
                  refine WC.skip ?_
                  refine WQ.then ?_
                  refine WC.seq ?_
                  refine WC.block ?_
                  refine WC.seq ?_
                  refine WC.region ?_
                  refine WL.q rfl rfl rfl (QV.move rfl rfl) ?_
                  refine WL.q rfl rfl rfl (QV.move rfl rfl) ?_
                  refine WL.q rfl rfl rfl (QV.move rfl rfl) ?_
                  refine WL.q rfl rfl rfl (QV.move rfl rfl) ?_
                  refine WL.q rfl rfl rfl (QV.build (ps := [(0, .tmp 33), (1, .tmp 34), (2, .tmp 35), (3, .tmp 36)]) (cells := [.int .i64 from6_45, .int .i64 to7_54, .int .i64 back8_57, .int .i64 wait9_58]) (EvAll.cons rfl rfl (EvAll.cons rfl rfl (EvAll.cons rfl rfl (EvAll.cons rfl rfl EvAll.nil)))) (by kernel_rfl)) ?_
                  refine WL.effect rfl ?_
                  refine (EV.alloc (by decide) ze61 (fun b63 => ?_))
                  refine WL.effect rfl ?_
                  refine (EV.store 0 rfl rfl rfl rfl rfl rfl (vs := [.int .i64 from6_45, .int .i64 to7_54, .int .i64 back8_57, .int .i64 wait9_58]) (show Value.cells _ = List.toArray _ from rfl) sz61 (Nat.le_of_ble_eq_true rfl) (one_cons rfl (one_cons rfl (one_cons rfl (one_cons rfl one_nil)))) ?_)
                  refine WL.nil ?_
                  refine WQ.then ?_
                  refine WC.seq ?_
                  refine WC.region ?_
                  refine WL.q rfl rfl rfl (QV.loadAgg ag49 rfl rfl rfl (Own.cellsBlk 3 rfl)) ?_
                  refine WL.q rfl rfl rfl (QV.loadAgg ag24 rfl rfl rfl (Own.cellsBlk 2 rfl)) ?_
                  refine WL.q rfl rfl rfl (QV.loadAgg ag61 rfl rfl rfl (Own.cellsBlk 0 rfl)) ?_
                  obtain ⟨x64, hx65, hm66⟩ := bd_some hm62; clear hm62
                  refine WL.q rfl rfl rfl (QV.call en69 (EvAll.cons rfl rfl (EvAll.cons rfl rfl (EvAll.cons rfl rfl EvAll.nil))) (fun w hw => have h := roundelayref6_is_w w hx65 ((Own.karr 4 rfl hk h_l_logs) w hw) ((Own.karr 4 rfl hk h_l_body) w hw) ((Own.karr 4 rfl hk h_l_outs) w hw); h)) ?_
                  refine WL.nil ?_
                  refine WQ.then ?_
                  refine WC.cond rfl (fun h67 => ?_) (fun h67 => ?_)
                  · skip
                    have hm68 := br_t h67 hm66; clear hm66
                    refine WC.region ?_
                    refine WL.q rfl rfl rfl (QV.move rfl rfl) ?_
                    refine WL.q rfl rfl rfl (QV.loadAgg ag61 rfl rfl rfl (Own.cellsBlk 0 rfl)) ?_
                    refine WL.effect rfl ?_
                    refine (EV.buildSlice (by decide) sz_50 (by decide) (by decide) (ps := [(0, .tmp 43)]) (cells := [.int .i64 from6_45, .int .i64 to7_54, .int .i64 back8_57, .int .i64 wait9_58]) (EvAll.cons rfl rfl EvAll.nil) (by kernel_rfl) (fun b69 => ?_))
                    refine WL.effect rfl ?_
                    obtain ⟨c70, hm71⟩ := ck_some hm68; clear hm68
                    refine (EV.appendL (enc := Edg.cells) (xs := v3_58) (ys := [(Edg.mk from6_45 to7_54 back8_57 wait9_58)]) ((v3_58 ++ [(Edg.mk from6_45 to7_54 back8_57 wait9_58)])) 2 (by decide) ve50 rfl rfl rfl rfl rfl (Own.blkArr 0 (rows := [(Edg.mk from6_45 to7_54 back8_57 wait9_58)].map Edg.cells) rfl rfl (rows_len Edg.cells_len)) Edg.cells_len (Edg.cells_one _) rfl c70.1 c70.2 (fun u72 hu73 => ?_))
                    refine WL.q rfl rfl rfl (QV.assign rfl rfl) ?_
                    refine WL.nil ?_
                    refine WQ.block ?_
                    refine WQ.then ?_
                    refine WC.region ?_
                    refine WL.q rfl rfl rfl (QV.move rfl rfl) ?_
                    obtain ⟨c74, hm75⟩ := ck_some hm71; clear hm71
                    refine WL.q rfl rfl rfl (QV.add rfl rfl rfl rfl c74) ?_
                    refine WL.q rfl rfl rfl (QV.assign rfl rfl) ?_
                    refine WL.nil ?_
                    exact WQ.again3 (v3_58 ++ [(Edg.mk from6_45 to7_54 back8_57 wait9_58)]) (wait9_58 + 1) u72 m57 ⟨up_next hm75 hn60, hu73⟩ (Nat.lt_succ_self _) ⟨rfl, rfl, rfl, rfl, rfl, rfl, rfl, trivial⟩ (fun w hw => hw.pick [2, 3, 4, 5] (by decide))
                  · skip
                    have hm76 := br_f h67 hm66; clear hm66
                    refine WC.skip ?_
                    refine WQ.block ?_
                    refine WQ.then ?_
                    refine WC.region ?_
                    refine WL.q rfl rfl rfl (QV.move rfl rfl) ?_
                    obtain ⟨c77, hm78⟩ := ck_some hm76; clear hm76
                    refine WL.q rfl rfl rfl (QV.add rfl rfl rfl rfl c77) ?_
                    refine WL.q rfl rfl rfl (QV.assign rfl rfl) ?_
                    refine WL.nil ?_
                    exact WQ.again3 v3_58 (wait9_58 + 1) uv3_58 m57 ⟨up_next hm78 hn60, hlv3_58⟩ (Nat.lt_succ_self _) ⟨rfl, rfl, rfl, rfl, rfl, rfl, rfl, trivial⟩ (fun w hw => hw.pick [1, 2, 3, 4] (by decide))
                · skip
                  have hm79 := br_f h61 hm59; clear hm59
                  refine WC.exit ?_
                  refine WQ.then_exit ?_
                  refine WQ.then_exit ?_
                  refine WQ.block_exit ?_
                  exact WQ.out3 v3_58 wait9_58 uv3_58 ⟨up_brk hm79 hn60, hlv3_58⟩ ⟨rfl, rfl, rfl, rfl, rfl, rfl, rfl, trivial⟩ (fun w hw => hw.pick [0, 1, 2, 3] (by decide))
            · skip
              have hm80 := br_f h46 hm44; clear hm44
              refine WC.exit ?_
              refine WQ.then_exit ?_
              refine WQ.then_exit ?_
              refine WQ.block_exit ?_
              exact WQ.out3 v3_57 back8_57 uv3_57 ⟨up_brk hm80 hn45, hlv3_57⟩ ⟨rfl, rfl, rfl, rfl, rfl, rfl, trivial⟩ (fun w hw => hw.pick [0, 1, 2, 3] (by decide))
        · skip
          have hm81 := br_f h31 hm29; clear hm29
          refine WC.exit ?_
          refine WQ.then_exit ?_
          refine WQ.then_exit ?_
          refine WQ.block_exit ?_
          exact WQ.out3 v3_54 to7_54 uv3_54 ⟨up_brk hm81 hn30, hlv3_54⟩ ⟨rfl, rfl, rfl, rfl, rfl, trivial⟩ (fun w hw => hw.pick [0, 1, 2, 3] (by decide))
    · skip
      have hm82 := br_f h16 hm14; clear hm14
      refine WC.exit ?_
      refine WQ.then_exit ?_
      refine WQ.then_exit ?_
      refine WQ.block_exit ?_
      exact WQ.out3 v3_45 from6_45 uv3_45 ⟨up_brk hm82 hn15, hlv3_45⟩ ⟨rfl, rfl, rfl, rfl, trivial⟩ (fun w hw => hw.pick [0, 1, 2, 3] (by decide))

set_option maxRecDepth 8000 in
theorem roundelayref6_May_w {v_l_logs : Value} {v_l_body : Value} {v_l_outs : Value} {l : Lp} {t : Tgt} {r : Bool} (w : World) (hm : roundelayref6_May_m l t = some r) (h_l_logs : Arr w v_l_logs 1 (l.logs.map icell)) (h_l_body : Arr w v_l_body 9 (l.body.map Stm.cells)) (h_l_outs : Arr w v_l_outs 1 (l.outs.map icell)) : Calls Try.prog 24 #[.agg #[v_l_logs, v_l_body, v_l_outs], .agg #[.int .i64 t.u0, .int .i64 t.u1, .int .i64 t.u2, .int .i64 t.w0, .int .i64 t.w1, .int .i64 t.w2, .int .i64 t.regs]] w (fun e w' => e = .returned (.bool r) ∧ Grow w w') := by
  unfold roundelayref6_May_m at hm
  have hk := Base.rfl (w := w)
  refine calls_of_WC (n := 11) (args := [.agg #[v_l_logs, v_l_body, v_l_outs], .agg #[.int .i64 t.u0, .int .i64 t.u1, .int .i64 t.u2, .int .i64 t.w0, .int .i64 t.w1, .int .i64 t.w2, .int .i64 t.regs]]) Try.func24 rfl rfl (Nat.le_of_ble_eq_true rfl) ?_ (Own.startK hk (Own.start w))
  refine WC.seq ?_
  refine WC.region ?_
  refine WL.effect rfl ?_
  refine (EV.boxAgg (by decide) rfl rfl (fun b1 => ?_))
  refine WL.effect rfl ?_
  refine (EV.boxAgg (by decide) rfl rfl (fun b2 => ?_))
  refine WL.q rfl rfl rfl (QV.assign rfl rfl) ?_
  refine WL.nil ?_
  refine WQ.then ?_
  refine WC.seq ?_
  refine WC.region ?_
  refine WL.q rfl rfl rfl (QV.loadAgg ag49 rfl rfl rfl (Own.cellsBlk 1 rfl)) ?_
  obtain ⟨x3, hx4, hm5⟩ := bd_some hm; clear hm
  refine WL.q rfl rfl rfl (QV.call en68 (EvAll.cons rfl rfl EvAll.nil) (fun w hw => have h := roundelayref2_May_w w hx4 ((Own.karr 2 rfl hk h_l_logs) w hw) ((Own.karr 2 rfl hk h_l_body) w hw) ((Own.karr 2 rfl hk h_l_outs) w hw); h)) ?_
  refine WL.q rfl rfl rfl (QV.move rfl rfl) ?_
  refine WL.g rfl rfl (GuardIs.pos rfl rfl) (fun hG => QV.loadAgg ag24 rfl rfl rfl (Own.cellsBlk 0 rfl)) ?_
  obtain ⟨x6, hx7, hm8⟩ := bdG_some hm5; clear hm5
  refine WL.g rfl rfl (GuardIs.pos rfl rfl) (fun hG => QV.call en49 (EvAll.cons rfl hG EvAll.nil) (fun w hw => have h := roundelayref4_May_w w (hx7 hG) ; h)) ?_
  refine WL.q rfl rfl rfl (QV.pickAnd rfl rfl rfl (fun h => h)) ?_
  refine WL.q rfl rfl rfl (QV.assign rfl rfl) ?_
  refine WL.nil ?_
  refine WQ.then ?_
  refine WC.ret ?_
  obtain rfl := (eq_of_some hm8).symm
  refine WQ.ret1 rfl rfl (fun w hw => ?_)
  exact ⟨rfl, Own.kgrow (fun _ x => x) hw⟩
end Go.Proofs.Ytaimbkndebaaiab
end

section
namespace Go.Proofs.Ytaimbkndebaaiab
open Go.Rd
set_option linter.unusedVariables false
namespace TRSched
theorem ag24 : AggT Try.prog 24 7 := ⟨_, Try.underlying24, rfl, by kernel_rfl⟩
theorem ag49 : AggT Try.prog 49 3 := ⟨_, Try.underlying49, rfl, by kernel_rfl⟩
theorem ag61 : AggT Try.prog 61 4 := ⟨_, Try.underlying61, rfl, by kernel_rfl⟩
theorem ar22 : ArrayT Try.prog 22 3 1 := ⟨_, Try.underlying22, by kernel_rfl⟩
theorem en24 : Go.Rd.Enters Try.prog 24 := ⟨Try.f24, Try.func24, by kernel_rfl, by kernel_rfl⟩
theorem en25 : Go.Rd.Enters Try.prog 25 := ⟨Try.f25, Try.func25, by kernel_rfl, by kernel_rfl⟩
theorem en52 : Go.Rd.Enters Try.prog 52 := ⟨Try.f52, Try.func52, by kernel_rfl, by kernel_rfl⟩
theorem en78 : Go.Rd.Enters Try.prog 78 := ⟨Try.f78, Try.func78, by kernel_rfl, by kernel_rfl⟩
theorem fd24_0 : FieldT Try.prog 24 0 0 := ⟨_, _, 2, Try.underlying24, rfl, rfl, by kernel_rfl⟩
theorem fd49_1 : FieldT Try.prog 49 1 1 := ⟨_, _, 0, Try.underlying49, rfl, rfl, by kernel_rfl⟩
theorem fd59_0 : FieldT Try.prog 59 0 0 := ⟨_, _, 0, Try.underlying59, rfl, rfl, by kernel_rfl⟩
theorem fd61_0 : FieldT Try.prog 61 0 0 := ⟨_, _, 0, Try.underlying61, rfl, rfl, by kernel_rfl⟩
theorem fd61_1 : FieldT Try.prog 61 1 1 := ⟨_, _, 0, Try.underlying61, rfl, rfl, by kernel_rfl⟩
theorem fd61_2 : FieldT Try.prog 61 2 2 := ⟨_, _, 0, Try.underlying61, rfl, rfl, by kernel_rfl⟩
theorem fd61_3 : FieldT Try.prog 61 3 3 := ⟨_, _, 0, Try.underlying61, rfl, rfl, by kernel_rfl⟩
theorem fd63_0 : FieldT Try.prog 63 0 0 := ⟨_, _, 0, Try.underlying63, rfl, rfl, by kernel_rfl⟩
theorem fd63_1 : FieldT Try.prog 63 1 1 := ⟨_, _, 0, Try.underlying63, rfl, rfl, by kernel_rfl⟩
theorem pl3 : Plain Try.prog 3 := ⟨_, Try.underlying3, rfl⟩
theorem pl30 : Plain Try.prog 30 := ⟨_, Try.underlying30, rfl⟩
theorem pl47 : Plain Try.prog 47 := ⟨_, Try.underlying47, rfl⟩
theorem sl30 : SliceT Try.prog 30 3 1 := ⟨Try.underlying30, by kernel_rfl⟩
theorem sl47 : SliceT Try.prog 47 59 9 := ⟨Try.underlying47, by kernel_rfl⟩
theorem sl50 : SliceT Try.prog 50 61 4 := ⟨Try.underlying50, by kernel_rfl⟩
theorem sz61 : SizeT Try.prog 61 4 := by unfold SizeT; kernel_rfl
theorem ze61 : ZeroT Try.prog 61 [.int .i64 0, .int .i64 0, .int .i64 0, .int .i64 0] := by unfold ZeroT; kernel_rfl
end TRSched
open TRSched
set_option maxRecDepth 8000 in
theorem roundelayref8_Legal_w {v_l_logs : Value} {v_l_body : Value} {v_l_outs : Value} {v_p_times : Value} {l : Lp} {t : Tgt} {p : Pln} {r : Bool} (w : World) (hm : roundelayref8_Legal_m l t p = some r) (h_l_logs : Arr w v_l_logs 1 (l.logs.map icell)) (h_l_body : Arr w v_l_body 9 (l.body.map Stm.cells)) (h_l_outs : Arr w v_l_outs 1 (l.outs.map icell)) (h_p_times : Arr w v_p_times 1 (p.times.map icell)) : Calls Try.prog 28 #[.agg #[v_l_logs, v_l_body, v_l_outs], .agg #[.int .i64 t.u0, .int .i64 t.u1, .int .i64 t.u2, .int .i64 t.w0, .int .i64 t.w1, .int .i64 t.w2, .int .i64 t.regs], .agg #[.int .i64 p.pace, v_p_times]] w (fun e w' => e = .returned (.bool r) ∧ Grow w w') := by
  unfold roundelayref8_Legal_m at hm
  have hk := Base.rfl (w := w)
  refine calls_of_WC (n := 143) (args := [.agg #[v_l_logs, v_l_body, v_l_outs], .agg #[.int .i64 t.u0, .int .i64 t.u1, .int .i64 t.u2, .int .i64 t.w0, .int .i64 t.w1, .int .i64 t.w2, .int .i64 t.regs], .agg #[.int .i64 p.pace, v_p_times]]) Try.func28 rfl rfl (Nat.le_of_ble_eq_true rfl) ?_ (Own.startK hk (Own.start w))
  refine WC.seq ?_
  refine WC.region ?_
  refine WL.effect rfl ?_
  refine (EV.boxAgg (by decide) rfl rfl (fun b1 => ?_))
  refine WL.effect rfl ?_
  refine (EV.boxAgg (by decide) rfl rfl (fun b2 => ?_))
  refine WL.effect rfl ?_
  refine (EV.boxAgg (by decide) rfl rfl (fun b3 => ?_))
  refine WL.q rfl rfl rfl (QV.assign rfl rfl) ?_
  refine WL.nil ?_
  refine WQ.then ?_
  refine WC.seq ?_
  refine WC.seq ?_
  refine WC.region ?_
  refine WL.q rfl rfl rfl (QV.loadAgg ag49 rfl rfl rfl (Own.cellsBlk 2 rfl)) ?_
  refine WL.q rfl rfl rfl (QV.loadAgg ag24 rfl rfl rfl (Own.cellsBlk 1 rfl)) ?_
  obtain ⟨x4, hx5, hm6⟩ := bd_some hm; clear hm
  refine WL.q rfl rfl rfl (QV.call en24 (EvAll.cons rfl rfl (EvAll.cons rfl rfl EvAll.nil)) (fun w hw => have h := roundelayref6_May_w w hx5 ((Own.karr 3 rfl hk h_l_logs) w hw) ((Own.karr 3 rfl hk h_l_body) w hw) ((Own.karr 3 rfl hk h_l_outs) w hw); h)) ?_
  refine WL.q rfl rfl rfl (QV.not rfl rfl) ?_
  refine WL.q rfl rfl rfl (QV.move rfl rfl) ?_
  refine WL.g rfl rfl (GuardIs.neg rfl rfl) (fun hG => QV.fieldAddr fd63_0 rfl rfl) ?_
  refine WL.g rfl rfl (GuardIs.neg rfl rfl) (fun hG => QV.load pl3 rfl hG (Own.cell 0 rfl rfl)) ?_
  refine WL.g rfl rfl (GuardIs.neg rfl rfl) (fun hG => QV.lss rfl hG rfl rfl) ?_
  refine WL.q rfl rfl rfl (QV.pickOr rfl rfl rfl (fun h => notF h)) ?_
  refine WL.q rfl rfl rfl (QV.move rfl rfl) ?_
  refine WL.g rfl rfl (GuardIs.neg rfl rfl) (fun hG => QV.fieldAddr fd63_0 rfl rfl) ?_
  refine WL.g rfl rfl (GuardIs.neg rfl rfl) (fun hG => QV.load pl3 rfl hG (Own.cell 0 rfl rfl)) ?_
  refine WL.g rfl rfl (GuardIs.neg rfl rfl) (fun hG => QV.gtr rfl hG rfl rfl) ?_
  refine WL.q rfl rfl rfl (QV.pickOr rfl rfl rfl (fun h => notF h)) ?_
  refine WL.q rfl rfl rfl (QV.move rfl rfl) ?_
  refine WL.g rfl rfl (GuardIs.neg rfl rfl) (fun hG => QV.fieldAddr fd63_1 rfl rfl) ?_
  refine WL.g rfl rfl (GuardIs.neg rfl rfl) (fun hG => QV.load pl30 rfl hG (Own.cell 0 rfl rfl)) ?_
  refine WL.g rfl rfl (GuardIs.neg rfl rfl) (fun hG => QV.lenS Try.underlying30 rfl hG h_p_times.lenMap) ?_
  refine WL.g rfl rfl (GuardIs.neg rfl rfl) (fun hG => QV.fieldAddr fd49_1 rfl rfl) ?_
  refine WL.g rfl rfl (GuardIs.neg rfl rfl) (fun hG => QV.load pl47 rfl hG (Own.cell 2 rfl rfl)) ?_
  refine WL.g rfl rfl (GuardIs.neg rfl rfl) (fun hG => QV.lenS Try.underlying47 rfl hG h_l_body.lenMap) ?_
  refine WL.g rfl rfl (GuardIs.neg rfl rfl) (fun hG => QV.neq rfl hG rfl hG) ?_
  refine WL.q rfl rfl rfl (QV.pickOr rfl rfl rfl (fun h => notF h)) ?_
  refine WL.nil ?_
  refine WQ.then ?_
  refine WC.cond rfl (fun h7 => ?_) (fun h7 => ?_)
  · skip
    have hm8 := br_t h7 hm6; clear hm6
    refine WC.seq ?_
    refine WC.region ?_
    refine WL.q rfl rfl rfl (QV.assign rfl rfl) ?_
    refine WL.nil ?_
    refine WQ.then ?_
    refine WC.ret ?_
    refine WQ.then_ret ?_
    obtain rfl := (eq_of_some hm8).symm
    refine WQ.ret1 rfl rfl (fun w hw => ?_)
    exact ⟨rfl, Own.kgrow (fun _ x => x) hw⟩
  · skip
    have hm9 := br_f h7 hm6; clear hm6
    refine WC.skip ?_
    refine WQ.then ?_
    refine WC.seq ?_
    refine WC.seq ?_
    refine WC.region ?_
    refine WL.q rfl rfl rfl (QV.assign rfl rfl) ?_
    refine WL.nil ?_
    refine WQ.then ?_
    obtain ⟨o10, ho11, hm12⟩ := bd_some hm9; clear hm9; obtain ⟨n13, ho14⟩ := lp_some ho11
    refine WC.bloop1 (H2 := [blk b3 [.int .i64 p.pace, v_p_times] 63, blk b2 [.int .i64 t.u0, .int .i64 t.u1, .int .i64 t.u2, .int .i64 t.w0, .int .i64 t.w1, .int .i64 t.w2, .int .i64 t.regs] 24, blk b1 [v_l_logs, v_l_body, v_l_outs] 49, kn noM w.heap.size w w]) (τ := [(3, (true, _)), (4, (true, _)), (5, (true, _))]) (fun (i7_2 : Int) => [(7, (true, .int .i64 i7_2))]) (fun (i7_2 : Int) => []) (fun (i7_2 : Int) (m : Nat) => iter (roundelayref8_Legal_L0 l t p) m i7_2 = some o10) (fun (i7_2 : Int) => o10 = .go i7_2) 0 n13 ho14 ⟨rfl, rfl, rfl, rfl, trivial⟩ (fun w hw => hw.pick [0, 1, 2, 3] (by decide)) ?_ ?_
    · skip
      rintro i7_2 rfl
      refine WQ.then ?_
      refine WC.seq ?_
      refine WC.region ?_
      refine WL.q rfl rfl rfl (QV.loadAgg ag49 rfl rfl rfl (Own.cellsBlk 2 rfl)) ?_
      refine WL.q rfl rfl rfl (QV.loadAgg ag24 rfl rfl rfl (Own.cellsBlk 1 rfl)) ?_
      refine WL.effect rfl ?_
      obtain ⟨x15, hx16, hm17⟩ := bd_some hm12; clear hm12
      refine EV.of (C' := Own noM w [kn noM w.heap.size w w, blk b3 [.int .i64 p.pace, v_p_times] 63, blk b2 [.int .i64 t.u0, .int .i64 t.u1, .int .i64 t.u2, .int .i64 t.w0, .int .i64 t.w1, .int .i64 t.w2, .int .i64 t.regs] 24, blk b1 [v_l_logs, v_l_body, v_l_outs] 49]) (fun w hw => hw.pick [3, 0, 1, 2] (by decide)) ?_
      refine (EV.callR (X := Value × World) (R := []) (fun X => X.1) (fun X => []) (fun X => X.2) (fun X => Arr X.2 X.1 4 (x15.map Edg.cells)) hk (fun _ h => by cases h; decide) en25 (EvAll.cons rfl rfl (EvAll.cons rfl rfl EvAll.nil)) (fun M w h1 h2 => have h := roundelayref6_Edges_w hx16 h_l_logs h_l_body h_l_outs M w h1 h2; h) (fun X18 hF18 hle18 => ?_))
      refine WL.q rfl rfl rfl (QV.assign rfl rfl) ?_
      refine WL.nil ?_
      refine WQ.then ?_
      refine WC.seq ?_
      refine WC.seq ?_
      refine WC.region ?_
      refine WL.q rfl rfl rfl (QV.assign rfl rfl) ?_
      refine WL.nil ?_
      refine WQ.then ?_
      obtain ⟨o19, ho20, hm21⟩ := bd_some hm17; clear hm17; obtain ⟨n22, ho23⟩ := lp_some ho20
      refine WC.bloop1 (H2 := [kn noM w.heap.size w X18.2, blk b3 [.int .i64 p.pace, v_p_times] 63, blk b2 [.int .i64 t.u0, .int .i64 t.u1, .int .i64 t.u2, .int .i64 t.w0, .int .i64 t.w1, .int .i64 t.w2, .int .i64 t.regs] 24, blk b1 [v_l_logs, v_l_body, v_l_outs] 49]) (τ := [(5, (true, _)), (11, (true, _))]) (fun (i12_3 : Int) => [(12, (true, .int .i64 i12_3))]) (fun (i12_3 : Int) => []) (fun (i12_3 : Int) (m : Nat) => iter (roundelayref8_Legal_L4 p x15) m i12_3 = some o19) (fun (i12_3 : Int) => o19 = .go i12_3) 0 n22 ho23 ⟨rfl, rfl, rfl, trivial⟩ (fun w hw => hw.pick [0, 1, 2, 3] (by decide)) ?_ ?_
      · skip
        rintro i12_3 rfl
        refine WQ.then ?_
        refine WC.seq ?_
        refine WC.region ?_
        refine WL.q rfl rfl rfl (QV.assign rfl rfl) ?_
        refine WL.nil ?_
        refine WQ.then ?_
        refine WC.ret ?_
        obtain rfl := (eq_of_some hm21).symm
        refine WQ.ret1 rfl rfl (fun w hw => ?_)
        exact ⟨rfl, Own.kgrow (fun _ x => x) hw⟩
      · skip
        rintro i12_3 m24 hI25
        obtain ⟨m26, s27, rfl, hm28, hn29⟩ := iter_step hI25; clear hI25; unfold roundelayref8_Legal_L4 at hm28
        refine WC.seq ?_
        refine WC.seq ?_
        refine WC.region ?_
        refine WL.q rfl rfl rfl (QV.move rfl rfl) ?_
        refine WL.q rfl rfl rfl (QV.move rfl rfl) ?_
        refine WL.q rfl rfl rfl (QV.lenS Try.underlying50 rfl rfl hF18.lenMap) ?_
        refine WL.q rfl rfl rfl (QV.lss rfl rfl rfl rfl) ?_
        refine WL.nil ?_
        refine WQ.then ?_
        refine WC.cond rfl (fun h30 => ?_) (fun h30 => ?_)
        · skip
          have hm31 := br_t h30 hm28; clear hm28
          refine WC.skip ?_
          refine WQ.then ?_
          refine WC.seq ?_
          refine WC.block ?_
          refine WC.seq ?_
          refine WC.region ?_
          refine WL.q rfl rfl rfl (QV.move rfl rfl) ?_
          refine WL.q rfl rfl rfl (QV.move rfl rfl) ?_
          obtain ⟨c32, hm33⟩ := ck_some hm31; clear hm31
          obtain ⟨p34, hp35⟩ := hF18.lenMap.ix (sz := 4) ln_len c32
          refine WL.q rfl rfl rfl (QV.indexSlice sl50 rfl rfl rfl rfl hp35) ?_
          refine WL.q rfl rfl rfl (QV.loadAgg ag61 rfl rfl rfl (fun w hw => ((Own.karr 0 rfl hk hF18) w hw).ele hp35 c32)) ?_
          refine WL.effect rfl ?_
          refine (EV.alloc (by decide) ze61 (fun b36 => ?_))
          refine WL.effect rfl ?_
          refine (EV.store 0 rfl rfl rfl rfl rfl rfl (vs := [.int .i64 ((ele x15 i12_3).fr), .int .i64 ((ele x15 i12_3).to), .int .i64 ((ele x15 i12_3).bk), .int .i64 ((ele x15 i12_3).wt)]) (show Value.cells _ = List.toArray _ from rfl) sz61 (Nat.le_of_ble_eq_true rfl) (one_cons rfl (one_cons rfl (one_cons rfl (one_cons rfl one_nil)))) ?_)
          refine WL.nil ?_
          refine WQ.then ?_
          refine WC.seq ?_
          refine WC.dr (m := 22) (S := Own noM w [kn noM w.heap.size w X18.2, blk b36 [.int .i64 ((ele x15 i12_3).fr), .int .i64 ((ele x15 i12_3).to), .int .i64 ((ele x15 i12_3).bk), .int .i64 ((ele x15 i12_3).wt)] 61, blk b3 [.int .i64 p.pace, v_p_times] 63, blk b2 [.int .i64 t.u0, .int .i64 t.u1, .int .i64 t.u2, .int .i64 t.w0, .int .i64 t.w1, .int .i64 t.w2, .int .i64 t.regs] 24, blk b1 [v_l_logs, v_l_body, v_l_outs] 49]) (by kernel_rfl) (by kernel_rfl) (fun w hw => hw.pick [1, 0, 2, 3, 4] (by decide)) ?_
          refine WD.q 0 rfl (by kernel_rfl) rfl rfl rfl (QV.fieldAddr fd63_1 rfl rfl) ?_
          refine WD.q 1 rfl (by kernel_rfl) rfl rfl rfl (QV.load pl30 rfl rfl (Own.cell 2 rfl rfl)) ?_
          refine WD.q 2 rfl (by kernel_rfl) rfl rfl rfl (QV.fieldAddr fd61_1 rfl rfl) ?_
          refine WD.q 3 rfl (by kernel_rfl) rfl rfl rfl (QV.load pl3 rfl rfl (Own.cell 1 rfl rfl)) ?_
          obtain ⟨c37, hm38⟩ := ck_some hm33; clear hm33
          obtain ⟨p39, hp40⟩ := (h_p_times.le hle18).lenMap.ix (sz := 1) ln_len c37
          refine WD.q 4 rfl (by kernel_rfl) rfl rfl rfl (QV.indexSlice sl30 rfl rfl rfl rfl hp40) ?_
          refine WD.q 5 rfl (by kernel_rfl) rfl rfl rfl (QV.load pl3 rfl rfl (fun w hw => CellsAt.one 0 (((Own.karr 0 rfl hk (h_p_times.le hle18)) w hw).ele hp40 c37) rfl)) ?_
          refine WD.q 6 rfl (by kernel_rfl) rfl rfl rfl (QV.fieldAddr fd61_2 rfl rfl) ?_
          refine WD.q 7 rfl (by kernel_rfl) rfl rfl rfl (QV.load pl3 rfl rfl (Own.cell 1 rfl rfl)) ?_
          refine WD.q 8 rfl (by kernel_rfl) rfl rfl rfl (QV.fieldAddr fd63_0 rfl rfl) ?_
          refine WD.q 9 rfl (by kernel_rfl) rfl rfl rfl (QV.load pl3 rfl rfl (Own.cell 2 rfl rfl)) ?_
          obtain ⟨c41, hm42⟩ := ck_some hm38; clear hm38
          refine WD.q 10 rfl (by kernel_rfl) rfl rfl rfl (QV.mul rfl rfl rfl rfl c41) ?_
          obtain ⟨c43, hm44⟩ := ck_some hm42; clear hm42
          refine WD.q 11 rfl (by kernel_rfl) rfl rfl rfl (QV.add rfl rfl rfl rfl c43) ?_
          refine WD.q 12 rfl (by kernel_rfl) rfl rfl rfl (QV.fieldAddr fd63_1 rfl rfl) ?_
          refine WD.q 13 rfl (by kernel_rfl) rfl rfl rfl (QV.load pl30 rfl rfl (Own.cell 2 rfl rfl)) ?_
          refine WD.q 14 rfl (by kernel_rfl) rfl rfl rfl (QV.fieldAddr fd61_0 rfl rfl) ?_
          refine WD.q 15 rfl (by kernel_rfl) rfl rfl rfl (QV.load pl3 rfl rfl (Own.cell 1 rfl rfl)) ?_
          obtain ⟨c45, hm46⟩ := ck_some hm44; clear hm44
          obtain ⟨p47, hp48⟩ := (h_p_times.le hle18).lenMap.ix (sz := 1) ln_len c45
          refine WD.q 16 rfl (by kernel_rfl) rfl rfl rfl (QV.indexSlice sl30 rfl rfl rfl rfl hp48) ?_
          refine WD.q 17 rfl (by kernel_rfl) rfl rfl rfl (QV.load pl3 rfl rfl (fun w hw => CellsAt.one 0 (((Own.karr 0 rfl hk (h_p_times.le hle18)) w hw).ele hp48 c45) rfl)) ?_
          refine WD.q 18 rfl (by kernel_rfl) rfl rfl rfl (QV.fieldAddr fd61_3 rfl rfl) ?_
          refine WD.q 19 rfl (by kernel_rfl) rfl rfl rfl (QV.load pl3 rfl rfl (Own.cell 1 rfl rfl)) ?_
          obtain ⟨c49, hm50⟩ := ck_some hm46; clear hm46
          refine WD.q 20 rfl (by kernel_rfl) rfl rfl rfl (QV.add rfl rfl rfl rfl c49) ?_
          refine WD.q 21 rfl (by kernel_rfl) rfl rfl rfl (QV.lss rfl rfl rfl rfl) ?_
          refine WD.e (by kernel_rfl) ?_
          refine WQ.then ?_
          refine WC.cond rfl (fun h51 => ?_) (fun h51 => ?_)
          · skip
            have hm52 := br_t h51 hm50; clear hm50
            refine WC.seq ?_
            refine WC.region ?_
            refine WL.q rfl rfl rfl (QV.assign rfl rfl) ?_
            refine WL.nil ?_
            refine WQ.then ?_
            refine WC.ret ?_
            refine WQ.block_ret ?_
            refine WQ.then_ret ?_
            refine WQ.then_ret ?_
            refine WQ.block_ret ?_
            refine WQ.then_ret ?_
            refine WQ.then_ret ?_
            obtain rfl := up_ret hm52 hn29
            obtain rfl := (eq_of_some hm21).symm
            refine WQ.ret1 rfl rfl (fun w hw => ?_)
            exact ⟨rfl, Own.kgrow (fun _ x => x) hw⟩
          · skip
            have hm53 := br_f h51 hm50; clear hm50
            refine WC.skip ?_
            refine WQ.block ?_
            refine WQ.then ?_
            refine WC.region ?_
            refine WL.q rfl rfl rfl (QV.move rfl rfl) ?_
            obtain ⟨c54, hm55⟩ := ck_some hm53; clear hm53
            refine WL.q rfl rfl rfl (QV.add rfl rfl rfl rfl c54) ?_
            refine WL.q rfl rfl rfl (QV.assign rfl rfl) ?_
            refine WL.nil ?_
            exact WQ.again1 (i12_3 + 1) m26 (up_next hm55 hn29) (Nat.lt_succ_self _) ⟨rfl, rfl, rfl, trivial⟩ (fun w hw => hw.pick [1, 2, 3, 4] (by decide))
        · skip
          have hm56 := br_f h30 hm28; clear hm28
          refine WC.exit ?_
          refine WQ.then_exit ?_
          refine WQ.then_exit ?_
          refine WQ.block_exit ?_
          exact WQ.out1 i12_3 (up_brk hm56 hn29) ⟨rfl, rfl, rfl, trivial⟩ (fun w hw => hw.pick [0, 1, 2, 3] (by decide))
    · skip
      rintro i7_2 m57 hI58
      obtain ⟨m59, s60, rfl, hm61, hn62⟩ := iter_step hI58; clear hI58; unfold roundelayref8_Legal_L0 at hm61
      refine WC.seq ?_
      refine WC.seq ?_
      refine WC.region ?_
      refine WL.q rfl rfl rfl (QV.move rfl rfl) ?_
      refine WL.q rfl rfl rfl (QV.fieldAddr fd63_1 rfl rfl) ?_
      refine WL.q rfl rfl rfl (QV.load pl30 rfl rfl (Own.cell 0 rfl rfl)) ?_
      refine WL.q rfl rfl rfl (QV.lenS Try.underlying30 rfl rfl h_p_times.lenMap) ?_
      refine WL.q rfl rfl rfl (QV.lss rfl rfl rfl rfl) ?_
      refine WL.nil ?_
      refine WQ.then ?_
      refine WC.cond rfl (fun h63 => ?_) (fun h63 => ?_)
      · skip
        have hm64 := br_t h63 hm61; clear hm61
        refine WC.skip ?_
        refine WQ.then ?_
        refine WC.seq ?_
        refine WC.block ?_
        refine WC.seq ?_
        refine WC.seq ?_
        refine WC.region ?_
        refine WL.q rfl rfl rfl (QV.fieldAddr fd63_1 rfl rfl) ?_
        refine WL.q rfl rfl rfl (QV.load pl30 rfl rfl (Own.cell 0 rfl rfl)) ?_
        refine WL.q rfl rfl rfl (QV.move rfl rfl) ?_
        obtain ⟨c65, hm66⟩ := ck_some hm64; clear hm64
        obtain ⟨p67, hp68⟩ := h_p_times.lenMap.ix (sz := 1) ln_len c65
        refine WL.q rfl rfl rfl (QV.indexSlice sl30 rfl rfl rfl rfl hp68) ?_
        refine WL.q rfl rfl rfl (QV.load pl3 rfl rfl (fun w hw => CellsAt.one 0 (((Own.karr 3 rfl hk h_p_times) w hw).ele hp68 c65) rfl)) ?_
        refine WL.q rfl rfl rfl (QV.lss rfl rfl rfl rfl) ?_
        refine WL.q rfl rfl rfl (QV.move rfl rfl) ?_
        refine WL.g rfl rfl (GuardIs.neg rfl rfl) (fun hG => QV.fieldAddr fd63_1 rfl rfl) ?_
        refine WL.g rfl rfl (GuardIs.neg rfl rfl) (fun hG => QV.load pl30 rfl hG (Own.cell 0 rfl rfl)) ?_
        refine WL.g rfl rfl (GuardIs.neg rfl rfl) (fun hG => QV.move rfl rfl) ?_
        obtain ⟨c69, hm70⟩ := ck_some hm66; clear hm66
        obtain ⟨p71, hp72⟩ := h_p_times.lenMap.ixG (sz := 1) ln_len c69
        refine WL.g rfl rfl (GuardIs.neg rfl rfl) (fun hG => QV.indexSlice sl30 rfl hG rfl hG (hp72 hG)) ?_
        refine WL.g rfl rfl (GuardIs.neg rfl rfl) (fun hG => QV.load pl3 rfl hG (fun w hw => CellsAt.one 0 (((Own.karr 3 rfl hk h_p_times) w hw).ele (hp72 hG) (c69 hG)) rfl)) ?_
        refine WL.g rfl rfl (GuardIs.neg rfl rfl) (fun hG => QV.gtr rfl hG rfl rfl) ?_
        refine WL.q rfl rfl rfl (QV.pickOr rfl rfl rfl (fun h => notF h)) ?_
        refine WL.nil ?_
        refine WQ.then ?_
        refine WC.cond rfl (fun h73 => ?_) (fun h73 => ?_)
        · skip
          have hm74 := br_t h73 hm70; clear hm70
          refine WC.seq ?_
          refine WC.region ?_
          refine WL.q rfl rfl rfl (QV.assign rfl rfl) ?_
          refine WL.nil ?_
          refine WQ.then ?_
          refine WC.ret ?_
          refine WQ.then_ret ?_
          refine WQ.block_ret ?_
          refine WQ.then_ret ?_
          refine WQ.then_ret ?_
          refine WQ.block_ret ?_
          refine WQ.then_ret ?_
          refine WQ.then_ret ?_
          obtain rfl := up_ret hm74 hn62
          obtain rfl := (eq_of_some hm12).symm
          refine WQ.ret1 rfl rfl (fun w hw => ?_)
          exact ⟨rfl, Own.kgrow (fun _ x => x) hw⟩
        · skip
          have hm75 := br_f h73 hm70; clear hm70
          refine WC.skip ?_
          refine WQ.then ?_
          refine WC.seq ?_
          refine WC.region ?_
          refine WL.q rfl rfl rfl (QV.fieldAddr fd49_1 rfl rfl) ?_
          refine WL.q rfl rfl rfl (QV.load pl47 rfl rfl (Own.cell 2 rfl rfl)) ?_
          refine WL.q rfl rfl rfl (QV.move rfl rfl) ?_
          obtain ⟨c76, hm77⟩ := ck_some hm75; clear hm75
          obtain ⟨p78, hp79⟩ := h_l_body.lenMap.ix (sz := 9) ln_len c76
          refine WL.q rfl rfl rfl (QV.indexSlice sl47 rfl rfl rfl rfl hp79) ?_
          refine WL.q rfl rfl rfl (QV.fieldAddr fd59_0 rfl rfl) ?_
          refine WL.q rfl rfl rfl (QV.load pl3 rfl rfl (fun w hw => CellsAt.one 0 (((Own.karr 3 rfl hk h_l_body) w hw).ele hp79 c76) rfl)) ?_
          obtain ⟨x80, hx81, hm82⟩ := bd_some hm77; clear hm77
          refine WL.q rfl rfl rfl (QV.call en52 (EvAll.cons rfl rfl EvAll.nil) (fun w hw => have h := roundelayref1_Class_w w hx81 ; h)) ?_
          refine WL.q rfl rfl rfl (QV.assign rfl rfl) ?_
          refine WL.nil ?_
          refine WQ.then ?_
          refine WC.seq ?_
          refine WC.region ?_
          refine WL.q rfl rfl rfl (QV.assign rfl rfl) ?_
          refine WL.nil ?_
          refine WQ.then ?_
          refine WC.seq ?_
          refine WC.seq ?_
          refine WC.region ?_
          refine WL.q rfl rfl rfl (QV.assign rfl rfl) ?_
          refine WL.nil ?_
          refine WQ.then ?_
          obtain ⟨o83, ho84, hm85⟩ := bd_some hm82; clear hm82; obtain ⟨n86, ho87⟩ := lp_some ho84
          refine WC.bloop2 (H2 := [blk b3 [.int .i64 p.pace, v_p_times] 63, blk b2 [.int .i64 t.u0, .int .i64 t.u1, .int .i64 t.u2, .int .i64 t.w0, .int .i64 t.w1, .int .i64 t.w2, .int .i64 t.regs] 24, blk b1 [v_l_logs, v_l_body, v_l_outs] 49, kn noM w.heap.size w w]) (τ := [(3, (true, _)), (4, (true, _)), (5, (true, _)), (7, (true, _)), (8, (true, _))]) (fun (many9_4 : Int) (j10_4 : Int) => [(9, (true, .int .i64 many9_4)), (10, (true, .int .i64 j10_4))]) (fun (many9_4 : Int) (j10_4 : Int) => []) (fun (many9_4 : Int) (j10_4 : Int) (m : Nat) => iter (roundelayref8_Legal_L2 l p i7_2 x80) m (many9_4, j10_4) = some o83) (fun (many9_4 : Int) (j10_4 : Int) => o83 = .go (many9_4, j10_4)) 0 0 n86 ho87 ⟨rfl, rfl, rfl, rfl, rfl, rfl, rfl, trivial⟩ (fun w hw => hw.pick [0, 1, 2, 3] (by decide)) ?_ ?_
          · skip
            rintro many9_4 j10_4 rfl
            refine WQ.then ?_
            refine WC.seq ?_
            refine WC.region ?_
            refine WL.q rfl rfl rfl (QV.move rfl rfl) ?_
            refine WL.q rfl rfl rfl (QV.move rfl rfl) ?_
            refine WL.q rfl rfl rfl (QV.fieldAddr fd24_0 rfl rfl) ?_
            obtain ⟨c88, hm89⟩ := ck_some hm85; clear hm85
            refine WL.q rfl rfl rfl (QV.indexArray ar22 rfl rfl rfl rfl c88.1 c88.2) ?_
            refine WL.q rfl rfl rfl (QV.load pl3 rfl rfl (Own.cellSym 1 rfl (sel3_get (off := 0) (i := x80) c88.1 c88.2 rfl rfl rfl) (addr_sym _ _ _))) ?_
            refine WL.q rfl rfl rfl (QV.gtr rfl rfl rfl rfl) ?_
            refine WL.nil ?_
            refine WQ.then ?_
            refine WC.cond rfl (fun h90 => ?_) (fun h90 => ?_)
            · skip
              have hm91 := br_t h90 hm89; clear hm89
              refine WC.seq ?_
              refine WC.region ?_
              refine WL.q rfl rfl rfl (QV.assign rfl rfl) ?_
              refine WL.nil ?_
              refine WQ.then ?_
              refine WC.ret ?_
              refine WQ.block_ret ?_
              refine WQ.then_ret ?_
              refine WQ.then_ret ?_
              refine WQ.block_ret ?_
              refine WQ.then_ret ?_
              refine WQ.then_ret ?_
              obtain rfl := up_ret hm91 hn62
              obtain rfl := (eq_of_some hm12).symm
              refine WQ.ret1 rfl rfl (fun w hw => ?_)
              exact ⟨rfl, Own.kgrow (fun _ x => x) hw⟩
            · skip
              have hm92 := br_f h90 hm89; clear hm89
              refine WC.skip ?_
              refine WQ.block ?_
              refine WQ.then ?_
              refine WC.region ?_
              refine WL.q rfl rfl rfl (QV.move rfl rfl) ?_
              obtain ⟨c93, hm94⟩ := ck_some hm92; clear hm92
              refine WL.q rfl rfl rfl (QV.add rfl rfl rfl rfl c93) ?_
              refine WL.q rfl rfl rfl (QV.assign rfl rfl) ?_
              refine WL.nil ?_
              exact WQ.again1 (i7_2 + 1) m59 (up_next hm94 hn62) (Nat.lt_succ_self _) ⟨rfl, rfl, rfl, rfl, trivial⟩ (fun w hw => hw.pick [0, 1, 2, 3] (by decide))
          · skip
            rintro many9_4 j10_4 m95 hI96
            obtain ⟨m97, s98, rfl, hm99, hn100⟩ := iter_step hI96; clear hI96; unfold roundelayref8_Legal_L2 at hm99; simp only at hm99
            refine WC.seq ?_
            refine WC.seq ?_
            refine WC.region ?_
            refine WL.q rfl rfl rfl (QV.move rfl rfl) ?_
            refine WL.q rfl rfl rfl (QV.fieldAddr fd63_1 rfl rfl) ?_
            refine WL.q rfl rfl rfl (QV.load pl30 rfl rfl (Own.cell 0 rfl rfl)) ?_
            refine WL.q rfl rfl rfl (QV.lenS Try.underlying30 rfl rfl h_p_times.lenMap) ?_
            refine WL.q rfl rfl rfl (QV.lss rfl rfl rfl rfl) ?_
            refine WL.nil ?_
            refine WQ.then ?_
            refine WC.cond rfl (fun h101 => ?_) (fun h101 => ?_)
            · skip
              have hm102 := br_t h101 hm99; clear hm99
              refine WC.skip ?_
              refine WQ.then ?_
              refine WC.seq ?_
              refine WC.block ?_
              refine WC.seq ?_
              refine WC.dr (m := 28) (S := Own noM w [kn noM w.heap.size w w, blk b3 [.int .i64 p.pace, v_p_times] 63, blk b2 [.int .i64 t.u0, .int .i64 t.u1, .int .i64 t.u2, .int .i64 t.w0, .int .i64 t.w1, .int .i64 t.w2, .int .i64 t.regs] 24, blk b1 [v_l_logs, v_l_body, v_l_outs] 49]) (by kernel_rfl) (by kernel_rfl) (fun w hw => hw.pick [3, 0, 1, 2] (by decide)) ?_
              refine WD.q 0 rfl (by kernel_rfl) rfl rfl rfl (QV.fieldAddr fd63_1 rfl rfl) ?_
              refine WD.q 1 rfl (by kernel_rfl) rfl rfl rfl (QV.load pl30 rfl rfl (Own.cell 1 rfl rfl)) ?_
              refine WD.q 2 rfl (by kernel_rfl) rfl rfl rfl (QV.move rfl rfl) ?_
              obtain ⟨c103, hm104⟩ := ck_some hm102; clear hm102
              obtain ⟨p105, hp106⟩ := h_p_times.lenMap.ix (sz := 1) ln_len c103
              refine WD.q 3 rfl (by kernel_rfl) rfl rfl rfl (QV.indexSlice sl30 rfl rfl rfl rfl hp106) ?_
              refine WD.q 4 rfl (by kernel_rfl) rfl rfl rfl (QV.load pl3 rfl rfl (fun w hw => CellsAt.one 0 (((Own.karr 0 rfl hk h_p_times) w hw).ele hp106 c103) rfl)) ?_
              refine WD.q 5 rfl (by kernel_rfl) rfl rfl rfl (QV.fieldAddr fd63_0 rfl rfl) ?_
              refine WD.q 6 rfl (by kernel_rfl) rfl rfl rfl (QV.load pl3 rfl rfl (Own.cell 1 rfl rfl)) ?_
              obtain ⟨c107, hm108⟩ := ck_some hm104; clear hm104
              refine WD.q 7 rfl (by kernel_rfl) rfl rfl rfl (QV.rem rfl rfl rfl rfl c107) ?_
              refine WD.q 8 rfl (by kernel_rfl) rfl rfl rfl (QV.fieldAddr fd63_1 rfl rfl) ?_
              refine WD.q 9 rfl (by kernel_rfl) rfl rfl rfl (QV.load pl30 rfl rfl (Own.cell 1 rfl rfl)) ?_
              refine WD.q 10 rfl (by kernel_rfl) rfl rfl rfl (QV.move rfl rfl) ?_
              obtain ⟨c109, hm110⟩ := ck_some hm108; clear hm108
              obtain ⟨p111, hp112⟩ := h_p_times.lenMap.ix (sz := 1) ln_len c109
              refine WD.q 11 rfl (by kernel_rfl) rfl rfl rfl (QV.indexSlice sl30 rfl rfl rfl rfl hp112) ?_
              refine WD.q 12 rfl (by kernel_rfl) rfl rfl rfl (QV.load pl3 rfl rfl (fun w hw => CellsAt.one 0 (((Own.karr 0 rfl hk h_p_times) w hw).ele hp112 c109) rfl)) ?_
              refine WD.q 13 rfl (by kernel_rfl) rfl rfl rfl (QV.fieldAddr fd63_0 rfl rfl) ?_
              refine WD.q 14 rfl (by kernel_rfl) rfl rfl rfl (QV.load pl3 rfl rfl (Own.cell 1 rfl rfl)) ?_
              obtain ⟨c113, hm114⟩ := ck_some hm110; clear hm110
              refine WD.q 15 rfl (by kernel_rfl) rfl rfl rfl (QV.rem rfl rfl rfl rfl c113) ?_
              refine WD.q 16 rfl (by kernel_rfl) rfl rfl rfl (QV.eql rfl rfl rfl rfl) ?_
              refine WD.q 17 rfl (by kernel_rfl) rfl rfl rfl (QV.move rfl rfl) ?_
              refine WD.g 18 rfl (by kernel_rfl) rfl rfl (GuardIs.pos rfl rfl) (fun hG => QV.fieldAddr fd49_1 rfl rfl) ?_
              refine WD.g 19 rfl (by kernel_rfl) rfl rfl (GuardIs.pos rfl rfl) (fun hG => QV.load pl47 rfl hG (Own.cell 3 rfl rfl)) ?_
              refine WD.g 20 rfl (by kernel_rfl) rfl rfl (GuardIs.pos rfl rfl) (fun hG => QV.move rfl rfl) ?_
              obtain ⟨c115, hm116⟩ := ck_some hm114; clear hm114
              obtain ⟨p117, hp118⟩ := h_l_body.lenMap.ixG (sz := 9) ln_len c115
              refine WD.g 21 rfl (by kernel_rfl) rfl rfl (GuardIs.pos rfl rfl) (fun hG => QV.indexSlice sl47 rfl hG rfl hG (hp118 hG)) ?_
              refine WD.g 22 rfl (by kernel_rfl) rfl rfl (GuardIs.pos rfl rfl) (fun hG => QV.fieldAddr fd59_0 rfl hG) ?_
              refine WD.g 23 rfl (by kernel_rfl) rfl rfl (GuardIs.pos rfl rfl) (fun hG => QV.load pl3 rfl hG (fun w hw => CellsAt.one 0 (((Own.karr 0 rfl hk h_l_body) w hw).ele (hp118 hG) (c115 hG)) rfl)) ?_
              obtain ⟨x119, hx120, hm121⟩ := bdG_some hm116; clear hm116
              refine WD.g 24 rfl (by kernel_rfl) rfl rfl (GuardIs.pos rfl rfl) (fun hG => QV.call en52 (EvAll.cons rfl hG EvAll.nil) (fun w hw => have h := roundelayref1_Class_w w (hx120 hG) ; h)) ?_
              refine WD.g 25 rfl (by kernel_rfl) rfl rfl (GuardIs.pos rfl rfl) (fun hG => QV.move rfl rfl) ?_
              refine WD.g 26 rfl (by kernel_rfl) rfl rfl (GuardIs.pos rfl rfl) (fun hG => QV.eql rfl hG rfl hG) ?_
              refine WD.q 27 rfl (by kernel_rfl) rfl rfl rfl (QV.pickAnd rfl rfl rfl (fun h => h)) ?_
              refine WD.e (by kernel_rfl) ?_
              refine WQ.then ?_
              refine WC.cond rfl (fun h122 => ?_) (fun h122 => ?_)
              · skip
                have hm123 := br_t h122 hm121; clear hm121
                refine WC.region ?_
                refine WL.q rfl rfl rfl (QV.move rfl rfl) ?_
                obtain ⟨c124, hm125⟩ := ck_some hm123; clear hm123
                refine WL.q rfl rfl rfl (QV.add rfl rfl rfl rfl c124) ?_
                refine WL.q rfl rfl rfl (QV.assign rfl rfl) ?_
                refine WL.nil ?_
                refine WQ.block ?_
                refine WQ.then ?_
                refine WC.region ?_
                refine WL.q rfl rfl rfl (QV.move rfl rfl) ?_
                obtain ⟨c126, hm127⟩ := ck_some hm125; clear hm125
                refine WL.q rfl rfl rfl (QV.add rfl rfl rfl rfl c126) ?_
                refine WL.q rfl rfl rfl (QV.assign rfl rfl) ?_
                refine WL.nil ?_
                exact WQ.again2 (many9_4 + 1) (j10_4 + 1) m97 (up_next hm127 hn100) (Nat.lt_succ_self _) ⟨rfl, rfl, rfl, rfl, rfl, rfl, rfl, trivial⟩ (fun w hw => hw.pick [0, 1, 2, 3] (by decide))
              · skip
                have hm128 := br_f h122 hm121; clear hm121
                refine WC.skip ?_
                refine WQ.block ?_
                refine WQ.then ?_
                refine WC.region ?_
                refine WL.q rfl rfl rfl (QV.move rfl rfl) ?_
                obtain ⟨c129, hm130⟩ := ck_some hm128; clear hm128
                refine WL.q rfl rfl rfl (QV.add rfl rfl rfl rfl c129) ?_
                refine WL.q rfl rfl rfl (QV.assign rfl rfl) ?_
                refine WL.nil ?_
                exact WQ.again2 many9_4 (j10_4 + 1) m97 (up_next hm130 hn100) (Nat.lt_succ_self _) ⟨rfl, rfl, rfl, rfl, rfl, rfl, rfl, trivial⟩ (fun w hw => hw.pick [0, 1, 2, 3] (by decide))
            · skip
              have hm131 := br_f h101 hm99; clear hm99
              refine WC.exit ?_
              refine WQ.then_exit ?_
              refine WQ.then_exit ?_
              refine WQ.block_exit ?_
              exact WQ.out2 many9_4 j10_4 (up_brk hm131 hn100) ⟨rfl, rfl, rfl, rfl, rfl, rfl, rfl, trivial⟩ (fun w hw => hw.pick [0, 1, 2, 3] (by decide))
      · skip
        have hm132 := br_f h63 hm61; clear hm61
        refine WC.exit ?_
        refine WQ.then_exit ?_
        refine WQ.then_exit ?_
        refine WQ.block_exit ?_
        exact WQ.out1 i7_2 (up_brk hm132 hn62) ⟨rfl, rfl, rfl, rfl, trivial⟩ (fun w hw => hw.pick [0, 1, 2, 3] (by decide))

set_option maxRecDepth 8000 in
theorem roundelayref8_All_w {v_l_logs : Value} {v_l_body : Value} {v_l_outs : Value} {l : Lp} {t : Tgt} {r : Int} (w : World) (hm : roundelayref8_All_m l t = some r) (h_l_logs : Arr w v_l_logs 1 (l.logs.map icell)) (h_l_body : Arr w v_l_body 9 (l.body.map Stm.cells)) (h_l_outs : Arr w v_l_outs 1 (l.outs.map icell)) : Calls Try.prog 36 #[.agg #[v_l_logs, v_l_body, v_l_outs], .agg #[.int .i64 t.u0, .int .i64 t.u1, .int .i64 t.u2, .int .i64 t.w0, .int .i64 t.w1, .int .i64 t.w2, .int .i64 t.regs]] w (fun e w' => e = .returned (.int .i64 r) ∧ Grow w w') := by
  unfold roundelayref8_All_m at hm
  have hk := Base.rfl (w := w)
  refine calls_of_WC (n := 27) (args := [.agg #[v_l_logs, v_l_body, v_l_outs], .agg #[.int .i64 t.u0, .int .i64 t.u1, .int .i64 t.u2, .int .i64 t.w0, .int .i64 t.w1, .int .i64 t.w2, .int .i64 t.regs]]) Try.func36 rfl rfl (Nat.le_of_ble_eq_true rfl) ?_ (Own.startK hk (Own.start w))
  refine WC.seq ?_
  refine WC.region ?_
  refine WL.effect rfl ?_
  refine (EV.boxAgg (by decide) rfl rfl (fun b1 => ?_))
  refine WL.effect rfl ?_
  refine (EV.boxAgg (by decide) rfl rfl (fun b2 => ?_))
  refine WL.q rfl rfl rfl (QV.assign rfl rfl) ?_
  refine WL.nil ?_
  refine WQ.then ?_
  refine WC.seq ?_
  refine WC.region ?_
  refine WL.q rfl rfl rfl (QV.assign rfl rfl) ?_
  refine WL.nil ?_
  refine WQ.then ?_
  refine WC.seq ?_
  refine WC.seq ?_
  refine WC.region ?_
  refine WL.q rfl rfl rfl (QV.assign rfl rfl) ?_
  refine WL.nil ?_
  refine WQ.then ?_
  obtain ⟨o3, ho4, hm5⟩ := bd_some hm; clear hm; obtain ⟨n6, ho7⟩ := lp_some ho4
  refine WC.bloop2 (H2 := [blk b2 [.int .i64 t.u0, .int .i64 t.u1, .int .i64 t.u2, .int .i64 t.w0, .int .i64 t.w1, .int .i64 t.w2, .int .i64 t.regs] 24, blk b1 [v_l_logs, v_l_body, v_l_outs] 49, kn noM w.heap.size w w]) (τ := [(2, (true, _)), (3, (true, _))]) (fun (n5_1 : Int) (i6_1 : Int) => [(5, (true, .int .i64 n5_1)), (6, (true, .int .i64 i6_1))]) (fun (n5_1 : Int) (i6_1 : Int) => []) (fun (n5_1 : Int) (i6_1 : Int) (m : Nat) => iter (roundelayref8_All_L0 l t) m (n5_1, i6_1) = some o3) (fun (n5_1 : Int) (i6_1 : Int) => o3 = .go (n5_1, i6_1)) 0 0 n6 ho7 ⟨rfl, rfl, rfl, rfl, trivial⟩ (fun w hw => hw.pick [0, 1, 2] (by decide)) ?_ ?_
  · skip
    rintro n5_1 i6_1 rfl
    refine WQ.then ?_
    refine WC.seq ?_
    refine WC.region ?_
    refine WL.q rfl rfl rfl (QV.move rfl rfl) ?_
    refine WL.q rfl rfl rfl (QV.assign rfl rfl) ?_
    refine WL.nil ?_
    refine WQ.then ?_
    refine WC.ret ?_
    obtain rfl := (eq_of_some hm5).symm
    refine WQ.ret1 rfl rfl (fun w hw => ?_)
    exact ⟨rfl, Own.kgrow (fun _ x => x) hw⟩
  · skip
    rintro n5_1 i6_1 m8 hI9
    obtain ⟨m10, s11, rfl, hm12, hn13⟩ := iter_step hI9; clear hI9; unfold roundelayref8_All_L0 at hm12; simp only at hm12
    refine WC.seq ?_
    refine WC.seq ?_
    refine WC.region ?_
    refine WL.q rfl rfl rfl (QV.move rfl rfl) ?_
    refine WL.q rfl rfl rfl (QV.fieldAddr fd49_1 rfl rfl) ?_
    refine WL.q rfl rfl rfl (QV.load pl47 rfl rfl (Own.cell 1 rfl rfl)) ?_
    refine WL.q rfl rfl rfl (QV.lenS Try.underlying47 rfl rfl h_l_body.lenMap) ?_
    refine WL.q rfl rfl rfl (QV.lss rfl rfl rfl rfl) ?_
    refine WL.nil ?_
    refine WQ.then ?_
    refine WC.cond rfl (fun h14 => ?_) (fun h14 => ?_)
    · skip
      have hm15 := br_t h14 hm12; clear hm12
      refine WC.skip ?_
      refine WQ.then ?_
      refine WC.seq ?_
      refine WC.block ?_
      refine WC.seq ?_
      refine WC.dr (m := 9) (S := Own noM w [kn noM w.heap.size w w, blk b2 [.int .i64 t.u0, .int .i64 t.u1, .int .i64 t.u2, .int .i64 t.w0, .int .i64 t.w1, .int .i64 t.w2, .int .i64 t.regs] 24, blk b1 [v_l_logs, v_l_body, v_l_outs] 49]) (by kernel_rfl) (by kernel_rfl) (fun w hw => hw.pick [2, 0, 1] (by decide)) ?_
      refine WD.q 0 rfl (by kernel_rfl) rfl rfl rfl (QV.loadAgg ag24 rfl rfl rfl (Own.cellsBlk 1 rfl)) ?_
      refine WD.q 1 rfl (by kernel_rfl) rfl rfl rfl (QV.fieldAddr fd49_1 rfl rfl) ?_
      refine WD.q 2 rfl (by kernel_rfl) rfl rfl rfl (QV.load pl47 rfl rfl (Own.cell 2 rfl rfl)) ?_
      refine WD.q 3 rfl (by kernel_rfl) rfl rfl rfl (QV.move rfl rfl) ?_
      obtain ⟨c16, hm17⟩ := ck_some hm15; clear hm15
      obtain ⟨p18, hp19⟩ := h_l_body.lenMap.ix (sz := 9) ln_len c16
      refine WD.q 4 rfl (by kernel_rfl) rfl rfl rfl (QV.indexSlice sl47 rfl rfl rfl rfl hp19) ?_
      refine WD.q 5 rfl (by kernel_rfl) rfl rfl rfl (QV.fieldAddr fd59_0 rfl rfl) ?_
      refine WD.q 6 rfl (by kernel_rfl) rfl rfl rfl (QV.load pl3 rfl rfl (fun w hw => CellsAt.one 0 (((Own.karr 0 rfl hk h_l_body) w hw).ele hp19 c16) rfl)) ?_
      obtain ⟨x20, hx21, hm22⟩ := bd_some hm17; clear hm17
      refine WD.q 7 rfl (by kernel_rfl) rfl rfl rfl (QV.call en78 (EvAll.cons rfl rfl (EvAll.cons rfl rfl EvAll.nil)) (fun w hw => have h := roundelayref4_Wait_w w hx21 ; h)) ?_
      refine WD.q 8 rfl (by kernel_rfl) rfl rfl rfl (QV.assign rfl rfl) ?_
      refine WD.e (by kernel_rfl) ?_
      refine WQ.then ?_
      refine WC.region ?_
      refine WL.q rfl rfl rfl (QV.move rfl rfl) ?_
      refine WL.q rfl rfl rfl (QV.move rfl rfl) ?_
      obtain ⟨c23, hm24⟩ := ck_some hm22; clear hm22
      refine WL.q rfl rfl rfl (QV.add rfl rfl rfl rfl c23) ?_
      refine WL.q rfl rfl rfl (QV.assign rfl rfl) ?_
      refine WL.nil ?_
      refine WQ.block ?_
      refine WQ.then ?_
      refine WC.region ?_
      refine WL.q rfl rfl rfl (QV.move rfl rfl) ?_
      obtain ⟨c25, hm26⟩ := ck_some hm24; clear hm24
      refine WL.q rfl rfl rfl (QV.add rfl rfl rfl rfl c25) ?_
      refine WL.q rfl rfl rfl (QV.assign rfl rfl) ?_
      refine WL.nil ?_
      exact WQ.again2 (n5_1 + x20) (i6_1 + 1) m10 (up_next hm26 hn13) (Nat.lt_succ_self _) ⟨rfl, rfl, rfl, rfl, trivial⟩ (fun w hw => hw.pick [0, 1, 2] (by decide))
    · skip
      have hm27 := br_f h14 hm12; clear hm12
      refine WC.exit ?_
      refine WQ.then_exit ?_
      refine WQ.then_exit ?_
      refine WQ.block_exit ?_
      exact WQ.out2 n5_1 i6_1 (up_brk hm27 hn13) ⟨rfl, rfl, rfl, rfl, trivial⟩ (fun w hw => hw.pick [0, 1, 2] (by decide))
end Go.Proofs.Ytaimbkndebaaiab
end

section
namespace Go.Proofs.Ytaimbkndebaaiab
open Go.Rd
set_option linter.unusedVariables false
namespace TRBound
theorem ag24 : AggT Try.prog 24 7 := ⟨_, Try.underlying24, rfl, by kernel_rfl⟩
theorem ag49 : AggT Try.prog 49 3 := ⟨_, Try.underlying49, rfl, by kernel_rfl⟩
theorem ag61 : AggT Try.prog 61 4 := ⟨_, Try.underlying61, rfl, by kernel_rfl⟩
theorem ar22 : ArrayT Try.prog 22 3 1 := ⟨_, Try.underlying22, by kernel_rfl⟩
theorem en25 : Go.Rd.Enters Try.prog 25 := ⟨Try.f25, Try.func25, by kernel_rfl, by kernel_rfl⟩
theorem en52 : Go.Rd.Enters Try.prog 52 := ⟨Try.f52, Try.func52, by kernel_rfl, by kernel_rfl⟩
theorem en72 : Go.Rd.Enters Try.prog 72 := ⟨Try.f72, Try.func72, by kernel_rfl, by kernel_rfl⟩
theorem fd24_0 : FieldT Try.prog 24 0 0 := ⟨_, _, 2, Try.underlying24, rfl, rfl, by kernel_rfl⟩
theorem fd49_1 : FieldT Try.prog 49 1 1 := ⟨_, _, 0, Try.underlying49, rfl, rfl, by kernel_rfl⟩
theorem fd59_0 : FieldT Try.prog 59 0 0 := ⟨_, _, 0, Try.underlying59, rfl, rfl, by kernel_rfl⟩
theorem fd61_0 : FieldT Try.prog 61 0 0 := ⟨_, _, 0, Try.underlying61, rfl, rfl, by kernel_rfl⟩
theorem fd61_1 : FieldT Try.prog 61 1 1 := ⟨_, _, 0, Try.underlying61, rfl, rfl, by kernel_rfl⟩
theorem fd61_2 : FieldT Try.prog 61 2 2 := ⟨_, _, 0, Try.underlying61, rfl, rfl, by kernel_rfl⟩
theorem fd61_3 : FieldT Try.prog 61 3 3 := ⟨_, _, 0, Try.underlying61, rfl, rfl, by kernel_rfl⟩
theorem pl3 : Plain Try.prog 3 := ⟨_, Try.underlying3, rfl⟩
theorem pl47 : Plain Try.prog 47 := ⟨_, Try.underlying47, rfl⟩
theorem sl30 : SliceT Try.prog 30 3 1 := ⟨Try.underlying30, by kernel_rfl⟩
theorem sl47 : SliceT Try.prog 47 59 9 := ⟨Try.underlying47, by kernel_rfl⟩
theorem sl50 : SliceT Try.prog 50 61 4 := ⟨Try.underlying50, by kernel_rfl⟩
theorem sz3 : SizeT Try.prog 3 1 := by unfold SizeT; kernel_rfl
theorem sz61 : SizeT Try.prog 61 4 := by unfold SizeT; kernel_rfl
theorem ve30 : VecT Try.prog 30 3 1 8 := ⟨Try.underlying30, by kernel_rfl, by decide⟩
theorem ze3 : ZeroT Try.prog 3 [.int .i64 0] := by unfold ZeroT; kernel_rfl
theorem ze61 : ZeroT Try.prog 61 [.int .i64 0, .int .i64 0, .int .i64 0, .int .i64 0] := by unfold ZeroT; kernel_rfl
end TRBound
open TRBound
set_option maxRecDepth 8000 in
theorem roundelayref7_Rounds_w {v_l : Value} {n_ : Int} {l : List Edg} {pace : Int} {r : Bool} (w : World) (hm : roundelayref7_Rounds_m n_ l pace = some r) (h_l : Arr w v_l 4 (l.map Edg.cells)) : Calls Try.prog 72 #[.int .i64 n_, v_l, .int .i64 pace] w (fun e w' => e = .returned (.bool r) ∧ Grow w w') := by
  unfold roundelayref7_Rounds_m at hm
  have hk := Base.rfl (w := w)
  refine calls_of_WC (n := 56) (args := [.int .i64 n_, v_l, .int .i64 pace]) Try.func72 rfl rfl (Nat.le_of_ble_eq_true rfl) ?_ (Own.startK hk (Own.start w))
  refine WC.seq ?_
  refine WC.region ?_
  refine WL.q rfl rfl rfl (QV.assign rfl rfl) ?_
  refine WL.nil ?_
  refine WQ.then ?_
  refine WC.seq ?_
  refine WC.region ?_
  refine WL.q rfl rfl rfl (QV.move rfl rfl) ?_
  refine WL.effect rfl ?_
  obtain ⟨c1, hm2⟩ := ck_some hm; clear hm
  obtain ⟨c3, hm4⟩ := ck_some hm2; clear hm2
  refine (EV.makeSlice (enc := icell) (0 : Int) (by decide) ve30 ze3 rfl rfl c1 rfl c3 (fun u5 hu6 => ?_))
  refine WL.q rfl rfl rfl (QV.assign rfl rfl) ?_
  refine WL.nil ?_
  refine WQ.then ?_
  refine WC.seq ?_
  refine WC.seq ?_
  refine WC.region ?_
  refine WL.q rfl rfl rfl (QV.assign rfl rfl) ?_
  refine WL.nil ?_
  refine WQ.then ?_
  obtain ⟨o8, ho9, hm10⟩ := bd_some hm4; clear hm4; obtain ⟨n11, ho12⟩ := lp_some ho9
  refine WC.bloop2 (H2 := [kn noM w.heap.size w w]) (τ := [(0, (true, _)), (1, (true, _)), (2, (true, _)), (7, (true, _))]) (fun (v7_3 : List Int) (round8_3 : Int) => [(8, (true, .int .i64 round8_3))]) (fun (v7_3 : List Int) (round8_3 : Int) => [vec u5 3 1 (List.map icell v7_3)]) (fun (v7_3 : List Int) (round8_3 : Int) (m : Nat) => iter (roundelayref7_Rounds_L0 n_ l pace) m (v7_3, round8_3) = some o8 ∧ SliceLen u5 v7_3.length) (fun (v7_3 : List Int) (round8_3 : Int) => o8 = .go (v7_3, round8_3) ∧ SliceLen u5 v7_3.length) (List.replicate n_.toNat (0 : Int)) 0 n11 ⟨ho12, hu6⟩ ⟨rfl, rfl, rfl, rfl, rfl, trivial⟩ (fun w hw => hw.pick [0, 1] (by decide)) ?_ ?_
  · skip
    rintro v7_3 round8_3 ⟨rfl, hlv7_3⟩
    refine WQ.then ?_
    refine WC.seq ?_
    refine WC.region ?_
    refine WL.q rfl rfl rfl (QV.assign rfl rfl) ?_
    refine WL.nil ?_
    refine WQ.then ?_
    refine WC.ret ?_
    obtain rfl := (eq_of_some hm10).symm
    refine WQ.ret1 rfl rfl (fun w hw => ?_)
    exact ⟨rfl, Own.kgrow (fun _ x => x) hw⟩
  · skip
    rintro v7_3 round8_3 m13 ⟨hI14, hlv7_3⟩
    obtain ⟨m15, s16, rfl, hm17, hn18⟩ := iter_step hI14; clear hI14; unfold roundelayref7_Rounds_L0 at hm17; simp only at hm17
    refine WC.seq ?_
    refine WC.seq ?_
    refine WC.region ?_
    refine WL.q rfl rfl rfl (QV.move rfl rfl) ?_
    refine WL.q rfl rfl rfl (QV.move rfl rfl) ?_
    refine WL.q rfl rfl rfl (QV.leq rfl rfl rfl rfl) ?_
    refine WL.nil ?_
    refine WQ.then ?_
    refine WC.cond rfl (fun h19 => ?_) (fun h19 => ?_)
    · skip
      have hm20 := br_t h19 hm17; clear hm17
      refine WC.skip ?_
      refine WQ.then ?_
      refine WC.seq ?_
      refine WC.block ?_
      refine WC.seq ?_
      refine WC.region ?_
      refine WL.q rfl rfl rfl (QV.assign rfl rfl) ?_
      refine WL.nil ?_
      refine WQ.then ?_
      refine WC.seq ?_
      refine WC.seq ?_
      refine WC.region ?_
      refine WL.q rfl rfl rfl (QV.assign rfl rfl) ?_
      refine WL.nil ?_
      refine WQ.then ?_
      obtain ⟨o21, ho22, hm23⟩ := bd_some hm20; clear hm20; obtain ⟨n24, ho25⟩ := lp_some ho22
      refine WC.bloop3 (H2 := [kn noM w.heap.size w w]) (τ := [(0, (true, _)), (1, (true, _)), (2, (true, _)), (7, (true, _)), (8, (true, _))]) (fun (v7_4 : List Int) (still9_4 : Bool) (i10_4 : Int) => [(9, (true, .bool still9_4)), (10, (true, .int .i64 i10_4))]) (fun (v7_4 : List Int) (still9_4 : Bool) (i10_4 : Int) => [vec u5 3 1 (List.map icell v7_4)]) (fun (v7_4 : List Int) (still9_4 : Bool) (i10_4 : Int) (m : Nat) => iter (roundelayref7_Rounds_L2 l pace) m (v7_4, still9_4, i10_4) = some o21 ∧ SliceLen u5 v7_4.length) (fun (v7_4 : List Int) (still9_4 : Bool) (i10_4 : Int) => o21 = .go (v7_4, still9_4, i10_4) ∧ SliceLen u5 v7_4.length) v7_3 true 0 n24 ⟨ho25, hlv7_3⟩ ⟨rfl, rfl, rfl, rfl, rfl, rfl, rfl, trivial⟩ (fun w hw => hw.pick [0, 1] (by decide)) ?_ ?_
      · skip
        rintro v7_4 still9_4 i10_4 ⟨rfl, hlv7_4⟩
        refine WQ.then ?_
        refine WC.seq ?_
        refine WC.region ?_
        refine WL.q rfl rfl rfl (QV.move rfl rfl) ?_
        refine WL.nil ?_
        refine WQ.then ?_
        refine WC.cond rfl (fun h26 => ?_) (fun h26 => ?_)
        · skip
          have hm27 := br_t h26 hm23; clear hm23
          refine WC.seq ?_
          refine WC.region ?_
          refine WL.q rfl rfl rfl (QV.assign rfl rfl) ?_
          refine WL.nil ?_
          refine WQ.then ?_
          refine WC.ret ?_
          refine WQ.block_ret ?_
          refine WQ.then_ret ?_
          refine WQ.then_ret ?_
          refine WQ.block_ret ?_
          refine WQ.then_ret ?_
          refine WQ.then_ret ?_
          obtain rfl := up_ret hm27 hn18
          obtain rfl := (eq_of_some hm10).symm
          refine WQ.ret1 rfl rfl (fun w hw => ?_)
          exact ⟨rfl, Own.kgrow (fun _ x => x) hw⟩
        · skip
          have hm28 := br_f h26 hm23; clear hm23
          refine WC.skip ?_
          refine WQ.block ?_
          refine WQ.then ?_
          refine WC.region ?_
          refine WL.q rfl rfl rfl (QV.move rfl rfl) ?_
          obtain ⟨c29, hm30⟩ := ck_some hm28; clear hm28
          refine WL.q rfl rfl rfl (QV.add rfl rfl rfl rfl c29) ?_
          refine WL.q rfl rfl rfl (QV.assign rfl rfl) ?_
          refine WL.nil ?_
          exact WQ.again2 v7_4 (round8_3 + 1) m15 ⟨up_next hm30 hn18, hlv7_4⟩ (Nat.lt_succ_self _) ⟨rfl, rfl, rfl, rfl, rfl, trivial⟩ (fun w hw => hw.pick [0, 1] (by decide))
      · skip
        rintro v7_4 still9_4 i10_4 m31 ⟨hI32, hlv7_4⟩
        obtain ⟨m33, s34, rfl, hm35, hn36⟩ := iter_step hI32; clear hI32; unfold roundelayref7_Rounds_L2 at hm35; simp only at hm35
        refine WC.seq ?_
        refine WC.seq ?_
        refine WC.region ?_
        refine WL.q rfl rfl rfl (QV.move rfl rfl) ?_
        refine WL.q rfl rfl rfl (QV.move rfl rfl) ?_
        refine WL.q rfl rfl rfl (QV.lenS Try.underlying50 rfl rfl h_l.lenMap) ?_
        refine WL.q rfl rfl rfl (QV.lss rfl rfl rfl rfl) ?_
        refine WL.nil ?_
        refine WQ.then ?_
        refine WC.cond rfl (fun h37 => ?_) (fun h37 => ?_)
        · skip
          have hm38 := br_t h37 hm35; clear hm35
          refine WC.skip ?_
          refine WQ.then ?_
          refine WC.seq ?_
          refine WC.block ?_
          refine WC.seq ?_
          refine WC.region ?_
          refine WL.q rfl rfl rfl (QV.move rfl rfl) ?_
          refine WL.q rfl rfl rfl (QV.move rfl rfl) ?_
          obtain ⟨c39, hm40⟩ := ck_some hm38; clear hm38
          obtain ⟨p41, hp42⟩ := h_l.lenMap.ix (sz := 4) ln_len c39
          refine WL.q rfl rfl rfl (QV.indexSlice sl50 rfl rfl rfl rfl hp42) ?_
          refine WL.q rfl rfl rfl (QV.loadAgg ag61 rfl rfl rfl (fun w hw => ((Own.karr 1 rfl hk h_l) w hw).ele hp42 c39)) ?_
          refine WL.effect rfl ?_
          refine (EV.alloc (by decide) ze61 (fun b43 => ?_))
          refine WL.effect rfl ?_
          refine (EV.store 0 rfl rfl rfl rfl rfl rfl (vs := [.int .i64 ((ele l i10_4).fr), .int .i64 ((ele l i10_4).to), .int .i64 ((ele l i10_4).bk), .int .i64 ((ele l i10_4).wt)]) (show Value.cells _ = List.toArray _ from rfl) sz61 (Nat.le_of_ble_eq_true rfl) (one_cons rfl (one_cons rfl (one_cons rfl (one_cons rfl one_nil)))) ?_)
          refine WL.nil ?_
          refine WQ.then ?_
          refine WC.seq ?_
          refine WC.dr (m := 14) (S := Own noM w [kn noM w.heap.size w w, blk b43 [.int .i64 ((ele l i10_4).fr), .int .i64 ((ele l i10_4).to), .int .i64 ((ele l i10_4).bk), .int .i64 ((ele l i10_4).wt)] 61, vec u5 3 1 (List.map icell v7_4)]) (by kernel_rfl) (by kernel_rfl) (fun w hw => hw.pick [2, 0, 1] (by decide)) ?_
          refine WD.q 0 rfl (by kernel_rfl) rfl rfl rfl (QV.move rfl rfl) ?_
          refine WD.q 1 rfl (by kernel_rfl) rfl rfl rfl (QV.fieldAddr fd61_0 rfl rfl) ?_
          refine WD.q 2 rfl (by kernel_rfl) rfl rfl rfl (QV.load pl3 rfl rfl (Own.cell 1 rfl rfl)) ?_
          obtain ⟨c44, hm45⟩ := ck_some hm40; clear hm40
          obtain ⟨p46, hp47⟩ := hlv7_4.ix (sz := 1) ln_len c44
          refine WD.q 3 rfl (by kernel_rfl) rfl rfl rfl (QV.indexSlice sl30 rfl rfl rfl rfl hp47) ?_
          refine WD.q 4 rfl (by kernel_rfl) rfl rfl rfl (QV.load pl3 rfl rfl (fun w hw => CellsAt.one 0 (((Own.vecArr 2 rfl) w hw).ele hp47 c44) rfl)) ?_
          refine WD.q 5 rfl (by kernel_rfl) rfl rfl rfl (QV.fieldAddr fd61_3 rfl rfl) ?_
          refine WD.q 6 rfl (by kernel_rfl) rfl rfl rfl (QV.load pl3 rfl rfl (Own.cell 1 rfl rfl)) ?_
          obtain ⟨c48, hm49⟩ := ck_some hm45; clear hm45
          refine WD.q 7 rfl (by kernel_rfl) rfl rfl rfl (QV.add rfl rfl rfl rfl c48) ?_
          refine WD.q 8 rfl (by kernel_rfl) rfl rfl rfl (QV.move rfl rfl) ?_
          refine WD.q 9 rfl (by kernel_rfl) rfl rfl rfl (QV.fieldAddr fd61_2 rfl rfl) ?_
          refine WD.q 10 rfl (by kernel_rfl) rfl rfl rfl (QV.load pl3 rfl rfl (Own.cell 1 rfl rfl)) ?_
          obtain ⟨c50, hm51⟩ := ck_some hm49; clear hm49
          refine WD.q 11 rfl (by kernel_rfl) rfl rfl rfl (QV.mul rfl rfl rfl rfl c50) ?_
          obtain ⟨c52, hm53⟩ := ck_some hm51; clear hm51
          refine WD.q 12 rfl (by kernel_rfl) rfl rfl rfl (QV.sub rfl rfl rfl rfl c52) ?_
          refine WD.q 13 rfl (by kernel_rfl) rfl rfl rfl (QV.assign rfl rfl) ?_
          refine WD.e (by kernel_rfl) ?_
          refine WQ.then ?_
          refine WC.seq ?_
          refine WC.region ?_
          refine WL.q rfl rfl rfl (QV.move rfl rfl) ?_
          refine WL.q rfl rfl rfl (QV.move rfl rfl) ?_
          refine WL.q rfl rfl rfl (QV.fieldAddr fd61_1 rfl rfl) ?_
          refine WL.q rfl rfl rfl (QV.load pl3 rfl rfl (Own.cell 0 rfl rfl)) ?_
          obtain ⟨c54, hm55⟩ := ck_some hm53; clear hm53
          obtain ⟨p56, hp57⟩ := hlv7_4.ix (sz := 1) ln_len c54
          refine WL.q rfl rfl rfl (QV.indexSlice sl30 rfl rfl rfl rfl hp57) ?_
          refine WL.q rfl rfl rfl (QV.load pl3 rfl rfl (fun w hw => CellsAt.one 0 (((Own.vecArr 1 rfl) w hw).ele hp57 c54) rfl)) ?_
          refine WL.q rfl rfl rfl (QV.gtr rfl rfl rfl rfl) ?_
          refine WL.nil ?_
          refine WQ.then ?_
          refine WC.cond rfl (fun h58 => ?_) (fun h58 => ?_)
          · skip
            have hm59 := br_t h58 hm55; clear hm55
            refine WC.seq ?_
            refine WC.region ?_
            refine WL.q rfl rfl rfl (QV.move rfl rfl) ?_
            refine WL.q rfl rfl rfl (QV.fieldAddr fd61_1 rfl rfl) ?_
            refine WL.q rfl rfl rfl (QV.load pl3 rfl rfl (Own.cell 0 rfl rfl)) ?_
            refine WL.q rfl rfl rfl (QV.move rfl rfl) ?_
            obtain ⟨c60, hm61⟩ := ck_some hm59; clear hm59
            obtain ⟨p62, hp63⟩ := hlv7_4.ix (sz := 1) ln_len c60
            refine WL.q rfl rfl rfl (QV.indexSlice sl30 rfl rfl rfl rfl hp63) ?_
            refine WL.effect rfl ?_
            refine (EV.storeV 1 (((ele v7_4 ((ele l i10_4).fr)) + (ele l i10_4).wt) - (pace * (ele l i10_4).bk)) icell_eq rfl rfl rfl rfl rfl hp63 rfl rfl sz3 ?_)
            have hl64 : SliceLen u5 (upd v7_4 ((ele l i10_4).to) (((ele v7_4 ((ele l i10_4).fr)) + (ele l i10_4).wt) - (pace * (ele l i10_4).bk))).length := slen_upd hlv7_4
            refine WL.nil ?_
            refine WQ.then ?_
            refine WC.region ?_
            refine WL.q rfl rfl rfl (QV.assign rfl rfl) ?_
            refine WL.nil ?_
            refine WQ.block ?_
            refine WQ.then ?_
            refine WC.region ?_
            refine WL.q rfl rfl rfl (QV.move rfl rfl) ?_
            obtain ⟨c65, hm66⟩ := ck_some hm61; clear hm61
            refine WL.q rfl rfl rfl (QV.add rfl rfl rfl rfl c65) ?_
            refine WL.q rfl rfl rfl (QV.assign rfl rfl) ?_
            refine WL.nil ?_
            exact WQ.again3 (upd v7_4 ((ele l i10_4).to) (((ele v7_4 ((ele l i10_4).fr)) + (ele l i10_4).wt) - (pace * (ele l i10_4).bk))) false (i10_4 + 1) m33 ⟨up_next hm66 hn36, hl64⟩ (Nat.lt_succ_self _) ⟨rfl, rfl, rfl, rfl, rfl, rfl, rfl, trivial⟩ (fun w hw => hw.pick [1, 2] (by decide))
          · skip
            have hm67 := br_f h58 hm55; clear hm55
            refine WC.skip ?_
            refine WQ.block ?_
            refine WQ.then ?_
            refine WC.region ?_
            refine WL.q rfl rfl rfl (QV.move rfl rfl) ?_
            obtain ⟨c68, hm69⟩ := ck_some hm67; clear hm67
            refine WL.q rfl rfl rfl (QV.add rfl rfl rfl rfl c68) ?_
            refine WL.q rfl rfl rfl (QV.assign rfl rfl) ?_
            refine WL.nil ?_
            exact WQ.again3 v7_4 still9_4 (i10_4 + 1) m33 ⟨up_next hm69 hn36, hlv7_4⟩ (Nat.lt_succ_self _) ⟨rfl, rfl, rfl, rfl, rfl, rfl, rfl, trivial⟩ (fun w hw => hw.pick [1, 2] (by decide))
        · skip
          have hm70 := br_f h37 hm35; clear hm35
          refine WC.exit ?_
          refine WQ.then_exit ?_
          refine WQ.then_exit ?_
          refine WQ.block_exit ?_
          exact WQ.out3 v7_4 still9_4 i10_4 ⟨up_brk hm70 hn36, hlv7_4⟩ ⟨rfl, rfl, rfl, rfl, rfl, rfl, rfl, trivial⟩ (fun w hw => hw.pick [0, 1] (by decide))
    · skip
      have hm71 := br_f h19 hm17; clear hm17
      refine WC.exit ?_
      refine WQ.then_exit ?_
      refine WQ.then_exit ?_
      refine WQ.block_exit ?_
      exact WQ.out2 v7_3 round8_3 ⟨up_brk hm71 hn18, hlv7_3⟩ ⟨rfl, rfl, rfl, rfl, rfl, trivial⟩ (fun w hw => hw.pick [0, 1] (by decide))

set_option maxRecDepth 8000 in
theorem roundelayref7_Units_w {v_l_logs : Value} {v_l_body : Value} {v_l_outs : Value} {l : Lp} {t : Tgt} {r : Int} (w : World) (hm : roundelayref7_Units_m l t = some r) (h_l_logs : Arr w v_l_logs 1 (l.logs.map icell)) (h_l_body : Arr w v_l_body 9 (l.body.map Stm.cells)) (h_l_outs : Arr w v_l_outs 1 (l.outs.map icell)) : Calls Try.prog 30 #[.agg #[v_l_logs, v_l_body, v_l_outs], .agg #[.int .i64 t.u0, .int .i64 t.u1, .int .i64 t.u2, .int .i64 t.w0, .int .i64 t.w1, .int .i64 t.w2, .int .i64 t.regs]] w (fun e w' => e = .returned (.int .i64 r) ∧ Grow w w') := by
  unfold roundelayref7_Units_m at hm
  have hk := Base.rfl (w := w)
  refine calls_of_WC (n := 42) (args := [.agg #[v_l_logs, v_l_body, v_l_outs], .agg #[.int .i64 t.u0, .int .i64 t.u1, .int .i64 t.u2, .int .i64 t.w0, .int .i64 t.w1, .int .i64 t.w2, .int .i64 t.regs]]) Try.func30 rfl rfl (Nat.le_of_ble_eq_true rfl) ?_ (Own.startK hk (Own.start w))
  refine WC.seq ?_
  refine WC.region ?_
  refine WL.effect rfl ?_
  refine (EV.boxAgg (by decide) rfl rfl (fun b1 => ?_))
  refine WL.effect rfl ?_
  refine (EV.boxAgg (by decide) rfl rfl (fun b2 => ?_))
  refine WL.q rfl rfl rfl (QV.assign rfl rfl) ?_
  refine WL.nil ?_
  refine WQ.then ?_
  refine WC.seq ?_
  refine WC.region ?_
  refine WL.q rfl rfl rfl (QV.assign rfl rfl) ?_
  refine WL.nil ?_
  refine WQ.then ?_
  refine WC.seq ?_
  refine WC.seq ?_
  refine WC.region ?_
  refine WL.q rfl rfl rfl (QV.assign rfl rfl) ?_
  refine WL.nil ?_
  refine WQ.then ?_
  obtain ⟨o3, ho4, hm5⟩ := bd_some hm; clear hm; obtain ⟨n6, ho7⟩ := lp_some ho4
  refine WC.bloop2 (H2 := [blk b2 [.int .i64 t.u0, .int .i64 t.u1, .int .i64 t.u2, .int .i64 t.w0, .int .i64 t.w1, .int .i64 t.w2, .int .i64 t.regs] 24, blk b1 [v_l_logs, v_l_body, v_l_outs] 49, kn noM w.heap.size w w]) (τ := [(2, (true, _)), (3, (true, _))]) (fun (pace5_3 : Int) (c6_3 : Int) => [(5, (true, .int .i64 pace5_3)), (6, (true, .int .i64 c6_3))]) (fun (pace5_3 : Int) (c6_3 : Int) => []) (fun (pace5_3 : Int) (c6_3 : Int) (m : Nat) => iter (roundelayref7_Units_L0 l t) m (pace5_3, c6_3) = some o3) (fun (pace5_3 : Int) (c6_3 : Int) => o3 = .go (pace5_3, c6_3)) 1 0 n6 ho7 ⟨rfl, rfl, rfl, rfl, trivial⟩ (fun w hw => hw.pick [0, 1, 2] (by decide)) ?_ ?_
  · skip
    rintro pace5_3 c6_3 rfl
    refine WQ.then ?_
    refine WC.seq ?_
    refine WC.region ?_
    refine WL.q rfl rfl rfl (QV.move rfl rfl) ?_
    refine WL.q rfl rfl rfl (QV.assign rfl rfl) ?_
    refine WL.nil ?_
    refine WQ.then ?_
    refine WC.ret ?_
    obtain rfl := (eq_of_some hm5).symm
    refine WQ.ret1 rfl rfl (fun w hw => ?_)
    exact ⟨rfl, Own.kgrow (fun _ x => x) hw⟩
  · skip
    rintro pace5_3 c6_3 m8 hI9
    obtain ⟨m10, s11, rfl, hm12, hn13⟩ := iter_step hI9; clear hI9; unfold roundelayref7_Units_L0 at hm12; simp only at hm12
    refine WC.seq ?_
    refine WC.seq ?_
    refine WC.region ?_
    refine WL.q rfl rfl rfl (QV.move rfl rfl) ?_
    refine WL.q rfl rfl rfl (QV.lss rfl rfl rfl rfl) ?_
    refine WL.nil ?_
    refine WQ.then ?_
    refine WC.cond rfl (fun h14 => ?_) (fun h14 => ?_)
    · skip
      have hm15 := br_t h14 hm12; clear hm12
      refine WC.skip ?_
      refine WQ.then ?_
      refine WC.seq ?_
      refine WC.block ?_
      refine WC.seq ?_
      refine WC.region ?_
      refine WL.q rfl rfl rfl (QV.assign rfl rfl) ?_
      refine WL.nil ?_
      refine WQ.then ?_
      refine WC.seq ?_
      refine WC.seq ?_
      refine WC.region ?_
      refine WL.q rfl rfl rfl (QV.assign rfl rfl) ?_
      refine WL.nil ?_
      refine WQ.then ?_
      obtain ⟨o16, ho17, hm18⟩ := bd_some hm15; clear hm15; obtain ⟨n19, ho20⟩ := lp_some ho17
      refine WC.bloop2 (H2 := [blk b2 [.int .i64 t.u0, .int .i64 t.u1, .int .i64 t.u2, .int .i64 t.w0, .int .i64 t.w1, .int .i64 t.w2, .int .i64 t.regs] 24, blk b1 [v_l_logs, v_l_body, v_l_outs] 49, kn noM w.heap.size w w]) (τ := [(2, (true, _)), (3, (true, _)), (5, (true, _)), (6, (true, _))]) (fun (n7_4 : Int) (i8_4 : Int) => [(7, (true, .int .i64 n7_4)), (8, (true, .int .i64 i8_4))]) (fun (n7_4 : Int) (i8_4 : Int) => []) (fun (n7_4 : Int) (i8_4 : Int) (m : Nat) => iter (roundelayref7_Units_L2 l c6_3) m (n7_4, i8_4) = some o16) (fun (n7_4 : Int) (i8_4 : Int) => o16 = .go (n7_4, i8_4)) 0 0 n19 ho20 ⟨rfl, rfl, rfl, rfl, rfl, rfl, trivial⟩ (fun w hw => hw.pick [0, 1, 2] (by decide)) ?_ ?_
      · skip
        rintro n7_4 i8_4 rfl
        refine WQ.then ?_
        obtain ⟨o21, ho22, hm23⟩ := bd_some hm18; clear hm18; obtain ⟨n24, ho25⟩ := lp_some ho22
        refine WC.bloop1 (H2 := [blk b2 [.int .i64 t.u0, .int .i64 t.u1, .int .i64 t.u2, .int .i64 t.w0, .int .i64 t.w1, .int .i64 t.w2, .int .i64 t.regs] 24, blk b1 [v_l_logs, v_l_body, v_l_outs] 49, kn noM w.heap.size w w]) (τ := [(2, (true, _)), (3, (true, _)), (6, (true, _)), (7, (true, _))]) (fun (pace5_5 : Int) => [(5, (true, .int .i64 pace5_5))]) (fun (pace5_5 : Int) => []) (fun (pace5_5 : Int) (m : Nat) => iter (roundelayref7_Units_L4 t c6_3 n7_4) m pace5_5 = some o21) (fun (pace5_5 : Int) => o21 = .go pace5_5) pace5_3 n24 ho25 ⟨rfl, rfl, rfl, rfl, rfl, trivial⟩ (fun w hw => hw.pick [0, 1, 2] (by decide)) ?_ ?_
        · skip
          rintro pace5_5 rfl
          refine WQ.block ?_
          refine WQ.then ?_
          refine WC.region ?_
          refine WL.q rfl rfl rfl (QV.move rfl rfl) ?_
          obtain ⟨c26, hm27⟩ := ck_some hm23; clear hm23
          refine WL.q rfl rfl rfl (QV.add rfl rfl rfl rfl c26) ?_
          refine WL.q rfl rfl rfl (QV.assign rfl rfl) ?_
          refine WL.nil ?_
          exact WQ.again2 pace5_5 (c6_3 + 1) m10 (up_next hm27 hn13) (Nat.lt_succ_self _) ⟨rfl, rfl, rfl, rfl, trivial⟩ (fun w hw => hw.pick [0, 1, 2] (by decide))
        · skip
          rintro pace5_5 m28 hI29
          obtain ⟨m30, s31, rfl, hm32, hn33⟩ := iter_step hI29; clear hI29; unfold roundelayref7_Units_L4 at hm32
          refine WC.seq ?_
          refine WC.seq ?_
          refine WC.region ?_
          refine WL.q rfl rfl rfl (QV.move rfl rfl) ?_
          refine WL.q rfl rfl rfl (QV.move rfl rfl) ?_
          refine WL.q rfl rfl rfl (QV.fieldAddr fd24_0 rfl rfl) ?_
          obtain ⟨c34, hm35⟩ := ck_some hm32; clear hm32
          refine WL.q rfl rfl rfl (QV.indexArray ar22 rfl rfl rfl rfl c34.1 c34.2) ?_
          refine WL.q rfl rfl rfl (QV.load pl3 rfl rfl (Own.cellSym 0 rfl (sel3_get (off := 0) (i := c6_3) c34.1 c34.2 rfl rfl rfl) (addr_sym _ _ _))) ?_
          obtain ⟨c36, hm37⟩ := ck_some hm35; clear hm35
          refine WL.q rfl rfl rfl (QV.mul rfl rfl rfl rfl c36) ?_
          refine WL.q rfl rfl rfl (QV.move rfl rfl) ?_
          refine WL.q rfl rfl rfl (QV.lss rfl rfl rfl rfl) ?_
          refine WL.nil ?_
          refine WQ.then ?_
          refine WC.cond rfl (fun h38 => ?_) (fun h38 => ?_)
          · skip
            have hm39 := br_t h38 hm37; clear hm37
            refine WC.skip ?_
            refine WQ.then ?_
            refine WC.block ?_
            refine WC.region ?_
            refine WL.q rfl rfl rfl (QV.move rfl rfl) ?_
            obtain ⟨c40, hm41⟩ := ck_some hm39; clear hm39
            refine WL.q rfl rfl rfl (QV.add rfl rfl rfl rfl c40) ?_
            refine WL.q rfl rfl rfl (QV.assign rfl rfl) ?_
            refine WL.nil ?_
            refine WQ.block ?_
            exact WQ.again1 (pace5_5 + 1) m30 (up_next hm41 hn33) (Nat.lt_succ_self _) ⟨rfl, rfl, rfl, rfl, rfl, trivial⟩ (fun w hw => hw.pick [0, 1, 2] (by decide))
          · skip
            have hm42 := br_f h38 hm37; clear hm37
            refine WC.exit ?_
            refine WQ.then_exit ?_
            refine WQ.then_exit ?_
            refine WQ.block_exit ?_
            exact WQ.out1 pace5_5 (up_brk hm42 hn33) ⟨rfl, rfl, rfl, rfl, rfl, trivial⟩ (fun w hw => hw.pick [0, 1, 2] (by decide))
      · skip
        rintro n7_4 i8_4 m43 hI44
        obtain ⟨m45, s46, rfl, hm47, hn48⟩ := iter_step hI44; clear hI44; unfold roundelayref7_Units_L2 at hm47; simp only at hm47
        refine WC.seq ?_
        refine WC.seq ?_
        refine WC.region ?_
        refine WL.q rfl rfl rfl (QV.move rfl rfl) ?_
        refine WL.q rfl rfl rfl (QV.fieldAddr fd49_1 rfl rfl) ?_
        refine WL.q rfl rfl rfl (QV.load pl47 rfl rfl (Own.cell 1 rfl rfl)) ?_
        refine WL.q rfl rfl rfl (QV.lenS Try.underlying47 rfl rfl h_l_body.lenMap) ?_
        refine WL.q rfl rfl rfl (QV.lss rfl rfl rfl rfl) ?_
        refine WL.nil ?_
        refine WQ.then ?_
        refine WC.cond rfl (fun h49 => ?_) (fun h49 => ?_)
        · skip
          have hm50 := br_t h49 hm47; clear hm47
          refine WC.skip ?_
          refine WQ.then ?_
          refine WC.seq ?_
          refine WC.block ?_
          refine WC.seq ?_
          refine WC.region ?_
          refine WL.q rfl rfl rfl (QV.fieldAddr fd49_1 rfl rfl) ?_
          refine WL.q rfl rfl rfl (QV.load pl47 rfl rfl (Own.cell 1 rfl rfl)) ?_
          refine WL.q rfl rfl rfl (QV.move rfl rfl) ?_
          obtain ⟨c51, hm52⟩ := ck_some hm50; clear hm50
          obtain ⟨p53, hp54⟩ := h_l_body.lenMap.ix (sz := 9) ln_len c51
          refine WL.q rfl rfl rfl (QV.indexSlice sl47 rfl rfl rfl rfl hp54) ?_
          refine WL.q rfl rfl rfl (QV.fieldAddr fd59_0 rfl rfl) ?_
          refine WL.q rfl rfl rfl (QV.load pl3 rfl rfl (fun w hw => CellsAt.one 0 (((Own.karr 2 rfl hk h_l_body) w hw).ele hp54 c51) rfl)) ?_
          obtain ⟨x55, hx56, hm57⟩ := bd_some hm52; clear hm52
          refine WL.q rfl rfl rfl (QV.call en52 (EvAll.cons rfl rfl EvAll.nil) (fun w hw => have h := roundelayref1_Class_w w hx56 ; h)) ?_
          refine WL.q rfl rfl rfl (QV.move rfl rfl) ?_
          refine WL.q rfl rfl rfl (QV.eql rfl rfl rfl rfl) ?_
          refine WL.nil ?_
          refine WQ.then ?_
          refine WC.cond rfl (fun h58 => ?_) (fun h58 => ?_)
          · skip
            have hm59 := br_t h58 hm57; clear hm57
            refine WC.region ?_
            refine WL.q rfl rfl rfl (QV.move rfl rfl) ?_
            obtain ⟨c60, hm61⟩ := ck_some hm59; clear hm59
            refine WL.q rfl rfl rfl (QV.add rfl rfl rfl rfl c60) ?_
            refine WL.q rfl rfl rfl (QV.assign rfl rfl) ?_
            refine WL.nil ?_
            refine WQ.block ?_
            refine WQ.then ?_
            refine WC.region ?_
            refine WL.q rfl rfl rfl (QV.move rfl rfl) ?_
            obtain ⟨c62, hm63⟩ := ck_some hm61; clear hm61
            refine WL.q rfl rfl rfl (QV.add rfl rfl rfl rfl c62) ?_
            refine WL.q rfl rfl rfl (QV.assign rfl rfl) ?_
            refine WL.nil ?_
            exact WQ.again2 (n7_4 + 1) (i8_4 + 1) m45 (up_next hm63 hn48) (Nat.lt_succ_self _) ⟨rfl, rfl, rfl, rfl, rfl, rfl, trivial⟩ (fun w hw => hw.pick [0, 1, 2] (by decide))
          · skip
            have hm64 := br_f h58 hm57; clear hm57
            refine WC.skip ?_
            refine WQ.block ?_
            refine WQ.then ?_
            refine WC.region ?_
            refine WL.q rfl rfl rfl (QV.move rfl rfl) ?_
            obtain ⟨c65, hm66⟩ := ck_some hm64; clear hm64
            refine WL.q rfl rfl rfl (QV.add rfl rfl rfl rfl c65) ?_
            refine WL.q rfl rfl rfl (QV.assign rfl rfl) ?_
            refine WL.nil ?_
            exact WQ.again2 n7_4 (i8_4 + 1) m45 (up_next hm66 hn48) (Nat.lt_succ_self _) ⟨rfl, rfl, rfl, rfl, rfl, rfl, trivial⟩ (fun w hw => hw.pick [0, 1, 2] (by decide))
        · skip
          have hm67 := br_f h49 hm47; clear hm47
          refine WC.exit ?_
          refine WQ.then_exit ?_
          refine WQ.then_exit ?_
          refine WQ.block_exit ?_
          exact WQ.out2 n7_4 i8_4 (up_brk hm67 hn48) ⟨rfl, rfl, rfl, rfl, rfl, rfl, trivial⟩ (fun w hw => hw.pick [0, 1, 2] (by decide))
    · skip
      have hm68 := br_f h14 hm12; clear hm12
      refine WC.exit ?_
      refine WQ.then_exit ?_
      refine WQ.then_exit ?_
      refine WQ.block_exit ?_
      exact WQ.out2 pace5_3 c6_3 (up_brk hm68 hn13) ⟨rfl, rfl, rfl, rfl, trivial⟩ (fun w hw => hw.pick [0, 1, 2] (by decide))

set_option maxRecDepth 8000 in
theorem roundelayref7_Least_w {v_l_logs : Value} {v_l_body : Value} {v_l_outs : Value} {l : Lp} {t : Tgt} {r : Int} (w : World) (hm : roundelayref7_Least_m l t = some r) (h_l_logs : Arr w v_l_logs 1 (l.logs.map icell)) (h_l_body : Arr w v_l_body 9 (l.body.map Stm.cells)) (h_l_outs : Arr w v_l_outs 1 (l.outs.map icell)) : Calls Try.prog 31 #[.agg #[v_l_logs, v_l_body, v_l_outs], .agg #[.int .i64 t.u0, .int .i64 t.u1, .int .i64 t.u2, .int .i64 t.w0, .int .i64 t.w1, .int .i64 t.w2, .int .i64 t.regs]] w (fun e w' => e = .returned (.int .i64 r) ∧ Grow w w') := by
  unfold roundelayref7_Least_m at hm
  have hk := Base.rfl (w := w)
  refine calls_of_WC (n := 20) (args := [.agg #[v_l_logs, v_l_body, v_l_outs], .agg #[.int .i64 t.u0, .int .i64 t.u1, .int .i64 t.u2, .int .i64 t.w0, .int .i64 t.w1, .int .i64 t.w2, .int .i64 t.regs]]) Try.func31 rfl rfl (Nat.le_of_ble_eq_true rfl) ?_ (Own.startK hk (Own.start w))
  refine WC.seq ?_
  refine WC.region ?_
  refine WL.effect rfl ?_
  refine (EV.boxAgg (by decide) rfl rfl (fun b1 => ?_))
  refine WL.effect rfl ?_
  refine (EV.boxAgg (by decide) rfl rfl (fun b2 => ?_))
  refine WL.q rfl rfl rfl (QV.assign rfl rfl) ?_
  refine WL.nil ?_
  refine WQ.then ?_
  refine WC.seq ?_
  refine WC.region ?_
  refine WL.q rfl rfl rfl (QV.loadAgg ag49 rfl rfl rfl (Own.cellsBlk 1 rfl)) ?_
  refine WL.q rfl rfl rfl (QV.loadAgg ag24 rfl rfl rfl (Own.cellsBlk 0 rfl)) ?_
  refine WL.effect rfl ?_
  obtain ⟨x3, hx4, hm5⟩ := bd_some hm; clear hm
  refine EV.of (C' := Own noM w [kn noM w.heap.size w w, blk b2 [.int .i64 t.u0, .int .i64 t.u1, .int .i64 t.u2, .int .i64 t.w0, .int .i64 t.w1, .int .i64 t.w2, .int .i64 t.regs] 24, blk b1 [v_l_logs, v_l_body, v_l_outs] 49]) (fun w hw => hw.pick [2, 0, 1] (by decide)) ?_
  refine (EV.callR (X := Value × World) (R := []) (fun X => X.1) (fun X => []) (fun X => X.2) (fun X => Arr X.2 X.1 4 (x3.map Edg.cells)) hk (fun _ h => by cases h; decide) en25 (EvAll.cons rfl rfl (EvAll.cons rfl rfl EvAll.nil)) (fun M w h1 h2 => have h := roundelayref6_Edges_w hx4 h_l_logs h_l_body h_l_outs M w h1 h2; h) (fun X6 hF6 hle6 => ?_))
  refine WL.q rfl rfl rfl (QV.assign rfl rfl) ?_
  refine WL.nil ?_
  refine WQ.then ?_
  refine WC.seq ?_
  refine WC.region ?_
  refine WL.q rfl rfl rfl (QV.assign rfl rfl) ?_
  refine WL.nil ?_
  refine WQ.then ?_
  refine WC.seq ?_
  obtain ⟨o7, ho8, hm9⟩ := bd_some hm5; clear hm5; obtain ⟨n10, ho11⟩ := lp_some ho8
  refine WC.bloop1 (H2 := [kn noM w.heap.size w X6.2, blk b2 [.int .i64 t.u0, .int .i64 t.u1, .int .i64 t.u2, .int .i64 t.w0, .int .i64 t.w1, .int .i64 t.w2, .int .i64 t.regs] 24, blk b1 [v_l_logs, v_l_body, v_l_outs] 49]) (τ := [(2, (true, _)), (5, (true, _))]) (fun (pace6_1 : Int) => [(6, (true, .int .i64 pace6_1))]) (fun (pace6_1 : Int) => []) (fun (pace6_1 : Int) (m : Nat) => iter (roundelayref7_Least_L0 l x3) m pace6_1 = some o7) (fun (pace6_1 : Int) => o7 = .go pace6_1) 1 n10 ho11 ⟨rfl, rfl, rfl, trivial⟩ (fun w hw => hw.pick [0, 1, 2] (by decide)) ?_ ?_
  · skip
    rintro pace6_1 rfl
    refine WQ.then ?_
    refine WC.seq ?_
    refine WC.region ?_
    refine WL.q rfl rfl rfl (QV.move rfl rfl) ?_
    refine WL.q rfl rfl rfl (QV.assign rfl rfl) ?_
    refine WL.nil ?_
    refine WQ.then ?_
    refine WC.ret ?_
    obtain rfl := (eq_of_some hm9).symm
    refine WQ.ret1 rfl rfl (fun w hw => ?_)
    exact ⟨rfl, Own.kgrow (fun _ x => x) hw⟩
  · skip
    rintro pace6_1 m12 hI13
    obtain ⟨m14, s15, rfl, hm16, hn17⟩ := iter_step hI13; clear hI13; unfold roundelayref7_Least_L0 at hm16
    refine WC.seq ?_
    refine WC.seq ?_
    refine WC.region ?_
    refine WL.q rfl rfl rfl (QV.fieldAddr fd49_1 rfl rfl) ?_
    refine WL.q rfl rfl rfl (QV.load pl47 rfl rfl (Own.cell 2 rfl rfl)) ?_
    refine WL.q rfl rfl rfl (QV.lenS Try.underlying47 rfl rfl (h_l_body.le hle6).lenMap) ?_
    refine WL.q rfl rfl rfl (QV.move rfl rfl) ?_
    refine WL.q rfl rfl rfl (QV.move rfl rfl) ?_
    obtain ⟨x18, hx19, hm20⟩ := bd_some hm16; clear hm16
    refine WL.q rfl rfl rfl (QV.call en72 (EvAll.cons rfl rfl (EvAll.cons rfl rfl (EvAll.cons rfl rfl EvAll.nil))) (fun w hw => have h := roundelayref7_Rounds_w w hx19 ((Own.karr 0 rfl hk hF6) w hw); h)) ?_
    refine WL.q rfl rfl rfl (QV.not rfl rfl) ?_
    refine WL.nil ?_
    refine WQ.then ?_
    refine WC.cond rfl (fun h21 => ?_) (fun h21 => ?_)
    · skip
      have hm22 := br_t h21 hm20; clear hm20
      refine WC.skip ?_
      refine WQ.then ?_
      refine WC.block ?_
      refine WC.region ?_
      refine WL.q rfl rfl rfl (QV.move rfl rfl) ?_
      obtain ⟨c23, hm24⟩ := ck_some hm22; clear hm22
      refine WL.q rfl rfl rfl (QV.add rfl rfl rfl rfl c23) ?_
      refine WL.q rfl rfl rfl (QV.assign rfl rfl) ?_
      refine WL.nil ?_
      refine WQ.block ?_
      exact WQ.again1 (pace6_1 + 1) m14 (up_next hm24 hn17) (Nat.lt_succ_self _) ⟨rfl, rfl, rfl, trivial⟩ (fun w hw => hw.pick [0, 1, 2] (by decide))
    · skip
      have hm25 := br_f h21 hm20; clear hm20
      refine WC.exit ?_
      refine WQ.then_exit ?_
      refine WQ.then_exit ?_
      refine WQ.block_exit ?_
      exact WQ.out1 pace6_1 (up_brk hm25 hn17) ⟨rfl, rfl, rfl, trivial⟩ (fun w hw => hw.pick [0, 1, 2] (by decide))
end Go.Proofs.Ytaimbkndebaaiab
end

section
namespace Go.Proofs.Ytaimbkndebaaiab
open Go.Rd
set_option linter.unusedVariables false
namespace TLawBound
theorem ag24 : AggT Try.prog 24 7 := ⟨_, Try.underlying24, rfl, by kernel_rfl⟩
theorem ag49 : AggT Try.prog 49 3 := ⟨_, Try.underlying49, rfl, by kernel_rfl⟩
theorem en24 : Go.Rd.Enters Try.prog 24 := ⟨Try.f24, Try.func24, by kernel_rfl, by kernel_rfl⟩
theorem en29 : Go.Rd.Enters Try.prog 29 := ⟨Try.f29, Try.func29, by kernel_rfl, by kernel_rfl⟩
theorem en30 : Go.Rd.Enters Try.prog 30 := ⟨Try.f30, Try.func30, by kernel_rfl, by kernel_rfl⟩
theorem en31 : Go.Rd.Enters Try.prog 31 := ⟨Try.f31, Try.func31, by kernel_rfl, by kernel_rfl⟩
end TLawBound
open TLawBound
set_option maxRecDepth 8000 in
theorem roundelaylaw_BoundTells_w {v_l_logs : Value} {v_l_body : Value} {v_l_outs : Value} {l : Lp} {t : Tgt} {r : Bool} (w : World) (hm : roundelaylaw_BoundTells_m l t = some r) (h_l_logs : Arr w v_l_logs 1 (l.logs.map icell)) (h_l_body : Arr w v_l_body 9 (l.body.map Stm.cells)) (h_l_outs : Arr w v_l_outs 1 (l.outs.map icell)) : Calls Try.prog 8 #[.agg #[v_l_logs, v_l_body, v_l_outs], .agg #[.int .i64 t.u0, .int .i64 t.u1, .int .i64 t.u2, .int .i64 t.w0, .int .i64 t.w1, .int .i64 t.w2, .int .i64 t.regs]] w (fun e w' => e = .returned (.bool r) ∧ Grow w w') := by
  unfold roundelaylaw_BoundTells_m at hm
  have hk := Base.rfl (w := w)
  refine calls_of_WC (n := 45) (args := [.agg #[v_l_logs, v_l_body, v_l_outs], .agg #[.int .i64 t.u0, .int .i64 t.u1, .int .i64 t.u2, .int .i64 t.w0, .int .i64 t.w1, .int .i64 t.w2, .int .i64 t.regs]]) Try.func8 rfl rfl (Nat.le_of_ble_eq_true rfl) ?_ (Own.startK hk (Own.start w))
  refine WC.seq ?_
  refine WC.region ?_
  refine WL.effect rfl ?_
  refine (EV.boxAgg (by decide) rfl rfl (fun b1 => ?_))
  refine WL.effect rfl ?_
  refine (EV.boxAgg (by decide) rfl rfl (fun b2 => ?_))
  refine WL.q rfl rfl rfl (QV.assign rfl rfl) ?_
  refine WL.nil ?_
  refine WQ.then ?_
  refine WC.seq ?_
  refine WC.region ?_
  refine WL.q rfl rfl rfl (QV.loadAgg ag49 rfl rfl rfl (Own.cellsBlk 1 rfl)) ?_
  refine WL.q rfl rfl rfl (QV.loadAgg ag24 rfl rfl rfl (Own.cellsBlk 0 rfl)) ?_
  obtain ⟨x3, hx4, hm5⟩ := bd_some hm; clear hm
  refine WL.q rfl rfl rfl (QV.call en29 (EvAll.cons rfl rfl (EvAll.cons rfl rfl EvAll.nil)) (fun w hw => have h := bound_Bound_w w hx4 ((Own.karr 2 rfl hk h_l_logs) w hw) ((Own.karr 2 rfl hk h_l_body) w hw) ((Own.karr 2 rfl hk h_l_outs) w hw); h)) ?_
  refine WL.q rfl rfl rfl (QV.move rfl rfl) ?_
  refine WL.q rfl rfl rfl (QV.extract rfl rfl rfl) ?_
  refine WL.q rfl rfl rfl (QV.extract rfl rfl rfl) ?_
  refine WL.q rfl rfl rfl (QV.extract rfl rfl rfl) ?_
  refine WL.q rfl rfl rfl (QV.assign rfl rfl) ?_
  refine WL.q rfl rfl rfl (QV.assign rfl rfl) ?_
  refine WL.q rfl rfl rfl (QV.assign rfl rfl) ?_
  refine WL.nil ?_
  refine WQ.then ?_
  refine WC.seq ?_
  refine WC.seq ?_
  refine WC.region ?_
  refine WL.q rfl rfl rfl (QV.loadAgg ag49 rfl rfl rfl (Own.cellsBlk 1 rfl)) ?_
  refine WL.q rfl rfl rfl (QV.loadAgg ag24 rfl rfl rfl (Own.cellsBlk 0 rfl)) ?_
  obtain ⟨x6, hx7, hm8⟩ := bd_some hm5; clear hm5
  refine WL.q rfl rfl rfl (QV.call en24 (EvAll.cons rfl rfl (EvAll.cons rfl rfl EvAll.nil)) (fun w hw => have h := roundelayref6_May_w w hx7 ((Own.karr 2 rfl hk h_l_logs) w hw) ((Own.karr 2 rfl hk h_l_body) w hw) ((Own.karr 2 rfl hk h_l_outs) w hw); h)) ?_
  refine WL.q rfl rfl rfl (QV.not rfl rfl) ?_
  refine WL.nil ?_
  refine WQ.then ?_
  refine WC.cond rfl (fun h9 => ?_) (fun h9 => ?_)
  · skip
    have hm10 := br_t h9 hm8; clear hm8
    refine WC.seq ?_
    refine WC.region ?_
    refine WL.q rfl rfl rfl (QV.move rfl rfl) ?_
    refine WL.q rfl rfl rfl (QV.eql rfl rfl rfl rfl) ?_
    refine WL.q rfl rfl rfl (QV.move rfl rfl) ?_
    refine WL.g rfl rfl (GuardIs.pos rfl rfl) (fun hG => QV.move rfl rfl) ?_
    refine WL.g rfl rfl (GuardIs.pos rfl rfl) (fun hG => QV.eql rfl hG rfl rfl) ?_
    refine WL.q rfl rfl rfl (QV.pickAnd rfl rfl rfl (fun h => h)) ?_
    refine WL.q rfl rfl rfl (QV.move rfl rfl) ?_
    refine WL.g rfl rfl (GuardIs.pos rfl rfl) (fun hG => QV.move rfl rfl) ?_
    refine WL.g rfl rfl (GuardIs.pos rfl rfl) (fun hG => QV.eql rfl hG rfl rfl) ?_
    refine WL.q rfl rfl rfl (QV.pickAnd rfl rfl rfl (fun h => h)) ?_
    refine WL.q rfl rfl rfl (QV.assign rfl rfl) ?_
    refine WL.nil ?_
    refine WQ.then ?_
    refine WC.ret ?_
    refine WQ.then_ret ?_
    obtain rfl := (eq_of_some hm10).symm
    refine WQ.ret1 rfl rfl (fun w hw => ?_)
    exact ⟨rfl, Own.kgrow (fun _ x => x) hw⟩
  · skip
    have hm11 := br_f h9 hm8; clear hm8
    refine WC.skip ?_
    refine WQ.then ?_
    refine WC.seq ?_
    refine WC.region ?_
    refine WL.q rfl rfl rfl (QV.move rfl rfl) ?_
    refine WL.q rfl rfl rfl (QV.eql rfl rfl rfl rfl) ?_
    refine WL.q rfl rfl rfl (QV.move rfl rfl) ?_
    refine WL.g rfl rfl (GuardIs.pos rfl rfl) (fun hG => QV.move rfl rfl) ?_
    refine WL.g rfl rfl (GuardIs.pos rfl rfl) (fun hG => QV.loadAgg ag49 rfl rfl rfl (Own.cellsBlk 1 rfl)) ?_
    refine WL.g rfl rfl (GuardIs.pos rfl rfl) (fun hG => QV.loadAgg ag24 rfl rfl rfl (Own.cellsBlk 0 rfl)) ?_
    obtain ⟨x12, hx13, hm14⟩ := bdG_some hm11; clear hm11
    refine WL.g rfl rfl (GuardIs.pos rfl rfl) (fun hG => QV.call en30 (EvAll.cons rfl hG (EvAll.cons rfl hG EvAll.nil)) (fun w hw => have h := roundelayref7_Units_w w (hx13 hG) ((Own.karr 2 rfl hk h_l_logs) w hw) ((Own.karr 2 rfl hk h_l_body) w hw) ((Own.karr 2 rfl hk h_l_outs) w hw); h)) ?_
    refine WL.g rfl rfl (GuardIs.pos rfl rfl) (fun hG => QV.eql rfl hG rfl hG) ?_
    refine WL.q rfl rfl rfl (QV.pickAnd rfl rfl rfl (fun h => h)) ?_
    refine WL.q rfl rfl rfl (QV.move rfl rfl) ?_
    refine WL.g rfl rfl (GuardIs.pos rfl rfl) (fun hG => QV.move rfl rfl) ?_
    refine WL.g rfl rfl (GuardIs.pos rfl rfl) (fun hG => QV.loadAgg ag49 rfl rfl rfl (Own.cellsBlk 1 rfl)) ?_
    refine WL.g rfl rfl (GuardIs.pos rfl rfl) (fun hG => QV.loadAgg ag24 rfl rfl rfl (Own.cellsBlk 0 rfl)) ?_
    obtain ⟨x15, hx16, hm17⟩ := bdG_some hm14; clear hm14
    refine WL.g rfl rfl (GuardIs.pos rfl rfl) (fun hG => QV.call en31 (EvAll.cons rfl hG (EvAll.cons rfl hG EvAll.nil)) (fun w hw => have h := roundelayref7_Least_w w (hx16 hG) ((Own.karr 2 rfl hk h_l_logs) w hw) ((Own.karr 2 rfl hk h_l_body) w hw) ((Own.karr 2 rfl hk h_l_outs) w hw); h)) ?_
    refine WL.g rfl rfl (GuardIs.pos rfl rfl) (fun hG => QV.eql rfl hG rfl hG) ?_
    refine WL.q rfl rfl rfl (QV.pickAnd rfl rfl rfl (fun h => h)) ?_
    refine WL.q rfl rfl rfl (QV.assign rfl rfl) ?_
    refine WL.nil ?_
    refine WQ.then ?_
    refine WC.ret ?_
    obtain rfl := (eq_of_some hm17).symm
    refine WQ.ret1 rfl rfl (fun w hw => ?_)
    exact ⟨rfl, Own.kgrow (fun _ x => x) hw⟩
end Go.Proofs.Ytaimbkndebaaiab
end
