/- Texts that the law stands on: part 6. -/
import Derived.Test.YtaimbkndebaaiabZLregsMakes5
import Derived.Test.YtaimbkndebaaiabProg
import Derived.KernelRfl
section
namespace Go.Proofs.Ytaimbkndebaaiab
open Go.Rd
set_option linter.unusedVariables false
set_option linter.unusedSimpArgs false
namespace TRDep
theorem ag24 : AggT Try.prog 24 7 := ⟨_, Try.underlying24, rfl, by kernel_rfl⟩
theorem ag49 : AggT Try.prog 49 3 := ⟨_, Try.underlying49, rfl, by kernel_rfl⟩
theorem ag59 : AggT Try.prog 59 9 := ⟨_, Try.underlying59, rfl, by kernel_rfl⟩
theorem ag61 : AggT Try.prog 61 4 := ⟨_, Try.underlying61, rfl, by kernel_rfl⟩
theorem en110 : Go.Rd.Enters Try.prog 110 := ⟨Try.f110, Try.func110, by kernel_rfl, by kernel_rfl⟩
theorem en111 : Go.Rd.Enters Try.prog 111 := ⟨Try.f111, Try.func111, by kernel_rfl, by kernel_rfl⟩
theorem en45 : Go.Rd.Enters Try.prog 45 := ⟨Try.f45, Try.func45, by kernel_rfl, by kernel_rfl⟩
theorem en49 : Go.Rd.Enters Try.prog 49 := ⟨Try.f49, Try.func49, by kernel_rfl, by kernel_rfl⟩
theorem en68 : Go.Rd.Enters Try.prog 68 := ⟨Try.f68, Try.func68, by kernel_rfl, by kernel_rfl⟩
theorem en69 : Go.Rd.Enters Try.prog 69 := ⟨Try.f69, Try.func69, by kernel_rfl, by kernel_rfl⟩
theorem en74 : Go.Rd.Enters Try.prog 74 := ⟨Try.f74, Try.func74, by kernel_rfl, by kernel_rfl⟩
theorem en75 : Go.Rd.Enters Try.prog 75 := ⟨Try.f75, Try.func75, by kernel_rfl, by kernel_rfl⟩
theorem en78 : Go.Rd.Enters Try.prog 78 := ⟨Try.f78, Try.func78, by kernel_rfl, by kernel_rfl⟩
theorem fd49_0 : FieldT Try.prog 49 0 0 := ⟨_, _, 0, Try.underlying49, rfl, rfl, by kernel_rfl⟩
theorem fd49_1 : FieldT Try.prog 49 1 1 := ⟨_, _, 0, Try.underlying49, rfl, rfl, by kernel_rfl⟩
theorem fd57_0 : FieldT Try.prog 57 0 0 := ⟨_, _, 0, Try.underlying57, rfl, rfl, by kernel_rfl⟩
theorem fd57_1 : FieldT Try.prog 57 1 1 := ⟨_, _, 0, Try.underlying57, rfl, rfl, by kernel_rfl⟩
theorem fd59_0 : FieldT Try.prog 59 0 0 := ⟨_, _, 0, Try.underlying59, rfl, rfl, by kernel_rfl⟩
theorem fd59_3 : FieldT Try.prog 59 3 5 := ⟨_, _, 0, Try.underlying59, rfl, rfl, by kernel_rfl⟩
theorem fd59_4 : FieldT Try.prog 59 4 6 := ⟨_, _, 0, Try.underlying59, rfl, rfl, by kernel_rfl⟩
theorem fd59_5 : FieldT Try.prog 59 5 7 := ⟨_, _, 0, Try.underlying59, rfl, rfl, by kernel_rfl⟩
theorem fd61_0 : FieldT Try.prog 61 0 0 := ⟨_, _, 0, Try.underlying61, rfl, rfl, by kernel_rfl⟩
theorem fd61_1 : FieldT Try.prog 61 1 1 := ⟨_, _, 0, Try.underlying61, rfl, rfl, by kernel_rfl⟩
theorem fd61_2 : FieldT Try.prog 61 2 2 := ⟨_, _, 0, Try.underlying61, rfl, rfl, by kernel_rfl⟩
theorem fd61_3 : FieldT Try.prog 61 3 3 := ⟨_, _, 0, Try.underlying61, rfl, rfl, by kernel_rfl⟩
theorem pl3 : Plain Try.prog 3 := ⟨_, Try.underlying3, rfl⟩
theorem pl30 : Plain Try.prog 30 := ⟨_, Try.underlying30, rfl⟩
theorem pl47 : Plain Try.prog 47 := ⟨_, Try.underlying47, rfl⟩
theorem sl106 : SliceT Try.prog 106 57 2 := ⟨Try.underlying106, by kernel_rfl⟩
theorem sl30 : SliceT Try.prog 30 3 1 := ⟨Try.underlying30, by kernel_rfl⟩
theorem sl47 : SliceT Try.prog 47 59 9 := ⟨Try.underlying47, by kernel_rfl⟩
theorem sz59 : SizeT Try.prog 59 9 := by unfold SizeT; kernel_rfl
theorem sz61 : SizeT Try.prog 61 4 := by unfold SizeT; kernel_rfl
theorem sz_50 : SliceZ Try.prog 50 61 4 [.int .i64 0, .int .i64 0, .int .i64 0, .int .i64 0] := ⟨Try.underlying50, by kernel_rfl⟩
theorem ve50 : VecT Try.prog 50 61 4 32 := ⟨Try.underlying50, by kernel_rfl, by decide⟩
theorem ze59 : ZeroT Try.prog 59 [.int .i64 0, .int .i64 0, .int .i64 0, .int .i64 0, .int .i64 0, .int .i64 0, .int .i64 0, .int .i64 0, .int .i64 0] := by unfold ZeroT; kernel_rfl
theorem ze61 : ZeroT Try.prog 61 [.int .i64 0, .int .i64 0, .int .i64 0, .int .i64 0] := by unfold ZeroT; kernel_rfl
end TRDep
open TRDep
set_option maxRecDepth 8000 in
theorem roundelayref6_Meets_w {a : Stm} {b : Stm} {back : Int} {size : Int} {r : Bool} (w : World) (hm : roundelayref6_Meets_m a b back size = some r)  : Calls Try.prog 111 #[.agg #[.int .i64 a.op, .int .i64 a.a.st, .int .i64 a.a.bk, .int .i64 a.b.st, .int .i64 a.b.bk, .int .i64 a.ar, .int .i64 a.sp, .int .i64 a.pl, .int .i64 a.n], .agg #[.int .i64 b.op, .int .i64 b.a.st, .int .i64 b.a.bk, .int .i64 b.b.st, .int .i64 b.b.bk, .int .i64 b.ar, .int .i64 b.sp, .int .i64 b.pl, .int .i64 b.n], .int .i64 back, .int .i64 size] w (fun e w' => e = .returned (.bool r) ∧ Grow w w') := by
  unfold roundelayref6_Meets_m at hm
  have hk := Base.rfl (w := w)
  refine calls_of_WC (n := 40) (args := [.agg #[.int .i64 a.op, .int .i64 a.a.st, .int .i64 a.a.bk, .int .i64 a.b.st, .int .i64 a.b.bk, .int .i64 a.ar, .int .i64 a.sp, .int .i64 a.pl, .int .i64 a.n], .agg #[.int .i64 b.op, .int .i64 b.a.st, .int .i64 b.a.bk, .int .i64 b.b.st, .int .i64 b.b.bk, .int .i64 b.ar, .int .i64 b.sp, .int .i64 b.pl, .int .i64 b.n], .int .i64 back, .int .i64 size]) Try.func111 rfl rfl (Nat.le_of_ble_eq_true rfl) ?_ (Own.startK hk (Own.start w))
  refine WC.seq ?_
  refine WC.region ?_
  refine WL.effect rfl ?_
  refine (EV.boxAgg (by decide) rfl rfl (fun b1 => ?_))
  refine WL.effect rfl ?_
  refine (EV.boxAgg (by decide) rfl rfl (fun b2 => ?_))
  refine WL.q rfl rfl rfl (QV.assign rfl rfl) ?_
  refine WL.nil ?_
  refine WQ.then ?_
  refine WC.seq ?_
  refine WC.seq ?_
  refine WC.region ?_
  refine WL.q rfl rfl rfl (QV.assign rfl rfl) ?_
  refine WL.nil ?_
  refine WQ.then ?_
  obtain ⟨o3, ho4, hm5⟩ := bd_some hm; clear hm; obtain ⟨n6, ho7⟩ := lp_some ho4
  refine WC.bloop1 (H2 := [blk b2 [.int .i64 b.op, .int .i64 b.a.st, .int .i64 b.a.bk, .int .i64 b.b.st, .int .i64 b.b.bk, .int .i64 b.ar, .int .i64 b.sp, .int .i64 b.pl, .int .i64 b.n] 59, blk b1 [.int .i64 a.op, .int .i64 a.a.st, .int .i64 a.a.bk, .int .i64 a.b.st, .int .i64 a.b.bk, .int .i64 a.ar, .int .i64 a.sp, .int .i64 a.pl, .int .i64 a.n] 59, kn noM w.heap.size w w]) (τ := [(2, (true, _)), (3, (true, _)), (4, (true, _)), (5, (true, _))]) (fun (turn9_1 : Int) => [(9, (true, .int .i64 turn9_1))]) (fun (turn9_1 : Int) => []) (fun (turn9_1 : Int) (m : Nat) => iter (roundelayref6_Meets_L0 a b back size) m turn9_1 = some o3) (fun (turn9_1 : Int) => o3 = .go turn9_1) 0 n6 ho7 ⟨rfl, rfl, rfl, rfl, rfl, trivial⟩ (fun w hw => hw.pick [0, 1, 2] (by decide)) ?_ ?_
  · skip
    rintro turn9_1 rfl
    refine WQ.then ?_
    refine WC.seq ?_
    refine WC.region ?_
    refine WL.q rfl rfl rfl (QV.assign rfl rfl) ?_
    refine WL.nil ?_
    refine WQ.then ?_
    refine WC.ret ?_
    obtain rfl := (eq_of_some hm5).symm
    refine WQ.ret1 rfl rfl (fun w hw => ?_)
    exact ⟨rfl, Own.kgrow (fun _ x => x) hw⟩
  · skip
    rintro turn9_1 m8 hI9
    obtain ⟨m10, s11, rfl, hm12, hn13⟩ := iter_step hI9; clear hI9; unfold roundelayref6_Meets_L0 at hm12
    refine WC.seq ?_
    refine WC.seq ?_
    refine WC.region ?_
    refine WL.q rfl rfl rfl (QV.move rfl rfl) ?_
    refine WL.q rfl rfl rfl (QV.move rfl rfl) ?_
    refine WL.q rfl rfl rfl (QV.lss rfl rfl rfl rfl) ?_
    refine WL.nil ?_
    refine WQ.then ?_
    refine WC.cond rfl (fun h14 => ?_) (fun h14 => ?_)
    · skip
      have hm15 := br_t h14 hm12; clear hm12
      refine WC.skip ?_
      refine WQ.then ?_
      refine WC.seq ?_
      refine WC.block ?_
      refine WC.seq ?_
      refine WC.region ?_
      refine WL.q rfl rfl rfl (QV.fieldAddr fd59_4 rfl rfl) ?_
      refine WL.q rfl rfl rfl (QV.load pl3 rfl rfl (Own.cell 1 rfl rfl)) ?_
      refine WL.q rfl rfl rfl (QV.move rfl rfl) ?_
      obtain ⟨c16, hm17⟩ := ck_some hm15; clear hm15
      refine WL.q rfl rfl rfl (QV.mul rfl rfl rfl rfl c16) ?_
      refine WL.q rfl rfl rfl (QV.fieldAddr fd59_5 rfl rfl) ?_
      refine WL.q rfl rfl rfl (QV.load pl3 rfl rfl (Own.cell 1 rfl rfl)) ?_
      obtain ⟨c18, hm19⟩ := ck_some hm17; clear hm17
      refine WL.q rfl rfl rfl (QV.add rfl rfl rfl rfl c18) ?_
      refine WL.q rfl rfl rfl (QV.move rfl rfl) ?_
      obtain ⟨x20, hx21, hm22⟩ := bd_some hm19; clear hm19
      refine WL.q rfl rfl rfl (QV.call en75 (EvAll.cons rfl rfl (EvAll.cons rfl rfl EvAll.nil)) (fun w hw => have h := roundelayref1_Rest_w w hx21 ; h)) ?_
      refine WL.q rfl rfl rfl (QV.assign rfl rfl) ?_
      refine WL.nil ?_
      refine WQ.then ?_
      refine WC.seq ?_
      refine WC.region ?_
      refine WL.q rfl rfl rfl (QV.fieldAddr fd59_4 rfl rfl) ?_
      refine WL.q rfl rfl rfl (QV.load pl3 rfl rfl (Own.cell 0 rfl rfl)) ?_
      refine WL.q rfl rfl rfl (QV.move rfl rfl) ?_
      refine WL.q rfl rfl rfl (QV.move rfl rfl) ?_
      obtain ⟨c23, hm24⟩ := ck_some hm22; clear hm22
      refine WL.q rfl rfl rfl (QV.add rfl rfl rfl rfl c23) ?_
      obtain ⟨c25, hm26⟩ := ck_some hm24; clear hm24
      refine WL.q rfl rfl rfl (QV.mul rfl rfl rfl rfl c25) ?_
      refine WL.q rfl rfl rfl (QV.fieldAddr fd59_5 rfl rfl) ?_
      refine WL.q rfl rfl rfl (QV.load pl3 rfl rfl (Own.cell 0 rfl rfl)) ?_
      obtain ⟨c27, hm28⟩ := ck_some hm26; clear hm26
      refine WL.q rfl rfl rfl (QV.add rfl rfl rfl rfl c27) ?_
      refine WL.q rfl rfl rfl (QV.move rfl rfl) ?_
      obtain ⟨x29, hx30, hm31⟩ := bd_some hm28; clear hm28
      refine WL.q rfl rfl rfl (QV.call en75 (EvAll.cons rfl rfl (EvAll.cons rfl rfl EvAll.nil)) (fun w hw => have h := roundelayref1_Rest_w w hx30 ; h)) ?_
      refine WL.q rfl rfl rfl (QV.assign rfl rfl) ?_
      refine WL.nil ?_
      refine WQ.then ?_
      refine WC.seq ?_
      refine WC.region ?_
      refine WL.q rfl rfl rfl (QV.move rfl rfl) ?_
      refine WL.q rfl rfl rfl (QV.move rfl rfl) ?_
      refine WL.q rfl rfl rfl (QV.eql rfl rfl rfl rfl) ?_
      refine WL.nil ?_
      refine WQ.then ?_
      refine WC.cond rfl (fun h32 => ?_) (fun h32 => ?_)
      · skip
        have hm33 := br_t h32 hm31; clear hm31
        refine WC.seq ?_
        refine WC.region ?_
        refine WL.q rfl rfl rfl (QV.assign rfl rfl) ?_
        refine WL.nil ?_
        refine WQ.then ?_
        refine WC.ret ?_
        refine WQ.block_ret ?_
        refine WQ.then_ret ?_
        refine WQ.then_ret ?_
        refine WQ.block_ret ?_
        refine WQ.then_ret ?_
        refine WQ.then_ret ?_
        obtain rfl := up_ret hm33 hn13
        obtain rfl := (eq_of_some hm5).symm
        refine WQ.ret1 rfl rfl (fun w hw => ?_)
        exact ⟨rfl, Own.kgrow (fun _ x => x) hw⟩
      · skip
        have hm34 := br_f h32 hm31; clear hm31
        refine WC.skip ?_
        refine WQ.block ?_
        refine WQ.then ?_
        refine WC.region ?_
        refine WL.q rfl rfl rfl (QV.move rfl rfl) ?_
        obtain ⟨c35, hm36⟩ := ck_some hm34; clear hm34
        refine WL.q rfl rfl rfl (QV.add rfl rfl rfl rfl c35) ?_
        refine WL.q rfl rfl rfl (QV.assign rfl rfl) ?_
        refine WL.nil ?_
        exact WQ.again1 (turn9_1 + 1) m10 (up_next hm36 hn13) (Nat.lt_succ_self _) ⟨rfl, rfl, rfl, rfl, rfl, trivial⟩ (fun w hw => hw.pick [0, 1, 2] (by decide))
    · skip
      have hm37 := br_f h14 hm12; clear hm12
      refine WC.exit ?_
      refine WQ.then_exit ?_
      refine WQ.then_exit ?_
      refine WQ.block_exit ?_
      exact WQ.out1 turn9_1 (up_brk hm37 hn13) ⟨rfl, rfl, rfl, rfl, rfl, trivial⟩ (fun w hw => hw.pick [0, 1, 2] (by decide))

set_option maxRecDepth 8000 in
theorem roundelayref6_Memory_w {a : Stm} {b : Stm} {r : Bool} (w : World) (hm : roundelayref6_Memory_m a b = some r)  : Calls Try.prog 110 #[.agg #[.int .i64 a.op, .int .i64 a.a.st, .int .i64 a.a.bk, .int .i64 a.b.st, .int .i64 a.b.bk, .int .i64 a.ar, .int .i64 a.sp, .int .i64 a.pl, .int .i64 a.n], .agg #[.int .i64 b.op, .int .i64 b.a.st, .int .i64 b.a.bk, .int .i64 b.b.st, .int .i64 b.b.bk, .int .i64 b.ar, .int .i64 b.sp, .int .i64 b.pl, .int .i64 b.n]] w (fun e w' => e = .returned (.bool r) ∧ Grow w w') := by
  unfold roundelayref6_Memory_m at hm
  have hk := Base.rfl (w := w)
  refine calls_of_WC (n := 44) (args := [.agg #[.int .i64 a.op, .int .i64 a.a.st, .int .i64 a.a.bk, .int .i64 a.b.st, .int .i64 a.b.bk, .int .i64 a.ar, .int .i64 a.sp, .int .i64 a.pl, .int .i64 a.n], .agg #[.int .i64 b.op, .int .i64 b.a.st, .int .i64 b.a.bk, .int .i64 b.b.st, .int .i64 b.b.bk, .int .i64 b.ar, .int .i64 b.sp, .int .i64 b.pl, .int .i64 b.n]]) Try.func110 rfl rfl (Nat.le_of_ble_eq_true rfl) ?_ (Own.startK hk (Own.start w))
  refine WC.seq ?_
  refine WC.region ?_
  refine WL.effect rfl ?_
  refine (EV.boxAgg (by decide) rfl rfl (fun b1 => ?_))
  refine WL.effect rfl ?_
  refine (EV.boxAgg (by decide) rfl rfl (fun b2 => ?_))
  refine WL.q rfl rfl rfl (QV.assign rfl rfl) ?_
  refine WL.nil ?_
  refine WQ.then ?_
  refine WC.seq ?_
  refine WC.region ?_
  refine WL.q rfl rfl rfl (QV.fieldAddr fd59_0 rfl rfl) ?_
  refine WL.q rfl rfl rfl (QV.load pl3 rfl rfl (Own.cell 1 rfl rfl)) ?_
  refine WL.q rfl rfl rfl (QV.eql rfl rfl rfl rfl) ?_
  refine WL.q rfl rfl rfl (QV.move rfl rfl) ?_
  refine WL.g rfl rfl (GuardIs.neg rfl rfl) (fun hG => QV.fieldAddr fd59_0 rfl rfl) ?_
  refine WL.g rfl rfl (GuardIs.neg rfl rfl) (fun hG => QV.load pl3 rfl hG (Own.cell 1 rfl rfl)) ?_
  refine WL.g rfl rfl (GuardIs.neg rfl rfl) (fun hG => QV.eql rfl hG rfl rfl) ?_
  refine WL.q rfl rfl rfl (QV.pickOr rfl rfl rfl (fun h => notF h)) ?_
  refine WL.q rfl rfl rfl (QV.assign rfl rfl) ?_
  refine WL.nil ?_
  refine WQ.then ?_
  refine WC.seq ?_
  refine WC.region ?_
  refine WL.q rfl rfl rfl (QV.fieldAddr fd59_0 rfl rfl) ?_
  refine WL.q rfl rfl rfl (QV.load pl3 rfl rfl (Own.cell 0 rfl rfl)) ?_
  refine WL.q rfl rfl rfl (QV.eql rfl rfl rfl rfl) ?_
  refine WL.q rfl rfl rfl (QV.move rfl rfl) ?_
  refine WL.g rfl rfl (GuardIs.neg rfl rfl) (fun hG => QV.fieldAddr fd59_0 rfl rfl) ?_
  refine WL.g rfl rfl (GuardIs.neg rfl rfl) (fun hG => QV.load pl3 rfl hG (Own.cell 0 rfl rfl)) ?_
  refine WL.g rfl rfl (GuardIs.neg rfl rfl) (fun hG => QV.eql rfl hG rfl rfl) ?_
  refine WL.q rfl rfl rfl (QV.pickOr rfl rfl rfl (fun h => notF h)) ?_
  refine WL.q rfl rfl rfl (QV.assign rfl rfl) ?_
  refine WL.nil ?_
  refine WQ.then ?_
  refine WC.seq ?_
  refine WC.region ?_
  refine WL.q rfl rfl rfl (QV.move rfl rfl) ?_
  refine WL.q rfl rfl rfl (QV.move rfl rfl) ?_
  refine WL.g rfl rfl (GuardIs.pos rfl rfl) (fun hG => QV.move rfl rfl) ?_
  refine WL.q rfl rfl rfl (QV.pickAnd rfl rfl rfl (fun h => h)) ?_
  refine WL.q rfl rfl rfl (QV.move rfl rfl) ?_
  refine WL.g rfl rfl (GuardIs.pos rfl rfl) (fun hG => QV.fieldAddr fd59_3 rfl rfl) ?_
  refine WL.g rfl rfl (GuardIs.pos rfl rfl) (fun hG => QV.load pl3 rfl hG (Own.cell 1 rfl rfl)) ?_
  refine WL.g rfl rfl (GuardIs.pos rfl rfl) (fun hG => QV.fieldAddr fd59_3 rfl rfl) ?_
  refine WL.g rfl rfl (GuardIs.pos rfl rfl) (fun hG => QV.load pl3 rfl hG (Own.cell 0 rfl rfl)) ?_
  refine WL.g rfl rfl (GuardIs.pos rfl rfl) (fun hG => QV.eql rfl hG rfl hG) ?_
  refine WL.q rfl rfl rfl (QV.pickAnd rfl rfl rfl (fun h => h)) ?_
  refine WL.q rfl rfl rfl (QV.move rfl rfl) ?_
  refine WL.g rfl rfl (GuardIs.pos rfl rfl) (fun hG => QV.fieldAddr fd59_0 rfl rfl) ?_
  refine WL.g rfl rfl (GuardIs.pos rfl rfl) (fun hG => QV.load pl3 rfl hG (Own.cell 1 rfl rfl)) ?_
  refine WL.g rfl rfl (GuardIs.pos rfl rfl) (fun hG => QV.eql rfl hG rfl rfl) ?_
  refine WL.g rfl rfl (GuardIs.pos rfl rfl) (fun hG => QV.move rfl hG) ?_
  refine WL.g rfl rfl (GuardIs.negC rfl rfl) (fun hG => QV.fieldAddr fd59_0 rfl rfl) ?_
  refine WL.g rfl rfl (GuardIs.negC rfl rfl) (fun hG => QV.load pl3 rfl hG (Own.cell 0 rfl rfl)) ?_
  refine WL.g rfl rfl (GuardIs.negC rfl rfl) (fun hG => QV.eql rfl hG rfl rfl) ?_
  refine WL.g rfl rfl (GuardIs.pos rfl rfl) (fun hG => QV.pickOr rfl hG rfl (fun h => andN hG h)) ?_
  refine WL.q rfl rfl rfl (QV.pickAnd rfl rfl rfl (fun h => h)) ?_
  refine WL.q rfl rfl rfl (QV.assign rfl rfl) ?_
  refine WL.nil ?_
  refine WQ.then ?_
  refine WC.ret ?_
  obtain rfl := (eq_of_some hm).symm
  refine WQ.ret1 rfl rfl (fun w hw => ?_)
  exact ⟨rfl, Own.kgrow (fun _ x => x) hw⟩

set_option maxRecDepth 8000 in
theorem roundelayref6_is_w {v_l_logs : Value} {v_l_body : Value} {v_l_outs : Value} {l : Lp} {t : Tgt} {e_ : Edg} {r : Bool} (w : World) (hm : roundelayref6_is_m l t e_ = some r) (h_l_logs : Arr w v_l_logs 1 (l.logs.map icell)) (h_l_body : Arr w v_l_body 9 (l.body.map Stm.cells)) (h_l_outs : Arr w v_l_outs 1 (l.outs.map icell)) : Calls Try.prog 69 #[.agg #[v_l_logs, v_l_body, v_l_outs], .agg #[.int .i64 t.u0, .int .i64 t.u1, .int .i64 t.u2, .int .i64 t.w0, .int .i64 t.w1, .int .i64 t.w2, .int .i64 t.regs], .agg #[.int .i64 e_.fr, .int .i64 e_.to, .int .i64 e_.bk, .int .i64 e_.wt]] w (fun e w' => e = .returned (.bool r) ∧ Grow w w') := by
  unfold roundelayref6_is_m at hm
  have hk := Base.rfl (w := w)
  refine calls_of_WC (n := 128) (args := [.agg #[v_l_logs, v_l_body, v_l_outs], .agg #[.int .i64 t.u0, .int .i64 t.u1, .int .i64 t.u2, .int .i64 t.w0, .int .i64 t.w1, .int .i64 t.w2, .int .i64 t.regs], .agg #[.int .i64 e_.fr, .int .i64 e_.to, .int .i64 e_.bk, .int .i64 e_.wt]]) Try.func69 rfl rfl (Nat.le_of_ble_eq_true rfl) ?_ (Own.startK hk (Own.start w))
  refine WC.seq ?_
  refine WC.region ?_
  refine WL.effect rfl ?_
  refine (EV.boxAgg (by decide) rfl rfl (fun b1 => ?_))
  refine WL.effect rfl ?_
  refine (EV.boxAgg (by decide) rfl rfl (fun b2 => ?_))
  refine WL.effect rfl ?_
  refine (EV.boxAgg (by decide) rfl rfl (fun b3 => ?_))
  refine WL.q rfl rfl rfl (QV.assign rfl rfl) ?_
  refine WL.nil ?_
  refine WQ.then ?_
  refine WC.seq ?_
  refine WC.region ?_
  refine WL.q rfl rfl rfl (QV.fieldAddr fd49_1 rfl rfl) ?_
  refine WL.q rfl rfl rfl (QV.load pl47 rfl rfl (Own.cell 2 rfl rfl)) ?_
  refine WL.q rfl rfl rfl (QV.fieldAddr fd61_1 rfl rfl) ?_
  refine WL.q rfl rfl rfl (QV.load pl3 rfl rfl (Own.cell 0 rfl rfl)) ?_
  obtain ⟨c4, hm5⟩ := ck_some hm; clear hm
  obtain ⟨p6, hp7⟩ := h_l_body.lenMap.ix (sz := 9) ln_len c4
  refine WL.q rfl rfl rfl (QV.indexSlice sl47 rfl rfl rfl rfl hp7) ?_
  refine WL.q rfl rfl rfl (QV.loadAgg ag59 rfl rfl rfl (fun w hw => ((Own.karr 3 rfl hk h_l_body) w hw).ele hp7 c4)) ?_
  refine WL.effect rfl ?_
  obtain ⟨x8, hx9, hm10⟩ := bd_some hm5; clear hm5
  refine EV.of (C' := Own noM w [kn noM w.heap.size w w, blk b3 [.int .i64 e_.fr, .int .i64 e_.to, .int .i64 e_.bk, .int .i64 e_.wt] 61, blk b2 [.int .i64 t.u0, .int .i64 t.u1, .int .i64 t.u2, .int .i64 t.w0, .int .i64 t.w1, .int .i64 t.w2, .int .i64 t.regs] 24, blk b1 [v_l_logs, v_l_body, v_l_outs] 49]) (fun w hw => hw.pick [3, 0, 1, 2] (by decide)) ?_
  refine (EV.callR (X := Value × World) (R := []) (fun X => X.1) (fun X => []) (fun X => X.2) (fun X => Arr X.2 X.1 2 (x8.map Rf.cells)) hk (fun _ h => by cases h; decide) en74 (EvAll.cons rfl rfl EvAll.nil) (fun M w h1 h2 => have h := roundelayref2_Uses_w hx9  M w h1 h2; h) (fun X11 hF11 hle11 => ?_))
  refine WL.q rfl rfl rfl (QV.assign rfl rfl) ?_
  refine WL.nil ?_
  refine WQ.then ?_
  refine WC.seq ?_
  refine WC.seq ?_
  refine WC.region ?_
  refine WL.q rfl rfl rfl (QV.assign rfl rfl) ?_
  refine WL.nil ?_
  refine WQ.then ?_
  obtain ⟨o12, ho13, hm14⟩ := bd_some hm10; clear hm10; obtain ⟨n15, ho16⟩ := lp_some ho13
  refine WC.bloop1 (H2 := [kn noM w.heap.size w X11.2, blk b3 [.int .i64 e_.fr, .int .i64 e_.to, .int .i64 e_.bk, .int .i64 e_.wt] 61, blk b2 [.int .i64 t.u0, .int .i64 t.u1, .int .i64 t.u2, .int .i64 t.w0, .int .i64 t.w1, .int .i64 t.w2, .int .i64 t.regs] 24, blk b1 [v_l_logs, v_l_body, v_l_outs] 49]) (τ := [(3, (true, _)), (4, (true, _)), (5, (true, _)), (7, (true, _))]) (fun (i8_1 : Int) => [(8, (true, .int .i64 i8_1))]) (fun (i8_1 : Int) => []) (fun (i8_1 : Int) (m : Nat) => iter (roundelayref6_is_L0 l t e_ x8) m i8_1 = some o12) (fun (i8_1 : Int) => o12 = .go i8_1) 0 n15 ho16 ⟨rfl, rfl, rfl, rfl, rfl, trivial⟩ (fun w hw => hw.pick [0, 1, 2, 3] (by decide)) ?_ ?_
  · skip
    rintro i8_1 rfl
    refine WQ.then ?_
    refine WC.seq ?_
    refine WC.region ?_
    refine WL.q rfl rfl rfl (QV.fieldAddr fd49_1 rfl rfl) ?_
    refine WL.q rfl rfl rfl (QV.load pl47 rfl rfl (Own.cell 3 rfl rfl)) ?_
    refine WL.q rfl rfl rfl (QV.fieldAddr fd61_0 rfl rfl) ?_
    refine WL.q rfl rfl rfl (QV.load pl3 rfl rfl (Own.cell 1 rfl rfl)) ?_
    obtain ⟨c17, hm18⟩ := ck_some hm14; clear hm14
    obtain ⟨p19, hp20⟩ := (h_l_body.le hle11).lenMap.ix (sz := 9) ln_len c17
    refine WL.q rfl rfl rfl (QV.indexSlice sl47 rfl rfl rfl rfl hp20) ?_
    refine WL.q rfl rfl rfl (QV.loadAgg ag59 rfl rfl rfl (fun w hw => ((Own.karr 0 rfl hk (h_l_body.le hle11)) w hw).ele hp20 c17)) ?_
    refine WL.effect rfl ?_
    refine (EV.alloc (by decide) ze59 (fun b21 => ?_))
    refine WL.effect rfl ?_
    refine (EV.store 0 rfl rfl rfl rfl rfl rfl (vs := [.int .i64 ((ele l.body e_.fr).op), .int .i64 (((ele l.body e_.fr).a).st), .int .i64 (((ele l.body e_.fr).a).bk), .int .i64 (((ele l.body e_.fr).b).st), .int .i64 (((ele l.body e_.fr).b).bk), .int .i64 ((ele l.body e_.fr).ar), .int .i64 ((ele l.body e_.fr).sp), .int .i64 ((ele l.body e_.fr).pl), .int .i64 ((ele l.body e_.fr).n)]) (show Value.cells _ = List.toArray _ from rfl) sz59 (Nat.le_of_ble_eq_true rfl) (one_cons rfl (one_cons rfl (one_cons rfl (one_cons rfl (one_cons rfl (one_cons rfl (one_cons rfl (one_cons rfl (one_cons rfl one_nil))))))))) ?_)
    refine WL.nil ?_
    refine WQ.then ?_
    refine WC.seq ?_
    refine WC.region ?_
    refine WL.q rfl rfl rfl (QV.fieldAddr fd49_1 rfl rfl) ?_
    refine WL.q rfl rfl rfl (QV.load pl47 rfl rfl (Own.cell 4 rfl rfl)) ?_
    refine WL.q rfl rfl rfl (QV.fieldAddr fd61_1 rfl rfl) ?_
    refine WL.q rfl rfl rfl (QV.load pl3 rfl rfl (Own.cell 2 rfl rfl)) ?_
    obtain ⟨c22, hm23⟩ := ck_some hm18; clear hm18
    obtain ⟨p24, hp25⟩ := (h_l_body.le hle11).lenMap.ix (sz := 9) ln_len c22
    refine WL.q rfl rfl rfl (QV.indexSlice sl47 rfl rfl rfl rfl hp25) ?_
    refine WL.q rfl rfl rfl (QV.loadAgg ag59 rfl rfl rfl (fun w hw => ((Own.karr 1 rfl hk (h_l_body.le hle11)) w hw).ele hp25 c22)) ?_
    refine WL.effect rfl ?_
    refine (EV.alloc (by decide) ze59 (fun b26 => ?_))
    refine WL.effect rfl ?_
    refine (EV.store 0 rfl rfl rfl rfl rfl rfl (vs := [.int .i64 ((ele l.body e_.to).op), .int .i64 (((ele l.body e_.to).a).st), .int .i64 (((ele l.body e_.to).a).bk), .int .i64 (((ele l.body e_.to).b).st), .int .i64 (((ele l.body e_.to).b).bk), .int .i64 ((ele l.body e_.to).ar), .int .i64 ((ele l.body e_.to).sp), .int .i64 ((ele l.body e_.to).pl), .int .i64 ((ele l.body e_.to).n)]) (show Value.cells _ = List.toArray _ from rfl) sz59 (Nat.le_of_ble_eq_true rfl) (one_cons rfl (one_cons rfl (one_cons rfl (one_cons rfl (one_cons rfl (one_cons rfl (one_cons rfl (one_cons rfl (one_cons rfl one_nil))))))))) ?_)
    refine WL.nil ?_
    refine WQ.then ?_
    refine WC.seq ?_
    refine WC.region ?_
    refine WL.q rfl rfl rfl (QV.assign rfl rfl) ?_
    refine WL.nil ?_
    refine WQ.then ?_
    refine WC.seq ?_
    refine WC.seq ?_
    refine WC.region ?_
    refine WL.q rfl rfl rfl (QV.fieldAddr fd59_0 rfl rfl) ?_
    refine WL.q rfl rfl rfl (QV.load pl3 rfl rfl (Own.cell 1 rfl rfl)) ?_
    refine WL.q rfl rfl rfl (QV.eql rfl rfl rfl rfl) ?_
    refine WL.nil ?_
    refine WQ.then ?_
    obtain ⟨o27, hj28, hm29⟩ := bd_some hm23; clear hm23
    refine WC.joint1 (H2 := [blk b26 [.int .i64 ((ele l.body e_.to).op), .int .i64 (((ele l.body e_.to).a).st), .int .i64 (((ele l.body e_.to).a).bk), .int .i64 (((ele l.body e_.to).b).st), .int .i64 (((ele l.body e_.to).b).bk), .int .i64 ((ele l.body e_.to).ar), .int .i64 ((ele l.body e_.to).sp), .int .i64 ((ele l.body e_.to).pl), .int .i64 ((ele l.body e_.to).n)] 59, blk b21 [.int .i64 ((ele l.body e_.fr).op), .int .i64 (((ele l.body e_.fr).a).st), .int .i64 (((ele l.body e_.fr).a).bk), .int .i64 (((ele l.body e_.fr).b).st), .int .i64 (((ele l.body e_.fr).b).bk), .int .i64 ((ele l.body e_.fr).ar), .int .i64 ((ele l.body e_.fr).sp), .int .i64 ((ele l.body e_.fr).pl), .int .i64 ((ele l.body e_.fr).n)] 59, kn noM w.heap.size w X11.2, blk b3 [.int .i64 e_.fr, .int .i64 e_.to, .int .i64 e_.bk, .int .i64 e_.wt] 61, blk b2 [.int .i64 t.u0, .int .i64 t.u1, .int .i64 t.u2, .int .i64 t.w0, .int .i64 t.w1, .int .i64 t.w2, .int .i64 t.regs] 24, blk b1 [v_l_logs, v_l_body, v_l_outs] 49]) (τ := [(3, (true, _)), (5, (true, _)), (9, (true, _)), (10, (true, _))]) (fun (wait11_2 : Int) => [(11, (true, .int .i64 wait11_2))]) (fun (wait11_2 : Int) => []) (fun (wait11_2 : Int) => o27 = .go wait11_2) ⟨rfl, rfl, rfl, rfl, trivial⟩ (fun w hw => hw.pick [0, 1, 2, 3, 4, 5] (by decide)) ?_ ?_
    · skip
      rintro wait11_2 rfl
      refine WC.seq ?_
      refine WC.seq ?_
      refine WC.region ?_
      refine WL.q rfl rfl rfl (QV.loadAgg ag59 rfl rfl rfl (Own.cellsBlk 1 rfl)) ?_
      refine WL.q rfl rfl rfl (QV.loadAgg ag59 rfl rfl rfl (Own.cellsBlk 0 rfl)) ?_
      obtain ⟨x30, hx31, hm32⟩ := bd_some hm29; clear hm29
      refine WL.q rfl rfl rfl (QV.call en110 (EvAll.cons rfl rfl (EvAll.cons rfl rfl EvAll.nil)) (fun w hw => have h := roundelayref6_Memory_w w hx31 ; h)) ?_
      refine WL.q rfl rfl rfl (QV.not rfl rfl) ?_
      refine WL.q rfl rfl rfl (QV.move rfl rfl) ?_
      refine WL.g rfl rfl (GuardIs.neg rfl rfl) (fun hG => QV.fieldAddr fd61_3 rfl rfl) ?_
      refine WL.g rfl rfl (GuardIs.neg rfl rfl) (fun hG => QV.load pl3 rfl hG (Own.cell 3 rfl rfl)) ?_
      refine WL.g rfl rfl (GuardIs.neg rfl rfl) (fun hG => QV.move rfl rfl) ?_
      refine WL.g rfl rfl (GuardIs.neg rfl rfl) (fun hG => QV.neq rfl hG rfl hG) ?_
      refine WL.q rfl rfl rfl (QV.pickOr rfl rfl rfl (fun h => notF h)) ?_
      refine WL.nil ?_
      refine WQ.then ?_
      refine WC.cond rfl (fun h33 => ?_) (fun h33 => ?_)
      · skip
        have hm34 := br_t h33 hm32; clear hm32
        refine WC.seq ?_
        refine WC.region ?_
        refine WL.q rfl rfl rfl (QV.assign rfl rfl) ?_
        refine WL.nil ?_
        refine WQ.then ?_
        refine WC.ret ?_
        refine WQ.then_ret ?_
        obtain rfl := (eq_of_some hm34).symm
        refine WQ.ret1 rfl rfl (fun w hw => ?_)
        exact ⟨rfl, Own.kgrow (fun _ x => x) hw⟩
      · skip
        have hm35 := br_f h33 hm32; clear hm32
        refine WC.skip ?_
        refine WQ.then ?_
        refine WC.seq ?_
        refine WC.region ?_
        refine WL.q rfl rfl rfl (QV.fieldAddr fd49_0 rfl rfl) ?_
        refine WL.q rfl rfl rfl (QV.load pl30 rfl rfl (Own.cell 5 rfl rfl)) ?_
        refine WL.q rfl rfl rfl (QV.fieldAddr fd59_3 rfl rfl) ?_
        refine WL.q rfl rfl rfl (QV.load pl3 rfl rfl (Own.cell 1 rfl rfl)) ?_
        obtain ⟨c36, hm37⟩ := ck_some hm35; clear hm35
        obtain ⟨p38, hp39⟩ := (h_l_logs.le hle11).lenMap.ix (sz := 1) ln_len c36
        refine WL.q rfl rfl rfl (QV.indexSlice sl30 rfl rfl rfl rfl hp39) ?_
        refine WL.q rfl rfl rfl (QV.load pl3 rfl rfl (fun w hw => CellsAt.one 0 (((Own.karr 2 rfl hk (h_l_logs.le hle11)) w hw).ele hp39 c36) rfl)) ?_
        obtain ⟨x40, hx41, hm42⟩ := bd_some hm37; clear hm37
        refine WL.q rfl rfl rfl (QV.call en45 (EvAll.cons rfl rfl EvAll.nil) (fun w hw => have h := roundelayref1_Size_w w hx41 ; h)) ?_
        refine WL.q rfl rfl rfl (QV.assign rfl rfl) ?_
        refine WL.nil ?_
        refine WQ.then ?_
        refine WC.seq ?_
        refine WC.region ?_
        refine WL.q rfl rfl rfl (QV.assign rfl rfl) ?_
        refine WL.nil ?_
        refine WQ.then ?_
        refine WC.seq ?_
        refine WC.seq ?_
        refine WC.region ?_
        refine WL.q rfl rfl rfl (QV.fieldAddr fd61_0 rfl rfl) ?_
        refine WL.q rfl rfl rfl (QV.load pl3 rfl rfl (Own.cell 3 rfl rfl)) ?_
        refine WL.q rfl rfl rfl (QV.fieldAddr fd61_1 rfl rfl) ?_
        refine WL.q rfl rfl rfl (QV.load pl3 rfl rfl (Own.cell 3 rfl rfl)) ?_
        refine WL.q rfl rfl rfl (QV.geq rfl rfl rfl rfl) ?_
        refine WL.nil ?_
        refine WQ.then ?_
        obtain ⟨o43, hj44, hm45⟩ := bd_some hm42; clear hm42
        refine WC.joint1 (H2 := [blk b26 [.int .i64 ((ele l.body e_.to).op), .int .i64 (((ele l.body e_.to).a).st), .int .i64 (((ele l.body e_.to).a).bk), .int .i64 (((ele l.body e_.to).b).st), .int .i64 (((ele l.body e_.to).b).bk), .int .i64 ((ele l.body e_.to).ar), .int .i64 ((ele l.body e_.to).sp), .int .i64 ((ele l.body e_.to).pl), .int .i64 ((ele l.body e_.to).n)] 59, blk b21 [.int .i64 ((ele l.body e_.fr).op), .int .i64 (((ele l.body e_.fr).a).st), .int .i64 (((ele l.body e_.fr).a).bk), .int .i64 (((ele l.body e_.fr).b).st), .int .i64 (((ele l.body e_.fr).b).bk), .int .i64 ((ele l.body e_.fr).ar), .int .i64 ((ele l.body e_.fr).sp), .int .i64 ((ele l.body e_.fr).pl), .int .i64 ((ele l.body e_.fr).n)] 59, kn noM w.heap.size w X11.2, blk b3 [.int .i64 e_.fr, .int .i64 e_.to, .int .i64 e_.bk, .int .i64 e_.wt] 61, blk b2 [.int .i64 t.u0, .int .i64 t.u1, .int .i64 t.u2, .int .i64 t.w0, .int .i64 t.w1, .int .i64 t.w2, .int .i64 t.regs] 24, blk b1 [v_l_logs, v_l_body, v_l_outs] 49]) (τ := [(5, (true, _)), (9, (true, _)), (10, (true, _)), (12, (true, _))]) (fun (least13_3 : Int) => [(13, (true, .int .i64 least13_3))]) (fun (least13_3 : Int) => []) (fun (least13_3 : Int) => o43 = .go least13_3) ⟨rfl, rfl, rfl, rfl, trivial⟩ (fun w hw => hw.pick [0, 1, 2, 3, 4, 5] (by decide)) ?_ ?_
        · skip
          rintro least13_3 rfl
          refine WC.seq ?_
          refine WC.seq ?_
          refine WC.region ?_
          refine WL.q rfl rfl rfl (QV.fieldAddr fd61_2 rfl rfl) ?_
          refine WL.q rfl rfl rfl (QV.load pl3 rfl rfl (Own.cell 3 rfl rfl)) ?_
          refine WL.q rfl rfl rfl (QV.move rfl rfl) ?_
          refine WL.q rfl rfl rfl (QV.lss rfl rfl rfl rfl) ?_
          refine WL.q rfl rfl rfl (QV.move rfl rfl) ?_
          refine WL.g rfl rfl (GuardIs.neg rfl rfl) (fun hG => QV.fieldAddr fd61_2 rfl rfl) ?_
          refine WL.g rfl rfl (GuardIs.neg rfl rfl) (fun hG => QV.load pl3 rfl hG (Own.cell 3 rfl rfl)) ?_
          refine WL.g rfl rfl (GuardIs.neg rfl rfl) (fun hG => QV.move rfl rfl) ?_
          refine WL.g rfl rfl (GuardIs.neg rfl rfl) (fun hG => QV.gtr rfl hG rfl hG) ?_
          refine WL.q rfl rfl rfl (QV.pickOr rfl rfl rfl (fun h => notF h)) ?_
          refine WL.q rfl rfl rfl (QV.move rfl rfl) ?_
          refine WL.g rfl rfl (GuardIs.neg rfl rfl) (fun hG => QV.loadAgg ag59 rfl rfl rfl (Own.cellsBlk 1 rfl)) ?_
          refine WL.g rfl rfl (GuardIs.neg rfl rfl) (fun hG => QV.loadAgg ag59 rfl rfl rfl (Own.cellsBlk 0 rfl)) ?_
          refine WL.g rfl rfl (GuardIs.neg rfl rfl) (fun hG => QV.fieldAddr fd61_2 rfl rfl) ?_
          refine WL.g rfl rfl (GuardIs.neg rfl rfl) (fun hG => QV.load pl3 rfl hG (Own.cell 3 rfl rfl)) ?_
          refine WL.g rfl rfl (GuardIs.neg rfl rfl) (fun hG => QV.move rfl rfl) ?_
          obtain ⟨x46, hx47, hm48⟩ := bdG_some hm45; clear hm45
          refine WL.g rfl rfl (GuardIs.neg rfl rfl) (fun hG => QV.call en111 (EvAll.cons rfl hG (EvAll.cons rfl hG (EvAll.cons rfl hG (EvAll.cons rfl hG EvAll.nil)))) (fun w hw => have h := roundelayref6_Meets_w w (hx47 hG) ; h)) ?_
          refine WL.g rfl rfl (GuardIs.neg rfl rfl) (fun hG => QV.not rfl hG) ?_
          refine WL.q rfl rfl rfl (QV.pickOr rfl rfl rfl (fun h => notF h)) ?_
          refine WL.nil ?_
          refine WQ.then ?_
          refine WC.cond rfl (fun h49 => ?_) (fun h49 => ?_)
          · skip
            have hm50 := br_t h49 hm48; clear hm48
            refine WC.seq ?_
            refine WC.region ?_
            refine WL.q rfl rfl rfl (QV.assign rfl rfl) ?_
            refine WL.nil ?_
            refine WQ.then ?_
            refine WC.ret ?_
            refine WQ.then_ret ?_
            obtain rfl := (eq_of_some hm50).symm
            refine WQ.ret1 rfl rfl (fun w hw => ?_)
            exact ⟨rfl, Own.kgrow (fun _ x => x) hw⟩
          · skip
            have hm51 := br_f h49 hm48; clear hm48
            refine WC.skip ?_
            refine WQ.then ?_
            refine WC.seq ?_
            refine WC.seq ?_
            refine WC.region ?_
            refine WL.q rfl rfl rfl (QV.move rfl rfl) ?_
            refine WL.q rfl rfl rfl (QV.assign rfl rfl) ?_
            refine WL.nil ?_
            refine WQ.then ?_
            obtain ⟨o52, ho53, hm54⟩ := bd_some hm51; clear hm51; obtain ⟨n55, ho56⟩ := lp_some ho53
            refine WC.bloop1 (H2 := [blk b26 [.int .i64 ((ele l.body e_.to).op), .int .i64 (((ele l.body e_.to).a).st), .int .i64 (((ele l.body e_.to).a).bk), .int .i64 (((ele l.body e_.to).b).st), .int .i64 (((ele l.body e_.to).b).bk), .int .i64 ((ele l.body e_.to).ar), .int .i64 ((ele l.body e_.to).sp), .int .i64 ((ele l.body e_.to).pl), .int .i64 ((ele l.body e_.to).n)] 59, blk b21 [.int .i64 ((ele l.body e_.fr).op), .int .i64 (((ele l.body e_.fr).a).st), .int .i64 (((ele l.body e_.fr).a).bk), .int .i64 (((ele l.body e_.fr).b).st), .int .i64 (((ele l.body e_.fr).b).bk), .int .i64 ((ele l.body e_.fr).ar), .int .i64 ((ele l.body e_.fr).sp), .int .i64 ((ele l.body e_.fr).pl), .int .i64 ((ele l.body e_.fr).n)] 59, kn noM w.heap.size w X11.2, blk b3 [.int .i64 e_.fr, .int .i64 e_.to, .int .i64 e_.bk, .int .i64 e_.wt] 61, blk b2 [.int .i64 t.u0, .int .i64 t.u1, .int .i64 t.u2, .int .i64 t.w0, .int .i64 t.w1, .int .i64 t.w2, .int .i64 t.regs] 24, blk b1 [v_l_logs, v_l_body, v_l_outs] 49]) (τ := [(5, (true, _)), (9, (true, _)), (10, (true, _)), (12, (true, _))]) (fun (back14_4 : Int) => [(14, (true, .int .i64 back14_4))]) (fun (back14_4 : Int) => []) (fun (back14_4 : Int) (m : Nat) => iter (roundelayref6_is_L2 l e_ x40) m back14_4 = some o52) (fun (back14_4 : Int) => o52 = .go back14_4) least13_3 n55 ho56 ⟨rfl, rfl, rfl, rfl, rfl, trivial⟩ (fun w hw => hw.pick [0, 1, 2, 3, 4, 5] (by decide)) ?_ ?_
            · skip
              rintro back14_4 rfl
              refine WQ.then ?_
              refine WC.seq ?_
              refine WC.region ?_
              refine WL.q rfl rfl rfl (QV.assign rfl rfl) ?_
              refine WL.nil ?_
              refine WQ.then ?_
              refine WC.ret ?_
              obtain rfl := (eq_of_some hm54).symm
              refine WQ.ret1 rfl rfl (fun w hw => ?_)
              exact ⟨rfl, Own.kgrow (fun _ x => x) hw⟩
            · skip
              rintro back14_4 m57 hI58
              obtain ⟨m59, s60, rfl, hm61, hn62⟩ := iter_step hI58; clear hI58; unfold roundelayref6_is_L2 at hm61
              refine WC.seq ?_
              refine WC.seq ?_
              refine WC.region ?_
              refine WL.q rfl rfl rfl (QV.move rfl rfl) ?_
              refine WL.q rfl rfl rfl (QV.fieldAddr fd61_2 rfl rfl) ?_
              refine WL.q rfl rfl rfl (QV.load pl3 rfl rfl (Own.cell 3 rfl rfl)) ?_
              refine WL.q rfl rfl rfl (QV.lss rfl rfl rfl rfl) ?_
              refine WL.nil ?_
              refine WQ.then ?_
              refine WC.cond rfl (fun h63 => ?_) (fun h63 => ?_)
              · skip
                have hm64 := br_t h63 hm61; clear hm61
                refine WC.skip ?_
                refine WQ.then ?_
                refine WC.seq ?_
                refine WC.block ?_
                refine WC.seq ?_
                refine WC.region ?_
                refine WL.q rfl rfl rfl (QV.loadAgg ag59 rfl rfl rfl (Own.cellsBlk 1 rfl)) ?_
                refine WL.q rfl rfl rfl (QV.loadAgg ag59 rfl rfl rfl (Own.cellsBlk 0 rfl)) ?_
                refine WL.q rfl rfl rfl (QV.move rfl rfl) ?_
                refine WL.q rfl rfl rfl (QV.move rfl rfl) ?_
                obtain ⟨x65, hx66, hm67⟩ := bd_some hm64; clear hm64
                refine WL.q rfl rfl rfl (QV.call en111 (EvAll.cons rfl rfl (EvAll.cons rfl rfl (EvAll.cons rfl rfl (EvAll.cons rfl rfl EvAll.nil)))) (fun w hw => have h := roundelayref6_Meets_w w hx66 ; h)) ?_
                refine WL.nil ?_
                refine WQ.then ?_
                refine WC.cond rfl (fun h68 => ?_) (fun h68 => ?_)
                · skip
                  have hm69 := br_t h68 hm67; clear hm67
                  refine WC.seq ?_
                  refine WC.region ?_
                  refine WL.q rfl rfl rfl (QV.assign rfl rfl) ?_
                  refine WL.nil ?_
                  refine WQ.then ?_
                  refine WC.ret ?_
                  refine WQ.block_ret ?_
                  refine WQ.then_ret ?_
                  refine WQ.then_ret ?_
                  refine WQ.block_ret ?_
                  refine WQ.then_ret ?_
                  refine WQ.then_ret ?_
                  obtain rfl := up_ret hm69 hn62
                  obtain rfl := (eq_of_some hm54).symm
                  refine WQ.ret1 rfl rfl (fun w hw => ?_)
                  exact ⟨rfl, Own.kgrow (fun _ x => x) hw⟩
                · skip
                  have hm70 := br_f h68 hm67; clear hm67
                  refine WC.skip ?_
                  refine WQ.block ?_
                  refine WQ.then ?_
                  refine WC.region ?_
                  refine WL.q rfl rfl rfl (QV.move rfl rfl) ?_
                  obtain ⟨c71, hm72⟩ := ck_some hm70; clear hm70
                  refine WL.q rfl rfl rfl (QV.add rfl rfl rfl rfl c71) ?_
                  refine WL.q rfl rfl rfl (QV.assign rfl rfl) ?_
                  refine WL.nil ?_
                  exact WQ.again1 (back14_4 + 1) m59 (up_next hm72 hn62) (Nat.lt_succ_self _) ⟨rfl, rfl, rfl, rfl, rfl, trivial⟩ (fun w hw => hw.pick [0, 1, 2, 3, 4, 5] (by decide))
              · skip
                have hm73 := br_f h63 hm61; clear hm61
                refine WC.exit ?_
                refine WQ.then_exit ?_
                refine WQ.then_exit ?_
                refine WQ.block_exit ?_
                exact WQ.out1 back14_4 (up_brk hm73 hn62) ⟨rfl, rfl, rfl, rfl, rfl, trivial⟩ (fun w hw => hw.pick [0, 1, 2, 3, 4, 5] (by decide))
        · skip
          refine WC.cond rfl (fun h74 => ?_) (fun h74 => ?_)
          · skip
            have hm75 := br_t h74 hj44; clear hj44
            refine WC.region ?_
            refine WL.q rfl rfl rfl (QV.assign rfl rfl) ?_
            refine WL.nil ?_
            exact WQ.out1 1 (eq_of_some hm75) ⟨rfl, rfl, rfl, rfl, rfl, trivial⟩ (fun w hw => hw.pick [0, 1, 2, 3, 4, 5] (by decide))
          · skip
            have hm76 := br_f h74 hj44; clear hj44
            refine WC.skip ?_
            exact WQ.out1 0 (eq_of_some hm76) ⟨rfl, rfl, rfl, rfl, rfl, trivial⟩ (fun w hw => hw.pick [0, 1, 2, 3, 4, 5] (by decide))
    · skip
      refine WC.cond rfl (fun h77 => ?_) (fun h77 => ?_)
      · skip
        have hm78 := br_t h77 hj28; clear hj28
        refine WC.region ?_
        refine WL.q rfl rfl rfl (QV.assign rfl rfl) ?_
        refine WL.nil ?_
        exact WQ.out1 1 (eq_of_some hm78) ⟨rfl, rfl, rfl, rfl, rfl, trivial⟩ (fun w hw => hw.pick [0, 1, 2, 3, 4, 5] (by decide))
      · skip
        have hm79 := br_f h77 hj28; clear hj28
        refine WC.skip ?_
        exact WQ.out1 0 (eq_of_some hm79) ⟨rfl, rfl, rfl, rfl, rfl, trivial⟩ (fun w hw => hw.pick [0, 1, 2, 3, 4, 5] (by decide))
  · skip
    rintro i8_1 m80 hI81
    obtain ⟨m82, s83, rfl, hm84, hn85⟩ := iter_step hI81; clear hI81; unfold roundelayref6_is_L0 at hm84
    refine WC.seq ?_
    refine WC.seq ?_
    refine WC.region ?_
    refine WL.q rfl rfl rfl (QV.move rfl rfl) ?_
    refine WL.q rfl rfl rfl (QV.move rfl rfl) ?_
    refine WL.q rfl rfl rfl (QV.lenS Try.underlying106 rfl rfl hF11.lenMap) ?_
    refine WL.q rfl rfl rfl (QV.lss rfl rfl rfl rfl) ?_
    refine WL.nil ?_
    refine WQ.then ?_
    refine WC.cond rfl (fun h86 => ?_) (fun h86 => ?_)
    · skip
      have hm87 := br_t h86 hm84; clear hm84
      refine WC.skip ?_
      refine WQ.then ?_
      refine WC.seq ?_
      refine WC.block ?_
      refine WC.seq ?_
      refine WC.dr (m := 32) (by kernel_rfl) (by kernel_rfl) (fun w hw => hw) ?_
      refine WD.q 0 rfl (by kernel_rfl) rfl rfl rfl (QV.move rfl rfl) ?_
      refine WD.q 1 rfl (by kernel_rfl) rfl rfl rfl (QV.move rfl rfl) ?_
      obtain ⟨c88, hm89⟩ := ck_some hm87; clear hm87
      obtain ⟨p90, hp91⟩ := hF11.lenMap.ix (sz := 2) ln_len c88
      refine WD.q 2 rfl (by kernel_rfl) rfl rfl rfl (QV.indexSlice sl106 rfl rfl rfl rfl hp91) ?_
      refine WD.q 3 rfl (by kernel_rfl) rfl rfl rfl (QV.fieldAddr fd57_0 rfl rfl) ?_
      refine WD.q 4 rfl (by kernel_rfl) rfl rfl rfl (QV.load pl3 rfl rfl (fun w hw => CellsAt.one 0 (((Own.karr 0 rfl hk hF11) w hw).ele hp91 c88) rfl)) ?_
      refine WD.q 5 rfl (by kernel_rfl) rfl rfl rfl (QV.fieldAddr fd61_0 rfl rfl) ?_
      refine WD.q 6 rfl (by kernel_rfl) rfl rfl rfl (QV.load pl3 rfl rfl (Own.cell 1 rfl rfl)) ?_
      refine WD.q 7 rfl (by kernel_rfl) rfl rfl rfl (QV.eql rfl rfl rfl rfl) ?_
      refine WD.q 8 rfl (by kernel_rfl) rfl rfl rfl (QV.move rfl rfl) ?_
      refine WD.g 9 rfl (by kernel_rfl) rfl rfl (GuardIs.pos rfl rfl) (fun hG => QV.move rfl rfl) ?_
      refine WD.g 10 rfl (by kernel_rfl) rfl rfl (GuardIs.pos rfl rfl) (fun hG => QV.move rfl rfl) ?_
      obtain ⟨c92, hm93⟩ := ck_some hm89; clear hm89
      obtain ⟨p94, hp95⟩ := hF11.lenMap.ixG (sz := 2) ln_len c92
      refine WD.g 11 rfl (by kernel_rfl) rfl rfl (GuardIs.pos rfl rfl) (fun hG => QV.indexSlice sl106 rfl hG rfl hG (hp95 hG)) ?_
      refine WD.g 12 rfl (by kernel_rfl) rfl rfl (GuardIs.pos rfl rfl) (fun hG => QV.fieldAddr fd57_1 rfl hG) ?_
      refine WD.g 13 rfl (by kernel_rfl) rfl rfl (GuardIs.pos rfl rfl) (fun hG => QV.load pl3 rfl hG (fun w hw => CellsAt.one 1 (((Own.karr 0 rfl hk hF11) w hw).ele (hp95 hG) (c92 hG)) rfl)) ?_
      refine WD.g 14 rfl (by kernel_rfl) rfl rfl (GuardIs.pos rfl rfl) (fun hG => QV.fieldAddr fd61_2 rfl rfl) ?_
      refine WD.g 15 rfl (by kernel_rfl) rfl rfl (GuardIs.pos rfl rfl) (fun hG => QV.load pl3 rfl hG (Own.cell 1 rfl rfl)) ?_
      refine WD.g 16 rfl (by kernel_rfl) rfl rfl (GuardIs.pos rfl rfl) (fun hG => QV.eql rfl hG rfl hG) ?_
      refine WD.q 17 rfl (by kernel_rfl) rfl rfl rfl (QV.pickAnd rfl rfl rfl (fun h => h)) ?_
      refine WD.q 18 rfl (by kernel_rfl) rfl rfl rfl (QV.move rfl rfl) ?_
      refine WD.g 19 rfl (by kernel_rfl) rfl rfl (GuardIs.pos rfl rfl) (fun hG => QV.fieldAddr fd61_3 rfl rfl) ?_
      refine WD.g 20 rfl (by kernel_rfl) rfl rfl (GuardIs.pos rfl rfl) (fun hG => QV.load pl3 rfl hG (Own.cell 1 rfl rfl)) ?_
      refine WD.g 21 rfl (by kernel_rfl) rfl rfl (GuardIs.pos rfl rfl) (fun hG => QV.loadAgg ag24 rfl rfl rfl (Own.cellsBlk 2 rfl)) ?_
      refine WD.g 22 rfl (by kernel_rfl) rfl rfl (GuardIs.pos rfl rfl) (fun hG => QV.fieldAddr fd49_1 rfl rfl) ?_
      refine WD.g 23 rfl (by kernel_rfl) rfl rfl (GuardIs.pos rfl rfl) (fun hG => QV.load pl47 rfl hG (Own.cell 3 rfl rfl)) ?_
      refine WD.g 24 rfl (by kernel_rfl) rfl rfl (GuardIs.pos rfl rfl) (fun hG => QV.fieldAddr fd61_0 rfl rfl) ?_
      refine WD.g 25 rfl (by kernel_rfl) rfl rfl (GuardIs.pos rfl rfl) (fun hG => QV.load pl3 rfl hG (Own.cell 1 rfl rfl)) ?_
      obtain ⟨c96, hm97⟩ := ck_some hm93; clear hm93
      obtain ⟨p98, hp99⟩ := (h_l_body.le hle11).lenMap.ixG (sz := 9) ln_len c96
      refine WD.g 26 rfl (by kernel_rfl) rfl rfl (GuardIs.pos rfl rfl) (fun hG => QV.indexSlice sl47 rfl hG rfl hG (hp99 hG)) ?_
      refine WD.g 27 rfl (by kernel_rfl) rfl rfl (GuardIs.pos rfl rfl) (fun hG => QV.fieldAddr fd59_0 rfl hG) ?_
      refine WD.g 28 rfl (by kernel_rfl) rfl rfl (GuardIs.pos rfl rfl) (fun hG => QV.load pl3 rfl hG (fun w hw => CellsAt.one 0 (((Own.karr 0 rfl hk (h_l_body.le hle11)) w hw).ele (hp99 hG) (c96 hG)) rfl)) ?_
      obtain ⟨x100, hx101, hm102⟩ := bdG_some hm97; clear hm97
      refine WD.g 29 rfl (by kernel_rfl) rfl rfl (GuardIs.pos rfl rfl) (fun hG => QV.call en78 (EvAll.cons rfl hG (EvAll.cons rfl hG EvAll.nil)) (fun w hw => have h := roundelayref4_Wait_w w (hx101 hG) ; h)) ?_
      refine WD.g 30 rfl (by kernel_rfl) rfl rfl (GuardIs.pos rfl rfl) (fun hG => QV.eql rfl hG rfl hG) ?_
      refine WD.q 31 rfl (by kernel_rfl) rfl rfl rfl (QV.pickAnd rfl rfl rfl (fun h => h)) ?_
      refine WD.e (by kernel_rfl) ?_
      refine WQ.then ?_
      refine WC.cond rfl (fun h103 => ?_) (fun h103 => ?_)
      · skip
        have hm104 := br_t h103 hm102; clear hm102
        refine WC.seq ?_
        refine WC.region ?_
        refine WL.q rfl rfl rfl (QV.assign rfl rfl) ?_
        refine WL.nil ?_
        refine WQ.then ?_
        refine WC.ret ?_
        refine WQ.block_ret ?_
        refine WQ.then_ret ?_
        refine WQ.then_ret ?_
        refine WQ.block_ret ?_
        refine WQ.then_ret ?_
        refine WQ.then_ret ?_
        obtain rfl := up_ret hm104 hn85
        obtain rfl := (eq_of_some hm14).symm
        refine WQ.ret1 rfl rfl (fun w hw => ?_)
        exact ⟨rfl, Own.kgrow (fun _ x => x) hw⟩
      · skip
        have hm105 := br_f h103 hm102; clear hm102
        refine WC.skip ?_
        refine WQ.block ?_
        refine WQ.then ?_
        refine WC.region ?_
        refine WL.q rfl rfl rfl (QV.move rfl rfl) ?_
        obtain ⟨c106, hm107⟩ := ck_some hm105; clear hm105
        refine WL.q rfl rfl rfl (QV.add rfl rfl rfl rfl c106) ?_
        refine WL.q rfl rfl rfl (QV.assign rfl rfl) ?_
        refine WL.nil ?_
        exact WQ.again1 (i8_1 + 1) m82 (up_next hm107 hn85) (Nat.lt_succ_self _) ⟨rfl, rfl, rfl, rfl, rfl, trivial⟩ (fun w hw => hw.pick [0, 1, 2, 3] (by decide))
    · skip
      have hm108 := br_f h86 hm84; clear hm84
      refine WC.exit ?_
      refine WQ.then_exit ?_
      refine WQ.then_exit ?_
      refine WQ.block_exit ?_
      exact WQ.out1 i8_1 (up_brk hm108 hn85) ⟨rfl, rfl, rfl, rfl, rfl, trivial⟩ (fun w hw => hw.pick [0, 1, 2, 3] (by decide))

set_option maxRecDepth 8000 in
theorem roundelayref6_Edges_w {v_l_logs : Value} {v_l_body : Value} {v_l_outs : Value} {l : Lp} {t : Tgt} {r : List Edg} {K0 : World} (hm : roundelayref6_Edges_m l t = some r) (h_l_logs : Arr K0 v_l_logs 1 (l.logs.map icell)) (h_l_body : Arr K0 v_l_body 9 (l.body.map Stm.cells)) (h_l_outs : Arr K0 v_l_outs 1 (l.outs.map icell)) (M : Nat → Prop) (w : World) (hk : Base M K0 w) (hw0 : Own M w [] w) : Calls Try.prog 25 #[.agg #[v_l_logs, v_l_body, v_l_outs], .agg #[.int .i64 t.u0, .int .i64 t.u1, .int .i64 t.u2, .int .i64 t.w0, .int .i64 t.w1, .int .i64 t.w2, .int .i64 t.regs]] w (fun e w' => ∃ X : Value × World, e = .returned (X.1) ∧ Own M w (kn M w.heap.size K0 X.2 :: []) w' ∧ Arr X.2 X.1 4 (r.map Edg.cells)) := by
  unfold roundelayref6_Edges_m at hm
  refine calls_of_WC (n := 47) (args := [.agg #[v_l_logs, v_l_body, v_l_outs], .agg #[.int .i64 t.u0, .int .i64 t.u1, .int .i64 t.u2, .int .i64 t.w0, .int .i64 t.w1, .int .i64 t.w2, .int .i64 t.regs]]) Try.func25 rfl rfl (Nat.le_of_ble_eq_true rfl) ?_ (Own.startK hk hw0)
  refine WC.seq ?_
  refine WC.region ?_
  refine WL.effect rfl ?_
  refine (EV.boxAgg (by decide) rfl rfl (fun b1 => ?_))
  refine WL.effect rfl ?_
  refine (EV.boxAgg (by decide) rfl rfl (fun b2 => ?_))
  refine WL.q rfl rfl rfl (QV.assign rfl rfl) ?_
  refine WL.nil ?_
  refine WQ.then ?_
  refine WC.seq ?_
  refine WC.region ?_
  refine WL.q rfl rfl rfl (QV.assign rfl rfl) ?_
  refine WL.nil ?_
  refine WQ.then ?_
  refine WC.seq ?_
  refine WC.seq ?_
  refine WC.region ?_
  refine WL.q rfl rfl rfl (QV.assign rfl rfl) ?_
  refine WL.nil ?_
  refine WQ.then ?_
  refine WK.of (fun w hw => hw.vecNil (E := 61) (sz := 4) (enc := Edg.cells)) ?_
  obtain ⟨o4, ho5, hm6⟩ := bd_some hm; clear hm; obtain ⟨n7, ho8⟩ := lp_some ho5
  refine WC.bloop3 (H2 := [blk b2 [.int .i64 t.u0, .int .i64 t.u1, .int .i64 t.u2, .int .i64 t.w0, .int .i64 t.w1, .int .i64 t.w2, .int .i64 t.regs] 24, blk b1 [v_l_logs, v_l_body, v_l_outs] 49, kn M w.heap.size K0 K0]) (τ := [(2, (true, _)), (3, (true, _))]) (fun (v3_45 : List Edg) (from6_45 : Int) (uv3_45 : Value) => [(5, (true, uv3_45)), (6, (true, .int .i64 from6_45))]) (fun (v3_45 : List Edg) (from6_45 : Int) (uv3_45 : Value) => [vec uv3_45 61 4 (List.map Edg.cells v3_45)]) (fun (v3_45 : List Edg) (from6_45 : Int) (uv3_45 : Value) (m : Nat) => iter (roundelayref6_Edges_L0 l t) m (v3_45, from6_45) = some o4 ∧ SliceLen uv3_45 v3_45.length) (fun (v3_45 : List Edg) (from6_45 : Int) (uv3_45 : Value) => o4 = .go (v3_45, from6_45) ∧ SliceLen uv3_45 v3_45.length) [] 0 (.slice none 0 0) n7 ⟨ho8, SliceLen.nil⟩ ⟨rfl, rfl, rfl, rfl, trivial⟩ (fun w hw => hw.pick [0, 1, 2, 3] (by decide)) ?_ ?_
  · skip
    rintro v3_45 from6_45 uv3_45 ⟨rfl, hlv3_45⟩
    refine WQ.then ?_
    refine WC.seq ?_
    refine WC.region ?_
    refine WL.q rfl rfl rfl (QV.move rfl rfl) ?_
    refine WL.q rfl rfl rfl (QV.assign rfl rfl) ?_
    refine WL.nil ?_
    refine WQ.then ?_
    refine WC.ret ?_
    obtain rfl := (eq_of_some hm6).symm
    refine WK.of (C' := Own M w [kn M w.heap.size K0 K0, vec uv3_45 61 4 (List.map Edg.cells v3_45), blk b2 [.int .i64 t.u0, .int .i64 t.u1, .int .i64 t.u2, .int .i64 t.w0, .int .i64 t.w1, .int .i64 t.w2, .int .i64 t.regs] 24, blk b1 [v_l_logs, v_l_body, v_l_outs] 49]) (fun w hw => hw.pick [3, 0, 1, 2] (by decide)) ?_
    refine WK.freeze hk (fun k9 hle9 hr9 => ?_)
    have hA9 := vec_arr hr9
    refine WQ.ret1 rfl rfl (fun w hw => ?_)
    exact ⟨(uv3_45, k9), rfl, hw.pick [0] (by decide), hA9⟩
  · skip
    rintro v3_45 from6_45 uv3_45 m10 ⟨hI11, hlv3_45⟩
    obtain ⟨m12, s13, rfl, hm14, hn15⟩ := iter_step hI11; clear hI11; unfold roundelayref6_Edges_L0 at hm14; simp only at hm14
    refine WC.seq ?_
    refine WC.seq ?_
    refine WC.region ?_
    refine WL.q rfl rfl rfl (QV.move rfl rfl) ?_
    refine WL.q rfl rfl rfl (QV.fieldAddr fd49_1 rfl rfl) ?_
    refine WL.q rfl rfl rfl (QV.load pl47 rfl rfl (Own.cell 2 rfl rfl)) ?_
    refine WL.q rfl rfl rfl (QV.lenS Try.underlying47 rfl rfl h_l_body.lenMap) ?_
    refine WL.q rfl rfl rfl (QV.lss rfl rfl rfl rfl) ?_
    refine WL.nil ?_
    refine WQ.then ?_
    refine WC.cond rfl (fun h16 => ?_) (fun h16 => ?_)
    · skip
      have hm17 := br_t h16 hm14; clear hm14
      refine WC.skip ?_
      refine WQ.then ?_
      refine WC.seq ?_
      refine WC.block ?_
      refine WC.seq ?_
      refine WC.region ?_
      refine WL.q rfl rfl rfl (QV.assign rfl rfl) ?_
      refine WL.nil ?_
      refine WQ.then ?_
      obtain ⟨o18, ho19, hm20⟩ := bd_some hm17; clear hm17; obtain ⟨n21, ho22⟩ := lp_some ho19
      refine WC.bloop3 (H2 := [blk b2 [.int .i64 t.u0, .int .i64 t.u1, .int .i64 t.u2, .int .i64 t.w0, .int .i64 t.w1, .int .i64 t.w2, .int .i64 t.regs] 24, blk b1 [v_l_logs, v_l_body, v_l_outs] 49, kn M w.heap.size K0 K0]) (τ := [(2, (true, _)), (3, (true, _)), (6, (true, _))]) (fun (v3_54 : List Edg) (to7_54 : Int) (uv3_54 : Value) => [(5, (true, uv3_54)), (7, (true, .int .i64 to7_54))]) (fun (v3_54 : List Edg) (to7_54 : Int) (uv3_54 : Value) => [vec uv3_54 61 4 (List.map Edg.cells v3_54)]) (fun (v3_54 : List Edg) (to7_54 : Int) (uv3_54 : Value) (m : Nat) => iter (roundelayref6_Edges_L2 l t from6_45) m (v3_54, to7_54) = some o18 ∧ SliceLen uv3_54 v3_54.length) (fun (v3_54 : List Edg) (to7_54 : Int) (uv3_54 : Value) => o18 = .go (v3_54, to7_54) ∧ SliceLen uv3_54 v3_54.length) v3_45 0 uv3_45 n21 ⟨ho22, hlv3_45⟩ ⟨rfl, rfl, rfl, rfl, rfl, trivial⟩ (fun w hw => hw.pick [0, 1, 2, 3] (by decide)) ?_ ?_
      · skip
        rintro v3_54 to7_54 uv3_54 ⟨rfl, hlv3_54⟩
        refine WQ.block ?_
        refine WQ.then ?_
        refine WC.region ?_
        refine WL.q rfl rfl rfl (QV.move rfl rfl) ?_
        obtain ⟨c23, hm24⟩ := ck_some hm20; clear hm20
        refine WL.q rfl rfl rfl (QV.add rfl rfl rfl rfl c23) ?_
        refine WL.q rfl rfl rfl (QV.assign rfl rfl) ?_
        refine WL.nil ?_
        exact WQ.again3 v3_54 (from6_45 + 1) uv3_54 m12 ⟨up_next hm24 hn15, hlv3_54⟩ (Nat.lt_succ_self _) ⟨rfl, rfl, rfl, rfl, trivial⟩ (fun w hw => hw.pick [0, 1, 2, 3] (by decide))
      · skip
        rintro v3_54 to7_54 uv3_54 m25 ⟨hI26, hlv3_54⟩
        obtain ⟨m27, s28, rfl, hm29, hn30⟩ := iter_step hI26; clear hI26; unfold roundelayref6_Edges_L2 at hm29; simp only at hm29
        refine WC.seq ?_
        refine WC.seq ?_
        refine WC.region ?_
        refine WL.q rfl rfl rfl (QV.move rfl rfl) ?_
        refine WL.q rfl rfl rfl (QV.fieldAddr fd49_1 rfl rfl) ?_
        refine WL.q rfl rfl rfl (QV.load pl47 rfl rfl (Own.cell 2 rfl rfl)) ?_
        refine WL.q rfl rfl rfl (QV.lenS Try.underlying47 rfl rfl h_l_body.lenMap) ?_
        refine WL.q rfl rfl rfl (QV.lss rfl rfl rfl rfl) ?_
        refine WL.nil ?_
        refine WQ.then ?_
        refine WC.cond rfl (fun h31 => ?_) (fun h31 => ?_)
        · skip
          have hm32 := br_t h31 hm29; clear hm29
          refine WC.skip ?_
          refine WQ.then ?_
          refine WC.seq ?_
          refine WC.block ?_
          refine WC.seq ?_
          refine WC.region ?_
          refine WL.q rfl rfl rfl (QV.assign rfl rfl) ?_
          refine WL.nil ?_
          refine WQ.then ?_
          obtain ⟨o33, ho34, hm35⟩ := bd_some hm32; clear hm32; obtain ⟨n36, ho37⟩ := lp_some ho34
          refine WC.bloop3 (H2 := [blk b2 [.int .i64 t.u0, .int .i64 t.u1, .int .i64 t.u2, .int .i64 t.w0, .int .i64 t.w1, .int .i64 t.w2, .int .i64 t.regs] 24, blk b1 [v_l_logs, v_l_body, v_l_outs] 49, kn M w.heap.size K0 K0]) (τ := [(2, (true, _)), (3, (true, _)), (6, (true, _)), (7, (true, _))]) (fun (v3_57 : List Edg) (back8_57 : Int) (uv3_57 : Value) => [(5, (true, uv3_57)), (8, (true, .int .i64 back8_57))]) (fun (v3_57 : List Edg) (back8_57 : Int) (uv3_57 : Value) => [vec uv3_57 61 4 (List.map Edg.cells v3_57)]) (fun (v3_57 : List Edg) (back8_57 : Int) (uv3_57 : Value) (m : Nat) => iter (roundelayref6_Edges_L4 l t from6_45 to7_54) m (v3_57, back8_57) = some o33 ∧ SliceLen uv3_57 v3_57.length) (fun (v3_57 : List Edg) (back8_57 : Int) (uv3_57 : Value) => o33 = .go (v3_57, back8_57) ∧ SliceLen uv3_57 v3_57.length) v3_54 0 uv3_54 n36 ⟨ho37, hlv3_54⟩ ⟨rfl, rfl, rfl, rfl, rfl, rfl, trivial⟩ (fun w hw => hw.pick [0, 1, 2, 3] (by decide)) ?_ ?_
          · skip
            rintro v3_57 back8_57 uv3_57 ⟨rfl, hlv3_57⟩
            refine WQ.block ?_
            refine WQ.then ?_
            refine WC.region ?_
            refine WL.q rfl rfl rfl (QV.move rfl rfl) ?_
            obtain ⟨c38, hm39⟩ := ck_some hm35; clear hm35
            refine WL.q rfl rfl rfl (QV.add rfl rfl rfl rfl c38) ?_
            refine WL.q rfl rfl rfl (QV.assign rfl rfl) ?_
            refine WL.nil ?_
            exact WQ.again3 v3_57 (to7_54 + 1) uv3_57 m27 ⟨up_next hm39 hn30, hlv3_57⟩ (Nat.lt_succ_self _) ⟨rfl, rfl, rfl, rfl, rfl, trivial⟩ (fun w hw => hw.pick [0, 1, 2, 3] (by decide))
          · skip
            rintro v3_57 back8_57 uv3_57 m40 ⟨hI41, hlv3_57⟩
            obtain ⟨m42, s43, rfl, hm44, hn45⟩ := iter_step hI41; clear hI41; unfold roundelayref6_Edges_L4 at hm44; simp only at hm44
            refine WC.seq ?_
            refine WC.seq ?_
            refine WC.region ?_
            refine WL.q rfl rfl rfl (QV.move rfl rfl) ?_
            refine WL.q rfl rfl rfl (QV.leq rfl rfl rfl rfl) ?_
            refine WL.nil ?_
            refine WQ.then ?_
            refine WC.cond rfl (fun h46 => ?_) (fun h46 => ?_)
            · skip
              have hm47 := br_t h46 hm44; clear hm44
              refine WC.skip ?_
              refine WQ.then ?_
              refine WC.seq ?_
              refine WC.block ?_
              refine WC.seq ?_
              refine WC.region ?_
              refine WL.q rfl rfl rfl (QV.assign rfl rfl) ?_
              refine WL.nil ?_
              refine WQ.then ?_
              obtain ⟨o48, ho49, hm50⟩ := bd_some hm47; clear hm47; obtain ⟨n51, ho52⟩ := lp_some ho49
              refine WC.bloop3 (H2 := [blk b2 [.int .i64 t.u0, .int .i64 t.u1, .int .i64 t.u2, .int .i64 t.w0, .int .i64 t.w1, .int .i64 t.w2, .int .i64 t.regs] 24, blk b1 [v_l_logs, v_l_body, v_l_outs] 49, kn M w.heap.size K0 K0]) (τ := [(2, (true, _)), (3, (true, _)), (6, (true, _)), (7, (true, _)), (8, (true, _))]) (fun (v3_58 : List Edg) (wait9_58 : Int) (uv3_58 : Value) => [(5, (true, uv3_58)), (9, (true, .int .i64 wait9_58))]) (fun (v3_58 : List Edg) (wait9_58 : Int) (uv3_58 : Value) => [vec uv3_58 61 4 (List.map Edg.cells v3_58)]) (fun (v3_58 : List Edg) (wait9_58 : Int) (uv3_58 : Value) (m : Nat) => iter (roundelayref6_Edges_L6 l t from6_45 to7_54 back8_57) m (v3_58, wait9_58) = some o48 ∧ SliceLen uv3_58 v3_58.length) (fun (v3_58 : List Edg) (wait9_58 : Int) (uv3_58 : Value) => o48 = .go (v3_58, wait9_58) ∧ SliceLen uv3_58 v3_58.length) v3_57 0 uv3_57 n51 ⟨ho52, hlv3_57⟩ ⟨rfl, rfl, rfl, rfl, rfl, rfl, rfl, trivial⟩ (fun w hw => hw.pick [0, 1, 2, 3] (by decide)) ?_ ?_
              · skip
                rintro v3_58 wait9_58 uv3_58 ⟨rfl, hlv3_58⟩
                refine WQ.block ?_
                refine WQ.then ?_
                refine WC.region ?_
                refine WL.q rfl rfl rfl (QV.move rfl rfl) ?_
                obtain ⟨c53, hm54⟩ := ck_some hm50; clear hm50
                refine WL.q rfl rfl rfl (QV.add rfl rfl rfl rfl c53) ?_
                refine WL.q rfl rfl rfl (QV.assign rfl rfl) ?_
                refine WL.nil ?_
                exact WQ.again3 v3_58 (back8_57 + 1) uv3_58 m42 ⟨up_next hm54 hn45, hlv3_58⟩ (Nat.lt_succ_self _) ⟨rfl, rfl, rfl, rfl, rfl, rfl, trivial⟩ (fun w hw => hw.pick [0, 1, 2, 3] (by decide))
              · skip
                rintro v3_58 wait9_58 uv3_58 m55 ⟨hI56, hlv3_58⟩
                obtain ⟨m57, s58, rfl, hm59, hn60⟩ := iter_step hI56; clear hI56; unfold roundelayref6_Edges_L6 at hm59; simp only at hm59
                refine WC.seq ?_
                refine WC.seq ?_
                refine WC.region ?_
                refine WL.q rfl rfl rfl (QV.move rfl rfl) ?_
                refine WL.q rfl rfl rfl (QV.leq rfl rfl rfl rfl) ?_
                refine WL.nil ?_
                refine WQ.then ?_
                refine WC.cond rfl (fun h61 => ?_) (fun h61 => ?_)
                · skip
                  have hm62 := br_t h61 hm59; clear hm59
                  refine WC.skip ?_
                  refine WQ.then ?_
                  refine WC.seq ?_
                  refine WC.block ?_
                  refine WC.seq ?_
                  refine WC.region ?_
                  refine WL.q rfl rfl rfl (QV.move rfl rfl) ?_
                  refine WL.q rfl rfl rfl (QV.move rfl rfl) ?_
                  refine WL.q rfl rfl rfl (QV.move rfl rfl) ?_
                  refine WL.q rfl rfl rfl (QV.move rfl rfl) ?_
                  refine WL.q rfl rfl rfl (QV.build (ps := [(0, .tmp 33), (1, .tmp 34), (2, .tmp 35), (3, .tmp 36)]) (cells := [.int .i64 from6_45, .int .i64 to7_54, .int .i64 back8_57, .int .i64 wait9_58]) (EvAll.cons rfl rfl (EvAll.cons rfl rfl (EvAll.cons rfl rfl (EvAll.cons rfl rfl EvAll.nil)))) (by kernel_rfl)) ?_
                  refine WL.effect rfl ?_
                  refine (EV.alloc (by decide) ze61 (fun b63 => ?_))
                  refine WL.effect rfl ?_
                  refine (EV.store 0 rfl rfl rfl rfl rfl rfl (vs := [.int .i64 from6_45, .int .i64 to7_54, .int .i64 back8_57, .int .i64 wait9_58]) (show Value.cells _ = List.toArray _ from rfl) sz61 (Nat.le_of_ble_eq_true rfl) (one_cons rfl (one_cons rfl (one_cons rfl (one_cons rfl one_nil)))) ?_)
                  refine WL.nil ?_
                  refine WQ.then ?_
                  refine WC.seq ?_
                  refine WC.region ?_
                  refine WL.q rfl rfl rfl (QV.loadAgg ag49 rfl rfl rfl (Own.cellsBlk 3 rfl)) ?_
                  refine WL.q rfl rfl rfl (QV.loadAgg ag24 rfl rfl rfl (Own.cellsBlk 2 rfl)) ?_
                  refine WL.q rfl rfl rfl (QV.loadAgg ag61 rfl rfl rfl (Own.cellsBlk 0 rfl)) ?_
                  obtain ⟨x64, hx65, hm66⟩ := bd_some hm62; clear hm62
                  refine WL.q rfl rfl rfl (QV.call en69 (EvAll.cons rfl rfl (EvAll.cons rfl rfl (EvAll.cons rfl rfl EvAll.nil))) (fun w hw => have h := roundelayref6_is_w w hx65 ((Own.karr 4 rfl hk h_l_logs) w hw) ((Own.karr 4 rfl hk h_l_body) w hw) ((Own.karr 4 rfl hk h_l_outs) w hw); h)) ?_
                  refine WL.nil ?_
                  refine WQ.then ?_
                  refine WC.cond rfl (fun h67 => ?_) (fun h67 => ?_)
                  · skip
                    have hm68 := br_t h67 hm66; clear hm66
                    refine WC.region ?_
                    refine WL.q rfl rfl rfl (QV.move rfl rfl) ?_
                    refine WL.q rfl rfl rfl (QV.loadAgg ag61 rfl rfl rfl (Own.cellsBlk 0 rfl)) ?_
                    refine WL.effect rfl ?_
                    refine (EV.buildSlice (by decide) sz_50 (by decide) (by decide) (ps := [(0, .tmp 43)]) (cells := [.int .i64 from6_45, .int .i64 to7_54, .int .i64 back8_57, .int .i64 wait9_58]) (EvAll.cons rfl rfl EvAll.nil) (by kernel_rfl) (fun b69 => ?_))
                    refine WL.effect rfl ?_
                    obtain ⟨c70, hm71⟩ := ck_some hm68; clear hm68
                    refine (EV.appendL (enc := Edg.cells) (xs := v3_58) (ys := [(Edg.mk from6_45 to7_54 back8_57 wait9_58)]) ((v3_58 ++ [(Edg.mk from6_45 to7_54 back8_57 wait9_58)])) 2 (by decide) ve50 rfl rfl rfl rfl rfl (Own.blkArr 0 (rows := [(Edg.mk from6_45 to7_54 back8_57 wait9_58)].map Edg.cells) rfl rfl (rows_len Edg.cells_len)) Edg.cells_len (Edg.cells_one _) rfl c70.1 c70.2 (fun u72 hu73 => ?_))
                    refine WL.q rfl rfl rfl (QV.assign rfl rfl) ?_
                    refine WL.nil ?_
                    refine WQ.block ?_
                    refine WQ.then ?_
                    refine WC.region ?_
                    refine WL.q rfl rfl rfl (QV.move rfl rfl) ?_
                    obtain ⟨c74, hm75⟩ := ck_some hm71; clear hm71
                    refine WL.q rfl rfl rfl (QV.add rfl rfl rfl rfl c74) ?_
                    refine WL.q rfl rfl rfl (QV.assign rfl rfl) ?_
                    refine WL.nil ?_
                    exact WQ.again3 (v3_58 ++ [(Edg.mk from6_45 to7_54 back8_57 wait9_58)]) (wait9_58 + 1) u72 m57 ⟨up_next hm75 hn60, hu73⟩ (Nat.lt_succ_self _) ⟨rfl, rfl, rfl, rfl, rfl, rfl, rfl, trivial⟩ (fun w hw => hw.pick [2, 3, 4, 5] (by decide))
                  · skip
                    have hm76 := br_f h67 hm66; clear hm66
                    refine WC.skip ?_
                    refine WQ.block ?_
                    refine WQ.then ?_
                    refine WC.region ?_
                    refine WL.q rfl rfl rfl (QV.move rfl rfl) ?_
                    obtain ⟨c77, hm78⟩ := ck_some hm76; clear hm76
                    refine WL.q rfl rfl rfl (QV.add rfl rfl rfl rfl c77) ?_
                    refine WL.q rfl rfl rfl (QV.assign rfl rfl) ?_
                    refine WL.nil ?_
                    exact WQ.again3 v3_58 (wait9_58 + 1) uv3_58 m57 ⟨up_next hm78 hn60, hlv3_58⟩ (Nat.lt_succ_self _) ⟨rfl, rfl, rfl, rfl, rfl, rfl, rfl, trivial⟩ (fun w hw => hw.pick [1, 2, 3, 4] (by decide))
                · skip
                  have hm79 := br_f h61 hm59; clear hm59
                  refine WC.exit ?_
                  refine WQ.then_exit ?_
                  refine WQ.then_exit ?_
                  refine WQ.block_exit ?_
                  exact WQ.out3 v3_58 wait9_58 uv3_58 ⟨up_brk hm79 hn60, hlv3_58⟩ ⟨rfl, rfl, rfl, rfl, rfl, rfl, rfl, trivial⟩ (fun w hw => hw.pick [0, 1, 2, 3] (by decide))
            · skip
              have hm80 := br_f h46 hm44; clear hm44
              refine WC.exit ?_
              refine WQ.then_exit ?_
              refine WQ.then_exit ?_
              refine WQ.block_exit ?_
              exact WQ.out3 v3_57 back8_57 uv3_57 ⟨up_brk hm80 hn45, hlv3_57⟩ ⟨rfl, rfl, rfl, rfl, rfl, rfl, trivial⟩ (fun w hw => hw.pick [0, 1, 2, 3] (by decide))
        · skip
          have hm81 := br_f h31 hm29; clear hm29
          refine WC.exit ?_
          refine WQ.then_exit ?_
          refine WQ.then_exit ?_
          refine WQ.block_exit ?_
          exact WQ.out3 v3_54 to7_54 uv3_54 ⟨up_brk hm81 hn30, hlv3_54⟩ ⟨rfl, rfl, rfl, rfl, rfl, trivial⟩ (fun w hw => hw.pick [0, 1, 2, 3] (by decide))
    · skip
      have hm82 := br_f h16 hm14; clear hm14
      refine WC.exit ?_
      refine WQ.then_exit ?_
      refine WQ.then_exit ?_
      refine WQ.block_exit ?_
      exact WQ.out3 v3_45 from6_45 uv3_45 ⟨up_brk hm82 hn15, hlv3_45⟩ ⟨rfl, rfl, rfl, rfl, trivial⟩ (fun w hw => hw.pick [0, 1, 2, 3] (by decide))

set_option maxRecDepth 8000 in
theorem roundelayref6_May_w {v_l_logs : Value} {v_l_body : Value} {v_l_outs : Value} {l : Lp} {t : Tgt} {r : Bool} (w : World) (hm : roundelayref6_May_m l t = some r) (h_l_logs : Arr w v_l_logs 1 (l.logs.map icell)) (h_l_body : Arr w v_l_body 9 (l.body.map Stm.cells)) (h_l_outs : Arr w v_l_outs 1 (l.outs.map icell)) : Calls Try.prog 24 #[.agg #[v_l_logs, v_l_body, v_l_outs], .agg #[.int .i64 t.u0, .int .i64 t.u1, .int .i64 t.u2, .int .i64 t.w0, .int .i64 t.w1, .int .i64 t.w2, .int .i64 t.regs]] w (fun e w' => e = .returned (.bool r) ∧ Grow w w') := by
  unfold roundelayref6_May_m at hm
  have hk := Base.rfl (w := w)
  refine calls_of_WC (n := 11) (args := [.agg #[v_l_logs, v_l_body, v_l_outs], .agg #[.int .i64 t.u0, .int .i64 t.u1, .int .i64 t.u2, .int .i64 t.w0, .int .i64 t.w1, .int .i64 t.w2, .int .i64 t.regs]]) Try.func24 rfl rfl (Nat.le_of_ble_eq_true rfl) ?_ (Own.startK hk (Own.start w))
  refine WC.seq ?_
  refine WC.region ?_
  refine WL.effect rfl ?_
  refine (EV.boxAgg (by decide) rfl rfl (fun b1 => ?_))
  refine WL.effect rfl ?_
  refine (EV.boxAgg (by decide) rfl rfl (fun b2 => ?_))
  refine WL.q rfl rfl rfl (QV.assign rfl rfl) ?_
  refine WL.nil ?_
  refine WQ.then ?_
  refine WC.seq ?_
  refine WC.region ?_
  refine WL.q rfl rfl rfl (QV.loadAgg ag49 rfl rfl rfl (Own.cellsBlk 1 rfl)) ?_
  obtain ⟨x3, hx4, hm5⟩ := bd_some hm; clear hm
  refine WL.q rfl rfl rfl (QV.call en68 (EvAll.cons rfl rfl EvAll.nil) (fun w hw => have h := roundelayref2_May_w w hx4 ((Own.karr 2 rfl hk h_l_logs) w hw) ((Own.karr 2 rfl hk h_l_body) w hw) ((Own.karr 2 rfl hk h_l_outs) w hw); h)) ?_
  refine WL.q rfl rfl rfl (QV.move rfl rfl) ?_
  refine WL.g rfl rfl (GuardIs.pos rfl rfl) (fun hG => QV.loadAgg ag24 rfl rfl rfl (Own.cellsBlk 0 rfl)) ?_
  obtain ⟨x6, hx7, hm8⟩ := bdG_some hm5; clear hm5
  refine WL.g rfl rfl (GuardIs.pos rfl rfl) (fun hG => QV.call en49 (EvAll.cons rfl hG EvAll.nil) (fun w hw => have h := roundelayref4_May_w w (hx7 hG) ; h)) ?_
  refine WL.q rfl rfl rfl (QV.pickAnd rfl rfl rfl (fun h => h)) ?_
  refine WL.q rfl rfl rfl (QV.assign rfl rfl) ?_
  refine WL.nil ?_
  refine WQ.then ?_
  refine WC.ret ?_
  obtain rfl := (eq_of_some hm8).symm
  refine WQ.ret1 rfl rfl (fun w hw => ?_)
  exact ⟨rfl, Own.kgrow (fun _ x => x) hw⟩
end Go.Proofs.Ytaimbkndebaaiab
end
