/- Texts that the law stands on: part 7. -/
import Derived.Test.YtaimbkndebaaiabZLregsMakes6
import Derived.Test.YtaimbkndebaaiabProg
import Derived.KernelRfl
section
namespace Go.Proofs.Ytaimbkndebaaiab
open Go.Rd
set_option linter.unusedVariables false
set_option linter.unusedSimpArgs false
namespace TR10
theorem ag128 : AggT Try.prog 128 3 := ⟨_, Try.underlying128, rfl, by kernel_rfl⟩
theorem ag24 : AggT Try.prog 24 7 := ⟨_, Try.underlying24, rfl, by kernel_rfl⟩
theorem ag27 : AggT Try.prog 27 3 := ⟨_, Try.underlying27, rfl, by kernel_rfl⟩
theorem ag45 : AggT Try.prog 45 10 := ⟨_, Try.underlying45, rfl, by kernel_rfl⟩
theorem ag49 : AggT Try.prog 49 3 := ⟨_, Try.underlying49, rfl, by kernel_rfl⟩
theorem ag57 : AggT Try.prog 57 2 := ⟨_, Try.underlying57, rfl, by kernel_rfl⟩
theorem ag59 : AggT Try.prog 59 9 := ⟨_, Try.underlying59, rfl, by kernel_rfl⟩
theorem ag61 : AggT Try.prog 61 4 := ⟨_, Try.underlying61, rfl, by kernel_rfl⟩
theorem ar22 : ArrayT Try.prog 22 3 1 := ⟨_, Try.underlying22, by kernel_rfl⟩
theorem en16 : Go.Rd.Enters Try.prog 16 := ⟨Try.f16, Try.func16, by kernel_rfl, by kernel_rfl⟩
theorem en24 : Go.Rd.Enters Try.prog 24 := ⟨Try.f24, Try.func24, by kernel_rfl, by kernel_rfl⟩
theorem en25 : Go.Rd.Enters Try.prog 25 := ⟨Try.f25, Try.func25, by kernel_rfl, by kernel_rfl⟩
theorem en42 : Go.Rd.Enters Try.prog 42 := ⟨Try.f42, Try.func42, by kernel_rfl, by kernel_rfl⟩
theorem en49 : Go.Rd.Enters Try.prog 49 := ⟨Try.f49, Try.func49, by kernel_rfl, by kernel_rfl⟩
theorem en50 : Go.Rd.Enters Try.prog 50 := ⟨Try.f50, Try.func50, by kernel_rfl, by kernel_rfl⟩
theorem en51 : Go.Rd.Enters Try.prog 51 := ⟨Try.f51, Try.func51, by kernel_rfl, by kernel_rfl⟩
theorem en52 : Go.Rd.Enters Try.prog 52 := ⟨Try.f52, Try.func52, by kernel_rfl, by kernel_rfl⟩
theorem en68 : Go.Rd.Enters Try.prog 68 := ⟨Try.f68, Try.func68, by kernel_rfl, by kernel_rfl⟩
theorem en74 : Go.Rd.Enters Try.prog 74 := ⟨Try.f74, Try.func74, by kernel_rfl, by kernel_rfl⟩
theorem en75 : Go.Rd.Enters Try.prog 75 := ⟨Try.f75, Try.func75, by kernel_rfl, by kernel_rfl⟩
theorem en78 : Go.Rd.Enters Try.prog 78 := ⟨Try.f78, Try.func78, by kernel_rfl, by kernel_rfl⟩
theorem en83 : Go.Rd.Enters Try.prog 83 := ⟨Try.f83, Try.func83, by kernel_rfl, by kernel_rfl⟩
theorem en84 : Go.Rd.Enters Try.prog 84 := ⟨Try.f84, Try.func84, by kernel_rfl, by kernel_rfl⟩
theorem en85 : Go.Rd.Enters Try.prog 85 := ⟨Try.f85, Try.func85, by kernel_rfl, by kernel_rfl⟩
theorem en93 : Go.Rd.Enters Try.prog 93 := ⟨Try.f93, Try.func93, by kernel_rfl, by kernel_rfl⟩
theorem fd128_0 : FieldT Try.prog 128 0 0 := ⟨_, _, 0, Try.underlying128, rfl, rfl, by kernel_rfl⟩
theorem fd128_1 : FieldT Try.prog 128 1 1 := ⟨_, _, 0, Try.underlying128, rfl, rfl, by kernel_rfl⟩
theorem fd128_2 : FieldT Try.prog 128 2 2 := ⟨_, _, 0, Try.underlying128, rfl, rfl, by kernel_rfl⟩
theorem fd24_0 : FieldT Try.prog 24 0 0 := ⟨_, _, 2, Try.underlying24, rfl, rfl, by kernel_rfl⟩
theorem fd24_2 : FieldT Try.prog 24 2 6 := ⟨_, _, 0, Try.underlying24, rfl, rfl, by kernel_rfl⟩
theorem fd27_0 : FieldT Try.prog 27 0 0 := ⟨_, _, 0, Try.underlying27, rfl, rfl, by kernel_rfl⟩
theorem fd27_1 : FieldT Try.prog 27 1 1 := ⟨_, _, 0, Try.underlying27, rfl, rfl, by kernel_rfl⟩
theorem fd27_2 : FieldT Try.prog 27 2 2 := ⟨_, _, 0, Try.underlying27, rfl, rfl, by kernel_rfl⟩
theorem fd45_0 : FieldT Try.prog 45 0 0 := ⟨_, _, 0, Try.underlying45, rfl, rfl, by kernel_rfl⟩
theorem fd45_1 : FieldT Try.prog 45 1 1 := ⟨_, _, 0, Try.underlying45, rfl, rfl, by kernel_rfl⟩
theorem fd45_2 : FieldT Try.prog 45 2 2 := ⟨_, _, 0, Try.underlying45, rfl, rfl, by kernel_rfl⟩
theorem fd45_3 : FieldT Try.prog 45 3 3 := ⟨_, _, 0, Try.underlying45, rfl, rfl, by kernel_rfl⟩
theorem fd45_4 : FieldT Try.prog 45 4 4 := ⟨_, _, 0, Try.underlying45, rfl, rfl, by kernel_rfl⟩
theorem fd45_5 : FieldT Try.prog 45 5 5 := ⟨_, _, 0, Try.underlying45, rfl, rfl, by kernel_rfl⟩
theorem fd45_6 : FieldT Try.prog 45 6 6 := ⟨_, _, 0, Try.underlying45, rfl, rfl, by kernel_rfl⟩
theorem fd45_7 : FieldT Try.prog 45 7 7 := ⟨_, _, 0, Try.underlying45, rfl, rfl, by kernel_rfl⟩
theorem fd45_8 : FieldT Try.prog 45 8 8 := ⟨_, _, 0, Try.underlying45, rfl, rfl, by kernel_rfl⟩
theorem fd45_9 : FieldT Try.prog 45 9 9 := ⟨_, _, 0, Try.underlying45, rfl, rfl, by kernel_rfl⟩
theorem fd49_0 : FieldT Try.prog 49 0 0 := ⟨_, _, 0, Try.underlying49, rfl, rfl, by kernel_rfl⟩
theorem fd49_1 : FieldT Try.prog 49 1 1 := ⟨_, _, 0, Try.underlying49, rfl, rfl, by kernel_rfl⟩
theorem fd49_2 : FieldT Try.prog 49 2 2 := ⟨_, _, 0, Try.underlying49, rfl, rfl, by kernel_rfl⟩
theorem fd57_0 : FieldT Try.prog 57 0 0 := ⟨_, _, 0, Try.underlying57, rfl, rfl, by kernel_rfl⟩
theorem fd57_1 : FieldT Try.prog 57 1 1 := ⟨_, _, 0, Try.underlying57, rfl, rfl, by kernel_rfl⟩
theorem fd59_0 : FieldT Try.prog 59 0 0 := ⟨_, _, 0, Try.underlying59, rfl, rfl, by kernel_rfl⟩
theorem fd59_3 : FieldT Try.prog 59 3 5 := ⟨_, _, 0, Try.underlying59, rfl, rfl, by kernel_rfl⟩
theorem fd59_4 : FieldT Try.prog 59 4 6 := ⟨_, _, 0, Try.underlying59, rfl, rfl, by kernel_rfl⟩
theorem fd59_5 : FieldT Try.prog 59 5 7 := ⟨_, _, 0, Try.underlying59, rfl, rfl, by kernel_rfl⟩
theorem fd59_6 : FieldT Try.prog 59 6 8 := ⟨_, _, 0, Try.underlying59, rfl, rfl, by kernel_rfl⟩
theorem fd61_0 : FieldT Try.prog 61 0 0 := ⟨_, _, 0, Try.underlying61, rfl, rfl, by kernel_rfl⟩
theorem fd61_1 : FieldT Try.prog 61 1 1 := ⟨_, _, 0, Try.underlying61, rfl, rfl, by kernel_rfl⟩
theorem fd61_2 : FieldT Try.prog 61 2 2 := ⟨_, _, 0, Try.underlying61, rfl, rfl, by kernel_rfl⟩
theorem fd61_3 : FieldT Try.prog 61 3 3 := ⟨_, _, 0, Try.underlying61, rfl, rfl, by kernel_rfl⟩
theorem pl2 : Plain Try.prog 2 := ⟨_, Try.underlying2, rfl⟩
theorem pl25 : Plain Try.prog 25 := ⟨_, Try.underlying25, rfl⟩
theorem pl3 : Plain Try.prog 3 := ⟨_, Try.underlying3, rfl⟩
theorem pl30 : Plain Try.prog 30 := ⟨_, Try.underlying30, rfl⟩
theorem pl47 : Plain Try.prog 47 := ⟨_, Try.underlying47, rfl⟩
theorem sl106 : SliceT Try.prog 106 57 2 := ⟨Try.underlying106, by kernel_rfl⟩
theorem sl25 : SliceT Try.prog 25 45 10 := ⟨Try.underlying25, by kernel_rfl⟩
theorem sl30 : SliceT Try.prog 30 3 1 := ⟨Try.underlying30, by kernel_rfl⟩
theorem sl47 : SliceT Try.prog 47 59 9 := ⟨Try.underlying47, by kernel_rfl⟩
theorem sl50 : SliceT Try.prog 50 61 4 := ⟨Try.underlying50, by kernel_rfl⟩
theorem sl81 : SliceT Try.prog 81 128 3 := ⟨Try.underlying81, by kernel_rfl⟩
theorem sz128 : SizeT Try.prog 128 3 := by unfold SizeT; kernel_rfl
theorem sz45 : SizeT Try.prog 45 10 := by unfold SizeT; kernel_rfl
theorem sz59 : SizeT Try.prog 59 9 := by unfold SizeT; kernel_rfl
theorem sz61 : SizeT Try.prog 61 4 := by unfold SizeT; kernel_rfl
theorem sz_30 : SliceZ Try.prog 30 3 1 [.int .i64 0] := ⟨Try.underlying30, by kernel_rfl⟩
theorem sz_47 : SliceZ Try.prog 47 59 9 [.int .i64 0, .int .i64 0, .int .i64 0, .int .i64 0, .int .i64 0, .int .i64 0, .int .i64 0, .int .i64 0, .int .i64 0] := ⟨Try.underlying47, by kernel_rfl⟩
theorem sz_81 : SliceZ Try.prog 81 128 3 [.int .i64 0, .int .i64 0, .int .i64 0] := ⟨Try.underlying81, by kernel_rfl⟩
theorem ve30 : VecT Try.prog 30 3 1 8 := ⟨Try.underlying30, by kernel_rfl, by decide⟩
theorem ve81 : VecT Try.prog 81 128 3 24 := ⟨Try.underlying81, by kernel_rfl, by decide⟩
theorem ze128 : ZeroT Try.prog 128 [.int .i64 0, .int .i64 0, .int .i64 0] := by unfold ZeroT; kernel_rfl
theorem ze45 : ZeroT Try.prog 45 [.int .i64 0, .int .i64 0, .int .i64 0, .int .i64 0, .int .i64 0, .int .i64 0, .int .i64 0, .int .i64 0, .int .i64 0, .int .i64 0] := by unfold ZeroT; kernel_rfl
theorem ze59 : ZeroT Try.prog 59 [.int .i64 0, .int .i64 0, .int .i64 0, .int .i64 0, .int .i64 0, .int .i64 0, .int .i64 0, .int .i64 0, .int .i64 0] := by unfold ZeroT; kernel_rfl
theorem ze61 : ZeroT Try.prog 61 [.int .i64 0, .int .i64 0, .int .i64 0, .int .i64 0] := by unfold ZeroT; kernel_rfl
end TR10
open TR10
set_option maxRecDepth 8000 in
theorem roundelayref5_Uses_w {op : Int} {r : Int} (w : World) (hm : roundelayref5_Uses_m op = some r)  : Calls Try.prog 93 #[.int .i64 op] w (fun e w' => e = .returned (.int .i64 r) ∧ Grow w w') := by
  unfold roundelayref5_Uses_m at hm
  have hk := Base.rfl (w := w)
  refine calls_of_WC (n := 7) (args := [.int .i64 op]) Try.func93 rfl rfl (Nat.le_of_ble_eq_true rfl) ?_ (Own.startK hk (Own.start w))
  refine WC.seq ?_
  refine WC.region ?_
  refine WL.q rfl rfl rfl (QV.assign rfl rfl) ?_
  refine WL.nil ?_
  refine WQ.then ?_
  refine WC.seq ?_
  refine WC.seq ?_
  refine WC.region ?_
  refine WL.q rfl rfl rfl (QV.move rfl rfl) ?_
  refine WL.q rfl rfl rfl (QV.eql rfl rfl rfl rfl) ?_
  refine WL.nil ?_
  refine WQ.then ?_
  refine WC.cond rfl (fun h1 => ?_) (fun h1 => ?_)
  · skip
    have hm2 := br_t h1 hm; clear hm
    refine WC.seq ?_
    refine WC.region ?_
    refine WL.q rfl rfl rfl (QV.assign rfl rfl) ?_
    refine WL.nil ?_
    refine WQ.then ?_
    refine WC.ret ?_
    refine WQ.then_ret ?_
    obtain rfl := (eq_of_some hm2).symm
    refine WQ.ret1 rfl rfl (fun w hw => ?_)
    exact ⟨rfl, Own.kgrow (fun _ x => x) hw⟩
  · skip
    have hm3 := br_f h1 hm; clear hm
    refine WC.skip ?_
    refine WQ.then ?_
    refine WC.seq ?_
    refine WC.seq ?_
    refine WC.region ?_
    refine WL.q rfl rfl rfl (QV.move rfl rfl) ?_
    refine WL.q rfl rfl rfl (QV.gtr rfl rfl rfl rfl) ?_
    refine WL.nil ?_
    refine WQ.then ?_
    refine WC.cond rfl (fun h4 => ?_) (fun h4 => ?_)
    · skip
      have hm5 := br_t h4 hm3; clear hm3
      refine WC.seq ?_
      refine WC.region ?_
      refine WL.q rfl rfl rfl (QV.assign rfl rfl) ?_
      refine WL.nil ?_
      refine WQ.then ?_
      refine WC.ret ?_
      refine WQ.then_ret ?_
      obtain rfl := (eq_of_some hm5).symm
      refine WQ.ret1 rfl rfl (fun w hw => ?_)
      exact ⟨rfl, Own.kgrow (fun _ x => x) hw⟩
    · skip
      have hm6 := br_f h4 hm3; clear hm3
      refine WC.skip ?_
      refine WQ.then ?_
      refine WC.seq ?_
      refine WC.region ?_
      refine WL.q rfl rfl rfl (QV.assign rfl rfl) ?_
      refine WL.nil ?_
      refine WQ.then ?_
      refine WC.ret ?_
      obtain rfl := (eq_of_some hm6).symm
      refine WQ.ret1 rfl rfl (fun w hw => ?_)
      exact ⟨rfl, Own.kgrow (fun _ x => x) hw⟩

set_option maxRecDepth 8000 in
theorem roundelayref5_one_w {v_k__ops : Value} {v_logs : Value} {t : Tgt} {k_ : Krn} {o : Opr} {logs : List Int} {r : Bool} (w : World) (hm : roundelayref5_one_m t k_ o logs = some r) (h_k__ops : Arr w v_k__ops 10 (k_.ops.map Opr.cells)) (h_logs : Arr w v_logs 1 (logs.map icell)) : Calls Try.prog 51 #[.agg #[.int .i64 t.u0, .int .i64 t.u1, .int .i64 t.u2, .int .i64 t.w0, .int .i64 t.w1, .int .i64 t.w2, .int .i64 t.regs], .agg #[.int .i64 k_.pace, .int .i64 k_.stages, v_k__ops], .agg #[.int .i64 o.slot, .int .i64 o.stage, .int .i64 o.op, .int .i64 o.dest, .int .i64 o.a, .int .i64 o.b, .int .i64 o.ar, .int .i64 o.sp, .int .i64 o.pl, .int .i64 o.n], v_logs] w (fun e w' => e = .returned (.bool r) ∧ Grow w w') := by
  unfold roundelayref5_one_m at hm
  have hk := Base.rfl (w := w)
  refine calls_of_WC (n := 116) (args := [.agg #[.int .i64 t.u0, .int .i64 t.u1, .int .i64 t.u2, .int .i64 t.w0, .int .i64 t.w1, .int .i64 t.w2, .int .i64 t.regs], .agg #[.int .i64 k_.pace, .int .i64 k_.stages, v_k__ops], .agg #[.int .i64 o.slot, .int .i64 o.stage, .int .i64 o.op, .int .i64 o.dest, .int .i64 o.a, .int .i64 o.b, .int .i64 o.ar, .int .i64 o.sp, .int .i64 o.pl, .int .i64 o.n], v_logs]) Try.func51 rfl rfl (Nat.le_of_ble_eq_true rfl) ?_ (Own.startK hk (Own.start w))
  refine WC.seq ?_
  refine WC.region ?_
  refine WL.effect rfl ?_
  refine (EV.boxAgg (by decide) rfl rfl (fun b1 => ?_))
  refine WL.effect rfl ?_
  refine (EV.boxAgg (by decide) rfl rfl (fun b2 => ?_))
  refine WL.effect rfl ?_
  refine (EV.boxAgg (by decide) rfl rfl (fun b3 => ?_))
  refine WL.q rfl rfl rfl (QV.assign rfl rfl) ?_
  refine WL.nil ?_
  refine WQ.then ?_
  refine WC.seq ?_
  refine WC.seq ?_
  refine WC.region ?_
  refine WL.q rfl rfl rfl (QV.fieldAddr fd45_0 rfl rfl) ?_
  refine WL.q rfl rfl rfl (QV.load pl3 rfl rfl (Own.cell 0 rfl rfl)) ?_
  refine WL.q rfl rfl rfl (QV.lss rfl rfl rfl rfl) ?_
  refine WL.q rfl rfl rfl (QV.move rfl rfl) ?_
  refine WL.g rfl rfl (GuardIs.neg rfl rfl) (fun hG => QV.fieldAddr fd45_0 rfl rfl) ?_
  refine WL.g rfl rfl (GuardIs.neg rfl rfl) (fun hG => QV.load pl3 rfl hG (Own.cell 0 rfl rfl)) ?_
  refine WL.g rfl rfl (GuardIs.neg rfl rfl) (fun hG => QV.fieldAddr fd27_0 rfl rfl) ?_
  refine WL.g rfl rfl (GuardIs.neg rfl rfl) (fun hG => QV.load pl3 rfl hG (Own.cell 1 rfl rfl)) ?_
  refine WL.g rfl rfl (GuardIs.neg rfl rfl) (fun hG => QV.geq rfl hG rfl hG) ?_
  refine WL.q rfl rfl rfl (QV.pickOr rfl rfl rfl (fun h => notF h)) ?_
  refine WL.q rfl rfl rfl (QV.move rfl rfl) ?_
  refine WL.g rfl rfl (GuardIs.neg rfl rfl) (fun hG => QV.fieldAddr fd45_1 rfl rfl) ?_
  refine WL.g rfl rfl (GuardIs.neg rfl rfl) (fun hG => QV.load pl3 rfl hG (Own.cell 0 rfl rfl)) ?_
  refine WL.g rfl rfl (GuardIs.neg rfl rfl) (fun hG => QV.lss rfl hG rfl rfl) ?_
  refine WL.q rfl rfl rfl (QV.pickOr rfl rfl rfl (fun h => notF h)) ?_
  refine WL.q rfl rfl rfl (QV.move rfl rfl) ?_
  refine WL.g rfl rfl (GuardIs.neg rfl rfl) (fun hG => QV.fieldAddr fd45_1 rfl rfl) ?_
  refine WL.g rfl rfl (GuardIs.neg rfl rfl) (fun hG => QV.load pl3 rfl hG (Own.cell 0 rfl rfl)) ?_
  refine WL.g rfl rfl (GuardIs.neg rfl rfl) (fun hG => QV.fieldAddr fd27_1 rfl rfl) ?_
  refine WL.g rfl rfl (GuardIs.neg rfl rfl) (fun hG => QV.load pl3 rfl hG (Own.cell 1 rfl rfl)) ?_
  refine WL.g rfl rfl (GuardIs.neg rfl rfl) (fun hG => QV.geq rfl hG rfl hG) ?_
  refine WL.q rfl rfl rfl (QV.pickOr rfl rfl rfl (fun h => notF h)) ?_
  refine WL.q rfl rfl rfl (QV.move rfl rfl) ?_
  refine WL.g rfl rfl (GuardIs.neg rfl rfl) (fun hG => QV.fieldAddr fd45_1 rfl rfl) ?_
  refine WL.g rfl rfl (GuardIs.neg rfl rfl) (fun hG => QV.load pl3 rfl hG (Own.cell 0 rfl rfl)) ?_
  refine WL.g rfl rfl (GuardIs.neg rfl rfl) (fun hG => QV.fieldAddr fd27_0 rfl rfl) ?_
  refine WL.g rfl rfl (GuardIs.neg rfl rfl) (fun hG => QV.load pl3 rfl hG (Own.cell 1 rfl rfl)) ?_
  obtain ⟨c4, hm5⟩ := ck_some hm; clear hm
  refine WL.g rfl rfl (GuardIs.neg rfl rfl) (fun hG => QV.mul rfl hG rfl hG (c4 hG)) ?_
  refine WL.g rfl rfl (GuardIs.neg rfl rfl) (fun hG => QV.fieldAddr fd45_0 rfl rfl) ?_
  refine WL.g rfl rfl (GuardIs.neg rfl rfl) (fun hG => QV.load pl3 rfl hG (Own.cell 0 rfl rfl)) ?_
  obtain ⟨c6, hm7⟩ := ck_some hm5; clear hm5
  refine WL.g rfl rfl (GuardIs.neg rfl rfl) (fun hG => QV.add rfl hG rfl hG (c6 hG)) ?_
  refine WL.g rfl rfl (GuardIs.neg rfl rfl) (fun hG => QV.gtr rfl hG rfl rfl) ?_
  refine WL.q rfl rfl rfl (QV.pickOr rfl rfl rfl (fun h => notF h)) ?_
  refine WL.nil ?_
  refine WQ.then ?_
  refine WC.cond rfl (fun h8 => ?_) (fun h8 => ?_)
  · skip
    have hm9 := br_t h8 hm7; clear hm7
    refine WC.seq ?_
    refine WC.region ?_
    refine WL.q rfl rfl rfl (QV.assign rfl rfl) ?_
    refine WL.nil ?_
    refine WQ.then ?_
    refine WC.ret ?_
    refine WQ.then_ret ?_
    obtain rfl := (eq_of_some hm9).symm
    refine WQ.ret1 rfl rfl (fun w hw => ?_)
    exact ⟨rfl, Own.kgrow (fun _ x => x) hw⟩
  · skip
    have hm10 := br_f h8 hm7; clear hm7
    refine WC.skip ?_
    refine WQ.then ?_
    refine WC.seq ?_
    refine WC.region ?_
    refine WL.q rfl rfl rfl (QV.fieldAddr fd45_2 rfl rfl) ?_
    refine WL.q rfl rfl rfl (QV.load pl3 rfl rfl (Own.cell 0 rfl rfl)) ?_
    obtain ⟨x11, hx12, hm13⟩ := bd_some hm10; clear hm10
    refine WL.q rfl rfl rfl (QV.call en93 (EvAll.cons rfl rfl EvAll.nil) (fun w hw => have h := roundelayref5_Uses_w w hx12 ; h)) ?_
    refine WL.q rfl rfl rfl (QV.assign rfl rfl) ?_
    refine WL.nil ?_
    refine WQ.then ?_
    refine WC.seq ?_
    refine WC.seq ?_
    refine WC.region ?_
    refine WL.q rfl rfl rfl (QV.fieldAddr fd45_3 rfl rfl) ?_
    refine WL.q rfl rfl rfl (QV.load pl3 rfl rfl (Own.cell 0 rfl rfl)) ?_
    refine WL.q rfl rfl rfl (QV.lss rfl rfl rfl rfl) ?_
    refine WL.q rfl rfl rfl (QV.move rfl rfl) ?_
    refine WL.g rfl rfl (GuardIs.neg rfl rfl) (fun hG => QV.fieldAddr fd45_3 rfl rfl) ?_
    refine WL.g rfl rfl (GuardIs.neg rfl rfl) (fun hG => QV.load pl3 rfl hG (Own.cell 0 rfl rfl)) ?_
    refine WL.g rfl rfl (GuardIs.neg rfl rfl) (fun hG => QV.fieldAddr fd24_2 rfl rfl) ?_
    refine WL.g rfl rfl (GuardIs.neg rfl rfl) (fun hG => QV.load pl3 rfl hG (Own.cell 2 rfl rfl)) ?_
    refine WL.g rfl rfl (GuardIs.neg rfl rfl) (fun hG => QV.geq rfl hG rfl hG) ?_
    refine WL.q rfl rfl rfl (QV.pickOr rfl rfl rfl (fun h => notF h)) ?_
    refine WL.q rfl rfl rfl (QV.move rfl rfl) ?_
    refine WL.g rfl rfl (GuardIs.neg rfl rfl) (fun hG => QV.fieldAddr fd45_4 rfl rfl) ?_
    refine WL.g rfl rfl (GuardIs.neg rfl rfl) (fun hG => QV.load pl3 rfl hG (Own.cell 0 rfl rfl)) ?_
    refine WL.g rfl rfl (GuardIs.neg rfl rfl) (fun hG => QV.lss rfl hG rfl rfl) ?_
    refine WL.q rfl rfl rfl (QV.pickOr rfl rfl rfl (fun h => notF h)) ?_
    refine WL.q rfl rfl rfl (QV.move rfl rfl) ?_
    refine WL.g rfl rfl (GuardIs.neg rfl rfl) (fun hG => QV.fieldAddr fd45_5 rfl rfl) ?_
    refine WL.g rfl rfl (GuardIs.neg rfl rfl) (fun hG => QV.load pl3 rfl hG (Own.cell 0 rfl rfl)) ?_
    refine WL.g rfl rfl (GuardIs.neg rfl rfl) (fun hG => QV.lss rfl hG rfl rfl) ?_
    refine WL.q rfl rfl rfl (QV.pickOr rfl rfl rfl (fun h => notF h)) ?_
    refine WL.q rfl rfl rfl (QV.move rfl rfl) ?_
    refine WL.g rfl rfl (GuardIs.neg rfl rfl) (fun hG => QV.fieldAddr fd45_4 rfl rfl) ?_
    refine WL.g rfl rfl (GuardIs.neg rfl rfl) (fun hG => QV.load pl3 rfl hG (Own.cell 0 rfl rfl)) ?_
    refine WL.g rfl rfl (GuardIs.neg rfl rfl) (fun hG => QV.fieldAddr fd24_2 rfl rfl) ?_
    refine WL.g rfl rfl (GuardIs.neg rfl rfl) (fun hG => QV.load pl3 rfl hG (Own.cell 2 rfl rfl)) ?_
    refine WL.g rfl rfl (GuardIs.neg rfl rfl) (fun hG => QV.geq rfl hG rfl hG) ?_
    refine WL.q rfl rfl rfl (QV.pickOr rfl rfl rfl (fun h => notF h)) ?_
    refine WL.q rfl rfl rfl (QV.move rfl rfl) ?_
    refine WL.g rfl rfl (GuardIs.neg rfl rfl) (fun hG => QV.fieldAddr fd45_5 rfl rfl) ?_
    refine WL.g rfl rfl (GuardIs.neg rfl rfl) (fun hG => QV.load pl3 rfl hG (Own.cell 0 rfl rfl)) ?_
    refine WL.g rfl rfl (GuardIs.neg rfl rfl) (fun hG => QV.fieldAddr fd24_2 rfl rfl) ?_
    refine WL.g rfl rfl (GuardIs.neg rfl rfl) (fun hG => QV.load pl3 rfl hG (Own.cell 2 rfl rfl)) ?_
    refine WL.g rfl rfl (GuardIs.neg rfl rfl) (fun hG => QV.geq rfl hG rfl hG) ?_
    refine WL.q rfl rfl rfl (QV.pickOr rfl rfl rfl (fun h => notF h)) ?_
    refine WL.q rfl rfl rfl (QV.move rfl rfl) ?_
    refine WL.g rfl rfl (GuardIs.neg rfl rfl) (fun hG => QV.move rfl rfl) ?_
    refine WL.g rfl rfl (GuardIs.neg rfl rfl) (fun hG => QV.lss rfl hG rfl rfl) ?_
    refine WL.g rfl rfl (GuardIs.neg rfl rfl) (fun hG => QV.move rfl hG) ?_
    refine WL.g rfl rfl (GuardIs.posC rfl rfl) (fun hG => QV.fieldAddr fd45_4 rfl rfl) ?_
    refine WL.g rfl rfl (GuardIs.posC rfl rfl) (fun hG => QV.load pl3 rfl hG (Own.cell 0 rfl rfl)) ?_
    refine WL.g rfl rfl (GuardIs.posC rfl rfl) (fun hG => QV.neq rfl hG rfl rfl) ?_
    refine WL.g rfl rfl (GuardIs.neg rfl rfl) (fun hG => QV.pickAnd rfl hG rfl (fun h => andT hG h)) ?_
    refine WL.q rfl rfl rfl (QV.pickOr rfl rfl rfl (fun h => notF h)) ?_
    refine WL.q rfl rfl rfl (QV.move rfl rfl) ?_
    refine WL.g rfl rfl (GuardIs.neg rfl rfl) (fun hG => QV.move rfl rfl) ?_
    refine WL.g rfl rfl (GuardIs.neg rfl rfl) (fun hG => QV.lss rfl hG rfl rfl) ?_
    refine WL.g rfl rfl (GuardIs.neg rfl rfl) (fun hG => QV.move rfl hG) ?_
    refine WL.g rfl rfl (GuardIs.posC rfl rfl) (fun hG => QV.fieldAddr fd45_5 rfl rfl) ?_
    refine WL.g rfl rfl (GuardIs.posC rfl rfl) (fun hG => QV.load pl3 rfl hG (Own.cell 0 rfl rfl)) ?_
    refine WL.g rfl rfl (GuardIs.posC rfl rfl) (fun hG => QV.neq rfl hG rfl rfl) ?_
    refine WL.g rfl rfl (GuardIs.neg rfl rfl) (fun hG => QV.pickAnd rfl hG rfl (fun h => andT hG h)) ?_
    refine WL.q rfl rfl rfl (QV.pickOr rfl rfl rfl (fun h => notF h)) ?_
    refine WL.nil ?_
    refine WQ.then ?_
    refine WC.cond rfl (fun h14 => ?_) (fun h14 => ?_)
    · skip
      have hm15 := br_t h14 hm13; clear hm13
      refine WC.seq ?_
      refine WC.region ?_
      refine WL.q rfl rfl rfl (QV.assign rfl rfl) ?_
      refine WL.nil ?_
      refine WQ.then ?_
      refine WC.ret ?_
      refine WQ.then_ret ?_
      obtain rfl := (eq_of_some hm15).symm
      refine WQ.ret1 rfl rfl (fun w hw => ?_)
      exact ⟨rfl, Own.kgrow (fun _ x => x) hw⟩
    · skip
      have hm16 := br_f h14 hm13; clear hm13
      refine WC.skip ?_
      refine WQ.then ?_
      refine WC.seq ?_
      refine WC.region ?_
      refine WL.q rfl rfl rfl (QV.fieldAddr fd45_2 rfl rfl) ?_
      refine WL.q rfl rfl rfl (QV.load pl3 rfl rfl (Own.cell 0 rfl rfl)) ?_
      refine WL.q rfl rfl rfl (QV.fieldAddr fd45_6 rfl rfl) ?_
      refine WL.q rfl rfl rfl (QV.load pl3 rfl rfl (Own.cell 0 rfl rfl)) ?_
      refine WL.q rfl rfl rfl (QV.fieldAddr fd45_7 rfl rfl) ?_
      refine WL.q rfl rfl rfl (QV.load pl3 rfl rfl (Own.cell 0 rfl rfl)) ?_
      refine WL.q rfl rfl rfl (QV.fieldAddr fd45_8 rfl rfl) ?_
      refine WL.q rfl rfl rfl (QV.load pl3 rfl rfl (Own.cell 0 rfl rfl)) ?_
      refine WL.q rfl rfl rfl (QV.fieldAddr fd45_9 rfl rfl) ?_
      refine WL.q rfl rfl rfl (QV.load pl2 rfl rfl (Own.cell 0 rfl rfl)) ?_
      refine WL.q rfl rfl rfl (QV.build (ps := [(0, .tmp 100), (3, .tmp 102), (4, .tmp 104), (5, .tmp 106), (6, .tmp 108)]) (cells := [.int .i64 o.op, .int .i64 0, .int .i64 0, .int .i64 0, .int .i64 0, .int .i64 o.ar, .int .i64 o.sp, .int .i64 o.pl, .int .i64 o.n]) (EvAll.cons rfl rfl (EvAll.cons rfl rfl (EvAll.cons rfl rfl (EvAll.cons rfl rfl (EvAll.cons rfl rfl EvAll.nil))))) (by kernel_rfl)) ?_
      refine WL.effect rfl ?_
      refine (EV.alloc (by decide) ze59 (fun b17 => ?_))
      refine WL.effect rfl ?_
      refine (EV.store 0 rfl rfl rfl rfl rfl rfl (vs := [.int .i64 o.op, .int .i64 0, .int .i64 0, .int .i64 0, .int .i64 0, .int .i64 o.ar, .int .i64 o.sp, .int .i64 o.pl, .int .i64 o.n]) (show Value.cells _ = List.toArray _ from rfl) sz59 (Nat.le_of_ble_eq_true rfl) (one_cons rfl (one_cons rfl (one_cons rfl (one_cons rfl (one_cons rfl (one_cons rfl (one_cons rfl (one_cons rfl (one_cons rfl one_nil))))))))) ?_)
      refine WL.nil ?_
      refine WQ.then ?_
      refine WC.seq ?_
      refine WC.region ?_
      refine WL.q rfl rfl rfl (QV.move rfl rfl) ?_
      refine WL.q rfl rfl rfl (QV.build (ps := [(0, .const (.int .i64 2))]) (cells := [.int .i64 2, .int .i64 0, .int .i64 0, .int .i64 0, .int .i64 0, .int .i64 0, .int .i64 0, .int .i64 0, .int .i64 0]) (EvAll.cons rfl rfl EvAll.nil) (by kernel_rfl)) ?_
      refine WL.q rfl rfl rfl (QV.loadAgg ag59 rfl rfl rfl (Own.cellsBlk 0 rfl)) ?_
      refine WL.effect rfl ?_
      refine (EV.buildSlice (by decide) sz_47 (by decide) (by decide) (ps := [(0, .tmp 111), (1, .tmp 112)]) (cells := [.int .i64 2, .int .i64 0, .int .i64 0, .int .i64 0, .int .i64 0, .int .i64 0, .int .i64 0, .int .i64 0, .int .i64 0, .int .i64 o.op, .int .i64 0, .int .i64 0, .int .i64 0, .int .i64 0, .int .i64 o.ar, .int .i64 o.sp, .int .i64 o.pl, .int .i64 o.n]) (EvAll.cons rfl rfl (EvAll.cons rfl rfl EvAll.nil)) (by kernel_rfl) (fun b18 => ?_))
      refine WL.q rfl rfl rfl (QV.buildS (ps := [(0, .tmp 110), (1, .tmp 113)]) (cells := [v_logs, (blkSlice b18 2 2), .slice none 0 0]) (css := [[v_logs], [(blkSlice b18 2 2)]]) (EvAll.cons rfl rfl (EvAll.cons rfl rfl EvAll.nil)) (CellsAll.cons (SliceLen.cells h_logs.lenMap) (CellsAll.cons (SliceLen.cells SliceLen.blk) CellsAll.nil)) (by kernel_rfl)) ?_
      obtain ⟨x19, hx20, hm21⟩ := bd_some hm16; clear hm16
      refine WL.q rfl rfl rfl (QV.call en68 (EvAll.cons rfl rfl EvAll.nil) (fun w hw => have h := roundelayref2_May_w w hx20 ((Own.karr 5 rfl hk h_logs) w hw) ((Own.blkArr 0 (rows := [(Stm.mk 2 (Rf.mk 0 0) (Rf.mk 0 0) 0 0 0 0), (Stm.mk o.op (Rf.mk 0 0) (Rf.mk 0 0) o.ar o.sp o.pl o.n)].map Stm.cells) rfl rfl (rows_len Stm.cells_len)) w hw) Arr.nil; h)) ?_
      refine WL.q rfl rfl rfl (QV.assign rfl rfl) ?_
      refine WL.nil ?_
      refine WQ.then ?_
      refine WC.ret ?_
      obtain rfl := (eq_of_some hm21).symm
      refine WQ.ret1 rfl rfl (fun w hw => ?_)
      exact ⟨rfl, Own.kgrow (fun _ x => x) hw⟩

set_option maxRecDepth 8000 in
theorem roundelayref5_May_w {v_k__ops : Value} {v_logs : Value} {t : Tgt} {k_ : Krn} {logs : List Int} {r : Bool} (w : World) (hm : roundelayref5_May_m t k_ logs = some r) (h_k__ops : Arr w v_k__ops 10 (k_.ops.map Opr.cells)) (h_logs : Arr w v_logs 1 (logs.map icell)) : Calls Try.prog 16 #[.agg #[.int .i64 t.u0, .int .i64 t.u1, .int .i64 t.u2, .int .i64 t.w0, .int .i64 t.w1, .int .i64 t.w2, .int .i64 t.regs], .agg #[.int .i64 k_.pace, .int .i64 k_.stages, v_k__ops], v_logs] w (fun e w' => e = .returned (.bool r) ∧ Grow w w') := by
  unfold roundelayref5_May_m at hm
  have hk := Base.rfl (w := w)
  refine calls_of_WC (n := 96) (args := [.agg #[.int .i64 t.u0, .int .i64 t.u1, .int .i64 t.u2, .int .i64 t.w0, .int .i64 t.w1, .int .i64 t.w2, .int .i64 t.regs], .agg #[.int .i64 k_.pace, .int .i64 k_.stages, v_k__ops], v_logs]) Try.func16 rfl rfl (Nat.le_of_ble_eq_true rfl) ?_ (Own.startK hk (Own.start w))
  refine WC.seq ?_
  refine WC.region ?_
  refine WL.effect rfl ?_
  refine (EV.boxAgg (by decide) rfl rfl (fun b1 => ?_))
  refine WL.effect rfl ?_
  refine (EV.boxAgg (by decide) rfl rfl (fun b2 => ?_))
  refine WL.q rfl rfl rfl (QV.assign rfl rfl) ?_
  refine WL.nil ?_
  refine WQ.then ?_
  refine WC.seq ?_
  refine WC.seq ?_
  refine WC.region ?_
  refine WL.q rfl rfl rfl (QV.loadAgg ag24 rfl rfl rfl (Own.cellsBlk 1 rfl)) ?_
  obtain ⟨x3, hx4, hm5⟩ := bd_some hm; clear hm
  refine WL.q rfl rfl rfl (QV.call en49 (EvAll.cons rfl rfl EvAll.nil) (fun w hw => have h := roundelayref4_May_w w hx4 ; h)) ?_
  refine WL.q rfl rfl rfl (QV.not rfl rfl) ?_
  refine WL.q rfl rfl rfl (QV.move rfl rfl) ?_
  refine WL.g rfl rfl (GuardIs.neg rfl rfl) (fun hG => QV.fieldAddr fd27_0 rfl rfl) ?_
  refine WL.g rfl rfl (GuardIs.neg rfl rfl) (fun hG => QV.load pl3 rfl hG (Own.cell 0 rfl rfl)) ?_
  obtain ⟨x6, hx7, hm8⟩ := bdG_some hm5; clear hm5
  refine WL.g rfl rfl (GuardIs.neg rfl rfl) (fun hG => QV.call en50 (EvAll.cons rfl hG (EvAll.cons rfl rfl (EvAll.cons rfl rfl EvAll.nil))) (fun w hw => have h := roundelayref2_Within_w w (hx7 hG) ; h)) ?_
  refine WL.g rfl rfl (GuardIs.neg rfl rfl) (fun hG => QV.not rfl hG) ?_
  refine WL.q rfl rfl rfl (QV.pickOr rfl rfl rfl (fun h => notF h)) ?_
  refine WL.q rfl rfl rfl (QV.move rfl rfl) ?_
  refine WL.g rfl rfl (GuardIs.neg rfl rfl) (fun hG => QV.fieldAddr fd27_1 rfl rfl) ?_
  refine WL.g rfl rfl (GuardIs.neg rfl rfl) (fun hG => QV.load pl3 rfl hG (Own.cell 0 rfl rfl)) ?_
  obtain ⟨x9, hx10, hm11⟩ := bdG_some hm8; clear hm8
  refine WL.g rfl rfl (GuardIs.neg rfl rfl) (fun hG => QV.call en50 (EvAll.cons rfl hG (EvAll.cons rfl rfl (EvAll.cons rfl rfl EvAll.nil))) (fun w hw => have h := roundelayref2_Within_w w (hx10 hG) ; h)) ?_
  refine WL.g rfl rfl (GuardIs.neg rfl rfl) (fun hG => QV.not rfl hG) ?_
  refine WL.q rfl rfl rfl (QV.pickOr rfl rfl rfl (fun h => notF h)) ?_
  refine WL.q rfl rfl rfl (QV.move rfl rfl) ?_
  refine WL.g rfl rfl (GuardIs.neg rfl rfl) (fun hG => QV.fieldAddr fd27_2 rfl rfl) ?_
  refine WL.g rfl rfl (GuardIs.neg rfl rfl) (fun hG => QV.load pl25 rfl hG (Own.cell 0 rfl rfl)) ?_
  refine WL.g rfl rfl (GuardIs.neg rfl rfl) (fun hG => QV.lenS Try.underlying25 rfl hG h_k__ops.lenMap) ?_
  obtain ⟨x12, hx13, hm14⟩ := bdG_some hm11; clear hm11
  refine WL.g rfl rfl (GuardIs.neg rfl rfl) (fun hG => QV.call en50 (EvAll.cons rfl hG (EvAll.cons rfl rfl (EvAll.cons rfl rfl EvAll.nil))) (fun w hw => have h := roundelayref2_Within_w w (hx13 hG) ; h)) ?_
  refine WL.g rfl rfl (GuardIs.neg rfl rfl) (fun hG => QV.not rfl hG) ?_
  refine WL.q rfl rfl rfl (QV.pickOr rfl rfl rfl (fun h => notF h)) ?_
  refine WL.nil ?_
  refine WQ.then ?_
  refine WC.cond rfl (fun h15 => ?_) (fun h15 => ?_)
  · skip
    have hm16 := br_t h15 hm14; clear hm14
    refine WC.seq ?_
    refine WC.region ?_
    refine WL.q rfl rfl rfl (QV.assign rfl rfl) ?_
    refine WL.nil ?_
    refine WQ.then ?_
    refine WC.ret ?_
    refine WQ.then_ret ?_
    obtain rfl := (eq_of_some hm16).symm
    refine WQ.ret1 rfl rfl (fun w hw => ?_)
    exact ⟨rfl, Own.kgrow (fun _ x => x) hw⟩
  · skip
    have hm17 := br_f h15 hm14; clear hm14
    refine WC.skip ?_
    refine WQ.then ?_
    refine WC.seq ?_
    refine WC.seq ?_
    refine WC.region ?_
    refine WL.q rfl rfl rfl (QV.assign rfl rfl) ?_
    refine WL.nil ?_
    refine WQ.then ?_
    obtain ⟨o18, ho19, hm20⟩ := bd_some hm17; clear hm17; obtain ⟨n21, ho22⟩ := lp_some ho19
    refine WC.bloop1 (H2 := [blk b2 [.int .i64 k_.pace, .int .i64 k_.stages, v_k__ops] 27, blk b1 [.int .i64 t.u0, .int .i64 t.u1, .int .i64 t.u2, .int .i64 t.w0, .int .i64 t.w1, .int .i64 t.w2, .int .i64 t.regs] 24, kn noM w.heap.size w w]) (τ := [(2, (true, _)), (3, (true, _)), (4, (true, _))]) (fun (i7_2 : Int) => [(7, (true, .int .i64 i7_2))]) (fun (i7_2 : Int) => []) (fun (i7_2 : Int) (m : Nat) => iter (roundelayref5_May_L0 t k_ logs) m i7_2 = some o18) (fun (i7_2 : Int) => o18 = .go i7_2) 0 n21 ho22 ⟨rfl, rfl, rfl, rfl, trivial⟩ (fun w hw => hw.pick [0, 1, 2] (by decide)) ?_ ?_
    · skip
      rintro i7_2 rfl
      refine WQ.then ?_
      refine WC.seq ?_
      refine WC.region ?_
      refine WL.q rfl rfl rfl (QV.assign rfl rfl) ?_
      refine WL.nil ?_
      refine WQ.then ?_
      refine WC.ret ?_
      obtain rfl := (eq_of_some hm20).symm
      refine WQ.ret1 rfl rfl (fun w hw => ?_)
      exact ⟨rfl, Own.kgrow (fun _ x => x) hw⟩
    · skip
      rintro i7_2 m23 hI24
      obtain ⟨m25, s26, rfl, hm27, hn28⟩ := iter_step hI24; clear hI24; unfold roundelayref5_May_L0 at hm27
      refine WC.seq ?_
      refine WC.seq ?_
      refine WC.region ?_
      refine WL.q rfl rfl rfl (QV.move rfl rfl) ?_
      refine WL.q rfl rfl rfl (QV.fieldAddr fd27_2 rfl rfl) ?_
      refine WL.q rfl rfl rfl (QV.load pl25 rfl rfl (Own.cell 0 rfl rfl)) ?_
      refine WL.q rfl rfl rfl (QV.lenS Try.underlying25 rfl rfl h_k__ops.lenMap) ?_
      refine WL.q rfl rfl rfl (QV.lss rfl rfl rfl rfl) ?_
      refine WL.nil ?_
      refine WQ.then ?_
      refine WC.cond rfl (fun h29 => ?_) (fun h29 => ?_)
      · skip
        have hm30 := br_t h29 hm27; clear hm27
        refine WC.skip ?_
        refine WQ.then ?_
        refine WC.seq ?_
        refine WC.block ?_
        refine WC.seq ?_
        refine WC.seq ?_
        refine WC.dr (m := 10) (S := Own noM w [kn noM w.heap.size w w, blk b2 [.int .i64 k_.pace, .int .i64 k_.stages, v_k__ops] 27, blk b1 [.int .i64 t.u0, .int .i64 t.u1, .int .i64 t.u2, .int .i64 t.w0, .int .i64 t.w1, .int .i64 t.w2, .int .i64 t.regs] 24]) (by kernel_rfl) (by kernel_rfl) (fun w hw => hw.pick [2, 0, 1] (by decide)) ?_
        refine WD.q 0 rfl (by kernel_rfl) rfl rfl rfl (QV.loadAgg ag24 rfl rfl rfl (Own.cellsBlk 2 rfl)) ?_
        refine WD.q 1 rfl (by kernel_rfl) rfl rfl rfl (QV.loadAgg ag27 rfl rfl rfl (Own.cellsBlk 1 rfl)) ?_
        refine WD.q 2 rfl (by kernel_rfl) rfl rfl rfl (QV.fieldAddr fd27_2 rfl rfl) ?_
        refine WD.q 3 rfl (by kernel_rfl) rfl rfl rfl (QV.load pl25 rfl rfl (Own.cell 1 rfl rfl)) ?_
        refine WD.q 4 rfl (by kernel_rfl) rfl rfl rfl (QV.move rfl rfl) ?_
        obtain ⟨c31, hm32⟩ := ck_some hm30; clear hm30
        obtain ⟨p33, hp34⟩ := h_k__ops.lenMap.ix (sz := 10) ln_len c31
        refine WD.q 5 rfl (by kernel_rfl) rfl rfl rfl (QV.indexSlice sl25 rfl rfl rfl rfl hp34) ?_
        refine WD.q 6 rfl (by kernel_rfl) rfl rfl rfl (QV.loadAgg ag45 rfl rfl rfl (fun w hw => ((Own.karr 0 rfl hk h_k__ops) w hw).ele hp34 c31)) ?_
        refine WD.q 7 rfl (by kernel_rfl) rfl rfl rfl (QV.move rfl rfl) ?_
        obtain ⟨x35, hx36, hm37⟩ := bd_some hm32; clear hm32
        refine WD.q 8 rfl (by kernel_rfl) rfl rfl rfl (QV.call en51 (EvAll.cons rfl rfl (EvAll.cons rfl rfl (EvAll.cons rfl rfl (EvAll.cons rfl rfl EvAll.nil)))) (fun w hw => have h := roundelayref5_one_w w hx36 ((Own.karr 0 rfl hk h_k__ops) w hw) ((Own.karr 0 rfl hk h_logs) w hw); h)) ?_
        refine WD.q 9 rfl (by kernel_rfl) rfl rfl rfl (QV.not rfl rfl) ?_
        refine WD.e (by kernel_rfl) ?_
        refine WQ.then ?_
        refine WC.cond rfl (fun h38 => ?_) (fun h38 => ?_)
        · skip
          have hm39 := br_t h38 hm37; clear hm37
          refine WC.seq ?_
          refine WC.region ?_
          refine WL.q rfl rfl rfl (QV.assign rfl rfl) ?_
          refine WL.nil ?_
          refine WQ.then ?_
          refine WC.ret ?_
          refine WQ.then_ret ?_
          refine WQ.block_ret ?_
          refine WQ.then_ret ?_
          refine WQ.then_ret ?_
          refine WQ.block_ret ?_
          refine WQ.then_ret ?_
          refine WQ.then_ret ?_
          obtain rfl := up_ret hm39 hn28
          obtain rfl := (eq_of_some hm20).symm
          refine WQ.ret1 rfl rfl (fun w hw => ?_)
          exact ⟨rfl, Own.kgrow (fun _ x => x) hw⟩
        · skip
          have hm40 := br_f h38 hm37; clear hm37
          refine WC.skip ?_
          refine WQ.then ?_
          refine WC.seq ?_
          refine WC.region ?_
          refine WL.q rfl rfl rfl (QV.fieldAddr fd27_2 rfl rfl) ?_
          refine WL.q rfl rfl rfl (QV.load pl25 rfl rfl (Own.cell 0 rfl rfl)) ?_
          refine WL.q rfl rfl rfl (QV.move rfl rfl) ?_
          obtain ⟨c41, hm42⟩ := ck_some hm40; clear hm40
          obtain ⟨p43, hp44⟩ := h_k__ops.lenMap.ix (sz := 10) ln_len c41
          refine WL.q rfl rfl rfl (QV.indexSlice sl25 rfl rfl rfl rfl hp44) ?_
          refine WL.q rfl rfl rfl (QV.fieldAddr fd45_2 rfl rfl) ?_
          refine WL.q rfl rfl rfl (QV.load pl3 rfl rfl (fun w hw => CellsAt.one 2 (((Own.karr 2 rfl hk h_k__ops) w hw).ele hp44 c41) rfl)) ?_
          obtain ⟨x45, hx46, hm47⟩ := bd_some hm42; clear hm42
          refine WL.q rfl rfl rfl (QV.call en52 (EvAll.cons rfl rfl EvAll.nil) (fun w hw => have h := roundelayref1_Class_w w hx46 ; h)) ?_
          refine WL.q rfl rfl rfl (QV.assign rfl rfl) ?_
          refine WL.nil ?_
          refine WQ.then ?_
          refine WC.seq ?_
          refine WC.region ?_
          refine WL.q rfl rfl rfl (QV.assign rfl rfl) ?_
          refine WL.nil ?_
          refine WQ.then ?_
          refine WC.seq ?_
          refine WC.seq ?_
          refine WC.region ?_
          refine WL.q rfl rfl rfl (QV.assign rfl rfl) ?_
          refine WL.nil ?_
          refine WQ.then ?_
          obtain ⟨o48, ho49, hm50⟩ := bd_some hm47; clear hm47; obtain ⟨n51, ho52⟩ := lp_some ho49
          refine WC.bloop2 (H2 := [blk b2 [.int .i64 k_.pace, .int .i64 k_.stages, v_k__ops] 27, blk b1 [.int .i64 t.u0, .int .i64 t.u1, .int .i64 t.u2, .int .i64 t.w0, .int .i64 t.w1, .int .i64 t.w2, .int .i64 t.regs] 24, kn noM w.heap.size w w]) (τ := [(2, (true, _)), (3, (true, _)), (4, (true, _)), (7, (true, _)), (8, (true, _))]) (fun (many9_3 : Int) (j10_3 : Int) => [(9, (true, .int .i64 many9_3)), (10, (true, .int .i64 j10_3))]) (fun (many9_3 : Int) (j10_3 : Int) => []) (fun (many9_3 : Int) (j10_3 : Int) (m : Nat) => iter (roundelayref5_May_L2 k_ i7_2 x45) m (many9_3, j10_3) = some o48) (fun (many9_3 : Int) (j10_3 : Int) => o48 = .go (many9_3, j10_3)) 0 0 n51 ho52 ⟨rfl, rfl, rfl, rfl, rfl, rfl, rfl, trivial⟩ (fun w hw => hw.pick [0, 1, 2] (by decide)) ?_ ?_
          · skip
            rintro many9_3 j10_3 rfl
            refine WQ.then ?_
            refine WC.seq ?_
            refine WC.region ?_
            refine WL.q rfl rfl rfl (QV.move rfl rfl) ?_
            refine WL.q rfl rfl rfl (QV.move rfl rfl) ?_
            refine WL.q rfl rfl rfl (QV.fieldAddr fd24_0 rfl rfl) ?_
            obtain ⟨c53, hm54⟩ := ck_some hm50; clear hm50
            refine WL.q rfl rfl rfl (QV.indexArray ar22 rfl rfl rfl rfl c53.1 c53.2) ?_
            refine WL.q rfl rfl rfl (QV.load pl3 rfl rfl (Own.cellSym 1 rfl (sel3_get (off := 0) (i := x45) c53.1 c53.2 rfl rfl rfl) (addr_sym _ _ _))) ?_
            refine WL.q rfl rfl rfl (QV.gtr rfl rfl rfl rfl) ?_
            refine WL.nil ?_
            refine WQ.then ?_
            refine WC.cond rfl (fun h55 => ?_) (fun h55 => ?_)
            · skip
              have hm56 := br_t h55 hm54; clear hm54
              refine WC.seq ?_
              refine WC.region ?_
              refine WL.q rfl rfl rfl (QV.assign rfl rfl) ?_
              refine WL.nil ?_
              refine WQ.then ?_
              refine WC.ret ?_
              refine WQ.block_ret ?_
              refine WQ.then_ret ?_
              refine WQ.then_ret ?_
              refine WQ.block_ret ?_
              refine WQ.then_ret ?_
              refine WQ.then_ret ?_
              obtain rfl := up_ret hm56 hn28
              obtain rfl := (eq_of_some hm20).symm
              refine WQ.ret1 rfl rfl (fun w hw => ?_)
              exact ⟨rfl, Own.kgrow (fun _ x => x) hw⟩
            · skip
              have hm57 := br_f h55 hm54; clear hm54
              refine WC.skip ?_
              refine WQ.block ?_
              refine WQ.then ?_
              refine WC.region ?_
              refine WL.q rfl rfl rfl (QV.move rfl rfl) ?_
              obtain ⟨c58, hm59⟩ := ck_some hm57; clear hm57
              refine WL.q rfl rfl rfl (QV.add rfl rfl rfl rfl c58) ?_
              refine WL.q rfl rfl rfl (QV.assign rfl rfl) ?_
              refine WL.nil ?_
              exact WQ.again1 (i7_2 + 1) m25 (up_next hm59 hn28) (Nat.lt_succ_self _) ⟨rfl, rfl, rfl, rfl, trivial⟩ (fun w hw => hw.pick [0, 1, 2] (by decide))
          · skip
            rintro many9_3 j10_3 m60 hI61
            obtain ⟨m62, s63, rfl, hm64, hn65⟩ := iter_step hI61; clear hI61; unfold roundelayref5_May_L2 at hm64; simp only at hm64
            refine WC.seq ?_
            refine WC.seq ?_
            refine WC.region ?_
            refine WL.q rfl rfl rfl (QV.move rfl rfl) ?_
            refine WL.q rfl rfl rfl (QV.fieldAddr fd27_2 rfl rfl) ?_
            refine WL.q rfl rfl rfl (QV.load pl25 rfl rfl (Own.cell 0 rfl rfl)) ?_
            refine WL.q rfl rfl rfl (QV.lenS Try.underlying25 rfl rfl h_k__ops.lenMap) ?_
            refine WL.q rfl rfl rfl (QV.lss rfl rfl rfl rfl) ?_
            refine WL.nil ?_
            refine WQ.then ?_
            refine WC.cond rfl (fun h66 => ?_) (fun h66 => ?_)
            · skip
              have hm67 := br_t h66 hm64; clear hm64
              refine WC.skip ?_
              refine WQ.then ?_
              refine WC.seq ?_
              refine WC.block ?_
              refine WC.seq ?_
              refine WC.dr (m := 24) (S := Own noM w [kn noM w.heap.size w w, blk b2 [.int .i64 k_.pace, .int .i64 k_.stages, v_k__ops] 27, blk b1 [.int .i64 t.u0, .int .i64 t.u1, .int .i64 t.u2, .int .i64 t.w0, .int .i64 t.w1, .int .i64 t.w2, .int .i64 t.regs] 24]) (by kernel_rfl) (by kernel_rfl) (fun w hw => hw.pick [2, 0, 1] (by decide)) ?_
              refine WD.q 0 rfl (by kernel_rfl) rfl rfl rfl (QV.fieldAddr fd27_2 rfl rfl) ?_
              refine WD.q 1 rfl (by kernel_rfl) rfl rfl rfl (QV.load pl25 rfl rfl (Own.cell 1 rfl rfl)) ?_
              refine WD.q 2 rfl (by kernel_rfl) rfl rfl rfl (QV.move rfl rfl) ?_
              obtain ⟨c68, hm69⟩ := ck_some hm67; clear hm67
              obtain ⟨p70, hp71⟩ := h_k__ops.lenMap.ix (sz := 10) ln_len c68
              refine WD.q 3 rfl (by kernel_rfl) rfl rfl rfl (QV.indexSlice sl25 rfl rfl rfl rfl hp71) ?_
              refine WD.q 4 rfl (by kernel_rfl) rfl rfl rfl (QV.fieldAddr fd45_0 rfl rfl) ?_
              refine WD.q 5 rfl (by kernel_rfl) rfl rfl rfl (QV.load pl3 rfl rfl (fun w hw => CellsAt.one 0 (((Own.karr 0 rfl hk h_k__ops) w hw).ele hp71 c68) rfl)) ?_
              refine WD.q 6 rfl (by kernel_rfl) rfl rfl rfl (QV.fieldAddr fd27_2 rfl rfl) ?_
              refine WD.q 7 rfl (by kernel_rfl) rfl rfl rfl (QV.load pl25 rfl rfl (Own.cell 1 rfl rfl)) ?_
              refine WD.q 8 rfl (by kernel_rfl) rfl rfl rfl (QV.move rfl rfl) ?_
              obtain ⟨c72, hm73⟩ := ck_some hm69; clear hm69
              obtain ⟨p74, hp75⟩ := h_k__ops.lenMap.ix (sz := 10) ln_len c72
              refine WD.q 9 rfl (by kernel_rfl) rfl rfl rfl (QV.indexSlice sl25 rfl rfl rfl rfl hp75) ?_
              refine WD.q 10 rfl (by kernel_rfl) rfl rfl rfl (QV.fieldAddr fd45_0 rfl rfl) ?_
              refine WD.q 11 rfl (by kernel_rfl) rfl rfl rfl (QV.load pl3 rfl rfl (fun w hw => CellsAt.one 0 (((Own.karr 0 rfl hk h_k__ops) w hw).ele hp75 c72) rfl)) ?_
              refine WD.q 12 rfl (by kernel_rfl) rfl rfl rfl (QV.eql rfl rfl rfl rfl) ?_
              refine WD.q 13 rfl (by kernel_rfl) rfl rfl rfl (QV.move rfl rfl) ?_
              refine WD.g 14 rfl (by kernel_rfl) rfl rfl (GuardIs.pos rfl rfl) (fun hG => QV.fieldAddr fd27_2 rfl rfl) ?_
              refine WD.g 15 rfl (by kernel_rfl) rfl rfl (GuardIs.pos rfl rfl) (fun hG => QV.load pl25 rfl hG (Own.cell 1 rfl rfl)) ?_
              refine WD.g 16 rfl (by kernel_rfl) rfl rfl (GuardIs.pos rfl rfl) (fun hG => QV.move rfl rfl) ?_
              obtain ⟨c76, hm77⟩ := ck_some hm73; clear hm73
              obtain ⟨p78, hp79⟩ := h_k__ops.lenMap.ixG (sz := 10) ln_len c76
              refine WD.g 17 rfl (by kernel_rfl) rfl rfl (GuardIs.pos rfl rfl) (fun hG => QV.indexSlice sl25 rfl hG rfl hG (hp79 hG)) ?_
              refine WD.g 18 rfl (by kernel_rfl) rfl rfl (GuardIs.pos rfl rfl) (fun hG => QV.fieldAddr fd45_2 rfl hG) ?_
              refine WD.g 19 rfl (by kernel_rfl) rfl rfl (GuardIs.pos rfl rfl) (fun hG => QV.load pl3 rfl hG (fun w hw => CellsAt.one 2 (((Own.karr 0 rfl hk h_k__ops) w hw).ele (hp79 hG) (c76 hG)) rfl)) ?_
              obtain ⟨x80, hx81, hm82⟩ := bdG_some hm77; clear hm77
              refine WD.g 20 rfl (by kernel_rfl) rfl rfl (GuardIs.pos rfl rfl) (fun hG => QV.call en52 (EvAll.cons rfl hG EvAll.nil) (fun w hw => have h := roundelayref1_Class_w w (hx81 hG) ; h)) ?_
              refine WD.g 21 rfl (by kernel_rfl) rfl rfl (GuardIs.pos rfl rfl) (fun hG => QV.move rfl rfl) ?_
              refine WD.g 22 rfl (by kernel_rfl) rfl rfl (GuardIs.pos rfl rfl) (fun hG => QV.eql rfl hG rfl hG) ?_
              refine WD.q 23 rfl (by kernel_rfl) rfl rfl rfl (QV.pickAnd rfl rfl rfl (fun h => h)) ?_
              refine WD.e (by kernel_rfl) ?_
              refine WQ.then ?_
              refine WC.cond rfl (fun h83 => ?_) (fun h83 => ?_)
              · skip
                have hm84 := br_t h83 hm82; clear hm82
                refine WC.region ?_
                refine WL.q rfl rfl rfl (QV.move rfl rfl) ?_
                obtain ⟨c85, hm86⟩ := ck_some hm84; clear hm84
                refine WL.q rfl rfl rfl (QV.add rfl rfl rfl rfl c85) ?_
                refine WL.q rfl rfl rfl (QV.assign rfl rfl) ?_
                refine WL.nil ?_
                refine WQ.block ?_
                refine WQ.then ?_
                refine WC.region ?_
                refine WL.q rfl rfl rfl (QV.move rfl rfl) ?_
                obtain ⟨c87, hm88⟩ := ck_some hm86; clear hm86
                refine WL.q rfl rfl rfl (QV.add rfl rfl rfl rfl c87) ?_
                refine WL.q rfl rfl rfl (QV.assign rfl rfl) ?_
                refine WL.nil ?_
                exact WQ.again2 (many9_3 + 1) (j10_3 + 1) m62 (up_next hm88 hn65) (Nat.lt_succ_self _) ⟨rfl, rfl, rfl, rfl, rfl, rfl, rfl, trivial⟩ (fun w hw => hw.pick [0, 1, 2] (by decide))
              · skip
                have hm89 := br_f h83 hm82; clear hm82
                refine WC.skip ?_
                refine WQ.block ?_
                refine WQ.then ?_
                refine WC.region ?_
                refine WL.q rfl rfl rfl (QV.move rfl rfl) ?_
                obtain ⟨c90, hm91⟩ := ck_some hm89; clear hm89
                refine WL.q rfl rfl rfl (QV.add rfl rfl rfl rfl c90) ?_
                refine WL.q rfl rfl rfl (QV.assign rfl rfl) ?_
                refine WL.nil ?_
                exact WQ.again2 many9_3 (j10_3 + 1) m62 (up_next hm91 hn65) (Nat.lt_succ_self _) ⟨rfl, rfl, rfl, rfl, rfl, rfl, rfl, trivial⟩ (fun w hw => hw.pick [0, 1, 2] (by decide))
            · skip
              have hm92 := br_f h66 hm64; clear hm64
              refine WC.exit ?_
              refine WQ.then_exit ?_
              refine WQ.then_exit ?_
              refine WQ.block_exit ?_
              exact WQ.out2 many9_3 j10_3 (up_brk hm92 hn65) ⟨rfl, rfl, rfl, rfl, rfl, rfl, rfl, trivial⟩ (fun w hw => hw.pick [0, 1, 2] (by decide))
      · skip
        have hm93 := br_f h29 hm27; clear hm27
        refine WC.exit ?_
        refine WQ.then_exit ?_
        refine WQ.then_exit ?_
        refine WQ.block_exit ?_
        exact WQ.out1 i7_2 (up_brk hm93 hn28) ⟨rfl, rfl, rfl, rfl, trivial⟩ (fun w hw => hw.pick [0, 1, 2] (by decide))

set_option maxRecDepth 8000 in
theorem roundelayref10_Layout_w {v_l_logs : Value} {v_l_body : Value} {v_l_outs : Value} {v_k__ops : Value} {v_order : Value} {l : Lp} {t : Tgt} {k_ : Krn} {order : List Int} {r : List Off × Bool} {K0 : World} (hm : roundelayref10_Layout_m l t k_ order = some r) (h_l_logs : Arr K0 v_l_logs 1 (l.logs.map icell)) (h_l_body : Arr K0 v_l_body 9 (l.body.map Stm.cells)) (h_l_outs : Arr K0 v_l_outs 1 (l.outs.map icell)) (h_k__ops : Arr K0 v_k__ops 10 (k_.ops.map Opr.cells)) (h_order : Arr K0 v_order 1 (order.map icell)) (M : Nat → Prop) (w : World) (hk : Base M K0 w) (hw0 : Own M w [] w) : Calls Try.prog 42 #[.agg #[v_l_logs, v_l_body, v_l_outs], .agg #[.int .i64 t.u0, .int .i64 t.u1, .int .i64 t.u2, .int .i64 t.w0, .int .i64 t.w1, .int .i64 t.w2, .int .i64 t.regs], .agg #[.int .i64 k_.pace, .int .i64 k_.stages, v_k__ops], v_order] w (fun e w' => ∃ X : Value × World, e = .returned (.tuple #[X.1, .bool r.2]) ∧ Own M w (kn M w.heap.size K0 X.2 :: []) w' ∧ Arr X.2 X.1 3 (r.1.map Off.cells)) := by
  unfold roundelayref10_Layout_m at hm
  refine calls_of_WC (n := 150) (args := [.agg #[v_l_logs, v_l_body, v_l_outs], .agg #[.int .i64 t.u0, .int .i64 t.u1, .int .i64 t.u2, .int .i64 t.w0, .int .i64 t.w1, .int .i64 t.w2, .int .i64 t.regs], .agg #[.int .i64 k_.pace, .int .i64 k_.stages, v_k__ops], v_order]) Try.func42 rfl rfl (Nat.le_of_ble_eq_true rfl) ?_ (Own.startK hk hw0)
  refine WC.seq ?_
  refine WC.region ?_
  refine WL.effect rfl ?_
  refine (EV.boxAgg (by decide) rfl rfl (fun b1 => ?_))
  refine WL.effect rfl ?_
  refine (EV.boxAgg (by decide) rfl rfl (fun b2 => ?_))
  refine WL.effect rfl ?_
  refine (EV.boxAgg (by decide) rfl rfl (fun b3 => ?_))
  refine WL.q rfl rfl rfl (QV.assign rfl rfl) ?_
  refine WL.q rfl rfl rfl (QV.assign rfl rfl) ?_
  refine WL.nil ?_
  refine WQ.then ?_
  refine WC.seq ?_
  refine WC.region ?_
  refine WL.q rfl rfl rfl (QV.fieldAddr fd49_1 rfl rfl) ?_
  refine WL.q rfl rfl rfl (QV.load pl47 rfl rfl (Own.cell 2 rfl rfl)) ?_
  refine WL.q rfl rfl rfl (QV.lenS Try.underlying47 rfl rfl h_l_body.lenMap) ?_
  refine WL.q rfl rfl rfl (QV.assign rfl rfl) ?_
  refine WL.nil ?_
  refine WQ.then ?_
  refine WC.seq ?_
  refine WC.seq ?_
  refine WC.region ?_
  refine WL.q rfl rfl rfl (QV.loadAgg ag49 rfl rfl rfl (Own.cellsBlk 2 rfl)) ?_
  refine WL.q rfl rfl rfl (QV.loadAgg ag24 rfl rfl rfl (Own.cellsBlk 1 rfl)) ?_
  obtain ⟨x4, hx5, hm6⟩ := bd_some hm; clear hm
  refine WL.q rfl rfl rfl (QV.call en24 (EvAll.cons rfl rfl (EvAll.cons rfl rfl EvAll.nil)) (fun w hw => have h := roundelayref6_May_w w hx5 ((Own.karr 3 rfl hk h_l_logs) w hw) ((Own.karr 3 rfl hk h_l_body) w hw) ((Own.karr 3 rfl hk h_l_outs) w hw); h)) ?_
  refine WL.q rfl rfl rfl (QV.not rfl rfl) ?_
  refine WL.q rfl rfl rfl (QV.move rfl rfl) ?_
  refine WL.g rfl rfl (GuardIs.neg rfl rfl) (fun hG => QV.loadAgg ag24 rfl rfl rfl (Own.cellsBlk 1 rfl)) ?_
  refine WL.g rfl rfl (GuardIs.neg rfl rfl) (fun hG => QV.loadAgg ag27 rfl rfl rfl (Own.cellsBlk 0 rfl)) ?_
  refine WL.g rfl rfl (GuardIs.neg rfl rfl) (fun hG => QV.fieldAddr fd49_0 rfl rfl) ?_
  refine WL.g rfl rfl (GuardIs.neg rfl rfl) (fun hG => QV.load pl30 rfl hG (Own.cell 2 rfl rfl)) ?_
  obtain ⟨x7, hx8, hm9⟩ := bdG_some hm6; clear hm6
  refine WL.g rfl rfl (GuardIs.neg rfl rfl) (fun hG => QV.call en16 (EvAll.cons rfl hG (EvAll.cons rfl hG (EvAll.cons rfl hG EvAll.nil))) (fun w hw => have h := roundelayref5_May_w w (hx8 hG) ((Own.karr 3 rfl hk h_k__ops) w hw) ((Own.karr 3 rfl hk h_l_logs) w hw); h)) ?_
  refine WL.g rfl rfl (GuardIs.neg rfl rfl) (fun hG => QV.not rfl hG) ?_
  refine WL.q rfl rfl rfl (QV.pickOr rfl rfl rfl (fun h => notF h)) ?_
  refine WL.q rfl rfl rfl (QV.move rfl rfl) ?_
  refine WL.g rfl rfl (GuardIs.neg rfl rfl) (fun hG => QV.fieldAddr fd27_2 rfl rfl) ?_
  refine WL.g rfl rfl (GuardIs.neg rfl rfl) (fun hG => QV.load pl25 rfl hG (Own.cell 0 rfl rfl)) ?_
  refine WL.g rfl rfl (GuardIs.neg rfl rfl) (fun hG => QV.lenS Try.underlying25 rfl hG h_k__ops.lenMap) ?_
  refine WL.g rfl rfl (GuardIs.neg rfl rfl) (fun hG => QV.move rfl rfl) ?_
  refine WL.g rfl rfl (GuardIs.neg rfl rfl) (fun hG => QV.neq rfl hG rfl hG) ?_
  refine WL.q rfl rfl rfl (QV.pickOr rfl rfl rfl (fun h => notF h)) ?_
  refine WL.q rfl rfl rfl (QV.move rfl rfl) ?_
  refine WL.g rfl rfl (GuardIs.neg rfl rfl) (fun hG => QV.move rfl rfl) ?_
  refine WL.g rfl rfl (GuardIs.neg rfl rfl) (fun hG => QV.lenS Try.underlying30 rfl hG h_order.lenMap) ?_
  refine WL.g rfl rfl (GuardIs.neg rfl rfl) (fun hG => QV.move rfl rfl) ?_
  refine WL.g rfl rfl (GuardIs.neg rfl rfl) (fun hG => QV.neq rfl hG rfl hG) ?_
  refine WL.q rfl rfl rfl (QV.pickOr rfl rfl rfl (fun h => notF h)) ?_
  refine WL.nil ?_
  refine WQ.then ?_
  refine WC.cond rfl (fun h10 => ?_) (fun h10 => ?_)
  · skip
    have hm11 := br_t h10 hm9; clear hm9
    refine WC.seq ?_
    refine WC.region ?_
    refine WL.q rfl rfl rfl (QV.assign rfl rfl) ?_
    refine WL.q rfl rfl rfl (QV.assign rfl rfl) ?_
    refine WL.nil ?_
    refine WQ.then ?_
    refine WC.ret ?_
    refine WQ.then_ret ?_
    obtain rfl := (eq_of_some hm11).symm
    refine WQ.ret2 rfl rfl rfl (fun w hw => ?_)
    exact ⟨(.slice none 0 0, K0), rfl, hw.pick [3] (by decide), Arr.nil⟩
  · skip
    have hm12 := br_f h10 hm9; clear hm9
    refine WC.skip ?_
    refine WQ.then ?_
    refine WC.seq ?_
    refine WC.region ?_
    refine WL.q rfl rfl rfl (QV.assign rfl rfl) ?_
    refine WL.nil ?_
    refine WQ.then ?_
    refine WC.seq ?_
    refine WC.seq ?_
    refine WC.region ?_
    refine WL.q rfl rfl rfl (QV.assign rfl rfl) ?_
    refine WL.nil ?_
    refine WQ.then ?_
    refine WK.of (fun w hw => hw.vecNil (E := 128) (sz := 3) (enc := Off.cells)) ?_
    obtain ⟨o14, ho15, hm16⟩ := bd_some hm12; clear hm12; obtain ⟨n17, ho18⟩ := lp_some ho15
    refine WC.bloop3 (H2 := [blk b3 [.int .i64 k_.pace, .int .i64 k_.stages, v_k__ops] 27, blk b2 [.int .i64 t.u0, .int .i64 t.u1, .int .i64 t.u2, .int .i64 t.w0, .int .i64 t.w1, .int .i64 t.w2, .int .i64 t.regs] 24, blk b1 [v_l_logs, v_l_body, v_l_outs] 49, kn M w.heap.size K0 K0]) (τ := [(3, (true, _)), (4, (true, _)), (5, (true, _)), (6, (true, _)), (10, (true, _))]) (fun (v13_4 : List Off) (s12_4 : Int) (uv13_4 : Value) => [(11, (true, uv13_4)), (12, (true, .int .i64 s12_4))]) (fun (v13_4 : List Off) (s12_4 : Int) (uv13_4 : Value) => [vec uv13_4 128 3 (List.map Off.cells v13_4)]) (fun (v13_4 : List Off) (s12_4 : Int) (uv13_4 : Value) (m : Nat) => iter (roundelayref10_Layout_L0 l t k_ order) m (v13_4, s12_4) = some o14 ∧ SliceLen uv13_4 v13_4.length) (fun (v13_4 : List Off) (s12_4 : Int) (uv13_4 : Value) => o14 = .go (v13_4, s12_4) ∧ SliceLen uv13_4 v13_4.length) [] 0 (.slice none 0 0) n17 ⟨ho18, SliceLen.nil⟩ ⟨rfl, rfl, rfl, rfl, rfl, rfl, rfl, trivial⟩ (fun w hw => hw.pick [0, 1, 2, 3, 4] (by decide)) ?_ ?_
    · skip
      rintro v13_4 s12_4 uv13_4 ⟨rfl, hlv13_4⟩
      refine WQ.then ?_
      refine WC.seq ?_
      refine WC.region ?_
      refine WL.q rfl rfl rfl (QV.move rfl rfl) ?_
      refine WL.q rfl rfl rfl (QV.assign rfl rfl) ?_
      refine WL.q rfl rfl rfl (QV.assign rfl rfl) ?_
      refine WL.nil ?_
      refine WQ.then ?_
      refine WC.ret ?_
      obtain rfl := (eq_of_some hm16).symm
      refine WK.of (C' := Own M w [kn M w.heap.size K0 K0, vec uv13_4 128 3 (List.map Off.cells v13_4), blk b3 [.int .i64 k_.pace, .int .i64 k_.stages, v_k__ops] 27, blk b2 [.int .i64 t.u0, .int .i64 t.u1, .int .i64 t.u2, .int .i64 t.w0, .int .i64 t.w1, .int .i64 t.w2, .int .i64 t.regs] 24, blk b1 [v_l_logs, v_l_body, v_l_outs] 49]) (fun w hw => hw.pick [4, 0, 1, 2, 3] (by decide)) ?_
      refine WK.freeze hk (fun k19 hle19 hr19 => ?_)
      have hA19 := vec_arr hr19
      refine WQ.ret2 rfl rfl rfl (fun w hw => ?_)
      exact ⟨(uv13_4, k19), rfl, hw.pick [0] (by decide), hA19⟩
    · skip
      rintro v13_4 s12_4 uv13_4 m20 ⟨hI21, hlv13_4⟩
      obtain ⟨m22, s23, rfl, hm24, hn25⟩ := iter_step hI21; clear hI21; unfold roundelayref10_Layout_L0 at hm24; simp only at hm24
      refine WC.seq ?_
      refine WC.seq ?_
      refine WC.region ?_
      refine WL.q rfl rfl rfl (QV.move rfl rfl) ?_
      refine WL.q rfl rfl rfl (QV.move rfl rfl) ?_
      refine WL.q rfl rfl rfl (QV.lss rfl rfl rfl rfl) ?_
      refine WL.nil ?_
      refine WQ.then ?_
      refine WC.cond rfl (fun h26 => ?_) (fun h26 => ?_)
      · skip
        have hm27 := br_t h26 hm24; clear hm24
        refine WC.skip ?_
        refine WQ.then ?_
        refine WC.seq ?_
        refine WC.block ?_
        refine WC.seq ?_
        refine WC.seq ?_
        refine WC.region ?_
        refine WL.q rfl rfl rfl (QV.move rfl rfl) ?_
        refine WL.q rfl rfl rfl (QV.move rfl rfl) ?_
        obtain ⟨c28, hm29⟩ := ck_some hm27; clear hm27
        obtain ⟨p30, hp31⟩ := h_order.lenMap.ix (sz := 1) ln_len c28
        refine WL.q rfl rfl rfl (QV.indexSlice sl30 rfl rfl rfl rfl hp31) ?_
        refine WL.q rfl rfl rfl (QV.load pl3 rfl rfl (fun w hw => CellsAt.one 0 (((Own.karr 4 rfl hk h_order) w hw).ele hp31 c28) rfl)) ?_
        refine WL.q rfl rfl rfl (QV.lss rfl rfl rfl rfl) ?_
        refine WL.q rfl rfl rfl (QV.move rfl rfl) ?_
        refine WL.g rfl rfl (GuardIs.neg rfl rfl) (fun hG => QV.move rfl rfl) ?_
        refine WL.g rfl rfl (GuardIs.neg rfl rfl) (fun hG => QV.move rfl rfl) ?_
        obtain ⟨c32, hm33⟩ := ck_some hm29; clear hm29
        obtain ⟨p34, hp35⟩ := h_order.lenMap.ixG (sz := 1) ln_len c32
        refine WL.g rfl rfl (GuardIs.neg rfl rfl) (fun hG => QV.indexSlice sl30 rfl hG rfl hG (hp35 hG)) ?_
        refine WL.g rfl rfl (GuardIs.neg rfl rfl) (fun hG => QV.load pl3 rfl hG (fun w hw => CellsAt.one 0 (((Own.karr 4 rfl hk h_order) w hw).ele (hp35 hG) (c32 hG)) rfl)) ?_
        refine WL.g rfl rfl (GuardIs.neg rfl rfl) (fun hG => QV.move rfl rfl) ?_
        refine WL.g rfl rfl (GuardIs.neg rfl rfl) (fun hG => QV.geq rfl hG rfl hG) ?_
        refine WL.q rfl rfl rfl (QV.pickOr rfl rfl rfl (fun h => notF h)) ?_
        refine WL.nil ?_
        refine WQ.then ?_
        refine WC.cond rfl (fun h36 => ?_) (fun h36 => ?_)
        · skip
          have hm37 := br_t h36 hm33; clear hm33
          refine WC.seq ?_
          refine WC.region ?_
          refine WL.q rfl rfl rfl (QV.assign rfl rfl) ?_
          refine WL.q rfl rfl rfl (QV.assign rfl rfl) ?_
          refine WL.nil ?_
          refine WQ.then ?_
          refine WC.ret ?_
          refine WQ.then_ret ?_
          refine WQ.block_ret ?_
          refine WQ.then_ret ?_
          refine WQ.then_ret ?_
          refine WQ.block_ret ?_
          refine WQ.then_ret ?_
          refine WQ.then_ret ?_
          obtain rfl := up_ret hm37 hn25
          obtain rfl := (eq_of_some hm16).symm
          refine WQ.ret2 rfl rfl rfl (fun w hw => ?_)
          exact ⟨(.slice none 0 0, K0), rfl, hw.pick [4] (by decide), Arr.nil⟩
        · skip
          have hm38 := br_f h36 hm33; clear hm33
          refine WC.skip ?_
          refine WQ.then ?_
          refine WC.seq ?_
          refine WC.seq ?_
          refine WC.region ?_
          refine WL.q rfl rfl rfl (QV.assign rfl rfl) ?_
          refine WL.nil ?_
          refine WQ.then ?_
          obtain ⟨o39, ho40, hm41⟩ := bd_some hm38; clear hm38; obtain ⟨n42, ho43⟩ := lp_some ho40
          refine WC.bloop1 (H2 := [vec uv13_4 128 3 (List.map Off.cells v13_4), blk b3 [.int .i64 k_.pace, .int .i64 k_.stages, v_k__ops] 27, blk b2 [.int .i64 t.u0, .int .i64 t.u1, .int .i64 t.u2, .int .i64 t.w0, .int .i64 t.w1, .int .i64 t.w2, .int .i64 t.regs] 24, blk b1 [v_l_logs, v_l_body, v_l_outs] 49, kn M w.heap.size K0 K0]) (τ := [(3, (true, _)), (4, (true, _)), (5, (true, _)), (6, (true, _)), (10, (true, _)), (11, (true, _)), (12, (true, _))]) (fun (i13_5 : Int) => [(13, (true, .int .i64 i13_5))]) (fun (i13_5 : Int) => []) (fun (i13_5 : Int) (m : Nat) => iter (roundelayref10_Layout_L2 order s12_4) m i13_5 = some o39) (fun (i13_5 : Int) => o39 = .go i13_5) 0 n42 ho43 ⟨rfl, rfl, rfl, rfl, rfl, rfl, rfl, rfl, trivial⟩ (fun w hw => hw.pick [0, 1, 2, 3, 4] (by decide)) ?_ ?_
          · skip
            rintro i13_5 rfl
            refine WQ.then ?_
            refine WC.seq ?_
            refine WC.dr (m := 10) (S := Own M w [kn M w.heap.size K0 K0, vec uv13_4 128 3 (List.map Off.cells v13_4), blk b3 [.int .i64 k_.pace, .int .i64 k_.stages, v_k__ops] 27, blk b2 [.int .i64 t.u0, .int .i64 t.u1, .int .i64 t.u2, .int .i64 t.w0, .int .i64 t.w1, .int .i64 t.w2, .int .i64 t.regs] 24, blk b1 [v_l_logs, v_l_body, v_l_outs] 49]) (by kernel_rfl) (by kernel_rfl) (fun w hw => hw.pick [4, 0, 1, 2, 3] (by decide)) ?_
            refine WD.q 0 rfl (by kernel_rfl) rfl rfl rfl (QV.fieldAddr fd27_2 rfl rfl) ?_
            refine WD.q 1 rfl (by kernel_rfl) rfl rfl rfl (QV.load pl25 rfl rfl (Own.cell 2 rfl rfl)) ?_
            refine WD.q 2 rfl (by kernel_rfl) rfl rfl rfl (QV.move rfl rfl) ?_
            refine WD.q 3 rfl (by kernel_rfl) rfl rfl rfl (QV.move rfl rfl) ?_
            obtain ⟨c44, hm45⟩ := ck_some hm41; clear hm41
            obtain ⟨p46, hp47⟩ := h_order.lenMap.ix (sz := 1) ln_len c44
            refine WD.q 4 rfl (by kernel_rfl) rfl rfl rfl (QV.indexSlice sl30 rfl rfl rfl rfl hp47) ?_
            refine WD.q 5 rfl (by kernel_rfl) rfl rfl rfl (QV.load pl3 rfl rfl (fun w hw => CellsAt.one 0 (((Own.karr 0 rfl hk h_order) w hw).ele hp47 c44) rfl)) ?_
            obtain ⟨c48, hm49⟩ := ck_some hm45; clear hm45
            obtain ⟨p50, hp51⟩ := h_k__ops.lenMap.ix (sz := 10) ln_len c48
            refine WD.q 6 rfl (by kernel_rfl) rfl rfl rfl (QV.indexSlice sl25 rfl rfl rfl rfl hp51) ?_
            refine WD.q 7 rfl (by kernel_rfl) rfl rfl rfl (QV.loadAgg ag45 rfl rfl rfl (fun w hw => ((Own.karr 0 rfl hk h_k__ops) w hw).ele hp51 c48)) ?_
            refine WD.o 8 rfl (by kernel_rfl) rfl ?_
            refine (EV.alloc (by decide) ze45 (fun b52 => ?_))
            refine WD.b (H' := [kn M w.heap.size K0 K0, blk b52 [.int .i64 0, .int .i64 0, .int .i64 0, .int .i64 0, .int .i64 0, .int .i64 0, .int .i64 0, .int .i64 0, .int .i64 0, .int .i64 0] 45, vec uv13_4 128 3 (List.map Off.cells v13_4), blk b3 [.int .i64 k_.pace, .int .i64 k_.stages, v_k__ops] 27, blk b2 [.int .i64 t.u0, .int .i64 t.u1, .int .i64 t.u2, .int .i64 t.w0, .int .i64 t.w1, .int .i64 t.w2, .int .i64 t.regs] 24, blk b1 [v_l_logs, v_l_body, v_l_outs] 49]) (fun w hw => hw.pick [5, 0, 1, 2, 3, 4] (by decide)) (fun w hw => hw.pick [0, 2, 3, 4, 5] (by decide)) ?_
            refine WD.l 9 rfl (by kernel_rfl) rfl ?_
            refine (EV.store 0 rfl rfl rfl rfl rfl rfl (vs := [.int .i64 ((ele k_.ops (ele order s12_4)).slot), .int .i64 ((ele k_.ops (ele order s12_4)).stage), .int .i64 ((ele k_.ops (ele order s12_4)).op), .int .i64 ((ele k_.ops (ele order s12_4)).dest), .int .i64 ((ele k_.ops (ele order s12_4)).a), .int .i64 ((ele k_.ops (ele order s12_4)).b), .int .i64 ((ele k_.ops (ele order s12_4)).ar), .int .i64 ((ele k_.ops (ele order s12_4)).sp), .int .i64 ((ele k_.ops (ele order s12_4)).pl), .int .i64 ((ele k_.ops (ele order s12_4)).n)]) (show Value.cells _ = List.toArray _ from rfl) sz45 (Nat.le_of_ble_eq_true rfl) (one_cons rfl (one_cons rfl (one_cons rfl (one_cons rfl (one_cons rfl (one_cons rfl (one_cons rfl (one_cons rfl (one_cons rfl (one_cons rfl one_nil)))))))))) ?_)
            refine WQ.then ?_
            refine WC.seq ?_
            refine WC.region ?_
            refine WL.q rfl rfl rfl (QV.fieldAddr fd49_1 rfl rfl) ?_
            refine WL.q rfl rfl rfl (QV.load pl47 rfl rfl (Own.cell 4 rfl rfl)) ?_
            refine WL.q rfl rfl rfl (QV.move rfl rfl) ?_
            obtain ⟨c53, hm54⟩ := ck_some hm49; clear hm49
            obtain ⟨p55, hp56⟩ := h_l_body.lenMap.ix (sz := 9) ln_len c53
            refine WL.q rfl rfl rfl (QV.indexSlice sl47 rfl rfl rfl rfl hp56) ?_
            refine WL.q rfl rfl rfl (QV.loadAgg ag59 rfl rfl rfl (fun w hw => ((Own.karr 5 rfl hk h_l_body) w hw).ele hp56 c53)) ?_
            refine WL.effect rfl ?_
            refine (EV.alloc (by decide) ze59 (fun b57 => ?_))
            refine WL.effect rfl ?_
            refine (EV.store 0 rfl rfl rfl rfl rfl rfl (vs := [.int .i64 ((ele l.body s12_4).op), .int .i64 (((ele l.body s12_4).a).st), .int .i64 (((ele l.body s12_4).a).bk), .int .i64 (((ele l.body s12_4).b).st), .int .i64 (((ele l.body s12_4).b).bk), .int .i64 ((ele l.body s12_4).ar), .int .i64 ((ele l.body s12_4).sp), .int .i64 ((ele l.body s12_4).pl), .int .i64 ((ele l.body s12_4).n)]) (show Value.cells _ = List.toArray _ from rfl) sz59 (Nat.le_of_ble_eq_true rfl) (one_cons rfl (one_cons rfl (one_cons rfl (one_cons rfl (one_cons rfl (one_cons rfl (one_cons rfl (one_cons rfl (one_cons rfl one_nil))))))))) ?_)
            refine WL.nil ?_
            refine WQ.then ?_
            refine WC.seq ?_
            refine WC.seq ?_
            refine WC.region ?_
            refine WL.q rfl rfl rfl (QV.fieldAddr fd45_2 rfl rfl) ?_
            refine WL.q rfl rfl rfl (QV.load pl3 rfl rfl (Own.cell 1 rfl rfl)) ?_
            refine WL.q rfl rfl rfl (QV.fieldAddr fd59_0 rfl rfl) ?_
            refine WL.q rfl rfl rfl (QV.load pl3 rfl rfl (Own.cell 0 rfl rfl)) ?_
            refine WL.q rfl rfl rfl (QV.neq rfl rfl rfl rfl) ?_
            refine WL.q rfl rfl rfl (QV.move rfl rfl) ?_
            refine WL.g rfl rfl (GuardIs.neg rfl rfl) (fun hG => QV.fieldAddr fd45_6 rfl rfl) ?_
            refine WL.g rfl rfl (GuardIs.neg rfl rfl) (fun hG => QV.load pl3 rfl hG (Own.cell 1 rfl rfl)) ?_
            refine WL.g rfl rfl (GuardIs.neg rfl rfl) (fun hG => QV.fieldAddr fd59_3 rfl rfl) ?_
            refine WL.g rfl rfl (GuardIs.neg rfl rfl) (fun hG => QV.load pl3 rfl hG (Own.cell 0 rfl rfl)) ?_
            refine WL.g rfl rfl (GuardIs.neg rfl rfl) (fun hG => QV.neq rfl hG rfl hG) ?_
            refine WL.q rfl rfl rfl (QV.pickOr rfl rfl rfl (fun h => notF h)) ?_
            refine WL.q rfl rfl rfl (QV.move rfl rfl) ?_
            refine WL.g rfl rfl (GuardIs.neg rfl rfl) (fun hG => QV.fieldAddr fd45_7 rfl rfl) ?_
            refine WL.g rfl rfl (GuardIs.neg rfl rfl) (fun hG => QV.load pl3 rfl hG (Own.cell 1 rfl rfl)) ?_
            refine WL.g rfl rfl (GuardIs.neg rfl rfl) (fun hG => QV.fieldAddr fd59_4 rfl rfl) ?_
            refine WL.g rfl rfl (GuardIs.neg rfl rfl) (fun hG => QV.load pl3 rfl hG (Own.cell 0 rfl rfl)) ?_
            refine WL.g rfl rfl (GuardIs.neg rfl rfl) (fun hG => QV.neq rfl hG rfl hG) ?_
            refine WL.q rfl rfl rfl (QV.pickOr rfl rfl rfl (fun h => notF h)) ?_
            refine WL.q rfl rfl rfl (QV.move rfl rfl) ?_
            refine WL.g rfl rfl (GuardIs.neg rfl rfl) (fun hG => QV.fieldAddr fd45_8 rfl rfl) ?_
            refine WL.g rfl rfl (GuardIs.neg rfl rfl) (fun hG => QV.load pl3 rfl hG (Own.cell 1 rfl rfl)) ?_
            refine WL.g rfl rfl (GuardIs.neg rfl rfl) (fun hG => QV.fieldAddr fd59_5 rfl rfl) ?_
            refine WL.g rfl rfl (GuardIs.neg rfl rfl) (fun hG => QV.load pl3 rfl hG (Own.cell 0 rfl rfl)) ?_
            refine WL.g rfl rfl (GuardIs.neg rfl rfl) (fun hG => QV.neq rfl hG rfl hG) ?_
            refine WL.q rfl rfl rfl (QV.pickOr rfl rfl rfl (fun h => notF h)) ?_
            refine WL.q rfl rfl rfl (QV.move rfl rfl) ?_
            refine WL.g rfl rfl (GuardIs.neg rfl rfl) (fun hG => QV.fieldAddr fd45_9 rfl rfl) ?_
            refine WL.g rfl rfl (GuardIs.neg rfl rfl) (fun hG => QV.load pl2 rfl hG (Own.cell 1 rfl rfl)) ?_
            refine WL.g rfl rfl (GuardIs.neg rfl rfl) (fun hG => QV.fieldAddr fd59_6 rfl rfl) ?_
            refine WL.g rfl rfl (GuardIs.neg rfl rfl) (fun hG => QV.load pl2 rfl hG (Own.cell 0 rfl rfl)) ?_
            refine WL.g rfl rfl (GuardIs.neg rfl rfl) (fun hG => QV.neq rfl hG rfl hG) ?_
            refine WL.q rfl rfl rfl (QV.pickOr rfl rfl rfl (fun h => notF h)) ?_
            refine WL.nil ?_
            refine WQ.then ?_
            refine WC.cond rfl (fun h58 => ?_) (fun h58 => ?_)
            · skip
              have hm59 := br_t h58 hm54; clear hm54
              refine WC.seq ?_
              refine WC.region ?_
              refine WL.q rfl rfl rfl (QV.assign rfl rfl) ?_
              refine WL.q rfl rfl rfl (QV.assign rfl rfl) ?_
              refine WL.nil ?_
              refine WQ.then ?_
              refine WC.ret ?_
              refine WQ.then_ret ?_
              refine WQ.block_ret ?_
              refine WQ.then_ret ?_
              refine WQ.then_ret ?_
              refine WQ.block_ret ?_
              refine WQ.then_ret ?_
              refine WQ.then_ret ?_
              obtain rfl := up_ret hm59 hn25
              obtain rfl := (eq_of_some hm16).symm
              refine WQ.ret2 rfl rfl rfl (fun w hw => ?_)
              exact ⟨(.slice none 0 0, K0), rfl, hw.pick [6] (by decide), Arr.nil⟩
            · skip
              have hm60 := br_f h58 hm54; clear hm54
              refine WC.skip ?_
              refine WQ.then ?_
              refine WC.seq ?_
              refine WC.region ?_
              refine WL.q rfl rfl rfl (QV.fieldAddr fd45_0 rfl rfl) ?_
              refine WL.q rfl rfl rfl (QV.load pl3 rfl rfl (Own.cell 1 rfl rfl)) ?_
              refine WL.q rfl rfl rfl (QV.fieldAddr fd27_0 rfl rfl) ?_
              refine WL.q rfl rfl rfl (QV.load pl3 rfl rfl (Own.cell 3 rfl rfl)) ?_
              refine WL.q rfl rfl rfl (QV.fieldAddr fd45_1 rfl rfl) ?_
              refine WL.q rfl rfl rfl (QV.load pl3 rfl rfl (Own.cell 1 rfl rfl)) ?_
              obtain ⟨c61, hm62⟩ := ck_some hm60; clear hm60
              refine WL.q rfl rfl rfl (QV.mul rfl rfl rfl rfl c61) ?_
              obtain ⟨c63, hm64⟩ := ck_some hm62; clear hm62
              refine WL.q rfl rfl rfl (QV.add rfl rfl rfl rfl c63) ?_
              refine WL.q rfl rfl rfl (QV.assign rfl rfl) ?_
              refine WL.nil ?_
              refine WQ.then ?_
              refine WC.seq ?_
              refine WC.region ?_
              refine WL.q rfl rfl rfl (QV.loadAgg ag24 rfl rfl rfl (Own.cellsBlk 4 rfl)) ?_
              refine WL.q rfl rfl rfl (QV.fieldAddr fd45_2 rfl rfl) ?_
              refine WL.q rfl rfl rfl (QV.load pl3 rfl rfl (Own.cell 1 rfl rfl)) ?_
              obtain ⟨x65, hx66, hm67⟩ := bd_some hm64; clear hm64
              refine WL.q rfl rfl rfl (QV.call en78 (EvAll.cons rfl rfl (EvAll.cons rfl rfl EvAll.nil)) (fun w hw => have h := roundelayref4_Wait_w w hx66 ; h)) ?_
              refine WL.q rfl rfl rfl (QV.assign rfl rfl) ?_
              refine WL.nil ?_
              refine WQ.then ?_
              refine WC.region ?_
              refine WL.q rfl rfl rfl (QV.move rfl rfl) ?_
              refine WL.q rfl rfl rfl (QV.move rfl rfl) ?_
              refine WL.q rfl rfl rfl (QV.move rfl rfl) ?_
              refine WL.q rfl rfl rfl (QV.move rfl rfl) ?_
              obtain ⟨c68, hm69⟩ := ck_some hm67; clear hm67
              refine WL.q rfl rfl rfl (QV.add rfl rfl rfl rfl c68) ?_
              refine WL.q rfl rfl rfl (QV.fieldAddr fd45_3 rfl rfl) ?_
              refine WL.q rfl rfl rfl (QV.load pl3 rfl rfl (Own.cell 1 rfl rfl)) ?_
              refine WL.q rfl rfl rfl (QV.fieldAddr fd45_1 rfl rfl) ?_
              refine WL.q rfl rfl rfl (QV.load pl3 rfl rfl (Own.cell 1 rfl rfl)) ?_
              obtain ⟨c70, hm71⟩ := ck_some hm69; clear hm69
              refine WL.q rfl rfl rfl (QV.add rfl rfl rfl rfl c70) ?_
              refine WL.q rfl rfl rfl (QV.build (ps := [(0, .tmp 137), (1, .tmp 140), (2, .tmp 145)]) (cells := [.int .i64 ((ele k_.ops (ele order s12_4)).slot + (k_.pace * (ele k_.ops (ele order s12_4)).stage)), .int .i64 (((ele k_.ops (ele order s12_4)).slot + (k_.pace * (ele k_.ops (ele order s12_4)).stage)) + x65), .int .i64 ((ele k_.ops (ele order s12_4)).dest + (ele k_.ops (ele order s12_4)).stage)]) (EvAll.cons rfl rfl (EvAll.cons rfl rfl (EvAll.cons rfl rfl EvAll.nil))) (by kernel_rfl)) ?_
              refine WL.effect rfl ?_
              refine (EV.buildSlice (by decide) sz_81 (by decide) (by decide) (ps := [(0, .tmp 146)]) (cells := [.int .i64 ((ele k_.ops (ele order s12_4)).slot + (k_.pace * (ele k_.ops (ele order s12_4)).stage)), .int .i64 (((ele k_.ops (ele order s12_4)).slot + (k_.pace * (ele k_.ops (ele order s12_4)).stage)) + x65), .int .i64 ((ele k_.ops (ele order s12_4)).dest + (ele k_.ops (ele order s12_4)).stage)]) (EvAll.cons rfl rfl EvAll.nil) (by kernel_rfl) (fun b72 => ?_))
              refine WL.effect rfl ?_
              obtain ⟨c73, hm74⟩ := ck_some hm71; clear hm71
              refine (EV.appendL (enc := Off.cells) (xs := v13_4) (ys := [(Off.mk ((ele k_.ops (ele order s12_4)).slot + (k_.pace * (ele k_.ops (ele order s12_4)).stage)) (((ele k_.ops (ele order s12_4)).slot + (k_.pace * (ele k_.ops (ele order s12_4)).stage)) + x65) ((ele k_.ops (ele order s12_4)).dest + (ele k_.ops (ele order s12_4)).stage))]) ((v13_4 ++ [(Off.mk ((ele k_.ops (ele order s12_4)).slot + (k_.pace * (ele k_.ops (ele order s12_4)).stage)) (((ele k_.ops (ele order s12_4)).slot + (k_.pace * (ele k_.ops (ele order s12_4)).stage)) + x65) ((ele k_.ops (ele order s12_4)).dest + (ele k_.ops (ele order s12_4)).stage))])) 3 (by decide) ve81 rfl rfl rfl rfl rfl (Own.blkArr 0 (rows := [(Off.mk ((ele k_.ops (ele order s12_4)).slot + (k_.pace * (ele k_.ops (ele order s12_4)).stage)) (((ele k_.ops (ele order s12_4)).slot + (k_.pace * (ele k_.ops (ele order s12_4)).stage)) + x65) ((ele k_.ops (ele order s12_4)).dest + (ele k_.ops (ele order s12_4)).stage))].map Off.cells) rfl rfl (rows_len Off.cells_len)) Off.cells_len (Off.cells_one _) rfl c73.1 c73.2 (fun u75 hu76 => ?_))
              refine WL.q rfl rfl rfl (QV.assign rfl rfl) ?_
              refine WL.nil ?_
              refine WQ.block ?_
              refine WQ.then ?_
              refine WC.region ?_
              refine WL.q rfl rfl rfl (QV.move rfl rfl) ?_
              obtain ⟨c77, hm78⟩ := ck_some hm74; clear hm74
              refine WL.q rfl rfl rfl (QV.add rfl rfl rfl rfl c77) ?_
              refine WL.q rfl rfl rfl (QV.assign rfl rfl) ?_
              refine WL.nil ?_
              exact WQ.again3 (v13_4 ++ [(Off.mk ((ele k_.ops (ele order s12_4)).slot + (k_.pace * (ele k_.ops (ele order s12_4)).stage)) (((ele k_.ops (ele order s12_4)).slot + (k_.pace * (ele k_.ops (ele order s12_4)).stage)) + x65) ((ele k_.ops (ele order s12_4)).dest + (ele k_.ops (ele order s12_4)).stage))]) (s12_4 + 1) u75 m22 ⟨up_next hm78 hn25, hu76⟩ (Nat.lt_succ_self _) ⟨rfl, rfl, rfl, rfl, rfl, rfl, rfl, trivial⟩ (fun w hw => hw.pick [3, 4, 5, 6, 7] (by decide))
          · skip
            rintro i13_5 m79 hI80
            obtain ⟨m81, s82, rfl, hm83, hn84⟩ := iter_step hI80; clear hI80; unfold roundelayref10_Layout_L2 at hm83
            refine WC.seq ?_
            refine WC.seq ?_
            refine WC.region ?_
            refine WL.q rfl rfl rfl (QV.move rfl rfl) ?_
            refine WL.q rfl rfl rfl (QV.move rfl rfl) ?_
            refine WL.q rfl rfl rfl (QV.lss rfl rfl rfl rfl) ?_
            refine WL.nil ?_
            refine WQ.then ?_
            refine WC.cond rfl (fun h85 => ?_) (fun h85 => ?_)
            · skip
              have hm86 := br_t h85 hm83; clear hm83
              refine WC.skip ?_
              refine WQ.then ?_
              refine WC.seq ?_
              refine WC.block ?_
              refine WC.seq ?_
              refine WC.dr (m := 9) (S := Own M w [kn M w.heap.size K0 K0, vec uv13_4 128 3 (List.map Off.cells v13_4), blk b3 [.int .i64 k_.pace, .int .i64 k_.stages, v_k__ops] 27, blk b2 [.int .i64 t.u0, .int .i64 t.u1, .int .i64 t.u2, .int .i64 t.w0, .int .i64 t.w1, .int .i64 t.w2, .int .i64 t.regs] 24, blk b1 [v_l_logs, v_l_body, v_l_outs] 49]) (by kernel_rfl) (by kernel_rfl) (fun w hw => hw.pick [4, 0, 1, 2, 3] (by decide)) ?_
              refine WD.q 0 rfl (by kernel_rfl) rfl rfl rfl (QV.move rfl rfl) ?_
              refine WD.q 1 rfl (by kernel_rfl) rfl rfl rfl (QV.move rfl rfl) ?_
              obtain ⟨c87, hm88⟩ := ck_some hm86; clear hm86
              obtain ⟨p89, hp90⟩ := h_order.lenMap.ix (sz := 1) ln_len c87
              refine WD.q 2 rfl (by kernel_rfl) rfl rfl rfl (QV.indexSlice sl30 rfl rfl rfl rfl hp90) ?_
              refine WD.q 3 rfl (by kernel_rfl) rfl rfl rfl (QV.load pl3 rfl rfl (fun w hw => CellsAt.one 0 (((Own.karr 0 rfl hk h_order) w hw).ele hp90 c87) rfl)) ?_
              refine WD.q 4 rfl (by kernel_rfl) rfl rfl rfl (QV.move rfl rfl) ?_
              refine WD.q 5 rfl (by kernel_rfl) rfl rfl rfl (QV.move rfl rfl) ?_
              obtain ⟨c91, hm92⟩ := ck_some hm88; clear hm88
              obtain ⟨p93, hp94⟩ := h_order.lenMap.ix (sz := 1) ln_len c91
              refine WD.q 6 rfl (by kernel_rfl) rfl rfl rfl (QV.indexSlice sl30 rfl rfl rfl rfl hp94) ?_
              refine WD.q 7 rfl (by kernel_rfl) rfl rfl rfl (QV.load pl3 rfl rfl (fun w hw => CellsAt.one 0 (((Own.karr 0 rfl hk h_order) w hw).ele hp94 c91) rfl)) ?_
              refine WD.q 8 rfl (by kernel_rfl) rfl rfl rfl (QV.eql rfl rfl rfl rfl) ?_
              refine WD.e (by kernel_rfl) ?_
              refine WQ.then ?_
              refine WC.cond rfl (fun h95 => ?_) (fun h95 => ?_)
              · skip
                have hm96 := br_t h95 hm92; clear hm92
                refine WC.seq ?_
                refine WC.region ?_
                refine WL.q rfl rfl rfl (QV.assign rfl rfl) ?_
                refine WL.q rfl rfl rfl (QV.assign rfl rfl) ?_
                refine WL.nil ?_
                refine WQ.then ?_
                refine WC.ret ?_
                refine WQ.block_ret ?_
                refine WQ.then_ret ?_
                refine WQ.then_ret ?_
                refine WQ.block_ret ?_
                refine WQ.then_ret ?_
                refine WQ.then_ret ?_
                refine WQ.block_ret ?_
                refine WQ.then_ret ?_
                refine WQ.then_ret ?_
                refine WQ.block_ret ?_
                refine WQ.then_ret ?_
                refine WQ.then_ret ?_
                obtain rfl := up_ret hm96 hn84
                obtain rfl := up_ret hm41 hn25
                obtain rfl := (eq_of_some hm16).symm
                refine WQ.ret2 rfl rfl rfl (fun w hw => ?_)
                exact ⟨(.slice none 0 0, K0), rfl, hw.pick [4] (by decide), Arr.nil⟩
              · skip
                have hm97 := br_f h95 hm92; clear hm92
                refine WC.skip ?_
                refine WQ.block ?_
                refine WQ.then ?_
                refine WC.region ?_
                refine WL.q rfl rfl rfl (QV.move rfl rfl) ?_
                obtain ⟨c98, hm99⟩ := ck_some hm97; clear hm97
                refine WL.q rfl rfl rfl (QV.add rfl rfl rfl rfl c98) ?_
                refine WL.q rfl rfl rfl (QV.assign rfl rfl) ?_
                refine WL.nil ?_
                exact WQ.again1 (i13_5 + 1) m81 (up_next hm99 hn84) (Nat.lt_succ_self _) ⟨rfl, rfl, rfl, rfl, rfl, rfl, rfl, rfl, trivial⟩ (fun w hw => hw.pick [0, 1, 2, 3, 4] (by decide))
            · skip
              have hm100 := br_f h85 hm83; clear hm83
              refine WC.exit ?_
              refine WQ.then_exit ?_
              refine WQ.then_exit ?_
              refine WQ.block_exit ?_
              exact WQ.out1 i13_5 (up_brk hm100 hn84) ⟨rfl, rfl, rfl, rfl, rfl, rfl, rfl, rfl, trivial⟩ (fun w hw => hw.pick [0, 1, 2, 3, 4] (by decide))
      · skip
        have hm101 := br_f h26 hm24; clear hm24
        refine WC.exit ?_
        refine WQ.then_exit ?_
        refine WQ.then_exit ?_
        refine WQ.block_exit ?_
        exact WQ.out3 v13_4 s12_4 uv13_4 ⟨up_brk hm101 hn25, hlv13_4⟩ ⟨rfl, rfl, rfl, rfl, rfl, rfl, rfl, trivial⟩ (fun w hw => hw.pick [0, 1, 2, 3, 4] (by decide))

set_option maxRecDepth 8000 in
theorem roundelayref10_Far_w {v_l_logs : Value} {v_l_body : Value} {v_l_outs : Value} {l : Lp} {a : Int} {r : Int} (w : World) (hm : roundelayref10_Far_m l a = some r) (h_l_logs : Arr w v_l_logs 1 (l.logs.map icell)) (h_l_body : Arr w v_l_body 9 (l.body.map Stm.cells)) (h_l_outs : Arr w v_l_outs 1 (l.outs.map icell)) : Calls Try.prog 84 #[.agg #[v_l_logs, v_l_body, v_l_outs], .int .i64 a] w (fun e w' => e = .returned (.int .i64 r) ∧ Grow w w') := by
  unfold roundelayref10_Far_m at hm
  have hk := Base.rfl (w := w)
  refine calls_of_WC (n := 50) (args := [.agg #[v_l_logs, v_l_body, v_l_outs], .int .i64 a]) Try.func84 rfl rfl (Nat.le_of_ble_eq_true rfl) ?_ (Own.startK hk (Own.start w))
  refine WC.seq ?_
  refine WC.region ?_
  refine WL.effect rfl ?_
  refine (EV.boxAgg (by decide) rfl rfl (fun b1 => ?_))
  refine WL.q rfl rfl rfl (QV.assign rfl rfl) ?_
  refine WL.nil ?_
  refine WQ.then ?_
  refine WC.seq ?_
  refine WC.region ?_
  refine WL.q rfl rfl rfl (QV.assign rfl rfl) ?_
  refine WL.nil ?_
  refine WQ.then ?_
  refine WC.seq ?_
  refine WC.seq ?_
  refine WC.region ?_
  refine WL.q rfl rfl rfl (QV.assign rfl rfl) ?_
  refine WL.nil ?_
  refine WQ.then ?_
  obtain ⟨o2, ho3, hm4⟩ := bd_some hm; clear hm; obtain ⟨n5, ho6⟩ := lp_some ho3
  refine WC.bloop3 (H2 := [blk b1 [v_l_logs, v_l_body, v_l_outs] 49]) (τ := [(1, (true, _)), (2, (true, _))]) (fun (far5_3 : Int) (i6_3 : Int) (k_3 : World) => [(5, (true, .int .i64 far5_3)), (6, (true, .int .i64 i6_3))]) (fun (far5_3 : Int) (i6_3 : Int) (k_3 : World) => [kn noM w.heap.size w k_3]) (fun (far5_3 : Int) (i6_3 : Int) (k_3 : World) (m : Nat) => iter (roundelayref10_Far_L0 l a) m (far5_3, i6_3) = some o2 ∧ Le w k_3) (fun (far5_3 : Int) (i6_3 : Int) (k_3 : World) => o2 = .go (far5_3, i6_3) ∧ Le w k_3) 0 0 w n5 ⟨ho6, (Le.refl _)⟩ ⟨rfl, rfl, rfl, rfl, trivial⟩ (fun w hw => hw.pick [1, 0] (by decide)) ?_ ?_
  · skip
    rintro far5_3 i6_3 k_3 ⟨rfl, hle_3⟩
    refine WQ.then ?_
    refine WC.seq ?_
    refine WC.region ?_
    refine WL.q rfl rfl rfl (QV.move rfl rfl) ?_
    refine WL.q rfl rfl rfl (QV.assign rfl rfl) ?_
    refine WL.nil ?_
    refine WQ.then ?_
    refine WC.ret ?_
    obtain rfl := (eq_of_some hm4).symm
    refine WQ.ret1 rfl rfl (fun w hw => ?_)
    exact ⟨rfl, Own.kgrow (fun _ x => x) hw⟩
  · skip
    rintro far5_3 i6_3 k_3 m7 ⟨hI8, hle_3⟩
    obtain ⟨m9, s10, rfl, hm11, hn12⟩ := iter_step hI8; clear hI8; unfold roundelayref10_Far_L0 at hm11; simp only at hm11
    refine WC.seq ?_
    refine WC.seq ?_
    refine WC.region ?_
    refine WL.q rfl rfl rfl (QV.move rfl rfl) ?_
    refine WL.q rfl rfl rfl (QV.fieldAddr fd49_1 rfl rfl) ?_
    refine WL.q rfl rfl rfl (QV.load pl47 rfl rfl (Own.cell 1 rfl rfl)) ?_
    refine WL.q rfl rfl rfl (QV.lenS Try.underlying47 rfl rfl (h_l_body.le hle_3).lenMap) ?_
    refine WL.q rfl rfl rfl (QV.lss rfl rfl rfl rfl) ?_
    refine WL.nil ?_
    refine WQ.then ?_
    refine WC.cond rfl (fun h13 => ?_) (fun h13 => ?_)
    · skip
      have hm14 := br_t h13 hm11; clear hm11
      refine WC.skip ?_
      refine WQ.then ?_
      refine WC.seq ?_
      refine WC.block ?_
      refine WC.seq ?_
      refine WC.region ?_
      refine WL.q rfl rfl rfl (QV.fieldAddr fd49_1 rfl rfl) ?_
      refine WL.q rfl rfl rfl (QV.load pl47 rfl rfl (Own.cell 1 rfl rfl)) ?_
      refine WL.q rfl rfl rfl (QV.move rfl rfl) ?_
      obtain ⟨c15, hm16⟩ := ck_some hm14; clear hm14
      obtain ⟨p17, hp18⟩ := (h_l_body.le hle_3).lenMap.ix (sz := 9) ln_len c15
      refine WL.q rfl rfl rfl (QV.indexSlice sl47 rfl rfl rfl rfl hp18) ?_
      refine WL.q rfl rfl rfl (QV.loadAgg ag59 rfl rfl rfl (fun w hw => ((Own.karr 0 rfl hk (h_l_body.le hle_3)) w hw).ele hp18 c15)) ?_
      refine WL.effect rfl ?_
      obtain ⟨x19, hx20, hm21⟩ := bd_some hm16; clear hm16
      refine (EV.callR (X := Value × World) (R := []) (fun X => X.1) (fun X => []) (fun X => X.2) (fun X => Arr X.2 X.1 2 (x19.map Rf.cells)) hk (fun _ h => by cases h; decide) en74 (EvAll.cons rfl rfl EvAll.nil) (fun M w h1 h2 => have h := roundelayref2_Uses_w hx20  M w h1 h2; h) (fun X22 hF22 hle22 => ?_))
      refine WL.q rfl rfl rfl (QV.assign rfl rfl) ?_
      refine WL.nil ?_
      refine WQ.then ?_
      refine WC.seq ?_
      refine WC.region ?_
      refine WL.q rfl rfl rfl (QV.assign rfl rfl) ?_
      refine WL.nil ?_
      refine WQ.then ?_
      obtain ⟨o23, ho24, hm25⟩ := bd_some hm21; clear hm21; obtain ⟨n26, ho27⟩ := lp_some ho24
      refine WC.bloop2 (H2 := [kn noM w.heap.size w X22.2, blk b1 [v_l_logs, v_l_body, v_l_outs] 49]) (τ := [(1, (true, _)), (2, (true, _)), (6, (true, _)), (7, (true, _))]) (fun (far5_4 : Int) (k8_4 : Int) => [(5, (true, .int .i64 far5_4)), (8, (true, .int .i64 k8_4))]) (fun (far5_4 : Int) (k8_4 : Int) => []) (fun (far5_4 : Int) (k8_4 : Int) (m : Nat) => iter (roundelayref10_Far_L2 a x19) m (far5_4, k8_4) = some o23) (fun (far5_4 : Int) (k8_4 : Int) => o23 = .go (far5_4, k8_4)) far5_3 0 n26 ho27 ⟨rfl, rfl, rfl, rfl, rfl, rfl, trivial⟩ (fun w hw => hw.pick [0, 1] (by decide)) ?_ ?_
      · skip
        rintro far5_4 k8_4 rfl
        refine WQ.block ?_
        refine WQ.then ?_
        refine WC.region ?_
        refine WL.q rfl rfl rfl (QV.move rfl rfl) ?_
        obtain ⟨c28, hm29⟩ := ck_some hm25; clear hm25
        refine WL.q rfl rfl rfl (QV.add rfl rfl rfl rfl c28) ?_
        refine WL.q rfl rfl rfl (QV.assign rfl rfl) ?_
        refine WL.nil ?_
        exact WQ.again3 far5_4 (i6_3 + 1) X22.2 m9 ⟨up_next hm29 hn12, (hle_3.trans hle22)⟩ (Nat.lt_succ_self _) ⟨rfl, rfl, rfl, rfl, trivial⟩ (fun w hw => hw.pick [0, 1] (by decide))
      · skip
        rintro far5_4 k8_4 m30 hI31
        obtain ⟨m32, s33, rfl, hm34, hn35⟩ := iter_step hI31; clear hI31; unfold roundelayref10_Far_L2 at hm34; simp only at hm34
        refine WC.seq ?_
        refine WC.seq ?_
        refine WC.region ?_
        refine WL.q rfl rfl rfl (QV.move rfl rfl) ?_
        refine WL.q rfl rfl rfl (QV.move rfl rfl) ?_
        refine WL.q rfl rfl rfl (QV.lenS Try.underlying106 rfl rfl hF22.lenMap) ?_
        refine WL.q rfl rfl rfl (QV.lss rfl rfl rfl rfl) ?_
        refine WL.nil ?_
        refine WQ.then ?_
        refine WC.cond rfl (fun h36 => ?_) (fun h36 => ?_)
        · skip
          have hm37 := br_t h36 hm34; clear hm34
          refine WC.skip ?_
          refine WQ.then ?_
          refine WC.seq ?_
          refine WC.block ?_
          refine WC.seq ?_
          refine WC.region ?_
          refine WL.q rfl rfl rfl (QV.move rfl rfl) ?_
          refine WL.q rfl rfl rfl (QV.move rfl rfl) ?_
          obtain ⟨c38, hm39⟩ := ck_some hm37; clear hm37
          obtain ⟨p40, hp41⟩ := hF22.lenMap.ix (sz := 2) ln_len c38
          refine WL.q rfl rfl rfl (QV.indexSlice sl106 rfl rfl rfl rfl hp41) ?_
          refine WL.q rfl rfl rfl (QV.fieldAddr fd57_0 rfl rfl) ?_
          refine WL.q rfl rfl rfl (QV.load pl3 rfl rfl (fun w hw => CellsAt.one 0 (((Own.karr 0 rfl hk hF22) w hw).ele hp41 c38) rfl)) ?_
          refine WL.q rfl rfl rfl (QV.move rfl rfl) ?_
          refine WL.q rfl rfl rfl (QV.eql rfl rfl rfl rfl) ?_
          refine WL.q rfl rfl rfl (QV.move rfl rfl) ?_
          refine WL.g rfl rfl (GuardIs.pos rfl rfl) (fun hG => QV.move rfl rfl) ?_
          refine WL.g rfl rfl (GuardIs.pos rfl rfl) (fun hG => QV.move rfl rfl) ?_
          obtain ⟨c42, hm43⟩ := ck_some hm39; clear hm39
          obtain ⟨p44, hp45⟩ := hF22.lenMap.ixG (sz := 2) ln_len c42
          refine WL.g rfl rfl (GuardIs.pos rfl rfl) (fun hG => QV.indexSlice sl106 rfl hG rfl hG (hp45 hG)) ?_
          refine WL.g rfl rfl (GuardIs.pos rfl rfl) (fun hG => QV.fieldAddr fd57_1 rfl hG) ?_
          refine WL.g rfl rfl (GuardIs.pos rfl rfl) (fun hG => QV.load pl3 rfl hG (fun w hw => CellsAt.one 1 (((Own.karr 0 rfl hk hF22) w hw).ele (hp45 hG) (c42 hG)) rfl)) ?_
          refine WL.g rfl rfl (GuardIs.pos rfl rfl) (fun hG => QV.move rfl rfl) ?_
          refine WL.g rfl rfl (GuardIs.pos rfl rfl) (fun hG => QV.gtr rfl hG rfl hG) ?_
          refine WL.q rfl rfl rfl (QV.pickAnd rfl rfl rfl (fun h => h)) ?_
          refine WL.nil ?_
          refine WQ.then ?_
          refine WC.cond rfl (fun h46 => ?_) (fun h46 => ?_)
          · skip
            have hm47 := br_t h46 hm43; clear hm43
            refine WC.region ?_
            refine WL.q rfl rfl rfl (QV.move rfl rfl) ?_
            refine WL.q rfl rfl rfl (QV.move rfl rfl) ?_
            obtain ⟨c48, hm49⟩ := ck_some hm47; clear hm47
            obtain ⟨p50, hp51⟩ := hF22.lenMap.ix (sz := 2) ln_len c48
            refine WL.q rfl rfl rfl (QV.indexSlice sl106 rfl rfl rfl rfl hp51) ?_
            refine WL.q rfl rfl rfl (QV.fieldAddr fd57_1 rfl rfl) ?_
            refine WL.q rfl rfl rfl (QV.load pl3 rfl rfl (fun w hw => CellsAt.one 1 (((Own.karr 0 rfl hk hF22) w hw).ele hp51 c48) rfl)) ?_
            refine WL.q rfl rfl rfl (QV.assign rfl rfl) ?_
            refine WL.nil ?_
            refine WQ.block ?_
            refine WQ.then ?_
            refine WC.region ?_
            refine WL.q rfl rfl rfl (QV.move rfl rfl) ?_
            obtain ⟨c52, hm53⟩ := ck_some hm49; clear hm49
            refine WL.q rfl rfl rfl (QV.add rfl rfl rfl rfl c52) ?_
            refine WL.q rfl rfl rfl (QV.assign rfl rfl) ?_
            refine WL.nil ?_
            exact WQ.again2 ((ele x19 k8_4).bk) (k8_4 + 1) m32 (up_next hm53 hn35) (Nat.lt_succ_self _) ⟨rfl, rfl, rfl, rfl, rfl, rfl, trivial⟩ (fun w hw => hw.pick [0, 1] (by decide))
          · skip
            have hm54 := br_f h46 hm43; clear hm43
            refine WC.skip ?_
            refine WQ.block ?_
            refine WQ.then ?_
            refine WC.region ?_
            refine WL.q rfl rfl rfl (QV.move rfl rfl) ?_
            obtain ⟨c55, hm56⟩ := ck_some hm54; clear hm54
            refine WL.q rfl rfl rfl (QV.add rfl rfl rfl rfl c55) ?_
            refine WL.q rfl rfl rfl (QV.assign rfl rfl) ?_
            refine WL.nil ?_
            exact WQ.again2 far5_4 (k8_4 + 1) m32 (up_next hm56 hn35) (Nat.lt_succ_self _) ⟨rfl, rfl, rfl, rfl, rfl, rfl, trivial⟩ (fun w hw => hw.pick [0, 1] (by decide))
        · skip
          have hm57 := br_f h36 hm34; clear hm34
          refine WC.exit ?_
          refine WQ.then_exit ?_
          refine WQ.then_exit ?_
          refine WQ.block_exit ?_
          exact WQ.out2 far5_4 k8_4 (up_brk hm57 hn35) ⟨rfl, rfl, rfl, rfl, rfl, rfl, trivial⟩ (fun w hw => hw.pick [0, 1] (by decide))
    · skip
      have hm58 := br_f h13 hm11; clear hm11
      refine WC.exit ?_
      refine WQ.then_exit ?_
      refine WQ.then_exit ?_
      refine WQ.block_exit ?_
      exact WQ.out3 far5_3 i6_3 k_3 ⟨up_brk hm58 hn12, hle_3⟩ ⟨rfl, rfl, rfl, rfl, trivial⟩ (fun w hw => hw.pick [0, 1] (by decide))

set_option maxRecDepth 8000 in
theorem roundelayref10_kept_w {v_of : Value} {of : List Off} {pace : Int} {regs : Int} {r_ : Rf} {u : Int} {r : Bool} (w : World) (hm : roundelayref10_kept_m of pace regs r_ u = some r) (h_of : Arr w v_of 3 (of.map Off.cells)) : Calls Try.prog 83 #[v_of, .int .i64 pace, .int .i64 regs, .agg #[.int .i64 r_.st, .int .i64 r_.bk], .int .i64 u] w (fun e w' => e = .returned (.bool r) ∧ Grow w w') := by
  unfold roundelayref10_kept_m at hm
  have hk := Base.rfl (w := w)
  refine calls_of_WC (n := 88) (args := [v_of, .int .i64 pace, .int .i64 regs, .agg #[.int .i64 r_.st, .int .i64 r_.bk], .int .i64 u]) Try.func83 rfl rfl (Nat.le_of_ble_eq_true rfl) ?_ (Own.startK hk (Own.start w))
  refine WC.seq ?_
  refine WC.region ?_
  refine WL.effect rfl ?_
  refine (EV.boxAgg (by decide) rfl rfl (fun b1 => ?_))
  refine WL.q rfl rfl rfl (QV.assign rfl rfl) ?_
  refine WL.nil ?_
  refine WQ.then ?_
  refine WC.seq ?_
  refine WC.region ?_
  refine WL.q rfl rfl rfl (QV.move rfl rfl) ?_
  refine WL.q rfl rfl rfl (QV.fieldAddr fd57_0 rfl rfl) ?_
  refine WL.q rfl rfl rfl (QV.load pl3 rfl rfl (Own.cell 0 rfl rfl)) ?_
  obtain ⟨c2, hm3⟩ := ck_some hm; clear hm
  obtain ⟨p4, hp5⟩ := h_of.lenMap.ix (sz := 3) ln_len c2
  refine WL.q rfl rfl rfl (QV.indexSlice sl81 rfl rfl rfl rfl hp5) ?_
  refine WL.q rfl rfl rfl (QV.loadAgg ag128 rfl rfl rfl (fun w hw => ((Own.karr 1 rfl hk h_of) w hw).ele hp5 c2)) ?_
  refine WL.effect rfl ?_
  refine (EV.alloc (by decide) ze128 (fun b6 => ?_))
  refine WL.effect rfl ?_
  refine (EV.store 0 rfl rfl rfl rfl rfl rfl (vs := [.int .i64 ((ele of r_.st).time), .int .i64 ((ele of r_.st).ready), .int .i64 ((ele of r_.st).place)]) (show Value.cells _ = List.toArray _ from rfl) sz128 (Nat.le_of_ble_eq_true rfl) (one_cons rfl (one_cons rfl (one_cons rfl one_nil))) ?_)
  refine WL.nil ?_
  refine WQ.then ?_
  refine WC.seq ?_
  refine WC.seq ?_
  refine WC.region ?_
  refine WL.q rfl rfl rfl (QV.assign rfl rfl) ?_
  refine WL.nil ?_
  refine WQ.then ?_
  obtain ⟨o7, ho8, hm9⟩ := bd_some hm3; clear hm3; obtain ⟨n10, ho11⟩ := lp_some ho8
  refine WC.bloop1 (H2 := [blk b6 [.int .i64 ((ele of r_.st).time), .int .i64 ((ele of r_.st).ready), .int .i64 ((ele of r_.st).place)] 128, blk b1 [.int .i64 r_.st, .int .i64 r_.bk] 57, kn noM w.heap.size w w]) (τ := [(0, (true, _)), (1, (true, _)), (2, (true, _)), (4, (true, _)), (8, (true, _)), (11, (true, _))]) (fun (m12_2 : Int) => [(12, (true, .int .i64 m12_2))]) (fun (m12_2 : Int) => []) (fun (m12_2 : Int) (m : Nat) => iter (roundelayref10_kept_L0 of pace regs r_ u) m m12_2 = some o7) (fun (m12_2 : Int) => o7 = .go m12_2) 0 n10 ho11 ⟨rfl, rfl, rfl, rfl, rfl, rfl, rfl, trivial⟩ (fun w hw => hw.pick [0, 1, 2] (by decide)) ?_ ?_
  · skip
    rintro m12_2 rfl
    refine WQ.then ?_
    refine WC.seq ?_
    refine WC.region ?_
    refine WL.q rfl rfl rfl (QV.assign rfl rfl) ?_
    refine WL.nil ?_
    refine WQ.then ?_
    refine WC.ret ?_
    obtain rfl := (eq_of_some hm9).symm
    refine WQ.ret1 rfl rfl (fun w hw => ?_)
    exact ⟨rfl, Own.kgrow (fun _ x => x) hw⟩
  · skip
    rintro m12_2 m12 hI13
    obtain ⟨m14, s15, rfl, hm16, hn17⟩ := iter_step hI13; clear hI13; unfold roundelayref10_kept_L0 at hm16
    refine WC.seq ?_
    refine WC.seq ?_
    refine WC.region ?_
    refine WL.q rfl rfl rfl (QV.move rfl rfl) ?_
    refine WL.q rfl rfl rfl (QV.move rfl rfl) ?_
    refine WL.q rfl rfl rfl (QV.lenS Try.underlying81 rfl rfl h_of.lenMap) ?_
    refine WL.q rfl rfl rfl (QV.lss rfl rfl rfl rfl) ?_
    refine WL.nil ?_
    refine WQ.then ?_
    refine WC.cond rfl (fun h18 => ?_) (fun h18 => ?_)
    · skip
      have hm19 := br_t h18 hm16; clear hm16
      refine WC.skip ?_
      refine WQ.then ?_
      refine WC.seq ?_
      refine WC.block ?_
      refine WC.seq ?_
      refine WC.region ?_
      refine WL.q rfl rfl rfl (QV.assign rfl rfl) ?_
      refine WL.nil ?_
      refine WQ.then ?_
      obtain ⟨o20, ho21, hm22⟩ := bd_some hm19; clear hm19; obtain ⟨n23, ho24⟩ := lp_some ho21
      refine WC.bloop1 (H2 := [blk b6 [.int .i64 ((ele of r_.st).time), .int .i64 ((ele of r_.st).ready), .int .i64 ((ele of r_.st).place)] 128, blk b1 [.int .i64 r_.st, .int .i64 r_.bk] 57, kn noM w.heap.size w w]) (τ := [(0, (true, _)), (1, (true, _)), (2, (true, _)), (4, (true, _)), (8, (true, _)), (11, (true, _)), (12, (true, _))]) (fun (j13_3 : Int) => [(13, (true, .int .i64 j13_3))]) (fun (j13_3 : Int) => []) (fun (j13_3 : Int) (m : Nat) => iter (roundelayref10_kept_L2 of pace regs r_ u m12_2) m j13_3 = some o20) (fun (j13_3 : Int) => o20 = .go j13_3) (-4100) n23 ho24 ⟨rfl, rfl, rfl, rfl, rfl, rfl, rfl, rfl, trivial⟩ (fun w hw => hw.pick [0, 1, 2] (by decide)) ?_ ?_
      · skip
        rintro j13_3 rfl
        refine WQ.block ?_
        refine WQ.then ?_
        refine WC.region ?_
        refine WL.q rfl rfl rfl (QV.move rfl rfl) ?_
        obtain ⟨c25, hm26⟩ := ck_some hm22; clear hm22
        refine WL.q rfl rfl rfl (QV.add rfl rfl rfl rfl c25) ?_
        refine WL.q rfl rfl rfl (QV.assign rfl rfl) ?_
        refine WL.nil ?_
        exact WQ.again1 (m12_2 + 1) m14 (up_next hm26 hn17) (Nat.lt_succ_self _) ⟨rfl, rfl, rfl, rfl, rfl, rfl, rfl, trivial⟩ (fun w hw => hw.pick [0, 1, 2] (by decide))
      · skip
        rintro j13_3 m27 hI28
        obtain ⟨m29, s30, rfl, hm31, hn32⟩ := iter_step hI28; clear hI28; unfold roundelayref10_kept_L2 at hm31
        refine WC.seq ?_
        refine WC.seq ?_
        refine WC.region ?_
        refine WL.q rfl rfl rfl (QV.move rfl rfl) ?_
        refine WL.q rfl rfl rfl (QV.leq rfl rfl rfl rfl) ?_
        refine WL.nil ?_
        refine WQ.then ?_
        refine WC.cond rfl (fun h33 => ?_) (fun h33 => ?_)
        · skip
          have hm34 := br_t h33 hm31; clear hm31
          refine WC.skip ?_
          refine WQ.then ?_
          refine WC.seq ?_
          refine WC.block ?_
          refine WC.seq ?_
          refine WC.region ?_
          refine WL.q rfl rfl rfl (QV.move rfl rfl) ?_
          refine WL.q rfl rfl rfl (QV.move rfl rfl) ?_
          obtain ⟨c35, hm36⟩ := ck_some hm34; clear hm34
          obtain ⟨p37, hp38⟩ := h_of.lenMap.ix (sz := 3) ln_len c35
          refine WL.q rfl rfl rfl (QV.indexSlice sl81 rfl rfl rfl rfl hp38) ?_
          refine WL.q rfl rfl rfl (QV.fieldAddr fd128_1 rfl rfl) ?_
          refine WL.q rfl rfl rfl (QV.load pl3 rfl rfl (fun w hw => CellsAt.one 1 (((Own.karr 2 rfl hk h_of) w hw).ele hp38 c35) rfl)) ?_
          refine WL.q rfl rfl rfl (QV.move rfl rfl) ?_
          refine WL.q rfl rfl rfl (QV.move rfl rfl) ?_
          obtain ⟨c39, hm40⟩ := ck_some hm36; clear hm36
          refine WL.q rfl rfl rfl (QV.mul rfl rfl rfl rfl c39) ?_
          obtain ⟨c41, hm42⟩ := ck_some hm40; clear hm40
          refine WL.q rfl rfl rfl (QV.add rfl rfl rfl rfl c41) ?_
          refine WL.q rfl rfl rfl (QV.assign rfl rfl) ?_
          refine WL.nil ?_
          refine WQ.then ?_
          refine WC.seq ?_
          refine WC.region ?_
          refine WL.q rfl rfl rfl (QV.move rfl rfl) ?_
          refine WL.q rfl rfl rfl (QV.fieldAddr fd128_1 rfl rfl) ?_
          refine WL.q rfl rfl rfl (QV.load pl3 rfl rfl (Own.cell 0 rfl rfl)) ?_
          refine WL.q rfl rfl rfl (QV.geq rfl rfl rfl rfl) ?_
          refine WL.q rfl rfl rfl (QV.move rfl rfl) ?_
          refine WL.g rfl rfl (GuardIs.pos rfl rfl) (fun hG => QV.move rfl rfl) ?_
          refine WL.g rfl rfl (GuardIs.pos rfl rfl) (fun hG => QV.move rfl rfl) ?_
          refine WL.g rfl rfl (GuardIs.pos rfl rfl) (fun hG => QV.leq rfl hG rfl hG) ?_
          refine WL.q rfl rfl rfl (QV.pickAnd rfl rfl rfl (fun h => h)) ?_
          refine WL.q rfl rfl rfl (QV.move rfl rfl) ?_
          refine WL.g rfl rfl (GuardIs.neg rfl rfl) (fun hG => QV.fieldAddr fd57_1 rfl rfl) ?_
          refine WL.g rfl rfl (GuardIs.neg rfl rfl) (fun hG => QV.load pl3 rfl hG (Own.cell 1 rfl rfl)) ?_
          refine WL.g rfl rfl (GuardIs.neg rfl rfl) (fun hG => QV.gtr rfl hG rfl rfl) ?_
          refine WL.g rfl rfl (GuardIs.neg rfl rfl) (fun hG => QV.move rfl hG) ?_
          refine WL.g rfl rfl (GuardIs.posC rfl rfl) (fun hG => QV.move rfl rfl) ?_
          refine WL.g rfl rfl (GuardIs.posC rfl rfl) (fun hG => QV.gtr rfl hG rfl rfl) ?_
          refine WL.g rfl rfl (GuardIs.neg rfl rfl) (fun hG => QV.pickAnd rfl hG rfl (fun h => andT hG h)) ?_
          refine WL.g rfl rfl (GuardIs.neg rfl rfl) (fun hG => QV.move rfl hG) ?_
          refine WL.g rfl rfl (GuardIs.posC rfl rfl) (fun hG => QV.move rfl rfl) ?_
          refine WL.g rfl rfl (GuardIs.posC rfl rfl) (fun hG => QV.move rfl rfl) ?_
          refine WL.g rfl rfl (GuardIs.posC rfl rfl) (fun hG => QV.leq rfl hG rfl hG) ?_
          refine WL.g rfl rfl (GuardIs.neg rfl rfl) (fun hG => QV.pickAnd rfl hG rfl (fun h => andT hG h)) ?_
          refine WL.q rfl rfl rfl (QV.pickOr rfl rfl rfl (fun h => notF h)) ?_
          refine WL.q rfl rfl rfl (QV.assign rfl rfl) ?_
          refine WL.nil ?_
          refine WQ.then ?_
          refine WC.seq ?_
          refine WC.seq ?_
          refine WC.region ?_
          refine WL.q rfl rfl rfl (QV.move rfl rfl) ?_
          refine WL.q rfl rfl rfl (QV.not rfl rfl) ?_
          refine WL.q rfl rfl rfl (QV.move rfl rfl) ?_
          refine WL.g rfl rfl (GuardIs.neg rfl rfl) (fun hG => QV.move rfl rfl) ?_
          refine WL.g rfl rfl (GuardIs.neg rfl rfl) (fun hG => QV.fieldAddr fd57_0 rfl rfl) ?_
          refine WL.g rfl rfl (GuardIs.neg rfl rfl) (fun hG => QV.load pl3 rfl hG (Own.cell 1 rfl rfl)) ?_
          refine WL.g rfl rfl (GuardIs.neg rfl rfl) (fun hG => QV.eql rfl hG rfl hG) ?_
          refine WL.g rfl rfl (GuardIs.neg rfl rfl) (fun hG => QV.move rfl hG) ?_
          refine WL.g rfl rfl (GuardIs.posC rfl rfl) (fun hG => QV.move rfl rfl) ?_
          refine WL.g rfl rfl (GuardIs.posC rfl rfl) (fun hG => QV.eql rfl hG rfl rfl) ?_
          refine WL.g rfl rfl (GuardIs.neg rfl rfl) (fun hG => QV.pickAnd rfl hG rfl (fun h => andT hG h)) ?_
          refine WL.q rfl rfl rfl (QV.pickOr rfl rfl rfl (fun h => notF h)) ?_
          refine WL.nil ?_
          refine WQ.then ?_
          refine WC.cond rfl (fun h43 => ?_) (fun h43 => ?_)
          · skip
            have hm44 := br_t h43 hm42; clear hm42
            refine WC.exit ?_
            refine WQ.then_exit ?_
            refine WQ.block_exit ?_
            refine WQ.then ?_
            refine WC.region ?_
            refine WL.q rfl rfl rfl (QV.move rfl rfl) ?_
            obtain ⟨c45, hm46⟩ := ck_some hm44; clear hm44
            refine WL.q rfl rfl rfl (QV.add rfl rfl rfl rfl c45) ?_
            refine WL.q rfl rfl rfl (QV.assign rfl rfl) ?_
            refine WL.nil ?_
            exact WQ.again1 (j13_3 + 1) m29 (up_next hm46 hn32) (Nat.lt_succ_self _) ⟨rfl, rfl, rfl, rfl, rfl, rfl, rfl, rfl, trivial⟩ (fun w hw => hw.pick [0, 1, 2] (by decide))
          · skip
            have hm47 := br_f h43 hm42; clear hm42
            refine WC.skip ?_
            refine WQ.then ?_
            refine WC.seq ?_
            refine WC.dr (m := 13) (S := Own noM w [kn noM w.heap.size w w, blk b6 [.int .i64 ((ele of r_.st).time), .int .i64 ((ele of r_.st).ready), .int .i64 ((ele of r_.st).place)] 128, blk b1 [.int .i64 r_.st, .int .i64 r_.bk] 57]) (by kernel_rfl) (by kernel_rfl) (fun w hw => hw.pick [2, 0, 1] (by decide)) ?_
            refine WD.q 0 rfl (by kernel_rfl) rfl rfl rfl (QV.move rfl rfl) ?_
            refine WD.q 1 rfl (by kernel_rfl) rfl rfl rfl (QV.move rfl rfl) ?_
            obtain ⟨c48, hm49⟩ := ck_some hm47; clear hm47
            obtain ⟨p50, hp51⟩ := h_of.lenMap.ix (sz := 3) ln_len c48
            refine WD.q 2 rfl (by kernel_rfl) rfl rfl rfl (QV.indexSlice sl81 rfl rfl rfl rfl hp51) ?_
            refine WD.q 3 rfl (by kernel_rfl) rfl rfl rfl (QV.fieldAddr fd128_2 rfl rfl) ?_
            refine WD.q 4 rfl (by kernel_rfl) rfl rfl rfl (QV.load pl3 rfl rfl (fun w hw => CellsAt.one 2 (((Own.karr 0 rfl hk h_of) w hw).ele hp51 c48) rfl)) ?_
            refine WD.q 5 rfl (by kernel_rfl) rfl rfl rfl (QV.move rfl rfl) ?_
            obtain ⟨c52, hm53⟩ := ck_some hm49; clear hm49
            refine WD.q 6 rfl (by kernel_rfl) rfl rfl rfl (QV.add rfl rfl rfl rfl c52) ?_
            refine WD.q 7 rfl (by kernel_rfl) rfl rfl rfl (QV.fieldAddr fd128_2 rfl rfl) ?_
            refine WD.q 8 rfl (by kernel_rfl) rfl rfl rfl (QV.load pl3 rfl rfl (Own.cell 1 rfl rfl)) ?_
            obtain ⟨c54, hm55⟩ := ck_some hm53; clear hm53
            refine WD.q 9 rfl (by kernel_rfl) rfl rfl rfl (QV.sub rfl rfl rfl rfl c54) ?_
            refine WD.q 10 rfl (by kernel_rfl) rfl rfl rfl (QV.move rfl rfl) ?_
            obtain ⟨x56, hx57, hm58⟩ := bd_some hm55; clear hm55
            refine WD.q 11 rfl (by kernel_rfl) rfl rfl rfl (QV.call en75 (EvAll.cons rfl rfl (EvAll.cons rfl rfl EvAll.nil)) (fun w hw => have h := roundelayref1_Rest_w w hx57 ; h)) ?_
            refine WD.q 12 rfl (by kernel_rfl) rfl rfl rfl (QV.eql rfl rfl rfl rfl) ?_
            refine WD.e (by kernel_rfl) ?_
            refine WQ.then ?_
            refine WC.cond rfl (fun h59 => ?_) (fun h59 => ?_)
            · skip
              have hm60 := br_t h59 hm58; clear hm58
              refine WC.seq ?_
              refine WC.region ?_
              refine WL.q rfl rfl rfl (QV.assign rfl rfl) ?_
              refine WL.nil ?_
              refine WQ.then ?_
              refine WC.ret ?_
              refine WQ.block_ret ?_
              refine WQ.then_ret ?_
              refine WQ.then_ret ?_
              refine WQ.block_ret ?_
              refine WQ.then_ret ?_
              refine WQ.block_ret ?_
              refine WQ.then_ret ?_
              refine WQ.then_ret ?_
              refine WQ.block_ret ?_
              refine WQ.then_ret ?_
              refine WQ.then_ret ?_
              obtain rfl := up_ret hm60 hn32
              obtain rfl := up_ret hm22 hn17
              obtain rfl := (eq_of_some hm9).symm
              refine WQ.ret1 rfl rfl (fun w hw => ?_)
              exact ⟨rfl, Own.kgrow (fun _ x => x) hw⟩
            · skip
              have hm61 := br_f h59 hm58; clear hm58
              refine WC.skip ?_
              refine WQ.block ?_
              refine WQ.then ?_
              refine WC.region ?_
              refine WL.q rfl rfl rfl (QV.move rfl rfl) ?_
              obtain ⟨c62, hm63⟩ := ck_some hm61; clear hm61
              refine WL.q rfl rfl rfl (QV.add rfl rfl rfl rfl c62) ?_
              refine WL.q rfl rfl rfl (QV.assign rfl rfl) ?_
              refine WL.nil ?_
              exact WQ.again1 (j13_3 + 1) m29 (up_next hm63 hn32) (Nat.lt_succ_self _) ⟨rfl, rfl, rfl, rfl, rfl, rfl, rfl, rfl, trivial⟩ (fun w hw => hw.pick [0, 1, 2] (by decide))
        · skip
          have hm64 := br_f h33 hm31; clear hm31
          refine WC.exit ?_
          refine WQ.then_exit ?_
          refine WQ.then_exit ?_
          refine WQ.block_exit ?_
          exact WQ.out1 j13_3 (up_brk hm64 hn32) ⟨rfl, rfl, rfl, rfl, rfl, rfl, rfl, rfl, trivial⟩ (fun w hw => hw.pick [0, 1, 2] (by decide))
    · skip
      have hm65 := br_f h18 hm16; clear hm16
      refine WC.exit ?_
      refine WQ.then_exit ?_
      refine WQ.then_exit ?_
      refine WQ.block_exit ?_
      exact WQ.out1 m12_2 (up_brk hm65 hn17) ⟨rfl, rfl, rfl, rfl, rfl, rfl, rfl, trivial⟩ (fun w hw => hw.pick [0, 1, 2] (by decide))

set_option maxRecDepth 8000 in
theorem roundelayref10_told_w {v_of : Value} {of : List Off} {pace : Int} {regs : Int} {out_ : Int} {r : Bool} (w : World) (hm : roundelayref10_told_m of pace regs out_ = some r) (h_of : Arr w v_of 3 (of.map Off.cells)) : Calls Try.prog 85 #[v_of, .int .i64 pace, .int .i64 regs, .int .i64 out_] w (fun e w' => e = .returned (.bool r) ∧ Grow w w') := by
  unfold roundelayref10_told_m at hm
  have hk := Base.rfl (w := w)
  refine calls_of_WC (n := 58) (args := [v_of, .int .i64 pace, .int .i64 regs, .int .i64 out_]) Try.func85 rfl rfl (Nat.le_of_ble_eq_true rfl) ?_ (Own.startK hk (Own.start w))
  refine WC.seq ?_
  refine WC.region ?_
  refine WL.q rfl rfl rfl (QV.assign rfl rfl) ?_
  refine WL.nil ?_
  refine WQ.then ?_
  refine WC.seq ?_
  refine WC.region ?_
  refine WL.q rfl rfl rfl (QV.move rfl rfl) ?_
  refine WL.q rfl rfl rfl (QV.move rfl rfl) ?_
  obtain ⟨c1, hm2⟩ := ck_some hm; clear hm
  obtain ⟨p3, hp4⟩ := h_of.lenMap.ix (sz := 3) ln_len c1
  refine WL.q rfl rfl rfl (QV.indexSlice sl81 rfl rfl rfl rfl hp4) ?_
  refine WL.q rfl rfl rfl (QV.loadAgg ag128 rfl rfl rfl (fun w hw => ((Own.karr 0 rfl hk h_of) w hw).ele hp4 c1)) ?_
  refine WL.effect rfl ?_
  refine (EV.alloc (by decide) ze128 (fun b5 => ?_))
  refine WL.effect rfl ?_
  refine (EV.store 0 rfl rfl rfl rfl rfl rfl (vs := [.int .i64 ((ele of out_).time), .int .i64 ((ele of out_).ready), .int .i64 ((ele of out_).place)]) (show Value.cells _ = List.toArray _ from rfl) sz128 (Nat.le_of_ble_eq_true rfl) (one_cons rfl (one_cons rfl (one_cons rfl one_nil))) ?_)
  refine WL.nil ?_
  refine WQ.then ?_
  refine WC.seq ?_
  refine WC.seq ?_
  refine WC.region ?_
  refine WL.q rfl rfl rfl (QV.assign rfl rfl) ?_
  refine WL.nil ?_
  refine WQ.then ?_
  obtain ⟨o6, ho7, hm8⟩ := bd_some hm2; clear hm2; obtain ⟨n9, ho10⟩ := lp_some ho7
  refine WC.bloop1 (H2 := [blk b5 [.int .i64 ((ele of out_).time), .int .i64 ((ele of out_).ready), .int .i64 ((ele of out_).place)] 128, kn noM w.heap.size w w]) (τ := [(0, (true, _)), (1, (true, _)), (2, (true, _)), (3, (true, _)), (9, (true, _))]) (fun (m10_2 : Int) => [(10, (true, .int .i64 m10_2))]) (fun (m10_2 : Int) => []) (fun (m10_2 : Int) (m : Nat) => iter (roundelayref10_told_L0 of pace regs out_) m m10_2 = some o6) (fun (m10_2 : Int) => o6 = .go m10_2) 0 n9 ho10 ⟨rfl, rfl, rfl, rfl, rfl, rfl, trivial⟩ (fun w hw => hw.pick [0, 1] (by decide)) ?_ ?_
  · skip
    rintro m10_2 rfl
    refine WQ.then ?_
    refine WC.seq ?_
    refine WC.region ?_
    refine WL.q rfl rfl rfl (QV.assign rfl rfl) ?_
    refine WL.nil ?_
    refine WQ.then ?_
    refine WC.ret ?_
    obtain rfl := (eq_of_some hm8).symm
    refine WQ.ret1 rfl rfl (fun w hw => ?_)
    exact ⟨rfl, Own.kgrow (fun _ x => x) hw⟩
  · skip
    rintro m10_2 m11 hI12
    obtain ⟨m13, s14, rfl, hm15, hn16⟩ := iter_step hI12; clear hI12; unfold roundelayref10_told_L0 at hm15
    refine WC.seq ?_
    refine WC.seq ?_
    refine WC.region ?_
    refine WL.q rfl rfl rfl (QV.move rfl rfl) ?_
    refine WL.q rfl rfl rfl (QV.move rfl rfl) ?_
    refine WL.q rfl rfl rfl (QV.lenS Try.underlying81 rfl rfl h_of.lenMap) ?_
    refine WL.q rfl rfl rfl (QV.lss rfl rfl rfl rfl) ?_
    refine WL.nil ?_
    refine WQ.then ?_
    refine WC.cond rfl (fun h17 => ?_) (fun h17 => ?_)
    · skip
      have hm18 := br_t h17 hm15; clear hm15
      refine WC.skip ?_
      refine WQ.then ?_
      refine WC.seq ?_
      refine WC.block ?_
      refine WC.seq ?_
      refine WC.region ?_
      refine WL.q rfl rfl rfl (QV.assign rfl rfl) ?_
      refine WL.nil ?_
      refine WQ.then ?_
      obtain ⟨o19, ho20, hm21⟩ := bd_some hm18; clear hm18; obtain ⟨n22, ho23⟩ := lp_some ho20
      refine WC.bloop1 (H2 := [blk b5 [.int .i64 ((ele of out_).time), .int .i64 ((ele of out_).ready), .int .i64 ((ele of out_).place)] 128, kn noM w.heap.size w w]) (τ := [(0, (true, _)), (1, (true, _)), (2, (true, _)), (3, (true, _)), (9, (true, _)), (10, (true, _))]) (fun (j11_3 : Int) => [(11, (true, .int .i64 j11_3))]) (fun (j11_3 : Int) => []) (fun (j11_3 : Int) (m : Nat) => iter (roundelayref10_told_L2 of pace regs out_ m10_2) m j11_3 = some o19) (fun (j11_3 : Int) => o19 = .go j11_3) 0 n22 ho23 ⟨rfl, rfl, rfl, rfl, rfl, rfl, rfl, trivial⟩ (fun w hw => hw.pick [0, 1] (by decide)) ?_ ?_
      · skip
        rintro j11_3 rfl
        refine WQ.block ?_
        refine WQ.then ?_
        refine WC.region ?_
        refine WL.q rfl rfl rfl (QV.move rfl rfl) ?_
        obtain ⟨c24, hm25⟩ := ck_some hm21; clear hm21
        refine WL.q rfl rfl rfl (QV.add rfl rfl rfl rfl c24) ?_
        refine WL.q rfl rfl rfl (QV.assign rfl rfl) ?_
        refine WL.nil ?_
        exact WQ.again1 (m10_2 + 1) m13 (up_next hm25 hn16) (Nat.lt_succ_self _) ⟨rfl, rfl, rfl, rfl, rfl, rfl, trivial⟩ (fun w hw => hw.pick [0, 1] (by decide))
      · skip
        rintro j11_3 m26 hI27
        obtain ⟨m28, s29, rfl, hm30, hn31⟩ := iter_step hI27; clear hI27; unfold roundelayref10_told_L2 at hm30
        refine WC.seq ?_
        refine WC.seq ?_
        refine WC.dr (m := 12) (S := Own noM w [kn noM w.heap.size w w, blk b5 [.int .i64 ((ele of out_).time), .int .i64 ((ele of out_).ready), .int .i64 ((ele of out_).place)] 128]) (by kernel_rfl) (by kernel_rfl) (fun w hw => hw.pick [1, 0] (by decide)) ?_
        refine WD.q 0 rfl (by kernel_rfl) rfl rfl rfl (QV.move rfl rfl) ?_
        refine WD.q 1 rfl (by kernel_rfl) rfl rfl rfl (QV.move rfl rfl) ?_
        obtain ⟨c32, hm33⟩ := ck_some hm30; clear hm30
        obtain ⟨p34, hp35⟩ := h_of.lenMap.ix (sz := 3) ln_len c32
        refine WD.q 2 rfl (by kernel_rfl) rfl rfl rfl (QV.indexSlice sl81 rfl rfl rfl rfl hp35) ?_
        refine WD.q 3 rfl (by kernel_rfl) rfl rfl rfl (QV.fieldAddr fd128_1 rfl rfl) ?_
        refine WD.q 4 rfl (by kernel_rfl) rfl rfl rfl (QV.load pl3 rfl rfl (fun w hw => CellsAt.one 1 (((Own.karr 0 rfl hk h_of) w hw).ele hp35 c32) rfl)) ?_
        refine WD.q 5 rfl (by kernel_rfl) rfl rfl rfl (QV.move rfl rfl) ?_
        refine WD.q 6 rfl (by kernel_rfl) rfl rfl rfl (QV.move rfl rfl) ?_
        obtain ⟨c36, hm37⟩ := ck_some hm33; clear hm33
        refine WD.q 7 rfl (by kernel_rfl) rfl rfl rfl (QV.mul rfl rfl rfl rfl c36) ?_
        obtain ⟨c38, hm39⟩ := ck_some hm37; clear hm37
        refine WD.q 8 rfl (by kernel_rfl) rfl rfl rfl (QV.add rfl rfl rfl rfl c38) ?_
        refine WD.q 9 rfl (by kernel_rfl) rfl rfl rfl (QV.fieldAddr fd128_1 rfl rfl) ?_
        refine WD.q 10 rfl (by kernel_rfl) rfl rfl rfl (QV.load pl3 rfl rfl (Own.cell 1 rfl rfl)) ?_
        refine WD.q 11 rfl (by kernel_rfl) rfl rfl rfl (QV.geq rfl rfl rfl rfl) ?_
        refine WD.e (by kernel_rfl) ?_
        refine WQ.then ?_
        refine WC.cond rfl (fun h40 => ?_) (fun h40 => ?_)
        · skip
          have hm41 := br_t h40 hm39; clear hm39
          refine WC.skip ?_
          refine WQ.then ?_
          refine WC.seq ?_
          refine WC.block ?_
          refine WC.seq ?_
          refine WC.dr (m := 22) (S := Own noM w [kn noM w.heap.size w w, blk b5 [.int .i64 ((ele of out_).time), .int .i64 ((ele of out_).ready), .int .i64 ((ele of out_).place)] 128]) (by kernel_rfl) (by kernel_rfl) (fun w hw => hw.pick [1, 0] (by decide)) ?_
          refine WD.q 0 rfl (by kernel_rfl) rfl rfl rfl (QV.move rfl rfl) ?_
          refine WD.q 1 rfl (by kernel_rfl) rfl rfl rfl (QV.move rfl rfl) ?_
          refine WD.q 2 rfl (by kernel_rfl) rfl rfl rfl (QV.neq rfl rfl rfl rfl) ?_
          refine WD.q 3 rfl (by kernel_rfl) rfl rfl rfl (QV.move rfl rfl) ?_
          refine WD.g 4 rfl (by kernel_rfl) rfl rfl (GuardIs.neg rfl rfl) (fun hG => QV.move rfl rfl) ?_
          refine WD.g 5 rfl (by kernel_rfl) rfl rfl (GuardIs.neg rfl rfl) (fun hG => QV.neq rfl hG rfl rfl) ?_
          refine WD.q 6 rfl (by kernel_rfl) rfl rfl rfl (QV.pickOr rfl rfl rfl (fun h => notF h)) ?_
          refine WD.q 7 rfl (by kernel_rfl) rfl rfl rfl (QV.move rfl rfl) ?_
          refine WD.g 8 rfl (by kernel_rfl) rfl rfl (GuardIs.pos rfl rfl) (fun hG => QV.move rfl rfl) ?_
          refine WD.g 9 rfl (by kernel_rfl) rfl rfl (GuardIs.pos rfl rfl) (fun hG => QV.move rfl rfl) ?_
          obtain ⟨c42, hm43⟩ := ck_some hm41; clear hm41
          obtain ⟨p44, hp45⟩ := h_of.lenMap.ixG (sz := 3) ln_len c42
          refine WD.g 10 rfl (by kernel_rfl) rfl rfl (GuardIs.pos rfl rfl) (fun hG => QV.indexSlice sl81 rfl hG rfl hG (hp45 hG)) ?_
          refine WD.g 11 rfl (by kernel_rfl) rfl rfl (GuardIs.pos rfl rfl) (fun hG => QV.fieldAddr fd128_2 rfl hG) ?_
          refine WD.g 12 rfl (by kernel_rfl) rfl rfl (GuardIs.pos rfl rfl) (fun hG => QV.load pl3 rfl hG (fun w hw => CellsAt.one 2 (((Own.karr 0 rfl hk h_of) w hw).ele (hp45 hG) (c42 hG)) rfl)) ?_
          refine WD.g 13 rfl (by kernel_rfl) rfl rfl (GuardIs.pos rfl rfl) (fun hG => QV.move rfl rfl) ?_
          obtain ⟨c46, hm47⟩ := ck_some hm43; clear hm43
          refine WD.g 14 rfl (by kernel_rfl) rfl rfl (GuardIs.pos rfl rfl) (fun hG => QV.add rfl hG rfl hG (c46 hG)) ?_
          refine WD.g 15 rfl (by kernel_rfl) rfl rfl (GuardIs.pos rfl rfl) (fun hG => QV.fieldAddr fd128_2 rfl rfl) ?_
          refine WD.g 16 rfl (by kernel_rfl) rfl rfl (GuardIs.pos rfl rfl) (fun hG => QV.load pl3 rfl hG (Own.cell 1 rfl rfl)) ?_
          obtain ⟨c48, hm49⟩ := ck_some hm47; clear hm47
          refine WD.g 17 rfl (by kernel_rfl) rfl rfl (GuardIs.pos rfl rfl) (fun hG => QV.sub rfl hG rfl hG (c48 hG)) ?_
          refine WD.g 18 rfl (by kernel_rfl) rfl rfl (GuardIs.pos rfl rfl) (fun hG => QV.move rfl rfl) ?_
          obtain ⟨x50, hx51, hm52⟩ := bdG_some hm49; clear hm49
          refine WD.g 19 rfl (by kernel_rfl) rfl rfl (GuardIs.pos rfl rfl) (fun hG => QV.call en75 (EvAll.cons rfl hG (EvAll.cons rfl hG EvAll.nil)) (fun w hw => have h := roundelayref1_Rest_w w (hx51 hG) ; h)) ?_
          refine WD.g 20 rfl (by kernel_rfl) rfl rfl (GuardIs.pos rfl rfl) (fun hG => QV.eql rfl hG rfl rfl) ?_
          refine WD.q 21 rfl (by kernel_rfl) rfl rfl rfl (QV.pickAnd rfl rfl rfl (fun h => h)) ?_
          refine WD.e (by kernel_rfl) ?_
          refine WQ.then ?_
          refine WC.cond rfl (fun h53 => ?_) (fun h53 => ?_)
          · skip
            have hm54 := br_t h53 hm52; clear hm52
            refine WC.seq ?_
            refine WC.region ?_
            refine WL.q rfl rfl rfl (QV.assign rfl rfl) ?_
            refine WL.nil ?_
            refine WQ.then ?_
            refine WC.ret ?_
            refine WQ.block_ret ?_
            refine WQ.then_ret ?_
            refine WQ.then_ret ?_
            refine WQ.block_ret ?_
            refine WQ.then_ret ?_
            refine WQ.block_ret ?_
            refine WQ.then_ret ?_
            refine WQ.then_ret ?_
            refine WQ.block_ret ?_
            refine WQ.then_ret ?_
            refine WQ.then_ret ?_
            obtain rfl := up_ret hm54 hn31
            obtain rfl := up_ret hm21 hn16
            obtain rfl := (eq_of_some hm8).symm
            refine WQ.ret1 rfl rfl (fun w hw => ?_)
            exact ⟨rfl, Own.kgrow (fun _ x => x) hw⟩
          · skip
            have hm55 := br_f h53 hm52; clear hm52
            refine WC.skip ?_
            refine WQ.block ?_
            refine WQ.then ?_
            refine WC.region ?_
            refine WL.q rfl rfl rfl (QV.move rfl rfl) ?_
            obtain ⟨c56, hm57⟩ := ck_some hm55; clear hm55
            refine WL.q rfl rfl rfl (QV.sub rfl rfl rfl rfl c56) ?_
            refine WL.q rfl rfl rfl (QV.assign rfl rfl) ?_
            refine WL.nil ?_
            exact WQ.again1 (j11_3 - 1) m28 (up_next hm57 hn31) (Nat.lt_succ_self _) ⟨rfl, rfl, rfl, rfl, rfl, rfl, rfl, trivial⟩ (fun w hw => hw.pick [0, 1] (by decide))
        · skip
          have hm58 := br_f h40 hm39; clear hm39
          refine WC.exit ?_
          refine WQ.then_exit ?_
          refine WQ.then_exit ?_
          refine WQ.block_exit ?_
          exact WQ.out1 j11_3 (up_brk hm58 hn31) ⟨rfl, rfl, rfl, rfl, rfl, rfl, rfl, trivial⟩ (fun w hw => hw.pick [0, 1] (by decide))
    · skip
      have hm59 := br_f h17 hm15; clear hm15
      refine WC.exit ?_
      refine WQ.then_exit ?_
      refine WQ.then_exit ?_
      refine WQ.block_exit ?_
      exact WQ.out1 m10_2 (up_brk hm59 hn16) ⟨rfl, rfl, rfl, rfl, rfl, rfl, trivial⟩ (fun w hw => hw.pick [0, 1] (by decide))

set_option maxRecDepth 8000 in
theorem roundelayref10_Takes_w {v_l_logs : Value} {v_l_body : Value} {v_l_outs : Value} {v_k__ops : Value} {v_order : Value} {l : Lp} {t : Tgt} {k_ : Krn} {order : List Int} {r : Bool} (w : World) (hm : roundelayref10_Takes_m l t k_ order = some r) (h_l_logs : Arr w v_l_logs 1 (l.logs.map icell)) (h_l_body : Arr w v_l_body 9 (l.body.map Stm.cells)) (h_l_outs : Arr w v_l_outs 1 (l.outs.map icell)) (h_k__ops : Arr w v_k__ops 10 (k_.ops.map Opr.cells)) (h_order : Arr w v_order 1 (order.map icell)) : Calls Try.prog 39 #[.agg #[v_l_logs, v_l_body, v_l_outs], .agg #[.int .i64 t.u0, .int .i64 t.u1, .int .i64 t.u2, .int .i64 t.w0, .int .i64 t.w1, .int .i64 t.w2, .int .i64 t.regs], .agg #[.int .i64 k_.pace, .int .i64 k_.stages, v_k__ops], v_order] w (fun e w' => e = .returned (.bool r) ∧ Grow w w') := by
  unfold roundelayref10_Takes_m at hm
  have hk := Base.rfl (w := w)
  refine calls_of_WC (n := 203) (args := [.agg #[v_l_logs, v_l_body, v_l_outs], .agg #[.int .i64 t.u0, .int .i64 t.u1, .int .i64 t.u2, .int .i64 t.w0, .int .i64 t.w1, .int .i64 t.w2, .int .i64 t.regs], .agg #[.int .i64 k_.pace, .int .i64 k_.stages, v_k__ops], v_order]) Try.func39 rfl rfl (Nat.le_of_ble_eq_true rfl) ?_ (Own.startK hk (Own.start w))
  refine WC.seq ?_
  refine WC.region ?_
  refine WL.effect rfl ?_
  refine (EV.boxAgg (by decide) rfl rfl (fun b1 => ?_))
  refine WL.effect rfl ?_
  refine (EV.boxAgg (by decide) rfl rfl (fun b2 => ?_))
  refine WL.effect rfl ?_
  refine (EV.boxAgg (by decide) rfl rfl (fun b3 => ?_))
  refine WL.q rfl rfl rfl (QV.assign rfl rfl) ?_
  refine WL.nil ?_
  refine WQ.then ?_
  refine WC.seq ?_
  refine WC.region ?_
  refine WL.q rfl rfl rfl (QV.loadAgg ag49 rfl rfl rfl (Own.cellsBlk 2 rfl)) ?_
  refine WL.q rfl rfl rfl (QV.loadAgg ag24 rfl rfl rfl (Own.cellsBlk 1 rfl)) ?_
  refine WL.q rfl rfl rfl (QV.loadAgg ag27 rfl rfl rfl (Own.cellsBlk 0 rfl)) ?_
  refine WL.q rfl rfl rfl (QV.move rfl rfl) ?_
  refine WL.effect rfl ?_
  obtain ⟨x4, hx5, hm6⟩ := bd_some hm; clear hm
  refine EV.of (C' := Own noM w [kn noM w.heap.size w w, blk b3 [.int .i64 k_.pace, .int .i64 k_.stages, v_k__ops] 27, blk b2 [.int .i64 t.u0, .int .i64 t.u1, .int .i64 t.u2, .int .i64 t.w0, .int .i64 t.w1, .int .i64 t.w2, .int .i64 t.regs] 24, blk b1 [v_l_logs, v_l_body, v_l_outs] 49]) (fun w hw => hw.pick [3, 0, 1, 2] (by decide)) ?_
  refine (EV.callR (X := Value × World) (R := []) (fun X => .tuple #[X.1, .bool x4.2]) (fun X => []) (fun X => X.2) (fun X => Arr X.2 X.1 3 (x4.1.map Off.cells)) hk (fun _ h => by cases h; decide) en42 (EvAll.cons rfl rfl (EvAll.cons rfl rfl (EvAll.cons rfl rfl (EvAll.cons rfl rfl EvAll.nil)))) (fun M w h1 h2 => have h := roundelayref10_Layout_w hx5 h_l_logs h_l_body h_l_outs h_k__ops h_order M w h1 h2; h) (fun X7 hF7 hle7 => ?_))
  refine WL.q rfl rfl rfl (QV.move rfl rfl) ?_
  refine WL.q rfl rfl rfl (QV.extract rfl rfl rfl) ?_
  refine WL.q rfl rfl rfl (QV.extract rfl rfl rfl) ?_
  refine WL.q rfl rfl rfl (QV.assign rfl rfl) ?_
  refine WL.q rfl rfl rfl (QV.assign rfl rfl) ?_
  refine WL.nil ?_
  refine WQ.then ?_
  refine WC.seq ?_
  refine WC.seq ?_
  refine WC.region ?_
  refine WL.q rfl rfl rfl (QV.move rfl rfl) ?_
  refine WL.q rfl rfl rfl (QV.not rfl rfl) ?_
  refine WL.nil ?_
  refine WQ.then ?_
  refine WC.cond rfl (fun h8 => ?_) (fun h8 => ?_)
  · skip
    have hm9 := br_t h8 hm6; clear hm6
    refine WC.seq ?_
    refine WC.region ?_
    refine WL.q rfl rfl rfl (QV.assign rfl rfl) ?_
    refine WL.nil ?_
    refine WQ.then ?_
    refine WC.ret ?_
    refine WQ.then_ret ?_
    obtain rfl := (eq_of_some hm9).symm
    refine WQ.ret1 rfl rfl (fun w hw => ?_)
    exact ⟨rfl, Own.kgrow (fun _ x => x) hw⟩
  · skip
    have hm10 := br_f h8 hm6; clear hm6
    refine WC.skip ?_
    refine WQ.then ?_
    refine WC.seq ?_
    refine WC.region ?_
    refine WL.q rfl rfl rfl (QV.loadAgg ag49 rfl rfl rfl (Own.cellsBlk 3 rfl)) ?_
    refine WL.q rfl rfl rfl (QV.loadAgg ag24 rfl rfl rfl (Own.cellsBlk 2 rfl)) ?_
    refine WL.effect rfl ?_
    obtain ⟨x11, hx12, hm13⟩ := bd_some hm10; clear hm10
    refine (EV.callR (X := Value × World) (R := []) (fun X => X.1) (fun X => []) (fun X => X.2) (fun X => Arr X.2 X.1 4 (x11.map Edg.cells)) hk (fun _ h => by cases h; decide) en25 (EvAll.cons rfl rfl (EvAll.cons rfl rfl EvAll.nil)) (fun M w h1 h2 => have h := roundelayref6_Edges_w hx12 (h_l_logs.le hle7) (h_l_body.le hle7) (h_l_outs.le hle7) M w h1 h2; h) (fun X14 hF14 hle14 => ?_))
    refine WL.q rfl rfl rfl (QV.assign rfl rfl) ?_
    refine WL.nil ?_
    refine WQ.then ?_
    refine WC.seq ?_
    refine WC.seq ?_
    refine WC.region ?_
    refine WL.q rfl rfl rfl (QV.assign rfl rfl) ?_
    refine WL.nil ?_
    refine WQ.then ?_
    obtain ⟨o15, ho16, hm17⟩ := bd_some hm13; clear hm13; obtain ⟨n18, ho19⟩ := lp_some ho16
    refine WC.bloop1 (H2 := [kn noM w.heap.size w X14.2, blk b3 [.int .i64 k_.pace, .int .i64 k_.stages, v_k__ops] 27, blk b2 [.int .i64 t.u0, .int .i64 t.u1, .int .i64 t.u2, .int .i64 t.w0, .int .i64 t.w1, .int .i64 t.w2, .int .i64 t.regs] 24, blk b1 [v_l_logs, v_l_body, v_l_outs] 49]) (τ := [(3, (true, _)), (4, (true, _)), (5, (true, _)), (6, (true, _)), (9, (true, _)), (11, (true, _))]) (fun (i12_1 : Int) => [(12, (true, .int .i64 i12_1))]) (fun (i12_1 : Int) => []) (fun (i12_1 : Int) (m : Nat) => iter (roundelayref10_Takes_L0 k_ x4 x11) m i12_1 = some o15) (fun (i12_1 : Int) => o15 = .go i12_1) 0 n18 ho19 ⟨rfl, rfl, rfl, rfl, rfl, rfl, rfl, trivial⟩ (fun w hw => hw.pick [0, 1, 2, 3] (by decide)) ?_ ?_
    · skip
      rintro i12_1 rfl
      refine WQ.then ?_
      refine WC.seq ?_
      refine WC.region ?_
      refine WL.q rfl rfl rfl (QV.assign rfl rfl) ?_
      refine WL.nil ?_
      refine WQ.then ?_
      refine WC.seq ?_
      refine WC.seq ?_
      refine WC.region ?_
      refine WL.q rfl rfl rfl (QV.assign rfl rfl) ?_
      refine WL.nil ?_
      refine WQ.then ?_
      refine WK.of (fun w hw => hw.vecNil (E := 3) (sz := 1) (enc := icell)) ?_
      obtain ⟨o21, ho22, hm23⟩ := bd_some hm17; clear hm17; obtain ⟨n24, ho25⟩ := lp_some ho22
      refine WC.bloop4 (H2 := [blk b3 [.int .i64 k_.pace, .int .i64 k_.stages, v_k__ops] 27, blk b2 [.int .i64 t.u0, .int .i64 t.u1, .int .i64 t.u2, .int .i64 t.w0, .int .i64 t.w1, .int .i64 t.w2, .int .i64 t.regs] 24, blk b1 [v_l_logs, v_l_body, v_l_outs] 49]) (τ := [(3, (true, _)), (4, (true, _)), (5, (true, _)), (6, (true, _)), (9, (true, _))]) (fun (v20_24 : List Int) (s15_24 : Int) (uv20_24 : Value) (k_24 : World) => [(14, (true, uv20_24)), (15, (true, .int .i64 s15_24))]) (fun (v20_24 : List Int) (s15_24 : Int) (uv20_24 : Value) (k_24 : World) => [vec uv20_24 3 1 (List.map icell v20_24), kn noM w.heap.size w k_24]) (fun (v20_24 : List Int) (s15_24 : Int) (uv20_24 : Value) (k_24 : World) (m : Nat) => iter (roundelayref10_Takes_L2 l t k_ order x4) m (v20_24, s15_24) = some o21 ∧ SliceLen uv20_24 v20_24.length ∧ Le X14.2 k_24) (fun (v20_24 : List Int) (s15_24 : Int) (uv20_24 : Value) (k_24 : World) => o21 = .go (v20_24, s15_24) ∧ SliceLen uv20_24 v20_24.length ∧ Le X14.2 k_24) [] 0 (.slice none 0 0) X14.2 n24 ⟨ho25, SliceLen.nil, (Le.refl _)⟩ ⟨rfl, rfl, rfl, rfl, rfl, rfl, rfl, trivial⟩ (fun w hw => hw.pick [0, 1, 2, 3, 4] (by decide)) ?_ ?_
      · skip
        rintro v20_24 s15_24 uv20_24 k_24 ⟨rfl, hlv20_24, hle_24⟩
        refine WQ.then ?_
        refine WC.seq ?_
        refine WC.seq ?_
        refine WC.region ?_
        refine WL.q rfl rfl rfl (QV.assign rfl rfl) ?_
        refine WL.nil ?_
        refine WQ.then ?_
        obtain ⟨o26, ho27, hm28⟩ := bd_some hm23; clear hm23; obtain ⟨n29, ho30⟩ := lp_some ho27
        refine WC.bloop1 (H2 := [vec uv20_24 3 1 (List.map icell v20_24), kn noM w.heap.size w k_24, blk b3 [.int .i64 k_.pace, .int .i64 k_.stages, v_k__ops] 27, blk b2 [.int .i64 t.u0, .int .i64 t.u1, .int .i64 t.u2, .int .i64 t.w0, .int .i64 t.w1, .int .i64 t.w2, .int .i64 t.regs] 24, blk b1 [v_l_logs, v_l_body, v_l_outs] 49]) (τ := [(4, (true, _)), (5, (true, _)), (6, (true, _)), (9, (true, _))]) (fun (i23_25 : Int) => [(23, (true, .int .i64 i23_25))]) (fun (i23_25 : Int) => []) (fun (i23_25 : Int) (m : Nat) => iter (roundelayref10_Takes_L10 l t k_ x4) m i23_25 = some o26) (fun (i23_25 : Int) => o26 = .go i23_25) 0 n29 ho30 ⟨rfl, rfl, rfl, rfl, rfl, trivial⟩ (fun w hw => hw.pick [0, 1, 2, 3, 4] (by decide)) ?_ ?_
        · skip
          rintro i23_25 rfl
          refine WQ.then ?_
          refine WC.seq ?_
          refine WC.region ?_
          refine WL.q rfl rfl rfl (QV.assign rfl rfl) ?_
          refine WL.nil ?_
          refine WQ.then ?_
          refine WC.ret ?_
          obtain rfl := (eq_of_some hm28).symm
          refine WQ.ret1 rfl rfl (fun w hw => ?_)
          exact ⟨rfl, Own.kgrow (fun _ x => x) hw⟩
        · skip
          rintro i23_25 m31 hI32
          obtain ⟨m33, s34, rfl, hm35, hn36⟩ := iter_step hI32; clear hI32; unfold roundelayref10_Takes_L10 at hm35
          refine WC.seq ?_
          refine WC.seq ?_
          refine WC.region ?_
          refine WL.q rfl rfl rfl (QV.move rfl rfl) ?_
          refine WL.q rfl rfl rfl (QV.fieldAddr fd49_2 rfl rfl) ?_
          refine WL.q rfl rfl rfl (QV.load pl30 rfl rfl (Own.cell 4 rfl rfl)) ?_
          refine WL.q rfl rfl rfl (QV.lenS Try.underlying30 rfl rfl (h_l_outs.le ((hle7.trans hle14).trans hle_24)).lenMap) ?_
          refine WL.q rfl rfl rfl (QV.lss rfl rfl rfl rfl) ?_
          refine WL.nil ?_
          refine WQ.then ?_
          refine WC.cond rfl (fun h37 => ?_) (fun h37 => ?_)
          · skip
            have hm38 := br_t h37 hm35; clear hm35
            refine WC.skip ?_
            refine WQ.then ?_
            refine WC.seq ?_
            refine WC.block ?_
            refine WC.seq ?_
            refine WC.dr (m := 12) (S := Own noM w [kn noM w.heap.size w k_24, vec uv20_24 3 1 (List.map icell v20_24), blk b3 [.int .i64 k_.pace, .int .i64 k_.stages, v_k__ops] 27, blk b2 [.int .i64 t.u0, .int .i64 t.u1, .int .i64 t.u2, .int .i64 t.w0, .int .i64 t.w1, .int .i64 t.w2, .int .i64 t.regs] 24, blk b1 [v_l_logs, v_l_body, v_l_outs] 49]) (by kernel_rfl) (by kernel_rfl) (fun w hw => hw.pick [1, 0, 2, 3, 4] (by decide)) ?_
            refine WD.q 0 rfl (by kernel_rfl) rfl rfl rfl (QV.move rfl rfl) ?_
            refine WD.q 1 rfl (by kernel_rfl) rfl rfl rfl (QV.fieldAddr fd27_0 rfl rfl) ?_
            refine WD.q 2 rfl (by kernel_rfl) rfl rfl rfl (QV.load pl3 rfl rfl (Own.cell 2 rfl rfl)) ?_
            refine WD.q 3 rfl (by kernel_rfl) rfl rfl rfl (QV.fieldAddr fd24_2 rfl rfl) ?_
            refine WD.q 4 rfl (by kernel_rfl) rfl rfl rfl (QV.load pl3 rfl rfl (Own.cell 3 rfl rfl)) ?_
            refine WD.q 5 rfl (by kernel_rfl) rfl rfl rfl (QV.fieldAddr fd49_2 rfl rfl) ?_
            refine WD.q 6 rfl (by kernel_rfl) rfl rfl rfl (QV.load pl30 rfl rfl (Own.cell 4 rfl rfl)) ?_
            refine WD.q 7 rfl (by kernel_rfl) rfl rfl rfl (QV.move rfl rfl) ?_
            obtain ⟨c39, hm40⟩ := ck_some hm38; clear hm38
            obtain ⟨p41, hp42⟩ := (h_l_outs.le ((hle7.trans hle14).trans hle_24)).lenMap.ix (sz := 1) ln_len c39
            refine WD.q 8 rfl (by kernel_rfl) rfl rfl rfl (QV.indexSlice sl30 rfl rfl rfl rfl hp42) ?_
            refine WD.q 9 rfl (by kernel_rfl) rfl rfl rfl (QV.load pl3 rfl rfl (fun w hw => CellsAt.one 0 (((Own.karr 0 rfl hk (h_l_outs.le ((hle7.trans hle14).trans hle_24))) w hw).ele hp42 c39) rfl)) ?_
            obtain ⟨x43, hx44, hm45⟩ := bd_some hm40; clear hm40
            refine WD.q 10 rfl (by kernel_rfl) rfl rfl rfl (QV.call en85 (EvAll.cons rfl rfl (EvAll.cons rfl rfl (EvAll.cons rfl rfl (EvAll.cons rfl rfl EvAll.nil)))) (fun w hw => have h := roundelayref10_told_w w hx44 ((Own.karr 0 rfl hk (hF7.le (hle14.trans hle_24))) w hw); h)) ?_
            refine WD.q 11 rfl (by kernel_rfl) rfl rfl rfl (QV.not rfl rfl) ?_
            refine WD.e (by kernel_rfl) ?_
            refine WQ.then ?_
            refine WC.cond rfl (fun h46 => ?_) (fun h46 => ?_)
            · skip
              have hm47 := br_t h46 hm45; clear hm45
              refine WC.seq ?_
              refine WC.region ?_
              refine WL.q rfl rfl rfl (QV.assign rfl rfl) ?_
              refine WL.nil ?_
              refine WQ.then ?_
              refine WC.ret ?_
              refine WQ.block_ret ?_
              refine WQ.then_ret ?_
              refine WQ.then_ret ?_
              refine WQ.block_ret ?_
              refine WQ.then_ret ?_
              refine WQ.then_ret ?_
              obtain rfl := up_ret hm47 hn36
              obtain rfl := (eq_of_some hm28).symm
              refine WQ.ret1 rfl rfl (fun w hw => ?_)
              exact ⟨rfl, Own.kgrow (fun _ x => x) hw⟩
            · skip
              have hm48 := br_f h46 hm45; clear hm45
              refine WC.skip ?_
              refine WQ.block ?_
              refine WQ.then ?_
              refine WC.region ?_
              refine WL.q rfl rfl rfl (QV.move rfl rfl) ?_
              obtain ⟨c49, hm50⟩ := ck_some hm48; clear hm48
              refine WL.q rfl rfl rfl (QV.add rfl rfl rfl rfl c49) ?_
              refine WL.q rfl rfl rfl (QV.assign rfl rfl) ?_
              refine WL.nil ?_
              exact WQ.again1 (i23_25 + 1) m33 (up_next hm50 hn36) (Nat.lt_succ_self _) ⟨rfl, rfl, rfl, rfl, rfl, trivial⟩ (fun w hw => hw.pick [0, 1, 2, 3, 4] (by decide))
          · skip
            have hm51 := br_f h37 hm35; clear hm35
            refine WC.exit ?_
            refine WQ.then_exit ?_
            refine WQ.then_exit ?_
            refine WQ.block_exit ?_
            exact WQ.out1 i23_25 (up_brk hm51 hn36) ⟨rfl, rfl, rfl, rfl, rfl, trivial⟩ (fun w hw => hw.pick [0, 1, 2, 3, 4] (by decide))
      · skip
        rintro v20_24 s15_24 uv20_24 k_24 m52 ⟨hI53, hlv20_24, hle_24⟩
        obtain ⟨m54, s55, rfl, hm56, hn57⟩ := iter_step hI53; clear hI53; unfold roundelayref10_Takes_L2 at hm56; simp only at hm56
        refine WC.seq ?_
        refine WC.seq ?_
        refine WC.region ?_
        refine WL.q rfl rfl rfl (QV.move rfl rfl) ?_
        refine WL.q rfl rfl rfl (QV.move rfl rfl) ?_
        refine WL.q rfl rfl rfl (QV.lenS Try.underlying81 rfl rfl (hF7.le (hle14.trans hle_24)).lenMap) ?_
        refine WL.q rfl rfl rfl (QV.lss rfl rfl rfl rfl) ?_
        refine WL.nil ?_
        refine WQ.then ?_
        refine WC.cond rfl (fun h58 => ?_) (fun h58 => ?_)
        · skip
          have hm59 := br_t h58 hm56; clear hm56
          refine WC.skip ?_
          refine WQ.then ?_
          refine WC.seq ?_
          refine WC.block ?_
          refine WC.seq ?_
          refine WC.dr (m := 10) (S := Own noM w [kn noM w.heap.size w k_24, vec uv20_24 3 1 (List.map icell v20_24), blk b3 [.int .i64 k_.pace, .int .i64 k_.stages, v_k__ops] 27, blk b2 [.int .i64 t.u0, .int .i64 t.u1, .int .i64 t.u2, .int .i64 t.w0, .int .i64 t.w1, .int .i64 t.w2, .int .i64 t.regs] 24, blk b1 [v_l_logs, v_l_body, v_l_outs] 49]) (by kernel_rfl) (by kernel_rfl) (fun w hw => hw.pick [1, 0, 2, 3, 4] (by decide)) ?_
          refine WD.q 0 rfl (by kernel_rfl) rfl rfl rfl (QV.fieldAddr fd27_2 rfl rfl) ?_
          refine WD.q 1 rfl (by kernel_rfl) rfl rfl rfl (QV.load pl25 rfl rfl (Own.cell 2 rfl rfl)) ?_
          refine WD.q 2 rfl (by kernel_rfl) rfl rfl rfl (QV.move rfl rfl) ?_
          refine WD.q 3 rfl (by kernel_rfl) rfl rfl rfl (QV.move rfl rfl) ?_
          obtain ⟨c60, hm61⟩ := ck_some hm59; clear hm59
          obtain ⟨p62, hp63⟩ := (h_order.le ((hle7.trans hle14).trans hle_24)).lenMap.ix (sz := 1) ln_len c60
          refine WD.q 4 rfl (by kernel_rfl) rfl rfl rfl (QV.indexSlice sl30 rfl rfl rfl rfl hp63) ?_
          refine WD.q 5 rfl (by kernel_rfl) rfl rfl rfl (QV.load pl3 rfl rfl (fun w hw => CellsAt.one 0 (((Own.karr 0 rfl hk (h_order.le ((hle7.trans hle14).trans hle_24))) w hw).ele hp63 c60) rfl)) ?_
          obtain ⟨c64, hm65⟩ := ck_some hm61; clear hm61
          obtain ⟨p66, hp67⟩ := (h_k__ops.le ((hle7.trans hle14).trans hle_24)).lenMap.ix (sz := 10) ln_len c64
          refine WD.q 6 rfl (by kernel_rfl) rfl rfl rfl (QV.indexSlice sl25 rfl rfl rfl rfl hp67) ?_
          refine WD.q 7 rfl (by kernel_rfl) rfl rfl rfl (QV.loadAgg ag45 rfl rfl rfl (fun w hw => ((Own.karr 0 rfl hk (h_k__ops.le ((hle7.trans hle14).trans hle_24))) w hw).ele hp67 c64)) ?_
          refine WD.o 8 rfl (by kernel_rfl) rfl ?_
          refine (EV.alloc (by decide) ze45 (fun b68 => ?_))
          refine WD.b (H' := [kn noM w.heap.size w k_24, blk b68 [.int .i64 0, .int .i64 0, .int .i64 0, .int .i64 0, .int .i64 0, .int .i64 0, .int .i64 0, .int .i64 0, .int .i64 0, .int .i64 0] 45, vec uv20_24 3 1 (List.map icell v20_24), blk b3 [.int .i64 k_.pace, .int .i64 k_.stages, v_k__ops] 27, blk b2 [.int .i64 t.u0, .int .i64 t.u1, .int .i64 t.u2, .int .i64 t.w0, .int .i64 t.w1, .int .i64 t.w2, .int .i64 t.regs] 24, blk b1 [v_l_logs, v_l_body, v_l_outs] 49]) (fun w hw => hw.pick [2, 0, 1, 3, 4, 5] (by decide)) (fun w hw => hw.pick [0, 2, 3, 4, 5] (by decide)) ?_
          refine WD.l 9 rfl (by kernel_rfl) rfl ?_
          refine (EV.store 0 rfl rfl rfl rfl rfl rfl (vs := [.int .i64 ((ele k_.ops (ele order s15_24)).slot), .int .i64 ((ele k_.ops (ele order s15_24)).stage), .int .i64 ((ele k_.ops (ele order s15_24)).op), .int .i64 ((ele k_.ops (ele order s15_24)).dest), .int .i64 ((ele k_.ops (ele order s15_24)).a), .int .i64 ((ele k_.ops (ele order s15_24)).b), .int .i64 ((ele k_.ops (ele order s15_24)).ar), .int .i64 ((ele k_.ops (ele order s15_24)).sp), .int .i64 ((ele k_.ops (ele order s15_24)).pl), .int .i64 ((ele k_.ops (ele order s15_24)).n)]) (show Value.cells _ = List.toArray _ from rfl) sz45 (Nat.le_of_ble_eq_true rfl) (one_cons rfl (one_cons rfl (one_cons rfl (one_cons rfl (one_cons rfl (one_cons rfl (one_cons rfl (one_cons rfl (one_cons rfl (one_cons rfl one_nil)))))))))) ?_)
          refine WQ.then ?_
          refine WC.seq ?_
          refine WC.region ?_
          refine WL.q rfl rfl rfl (QV.fieldAddr fd49_1 rfl rfl) ?_
          refine WL.q rfl rfl rfl (QV.load pl47 rfl rfl (Own.cell 5 rfl rfl)) ?_
          refine WL.q rfl rfl rfl (QV.move rfl rfl) ?_
          obtain ⟨c69, hm70⟩ := ck_some hm65; clear hm65
          obtain ⟨p71, hp72⟩ := (h_l_body.le ((hle7.trans hle14).trans hle_24)).lenMap.ix (sz := 9) ln_len c69
          refine WL.q rfl rfl rfl (QV.indexSlice sl47 rfl rfl rfl rfl hp72) ?_
          refine WL.q rfl rfl rfl (QV.loadAgg ag59 rfl rfl rfl (fun w hw => ((Own.karr 2 rfl hk (h_l_body.le ((hle7.trans hle14).trans hle_24))) w hw).ele hp72 c69)) ?_
          refine WL.effect rfl ?_
          obtain ⟨x73, hx74, hm75⟩ := bd_some hm70; clear hm70
          refine EV.of (C' := Own noM w [kn noM w.heap.size w k_24, blk b68 [.int .i64 ((ele k_.ops (ele order s15_24)).slot), .int .i64 ((ele k_.ops (ele order s15_24)).stage), .int .i64 ((ele k_.ops (ele order s15_24)).op), .int .i64 ((ele k_.ops (ele order s15_24)).dest), .int .i64 ((ele k_.ops (ele order s15_24)).a), .int .i64 ((ele k_.ops (ele order s15_24)).b), .int .i64 ((ele k_.ops (ele order s15_24)).ar), .int .i64 ((ele k_.ops (ele order s15_24)).sp), .int .i64 ((ele k_.ops (ele order s15_24)).pl), .int .i64 ((ele k_.ops (ele order s15_24)).n)] 45, vec uv20_24 3 1 (List.map icell v20_24), blk b3 [.int .i64 k_.pace, .int .i64 k_.stages, v_k__ops] 27, blk b2 [.int .i64 t.u0, .int .i64 t.u1, .int .i64 t.u2, .int .i64 t.w0, .int .i64 t.w1, .int .i64 t.w2, .int .i64 t.regs] 24, blk b1 [v_l_logs, v_l_body, v_l_outs] 49]) (fun w hw => hw.pick [2, 0, 1, 3, 4, 5] (by decide)) ?_
          refine (EV.callR (X := Value × World) (R := []) (fun X => X.1) (fun X => []) (fun X => X.2) (fun X => Arr X.2 X.1 2 (x73.map Rf.cells)) hk (fun _ h => by cases h; decide) en74 (EvAll.cons rfl rfl EvAll.nil) (fun M w h1 h2 => have h := roundelayref2_Uses_w hx74  M w h1 h2; h) (fun X76 hF76 hle76 => ?_))
          refine WL.q rfl rfl rfl (QV.assign rfl rfl) ?_
          refine WL.nil ?_
          refine WQ.then ?_
          refine WC.seq ?_
          refine WC.seq ?_
          refine WC.region ?_
          refine WL.q rfl rfl rfl (QV.assign rfl rfl) ?_
          refine WL.nil ?_
          refine WQ.then ?_
          obtain ⟨o77, ho78, hm79⟩ := bd_some hm75; clear hm75; obtain ⟨n80, ho81⟩ := lp_some ho78
          refine WC.bloop1 (H2 := [kn noM w.heap.size w X76.2, blk b68 [.int .i64 ((ele k_.ops (ele order s15_24)).slot), .int .i64 ((ele k_.ops (ele order s15_24)).stage), .int .i64 ((ele k_.ops (ele order s15_24)).op), .int .i64 ((ele k_.ops (ele order s15_24)).dest), .int .i64 ((ele k_.ops (ele order s15_24)).a), .int .i64 ((ele k_.ops (ele order s15_24)).b), .int .i64 ((ele k_.ops (ele order s15_24)).ar), .int .i64 ((ele k_.ops (ele order s15_24)).sp), .int .i64 ((ele k_.ops (ele order s15_24)).pl), .int .i64 ((ele k_.ops (ele order s15_24)).n)] 45, vec uv20_24 3 1 (List.map icell v20_24), blk b3 [.int .i64 k_.pace, .int .i64 k_.stages, v_k__ops] 27, blk b2 [.int .i64 t.u0, .int .i64 t.u1, .int .i64 t.u2, .int .i64 t.w0, .int .i64 t.w1, .int .i64 t.w2, .int .i64 t.regs] 24, blk b1 [v_l_logs, v_l_body, v_l_outs] 49]) (τ := [(3, (true, _)), (4, (true, _)), (5, (true, _)), (6, (true, _)), (9, (true, _)), (14, (true, _)), (15, (true, _)), (16, (true, _)), (17, (true, _))]) (fun (i18_27 : Int) => [(18, (true, .int .i64 i18_27))]) (fun (i18_27 : Int) => []) (fun (i18_27 : Int) (m : Nat) => iter (roundelayref10_Takes_L4 t k_ order x4 s15_24 x73) m i18_27 = some o77) (fun (i18_27 : Int) => o77 = .go i18_27) 0 n80 ho81 ⟨rfl, rfl, rfl, rfl, rfl, rfl, rfl, rfl, rfl, rfl, trivial⟩ (fun w hw => hw.pick [0, 1, 2, 3, 4, 5] (by decide)) ?_ ?_
          · skip
            rintro i18_27 rfl
            refine WQ.then ?_
            refine WC.seq ?_
            refine WC.region ?_
            refine WL.q rfl rfl rfl (QV.assign rfl rfl) ?_
            refine WL.nil ?_
            refine WQ.then ?_
            obtain ⟨o82, ho83, hm84⟩ := bd_some hm79; clear hm79; obtain ⟨n85, ho86⟩ := lp_some ho83
            refine WC.bloop3 (H2 := [kn noM w.heap.size w X76.2, blk b68 [.int .i64 ((ele k_.ops (ele order s15_24)).slot), .int .i64 ((ele k_.ops (ele order s15_24)).stage), .int .i64 ((ele k_.ops (ele order s15_24)).op), .int .i64 ((ele k_.ops (ele order s15_24)).dest), .int .i64 ((ele k_.ops (ele order s15_24)).a), .int .i64 ((ele k_.ops (ele order s15_24)).b), .int .i64 ((ele k_.ops (ele order s15_24)).ar), .int .i64 ((ele k_.ops (ele order s15_24)).sp), .int .i64 ((ele k_.ops (ele order s15_24)).pl), .int .i64 ((ele k_.ops (ele order s15_24)).n)] 45, blk b3 [.int .i64 k_.pace, .int .i64 k_.stages, v_k__ops] 27, blk b2 [.int .i64 t.u0, .int .i64 t.u1, .int .i64 t.u2, .int .i64 t.w0, .int .i64 t.w1, .int .i64 t.w2, .int .i64 t.regs] 24, blk b1 [v_l_logs, v_l_body, v_l_outs] 49]) (τ := [(3, (true, _)), (4, (true, _)), (5, (true, _)), (6, (true, _)), (9, (true, _)), (15, (true, _))]) (fun (v20_30 : List Int) (q20_30 : Int) (uv20_30 : Value) => [(14, (true, uv20_30)), (20, (true, .int .i64 q20_30))]) (fun (v20_30 : List Int) (q20_30 : Int) (uv20_30 : Value) => [vec uv20_30 3 1 (List.map icell v20_30)]) (fun (v20_30 : List Int) (q20_30 : Int) (uv20_30 : Value) (m : Nat) => iter (roundelayref10_Takes_L6 l t x4 s15_24) m (v20_30, q20_30) = some o82 ∧ SliceLen uv20_30 v20_30.length) (fun (v20_30 : List Int) (q20_30 : Int) (uv20_30 : Value) => o82 = .go (v20_30, q20_30) ∧ SliceLen uv20_30 v20_30.length) v20_24 1 uv20_24 n85 ⟨ho86, hlv20_24⟩ ⟨rfl, rfl, rfl, rfl, rfl, rfl, rfl, rfl, trivial⟩ (fun w hw => hw.pick [2, 0, 1, 3, 4, 5] (by decide)) ?_ ?_
            · skip
              rintro v20_30 q20_30 uv20_30 ⟨rfl, hlv20_30⟩
              refine WQ.block ?_
              refine WQ.then ?_
              refine WC.region ?_
              refine WL.q rfl rfl rfl (QV.move rfl rfl) ?_
              obtain ⟨c87, hm88⟩ := ck_some hm84; clear hm84
              refine WL.q rfl rfl rfl (QV.add rfl rfl rfl rfl c87) ?_
              refine WL.q rfl rfl rfl (QV.assign rfl rfl) ?_
              refine WL.nil ?_
              exact WQ.again4 v20_30 (s15_24 + 1) uv20_30 X76.2 m54 ⟨up_next hm88 hn57, hlv20_30, (hle_24.trans hle76)⟩ (Nat.lt_succ_self _) ⟨rfl, rfl, rfl, rfl, rfl, rfl, rfl, trivial⟩ (fun w hw => hw.pick [0, 1, 3, 4, 5] (by decide))
            · skip
              rintro v20_30 q20_30 uv20_30 m89 ⟨hI90, hlv20_30⟩
              obtain ⟨m91, s92, rfl, hm93, hn94⟩ := iter_step hI90; clear hI90; unfold roundelayref10_Takes_L6 at hm93; simp only at hm93
              refine WC.seq ?_
              refine WC.seq ?_
              refine WC.region ?_
              refine WL.q rfl rfl rfl (QV.move rfl rfl) ?_
              refine WL.q rfl rfl rfl (QV.loadAgg ag49 rfl rfl rfl (Own.cellsBlk 5 rfl)) ?_
              refine WL.q rfl rfl rfl (QV.move rfl rfl) ?_
              obtain ⟨x95, hx96, hm97⟩ := bd_some hm93; clear hm93
              refine WL.q rfl rfl rfl (QV.call en84 (EvAll.cons rfl rfl (EvAll.cons rfl rfl EvAll.nil)) (fun w hw => have h := roundelayref10_Far_w w hx96 ((Own.karr 1 rfl hk (h_l_logs.le (((hle7.trans hle14).trans hle_24).trans hle76))) w hw) ((Own.karr 1 rfl hk (h_l_body.le (((hle7.trans hle14).trans hle_24).trans hle76))) w hw) ((Own.karr 1 rfl hk (h_l_outs.le (((hle7.trans hle14).trans hle_24).trans hle76))) w hw); h)) ?_
              refine WL.q rfl rfl rfl (QV.leq rfl rfl rfl rfl) ?_
              refine WL.nil ?_
              refine WQ.then ?_
              refine WC.cond rfl (fun h98 => ?_) (fun h98 => ?_)
              · skip
                have hm99 := br_t h98 hm97; clear hm97
                refine WC.skip ?_
                refine WQ.then ?_
                refine WC.seq ?_
                refine WC.block ?_
                refine WC.seq ?_
                refine WC.dr (m := 11) (S := Own noM w [kn noM w.heap.size w X76.2, vec uv20_30 3 1 (List.map icell v20_30), blk b68 [.int .i64 ((ele k_.ops (ele order s15_24)).slot), .int .i64 ((ele k_.ops (ele order s15_24)).stage), .int .i64 ((ele k_.ops (ele order s15_24)).op), .int .i64 ((ele k_.ops (ele order s15_24)).dest), .int .i64 ((ele k_.ops (ele order s15_24)).a), .int .i64 ((ele k_.ops (ele order s15_24)).b), .int .i64 ((ele k_.ops (ele order s15_24)).ar), .int .i64 ((ele k_.ops (ele order s15_24)).sp), .int .i64 ((ele k_.ops (ele order s15_24)).pl), .int .i64 ((ele k_.ops (ele order s15_24)).n)] 45, blk b3 [.int .i64 k_.pace, .int .i64 k_.stages, v_k__ops] 27, blk b2 [.int .i64 t.u0, .int .i64 t.u1, .int .i64 t.u2, .int .i64 t.w0, .int .i64 t.w1, .int .i64 t.w2, .int .i64 t.regs] 24, blk b1 [v_l_logs, v_l_body, v_l_outs] 49]) (by kernel_rfl) (by kernel_rfl) (fun w hw => hw.pick [1, 0, 2, 3, 4, 5] (by decide)) ?_
                refine WD.q 0 rfl (by kernel_rfl) rfl rfl rfl (QV.move rfl rfl) ?_
                refine WD.q 1 rfl (by kernel_rfl) rfl rfl rfl (QV.move rfl rfl) ?_
                obtain ⟨c100, hm101⟩ := ck_some hm99; clear hm99
                obtain ⟨p102, hp103⟩ := (hF7.le ((hle14.trans hle_24).trans hle76)).lenMap.ix (sz := 3) ln_len c100
                refine WD.q 2 rfl (by kernel_rfl) rfl rfl rfl (QV.indexSlice sl81 rfl rfl rfl rfl hp103) ?_
                refine WD.q 3 rfl (by kernel_rfl) rfl rfl rfl (QV.fieldAddr fd128_2 rfl rfl) ?_
                refine WD.q 4 rfl (by kernel_rfl) rfl rfl rfl (QV.load pl3 rfl rfl (fun w hw => CellsAt.one 2 (((Own.karr 0 rfl hk (hF7.le ((hle14.trans hle_24).trans hle76))) w hw).ele hp103 c100) rfl)) ?_
                refine WD.q 5 rfl (by kernel_rfl) rfl rfl rfl (QV.move rfl rfl) ?_
                obtain ⟨c104, hm105⟩ := ck_some hm101; clear hm101
                refine WD.q 6 rfl (by kernel_rfl) rfl rfl rfl (QV.sub rfl rfl rfl rfl c104) ?_
                refine WD.q 7 rfl (by kernel_rfl) rfl rfl rfl (QV.fieldAddr fd24_2 rfl rfl) ?_
                refine WD.q 8 rfl (by kernel_rfl) rfl rfl rfl (QV.load pl3 rfl rfl (Own.cell 4 rfl rfl)) ?_
                obtain ⟨x106, hx107, hm108⟩ := bd_some hm105; clear hm105
                refine WD.q 9 rfl (by kernel_rfl) rfl rfl rfl (QV.call en75 (EvAll.cons rfl rfl (EvAll.cons rfl rfl EvAll.nil)) (fun w hw => have h := roundelayref1_Rest_w w hx107 ; h)) ?_
                refine WD.q 10 rfl (by kernel_rfl) rfl rfl rfl (QV.assign rfl rfl) ?_
                refine WD.e (by kernel_rfl) ?_
                refine WQ.then ?_
                refine WC.seq ?_
                refine WC.seq ?_
                refine WC.region ?_
                refine WL.q rfl rfl rfl (QV.assign rfl rfl) ?_
                refine WL.nil ?_
                refine WQ.then ?_
                obtain ⟨o109, ho110, hm111⟩ := bd_some hm108; clear hm108; obtain ⟨n112, ho113⟩ := lp_some ho110
                refine WC.bloop1 (H2 := [vec uv20_30 3 1 (List.map icell v20_30), kn noM w.heap.size w X76.2, blk b68 [.int .i64 ((ele k_.ops (ele order s15_24)).slot), .int .i64 ((ele k_.ops (ele order s15_24)).stage), .int .i64 ((ele k_.ops (ele order s15_24)).op), .int .i64 ((ele k_.ops (ele order s15_24)).dest), .int .i64 ((ele k_.ops (ele order s15_24)).a), .int .i64 ((ele k_.ops (ele order s15_24)).b), .int .i64 ((ele k_.ops (ele order s15_24)).ar), .int .i64 ((ele k_.ops (ele order s15_24)).sp), .int .i64 ((ele k_.ops (ele order s15_24)).pl), .int .i64 ((ele k_.ops (ele order s15_24)).n)] 45, blk b3 [.int .i64 k_.pace, .int .i64 k_.stages, v_k__ops] 27, blk b2 [.int .i64 t.u0, .int .i64 t.u1, .int .i64 t.u2, .int .i64 t.w0, .int .i64 t.w1, .int .i64 t.w2, .int .i64 t.regs] 24, blk b1 [v_l_logs, v_l_body, v_l_outs] 49]) (τ := [(3, (true, _)), (4, (true, _)), (5, (true, _)), (6, (true, _)), (9, (true, _)), (14, (true, _)), (15, (true, _)), (20, (true, _)), (21, (true, _))]) (fun (i22_31 : Int) => [(22, (true, .int .i64 i22_31))]) (fun (i22_31 : Int) => []) (fun (i22_31 : Int) (m : Nat) => iter (roundelayref10_Takes_L8 v20_30 x106) m i22_31 = some o109) (fun (i22_31 : Int) => o109 = .go i22_31) 0 n112 ho113 ⟨rfl, rfl, rfl, rfl, rfl, rfl, rfl, rfl, rfl, rfl, trivial⟩ (fun w hw => hw.pick [0, 1, 2, 3, 4, 5] (by decide)) ?_ ?_
                · skip
                  rintro i22_31 rfl
                  refine WQ.then ?_
                  refine WC.region ?_
                  refine WL.q rfl rfl rfl (QV.move rfl rfl) ?_
                  refine WL.q rfl rfl rfl (QV.move rfl rfl) ?_
                  refine WL.effect rfl ?_
                  refine (EV.buildSlice (by decide) sz_30 (by decide) (by decide) (ps := [(0, .tmp 181)]) (cells := [.int .i64 x106]) (EvAll.cons rfl rfl EvAll.nil) (by kernel_rfl) (fun b114 => ?_))
                  refine WL.effect rfl ?_
                  obtain ⟨c115, hm116⟩ := ck_some hm111; clear hm111
                  refine (EV.appendL (enc := icell) (xs := v20_30) (ys := [x106]) ((v20_30 ++ [x106])) 1 (by decide) ve30 rfl rfl rfl rfl rfl (Own.blkArr 0 (rows := [x106].map icell) rfl rfl (rows_len icell_len)) icell_len (icell_one _) rfl c115.1 c115.2 (fun u117 hu118 => ?_))
                  refine WL.q rfl rfl rfl (QV.assign rfl rfl) ?_
                  refine WL.nil ?_
                  refine WQ.block ?_
                  refine WQ.then ?_
                  refine WC.region ?_
                  refine WL.q rfl rfl rfl (QV.move rfl rfl) ?_
                  obtain ⟨c119, hm120⟩ := ck_some hm116; clear hm116
                  refine WL.q rfl rfl rfl (QV.add rfl rfl rfl rfl c119) ?_
                  refine WL.q rfl rfl rfl (QV.assign rfl rfl) ?_
                  refine WL.nil ?_
                  exact WQ.again3 (v20_30 ++ [x106]) (q20_30 + 1) u117 m91 ⟨up_next hm120 hn94, hu118⟩ (Nat.lt_succ_self _) ⟨rfl, rfl, rfl, rfl, rfl, rfl, rfl, rfl, trivial⟩ (fun w hw => hw.pick [1, 2, 3, 4, 5, 6] (by decide))
                · skip
                  rintro i22_31 m121 hI122
                  obtain ⟨m123, s124, rfl, hm125, hn126⟩ := iter_step hI122; clear hI122; unfold roundelayref10_Takes_L8 at hm125
                  refine WC.seq ?_
                  refine WC.seq ?_
                  refine WC.region ?_
                  refine WL.q rfl rfl rfl (QV.move rfl rfl) ?_
                  refine WL.q rfl rfl rfl (QV.move rfl rfl) ?_
                  refine WL.q rfl rfl rfl (QV.lenS Try.underlying30 rfl rfl hlv20_30) ?_
                  refine WL.q rfl rfl rfl (QV.lss rfl rfl rfl rfl) ?_
                  refine WL.nil ?_
                  refine WQ.then ?_
                  refine WC.cond rfl (fun h127 => ?_) (fun h127 => ?_)
                  · skip
                    have hm128 := br_t h127 hm125; clear hm125
                    refine WC.skip ?_
                    refine WQ.then ?_
                    refine WC.seq ?_
                    refine WC.block ?_
                    refine WC.seq ?_
                    refine WC.region ?_
                    refine WL.q rfl rfl rfl (QV.move rfl rfl) ?_
                    refine WL.q rfl rfl rfl (QV.move rfl rfl) ?_
                    obtain ⟨c129, hm130⟩ := ck_some hm128; clear hm128
                    obtain ⟨p131, hp132⟩ := hlv20_30.ix (sz := 1) ln_len c129
                    refine WL.q rfl rfl rfl (QV.indexSlice sl30 rfl rfl rfl rfl hp132) ?_
                    refine WL.q rfl rfl rfl (QV.load pl3 rfl rfl (fun w hw => CellsAt.one 0 (((Own.vecArr 0 rfl) w hw).ele hp132 c129) rfl)) ?_
                    refine WL.q rfl rfl rfl (QV.move rfl rfl) ?_
                    refine WL.q rfl rfl rfl (QV.eql rfl rfl rfl rfl) ?_
                    refine WL.nil ?_
                    refine WQ.then ?_
                    refine WC.cond rfl (fun h133 => ?_) (fun h133 => ?_)
                    · skip
                      have hm134 := br_t h133 hm130; clear hm130
                      refine WC.seq ?_
                      refine WC.region ?_
                      refine WL.q rfl rfl rfl (QV.assign rfl rfl) ?_
                      refine WL.nil ?_
                      refine WQ.then ?_
                      refine WC.ret ?_
                      refine WQ.block_ret ?_
                      refine WQ.then_ret ?_
                      refine WQ.then_ret ?_
                      refine WQ.block_ret ?_
                      refine WQ.then_ret ?_
                      refine WQ.then_ret ?_
                      refine WQ.block_ret ?_
                      refine WQ.then_ret ?_
                      refine WQ.then_ret ?_
                      refine WQ.block_ret ?_
                      refine WQ.then_ret ?_
                      refine WQ.block_ret ?_
                      refine WQ.then_ret ?_
                      refine WQ.then_ret ?_
                      refine WQ.block_ret ?_
                      refine WQ.then_ret ?_
                      refine WQ.then_ret ?_
                      obtain rfl := up_ret hm134 hn126
                      obtain rfl := up_ret hm111 hn94
                      obtain rfl := up_ret hm84 hn57
                      obtain rfl := (eq_of_some hm23).symm
                      refine WQ.ret1 rfl rfl (fun w hw => ?_)
                      exact ⟨rfl, Own.kgrow (fun _ x => x) hw⟩
                    · skip
                      have hm135 := br_f h133 hm130; clear hm130
                      refine WC.skip ?_
                      refine WQ.block ?_
                      refine WQ.then ?_
                      refine WC.region ?_
                      refine WL.q rfl rfl rfl (QV.move rfl rfl) ?_
                      obtain ⟨c136, hm137⟩ := ck_some hm135; clear hm135
                      refine WL.q rfl rfl rfl (QV.add rfl rfl rfl rfl c136) ?_
                      refine WL.q rfl rfl rfl (QV.assign rfl rfl) ?_
                      refine WL.nil ?_
                      exact WQ.again1 (i22_31 + 1) m123 (up_next hm137 hn126) (Nat.lt_succ_self _) ⟨rfl, rfl, rfl, rfl, rfl, rfl, rfl, rfl, rfl, rfl, trivial⟩ (fun w hw => hw.pick [0, 1, 2, 3, 4, 5] (by decide))
                  · skip
                    have hm138 := br_f h127 hm125; clear hm125
                    refine WC.exit ?_
                    refine WQ.then_exit ?_
                    refine WQ.then_exit ?_
                    refine WQ.block_exit ?_
                    exact WQ.out1 i22_31 (up_brk hm138 hn126) ⟨rfl, rfl, rfl, rfl, rfl, rfl, rfl, rfl, rfl, rfl, trivial⟩ (fun w hw => hw.pick [0, 1, 2, 3, 4, 5] (by decide))
              · skip
                have hm139 := br_f h98 hm97; clear hm97
                refine WC.exit ?_
                refine WQ.then_exit ?_
                refine WQ.then_exit ?_
                refine WQ.block_exit ?_
                exact WQ.out3 v20_30 q20_30 uv20_30 ⟨up_brk hm139 hn94, hlv20_30⟩ ⟨rfl, rfl, rfl, rfl, rfl, rfl, rfl, rfl, trivial⟩ (fun w hw => hw.pick [0, 1, 2, 3, 4, 5] (by decide))
          · skip
            rintro i18_27 m140 hI141
            obtain ⟨m142, s143, rfl, hm144, hn145⟩ := iter_step hI141; clear hI141; unfold roundelayref10_Takes_L4 at hm144
            refine WC.seq ?_
            refine WC.seq ?_
            refine WC.region ?_
            refine WL.q rfl rfl rfl (QV.move rfl rfl) ?_
            refine WL.q rfl rfl rfl (QV.move rfl rfl) ?_
            refine WL.q rfl rfl rfl (QV.lenS Try.underlying106 rfl rfl hF76.lenMap) ?_
            refine WL.q rfl rfl rfl (QV.lss rfl rfl rfl rfl) ?_
            refine WL.nil ?_
            refine WQ.then ?_
            refine WC.cond rfl (fun h146 => ?_) (fun h146 => ?_)
            · skip
              have hm147 := br_t h146 hm144; clear hm144
              refine WC.skip ?_
              refine WQ.then ?_
              refine WC.seq ?_
              refine WC.block ?_
              refine WC.seq ?_
              refine WC.region ?_
              refine WL.q rfl rfl rfl (QV.fieldAddr fd45_4 rfl rfl) ?_
              refine WL.q rfl rfl rfl (QV.load pl3 rfl rfl (Own.cell 1 rfl rfl)) ?_
              refine WL.q rfl rfl rfl (QV.assign rfl rfl) ?_
              refine WL.nil ?_
              refine WQ.then ?_
              refine WC.seq ?_
              refine WC.seq ?_
              refine WC.region ?_
              refine WL.q rfl rfl rfl (QV.move rfl rfl) ?_
              refine WL.q rfl rfl rfl (QV.eql rfl rfl rfl rfl) ?_
              refine WL.nil ?_
              refine WQ.then ?_
              obtain ⟨o148, hj149, hm150⟩ := bd_some hm147; clear hm147
              refine WC.joint1 (H2 := [kn noM w.heap.size w X76.2, blk b68 [.int .i64 ((ele k_.ops (ele order s15_24)).slot), .int .i64 ((ele k_.ops (ele order s15_24)).stage), .int .i64 ((ele k_.ops (ele order s15_24)).op), .int .i64 ((ele k_.ops (ele order s15_24)).dest), .int .i64 ((ele k_.ops (ele order s15_24)).a), .int .i64 ((ele k_.ops (ele order s15_24)).b), .int .i64 ((ele k_.ops (ele order s15_24)).ar), .int .i64 ((ele k_.ops (ele order s15_24)).sp), .int .i64 ((ele k_.ops (ele order s15_24)).pl), .int .i64 ((ele k_.ops (ele order s15_24)).n)] 45, vec uv20_24 3 1 (List.map icell v20_24), blk b3 [.int .i64 k_.pace, .int .i64 k_.stages, v_k__ops] 27, blk b2 [.int .i64 t.u0, .int .i64 t.u1, .int .i64 t.u2, .int .i64 t.w0, .int .i64 t.w1, .int .i64 t.w2, .int .i64 t.regs] 24, blk b1 [v_l_logs, v_l_body, v_l_outs] 49]) (τ := [(3, (true, _)), (4, (true, _)), (5, (true, _)), (6, (true, _)), (9, (true, _)), (14, (true, _)), (15, (true, _)), (16, (true, _)), (17, (true, _)), (18, (true, _))]) (fun (name19_32 : Int) => [(19, (true, .int .i64 name19_32))]) (fun (name19_32 : Int) => []) (fun (name19_32 : Int) => o148 = .go name19_32) ⟨rfl, rfl, rfl, rfl, rfl, rfl, rfl, rfl, rfl, rfl, trivial⟩ (fun w hw => hw.pick [0, 1, 2, 3, 4, 5] (by decide)) ?_ ?_
              · skip
                rintro name19_32 rfl
                refine WC.seq ?_
                refine WC.dr (m := 50) (by kernel_rfl) (by kernel_rfl) (fun w hw => hw) ?_
                refine WD.q 0 rfl (by kernel_rfl) rfl rfl rfl (QV.move rfl rfl) ?_
                refine WD.q 1 rfl (by kernel_rfl) rfl rfl rfl (QV.move rfl rfl) ?_
                refine WD.q 2 rfl (by kernel_rfl) rfl rfl rfl (QV.move rfl rfl) ?_
                refine WD.q 3 rfl (by kernel_rfl) rfl rfl rfl (QV.move rfl rfl) ?_
                obtain ⟨c151, hm152⟩ := ck_some hm150; clear hm150
                obtain ⟨p153, hp154⟩ := hF76.lenMap.ix (sz := 2) ln_len c151
                refine WD.q 4 rfl (by kernel_rfl) rfl rfl rfl (QV.indexSlice sl106 rfl rfl rfl rfl hp154) ?_
                refine WD.q 5 rfl (by kernel_rfl) rfl rfl rfl (QV.fieldAddr fd57_0 rfl rfl) ?_
                refine WD.q 6 rfl (by kernel_rfl) rfl rfl rfl (QV.load pl3 rfl rfl (fun w hw => CellsAt.one 0 (((Own.karr 0 rfl hk hF76) w hw).ele hp154 c151) rfl)) ?_
                obtain ⟨c155, hm156⟩ := ck_some hm152; clear hm152
                obtain ⟨p157, hp158⟩ := (hF7.le ((hle14.trans hle_24).trans hle76)).lenMap.ix (sz := 3) ln_len c155
                refine WD.q 7 rfl (by kernel_rfl) rfl rfl rfl (QV.indexSlice sl81 rfl rfl rfl rfl hp158) ?_
                refine WD.q 8 rfl (by kernel_rfl) rfl rfl rfl (QV.fieldAddr fd128_2 rfl rfl) ?_
                refine WD.q 9 rfl (by kernel_rfl) rfl rfl rfl (QV.load pl3 rfl rfl (fun w hw => CellsAt.one 2 (((Own.karr 0 rfl hk (hF7.le ((hle14.trans hle_24).trans hle76))) w hw).ele hp158 c155) rfl)) ?_
                refine WD.q 10 rfl (by kernel_rfl) rfl rfl rfl (QV.move rfl rfl) ?_
                refine WD.q 11 rfl (by kernel_rfl) rfl rfl rfl (QV.move rfl rfl) ?_
                obtain ⟨c159, hm160⟩ := ck_some hm156; clear hm156
                obtain ⟨p161, hp162⟩ := hF76.lenMap.ix (sz := 2) ln_len c159
                refine WD.q 12 rfl (by kernel_rfl) rfl rfl rfl (QV.indexSlice sl106 rfl rfl rfl rfl hp162) ?_
                refine WD.q 13 rfl (by kernel_rfl) rfl rfl rfl (QV.fieldAddr fd57_1 rfl rfl) ?_
                refine WD.q 14 rfl (by kernel_rfl) rfl rfl rfl (QV.load pl3 rfl rfl (fun w hw => CellsAt.one 1 (((Own.karr 0 rfl hk hF76) w hw).ele hp162 c159) rfl)) ?_
                obtain ⟨c163, hm164⟩ := ck_some hm160; clear hm160
                refine WD.q 15 rfl (by kernel_rfl) rfl rfl rfl (QV.sub rfl rfl rfl rfl c163) ?_
                refine WD.q 16 rfl (by kernel_rfl) rfl rfl rfl (QV.fieldAddr fd45_1 rfl rfl) ?_
                refine WD.q 17 rfl (by kernel_rfl) rfl rfl rfl (QV.load pl3 rfl rfl (Own.cell 1 rfl rfl)) ?_
                obtain ⟨c165, hm166⟩ := ck_some hm164; clear hm164
                refine WD.q 18 rfl (by kernel_rfl) rfl rfl rfl (QV.sub rfl rfl rfl rfl c165) ?_
                refine WD.q 19 rfl (by kernel_rfl) rfl rfl rfl (QV.fieldAddr fd24_2 rfl rfl) ?_
                refine WD.q 20 rfl (by kernel_rfl) rfl rfl rfl (QV.load pl3 rfl rfl (Own.cell 4 rfl rfl)) ?_
                obtain ⟨x167, hx168, hm169⟩ := bd_some hm166; clear hm166
                refine WD.q 21 rfl (by kernel_rfl) rfl rfl rfl (QV.call en75 (EvAll.cons rfl rfl (EvAll.cons rfl rfl EvAll.nil)) (fun w hw => have h := roundelayref1_Rest_w w hx168 ; h)) ?_
                refine WD.q 22 rfl (by kernel_rfl) rfl rfl rfl (QV.neq rfl rfl rfl rfl) ?_
                refine WD.q 23 rfl (by kernel_rfl) rfl rfl rfl (QV.move rfl rfl) ?_
                refine WD.g 24 rfl (by kernel_rfl) rfl rfl (GuardIs.neg rfl rfl) (fun hG => QV.move rfl rfl) ?_
                refine WD.g 25 rfl (by kernel_rfl) rfl rfl (GuardIs.neg rfl rfl) (fun hG => QV.fieldAddr fd27_0 rfl rfl) ?_
                refine WD.g 26 rfl (by kernel_rfl) rfl rfl (GuardIs.neg rfl rfl) (fun hG => QV.load pl3 rfl hG (Own.cell 3 rfl rfl)) ?_
                refine WD.g 27 rfl (by kernel_rfl) rfl rfl (GuardIs.neg rfl rfl) (fun hG => QV.fieldAddr fd24_2 rfl rfl) ?_
                refine WD.g 28 rfl (by kernel_rfl) rfl rfl (GuardIs.neg rfl rfl) (fun hG => QV.load pl3 rfl hG (Own.cell 4 rfl rfl)) ?_
                refine WD.g 29 rfl (by kernel_rfl) rfl rfl (GuardIs.neg rfl rfl) (fun hG => QV.move rfl rfl) ?_
                refine WD.g 30 rfl (by kernel_rfl) rfl rfl (GuardIs.neg rfl rfl) (fun hG => QV.move rfl rfl) ?_
                obtain ⟨c170, hm171⟩ := ck_some hm169; clear hm169
                obtain ⟨p172, hp173⟩ := hF76.lenMap.ixG (sz := 2) ln_len c170
                refine WD.g 31 rfl (by kernel_rfl) rfl rfl (GuardIs.neg rfl rfl) (fun hG => QV.indexSlice sl106 rfl hG rfl hG (hp173 hG)) ?_
                refine WD.g 32 rfl (by kernel_rfl) rfl rfl (GuardIs.neg rfl rfl) (fun hG => QV.loadAgg ag57 rfl rfl hG (fun w hw => ((Own.karr 0 rfl hk hF76) w hw).ele (hp173 hG) (c170 hG))) ?_
                refine WD.g 33 rfl (by kernel_rfl) rfl rfl (GuardIs.neg rfl rfl) (fun hG => QV.move rfl rfl) ?_
                refine WD.g 34 rfl (by kernel_rfl) rfl rfl (GuardIs.neg rfl rfl) (fun hG => QV.move rfl rfl) ?_
                obtain ⟨c174, hm175⟩ := ck_some hm171; clear hm171
                obtain ⟨p176, hp177⟩ := (hF7.le ((hle14.trans hle_24).trans hle76)).lenMap.ixG (sz := 3) ln_len c174
                refine WD.g 35 rfl (by kernel_rfl) rfl rfl (GuardIs.neg rfl rfl) (fun hG => QV.indexSlice sl81 rfl hG rfl hG (hp177 hG)) ?_
                refine WD.g 36 rfl (by kernel_rfl) rfl rfl (GuardIs.neg rfl rfl) (fun hG => QV.fieldAddr fd128_0 rfl hG) ?_
                refine WD.g 37 rfl (by kernel_rfl) rfl rfl (GuardIs.neg rfl rfl) (fun hG => QV.load pl3 rfl hG (fun w hw => CellsAt.one 0 (((Own.karr 0 rfl hk (hF7.le ((hle14.trans hle_24).trans hle76))) w hw).ele (hp177 hG) (c174 hG)) rfl)) ?_
                refine WD.g 38 rfl (by kernel_rfl) rfl rfl (GuardIs.neg rfl rfl) (fun hG => QV.move rfl rfl) ?_
                refine WD.g 39 rfl (by kernel_rfl) rfl rfl (GuardIs.neg rfl rfl) (fun hG => QV.move rfl rfl) ?_
                obtain ⟨c178, hm179⟩ := ck_some hm175; clear hm175
                obtain ⟨p180, hp181⟩ := hF76.lenMap.ixG (sz := 2) ln_len c178
                refine WD.g 40 rfl (by kernel_rfl) rfl rfl (GuardIs.neg rfl rfl) (fun hG => QV.indexSlice sl106 rfl hG rfl hG (hp181 hG)) ?_
                refine WD.g 41 rfl (by kernel_rfl) rfl rfl (GuardIs.neg rfl rfl) (fun hG => QV.fieldAddr fd57_1 rfl hG) ?_
                refine WD.g 42 rfl (by kernel_rfl) rfl rfl (GuardIs.neg rfl rfl) (fun hG => QV.load pl3 rfl hG (fun w hw => CellsAt.one 1 (((Own.karr 0 rfl hk hF76) w hw).ele (hp181 hG) (c178 hG)) rfl)) ?_
                refine WD.g 43 rfl (by kernel_rfl) rfl rfl (GuardIs.neg rfl rfl) (fun hG => QV.fieldAddr fd27_0 rfl rfl) ?_
                refine WD.g 44 rfl (by kernel_rfl) rfl rfl (GuardIs.neg rfl rfl) (fun hG => QV.load pl3 rfl hG (Own.cell 3 rfl rfl)) ?_
                obtain ⟨c182, hm183⟩ := ck_some hm179; clear hm179
                refine WD.g 45 rfl (by kernel_rfl) rfl rfl (GuardIs.neg rfl rfl) (fun hG => QV.mul rfl hG rfl hG (c182 hG)) ?_
                obtain ⟨c184, hm185⟩ := ck_some hm183; clear hm183
                refine WD.g 46 rfl (by kernel_rfl) rfl rfl (GuardIs.neg rfl rfl) (fun hG => QV.add rfl hG rfl hG (c184 hG)) ?_
                obtain ⟨x186, hx187, hm188⟩ := bdG_some hm185; clear hm185
                refine WD.g 47 rfl (by kernel_rfl) rfl rfl (GuardIs.neg rfl rfl) (fun hG => QV.call en83 (EvAll.cons rfl hG (EvAll.cons rfl hG (EvAll.cons rfl hG (EvAll.cons rfl hG (EvAll.cons rfl hG EvAll.nil))))) (fun w hw => have h := roundelayref10_kept_w w (hx187 hG) ((Own.karr 0 rfl hk (hF7.le ((hle14.trans hle_24).trans hle76))) w hw); h)) ?_
                refine WD.g 48 rfl (by kernel_rfl) rfl rfl (GuardIs.neg rfl rfl) (fun hG => QV.not rfl hG) ?_
                refine WD.q 49 rfl (by kernel_rfl) rfl rfl rfl (QV.pickOr rfl rfl rfl (fun h => notF h)) ?_
                refine WD.e (by kernel_rfl) ?_
                refine WQ.then ?_
                refine WC.cond rfl (fun h189 => ?_) (fun h189 => ?_)
                · skip
                  have hm190 := br_t h189 hm188; clear hm188
                  refine WC.seq ?_
                  refine WC.region ?_
                  refine WL.q rfl rfl rfl (QV.assign rfl rfl) ?_
                  refine WL.nil ?_
                  refine WQ.then ?_
                  refine WC.ret ?_
                  refine WQ.block_ret ?_
                  refine WQ.then_ret ?_
                  refine WQ.then_ret ?_
                  refine WQ.block_ret ?_
                  refine WQ.then_ret ?_
                  refine WQ.then_ret ?_
                  refine WQ.block_ret ?_
                  refine WQ.then_ret ?_
                  refine WQ.then_ret ?_
                  refine WQ.block_ret ?_
                  refine WQ.then_ret ?_
                  refine WQ.then_ret ?_
                  obtain rfl := up_ret hm190 hn145
                  obtain rfl := up_ret hm79 hn57
                  obtain rfl := (eq_of_some hm23).symm
                  refine WQ.ret1 rfl rfl (fun w hw => ?_)
                  exact ⟨rfl, Own.kgrow (fun _ x => x) hw⟩
                · skip
                  have hm191 := br_f h189 hm188; clear hm188
                  refine WC.skip ?_
                  refine WQ.block ?_
                  refine WQ.then ?_
                  refine WC.region ?_
                  refine WL.q rfl rfl rfl (QV.move rfl rfl) ?_
                  obtain ⟨c192, hm193⟩ := ck_some hm191; clear hm191
                  refine WL.q rfl rfl rfl (QV.add rfl rfl rfl rfl c192) ?_
                  refine WL.q rfl rfl rfl (QV.assign rfl rfl) ?_
                  refine WL.nil ?_
                  exact WQ.again1 (i18_27 + 1) m142 (up_next hm193 hn145) (Nat.lt_succ_self _) ⟨rfl, rfl, rfl, rfl, rfl, rfl, rfl, rfl, rfl, rfl, trivial⟩ (fun w hw => hw.pick [0, 1, 2, 3, 4, 5] (by decide))
              · skip
                refine WC.cond rfl (fun h194 => ?_) (fun h194 => ?_)
                · skip
                  have hm195 := br_t h194 hj149; clear hj149
                  refine WC.region ?_
                  refine WL.q rfl rfl rfl (QV.fieldAddr fd45_5 rfl rfl) ?_
                  refine WL.q rfl rfl rfl (QV.load pl3 rfl rfl (Own.cell 1 rfl rfl)) ?_
                  refine WL.q rfl rfl rfl (QV.assign rfl rfl) ?_
                  refine WL.nil ?_
                  exact WQ.out1 ((ele k_.ops (ele order s15_24)).b) (eq_of_some hm195) ⟨rfl, rfl, rfl, rfl, rfl, rfl, rfl, rfl, rfl, rfl, rfl, trivial⟩ (fun w hw => hw.pick [0, 1, 2, 3, 4, 5] (by decide))
                · skip
                  have hm196 := br_f h194 hj149; clear hj149
                  refine WC.skip ?_
                  exact WQ.out1 ((ele k_.ops (ele order s15_24)).a) (eq_of_some hm196) ⟨rfl, rfl, rfl, rfl, rfl, rfl, rfl, rfl, rfl, rfl, rfl, trivial⟩ (fun w hw => hw.pick [0, 1, 2, 3, 4, 5] (by decide))
            · skip
              have hm197 := br_f h146 hm144; clear hm144
              refine WC.exit ?_
              refine WQ.then_exit ?_
              refine WQ.then_exit ?_
              refine WQ.block_exit ?_
              exact WQ.out1 i18_27 (up_brk hm197 hn145) ⟨rfl, rfl, rfl, rfl, rfl, rfl, rfl, rfl, rfl, rfl, trivial⟩ (fun w hw => hw.pick [0, 1, 2, 3, 4, 5] (by decide))
        · skip
          have hm198 := br_f h58 hm56; clear hm56
          refine WC.exit ?_
          refine WQ.then_exit ?_
          refine WQ.then_exit ?_
          refine WQ.block_exit ?_
          exact WQ.out4 v20_24 s15_24 uv20_24 k_24 ⟨up_brk hm198 hn57, hlv20_24, hle_24⟩ ⟨rfl, rfl, rfl, rfl, rfl, rfl, rfl, trivial⟩ (fun w hw => hw.pick [0, 1, 2, 3, 4] (by decide))
    · skip
      rintro i12_1 m199 hI200
      obtain ⟨m201, s202, rfl, hm203, hn204⟩ := iter_step hI200; clear hI200; unfold roundelayref10_Takes_L0 at hm203
      refine WC.seq ?_
      refine WC.seq ?_
      refine WC.region ?_
      refine WL.q rfl rfl rfl (QV.move rfl rfl) ?_
      refine WL.q rfl rfl rfl (QV.move rfl rfl) ?_
      refine WL.q rfl rfl rfl (QV.lenS Try.underlying50 rfl rfl hF14.lenMap) ?_
      refine WL.q rfl rfl rfl (QV.lss rfl rfl rfl rfl) ?_
      refine WL.nil ?_
      refine WQ.then ?_
      refine WC.cond rfl (fun h205 => ?_) (fun h205 => ?_)
      · skip
        have hm206 := br_t h205 hm203; clear hm203
        refine WC.skip ?_
        refine WQ.then ?_
        refine WC.seq ?_
        refine WC.block ?_
        refine WC.seq ?_
        refine WC.region ?_
        refine WL.q rfl rfl rfl (QV.move rfl rfl) ?_
        refine WL.q rfl rfl rfl (QV.move rfl rfl) ?_
        obtain ⟨c207, hm208⟩ := ck_some hm206; clear hm206
        obtain ⟨p209, hp210⟩ := hF14.lenMap.ix (sz := 4) ln_len c207
        refine WL.q rfl rfl rfl (QV.indexSlice sl50 rfl rfl rfl rfl hp210) ?_
        refine WL.q rfl rfl rfl (QV.loadAgg ag61 rfl rfl rfl (fun w hw => ((Own.karr 0 rfl hk hF14) w hw).ele hp210 c207)) ?_
        refine WL.effect rfl ?_
        refine (EV.alloc (by decide) ze61 (fun b211 => ?_))
        refine WL.effect rfl ?_
        refine (EV.store 0 rfl rfl rfl rfl rfl rfl (vs := [.int .i64 ((ele x11 i12_1).fr), .int .i64 ((ele x11 i12_1).to), .int .i64 ((ele x11 i12_1).bk), .int .i64 ((ele x11 i12_1).wt)]) (show Value.cells _ = List.toArray _ from rfl) sz61 (Nat.le_of_ble_eq_true rfl) (one_cons rfl (one_cons rfl (one_cons rfl (one_cons rfl one_nil)))) ?_)
        refine WL.nil ?_
        refine WQ.then ?_
        refine WC.seq ?_
        refine WC.dr (m := 22) (S := Own noM w [kn noM w.heap.size w X14.2, blk b211 [.int .i64 ((ele x11 i12_1).fr), .int .i64 ((ele x11 i12_1).to), .int .i64 ((ele x11 i12_1).bk), .int .i64 ((ele x11 i12_1).wt)] 61, blk b3 [.int .i64 k_.pace, .int .i64 k_.stages, v_k__ops] 27, blk b2 [.int .i64 t.u0, .int .i64 t.u1, .int .i64 t.u2, .int .i64 t.w0, .int .i64 t.w1, .int .i64 t.w2, .int .i64 t.regs] 24, blk b1 [v_l_logs, v_l_body, v_l_outs] 49]) (by kernel_rfl) (by kernel_rfl) (fun w hw => hw.pick [1, 0, 2, 3, 4] (by decide)) ?_
        refine WD.q 0 rfl (by kernel_rfl) rfl rfl rfl (QV.move rfl rfl) ?_
        refine WD.q 1 rfl (by kernel_rfl) rfl rfl rfl (QV.fieldAddr fd61_1 rfl rfl) ?_
        refine WD.q 2 rfl (by kernel_rfl) rfl rfl rfl (QV.load pl3 rfl rfl (Own.cell 1 rfl rfl)) ?_
        obtain ⟨c212, hm213⟩ := ck_some hm208; clear hm208
        obtain ⟨p214, hp215⟩ := (hF7.le hle14).lenMap.ix (sz := 3) ln_len c212
        refine WD.q 3 rfl (by kernel_rfl) rfl rfl rfl (QV.indexSlice sl81 rfl rfl rfl rfl hp215) ?_
        refine WD.q 4 rfl (by kernel_rfl) rfl rfl rfl (QV.fieldAddr fd128_0 rfl rfl) ?_
        refine WD.q 5 rfl (by kernel_rfl) rfl rfl rfl (QV.load pl3 rfl rfl (fun w hw => CellsAt.one 0 (((Own.karr 0 rfl hk (hF7.le hle14)) w hw).ele hp215 c212) rfl)) ?_
        refine WD.q 6 rfl (by kernel_rfl) rfl rfl rfl (QV.fieldAddr fd61_2 rfl rfl) ?_
        refine WD.q 7 rfl (by kernel_rfl) rfl rfl rfl (QV.load pl3 rfl rfl (Own.cell 1 rfl rfl)) ?_
        refine WD.q 8 rfl (by kernel_rfl) rfl rfl rfl (QV.fieldAddr fd27_0 rfl rfl) ?_
        refine WD.q 9 rfl (by kernel_rfl) rfl rfl rfl (QV.load pl3 rfl rfl (Own.cell 2 rfl rfl)) ?_
        obtain ⟨c216, hm217⟩ := ck_some hm213; clear hm213
        refine WD.q 10 rfl (by kernel_rfl) rfl rfl rfl (QV.mul rfl rfl rfl rfl c216) ?_
        obtain ⟨c218, hm219⟩ := ck_some hm217; clear hm217
        refine WD.q 11 rfl (by kernel_rfl) rfl rfl rfl (QV.add rfl rfl rfl rfl c218) ?_
        refine WD.q 12 rfl (by kernel_rfl) rfl rfl rfl (QV.move rfl rfl) ?_
        refine WD.q 13 rfl (by kernel_rfl) rfl rfl rfl (QV.fieldAddr fd61_0 rfl rfl) ?_
        refine WD.q 14 rfl (by kernel_rfl) rfl rfl rfl (QV.load pl3 rfl rfl (Own.cell 1 rfl rfl)) ?_
        obtain ⟨c220, hm221⟩ := ck_some hm219; clear hm219
        obtain ⟨p222, hp223⟩ := (hF7.le hle14).lenMap.ix (sz := 3) ln_len c220
        refine WD.q 15 rfl (by kernel_rfl) rfl rfl rfl (QV.indexSlice sl81 rfl rfl rfl rfl hp223) ?_
        refine WD.q 16 rfl (by kernel_rfl) rfl rfl rfl (QV.fieldAddr fd128_0 rfl rfl) ?_
        refine WD.q 17 rfl (by kernel_rfl) rfl rfl rfl (QV.load pl3 rfl rfl (fun w hw => CellsAt.one 0 (((Own.karr 0 rfl hk (hF7.le hle14)) w hw).ele hp223 c220) rfl)) ?_
        refine WD.q 18 rfl (by kernel_rfl) rfl rfl rfl (QV.fieldAddr fd61_3 rfl rfl) ?_
        refine WD.q 19 rfl (by kernel_rfl) rfl rfl rfl (QV.load pl3 rfl rfl (Own.cell 1 rfl rfl)) ?_
        obtain ⟨c224, hm225⟩ := ck_some hm221; clear hm221
        refine WD.q 20 rfl (by kernel_rfl) rfl rfl rfl (QV.add rfl rfl rfl rfl c224) ?_
        refine WD.q 21 rfl (by kernel_rfl) rfl rfl rfl (QV.lss rfl rfl rfl rfl) ?_
        refine WD.e (by kernel_rfl) ?_
        refine WQ.then ?_
        refine WC.cond rfl (fun h226 => ?_) (fun h226 => ?_)
        · skip
          have hm227 := br_t h226 hm225; clear hm225
          refine WC.seq ?_
          refine WC.region ?_
          refine WL.q rfl rfl rfl (QV.assign rfl rfl) ?_
          refine WL.nil ?_
          refine WQ.then ?_
          refine WC.ret ?_
          refine WQ.block_ret ?_
          refine WQ.then_ret ?_
          refine WQ.then_ret ?_
          refine WQ.block_ret ?_
          refine WQ.then_ret ?_
          refine WQ.then_ret ?_
          obtain rfl := up_ret hm227 hn204
          obtain rfl := (eq_of_some hm17).symm
          refine WQ.ret1 rfl rfl (fun w hw => ?_)
          exact ⟨rfl, Own.kgrow (fun _ x => x) hw⟩
        · skip
          have hm228 := br_f h226 hm225; clear hm225
          refine WC.skip ?_
          refine WQ.block ?_
          refine WQ.then ?_
          refine WC.region ?_
          refine WL.q rfl rfl rfl (QV.move rfl rfl) ?_
          obtain ⟨c229, hm230⟩ := ck_some hm228; clear hm228
          refine WL.q rfl rfl rfl (QV.add rfl rfl rfl rfl c229) ?_
          refine WL.q rfl rfl rfl (QV.assign rfl rfl) ?_
          refine WL.nil ?_
          exact WQ.again1 (i12_1 + 1) m201 (up_next hm230 hn204) (Nat.lt_succ_self _) ⟨rfl, rfl, rfl, rfl, rfl, rfl, rfl, trivial⟩ (fun w hw => hw.pick [1, 2, 3, 4] (by decide))
      · skip
        have hm231 := br_f h205 hm203; clear hm203
        refine WC.exit ?_
        refine WQ.then_exit ?_
        refine WQ.then_exit ?_
        refine WQ.block_exit ?_
        exact WQ.out1 i12_1 (up_brk hm231 hn204) ⟨rfl, rfl, rfl, rfl, rfl, rfl, rfl, trivial⟩ (fun w hw => hw.pick [0, 1, 2, 3] (by decide))
end Go.Proofs.Ytaimbkndebaaiab
end

section
namespace Go.Proofs.Ytaimbkndebaaiab
open Go.Rd
set_option linter.unusedVariables false
namespace TRSched
theorem ag24 : AggT Try.prog 24 7 := ⟨_, Try.underlying24, rfl, by kernel_rfl⟩
theorem ag49 : AggT Try.prog 49 3 := ⟨_, Try.underlying49, rfl, by kernel_rfl⟩
theorem ag61 : AggT Try.prog 61 4 := ⟨_, Try.underlying61, rfl, by kernel_rfl⟩
theorem ar22 : ArrayT Try.prog 22 3 1 := ⟨_, Try.underlying22, by kernel_rfl⟩
theorem en24 : Go.Rd.Enters Try.prog 24 := ⟨Try.f24, Try.func24, by kernel_rfl, by kernel_rfl⟩
theorem en25 : Go.Rd.Enters Try.prog 25 := ⟨Try.f25, Try.func25, by kernel_rfl, by kernel_rfl⟩
theorem en52 : Go.Rd.Enters Try.prog 52 := ⟨Try.f52, Try.func52, by kernel_rfl, by kernel_rfl⟩
theorem en78 : Go.Rd.Enters Try.prog 78 := ⟨Try.f78, Try.func78, by kernel_rfl, by kernel_rfl⟩
theorem fd24_0 : FieldT Try.prog 24 0 0 := ⟨_, _, 2, Try.underlying24, rfl, rfl, by kernel_rfl⟩
theorem fd49_1 : FieldT Try.prog 49 1 1 := ⟨_, _, 0, Try.underlying49, rfl, rfl, by kernel_rfl⟩
theorem fd59_0 : FieldT Try.prog 59 0 0 := ⟨_, _, 0, Try.underlying59, rfl, rfl, by kernel_rfl⟩
theorem fd61_0 : FieldT Try.prog 61 0 0 := ⟨_, _, 0, Try.underlying61, rfl, rfl, by kernel_rfl⟩
theorem fd61_1 : FieldT Try.prog 61 1 1 := ⟨_, _, 0, Try.underlying61, rfl, rfl, by kernel_rfl⟩
theorem fd61_2 : FieldT Try.prog 61 2 2 := ⟨_, _, 0, Try.underlying61, rfl, rfl, by kernel_rfl⟩
theorem fd61_3 : FieldT Try.prog 61 3 3 := ⟨_, _, 0, Try.underlying61, rfl, rfl, by kernel_rfl⟩
theorem fd63_0 : FieldT Try.prog 63 0 0 := ⟨_, _, 0, Try.underlying63, rfl, rfl, by kernel_rfl⟩
theorem fd63_1 : FieldT Try.prog 63 1 1 := ⟨_, _, 0, Try.underlying63, rfl, rfl, by kernel_rfl⟩
theorem pl3 : Plain Try.prog 3 := ⟨_, Try.underlying3, rfl⟩
theorem pl30 : Plain Try.prog 30 := ⟨_, Try.underlying30, rfl⟩
theorem pl47 : Plain Try.prog 47 := ⟨_, Try.underlying47, rfl⟩
theorem sl30 : SliceT Try.prog 30 3 1 := ⟨Try.underlying30, by kernel_rfl⟩
theorem sl47 : SliceT Try.prog 47 59 9 := ⟨Try.underlying47, by kernel_rfl⟩
theorem sl50 : SliceT Try.prog 50 61 4 := ⟨Try.underlying50, by kernel_rfl⟩
theorem sz61 : SizeT Try.prog 61 4 := by unfold SizeT; kernel_rfl
theorem ze61 : ZeroT Try.prog 61 [.int .i64 0, .int .i64 0, .int .i64 0, .int .i64 0] := by unfold ZeroT; kernel_rfl
end TRSched
open TRSched
set_option maxRecDepth 8000 in
theorem roundelayref8_Legal_w {v_l_logs : Value} {v_l_body : Value} {v_l_outs : Value} {v_p_times : Value} {l : Lp} {t : Tgt} {p : Pln} {r : Bool} (w : World) (hm : roundelayref8_Legal_m l t p = some r) (h_l_logs : Arr w v_l_logs 1 (l.logs.map icell)) (h_l_body : Arr w v_l_body 9 (l.body.map Stm.cells)) (h_l_outs : Arr w v_l_outs 1 (l.outs.map icell)) (h_p_times : Arr w v_p_times 1 (p.times.map icell)) : Calls Try.prog 28 #[.agg #[v_l_logs, v_l_body, v_l_outs], .agg #[.int .i64 t.u0, .int .i64 t.u1, .int .i64 t.u2, .int .i64 t.w0, .int .i64 t.w1, .int .i64 t.w2, .int .i64 t.regs], .agg #[.int .i64 p.pace, v_p_times]] w (fun e w' => e = .returned (.bool r) ∧ Grow w w') := by
  unfold roundelayref8_Legal_m at hm
  have hk := Base.rfl (w := w)
  refine calls_of_WC (n := 143) (args := [.agg #[v_l_logs, v_l_body, v_l_outs], .agg #[.int .i64 t.u0, .int .i64 t.u1, .int .i64 t.u2, .int .i64 t.w0, .int .i64 t.w1, .int .i64 t.w2, .int .i64 t.regs], .agg #[.int .i64 p.pace, v_p_times]]) Try.func28 rfl rfl (Nat.le_of_ble_eq_true rfl) ?_ (Own.startK hk (Own.start w))
  refine WC.seq ?_
  refine WC.region ?_
  refine WL.effect rfl ?_
  refine (EV.boxAgg (by decide) rfl rfl (fun b1 => ?_))
  refine WL.effect rfl ?_
  refine (EV.boxAgg (by decide) rfl rfl (fun b2 => ?_))
  refine WL.effect rfl ?_
  refine (EV.boxAgg (by decide) rfl rfl (fun b3 => ?_))
  refine WL.q rfl rfl rfl (QV.assign rfl rfl) ?_
  refine WL.nil ?_
  refine WQ.then ?_
  refine WC.seq ?_
  refine WC.seq ?_
  refine WC.region ?_
  refine WL.q rfl rfl rfl (QV.loadAgg ag49 rfl rfl rfl (Own.cellsBlk 2 rfl)) ?_
  refine WL.q rfl rfl rfl (QV.loadAgg ag24 rfl rfl rfl (Own.cellsBlk 1 rfl)) ?_
  obtain ⟨x4, hx5, hm6⟩ := bd_some hm; clear hm
  refine WL.q rfl rfl rfl (QV.call en24 (EvAll.cons rfl rfl (EvAll.cons rfl rfl EvAll.nil)) (fun w hw => have h := roundelayref6_May_w w hx5 ((Own.karr 3 rfl hk h_l_logs) w hw) ((Own.karr 3 rfl hk h_l_body) w hw) ((Own.karr 3 rfl hk h_l_outs) w hw); h)) ?_
  refine WL.q rfl rfl rfl (QV.not rfl rfl) ?_
  refine WL.q rfl rfl rfl (QV.move rfl rfl) ?_
  refine WL.g rfl rfl (GuardIs.neg rfl rfl) (fun hG => QV.fieldAddr fd63_0 rfl rfl) ?_
  refine WL.g rfl rfl (GuardIs.neg rfl rfl) (fun hG => QV.load pl3 rfl hG (Own.cell 0 rfl rfl)) ?_
  refine WL.g rfl rfl (GuardIs.neg rfl rfl) (fun hG => QV.lss rfl hG rfl rfl) ?_
  refine WL.q rfl rfl rfl (QV.pickOr rfl rfl rfl (fun h => notF h)) ?_
  refine WL.q rfl rfl rfl (QV.move rfl rfl) ?_
  refine WL.g rfl rfl (GuardIs.neg rfl rfl) (fun hG => QV.fieldAddr fd63_0 rfl rfl) ?_
  refine WL.g rfl rfl (GuardIs.neg rfl rfl) (fun hG => QV.load pl3 rfl hG (Own.cell 0 rfl rfl)) ?_
  refine WL.g rfl rfl (GuardIs.neg rfl rfl) (fun hG => QV.gtr rfl hG rfl rfl) ?_
  refine WL.q rfl rfl rfl (QV.pickOr rfl rfl rfl (fun h => notF h)) ?_
  refine WL.q rfl rfl rfl (QV.move rfl rfl) ?_
  refine WL.g rfl rfl (GuardIs.neg rfl rfl) (fun hG => QV.fieldAddr fd63_1 rfl rfl) ?_
  refine WL.g rfl rfl (GuardIs.neg rfl rfl) (fun hG => QV.load pl30 rfl hG (Own.cell 0 rfl rfl)) ?_
  refine WL.g rfl rfl (GuardIs.neg rfl rfl) (fun hG => QV.lenS Try.underlying30 rfl hG h_p_times.lenMap) ?_
  refine WL.g rfl rfl (GuardIs.neg rfl rfl) (fun hG => QV.fieldAddr fd49_1 rfl rfl) ?_
  refine WL.g rfl rfl (GuardIs.neg rfl rfl) (fun hG => QV.load pl47 rfl hG (Own.cell 2 rfl rfl)) ?_
  refine WL.g rfl rfl (GuardIs.neg rfl rfl) (fun hG => QV.lenS Try.underlying47 rfl hG h_l_body.lenMap) ?_
  refine WL.g rfl rfl (GuardIs.neg rfl rfl) (fun hG => QV.neq rfl hG rfl hG) ?_
  refine WL.q rfl rfl rfl (QV.pickOr rfl rfl rfl (fun h => notF h)) ?_
  refine WL.nil ?_
  refine WQ.then ?_
  refine WC.cond rfl (fun h7 => ?_) (fun h7 => ?_)
  · skip
    have hm8 := br_t h7 hm6; clear hm6
    refine WC.seq ?_
    refine WC.region ?_
    refine WL.q rfl rfl rfl (QV.assign rfl rfl) ?_
    refine WL.nil ?_
    refine WQ.then ?_
    refine WC.ret ?_
    refine WQ.then_ret ?_
    obtain rfl := (eq_of_some hm8).symm
    refine WQ.ret1 rfl rfl (fun w hw => ?_)
    exact ⟨rfl, Own.kgrow (fun _ x => x) hw⟩
  · skip
    have hm9 := br_f h7 hm6; clear hm6
    refine WC.skip ?_
    refine WQ.then ?_
    refine WC.seq ?_
    refine WC.seq ?_
    refine WC.region ?_
    refine WL.q rfl rfl rfl (QV.assign rfl rfl) ?_
    refine WL.nil ?_
    refine WQ.then ?_
    obtain ⟨o10, ho11, hm12⟩ := bd_some hm9; clear hm9; obtain ⟨n13, ho14⟩ := lp_some ho11
    refine WC.bloop1 (H2 := [blk b3 [.int .i64 p.pace, v_p_times] 63, blk b2 [.int .i64 t.u0, .int .i64 t.u1, .int .i64 t.u2, .int .i64 t.w0, .int .i64 t.w1, .int .i64 t.w2, .int .i64 t.regs] 24, blk b1 [v_l_logs, v_l_body, v_l_outs] 49, kn noM w.heap.size w w]) (τ := [(3, (true, _)), (4, (true, _)), (5, (true, _))]) (fun (i7_2 : Int) => [(7, (true, .int .i64 i7_2))]) (fun (i7_2 : Int) => []) (fun (i7_2 : Int) (m : Nat) => iter (roundelayref8_Legal_L0 l t p) m i7_2 = some o10) (fun (i7_2 : Int) => o10 = .go i7_2) 0 n13 ho14 ⟨rfl, rfl, rfl, rfl, trivial⟩ (fun w hw => hw.pick [0, 1, 2, 3] (by decide)) ?_ ?_
    · skip
      rintro i7_2 rfl
      refine WQ.then ?_
      refine WC.seq ?_
      refine WC.region ?_
      refine WL.q rfl rfl rfl (QV.loadAgg ag49 rfl rfl rfl (Own.cellsBlk 2 rfl)) ?_
      refine WL.q rfl rfl rfl (QV.loadAgg ag24 rfl rfl rfl (Own.cellsBlk 1 rfl)) ?_
      refine WL.effect rfl ?_
      obtain ⟨x15, hx16, hm17⟩ := bd_some hm12; clear hm12
      refine EV.of (C' := Own noM w [kn noM w.heap.size w w, blk b3 [.int .i64 p.pace, v_p_times] 63, blk b2 [.int .i64 t.u0, .int .i64 t.u1, .int .i64 t.u2, .int .i64 t.w0, .int .i64 t.w1, .int .i64 t.w2, .int .i64 t.regs] 24, blk b1 [v_l_logs, v_l_body, v_l_outs] 49]) (fun w hw => hw.pick [3, 0, 1, 2] (by decide)) ?_
      refine (EV.callR (X := Value × World) (R := []) (fun X => X.1) (fun X => []) (fun X => X.2) (fun X => Arr X.2 X.1 4 (x15.map Edg.cells)) hk (fun _ h => by cases h; decide) en25 (EvAll.cons rfl rfl (EvAll.cons rfl rfl EvAll.nil)) (fun M w h1 h2 => have h := roundelayref6_Edges_w hx16 h_l_logs h_l_body h_l_outs M w h1 h2; h) (fun X18 hF18 hle18 => ?_))
      refine WL.q rfl rfl rfl (QV.assign rfl rfl) ?_
      refine WL.nil ?_
      refine WQ.then ?_
      refine WC.seq ?_
      refine WC.seq ?_
      refine WC.region ?_
      refine WL.q rfl rfl rfl (QV.assign rfl rfl) ?_
      refine WL.nil ?_
      refine WQ.then ?_
      obtain ⟨o19, ho20, hm21⟩ := bd_some hm17; clear hm17; obtain ⟨n22, ho23⟩ := lp_some ho20
      refine WC.bloop1 (H2 := [kn noM w.heap.size w X18.2, blk b3 [.int .i64 p.pace, v_p_times] 63, blk b2 [.int .i64 t.u0, .int .i64 t.u1, .int .i64 t.u2, .int .i64 t.w0, .int .i64 t.w1, .int .i64 t.w2, .int .i64 t.regs] 24, blk b1 [v_l_logs, v_l_body, v_l_outs] 49]) (τ := [(5, (true, _)), (11, (true, _))]) (fun (i12_3 : Int) => [(12, (true, .int .i64 i12_3))]) (fun (i12_3 : Int) => []) (fun (i12_3 : Int) (m : Nat) => iter (roundelayref8_Legal_L4 p x15) m i12_3 = some o19) (fun (i12_3 : Int) => o19 = .go i12_3) 0 n22 ho23 ⟨rfl, rfl, rfl, trivial⟩ (fun w hw => hw.pick [0, 1, 2, 3] (by decide)) ?_ ?_
      · skip
        rintro i12_3 rfl
        refine WQ.then ?_
        refine WC.seq ?_
        refine WC.region ?_
        refine WL.q rfl rfl rfl (QV.assign rfl rfl) ?_
        refine WL.nil ?_
        refine WQ.then ?_
        refine WC.ret ?_
        obtain rfl := (eq_of_some hm21).symm
        refine WQ.ret1 rfl rfl (fun w hw => ?_)
        exact ⟨rfl, Own.kgrow (fun _ x => x) hw⟩
      · skip
        rintro i12_3 m24 hI25
        obtain ⟨m26, s27, rfl, hm28, hn29⟩ := iter_step hI25; clear hI25; unfold roundelayref8_Legal_L4 at hm28
        refine WC.seq ?_
        refine WC.seq ?_
        refine WC.region ?_
        refine WL.q rfl rfl rfl (QV.move rfl rfl) ?_
        refine WL.q rfl rfl rfl (QV.move rfl rfl) ?_
        refine WL.q rfl rfl rfl (QV.lenS Try.underlying50 rfl rfl hF18.lenMap) ?_
        refine WL.q rfl rfl rfl (QV.lss rfl rfl rfl rfl) ?_
        refine WL.nil ?_
        refine WQ.then ?_
        refine WC.cond rfl (fun h30 => ?_) (fun h30 => ?_)
        · skip
          have hm31 := br_t h30 hm28; clear hm28
          refine WC.skip ?_
          refine WQ.then ?_
          refine WC.seq ?_
          refine WC.block ?_
          refine WC.seq ?_
          refine WC.region ?_
          refine WL.q rfl rfl rfl (QV.move rfl rfl) ?_
          refine WL.q rfl rfl rfl (QV.move rfl rfl) ?_
          obtain ⟨c32, hm33⟩ := ck_some hm31; clear hm31
          obtain ⟨p34, hp35⟩ := hF18.lenMap.ix (sz := 4) ln_len c32
          refine WL.q rfl rfl rfl (QV.indexSlice sl50 rfl rfl rfl rfl hp35) ?_
          refine WL.q rfl rfl rfl (QV.loadAgg ag61 rfl rfl rfl (fun w hw => ((Own.karr 0 rfl hk hF18) w hw).ele hp35 c32)) ?_
          refine WL.effect rfl ?_
          refine (EV.alloc (by decide) ze61 (fun b36 => ?_))
          refine WL.effect rfl ?_
          refine (EV.store 0 rfl rfl rfl rfl rfl rfl (vs := [.int .i64 ((ele x15 i12_3).fr), .int .i64 ((ele x15 i12_3).to), .int .i64 ((ele x15 i12_3).bk), .int .i64 ((ele x15 i12_3).wt)]) (show Value.cells _ = List.toArray _ from rfl) sz61 (Nat.le_of_ble_eq_true rfl) (one_cons rfl (one_cons rfl (one_cons rfl (one_cons rfl one_nil)))) ?_)
          refine WL.nil ?_
          refine WQ.then ?_
          refine WC.seq ?_
          refine WC.dr (m := 22) (S := Own noM w [kn noM w.heap.size w X18.2, blk b36 [.int .i64 ((ele x15 i12_3).fr), .int .i64 ((ele x15 i12_3).to), .int .i64 ((ele x15 i12_3).bk), .int .i64 ((ele x15 i12_3).wt)] 61, blk b3 [.int .i64 p.pace, v_p_times] 63, blk b2 [.int .i64 t.u0, .int .i64 t.u1, .int .i64 t.u2, .int .i64 t.w0, .int .i64 t.w1, .int .i64 t.w2, .int .i64 t.regs] 24, blk b1 [v_l_logs, v_l_body, v_l_outs] 49]) (by kernel_rfl) (by kernel_rfl) (fun w hw => hw.pick [1, 0, 2, 3, 4] (by decide)) ?_
          refine WD.q 0 rfl (by kernel_rfl) rfl rfl rfl (QV.fieldAddr fd63_1 rfl rfl) ?_
          refine WD.q 1 rfl (by kernel_rfl) rfl rfl rfl (QV.load pl30 rfl rfl (Own.cell 2 rfl rfl)) ?_
          refine WD.q 2 rfl (by kernel_rfl) rfl rfl rfl (QV.fieldAddr fd61_1 rfl rfl) ?_
          refine WD.q 3 rfl (by kernel_rfl) rfl rfl rfl (QV.load pl3 rfl rfl (Own.cell 1 rfl rfl)) ?_
          obtain ⟨c37, hm38⟩ := ck_some hm33; clear hm33
          obtain ⟨p39, hp40⟩ := (h_p_times.le hle18).lenMap.ix (sz := 1) ln_len c37
          refine WD.q 4 rfl (by kernel_rfl) rfl rfl rfl (QV.indexSlice sl30 rfl rfl rfl rfl hp40) ?_
          refine WD.q 5 rfl (by kernel_rfl) rfl rfl rfl (QV.load pl3 rfl rfl (fun w hw => CellsAt.one 0 (((Own.karr 0 rfl hk (h_p_times.le hle18)) w hw).ele hp40 c37) rfl)) ?_
          refine WD.q 6 rfl (by kernel_rfl) rfl rfl rfl (QV.fieldAddr fd61_2 rfl rfl) ?_
          refine WD.q 7 rfl (by kernel_rfl) rfl rfl rfl (QV.load pl3 rfl rfl (Own.cell 1 rfl rfl)) ?_
          refine WD.q 8 rfl (by kernel_rfl) rfl rfl rfl (QV.fieldAddr fd63_0 rfl rfl) ?_
          refine WD.q 9 rfl (by kernel_rfl) rfl rfl rfl (QV.load pl3 rfl rfl (Own.cell 2 rfl rfl)) ?_
          obtain ⟨c41, hm42⟩ := ck_some hm38; clear hm38
          refine WD.q 10 rfl (by kernel_rfl) rfl rfl rfl (QV.mul rfl rfl rfl rfl c41) ?_
          obtain ⟨c43, hm44⟩ := ck_some hm42; clear hm42
          refine WD.q 11 rfl (by kernel_rfl) rfl rfl rfl (QV.add rfl rfl rfl rfl c43) ?_
          refine WD.q 12 rfl (by kernel_rfl) rfl rfl rfl (QV.fieldAddr fd63_1 rfl rfl) ?_
          refine WD.q 13 rfl (by kernel_rfl) rfl rfl rfl (QV.load pl30 rfl rfl (Own.cell 2 rfl rfl)) ?_
          refine WD.q 14 rfl (by kernel_rfl) rfl rfl rfl (QV.fieldAddr fd61_0 rfl rfl) ?_
          refine WD.q 15 rfl (by kernel_rfl) rfl rfl rfl (QV.load pl3 rfl rfl (Own.cell 1 rfl rfl)) ?_
          obtain ⟨c45, hm46⟩ := ck_some hm44; clear hm44
          obtain ⟨p47, hp48⟩ := (h_p_times.le hle18).lenMap.ix (sz := 1) ln_len c45
          refine WD.q 16 rfl (by kernel_rfl) rfl rfl rfl (QV.indexSlice sl30 rfl rfl rfl rfl hp48) ?_
          refine WD.q 17 rfl (by kernel_rfl) rfl rfl rfl (QV.load pl3 rfl rfl (fun w hw => CellsAt.one 0 (((Own.karr 0 rfl hk (h_p_times.le hle18)) w hw).ele hp48 c45) rfl)) ?_
          refine WD.q 18 rfl (by kernel_rfl) rfl rfl rfl (QV.fieldAddr fd61_3 rfl rfl) ?_
          refine WD.q 19 rfl (by kernel_rfl) rfl rfl rfl (QV.load pl3 rfl rfl (Own.cell 1 rfl rfl)) ?_
          obtain ⟨c49, hm50⟩ := ck_some hm46; clear hm46
          refine WD.q 20 rfl (by kernel_rfl) rfl rfl rfl (QV.add rfl rfl rfl rfl c49) ?_
          refine WD.q 21 rfl (by kernel_rfl) rfl rfl rfl (QV.lss rfl rfl rfl rfl) ?_
          refine WD.e (by kernel_rfl) ?_
          refine WQ.then ?_
          refine WC.cond rfl (fun h51 => ?_) (fun h51 => ?_)
          · skip
            have hm52 := br_t h51 hm50; clear hm50
            refine WC.seq ?_
            refine WC.region ?_
            refine WL.q rfl rfl rfl (QV.assign rfl rfl) ?_
            refine WL.nil ?_
            refine WQ.then ?_
            refine WC.ret ?_
            refine WQ.block_ret ?_
            refine WQ.then_ret ?_
            refine WQ.then_ret ?_
            refine WQ.block_ret ?_
            refine WQ.then_ret ?_
            refine WQ.then_ret ?_
            obtain rfl := up_ret hm52 hn29
            obtain rfl := (eq_of_some hm21).symm
            refine WQ.ret1 rfl rfl (fun w hw => ?_)
            exact ⟨rfl, Own.kgrow (fun _ x => x) hw⟩
          · skip
            have hm53 := br_f h51 hm50; clear hm50
            refine WC.skip ?_
            refine WQ.block ?_
            refine WQ.then ?_
            refine WC.region ?_
            refine WL.q rfl rfl rfl (QV.move rfl rfl) ?_
            obtain ⟨c54, hm55⟩ := ck_some hm53; clear hm53
            refine WL.q rfl rfl rfl (QV.add rfl rfl rfl rfl c54) ?_
            refine WL.q rfl rfl rfl (QV.assign rfl rfl) ?_
            refine WL.nil ?_
            exact WQ.again1 (i12_3 + 1) m26 (up_next hm55 hn29) (Nat.lt_succ_self _) ⟨rfl, rfl, rfl, trivial⟩ (fun w hw => hw.pick [1, 2, 3, 4] (by decide))
        · skip
          have hm56 := br_f h30 hm28; clear hm28
          refine WC.exit ?_
          refine WQ.then_exit ?_
          refine WQ.then_exit ?_
          refine WQ.block_exit ?_
          exact WQ.out1 i12_3 (up_brk hm56 hn29) ⟨rfl, rfl, rfl, trivial⟩ (fun w hw => hw.pick [0, 1, 2, 3] (by decide))
    · skip
      rintro i7_2 m57 hI58
      obtain ⟨m59, s60, rfl, hm61, hn62⟩ := iter_step hI58; clear hI58; unfold roundelayref8_Legal_L0 at hm61
      refine WC.seq ?_
      refine WC.seq ?_
      refine WC.region ?_
      refine WL.q rfl rfl rfl (QV.move rfl rfl) ?_
      refine WL.q rfl rfl rfl (QV.fieldAddr fd63_1 rfl rfl) ?_
      refine WL.q rfl rfl rfl (QV.load pl30 rfl rfl (Own.cell 0 rfl rfl)) ?_
      refine WL.q rfl rfl rfl (QV.lenS Try.underlying30 rfl rfl h_p_times.lenMap) ?_
      refine WL.q rfl rfl rfl (QV.lss rfl rfl rfl rfl) ?_
      refine WL.nil ?_
      refine WQ.then ?_
      refine WC.cond rfl (fun h63 => ?_) (fun h63 => ?_)
      · skip
        have hm64 := br_t h63 hm61; clear hm61
        refine WC.skip ?_
        refine WQ.then ?_
        refine WC.seq ?_
        refine WC.block ?_
        refine WC.seq ?_
        refine WC.seq ?_
        refine WC.region ?_
        refine WL.q rfl rfl rfl (QV.fieldAddr fd63_1 rfl rfl) ?_
        refine WL.q rfl rfl rfl (QV.load pl30 rfl rfl (Own.cell 0 rfl rfl)) ?_
        refine WL.q rfl rfl rfl (QV.move rfl rfl) ?_
        obtain ⟨c65, hm66⟩ := ck_some hm64; clear hm64
        obtain ⟨p67, hp68⟩ := h_p_times.lenMap.ix (sz := 1) ln_len c65
        refine WL.q rfl rfl rfl (QV.indexSlice sl30 rfl rfl rfl rfl hp68) ?_
        refine WL.q rfl rfl rfl (QV.load pl3 rfl rfl (fun w hw => CellsAt.one 0 (((Own.karr 3 rfl hk h_p_times) w hw).ele hp68 c65) rfl)) ?_
        refine WL.q rfl rfl rfl (QV.lss rfl rfl rfl rfl) ?_
        refine WL.q rfl rfl rfl (QV.move rfl rfl) ?_
        refine WL.g rfl rfl (GuardIs.neg rfl rfl) (fun hG => QV.fieldAddr fd63_1 rfl rfl) ?_
        refine WL.g rfl rfl (GuardIs.neg rfl rfl) (fun hG => QV.load pl30 rfl hG (Own.cell 0 rfl rfl)) ?_
        refine WL.g rfl rfl (GuardIs.neg rfl rfl) (fun hG => QV.move rfl rfl) ?_
        obtain ⟨c69, hm70⟩ := ck_some hm66; clear hm66
        obtain ⟨p71, hp72⟩ := h_p_times.lenMap.ixG (sz := 1) ln_len c69
        refine WL.g rfl rfl (GuardIs.neg rfl rfl) (fun hG => QV.indexSlice sl30 rfl hG rfl hG (hp72 hG)) ?_
        refine WL.g rfl rfl (GuardIs.neg rfl rfl) (fun hG => QV.load pl3 rfl hG (fun w hw => CellsAt.one 0 (((Own.karr 3 rfl hk h_p_times) w hw).ele (hp72 hG) (c69 hG)) rfl)) ?_
        refine WL.g rfl rfl (GuardIs.neg rfl rfl) (fun hG => QV.gtr rfl hG rfl rfl) ?_
        refine WL.q rfl rfl rfl (QV.pickOr rfl rfl rfl (fun h => notF h)) ?_
        refine WL.nil ?_
        refine WQ.then ?_
        refine WC.cond rfl (fun h73 => ?_) (fun h73 => ?_)
        · skip
          have hm74 := br_t h73 hm70; clear hm70
          refine WC.seq ?_
          refine WC.region ?_
          refine WL.q rfl rfl rfl (QV.assign rfl rfl) ?_
          refine WL.nil ?_
          refine WQ.then ?_
          refine WC.ret ?_
          refine WQ.then_ret ?_
          refine WQ.block_ret ?_
          refine WQ.then_ret ?_
          refine WQ.then_ret ?_
          refine WQ.block_ret ?_
          refine WQ.then_ret ?_
          refine WQ.then_ret ?_
          obtain rfl := up_ret hm74 hn62
          obtain rfl := (eq_of_some hm12).symm
          refine WQ.ret1 rfl rfl (fun w hw => ?_)
          exact ⟨rfl, Own.kgrow (fun _ x => x) hw⟩
        · skip
          have hm75 := br_f h73 hm70; clear hm70
          refine WC.skip ?_
          refine WQ.then ?_
          refine WC.seq ?_
          refine WC.region ?_
          refine WL.q rfl rfl rfl (QV.fieldAddr fd49_1 rfl rfl) ?_
          refine WL.q rfl rfl rfl (QV.load pl47 rfl rfl (Own.cell 2 rfl rfl)) ?_
          refine WL.q rfl rfl rfl (QV.move rfl rfl) ?_
          obtain ⟨c76, hm77⟩ := ck_some hm75; clear hm75
          obtain ⟨p78, hp79⟩ := h_l_body.lenMap.ix (sz := 9) ln_len c76
          refine WL.q rfl rfl rfl (QV.indexSlice sl47 rfl rfl rfl rfl hp79) ?_
          refine WL.q rfl rfl rfl (QV.fieldAddr fd59_0 rfl rfl) ?_
          refine WL.q rfl rfl rfl (QV.load pl3 rfl rfl (fun w hw => CellsAt.one 0 (((Own.karr 3 rfl hk h_l_body) w hw).ele hp79 c76) rfl)) ?_
          obtain ⟨x80, hx81, hm82⟩ := bd_some hm77; clear hm77
          refine WL.q rfl rfl rfl (QV.call en52 (EvAll.cons rfl rfl EvAll.nil) (fun w hw => have h := roundelayref1_Class_w w hx81 ; h)) ?_
          refine WL.q rfl rfl rfl (QV.assign rfl rfl) ?_
          refine WL.nil ?_
          refine WQ.then ?_
          refine WC.seq ?_
          refine WC.region ?_
          refine WL.q rfl rfl rfl (QV.assign rfl rfl) ?_
          refine WL.nil ?_
          refine WQ.then ?_
          refine WC.seq ?_
          refine WC.seq ?_
          refine WC.region ?_
          refine WL.q rfl rfl rfl (QV.assign rfl rfl) ?_
          refine WL.nil ?_
          refine WQ.then ?_
          obtain ⟨o83, ho84, hm85⟩ := bd_some hm82; clear hm82; obtain ⟨n86, ho87⟩ := lp_some ho84
          refine WC.bloop2 (H2 := [blk b3 [.int .i64 p.pace, v_p_times] 63, blk b2 [.int .i64 t.u0, .int .i64 t.u1, .int .i64 t.u2, .int .i64 t.w0, .int .i64 t.w1, .int .i64 t.w2, .int .i64 t.regs] 24, blk b1 [v_l_logs, v_l_body, v_l_outs] 49, kn noM w.heap.size w w]) (τ := [(3, (true, _)), (4, (true, _)), (5, (true, _)), (7, (true, _)), (8, (true, _))]) (fun (many9_4 : Int) (j10_4 : Int) => [(9, (true, .int .i64 many9_4)), (10, (true, .int .i64 j10_4))]) (fun (many9_4 : Int) (j10_4 : Int) => []) (fun (many9_4 : Int) (j10_4 : Int) (m : Nat) => iter (roundelayref8_Legal_L2 l p i7_2 x80) m (many9_4, j10_4) = some o83) (fun (many9_4 : Int) (j10_4 : Int) => o83 = .go (many9_4, j10_4)) 0 0 n86 ho87 ⟨rfl, rfl, rfl, rfl, rfl, rfl, rfl, trivial⟩ (fun w hw => hw.pick [0, 1, 2, 3] (by decide)) ?_ ?_
          · skip
            rintro many9_4 j10_4 rfl
            refine WQ.then ?_
            refine WC.seq ?_
            refine WC.region ?_
            refine WL.q rfl rfl rfl (QV.move rfl rfl) ?_
            refine WL.q rfl rfl rfl (QV.move rfl rfl) ?_
            refine WL.q rfl rfl rfl (QV.fieldAddr fd24_0 rfl rfl) ?_
            obtain ⟨c88, hm89⟩ := ck_some hm85; clear hm85
            refine WL.q rfl rfl rfl (QV.indexArray ar22 rfl rfl rfl rfl c88.1 c88.2) ?_
            refine WL.q rfl rfl rfl (QV.load pl3 rfl rfl (Own.cellSym 1 rfl (sel3_get (off := 0) (i := x80) c88.1 c88.2 rfl rfl rfl) (addr_sym _ _ _))) ?_
            refine WL.q rfl rfl rfl (QV.gtr rfl rfl rfl rfl) ?_
            refine WL.nil ?_
            refine WQ.then ?_
            refine WC.cond rfl (fun h90 => ?_) (fun h90 => ?_)
            · skip
              have hm91 := br_t h90 hm89; clear hm89
              refine WC.seq ?_
              refine WC.region ?_
              refine WL.q rfl rfl rfl (QV.assign rfl rfl) ?_
              refine WL.nil ?_
              refine WQ.then ?_
              refine WC.ret ?_
              refine WQ.block_ret ?_
              refine WQ.then_ret ?_
              refine WQ.then_ret ?_
              refine WQ.block_ret ?_
              refine WQ.then_ret ?_
              refine WQ.then_ret ?_
              obtain rfl := up_ret hm91 hn62
              obtain rfl := (eq_of_some hm12).symm
              refine WQ.ret1 rfl rfl (fun w hw => ?_)
              exact ⟨rfl, Own.kgrow (fun _ x => x) hw⟩
            · skip
              have hm92 := br_f h90 hm89; clear hm89
              refine WC.skip ?_
              refine WQ.block ?_
              refine WQ.then ?_
              refine WC.region ?_
              refine WL.q rfl rfl rfl (QV.move rfl rfl) ?_
              obtain ⟨c93, hm94⟩ := ck_some hm92; clear hm92
              refine WL.q rfl rfl rfl (QV.add rfl rfl rfl rfl c93) ?_
              refine WL.q rfl rfl rfl (QV.assign rfl rfl) ?_
              refine WL.nil ?_
              exact WQ.again1 (i7_2 + 1) m59 (up_next hm94 hn62) (Nat.lt_succ_self _) ⟨rfl, rfl, rfl, rfl, trivial⟩ (fun w hw => hw.pick [0, 1, 2, 3] (by decide))
          · skip
            rintro many9_4 j10_4 m95 hI96
            obtain ⟨m97, s98, rfl, hm99, hn100⟩ := iter_step hI96; clear hI96; unfold roundelayref8_Legal_L2 at hm99; simp only at hm99
            refine WC.seq ?_
            refine WC.seq ?_
            refine WC.region ?_
            refine WL.q rfl rfl rfl (QV.move rfl rfl) ?_
            refine WL.q rfl rfl rfl (QV.fieldAddr fd63_1 rfl rfl) ?_
            refine WL.q rfl rfl rfl (QV.load pl30 rfl rfl (Own.cell 0 rfl rfl)) ?_
            refine WL.q rfl rfl rfl (QV.lenS Try.underlying30 rfl rfl h_p_times.lenMap) ?_
            refine WL.q rfl rfl rfl (QV.lss rfl rfl rfl rfl) ?_
            refine WL.nil ?_
            refine WQ.then ?_
            refine WC.cond rfl (fun h101 => ?_) (fun h101 => ?_)
            · skip
              have hm102 := br_t h101 hm99; clear hm99
              refine WC.skip ?_
              refine WQ.then ?_
              refine WC.seq ?_
              refine WC.block ?_
              refine WC.seq ?_
              refine WC.dr (m := 28) (S := Own noM w [kn noM w.heap.size w w, blk b3 [.int .i64 p.pace, v_p_times] 63, blk b2 [.int .i64 t.u0, .int .i64 t.u1, .int .i64 t.u2, .int .i64 t.w0, .int .i64 t.w1, .int .i64 t.w2, .int .i64 t.regs] 24, blk b1 [v_l_logs, v_l_body, v_l_outs] 49]) (by kernel_rfl) (by kernel_rfl) (fun w hw => hw.pick [3, 0, 1, 2] (by decide)) ?_
              refine WD.q 0 rfl (by kernel_rfl) rfl rfl rfl (QV.fieldAddr fd63_1 rfl rfl) ?_
              refine WD.q 1 rfl (by kernel_rfl) rfl rfl rfl (QV.load pl30 rfl rfl (Own.cell 1 rfl rfl)) ?_
              refine WD.q 2 rfl (by kernel_rfl) rfl rfl rfl (QV.move rfl rfl) ?_
              obtain ⟨c103, hm104⟩ := ck_some hm102; clear hm102
              obtain ⟨p105, hp106⟩ := h_p_times.lenMap.ix (sz := 1) ln_len c103
              refine WD.q 3 rfl (by kernel_rfl) rfl rfl rfl (QV.indexSlice sl30 rfl rfl rfl rfl hp106) ?_
              refine WD.q 4 rfl (by kernel_rfl) rfl rfl rfl (QV.load pl3 rfl rfl (fun w hw => CellsAt.one 0 (((Own.karr 0 rfl hk h_p_times) w hw).ele hp106 c103) rfl)) ?_
              refine WD.q 5 rfl (by kernel_rfl) rfl rfl rfl (QV.fieldAddr fd63_0 rfl rfl) ?_
              refine WD.q 6 rfl (by kernel_rfl) rfl rfl rfl (QV.load pl3 rfl rfl (Own.cell 1 rfl rfl)) ?_
              obtain ⟨c107, hm108⟩ := ck_some hm104; clear hm104
              refine WD.q 7 rfl (by kernel_rfl) rfl rfl rfl (QV.rem rfl rfl rfl rfl c107) ?_
              refine WD.q 8 rfl (by kernel_rfl) rfl rfl rfl (QV.fieldAddr fd63_1 rfl rfl) ?_
              refine WD.q 9 rfl (by kernel_rfl) rfl rfl rfl (QV.load pl30 rfl rfl (Own.cell 1 rfl rfl)) ?_
              refine WD.q 10 rfl (by kernel_rfl) rfl rfl rfl (QV.move rfl rfl) ?_
              obtain ⟨c109, hm110⟩ := ck_some hm108; clear hm108
              obtain ⟨p111, hp112⟩ := h_p_times.lenMap.ix (sz := 1) ln_len c109
              refine WD.q 11 rfl (by kernel_rfl) rfl rfl rfl (QV.indexSlice sl30 rfl rfl rfl rfl hp112) ?_
              refine WD.q 12 rfl (by kernel_rfl) rfl rfl rfl (QV.load pl3 rfl rfl (fun w hw => CellsAt.one 0 (((Own.karr 0 rfl hk h_p_times) w hw).ele hp112 c109) rfl)) ?_
              refine WD.q 13 rfl (by kernel_rfl) rfl rfl rfl (QV.fieldAddr fd63_0 rfl rfl) ?_
              refine WD.q 14 rfl (by kernel_rfl) rfl rfl rfl (QV.load pl3 rfl rfl (Own.cell 1 rfl rfl)) ?_
              obtain ⟨c113, hm114⟩ := ck_some hm110; clear hm110
              refine WD.q 15 rfl (by kernel_rfl) rfl rfl rfl (QV.rem rfl rfl rfl rfl c113) ?_
              refine WD.q 16 rfl (by kernel_rfl) rfl rfl rfl (QV.eql rfl rfl rfl rfl) ?_
              refine WD.q 17 rfl (by kernel_rfl) rfl rfl rfl (QV.move rfl rfl) ?_
              refine WD.g 18 rfl (by kernel_rfl) rfl rfl (GuardIs.pos rfl rfl) (fun hG => QV.fieldAddr fd49_1 rfl rfl) ?_
              refine WD.g 19 rfl (by kernel_rfl) rfl rfl (GuardIs.pos rfl rfl) (fun hG => QV.load pl47 rfl hG (Own.cell 3 rfl rfl)) ?_
              refine WD.g 20 rfl (by kernel_rfl) rfl rfl (GuardIs.pos rfl rfl) (fun hG => QV.move rfl rfl) ?_
              obtain ⟨c115, hm116⟩ := ck_some hm114; clear hm114
              obtain ⟨p117, hp118⟩ := h_l_body.lenMap.ixG (sz := 9) ln_len c115
              refine WD.g 21 rfl (by kernel_rfl) rfl rfl (GuardIs.pos rfl rfl) (fun hG => QV.indexSlice sl47 rfl hG rfl hG (hp118 hG)) ?_
              refine WD.g 22 rfl (by kernel_rfl) rfl rfl (GuardIs.pos rfl rfl) (fun hG => QV.fieldAddr fd59_0 rfl hG) ?_
              refine WD.g 23 rfl (by kernel_rfl) rfl rfl (GuardIs.pos rfl rfl) (fun hG => QV.load pl3 rfl hG (fun w hw => CellsAt.one 0 (((Own.karr 0 rfl hk h_l_body) w hw).ele (hp118 hG) (c115 hG)) rfl)) ?_
              obtain ⟨x119, hx120, hm121⟩ := bdG_some hm116; clear hm116
              refine WD.g 24 rfl (by kernel_rfl) rfl rfl (GuardIs.pos rfl rfl) (fun hG => QV.call en52 (EvAll.cons rfl hG EvAll.nil) (fun w hw => have h := roundelayref1_Class_w w (hx120 hG) ; h)) ?_
              refine WD.g 25 rfl (by kernel_rfl) rfl rfl (GuardIs.pos rfl rfl) (fun hG => QV.move rfl rfl) ?_
              refine WD.g 26 rfl (by kernel_rfl) rfl rfl (GuardIs.pos rfl rfl) (fun hG => QV.eql rfl hG rfl hG) ?_
              refine WD.q 27 rfl (by kernel_rfl) rfl rfl rfl (QV.pickAnd rfl rfl rfl (fun h => h)) ?_
              refine WD.e (by kernel_rfl) ?_
              refine WQ.then ?_
              refine WC.cond rfl (fun h122 => ?_) (fun h122 => ?_)
              · skip
                have hm123 := br_t h122 hm121; clear hm121
                refine WC.region ?_
                refine WL.q rfl rfl rfl (QV.move rfl rfl) ?_
                obtain ⟨c124, hm125⟩ := ck_some hm123; clear hm123
                refine WL.q rfl rfl rfl (QV.add rfl rfl rfl rfl c124) ?_
                refine WL.q rfl rfl rfl (QV.assign rfl rfl) ?_
                refine WL.nil ?_
                refine WQ.block ?_
                refine WQ.then ?_
                refine WC.region ?_
                refine WL.q rfl rfl rfl (QV.move rfl rfl) ?_
                obtain ⟨c126, hm127⟩ := ck_some hm125; clear hm125
                refine WL.q rfl rfl rfl (QV.add rfl rfl rfl rfl c126) ?_
                refine WL.q rfl rfl rfl (QV.assign rfl rfl) ?_
                refine WL.nil ?_
                exact WQ.again2 (many9_4 + 1) (j10_4 + 1) m97 (up_next hm127 hn100) (Nat.lt_succ_self _) ⟨rfl, rfl, rfl, rfl, rfl, rfl, rfl, trivial⟩ (fun w hw => hw.pick [0, 1, 2, 3] (by decide))
              · skip
                have hm128 := br_f h122 hm121; clear hm121
                refine WC.skip ?_
                refine WQ.block ?_
                refine WQ.then ?_
                refine WC.region ?_
                refine WL.q rfl rfl rfl (QV.move rfl rfl) ?_
                obtain ⟨c129, hm130⟩ := ck_some hm128; clear hm128
                refine WL.q rfl rfl rfl (QV.add rfl rfl rfl rfl c129) ?_
                refine WL.q rfl rfl rfl (QV.assign rfl rfl) ?_
                refine WL.nil ?_
                exact WQ.again2 many9_4 (j10_4 + 1) m97 (up_next hm130 hn100) (Nat.lt_succ_self _) ⟨rfl, rfl, rfl, rfl, rfl, rfl, rfl, trivial⟩ (fun w hw => hw.pick [0, 1, 2, 3] (by decide))
            · skip
              have hm131 := br_f h101 hm99; clear hm99
              refine WC.exit ?_
              refine WQ.then_exit ?_
              refine WQ.then_exit ?_
              refine WQ.block_exit ?_
              exact WQ.out2 many9_4 j10_4 (up_brk hm131 hn100) ⟨rfl, rfl, rfl, rfl, rfl, rfl, rfl, trivial⟩ (fun w hw => hw.pick [0, 1, 2, 3] (by decide))
      · skip
        have hm132 := br_f h63 hm61; clear hm61
        refine WC.exit ?_
        refine WQ.then_exit ?_
        refine WQ.then_exit ?_
        refine WQ.block_exit ?_
        exact WQ.out1 i7_2 (up_brk hm132 hn62) ⟨rfl, rfl, rfl, rfl, trivial⟩ (fun w hw => hw.pick [0, 1, 2, 3] (by decide))

end Go.Proofs.Ytaimbkndebaaiab
end
