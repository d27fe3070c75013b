/- Texts that the law stands on: part 7. -/
import Derived.Test.YtaimbkndebaaiacZLbuildMakes6
import Derived.Test.YtaimbkndebaaiacProg
import Derived.KernelRfl
set_option linter.unusedVariables false
set_option linter.unusedSimpArgs false
set_option maxRecDepth 8000
section
namespace Go.Proofs.Ytaimbkndebaaiac
open Go.Rd
open TNum TLoop TKern TKeep TOrd TCpt TDep TSched1 TEmit TCheck TRegs TBound TMake TBuild TRDep TRSched TRBound
namespace TR10
theorem ag73 : AggT Try.prog 73 3 := ⟨_, Try.underlying73, rfl, by kernel_rfl⟩
theorem en112 : Go.Rd.Enters Try.prog 112 := ⟨Try.f112, Try.func112, by kernel_rfl, by kernel_rfl⟩
theorem en16 : Go.Rd.Enters Try.prog 16 := ⟨Try.f16, Try.func16, by kernel_rfl, by kernel_rfl⟩
theorem en22 : Go.Rd.Enters Try.prog 22 := ⟨Try.f22, Try.func22, by kernel_rfl, by kernel_rfl⟩
theorem en32 : Go.Rd.Enters Try.prog 32 := ⟨Try.f32, Try.func32, by kernel_rfl, by kernel_rfl⟩
theorem en33 : Go.Rd.Enters Try.prog 33 := ⟨Try.f33, Try.func33, by kernel_rfl, by kernel_rfl⟩
theorem en34 : Go.Rd.Enters Try.prog 34 := ⟨Try.f34, Try.func34, by kernel_rfl, by kernel_rfl⟩
theorem en49 : Go.Rd.Enters Try.prog 49 := ⟨Try.f49, Try.func49, by kernel_rfl, by kernel_rfl⟩
theorem en78 : Go.Rd.Enters Try.prog 78 := ⟨Try.f78, Try.func78, by kernel_rfl, by kernel_rfl⟩
theorem fd73_0 : FieldT Try.prog 73 0 0 := ⟨_, _, 0, Try.underlying73, rfl, rfl, by kernel_rfl⟩
theorem fd73_1 : FieldT Try.prog 73 1 1 := ⟨_, _, 0, Try.underlying73, rfl, rfl, by kernel_rfl⟩
theorem fd73_2 : FieldT Try.prog 73 2 2 := ⟨_, _, 0, Try.underlying73, rfl, rfl, by kernel_rfl⟩
theorem sl52 : SliceT Try.prog 52 73 3 := ⟨Try.underlying52, by kernel_rfl⟩
theorem sz73 : SizeT Try.prog 73 3 := by unfold SizeT; kernel_rfl
theorem sz_52 : SliceZ Try.prog 52 73 3 [.int .i64 0, .int .i64 0, .int .i64 0] := ⟨Try.underlying52, by kernel_rfl⟩
theorem ve52 : VecT Try.prog 52 73 3 24 := ⟨Try.underlying52, by kernel_rfl, by decide⟩
theorem ze73 : ZeroT Try.prog 73 [.int .i64 0, .int .i64 0, .int .i64 0] := by unfold ZeroT; kernel_rfl
end TR10
open TR10
theorem R5_Uses_w {op : Int} {r : Int} (w : World) (hm : R5_Uses_m op = some r)  : Calls Try.prog 112 #[.int .i64 op] w (fun e w' => e = .returned (.int .i64 r) ∧ Grow w w') := by
 unfold R5_Uses_m at hm
 have hk := Base.rfl (w := w)
 refine calls_of_WC (n := 7) (args := [.int .i64 op]) Try.func112 Z Z (Nat.le_of_ble_eq_true Z) ?_ (Own.startK hk (Own.start w))
 refine sr ?_
 refine wa Z ?_
 refine nt (WC.seq (sr ?_))
 refine wm Z ?_
 refine wq Z (QV.eql Z Z Z Z) ?_
 refine nt ?_
 refine WC.cond Z (fun h1 => ?_) (fun h1 => ?_)
 ·skip
  have hm2 := br_t h1 hm; clear hm
  refine sr ?_
  refine wa Z ?_
  refine nt (WC.ret (tr ?_))
  obtain rfl := (eq_of_some hm2).symm
  refine WQ.ret1 Z Z (fun w hw => ?_)
  exact ⟨Z, Own.kgrow (fun _ x => x) hw⟩
 have hm3 := br_f h1 hm; clear hm
 refine sk (WQ.then (WC.seq (sr ?_)))
 refine wm Z ?_
 refine wq Z (QV.gtr Z Z Z Z) ?_
 refine nt ?_
 refine WC.cond Z (fun h4 => ?_) (fun h4 => ?_)
 ·skip
  have hm5 := br_t h4 hm3; clear hm3
  refine sr ?_
  refine wa Z ?_
  refine nt (WC.ret (tr ?_))
  obtain rfl := (eq_of_some hm5).symm
  refine WQ.ret1 Z Z (fun w hw => ?_)
  exact ⟨Z, Own.kgrow (fun _ x => x) hw⟩
 have hm6 := br_f h4 hm3; clear hm3
 refine sk (WQ.then (sr ?_))
 refine wa Z ?_
 refine nt (WC.ret ?_)
 obtain rfl := (eq_of_some hm6).symm
 refine WQ.ret1 Z Z (fun w hw => ?_)
 exact ⟨Z, Own.kgrow (fun _ x => x) hw⟩
theorem R5_one_w {v_k__ops : Value} {v_logs : Value} {t : Tgt} {k_ : Krn} {o : Opr} {logs : List Int} {r : Bool} (w : World) (hm : R5_one_m t k_ o logs = some r) (h_k__ops : Arr w v_k__ops 10 (k_.ops.map Opr.cells)) (h_logs : Arr w v_logs 1 (logs.map icell)) : Calls Try.prog 78 #[.agg #[.int .i64 t.u0, .int .i64 t.u1, .int .i64 t.u2, .int .i64 t.w0, .int .i64 t.w1, .int .i64 t.w2, .int .i64 t.regs], .agg #[.int .i64 k_.pace, .int .i64 k_.stages, v_k__ops], .agg #[.int .i64 o.slot, .int .i64 o.stage, .int .i64 o.op, .int .i64 o.dest, .int .i64 o.a, .int .i64 o.b, .int .i64 o.ar, .int .i64 o.sp, .int .i64 o.pl, .int .i64 o.n], v_logs] w (fun e w' => e = .returned (.bool r) ∧ Grow w w') := by
 unfold R5_one_m at hm
 have hk := Base.rfl (w := w)
 refine calls_of_WC (n := 116) (args := [.agg #[.int .i64 t.u0, .int .i64 t.u1, .int .i64 t.u2, .int .i64 t.w0, .int .i64 t.w1, .int .i64 t.w2, .int .i64 t.regs], .agg #[.int .i64 k_.pace, .int .i64 k_.stages, v_k__ops], .agg #[.int .i64 o.slot, .int .i64 o.stage, .int .i64 o.op, .int .i64 o.dest, .int .i64 o.a, .int .i64 o.b, .int .i64 o.ar, .int .i64 o.sp, .int .i64 o.pl, .int .i64 o.n], v_logs]) Try.func78 Z Z (Nat.le_of_ble_eq_true Z) ?_ (Own.startK hk (Own.start w))
 refine sr ?_
 refine WL.effect Z ?_
 refine (EV.boxAgg (by decide) Z Z (fun b1 => ?_))
 refine WL.effect Z ?_
 refine (EV.boxAgg (by decide) Z Z (fun b2 => ?_))
 refine WL.effect Z ?_
 refine (EV.boxAgg (by decide) Z Z (fun b3 => ?_))
 refine wa Z ?_
 refine nt (WC.seq (sr ?_))
 refine wf fd75_0 Z ?_
 refine wl pl3 Z (Own.cell 0 Z Z) ?_
 refine wq Z (QV.lss Z Z Z Z) ?_
 refine wm Z ?_
 refine gn Z (fun hG => QV.fieldAddr fd75_0 Z Z) ?_
 refine gn Z (fun hG => QV.load pl3 Z hG (Own.cell 0 Z Z)) ?_
 refine gn Z (fun hG => QV.fieldAddr fd31_0 Z Z) ?_
 refine gn Z (fun hG => QV.load pl3 Z hG (Own.cell 1 Z Z)) ?_
 refine gn Z (fun hG => QV.geq Z hG Z hG) ?_
 refine wq Z (QV.pickOr Z Z Z (fun h => notF h)) ?_
 refine wm Z ?_
 refine gn Z (fun hG => QV.fieldAddr fd75_1 Z Z) ?_
 refine gn Z (fun hG => QV.load pl3 Z hG (Own.cell 0 Z Z)) ?_
 refine gn Z (fun hG => QV.lss Z hG Z Z) ?_
 refine wq Z (QV.pickOr Z Z Z (fun h => notF h)) ?_
 refine wm Z ?_
 refine gn Z (fun hG => QV.fieldAddr fd75_1 Z Z) ?_
 refine gn Z (fun hG => QV.load pl3 Z hG (Own.cell 0 Z Z)) ?_
 refine gn Z (fun hG => QV.fieldAddr fd31_1 Z Z) ?_
 refine gn Z (fun hG => QV.load pl3 Z hG (Own.cell 1 Z Z)) ?_
 refine gn Z (fun hG => QV.geq Z hG Z hG) ?_
 refine wq Z (QV.pickOr Z Z Z (fun h => notF h)) ?_
 refine wm Z ?_
 refine gn Z (fun hG => QV.fieldAddr fd75_1 Z Z) ?_
 refine gn Z (fun hG => QV.load pl3 Z hG (Own.cell 0 Z Z)) ?_
 refine gn Z (fun hG => QV.fieldAddr fd31_0 Z Z) ?_
 refine gn Z (fun hG => QV.load pl3 Z hG (Own.cell 1 Z Z)) ?_
 obtain ⟨c4, hm5⟩ := cs hm; clear hm
 refine gn Z (fun hG => QV.mul Z hG Z hG (c4 hG)) ?_
 refine gn Z (fun hG => QV.fieldAddr fd75_0 Z Z) ?_
 refine gn Z (fun hG => QV.load pl3 Z hG (Own.cell 0 Z Z)) ?_
 obtain ⟨c6, hm7⟩ := cs hm5; clear hm5
 refine gn Z (fun hG => QV.add Z hG Z hG (c6 hG)) ?_
 refine gn Z (fun hG => QV.gtr Z hG Z Z) ?_
 refine wq Z (QV.pickOr Z Z Z (fun h => notF h)) ?_
 refine nt ?_
 refine WC.cond Z (fun h8 => ?_) (fun h8 => ?_)
 ·skip
  have hm9 := br_t h8 hm7; clear hm7
  refine sr ?_
  refine wa Z ?_
  refine nt (WC.ret (tr ?_))
  obtain rfl := (eq_of_some hm9).symm
  refine WQ.ret1 Z Z (fun w hw => ?_)
  exact ⟨Z, Own.kgrow (fun _ x => x) hw⟩
 have hm10 := br_f h8 hm7; clear hm7
 refine sk (WQ.then (sr ?_))
 refine wf fd75_2 Z ?_
 refine wl pl3 Z (Own.cell 0 Z Z) ?_
 obtain ⟨x11, hx12, hm13⟩ := bd_some hm10; clear hm10
 refine wq Z (QV.call en112 (EvAll.cons Z Z EvAll.nil) (fun w hw => have h := R5_Uses_w w hx12 ; h)) ?_
 refine wa Z ?_
 refine nt (WC.seq (sr ?_))
 refine wf fd75_3 Z ?_
 refine wl pl3 Z (Own.cell 0 Z Z) ?_
 refine wq Z (QV.lss Z Z Z Z) ?_
 refine wm Z ?_
 refine gn Z (fun hG => QV.fieldAddr fd75_3 Z Z) ?_
 refine gn Z (fun hG => QV.load pl3 Z hG (Own.cell 0 Z Z)) ?_
 refine gn Z (fun hG => QV.fieldAddr fd28_2 Z Z) ?_
 refine gn Z (fun hG => QV.load pl3 Z hG (Own.cell 2 Z Z)) ?_
 refine gn Z (fun hG => QV.geq Z hG Z hG) ?_
 refine wq Z (QV.pickOr Z Z Z (fun h => notF h)) ?_
 refine wm Z ?_
 refine gn Z (fun hG => QV.fieldAddr fd75_4 Z Z) ?_
 refine gn Z (fun hG => QV.load pl3 Z hG (Own.cell 0 Z Z)) ?_
 refine gn Z (fun hG => QV.lss Z hG Z Z) ?_
 refine wq Z (QV.pickOr Z Z Z (fun h => notF h)) ?_
 refine wm Z ?_
 refine gn Z (fun hG => QV.fieldAddr fd75_5 Z Z) ?_
 refine gn Z (fun hG => QV.load pl3 Z hG (Own.cell 0 Z Z)) ?_
 refine gn Z (fun hG => QV.lss Z hG Z Z) ?_
 refine wq Z (QV.pickOr Z Z Z (fun h => notF h)) ?_
 refine wm Z ?_
 refine gn Z (fun hG => QV.fieldAddr fd75_4 Z Z) ?_
 refine gn Z (fun hG => QV.load pl3 Z hG (Own.cell 0 Z Z)) ?_
 refine gn Z (fun hG => QV.fieldAddr fd28_2 Z Z) ?_
 refine gn Z (fun hG => QV.load pl3 Z hG (Own.cell 2 Z Z)) ?_
 refine gn Z (fun hG => QV.geq Z hG Z hG) ?_
 refine wq Z (QV.pickOr Z Z Z (fun h => notF h)) ?_
 refine wm Z ?_
 refine gn Z (fun hG => QV.fieldAddr fd75_5 Z Z) ?_
 refine gn Z (fun hG => QV.load pl3 Z hG (Own.cell 0 Z Z)) ?_
 refine gn Z (fun hG => QV.fieldAddr fd28_2 Z Z) ?_
 refine gn Z (fun hG => QV.load pl3 Z hG (Own.cell 2 Z Z)) ?_
 refine gn Z (fun hG => QV.geq Z hG Z hG) ?_
 refine wq Z (QV.pickOr Z Z Z (fun h => notF h)) ?_
 refine wm Z ?_
 refine gn Z (fun hG => QV.move Z Z) ?_
 refine gn Z (fun hG => QV.lss Z hG Z Z) ?_
 refine gn Z (fun hG => QV.move Z hG) ?_
 refine WL.g Z Z (GuardIs.posC Z Z) (fun hG => QV.fieldAddr fd75_4 Z Z) ?_
 refine WL.g Z Z (GuardIs.posC Z Z) (fun hG => QV.load pl3 Z hG (Own.cell 0 Z Z)) ?_
 refine WL.g Z Z (GuardIs.posC Z Z) (fun hG => QV.neq Z hG Z Z) ?_
 refine gn Z (fun hG => QV.pickAnd Z hG Z (fun h => andT hG h)) ?_
 refine wq Z (QV.pickOr Z Z Z (fun h => notF h)) ?_
 refine wm Z ?_
 refine gn Z (fun hG => QV.move Z Z) ?_
 refine gn Z (fun hG => QV.lss Z hG Z Z) ?_
 refine gn Z (fun hG => QV.move Z hG) ?_
 refine WL.g Z Z (GuardIs.posC Z Z) (fun hG => QV.fieldAddr fd75_5 Z Z) ?_
 refine WL.g Z Z (GuardIs.posC Z Z) (fun hG => QV.load pl3 Z hG (Own.cell 0 Z Z)) ?_
 refine WL.g Z Z (GuardIs.posC Z Z) (fun hG => QV.neq Z hG Z Z) ?_
 refine gn Z (fun hG => QV.pickAnd Z hG Z (fun h => andT hG h)) ?_
 refine wq Z (QV.pickOr Z Z Z (fun h => notF h)) ?_
 refine nt ?_
 refine WC.cond Z (fun h14 => ?_) (fun h14 => ?_)
 ·skip
  have hm15 := br_t h14 hm13; clear hm13
  refine sr ?_
  refine wa Z ?_
  refine nt (WC.ret (tr ?_))
  obtain rfl := (eq_of_some hm15).symm
  refine WQ.ret1 Z Z (fun w hw => ?_)
  exact ⟨Z, Own.kgrow (fun _ x => x) hw⟩
 have hm16 := br_f h14 hm13; clear hm13
 refine sk (WQ.then (sr ?_))
 refine wf fd75_2 Z ?_
 refine wl pl3 Z (Own.cell 0 Z Z) ?_
 refine wf fd75_6 Z ?_
 refine wl pl3 Z (Own.cell 0 Z Z) ?_
 refine wf fd75_7 Z ?_
 refine wl pl3 Z (Own.cell 0 Z Z) ?_
 refine wf fd75_8 Z ?_
 refine wl pl3 Z (Own.cell 0 Z Z) ?_
 refine wf fd75_9 Z ?_
 refine wl pl2 Z (Own.cell 0 Z Z) ?_
 refine wq Z (QV.build (ps := [(0, .tmp 100), (3, .tmp 102), (4, .tmp 104), (5, .tmp 106), (6, .tmp 108)]) (cells := [.int .i64 o.op, .int .i64 0, .int .i64 0, .int .i64 0, .int .i64 0, .int .i64 o.ar, .int .i64 o.sp, .int .i64 o.pl, .int .i64 o.n]) (EvAll.cons Z Z (EvAll.cons Z Z (EvAll.cons Z Z (EvAll.cons Z Z (EvAll.cons Z Z EvAll.nil))))) (by kernel_rfl)) ?_
 refine WL.effect Z ?_
 refine (EV.alloc (by decide) ze81 (fun b17 => ?_))
 refine WL.effect Z ?_
 refine (EV.store 0 Z Z Z Z Z Z (vs := [.int .i64 o.op, .int .i64 0, .int .i64 0, .int .i64 0, .int .i64 0, .int .i64 o.ar, .int .i64 o.sp, .int .i64 o.pl, .int .i64 o.n]) (show Value.cells _ = List.toArray _ from Z) sz81 (Nat.le_of_ble_eq_true Z) (one_cons Z (one_cons Z (one_cons Z (one_cons Z (one_cons Z (one_cons Z (one_cons Z (one_cons Z (one_cons Z one_nil))))))))) ?_)
 refine ns ?_
 refine wm Z ?_
 refine wq Z (QV.build (ps := [(0, .const (.int .i64 2))]) (cells := [.int .i64 2, .int .i64 0, .int .i64 0, .int .i64 0, .int .i64 0, .int .i64 0, .int .i64 0, .int .i64 0, .int .i64 0]) (EvAll.cons Z Z EvAll.nil) (by kernel_rfl)) ?_
 refine wq Z (QV.loadAgg ag81 Z Z Z (Own.cellsBlk 0 Z)) ?_
 refine WL.effect Z ?_
 refine (EV.buildSlice (by decide) sz_23 (by decide) (by decide) (ps := [(0, .tmp 111), (1, .tmp 112)]) (cells := [.int .i64 2, .int .i64 0, .int .i64 0, .int .i64 0, .int .i64 0, .int .i64 0, .int .i64 0, .int .i64 0, .int .i64 0, .int .i64 o.op, .int .i64 0, .int .i64 0, .int .i64 0, .int .i64 0, .int .i64 o.ar, .int .i64 o.sp, .int .i64 o.pl, .int .i64 o.n]) (EvAll.cons Z Z (EvAll.cons Z Z EvAll.nil)) (by kernel_rfl) (fun b18 => ?_))
 refine wq Z (QV.buildS (ps := [(0, .tmp 110), (1, .tmp 113)]) (cells := [v_logs, (blkSlice b18 2 2), .slice none 0 0]) (css := [[v_logs], [(blkSlice b18 2 2)]]) (EvAll.cons Z Z (EvAll.cons Z Z EvAll.nil)) (CellsAll.cons (SliceLen.cells h_logs.lenMap) (CellsAll.cons (SliceLen.cells SliceLen.blk) CellsAll.nil)) (by kernel_rfl)) ?_
 obtain ⟨x19, hx20, hm21⟩ := bd_some hm16; clear hm16
 refine wq Z (QV.call en43 (EvAll.cons Z Z EvAll.nil) (fun w hw => have h := R2_May_w w hx20 ((Own.karr 5 Z hk h_logs) w hw) ((Own.blkArr 0 (rows := [(Stm.mk 2 (Rf.mk 0 0) (Rf.mk 0 0) 0 0 0 0), (Stm.mk o.op (Rf.mk 0 0) (Rf.mk 0 0) o.ar o.sp o.pl o.n)].map Stm.cells) Z Z (rows_len Stm.cells_len)) w hw) Arr.nil; h)) ?_
 refine wa Z ?_
 refine nt (WC.ret ?_)
 obtain rfl := (eq_of_some hm21).symm
 refine WQ.ret1 Z Z (fun w hw => ?_)
 exact ⟨Z, Own.kgrow (fun _ x => x) hw⟩
theorem R5_May_w {v_k__ops : Value} {v_logs : Value} {t : Tgt} {k_ : Krn} {logs : List Int} {r : Bool} (w : World) (hm : R5_May_m t k_ logs = some r) (h_k__ops : Arr w v_k__ops 10 (k_.ops.map Opr.cells)) (h_logs : Arr w v_logs 1 (logs.map icell)) : Calls Try.prog 49 #[.agg #[.int .i64 t.u0, .int .i64 t.u1, .int .i64 t.u2, .int .i64 t.w0, .int .i64 t.w1, .int .i64 t.w2, .int .i64 t.regs], .agg #[.int .i64 k_.pace, .int .i64 k_.stages, v_k__ops], v_logs] w (fun e w' => e = .returned (.bool r) ∧ Grow w w') := by
 unfold R5_May_m at hm
 have hk := Base.rfl (w := w)
 refine calls_of_WC (n := 96) (args := [.agg #[.int .i64 t.u0, .int .i64 t.u1, .int .i64 t.u2, .int .i64 t.w0, .int .i64 t.w1, .int .i64 t.w2, .int .i64 t.regs], .agg #[.int .i64 k_.pace, .int .i64 k_.stages, v_k__ops], v_logs]) Try.func49 Z Z (Nat.le_of_ble_eq_true Z) ?_ (Own.startK hk (Own.start w))
 refine sr ?_
 refine WL.effect Z ?_
 refine (EV.boxAgg (by decide) Z Z (fun b1 => ?_))
 refine WL.effect Z ?_
 refine (EV.boxAgg (by decide) Z Z (fun b2 => ?_))
 refine wa Z ?_
 refine nt (WC.seq (sr ?_))
 refine wq Z (QV.loadAgg ag28 Z Z Z (Own.cellsBlk 1 Z)) ?_
 obtain ⟨x3, hx4, hm5⟩ := bd_some hm; clear hm
 refine wq Z (QV.call en44 (EvAll.cons Z Z EvAll.nil) (fun w hw => have h := R4_May_w w hx4 ; h)) ?_
 refine wq Z (QV.not Z Z) ?_
 refine wm Z ?_
 refine gn Z (fun hG => QV.fieldAddr fd31_0 Z Z) ?_
 refine gn Z (fun hG => QV.load pl3 Z hG (Own.cell 0 Z Z)) ?_
 obtain ⟨x6, hx7, hm8⟩ := bdG_some hm5; clear hm5
 refine gn Z (fun hG => QV.call en76 (EvAll.cons Z hG (EvAll.cons Z Z (EvAll.cons Z Z EvAll.nil))) (fun w hw => have h := R2_Within_w w (hx7 hG) ; h)) ?_
 refine gn Z (fun hG => QV.not Z hG) ?_
 refine wq Z (QV.pickOr Z Z Z (fun h => notF h)) ?_
 refine wm Z ?_
 refine gn Z (fun hG => QV.fieldAddr fd31_1 Z Z) ?_
 refine gn Z (fun hG => QV.load pl3 Z hG (Own.cell 0 Z Z)) ?_
 obtain ⟨x9, hx10, hm11⟩ := bdG_some hm8; clear hm8
 refine gn Z (fun hG => QV.call en76 (EvAll.cons Z hG (EvAll.cons Z Z (EvAll.cons Z Z EvAll.nil))) (fun w hw => have h := R2_Within_w w (hx10 hG) ; h)) ?_
 refine gn Z (fun hG => QV.not Z hG) ?_
 refine wq Z (QV.pickOr Z Z Z (fun h => notF h)) ?_
 refine wm Z ?_
 refine gn Z (fun hG => QV.fieldAddr fd31_2 Z Z) ?_
 refine gn Z (fun hG => QV.load pl29 Z hG (Own.cell 0 Z Z)) ?_
 refine gn Z (fun hG => QV.lenS Try.underlying29 Z hG h_k__ops.lenMap) ?_
 obtain ⟨x12, hx13, hm14⟩ := bdG_some hm11; clear hm11
 refine gn Z (fun hG => QV.call en76 (EvAll.cons Z hG (EvAll.cons Z Z (EvAll.cons Z Z EvAll.nil))) (fun w hw => have h := R2_Within_w w (hx13 hG) ; h)) ?_
 refine gn Z (fun hG => QV.not Z hG) ?_
 refine wq Z (QV.pickOr Z Z Z (fun h => notF h)) ?_
 refine nt ?_
 refine WC.cond Z (fun h15 => ?_) (fun h15 => ?_)
 ·skip
  have hm16 := br_t h15 hm14; clear hm14
  refine sr ?_
  refine wa Z ?_
  refine nt (WC.ret (tr ?_))
  obtain rfl := (eq_of_some hm16).symm
  refine WQ.ret1 Z Z (fun w hw => ?_)
  exact ⟨Z, Own.kgrow (fun _ x => x) hw⟩
 have hm17 := br_f h15 hm14; clear hm14
 refine sk (WQ.then (WC.seq (sr ?_)))
 refine wa Z ?_
 refine nt ?_
 obtain ⟨o18, ho19, hm20⟩ := bd_some hm17; clear hm17; obtain ⟨n21, ho22⟩ := lp_some ho19
 refine WC.bloop1 (H2 := [blk b2 [.int .i64 k_.pace, .int .i64 k_.stages, v_k__ops] 31, blk b1 t.cells 28, kn noM w.heap.size w w]) (τ := [(2, (true, _)), (3, (true, _)), (4, (true, _))]) (fun (i7_2 : Int) => [(7, (true, .int .i64 i7_2))]) (fun i7_2 => []) (fun i7_2 m => iter (R5_May_L0 t k_ logs) m i7_2 = some o18) (fun i7_2 => o18 = .go i7_2) 0 n21 ho22 ⟨Z, Z, Z, Z, trivial⟩ (fun w hw => hw.pick [0, 1, 2] (by decide)) ?_ ?_
 ·skip
  rintro i7_2 rfl
  refine WQ.then (sr ?_)
  refine wa Z ?_
  refine nt (WC.ret ?_)
  obtain rfl := (eq_of_some hm20).symm
  refine WQ.ret1 Z Z (fun w hw => ?_)
  exact ⟨Z, Own.kgrow (fun _ x => x) hw⟩
 rintro i7_2 m23 hI24
 obtain ⟨m25, s26, rfl, hm27, hn28⟩ := iter_step hI24; clear hI24; unfold R5_May_L0 at hm27
 refine WC.seq (sr ?_)
 refine wm Z ?_
 refine wf fd31_2 Z ?_
 refine wl pl29 Z (Own.cell 0 Z Z) ?_
 refine wq Z (QV.lenS Try.underlying29 Z Z h_k__ops.lenMap) ?_
 refine wq Z (QV.lss Z Z Z Z) ?_
 refine nt ?_
 refine WC.cond Z (fun h29 => ?_) (fun h29 => ?_)
 ·skip
  have hm30 := br_t h29 hm27; clear hm27
  refine sk (WQ.then (WC.seq (WC.block (WC.seq (WC.seq ?_)))))
  refine WC.dr (m := 10) (S := Own noM w [kn noM w.heap.size w w, blk b2 [.int .i64 k_.pace, .int .i64 k_.stages, v_k__ops] 31, blk b1 t.cells 28]) (by kernel_rfl) (by kernel_rfl) (fun w hw => hw.pick [2, 0, 1] (by decide)) ?_
  refine wz 0 Z Z (QV.loadAgg ag28 Z Z Z (Own.cellsBlk 2 Z)) ?_
  refine wz 1 Z Z (QV.loadAgg ag31 Z Z Z (Own.cellsBlk 1 Z)) ?_
  refine wz 2 Z Z (QV.fieldAddr fd31_2 Z Z) ?_
  refine wz 3 Z Z (QV.load pl29 Z Z (Own.cell 1 Z Z)) ?_
  refine wz 4 Z Z (QV.move Z Z) ?_
  obtain ⟨c31, hm32⟩ := cs hm30; clear hm30
  obtain ⟨p33, hp34⟩ := h_k__ops.lenMap.ix (sz := 10) ln_len c31
  refine wz 5 Z Z (QV.indexSlice sl29 Z Z Z Z hp34) ?_
  refine wz 6 Z Z (QV.loadAgg ag75 Z Z Z (fun w hw => ((Own.karr 0 Z hk h_k__ops) w hw).ele hp34 c31)) ?_
  refine wz 7 Z Z (QV.move Z Z) ?_
  obtain ⟨x35, hx36, hm37⟩ := bd_some hm32; clear hm32
  refine wz 8 Z Z (QV.call en78 (EvAll.cons Z Z (EvAll.cons Z Z (EvAll.cons Z Z (EvAll.cons Z Z EvAll.nil)))) (fun w hw => have h := R5_one_w w hx36 ((Own.karr 0 Z hk h_k__ops) w hw) ((Own.karr 0 Z hk h_logs) w hw); h)) ?_
  refine wz 9 Z Z (QV.not Z Z) ?_
  refine WD.e (by kernel_rfl) ?_
  refine WQ.then ?_
  refine WC.cond Z (fun h38 => ?_) (fun h38 => ?_)
  ·skip
   have hm39 := br_t h38 hm37; clear hm37
   refine sr ?_
   refine wa Z ?_
   refine nt (WC.ret (tr (kr (tr (tr (kr (tr (tr ?_))))))))
   obtain rfl := up_ret hm39 hn28
   obtain rfl := (eq_of_some hm20).symm
   refine WQ.ret1 Z Z (fun w hw => ?_)
   exact ⟨Z, Own.kgrow (fun _ x => x) hw⟩
  have hm40 := br_f h38 hm37; clear hm37
  refine sk (WQ.then (sr ?_))
  refine wf fd31_2 Z ?_
  refine wl pl29 Z (Own.cell 0 Z Z) ?_
  refine wm Z ?_
  obtain ⟨c41, hm42⟩ := cs hm40; clear hm40
  obtain ⟨p43, hp44⟩ := h_k__ops.lenMap.ix (sz := 10) ln_len c41
  refine wq Z (QV.indexSlice sl29 Z Z Z Z hp44) ?_
  refine wf fd75_2 Z ?_
  refine wl pl3 Z (fun w hw => CellsAt.one 2 (((Own.karr 2 Z hk h_k__ops) w hw).ele hp44 c41) Z) ?_
  obtain ⟨x45, hx46, hm47⟩ := bd_some hm42; clear hm42
  refine wq Z (QV.call en45 (EvAll.cons Z Z EvAll.nil) (fun w hw => have h := R1_Class_w w hx46 ; h)) ?_
  refine wa Z ?_
  refine ns ?_
  refine wa Z ?_
  refine nt (WC.seq (sr ?_))
  refine wa Z ?_
  refine nt ?_
  obtain ⟨o48, ho49, hm50⟩ := bd_some hm47; clear hm47; obtain ⟨n51, ho52⟩ := lp_some ho49
  refine WC.bloop2 (H2 := [blk b2 [.int .i64 k_.pace, .int .i64 k_.stages, v_k__ops] 31, blk b1 t.cells 28, kn noM w.heap.size w w]) (τ := [(2, (true, _)), (3, (true, _)), (4, (true, _)), (7, (true, _)), (8, (true, _))]) (fun (many9_3 : Int) (j10_3 : Int) => [(9, (true, .int .i64 many9_3)), (10, (true, .int .i64 j10_3))]) (fun many9_3 j10_3 => []) (fun many9_3 j10_3 m => iter (R5_May_L2 k_ i7_2 x45) m (many9_3, j10_3) = some o48) (fun many9_3 j10_3 => o48 = .go (many9_3, j10_3)) 0 0 n51 ho52 ⟨Z, Z, Z, Z, Z, Z, Z, trivial⟩ (fun w hw => hw.pick [0, 1, 2] (by decide)) ?_ ?_
  ·skip
   rintro many9_3 j10_3 rfl
   refine WQ.then (sr ?_)
   refine wm Z ?_
   refine wm Z ?_
   refine wf fd28_0 Z ?_
   obtain ⟨c53, hm54⟩ := cs hm50; clear hm50
   refine wq Z (QV.indexArray ar26 Z Z Z Z c53.1 c53.2) ?_
   refine wl pl3 Z (Own.cellSym 1 Z (sel3_get (off := 0) (i := x45) c53.1 c53.2 Z Z Z) (addr_sym _ _ _)) ?_
   refine wq Z (QV.gtr Z Z Z Z) ?_
   refine nt ?_
   refine WC.cond Z (fun h55 => ?_) (fun h55 => ?_)
   ·skip
    have hm56 := br_t h55 hm54; clear hm54
    refine sr ?_
    refine wa Z ?_
    refine nt (WC.ret (kr (tr (tr (kr (tr (tr ?_)))))))
    obtain rfl := up_ret hm56 hn28
    obtain rfl := (eq_of_some hm20).symm
    refine WQ.ret1 Z Z (fun w hw => ?_)
    exact ⟨Z, Own.kgrow (fun _ x => x) hw⟩
   have hm57 := br_f h55 hm54; clear hm54
   refine sk (WQ.block (WQ.then (WC.region ?_)))
   refine wm Z ?_
   obtain ⟨c58, hm59⟩ := cs hm57; clear hm57
   refine wq Z (QV.add Z Z Z Z c58) ?_
   refine wa Z ?_
   refine WL.nil ?_
   exact WQ.again1 (i7_2 + 1) m25 (up_next hm59 hn28) (Nat.lt_succ_self _) ⟨Z, Z, Z, Z, trivial⟩ (fun w hw => hw.pick [0, 1, 2] (by decide))
  rintro many9_3 j10_3 m60 hI61
  obtain ⟨m62, s63, rfl, hm64, hn65⟩ := iter_step hI61; clear hI61; unfold R5_May_L2 at hm64; simp only at hm64
  refine WC.seq (sr ?_)
  refine wm Z ?_
  refine wf fd31_2 Z ?_
  refine wl pl29 Z (Own.cell 0 Z Z) ?_
  refine wq Z (QV.lenS Try.underlying29 Z Z h_k__ops.lenMap) ?_
  refine wq Z (QV.lss Z Z Z Z) ?_
  refine nt ?_
  refine WC.cond Z (fun h66 => ?_) (fun h66 => ?_)
  ·skip
   have hm67 := br_t h66 hm64; clear hm64
   refine sk (WQ.then (WC.seq (WC.block (WC.seq ?_))))
   refine WC.dr (m := 24) (S := Own noM w [kn noM w.heap.size w w, blk b2 [.int .i64 k_.pace, .int .i64 k_.stages, v_k__ops] 31, blk b1 t.cells 28]) (by kernel_rfl) (by kernel_rfl) (fun w hw => hw.pick [2, 0, 1] (by decide)) ?_
   refine wz 0 Z Z (QV.fieldAddr fd31_2 Z Z) ?_
   refine wz 1 Z Z (QV.load pl29 Z Z (Own.cell 1 Z Z)) ?_
   refine wz 2 Z Z (QV.move Z Z) ?_
   obtain ⟨c68, hm69⟩ := cs hm67; clear hm67
   obtain ⟨p70, hp71⟩ := h_k__ops.lenMap.ix (sz := 10) ln_len c68
   refine wz 3 Z Z (QV.indexSlice sl29 Z Z Z Z hp71) ?_
   refine wz 4 Z Z (QV.fieldAddr fd75_0 Z Z) ?_
   refine wz 5 Z Z (QV.load pl3 Z Z (fun w hw => CellsAt.one 0 (((Own.karr 0 Z hk h_k__ops) w hw).ele hp71 c68) Z)) ?_
   refine wz 6 Z Z (QV.fieldAddr fd31_2 Z Z) ?_
   refine wz 7 Z Z (QV.load pl29 Z Z (Own.cell 1 Z Z)) ?_
   refine wz 8 Z Z (QV.move Z Z) ?_
   obtain ⟨c72, hm73⟩ := cs hm69; clear hm69
   obtain ⟨p74, hp75⟩ := h_k__ops.lenMap.ix (sz := 10) ln_len c72
   refine wz 9 Z Z (QV.indexSlice sl29 Z Z Z Z hp75) ?_
   refine wz 10 Z Z (QV.fieldAddr fd75_0 Z Z) ?_
   refine wz 11 Z Z (QV.load pl3 Z Z (fun w hw => CellsAt.one 0 (((Own.karr 0 Z hk h_k__ops) w hw).ele hp75 c72) Z)) ?_
   refine wz 12 Z Z (QV.eql Z Z Z Z) ?_
   refine wz 13 Z Z (QV.move Z Z) ?_
   refine WD.g 14 Z (by kernel_rfl) Z Z (GuardIs.pos Z Z) (fun hG => QV.fieldAddr fd31_2 Z Z) ?_
   refine WD.g 15 Z (by kernel_rfl) Z Z (GuardIs.pos Z Z) (fun hG => QV.load pl29 Z hG (Own.cell 1 Z Z)) ?_
   refine WD.g 16 Z (by kernel_rfl) Z Z (GuardIs.pos Z Z) (fun hG => QV.move Z Z) ?_
   obtain ⟨c76, hm77⟩ := cs hm73; clear hm73
   obtain ⟨p78, hp79⟩ := h_k__ops.lenMap.ixG (sz := 10) ln_len c76
   refine WD.g 17 Z (by kernel_rfl) Z Z (GuardIs.pos Z Z) (fun hG => QV.indexSlice sl29 Z hG Z hG (hp79 hG)) ?_
   refine WD.g 18 Z (by kernel_rfl) Z Z (GuardIs.pos Z Z) (fun hG => QV.fieldAddr fd75_2 Z hG) ?_
   refine WD.g 19 Z (by kernel_rfl) Z Z (GuardIs.pos Z Z) (fun hG => QV.load pl3 Z hG (fun w hw => CellsAt.one 2 (((Own.karr 0 Z hk h_k__ops) w hw).ele (hp79 hG) (c76 hG)) Z)) ?_
   obtain ⟨x80, hx81, hm82⟩ := bdG_some hm77; clear hm77
   refine WD.g 20 Z (by kernel_rfl) Z Z (GuardIs.pos Z Z) (fun hG => QV.call en45 (EvAll.cons Z hG EvAll.nil) (fun w hw => have h := R1_Class_w w (hx81 hG) ; h)) ?_
   refine WD.g 21 Z (by kernel_rfl) Z Z (GuardIs.pos Z Z) (fun hG => QV.move Z Z) ?_
   refine WD.g 22 Z (by kernel_rfl) Z Z (GuardIs.pos Z Z) (fun hG => QV.eql Z hG Z hG) ?_
   refine wz 23 Z Z (QV.pickAnd Z Z Z (fun h => h)) ?_
   refine WD.e (by kernel_rfl) ?_
   refine WQ.then ?_
   refine WC.cond Z (fun h83 => ?_) (fun h83 => ?_)
   ·skip
    have hm84 := br_t h83 hm82; clear hm82
    refine WC.region ?_
    refine wm Z ?_
    obtain ⟨c85, hm86⟩ := cs hm84; clear hm84
    refine wq Z (QV.add Z Z Z Z c85) ?_
    refine wa Z ?_
    refine WL.nil (WQ.block (WQ.then (WC.region ?_)))
    refine wm Z ?_
    obtain ⟨c87, hm88⟩ := cs hm86; clear hm86
    refine wq Z (QV.add Z Z Z Z c87) ?_
    refine wa Z ?_
    refine WL.nil ?_
    exact WQ.again2 (many9_3 + 1) (j10_3 + 1) m62 (up_next hm88 hn65) (Nat.lt_succ_self _) ⟨Z, Z, Z, Z, Z, Z, Z, trivial⟩ (fun w hw => hw.pick [0, 1, 2] (by decide))
   have hm89 := br_f h83 hm82; clear hm82
   refine sk (WQ.block (WQ.then (WC.region ?_)))
   refine wm Z ?_
   obtain ⟨c90, hm91⟩ := cs hm89; clear hm89
   refine wq Z (QV.add Z Z Z Z c90) ?_
   refine wa Z ?_
   refine WL.nil ?_
   exact WQ.again2 many9_3 (j10_3 + 1) m62 (up_next hm91 hn65) (Nat.lt_succ_self _) ⟨Z, Z, Z, Z, Z, Z, Z, trivial⟩ (fun w hw => hw.pick [0, 1, 2] (by decide))
  have hm92 := br_f h66 hm64; clear hm64
  refine WC.exit (te (te (WQ.block_exit ?_)))
  exact WQ.out2 many9_3 j10_3 (up_brk hm92 hn65) ⟨Z, Z, Z, Z, Z, Z, Z, trivial⟩ (fun w hw => hw.pick [0, 1, 2] (by decide))
 have hm93 := br_f h29 hm27; clear hm27
 refine WC.exit (te (te (WQ.block_exit ?_)))
 exact WQ.out1 i7_2 (up_brk hm93 hn28) ⟨Z, Z, Z, Z, trivial⟩ (fun w hw => hw.pick [0, 1, 2] (by decide))
theorem R10_Layout_w {v_l_logs : Value} {v_l_body : Value} {v_l_outs : Value} {v_k__ops : Value} {v_order : Value} {l : Lp} {t : Tgt} {k_ : Krn} {order : List Int} {r : List Off × Bool} {K0 : World} (hm : R10_Layout_m l t k_ order = some r) (h_l_logs : Arr K0 v_l_logs 1 (l.logs.map icell)) (h_l_body : Arr K0 v_l_body 9 (l.body.map Stm.cells)) (h_l_outs : Arr K0 v_l_outs 1 (l.outs.map icell)) (h_k__ops : Arr K0 v_k__ops 10 (k_.ops.map Opr.cells)) (h_order : Arr K0 v_order 1 (order.map icell)) (M : Nat → Prop) (w : World) (hk : Base M K0 w) (hw0 : Own M w [] w) : Calls Try.prog 22 #[.agg #[v_l_logs, v_l_body, v_l_outs], .agg #[.int .i64 t.u0, .int .i64 t.u1, .int .i64 t.u2, .int .i64 t.w0, .int .i64 t.w1, .int .i64 t.w2, .int .i64 t.regs], .agg #[.int .i64 k_.pace, .int .i64 k_.stages, v_k__ops], v_order] w (fun e w' => ∃ X : Value × World, e = .returned (.tuple #[X.1, .bool r.2]) ∧ Own M w (kn M w.heap.size K0 X.2 :: []) w' ∧ Arr X.2 X.1 3 (r.1.map Off.cells)) := by
 unfold R10_Layout_m at hm
 refine calls_of_WC (n := 150) (args := [.agg #[v_l_logs, v_l_body, v_l_outs], .agg #[.int .i64 t.u0, .int .i64 t.u1, .int .i64 t.u2, .int .i64 t.w0, .int .i64 t.w1, .int .i64 t.w2, .int .i64 t.regs], .agg #[.int .i64 k_.pace, .int .i64 k_.stages, v_k__ops], v_order]) Try.func22 Z Z (Nat.le_of_ble_eq_true Z) ?_ (Own.startK hk hw0)
 refine sr ?_
 refine WL.effect Z ?_
 refine (EV.boxAgg (by decide) Z Z (fun b1 => ?_))
 refine WL.effect Z ?_
 refine (EV.boxAgg (by decide) Z Z (fun b2 => ?_))
 refine WL.effect Z ?_
 refine (EV.boxAgg (by decide) Z Z (fun b3 => ?_))
 refine wa Z ?_
 refine wa Z ?_
 refine ns ?_
 refine wf fd25_1 Z ?_
 refine wl pl23 Z (Own.cell 2 Z Z) ?_
 refine wq Z (QV.lenS Try.underlying23 Z Z h_l_body.lenMap) ?_
 refine wa Z ?_
 refine nt (WC.seq (sr ?_))
 refine wq Z (QV.loadAgg ag25 Z Z Z (Own.cellsBlk 2 Z)) ?_
 refine wq Z (QV.loadAgg ag28 Z Z Z (Own.cellsBlk 1 Z)) ?_
 obtain ⟨x4, hx5, hm6⟩ := bd_some hm; clear hm
 refine wq Z (QV.call en16 (EvAll.cons Z Z (EvAll.cons Z Z EvAll.nil)) (fun w hw => have h := R6_May_w w hx5 ((Own.karr 3 Z hk h_l_logs) w hw) ((Own.karr 3 Z hk h_l_body) w hw) ((Own.karr 3 Z hk h_l_outs) w hw); h)) ?_
 refine wq Z (QV.not Z Z) ?_
 refine wm Z ?_
 refine gn Z (fun hG => QV.loadAgg ag28 Z Z Z (Own.cellsBlk 1 Z)) ?_
 refine gn Z (fun hG => QV.loadAgg ag31 Z Z Z (Own.cellsBlk 0 Z)) ?_
 refine gn Z (fun hG => QV.fieldAddr fd25_0 Z Z) ?_
 refine gn Z (fun hG => QV.load pl22 Z hG (Own.cell 2 Z Z)) ?_
 obtain ⟨x7, hx8, hm9⟩ := bdG_some hm6; clear hm6
 refine gn Z (fun hG => QV.call en49 (EvAll.cons Z hG (EvAll.cons Z hG (EvAll.cons Z hG EvAll.nil))) (fun w hw => have h := R5_May_w w (hx8 hG) ((Own.karr 3 Z hk h_k__ops) w hw) ((Own.karr 3 Z hk h_l_logs) w hw); h)) ?_
 refine gn Z (fun hG => QV.not Z hG) ?_
 refine wq Z (QV.pickOr Z Z Z (fun h => notF h)) ?_
 refine wm Z ?_
 refine gn Z (fun hG => QV.fieldAddr fd31_2 Z Z) ?_
 refine gn Z (fun hG => QV.load pl29 Z hG (Own.cell 0 Z Z)) ?_
 refine gn Z (fun hG => QV.lenS Try.underlying29 Z hG h_k__ops.lenMap) ?_
 refine gn Z (fun hG => QV.move Z Z) ?_
 refine gn Z (fun hG => QV.neq Z hG Z hG) ?_
 refine wq Z (QV.pickOr Z Z Z (fun h => notF h)) ?_
 refine wm Z ?_
 refine gn Z (fun hG => QV.move Z Z) ?_
 refine gn Z (fun hG => QV.lenS Try.underlying22 Z hG h_order.lenMap) ?_
 refine gn Z (fun hG => QV.move Z Z) ?_
 refine gn Z (fun hG => QV.neq Z hG Z hG) ?_
 refine wq Z (QV.pickOr Z Z Z (fun h => notF h)) ?_
 refine nt ?_
 refine WC.cond Z (fun h10 => ?_) (fun h10 => ?_)
 ·skip
  have hm11 := br_t h10 hm9; clear hm9
  refine sr ?_
  refine wa Z ?_
  refine wa Z ?_
  refine nt (WC.ret (tr ?_))
  obtain rfl := (eq_of_some hm11).symm
  refine WQ.ret2 Z Z Z (fun w hw => ?_)
  exact ⟨(.slice none 0 0, K0), Z, hw.pick [3] (by decide), Arr.nil⟩
 have hm12 := br_f h10 hm9; clear hm9
 refine sk (WQ.then (sr ?_))
 refine wa Z ?_
 refine nt (WC.seq (sr ?_))
 refine wa Z ?_
 refine nt ?_
 refine WK.of (fun w hw => hw.vecNil (E := 73) (sz := 3) (enc := Off.cells)) ?_
 obtain ⟨o14, ho15, hm16⟩ := bd_some hm12; clear hm12; obtain ⟨n17, ho18⟩ := lp_some ho15
 refine WC.bloop3 (H2 := [blk b3 [.int .i64 k_.pace, .int .i64 k_.stages, v_k__ops] 31, blk b2 t.cells 28, blk b1 [v_l_logs, v_l_body, v_l_outs] 25, kn M w.heap.size K0 K0]) (τ := [(3, (true, _)), (4, (true, _)), (5, (true, _)), (6, (true, _)), (10, (true, _))]) (fun (v13_4 : List Off) (s12_4 : Int) (uv13_4 : Value) => [(11, (true, uv13_4)), (12, (true, .int .i64 s12_4))]) (fun v13_4 s12_4 uv13_4 => [vec uv13_4 73 3 (List.map Off.cells v13_4)]) (fun v13_4 s12_4 uv13_4 m => iter (R10_Layout_L0 l t k_ order) m (v13_4, s12_4) = some o14 ∧ SliceLen uv13_4 v13_4.length) (fun v13_4 s12_4 uv13_4 => o14 = .go (v13_4, s12_4) ∧ SliceLen uv13_4 v13_4.length) [] 0 (.slice none 0 0) n17 ⟨ho18, SliceLen.nil⟩ ⟨Z, Z, Z, Z, Z, Z, Z, trivial⟩ (fun w hw => hw.pick [0, 1, 2, 3, 4] (by decide)) ?_ ?_
 ·skip
  rintro v13_4 s12_4 uv13_4 ⟨rfl, hlv13_4⟩
  refine WQ.then (sr ?_)
  refine wm Z ?_
  refine wa Z ?_
  refine wa Z ?_
  refine nt (WC.ret ?_)
  obtain rfl := (eq_of_some hm16).symm
  refine WK.of (C' := Own M w [kn M w.heap.size K0 K0, vec uv13_4 73 3 (List.map Off.cells v13_4), blk b3 [.int .i64 k_.pace, .int .i64 k_.stages, v_k__ops] 31, blk b2 t.cells 28, blk b1 [v_l_logs, v_l_body, v_l_outs] 25]) (fun w hw => hw.pick [4, 0, 1, 2, 3] (by decide)) ?_
  refine WK.freeze hk (fun k19 hle19 hr19 => ?_)
  have hA19 := vec_arr hr19
  refine WQ.ret2 Z Z Z (fun w hw => ?_)
  exact ⟨(uv13_4, k19), Z, hw.pick [0] (by decide), hA19⟩
 rintro v13_4 s12_4 uv13_4 m20 ⟨hI21, hlv13_4⟩
 obtain ⟨m22, s23, rfl, hm24, hn25⟩ := iter_step hI21; clear hI21; unfold R10_Layout_L0 at hm24; simp only at hm24
 refine WC.seq (sr ?_)
 refine wm Z ?_
 refine wm Z ?_
 refine wq Z (QV.lss Z Z Z Z) ?_
 refine nt ?_
 refine WC.cond Z (fun h26 => ?_) (fun h26 => ?_)
 ·skip
  have hm27 := br_t h26 hm24; clear hm24
  refine sk (WQ.then (WC.seq (WC.block (WC.seq (sr ?_)))))
  refine wm Z ?_
  refine wm Z ?_
  obtain ⟨c28, hm29⟩ := cs hm27; clear hm27
  obtain ⟨p30, hp31⟩ := h_order.lenMap.ix (sz := 1) ln_len c28
  refine wq Z (QV.indexSlice sl22 Z Z Z Z hp31) ?_
  refine wl pl3 Z (fun w hw => CellsAt.one 0 (((Own.karr 4 Z hk h_order) w hw).ele hp31 c28) Z) ?_
  refine wq Z (QV.lss Z Z Z Z) ?_
  refine wm Z ?_
  refine gn Z (fun hG => QV.move Z Z) ?_
  refine gn Z (fun hG => QV.move Z Z) ?_
  obtain ⟨c32, hm33⟩ := cs hm29; clear hm29
  obtain ⟨p34, hp35⟩ := h_order.lenMap.ixG (sz := 1) ln_len c32
  refine gn Z (fun hG => QV.indexSlice sl22 Z hG Z hG (hp35 hG)) ?_
  refine gn Z (fun hG => QV.load pl3 Z hG (fun w hw => CellsAt.one 0 (((Own.karr 4 Z hk h_order) w hw).ele (hp35 hG) (c32 hG)) Z)) ?_
  refine gn Z (fun hG => QV.move Z Z) ?_
  refine gn Z (fun hG => QV.geq Z hG Z hG) ?_
  refine wq Z (QV.pickOr Z Z Z (fun h => notF h)) ?_
  refine nt ?_
  refine WC.cond Z (fun h36 => ?_) (fun h36 => ?_)
  ·skip
   have hm37 := br_t h36 hm33; clear hm33
   refine sr ?_
   refine wa Z ?_
   refine wa Z ?_
   refine nt (WC.ret (tr (kr (tr (tr (kr (tr (tr ?_))))))))
   obtain rfl := up_ret hm37 hn25
   obtain rfl := (eq_of_some hm16).symm
   refine WQ.ret2 Z Z Z (fun w hw => ?_)
   exact ⟨(.slice none 0 0, K0), Z, hw.pick [4] (by decide), Arr.nil⟩
  have hm38 := br_f h36 hm33; clear hm33
  refine sk (WQ.then (WC.seq (sr ?_)))
  refine wa Z ?_
  refine nt ?_
  obtain ⟨o39, ho40, hm41⟩ := bd_some hm38; clear hm38; obtain ⟨n42, ho43⟩ := lp_some ho40
  refine WC.bloop1 (H2 := [vec uv13_4 73 3 (List.map Off.cells v13_4), blk b3 [.int .i64 k_.pace, .int .i64 k_.stages, v_k__ops] 31, blk b2 t.cells 28, blk b1 [v_l_logs, v_l_body, v_l_outs] 25, kn M w.heap.size K0 K0]) (τ := [(3, (true, _)), (4, (true, _)), (5, (true, _)), (6, (true, _)), (10, (true, _)), (11, (true, _)), (12, (true, _))]) (fun (i13_5 : Int) => [(13, (true, .int .i64 i13_5))]) (fun i13_5 => []) (fun i13_5 m => iter (R10_Layout_L2 order s12_4) m i13_5 = some o39) (fun i13_5 => o39 = .go i13_5) 0 n42 ho43 ⟨Z, Z, Z, Z, Z, Z, Z, Z, trivial⟩ (fun w hw => hw.pick [0, 1, 2, 3, 4] (by decide)) ?_ ?_
  ·skip
   rintro i13_5 rfl
   refine WQ.then (WC.seq ?_)
   refine WC.dr (m := 10) (S := Own M w [kn M w.heap.size K0 K0, vec uv13_4 73 3 (List.map Off.cells v13_4), blk b3 [.int .i64 k_.pace, .int .i64 k_.stages, v_k__ops] 31, blk b2 t.cells 28, blk b1 [v_l_logs, v_l_body, v_l_outs] 25]) (by kernel_rfl) (by kernel_rfl) (fun w hw => hw.pick [4, 0, 1, 2, 3] (by decide)) ?_
   refine wz 0 Z Z (QV.fieldAddr fd31_2 Z Z) ?_
   refine wz 1 Z Z (QV.load pl29 Z Z (Own.cell 2 Z Z)) ?_
   refine wz 2 Z Z (QV.move Z Z) ?_
   refine wz 3 Z Z (QV.move Z Z) ?_
   obtain ⟨c44, hm45⟩ := cs hm41; clear hm41
   obtain ⟨p46, hp47⟩ := h_order.lenMap.ix (sz := 1) ln_len c44
   refine wz 4 Z Z (QV.indexSlice sl22 Z Z Z Z hp47) ?_
   refine wz 5 Z Z (QV.load pl3 Z Z (fun w hw => CellsAt.one 0 (((Own.karr 0 Z hk h_order) w hw).ele hp47 c44) Z)) ?_
   obtain ⟨c48, hm49⟩ := cs hm45; clear hm45
   obtain ⟨p50, hp51⟩ := h_k__ops.lenMap.ix (sz := 10) ln_len c48
   refine wz 6 Z Z (QV.indexSlice sl29 Z Z Z Z hp51) ?_
   refine wz 7 Z Z (QV.loadAgg ag75 Z Z Z (fun w hw => ((Own.karr 0 Z hk h_k__ops) w hw).ele hp51 c48)) ?_
   refine WD.o 8 Z (by kernel_rfl) Z ?_
   refine (EV.alloc (by decide) ze75 (fun b52 => ?_))
   refine WD.b (H' := [kn M w.heap.size K0 K0, blk b52 [.int .i64 0, .int .i64 0, .int .i64 0, .int .i64 0, .int .i64 0, .int .i64 0, .int .i64 0, .int .i64 0, .int .i64 0, .int .i64 0] 75, vec uv13_4 73 3 (List.map Off.cells v13_4), blk b3 [.int .i64 k_.pace, .int .i64 k_.stages, v_k__ops] 31, blk b2 t.cells 28, blk b1 [v_l_logs, v_l_body, v_l_outs] 25]) (fun w hw => hw.pick [5, 0, 1, 2, 3, 4] (by decide)) (fun w hw => hw.pick [0, 2, 3, 4, 5] (by decide)) ?_
   refine WD.l 9 Z (by kernel_rfl) Z ?_
   refine (EV.store 0 Z Z Z Z Z Z (vs := (Opr.cells (ele k_.ops (ele order s12_4)))) (show Value.cells _ = List.toArray _ from Z) sz75 (Nat.le_of_ble_eq_true Z) (one_cons Z (one_cons Z (one_cons Z (one_cons Z (one_cons Z (one_cons Z (one_cons Z (one_cons Z (one_cons Z (one_cons Z one_nil)))))))))) ?_)
   refine WQ.then (sr ?_)
   refine wf fd25_1 Z ?_
   refine wl pl23 Z (Own.cell 4 Z Z) ?_
   refine wm Z ?_
   obtain ⟨c53, hm54⟩ := cs hm49; clear hm49
   obtain ⟨p55, hp56⟩ := h_l_body.lenMap.ix (sz := 9) ln_len c53
   refine wq Z (QV.indexSlice sl23 Z Z Z Z hp56) ?_
   refine wq Z (QV.loadAgg ag81 Z Z Z (fun w hw => ((Own.karr 5 Z hk h_l_body) w hw).ele hp56 c53)) ?_
   refine WL.effect Z ?_
   refine (EV.alloc (by decide) ze81 (fun b57 => ?_))
   refine WL.effect Z ?_
   refine (EV.store 0 Z Z Z Z Z Z (vs := (Stm.cells (ele l.body s12_4))) (show Value.cells _ = List.toArray _ from Z) sz81 (Nat.le_of_ble_eq_true Z) (one_cons Z (one_cons Z (one_cons Z (one_cons Z (one_cons Z (one_cons Z (one_cons Z (one_cons Z (one_cons Z one_nil))))))))) ?_)
   refine nt (WC.seq (sr ?_))
   refine wf fd75_2 Z ?_
   refine wl pl3 Z (Own.cell 1 Z Z) ?_
   refine wf fd81_0 Z ?_
   refine wl pl3 Z (Own.cell 0 Z Z) ?_
   refine wq Z (QV.neq Z Z Z Z) ?_
   refine wm Z ?_
   refine gn Z (fun hG => QV.fieldAddr fd75_6 Z Z) ?_
   refine gn Z (fun hG => QV.load pl3 Z hG (Own.cell 1 Z Z)) ?_
   refine gn Z (fun hG => QV.fieldAddr fd81_3 Z Z) ?_
   refine gn Z (fun hG => QV.load pl3 Z hG (Own.cell 0 Z Z)) ?_
   refine gn Z (fun hG => QV.neq Z hG Z hG) ?_
   refine wq Z (QV.pickOr Z Z Z (fun h => notF h)) ?_
   refine wm Z ?_
   refine gn Z (fun hG => QV.fieldAddr fd75_7 Z Z) ?_
   refine gn Z (fun hG => QV.load pl3 Z hG (Own.cell 1 Z Z)) ?_
   refine gn Z (fun hG => QV.fieldAddr fd81_4 Z Z) ?_
   refine gn Z (fun hG => QV.load pl3 Z hG (Own.cell 0 Z Z)) ?_
   refine gn Z (fun hG => QV.neq Z hG Z hG) ?_
   refine wq Z (QV.pickOr Z Z Z (fun h => notF h)) ?_
   refine wm Z ?_
   refine gn Z (fun hG => QV.fieldAddr fd75_8 Z Z) ?_
   refine gn Z (fun hG => QV.load pl3 Z hG (Own.cell 1 Z Z)) ?_
   refine gn Z (fun hG => QV.fieldAddr fd81_5 Z Z) ?_
   refine gn Z (fun hG => QV.load pl3 Z hG (Own.cell 0 Z Z)) ?_
   refine gn Z (fun hG => QV.neq Z hG Z hG) ?_
   refine wq Z (QV.pickOr Z Z Z (fun h => notF h)) ?_
   refine wm Z ?_
   refine gn Z (fun hG => QV.fieldAddr fd75_9 Z Z) ?_
   refine gn Z (fun hG => QV.load pl2 Z hG (Own.cell 1 Z Z)) ?_
   refine gn Z (fun hG => QV.fieldAddr fd81_6 Z Z) ?_
   refine gn Z (fun hG => QV.load pl2 Z hG (Own.cell 0 Z Z)) ?_
   refine gn Z (fun hG => QV.neq Z hG Z hG) ?_
   refine wq Z (QV.pickOr Z Z Z (fun h => notF h)) ?_
   refine nt ?_
   refine WC.cond Z (fun h58 => ?_) (fun h58 => ?_)
   ·skip
    have hm59 := br_t h58 hm54; clear hm54
    refine sr ?_
    refine wa Z ?_
    refine wa Z ?_
    refine nt (WC.ret (tr (kr (tr (tr (kr (tr (tr ?_))))))))
    obtain rfl := up_ret hm59 hn25
    obtain rfl := (eq_of_some hm16).symm
    refine WQ.ret2 Z Z Z (fun w hw => ?_)
    exact ⟨(.slice none 0 0, K0), Z, hw.pick [6] (by decide), Arr.nil⟩
   have hm60 := br_f h58 hm54; clear hm54
   refine sk (WQ.then (sr ?_))
   refine wf fd75_0 Z ?_
   refine wl pl3 Z (Own.cell 1 Z Z) ?_
   refine wf fd31_0 Z ?_
   refine wl pl3 Z (Own.cell 3 Z Z) ?_
   refine wf fd75_1 Z ?_
   refine wl pl3 Z (Own.cell 1 Z Z) ?_
   obtain ⟨c61, hm62⟩ := cs hm60; clear hm60
   refine wq Z (QV.mul Z Z Z Z c61) ?_
   obtain ⟨c63, hm64⟩ := cs hm62; clear hm62
   refine wq Z (QV.add Z Z Z Z c63) ?_
   refine wa Z ?_
   refine ns ?_
   refine wq Z (QV.loadAgg ag28 Z Z Z (Own.cellsBlk 4 Z)) ?_
   refine wf fd75_2 Z ?_
   refine wl pl3 Z (Own.cell 1 Z Z) ?_
   obtain ⟨x65, hx66, hm67⟩ := bd_some hm64; clear hm64
   refine wq Z (QV.call en47 (EvAll.cons Z Z (EvAll.cons Z Z EvAll.nil)) (fun w hw => have h := R4_Wait_w w hx66 ; h)) ?_
   refine wa Z ?_
   refine nr ?_
   refine wm Z ?_
   refine wm Z ?_
   refine wm Z ?_
   refine wm Z ?_
   obtain ⟨c68, hm69⟩ := cs hm67; clear hm67
   refine wq Z (QV.add Z Z Z Z c68) ?_
   refine wf fd75_3 Z ?_
   refine wl pl3 Z (Own.cell 1 Z Z) ?_
   refine wf fd75_1 Z ?_
   refine wl pl3 Z (Own.cell 1 Z Z) ?_
   obtain ⟨c70, hm71⟩ := cs hm69; clear hm69
   refine wq Z (QV.add Z Z Z Z c70) ?_
   refine wq Z (QV.build (ps := [(0, .tmp 137), (1, .tmp 140), (2, .tmp 145)]) (cells := [.int .i64 ((ele k_.ops (ele order s12_4)).slot + (k_.pace * (ele k_.ops (ele order s12_4)).stage)), .int .i64 (((ele k_.ops (ele order s12_4)).slot + (k_.pace * (ele k_.ops (ele order s12_4)).stage)) + x65), .int .i64 ((ele k_.ops (ele order s12_4)).dest + (ele k_.ops (ele order s12_4)).stage)]) (EvAll.cons Z Z (EvAll.cons Z Z (EvAll.cons Z Z EvAll.nil))) (by kernel_rfl)) ?_
   refine WL.effect Z ?_
   refine (EV.buildSlice (by decide) sz_52 (by decide) (by decide) (ps := [(0, .tmp 146)]) (cells := [.int .i64 ((ele k_.ops (ele order s12_4)).slot + (k_.pace * (ele k_.ops (ele order s12_4)).stage)), .int .i64 (((ele k_.ops (ele order s12_4)).slot + (k_.pace * (ele k_.ops (ele order s12_4)).stage)) + x65), .int .i64 ((ele k_.ops (ele order s12_4)).dest + (ele k_.ops (ele order s12_4)).stage)]) (EvAll.cons Z Z EvAll.nil) (by kernel_rfl) (fun b72 => ?_))
   refine WL.effect Z ?_
   obtain ⟨c73, hm74⟩ := cs hm71; clear hm71
   refine (EV.appendL (enc := Off.cells) (xs := v13_4) (ys := [(Off.mk ((ele k_.ops (ele order s12_4)).slot + (k_.pace * (ele k_.ops (ele order s12_4)).stage)) (((ele k_.ops (ele order s12_4)).slot + (k_.pace * (ele k_.ops (ele order s12_4)).stage)) + x65) ((ele k_.ops (ele order s12_4)).dest + (ele k_.ops (ele order s12_4)).stage))]) ((v13_4 ++ [(Off.mk ((ele k_.ops (ele order s12_4)).slot + (k_.pace * (ele k_.ops (ele order s12_4)).stage)) (((ele k_.ops (ele order s12_4)).slot + (k_.pace * (ele k_.ops (ele order s12_4)).stage)) + x65) ((ele k_.ops (ele order s12_4)).dest + (ele k_.ops (ele order s12_4)).stage))])) 3 (by decide) ve52 Z Z Z Z Z (Own.blkArr 0 (rows := [(Off.mk ((ele k_.ops (ele order s12_4)).slot + (k_.pace * (ele k_.ops (ele order s12_4)).stage)) (((ele k_.ops (ele order s12_4)).slot + (k_.pace * (ele k_.ops (ele order s12_4)).stage)) + x65) ((ele k_.ops (ele order s12_4)).dest + (ele k_.ops (ele order s12_4)).stage))].map Off.cells) Z Z (rows_len Off.cells_len)) Off.cells_len (Off.cells_one _) Z c73.1 c73.2 (fun u75 hu76 => ?_))
   refine wa Z ?_
   refine WL.nil (WQ.block (WQ.then (WC.region ?_)))
   refine wm Z ?_
   obtain ⟨c77, hm78⟩ := cs hm74; clear hm74
   refine wq Z (QV.add Z Z Z Z c77) ?_
   refine wa Z ?_
   refine WL.nil ?_
   exact WQ.again3 (v13_4 ++ [(Off.mk ((ele k_.ops (ele order s12_4)).slot + (k_.pace * (ele k_.ops (ele order s12_4)).stage)) (((ele k_.ops (ele order s12_4)).slot + (k_.pace * (ele k_.ops (ele order s12_4)).stage)) + x65) ((ele k_.ops (ele order s12_4)).dest + (ele k_.ops (ele order s12_4)).stage))]) (s12_4 + 1) u75 m22 ⟨up_next hm78 hn25, hu76⟩ (Nat.lt_succ_self _) ⟨Z, Z, Z, Z, Z, Z, Z, trivial⟩ (fun w hw => hw.pick [3, 4, 5, 6, 7] (by decide))
  rintro i13_5 m79 hI80
  obtain ⟨m81, s82, rfl, hm83, hn84⟩ := iter_step hI80; clear hI80; unfold R10_Layout_L2 at hm83
  refine WC.seq (sr ?_)
  refine wm Z ?_
  refine wm Z ?_
  refine wq Z (QV.lss Z Z Z Z) ?_
  refine nt ?_
  refine WC.cond Z (fun h85 => ?_) (fun h85 => ?_)
  ·skip
   have hm86 := br_t h85 hm83; clear hm83
   refine sk (WQ.then (WC.seq (WC.block (WC.seq ?_))))
   refine WC.dr (m := 9) (S := Own M w [kn M w.heap.size K0 K0, vec uv13_4 73 3 (List.map Off.cells v13_4), blk b3 [.int .i64 k_.pace, .int .i64 k_.stages, v_k__ops] 31, blk b2 t.cells 28, blk b1 [v_l_logs, v_l_body, v_l_outs] 25]) (by kernel_rfl) (by kernel_rfl) (fun w hw => hw.pick [4, 0, 1, 2, 3] (by decide)) ?_
   refine wz 0 Z Z (QV.move Z Z) ?_
   refine wz 1 Z Z (QV.move Z Z) ?_
   obtain ⟨c87, hm88⟩ := cs hm86; clear hm86
   obtain ⟨p89, hp90⟩ := h_order.lenMap.ix (sz := 1) ln_len c87
   refine wz 2 Z Z (QV.indexSlice sl22 Z Z Z Z hp90) ?_
   refine wz 3 Z Z (QV.load pl3 Z Z (fun w hw => CellsAt.one 0 (((Own.karr 0 Z hk h_order) w hw).ele hp90 c87) Z)) ?_
   refine wz 4 Z Z (QV.move Z Z) ?_
   refine wz 5 Z Z (QV.move Z Z) ?_
   obtain ⟨c91, hm92⟩ := cs hm88; clear hm88
   obtain ⟨p93, hp94⟩ := h_order.lenMap.ix (sz := 1) ln_len c91
   refine wz 6 Z Z (QV.indexSlice sl22 Z Z Z Z hp94) ?_
   refine wz 7 Z Z (QV.load pl3 Z Z (fun w hw => CellsAt.one 0 (((Own.karr 0 Z hk h_order) w hw).ele hp94 c91) Z)) ?_
   refine wz 8 Z Z (QV.eql Z Z Z Z) ?_
   refine WD.e (by kernel_rfl) ?_
   refine WQ.then ?_
   refine WC.cond Z (fun h95 => ?_) (fun h95 => ?_)
   ·skip
    have hm96 := br_t h95 hm92; clear hm92
    refine sr ?_
    refine wa Z ?_
    refine wa Z ?_
    refine nt (WC.ret (kr (tr (tr (kr (tr (tr (kr (tr (tr (kr (tr (tr ?_)))))))))))))
    obtain rfl := up_ret hm96 hn84
    obtain rfl := up_ret hm41 hn25
    obtain rfl := (eq_of_some hm16).symm
    refine WQ.ret2 Z Z Z (fun w hw => ?_)
    exact ⟨(.slice none 0 0, K0), Z, hw.pick [4] (by decide), Arr.nil⟩
   have hm97 := br_f h95 hm92; clear hm92
   refine sk (WQ.block (WQ.then (WC.region ?_)))
   refine wm Z ?_
   obtain ⟨c98, hm99⟩ := cs hm97; clear hm97
   refine wq Z (QV.add Z Z Z Z c98) ?_
   refine wa Z ?_
   refine WL.nil ?_
   exact WQ.again1 (i13_5 + 1) m81 (up_next hm99 hn84) (Nat.lt_succ_self _) ⟨Z, Z, Z, Z, Z, Z, Z, Z, trivial⟩ (fun w hw => hw.pick [0, 1, 2, 3, 4] (by decide))
  have hm100 := br_f h85 hm83; clear hm83
  refine WC.exit (te (te (WQ.block_exit ?_)))
  exact WQ.out1 i13_5 (up_brk hm100 hn84) ⟨Z, Z, Z, Z, Z, Z, Z, Z, trivial⟩ (fun w hw => hw.pick [0, 1, 2, 3, 4] (by decide))
 have hm101 := br_f h26 hm24; clear hm24
 refine WC.exit (te (te (WQ.block_exit ?_)))
 exact WQ.out3 v13_4 s12_4 uv13_4 ⟨up_brk hm101 hn25, hlv13_4⟩ ⟨Z, Z, Z, Z, Z, Z, Z, trivial⟩ (fun w hw => hw.pick [0, 1, 2, 3, 4] (by decide))
theorem R10_Far_w {v_l_logs : Value} {v_l_body : Value} {v_l_outs : Value} {l : Lp} {a : Int} {r : Int} (w : World) (hm : R10_Far_m l a = some r) (h_l_logs : Arr w v_l_logs 1 (l.logs.map icell)) (h_l_body : Arr w v_l_body 9 (l.body.map Stm.cells)) (h_l_outs : Arr w v_l_outs 1 (l.outs.map icell)) : Calls Try.prog 33 #[.agg #[v_l_logs, v_l_body, v_l_outs], .int .i64 a] w (fun e w' => e = .returned (.int .i64 r) ∧ Grow w w') := by
 unfold R10_Far_m at hm
 have hk := Base.rfl (w := w)
 refine calls_of_WC (n := 50) (args := [.agg #[v_l_logs, v_l_body, v_l_outs], .int .i64 a]) Try.func33 Z Z (Nat.le_of_ble_eq_true Z) ?_ (Own.startK hk (Own.start w))
 refine sr ?_
 refine WL.effect Z ?_
 refine (EV.boxAgg (by decide) Z Z (fun b1 => ?_))
 refine wa Z ?_
 refine ns ?_
 refine wa Z ?_
 refine nt (WC.seq (sr ?_))
 refine wa Z ?_
 refine nt ?_
 obtain ⟨o2, ho3, hm4⟩ := bd_some hm; clear hm; obtain ⟨n5, ho6⟩ := lp_some ho3
 refine WC.bloop3 (H2 := [blk b1 [v_l_logs, v_l_body, v_l_outs] 25]) (τ := [(1, (true, _)), (2, (true, _))]) (fun (far5_3 : Int) (i6_3 : Int) (k_3 : World) => [(5, (true, .int .i64 far5_3)), (6, (true, .int .i64 i6_3))]) (fun far5_3 i6_3 k_3 => [kn noM w.heap.size w k_3]) (fun far5_3 i6_3 k_3 m => iter (R10_Far_L0 l a) m (far5_3, i6_3) = some o2 ∧ Le w k_3) (fun far5_3 i6_3 k_3 => o2 = .go (far5_3, i6_3) ∧ Le w k_3) 0 0 w n5 ⟨ho6, (Le.refl _)⟩ ⟨Z, Z, Z, Z, trivial⟩ (fun w hw => hw.pick [1, 0] (by decide)) ?_ ?_
 ·skip
  rintro far5_3 i6_3 k_3 ⟨rfl, hle_3⟩
  refine WQ.then (sr ?_)
  refine wm Z ?_
  refine wa Z ?_
  refine nt (WC.ret ?_)
  obtain rfl := (eq_of_some hm4).symm
  refine WQ.ret1 Z Z (fun w hw => ?_)
  exact ⟨Z, Own.kgrow (fun _ x => x) hw⟩
 rintro far5_3 i6_3 k_3 m7 ⟨hI8, hle_3⟩
 obtain ⟨m9, s10, rfl, hm11, hn12⟩ := iter_step hI8; clear hI8; unfold R10_Far_L0 at hm11; simp only at hm11
 refine WC.seq (sr ?_)
 refine wm Z ?_
 refine wf fd25_1 Z ?_
 refine wl pl23 Z (Own.cell 1 Z Z) ?_
 refine wq Z (QV.lenS Try.underlying23 Z Z (h_l_body.le hle_3).lenMap) ?_
 refine wq Z (QV.lss Z Z Z Z) ?_
 refine nt ?_
 refine WC.cond Z (fun h13 => ?_) (fun h13 => ?_)
 ·skip
  have hm14 := br_t h13 hm11; clear hm11
  refine sk (WQ.then (WC.seq (WC.block (sr ?_))))
  refine wf fd25_1 Z ?_
  refine wl pl23 Z (Own.cell 1 Z Z) ?_
  refine wm Z ?_
  obtain ⟨c15, hm16⟩ := cs hm14; clear hm14
  obtain ⟨p17, hp18⟩ := (h_l_body.le hle_3).lenMap.ix (sz := 9) ln_len c15
  refine wq Z (QV.indexSlice sl23 Z Z Z Z hp18) ?_
  refine wq Z (QV.loadAgg ag81 Z Z Z (fun w hw => ((Own.karr 0 Z hk (h_l_body.le hle_3)) w hw).ele hp18 c15)) ?_
  refine WL.effect Z ?_
  obtain ⟨x19, hx20, hm21⟩ := bd_some hm16; clear hm16
  refine (EV.callR (X := Value × World) (R := []) (fun X => X.1) (fun X => []) (fun X => X.2) (fun X => Arr X.2 X.1 2 (x19.map Rf.cells)) hk (fun _ h => by cases h; decide) en30 (EvAll.cons Z Z EvAll.nil) (fun M w h1 h2 => have h := R2_Uses_w hx20  M w h1 h2; h) (fun X22 hF22 hle22 => ?_))
  refine wa Z ?_
  refine ns ?_
  refine wa Z ?_
  refine nt ?_
  obtain ⟨o23, ho24, hm25⟩ := bd_some hm21; clear hm21; obtain ⟨n26, ho27⟩ := lp_some ho24
  refine WC.bloop2 (H2 := [kn noM w.heap.size w X22.2, blk b1 [v_l_logs, v_l_body, v_l_outs] 25]) (τ := [(1, (true, _)), (2, (true, _)), (6, (true, _)), (7, (true, _))]) (fun (far5_4 : Int) (k8_4 : Int) => [(5, (true, .int .i64 far5_4)), (8, (true, .int .i64 k8_4))]) (fun far5_4 k8_4 => []) (fun far5_4 k8_4 m => iter (R10_Far_L2 a x19) m (far5_4, k8_4) = some o23) (fun far5_4 k8_4 => o23 = .go (far5_4, k8_4)) far5_3 0 n26 ho27 ⟨Z, Z, Z, Z, Z, Z, trivial⟩ (fun w hw => hw.pick [0, 1] (by decide)) ?_ ?_
  ·skip
   rintro far5_4 k8_4 rfl
   refine WQ.block (WQ.then (WC.region ?_))
   refine wm Z ?_
   obtain ⟨c28, hm29⟩ := cs hm25; clear hm25
   refine wq Z (QV.add Z Z Z Z c28) ?_
   refine wa Z ?_
   refine WL.nil ?_
   exact WQ.again3 far5_4 (i6_3 + 1) X22.2 m9 ⟨up_next hm29 hn12, (hle_3.trans hle22)⟩ (Nat.lt_succ_self _) ⟨Z, Z, Z, Z, trivial⟩ (fun w hw => hw.pick [0, 1] (by decide))
  rintro far5_4 k8_4 m30 hI31
  obtain ⟨m32, s33, rfl, hm34, hn35⟩ := iter_step hI31; clear hI31; unfold R10_Far_L2 at hm34; simp only at hm34
  refine WC.seq (sr ?_)
  refine wm Z ?_
  refine wm Z ?_
  refine wq Z (QV.lenS Try.underlying76 Z Z hF22.lenMap) ?_
  refine wq Z (QV.lss Z Z Z Z) ?_
  refine nt ?_
  refine WC.cond Z (fun h36 => ?_) (fun h36 => ?_)
  ·skip
   have hm37 := br_t h36 hm34; clear hm34
   refine sk (WQ.then (WC.seq (WC.block (sr ?_))))
   refine wm Z ?_
   refine wm Z ?_
   obtain ⟨c38, hm39⟩ := cs hm37; clear hm37
   obtain ⟨p40, hp41⟩ := hF22.lenMap.ix (sz := 2) ln_len c38
   refine wq Z (QV.indexSlice sl76 Z Z Z Z hp41) ?_
   refine wf fd79_0 Z ?_
   refine wl pl3 Z (fun w hw => CellsAt.one 0 (((Own.karr 0 Z hk hF22) w hw).ele hp41 c38) Z) ?_
   refine wm Z ?_
   refine wq Z (QV.eql Z Z Z Z) ?_
   refine wm Z ?_
   refine gp Z (fun hG => QV.move Z Z) ?_
   refine gp Z (fun hG => QV.move Z Z) ?_
   obtain ⟨c42, hm43⟩ := cs hm39; clear hm39
   obtain ⟨p44, hp45⟩ := hF22.lenMap.ixG (sz := 2) ln_len c42
   refine gp Z (fun hG => QV.indexSlice sl76 Z hG Z hG (hp45 hG)) ?_
   refine gp Z (fun hG => QV.fieldAddr fd79_1 Z hG) ?_
   refine gp Z (fun hG => QV.load pl3 Z hG (fun w hw => CellsAt.one 1 (((Own.karr 0 Z hk hF22) w hw).ele (hp45 hG) (c42 hG)) Z)) ?_
   refine gp Z (fun hG => QV.move Z Z) ?_
   refine gp Z (fun hG => QV.gtr Z hG Z hG) ?_
   refine wq Z (QV.pickAnd Z Z Z (fun h => h)) ?_
   refine nt ?_
   refine WC.cond Z (fun h46 => ?_) (fun h46 => ?_)
   ·skip
    have hm47 := br_t h46 hm43; clear hm43
    refine WC.region ?_
    refine wm Z ?_
    refine wm Z ?_
    obtain ⟨c48, hm49⟩ := cs hm47; clear hm47
    obtain ⟨p50, hp51⟩ := hF22.lenMap.ix (sz := 2) ln_len c48
    refine wq Z (QV.indexSlice sl76 Z Z Z Z hp51) ?_
    refine wf fd79_1 Z ?_
    refine wl pl3 Z (fun w hw => CellsAt.one 1 (((Own.karr 0 Z hk hF22) w hw).ele hp51 c48) Z) ?_
    refine wa Z ?_
    refine WL.nil (WQ.block (WQ.then (WC.region ?_)))
    refine wm Z ?_
    obtain ⟨c52, hm53⟩ := cs hm49; clear hm49
    refine wq Z (QV.add Z Z Z Z c52) ?_
    refine wa Z ?_
    refine WL.nil ?_
    exact WQ.again2 ((ele x19 k8_4).bk) (k8_4 + 1) m32 (up_next hm53 hn35) (Nat.lt_succ_self _) ⟨Z, Z, Z, Z, Z, Z, trivial⟩ (fun w hw => hw.pick [0, 1] (by decide))
   have hm54 := br_f h46 hm43; clear hm43
   refine sk (WQ.block (WQ.then (WC.region ?_)))
   refine wm Z ?_
   obtain ⟨c55, hm56⟩ := cs hm54; clear hm54
   refine wq Z (QV.add Z Z Z Z c55) ?_
   refine wa Z ?_
   refine WL.nil ?_
   exact WQ.again2 far5_4 (k8_4 + 1) m32 (up_next hm56 hn35) (Nat.lt_succ_self _) ⟨Z, Z, Z, Z, Z, Z, trivial⟩ (fun w hw => hw.pick [0, 1] (by decide))
  have hm57 := br_f h36 hm34; clear hm34
  refine WC.exit (te (te (WQ.block_exit ?_)))
  exact WQ.out2 far5_4 k8_4 (up_brk hm57 hn35) ⟨Z, Z, Z, Z, Z, Z, trivial⟩ (fun w hw => hw.pick [0, 1] (by decide))
 have hm58 := br_f h13 hm11; clear hm11
 refine WC.exit (te (te (WQ.block_exit ?_)))
 exact WQ.out3 far5_3 i6_3 k_3 ⟨up_brk hm58 hn12, hle_3⟩ ⟨Z, Z, Z, Z, trivial⟩ (fun w hw => hw.pick [0, 1] (by decide))
theorem R10_kept_w {v_of : Value} {of : List Off} {pace : Int} {regs : Int} {r_ : Rf} {u : Int} {r : Bool} (w : World) (hm : R10_kept_m of pace regs r_ u = some r) (h_of : Arr w v_of 3 (of.map Off.cells)) : Calls Try.prog 32 #[v_of, .int .i64 pace, .int .i64 regs, .agg #[.int .i64 r_.st, .int .i64 r_.bk], .int .i64 u] w (fun e w' => e = .returned (.bool r) ∧ Grow w w') := by
 unfold R10_kept_m at hm
 have hk := Base.rfl (w := w)
 refine calls_of_WC (n := 88) (args := [v_of, .int .i64 pace, .int .i64 regs, .agg #[.int .i64 r_.st, .int .i64 r_.bk], .int .i64 u]) Try.func32 Z Z (Nat.le_of_ble_eq_true Z) ?_ (Own.startK hk (Own.start w))
 refine sr ?_
 refine WL.effect Z ?_
 refine (EV.boxAgg (by decide) Z Z (fun b1 => ?_))
 refine wa Z ?_
 refine ns ?_
 refine wm Z ?_
 refine wf fd79_0 Z ?_
 refine wl pl3 Z (Own.cell 0 Z Z) ?_
 obtain ⟨c2, hm3⟩ := cs hm; clear hm
 obtain ⟨p4, hp5⟩ := h_of.lenMap.ix (sz := 3) ln_len c2
 refine wq Z (QV.indexSlice sl52 Z Z Z Z hp5) ?_
 refine wq Z (QV.loadAgg ag73 Z Z Z (fun w hw => ((Own.karr 1 Z hk h_of) w hw).ele hp5 c2)) ?_
 refine WL.effect Z ?_
 refine (EV.alloc (by decide) ze73 (fun b6 => ?_))
 refine WL.effect Z ?_
 refine (EV.store 0 Z Z Z Z Z Z (vs := [.int .i64 ((ele of r_.st).time), .int .i64 ((ele of r_.st).ready), .int .i64 ((ele of r_.st).place)]) (show Value.cells _ = List.toArray _ from Z) sz73 (Nat.le_of_ble_eq_true Z) (one_cons Z (one_cons Z (one_cons Z one_nil))) ?_)
 refine nt (WC.seq (sr ?_))
 refine wa Z ?_
 refine nt ?_
 obtain ⟨o7, ho8, hm9⟩ := bd_some hm3; clear hm3; obtain ⟨n10, ho11⟩ := lp_some ho8
 refine WC.bloop1 (H2 := [blk b6 [.int .i64 ((ele of r_.st).time), .int .i64 ((ele of r_.st).ready), .int .i64 ((ele of r_.st).place)] 73, blk b1 [.int .i64 r_.st, .int .i64 r_.bk] 79, kn noM w.heap.size w w]) (τ := [(0, (true, _)), (1, (true, _)), (2, (true, _)), (4, (true, _)), (8, (true, _)), (11, (true, _))]) (fun (m12_2 : Int) => [(12, (true, .int .i64 m12_2))]) (fun m12_2 => []) (fun m12_2 m => iter (R10_kept_L0 of pace regs r_ u) m m12_2 = some o7) (fun m12_2 => o7 = .go m12_2) 0 n10 ho11 ⟨Z, Z, Z, Z, Z, Z, Z, trivial⟩ (fun w hw => hw.pick [0, 1, 2] (by decide)) ?_ ?_
 ·skip
  rintro m12_2 rfl
  refine WQ.then (sr ?_)
  refine wa Z ?_
  refine nt (WC.ret ?_)
  obtain rfl := (eq_of_some hm9).symm
  refine WQ.ret1 Z Z (fun w hw => ?_)
  exact ⟨Z, Own.kgrow (fun _ x => x) hw⟩
 rintro m12_2 m12 hI13
 obtain ⟨m14, s15, rfl, hm16, hn17⟩ := iter_step hI13; clear hI13; unfold R10_kept_L0 at hm16
 refine WC.seq (sr ?_)
 refine wm Z ?_
 refine wm Z ?_
 refine wq Z (QV.lenS Try.underlying52 Z Z h_of.lenMap) ?_
 refine wq Z (QV.lss Z Z Z Z) ?_
 refine nt ?_
 refine WC.cond Z (fun h18 => ?_) (fun h18 => ?_)
 ·skip
  have hm19 := br_t h18 hm16; clear hm16
  refine sk (WQ.then (WC.seq (WC.block (sr ?_))))
  refine wa Z ?_
  refine nt ?_
  obtain ⟨o20, ho21, hm22⟩ := bd_some hm19; clear hm19; obtain ⟨n23, ho24⟩ := lp_some ho21
  refine WC.bloop1 (H2 := [blk b6 [.int .i64 ((ele of r_.st).time), .int .i64 ((ele of r_.st).ready), .int .i64 ((ele of r_.st).place)] 73, blk b1 [.int .i64 r_.st, .int .i64 r_.bk] 79, kn noM w.heap.size w w]) (τ := [(0, (true, _)), (1, (true, _)), (2, (true, _)), (4, (true, _)), (8, (true, _)), (11, (true, _)), (12, (true, _))]) (fun (j13_3 : Int) => [(13, (true, .int .i64 j13_3))]) (fun j13_3 => []) (fun j13_3 m => iter (R10_kept_L2 of pace regs r_ u m12_2) m j13_3 = some o20) (fun j13_3 => o20 = .go j13_3) (-4100) n23 ho24 ⟨Z, Z, Z, Z, Z, Z, Z, Z, trivial⟩ (fun w hw => hw.pick [0, 1, 2] (by decide)) ?_ ?_
  ·skip
   rintro j13_3 rfl
   refine WQ.block (WQ.then (WC.region ?_))
   refine wm Z ?_
   obtain ⟨c25, hm26⟩ := cs hm22; clear hm22
   refine wq Z (QV.add Z Z Z Z c25) ?_
   refine wa Z ?_
   refine WL.nil ?_
   exact WQ.again1 (m12_2 + 1) m14 (up_next hm26 hn17) (Nat.lt_succ_self _) ⟨Z, Z, Z, Z, Z, Z, Z, trivial⟩ (fun w hw => hw.pick [0, 1, 2] (by decide))
  rintro j13_3 m27 hI28
  obtain ⟨m29, s30, rfl, hm31, hn32⟩ := iter_step hI28; clear hI28; unfold R10_kept_L2 at hm31
  refine WC.seq (sr ?_)
  refine wm Z ?_
  refine wq Z (QV.leq Z Z Z Z) ?_
  refine nt ?_
  refine WC.cond Z (fun h33 => ?_) (fun h33 => ?_)
  ·skip
   have hm34 := br_t h33 hm31; clear hm31
   refine sk (WQ.then (WC.seq (WC.block (sr ?_))))
   refine wm Z ?_
   refine wm Z ?_
   obtain ⟨c35, hm36⟩ := cs hm34; clear hm34
   obtain ⟨p37, hp38⟩ := h_of.lenMap.ix (sz := 3) ln_len c35
   refine wq Z (QV.indexSlice sl52 Z Z Z Z hp38) ?_
   refine wf fd73_1 Z ?_
   refine wl pl3 Z (fun w hw => CellsAt.one 1 (((Own.karr 2 Z hk h_of) w hw).ele hp38 c35) Z) ?_
   refine wm Z ?_
   refine wm Z ?_
   obtain ⟨c39, hm40⟩ := cs hm36; clear hm36
   refine wq Z (QV.mul Z Z Z Z c39) ?_
   obtain ⟨c41, hm42⟩ := cs hm40; clear hm40
   refine wq Z (QV.add Z Z Z Z c41) ?_
   refine wa Z ?_
   refine ns ?_
   refine wm Z ?_
   refine wf fd73_1 Z ?_
   refine wl pl3 Z (Own.cell 0 Z Z) ?_
   refine wq Z (QV.geq Z Z Z Z) ?_
   refine wm Z ?_
   refine gp Z (fun hG => QV.move Z Z) ?_
   refine gp Z (fun hG => QV.move Z Z) ?_
   refine gp Z (fun hG => QV.leq Z hG Z hG) ?_
   refine wq Z (QV.pickAnd Z Z Z (fun h => h)) ?_
   refine wm Z ?_
   refine gn Z (fun hG => QV.fieldAddr fd79_1 Z Z) ?_
   refine gn Z (fun hG => QV.load pl3 Z hG (Own.cell 1 Z Z)) ?_
   refine gn Z (fun hG => QV.gtr Z hG Z Z) ?_
   refine gn Z (fun hG => QV.move Z hG) ?_
   refine WL.g Z Z (GuardIs.posC Z Z) (fun hG => QV.move Z Z) ?_
   refine WL.g Z Z (GuardIs.posC Z Z) (fun hG => QV.gtr Z hG Z Z) ?_
   refine gn Z (fun hG => QV.pickAnd Z hG Z (fun h => andT hG h)) ?_
   refine gn Z (fun hG => QV.move Z hG) ?_
   refine WL.g Z Z (GuardIs.posC Z Z) (fun hG => QV.move Z Z) ?_
   refine WL.g Z Z (GuardIs.posC Z Z) (fun hG => QV.move Z Z) ?_
   refine WL.g Z Z (GuardIs.posC Z Z) (fun hG => QV.leq Z hG Z hG) ?_
   refine gn Z (fun hG => QV.pickAnd Z hG Z (fun h => andT hG h)) ?_
   refine wq Z (QV.pickOr Z Z Z (fun h => notF h)) ?_
   refine wa Z ?_
   refine nt (WC.seq (sr ?_))
   refine wm Z ?_
   refine wq Z (QV.not Z Z) ?_
   refine wm Z ?_
   refine gn Z (fun hG => QV.move Z Z) ?_
   refine gn Z (fun hG => QV.fieldAddr fd79_0 Z Z) ?_
   refine gn Z (fun hG => QV.load pl3 Z hG (Own.cell 1 Z Z)) ?_
   refine gn Z (fun hG => QV.eql Z hG Z hG) ?_
   refine gn Z (fun hG => QV.move Z hG) ?_
   refine WL.g Z Z (GuardIs.posC Z Z) (fun hG => QV.move Z Z) ?_
   refine WL.g Z Z (GuardIs.posC Z Z) (fun hG => QV.eql Z hG Z Z) ?_
   refine gn Z (fun hG => QV.pickAnd Z hG Z (fun h => andT hG h)) ?_
   refine wq Z (QV.pickOr Z Z Z (fun h => notF h)) ?_
   refine nt ?_
   refine WC.cond Z (fun h43 => ?_) (fun h43 => ?_)
   ·skip
    have hm44 := br_t h43 hm42; clear hm42
    refine WC.exit (te (WQ.block_exit (WQ.then (WC.region ?_))))
    refine wm Z ?_
    obtain ⟨c45, hm46⟩ := cs hm44; clear hm44
    refine wq Z (QV.add Z Z Z Z c45) ?_
    refine wa Z ?_
    refine WL.nil ?_
    exact WQ.again1 (j13_3 + 1) m29 (up_next hm46 hn32) (Nat.lt_succ_self _) ⟨Z, Z, Z, Z, Z, Z, Z, Z, trivial⟩ (fun w hw => hw.pick [0, 1, 2] (by decide))
   have hm47 := br_f h43 hm42; clear hm42
   refine sk (WQ.then (WC.seq ?_))
   refine WC.dr (m := 13) (S := Own noM w [kn noM w.heap.size w w, blk b6 [.int .i64 ((ele of r_.st).time), .int .i64 ((ele of r_.st).ready), .int .i64 ((ele of r_.st).place)] 73, blk b1 [.int .i64 r_.st, .int .i64 r_.bk] 79]) (by kernel_rfl) (by kernel_rfl) (fun w hw => hw.pick [2, 0, 1] (by decide)) ?_
   refine wz 0 Z Z (QV.move Z Z) ?_
   refine wz 1 Z Z (QV.move Z Z) ?_
   obtain ⟨c48, hm49⟩ := cs hm47; clear hm47
   obtain ⟨p50, hp51⟩ := h_of.lenMap.ix (sz := 3) ln_len c48
   refine wz 2 Z Z (QV.indexSlice sl52 Z Z Z Z hp51) ?_
   refine wz 3 Z Z (QV.fieldAddr fd73_2 Z Z) ?_
   refine wz 4 Z Z (QV.load pl3 Z Z (fun w hw => CellsAt.one 2 (((Own.karr 0 Z hk h_of) w hw).ele hp51 c48) Z)) ?_
   refine wz 5 Z Z (QV.move Z Z) ?_
   obtain ⟨c52, hm53⟩ := cs hm49; clear hm49
   refine wz 6 Z Z (QV.add Z Z Z Z c52) ?_
   refine wz 7 Z Z (QV.fieldAddr fd73_2 Z Z) ?_
   refine wz 8 Z Z (QV.load pl3 Z Z (Own.cell 1 Z Z)) ?_
   obtain ⟨c54, hm55⟩ := cs hm53; clear hm53
   refine wz 9 Z Z (QV.sub Z Z Z Z c54) ?_
   refine wz 10 Z Z (QV.move Z Z) ?_
   obtain ⟨x56, hx57, hm58⟩ := bd_some hm55; clear hm55
   refine wz 11 Z Z (QV.call en31 (EvAll.cons Z Z (EvAll.cons Z Z EvAll.nil)) (fun w hw => have h := R1_Rest_w w hx57 ; h)) ?_
   refine wz 12 Z Z (QV.eql Z Z Z Z) ?_
   refine WD.e (by kernel_rfl) ?_
   refine WQ.then ?_
   refine WC.cond Z (fun h59 => ?_) (fun h59 => ?_)
   ·skip
    have hm60 := br_t h59 hm58; clear hm58
    refine sr ?_
    refine wa Z ?_
    refine nt (WC.ret (kr (tr (tr (kr (tr (kr (tr (tr (kr (tr (tr ?_))))))))))))
    obtain rfl := up_ret hm60 hn32
    obtain rfl := up_ret hm22 hn17
    obtain rfl := (eq_of_some hm9).symm
    refine WQ.ret1 Z Z (fun w hw => ?_)
    exact ⟨Z, Own.kgrow (fun _ x => x) hw⟩
   have hm61 := br_f h59 hm58; clear hm58
   refine sk (WQ.block (WQ.then (WC.region ?_)))
   refine wm Z ?_
   obtain ⟨c62, hm63⟩ := cs hm61; clear hm61
   refine wq Z (QV.add Z Z Z Z c62) ?_
   refine wa Z ?_
   refine WL.nil ?_
   exact WQ.again1 (j13_3 + 1) m29 (up_next hm63 hn32) (Nat.lt_succ_self _) ⟨Z, Z, Z, Z, Z, Z, Z, Z, trivial⟩ (fun w hw => hw.pick [0, 1, 2] (by decide))
  have hm64 := br_f h33 hm31; clear hm31
  refine WC.exit (te (te (WQ.block_exit ?_)))
  exact WQ.out1 j13_3 (up_brk hm64 hn32) ⟨Z, Z, Z, Z, Z, Z, Z, Z, trivial⟩ (fun w hw => hw.pick [0, 1, 2] (by decide))
 have hm65 := br_f h18 hm16; clear hm16
 refine WC.exit (te (te (WQ.block_exit ?_)))
 exact WQ.out1 m12_2 (up_brk hm65 hn17) ⟨Z, Z, Z, Z, Z, Z, Z, trivial⟩ (fun w hw => hw.pick [0, 1, 2] (by decide))
theorem R10_told_w {v_of : Value} {of : List Off} {pace : Int} {regs : Int} {out_ : Int} {r : Bool} (w : World) (hm : R10_told_m of pace regs out_ = some r) (h_of : Arr w v_of 3 (of.map Off.cells)) : Calls Try.prog 34 #[v_of, .int .i64 pace, .int .i64 regs, .int .i64 out_] w (fun e w' => e = .returned (.bool r) ∧ Grow w w') := by
 unfold R10_told_m at hm
 have hk := Base.rfl (w := w)
 refine calls_of_WC (n := 58) (args := [v_of, .int .i64 pace, .int .i64 regs, .int .i64 out_]) Try.func34 Z Z (Nat.le_of_ble_eq_true Z) ?_ (Own.startK hk (Own.start w))
 refine sr ?_
 refine wa Z ?_
 refine ns ?_
 refine wm Z ?_
 refine wm Z ?_
 obtain ⟨c1, hm2⟩ := cs hm; clear hm
 obtain ⟨p3, hp4⟩ := h_of.lenMap.ix (sz := 3) ln_len c1
 refine wq Z (QV.indexSlice sl52 Z Z Z Z hp4) ?_
 refine wq Z (QV.loadAgg ag73 Z Z Z (fun w hw => ((Own.karr 0 Z hk h_of) w hw).ele hp4 c1)) ?_
 refine WL.effect Z ?_
 refine (EV.alloc (by decide) ze73 (fun b5 => ?_))
 refine WL.effect Z ?_
 refine (EV.store 0 Z Z Z Z Z Z (vs := [.int .i64 ((ele of out_).time), .int .i64 ((ele of out_).ready), .int .i64 ((ele of out_).place)]) (show Value.cells _ = List.toArray _ from Z) sz73 (Nat.le_of_ble_eq_true Z) (one_cons Z (one_cons Z (one_cons Z one_nil))) ?_)
 refine nt (WC.seq (sr ?_))
 refine wa Z ?_
 refine nt ?_
 obtain ⟨o6, ho7, hm8⟩ := bd_some hm2; clear hm2; obtain ⟨n9, ho10⟩ := lp_some ho7
 refine WC.bloop1 (H2 := [blk b5 [.int .i64 ((ele of out_).time), .int .i64 ((ele of out_).ready), .int .i64 ((ele of out_).place)] 73, kn noM w.heap.size w w]) (τ := [(0, (true, _)), (1, (true, _)), (2, (true, _)), (3, (true, _)), (9, (true, _))]) (fun (m10_2 : Int) => [(10, (true, .int .i64 m10_2))]) (fun m10_2 => []) (fun m10_2 m => iter (R10_told_L0 of pace regs out_) m m10_2 = some o6) (fun m10_2 => o6 = .go m10_2) 0 n9 ho10 ⟨Z, Z, Z, Z, Z, Z, trivial⟩ (fun w hw => hw.pick [0, 1] (by decide)) ?_ ?_
 ·skip
  rintro m10_2 rfl
  refine WQ.then (sr ?_)
  refine wa Z ?_
  refine nt (WC.ret ?_)
  obtain rfl := (eq_of_some hm8).symm
  refine WQ.ret1 Z Z (fun w hw => ?_)
  exact ⟨Z, Own.kgrow (fun _ x => x) hw⟩
 rintro m10_2 m11 hI12
 obtain ⟨m13, s14, rfl, hm15, hn16⟩ := iter_step hI12; clear hI12; unfold R10_told_L0 at hm15
 refine WC.seq (sr ?_)
 refine wm Z ?_
 refine wm Z ?_
 refine wq Z (QV.lenS Try.underlying52 Z Z h_of.lenMap) ?_
 refine wq Z (QV.lss Z Z Z Z) ?_
 refine nt ?_
 refine WC.cond Z (fun h17 => ?_) (fun h17 => ?_)
 ·skip
  have hm18 := br_t h17 hm15; clear hm15
  refine sk (WQ.then (WC.seq (WC.block (sr ?_))))
  refine wa Z ?_
  refine nt ?_
  obtain ⟨o19, ho20, hm21⟩ := bd_some hm18; clear hm18; obtain ⟨n22, ho23⟩ := lp_some ho20
  refine WC.bloop1 (H2 := [blk b5 [.int .i64 ((ele of out_).time), .int .i64 ((ele of out_).ready), .int .i64 ((ele of out_).place)] 73, kn noM w.heap.size w w]) (τ := [(0, (true, _)), (1, (true, _)), (2, (true, _)), (3, (true, _)), (9, (true, _)), (10, (true, _))]) (fun (j11_3 : Int) => [(11, (true, .int .i64 j11_3))]) (fun j11_3 => []) (fun j11_3 m => iter (R10_told_L2 of pace regs out_ m10_2) m j11_3 = some o19) (fun j11_3 => o19 = .go j11_3) 0 n22 ho23 ⟨Z, Z, Z, Z, Z, Z, Z, trivial⟩ (fun w hw => hw.pick [0, 1] (by decide)) ?_ ?_
  ·skip
   rintro j11_3 rfl
   refine WQ.block (WQ.then (WC.region ?_))
   refine wm Z ?_
   obtain ⟨c24, hm25⟩ := cs hm21; clear hm21
   refine wq Z (QV.add Z Z Z Z c24) ?_
   refine wa Z ?_
   refine WL.nil ?_
   exact WQ.again1 (m10_2 + 1) m13 (up_next hm25 hn16) (Nat.lt_succ_self _) ⟨Z, Z, Z, Z, Z, Z, trivial⟩ (fun w hw => hw.pick [0, 1] (by decide))
  rintro j11_3 m26 hI27
  obtain ⟨m28, s29, rfl, hm30, hn31⟩ := iter_step hI27; clear hI27; unfold R10_told_L2 at hm30
  refine WC.seq (WC.seq ?_)
  refine WC.dr (m := 12) (S := Own noM w [kn noM w.heap.size w w, blk b5 [.int .i64 ((ele of out_).time), .int .i64 ((ele of out_).ready), .int .i64 ((ele of out_).place)] 73]) (by kernel_rfl) (by kernel_rfl) (fun w hw => hw.pick [1, 0] (by decide)) ?_
  refine wz 0 Z Z (QV.move Z Z) ?_
  refine wz 1 Z Z (QV.move Z Z) ?_
  obtain ⟨c32, hm33⟩ := cs hm30; clear hm30
  obtain ⟨p34, hp35⟩ := h_of.lenMap.ix (sz := 3) ln_len c32
  refine wz 2 Z Z (QV.indexSlice sl52 Z Z Z Z hp35) ?_
  refine wz 3 Z Z (QV.fieldAddr fd73_1 Z Z) ?_
  refine wz 4 Z Z (QV.load pl3 Z Z (fun w hw => CellsAt.one 1 (((Own.karr 0 Z hk h_of) w hw).ele hp35 c32) Z)) ?_
  refine wz 5 Z Z (QV.move Z Z) ?_
  refine wz 6 Z Z (QV.move Z Z) ?_
  obtain ⟨c36, hm37⟩ := cs hm33; clear hm33
  refine wz 7 Z Z (QV.mul Z Z Z Z c36) ?_
  obtain ⟨c38, hm39⟩ := cs hm37; clear hm37
  refine wz 8 Z Z (QV.add Z Z Z Z c38) ?_
  refine wz 9 Z Z (QV.fieldAddr fd73_1 Z Z) ?_
  refine wz 10 Z Z (QV.load pl3 Z Z (Own.cell 1 Z Z)) ?_
  refine wz 11 Z Z (QV.geq Z Z Z Z) ?_
  refine WD.e (by kernel_rfl) ?_
  refine WQ.then ?_
  refine WC.cond Z (fun h40 => ?_) (fun h40 => ?_)
  ·skip
   have hm41 := br_t h40 hm39; clear hm39
   refine sk (WQ.then (WC.seq (WC.block (WC.seq ?_))))
   refine WC.dr (m := 22) (S := Own noM w [kn noM w.heap.size w w, blk b5 [.int .i64 ((ele of out_).time), .int .i64 ((ele of out_).ready), .int .i64 ((ele of out_).place)] 73]) (by kernel_rfl) (by kernel_rfl) (fun w hw => hw.pick [1, 0] (by decide)) ?_
   refine wz 0 Z Z (QV.move Z Z) ?_
   refine wz 1 Z Z (QV.move Z Z) ?_
   refine wz 2 Z Z (QV.neq Z Z Z Z) ?_
   refine wz 3 Z Z (QV.move Z Z) ?_
   refine WD.g 4 Z (by kernel_rfl) Z Z (GuardIs.neg Z Z) (fun hG => QV.move Z Z) ?_
   refine WD.g 5 Z (by kernel_rfl) Z Z (GuardIs.neg Z Z) (fun hG => QV.neq Z hG Z Z) ?_
   refine wz 6 Z Z (QV.pickOr Z Z Z (fun h => notF h)) ?_
   refine wz 7 Z Z (QV.move Z Z) ?_
   refine WD.g 8 Z (by kernel_rfl) Z Z (GuardIs.pos Z Z) (fun hG => QV.move Z Z) ?_
   refine WD.g 9 Z (by kernel_rfl) Z Z (GuardIs.pos Z Z) (fun hG => QV.move Z Z) ?_
   obtain ⟨c42, hm43⟩ := cs hm41; clear hm41
   obtain ⟨p44, hp45⟩ := h_of.lenMap.ixG (sz := 3) ln_len c42
   refine WD.g 10 Z (by kernel_rfl) Z Z (GuardIs.pos Z Z) (fun hG => QV.indexSlice sl52 Z hG Z hG (hp45 hG)) ?_
   refine WD.g 11 Z (by kernel_rfl) Z Z (GuardIs.pos Z Z) (fun hG => QV.fieldAddr fd73_2 Z hG) ?_
   refine WD.g 12 Z (by kernel_rfl) Z Z (GuardIs.pos Z Z) (fun hG => QV.load pl3 Z hG (fun w hw => CellsAt.one 2 (((Own.karr 0 Z hk h_of) w hw).ele (hp45 hG) (c42 hG)) Z)) ?_
   refine WD.g 13 Z (by kernel_rfl) Z Z (GuardIs.pos Z Z) (fun hG => QV.move Z Z) ?_
   obtain ⟨c46, hm47⟩ := cs hm43; clear hm43
   refine WD.g 14 Z (by kernel_rfl) Z Z (GuardIs.pos Z Z) (fun hG => QV.add Z hG Z hG (c46 hG)) ?_
   refine WD.g 15 Z (by kernel_rfl) Z Z (GuardIs.pos Z Z) (fun hG => QV.fieldAddr fd73_2 Z Z) ?_
   refine WD.g 16 Z (by kernel_rfl) Z Z (GuardIs.pos Z Z) (fun hG => QV.load pl3 Z hG (Own.cell 1 Z Z)) ?_
   obtain ⟨c48, hm49⟩ := cs hm47; clear hm47
   refine WD.g 17 Z (by kernel_rfl) Z Z (GuardIs.pos Z Z) (fun hG => QV.sub Z hG Z hG (c48 hG)) ?_
   refine WD.g 18 Z (by kernel_rfl) Z Z (GuardIs.pos Z Z) (fun hG => QV.move Z Z) ?_
   obtain ⟨x50, hx51, hm52⟩ := bdG_some hm49; clear hm49
   refine WD.g 19 Z (by kernel_rfl) Z Z (GuardIs.pos Z Z) (fun hG => QV.call en31 (EvAll.cons Z hG (EvAll.cons Z hG EvAll.nil)) (fun w hw => have h := R1_Rest_w w (hx51 hG) ; h)) ?_
   refine WD.g 20 Z (by kernel_rfl) Z Z (GuardIs.pos Z Z) (fun hG => QV.eql Z hG Z Z) ?_
   refine wz 21 Z Z (QV.pickAnd Z Z Z (fun h => h)) ?_
   refine WD.e (by kernel_rfl) ?_
   refine WQ.then ?_
   refine WC.cond Z (fun h53 => ?_) (fun h53 => ?_)
   ·skip
    have hm54 := br_t h53 hm52; clear hm52
    refine sr ?_
    refine wa Z ?_
    refine nt (WC.ret (kr (tr (tr (kr (tr (kr (tr (tr (kr (tr (tr ?_))))))))))))
    obtain rfl := up_ret hm54 hn31
    obtain rfl := up_ret hm21 hn16
    obtain rfl := (eq_of_some hm8).symm
    refine WQ.ret1 Z Z (fun w hw => ?_)
    exact ⟨Z, Own.kgrow (fun _ x => x) hw⟩
   have hm55 := br_f h53 hm52; clear hm52
   refine sk (WQ.block (WQ.then (WC.region ?_)))
   refine wm Z ?_
   obtain ⟨c56, hm57⟩ := cs hm55; clear hm55
   refine wq Z (QV.sub Z Z Z Z c56) ?_
   refine wa Z ?_
   refine WL.nil ?_
   exact WQ.again1 (j11_3 - 1) m28 (up_next hm57 hn31) (Nat.lt_succ_self _) ⟨Z, Z, Z, Z, Z, Z, Z, trivial⟩ (fun w hw => hw.pick [0, 1] (by decide))
  have hm58 := br_f h40 hm39; clear hm39
  refine WC.exit (te (te (WQ.block_exit ?_)))
  exact WQ.out1 j11_3 (up_brk hm58 hn31) ⟨Z, Z, Z, Z, Z, Z, Z, trivial⟩ (fun w hw => hw.pick [0, 1] (by decide))
 have hm59 := br_f h17 hm15; clear hm15
 refine WC.exit (te (te (WQ.block_exit ?_)))
 exact WQ.out1 m10_2 (up_brk hm59 hn16) ⟨Z, Z, Z, Z, Z, Z, trivial⟩ (fun w hw => hw.pick [0, 1] (by decide))
theorem R10_Takes_w {v_l_logs : Value} {v_l_body : Value} {v_l_outs : Value} {v_k__ops : Value} {v_order : Value} {l : Lp} {t : Tgt} {k_ : Krn} {order : List Int} {r : Bool} (w : World) (hm : R10_Takes_m l t k_ order = some r) (h_l_logs : Arr w v_l_logs 1 (l.logs.map icell)) (h_l_body : Arr w v_l_body 9 (l.body.map Stm.cells)) (h_l_outs : Arr w v_l_outs 1 (l.outs.map icell)) (h_k__ops : Arr w v_k__ops 10 (k_.ops.map Opr.cells)) (h_order : Arr w v_order 1 (order.map icell)) : Calls Try.prog 8 #[.agg #[v_l_logs, v_l_body, v_l_outs], .agg #[.int .i64 t.u0, .int .i64 t.u1, .int .i64 t.u2, .int .i64 t.w0, .int .i64 t.w1, .int .i64 t.w2, .int .i64 t.regs], .agg #[.int .i64 k_.pace, .int .i64 k_.stages, v_k__ops], v_order] w (fun e w' => e = .returned (.bool r) ∧ Grow w w') := by
 unfold R10_Takes_m at hm
 have hk := Base.rfl (w := w)
 refine calls_of_WC (n := 203) (args := [.agg #[v_l_logs, v_l_body, v_l_outs], .agg #[.int .i64 t.u0, .int .i64 t.u1, .int .i64 t.u2, .int .i64 t.w0, .int .i64 t.w1, .int .i64 t.w2, .int .i64 t.regs], .agg #[.int .i64 k_.pace, .int .i64 k_.stages, v_k__ops], v_order]) Try.func8 Z Z (Nat.le_of_ble_eq_true Z) ?_ (Own.startK hk (Own.start w))
 refine sr ?_
 refine WL.effect Z ?_
 refine (EV.boxAgg (by decide) Z Z (fun b1 => ?_))
 refine WL.effect Z ?_
 refine (EV.boxAgg (by decide) Z Z (fun b2 => ?_))
 refine WL.effect Z ?_
 refine (EV.boxAgg (by decide) Z Z (fun b3 => ?_))
 refine wa Z ?_
 refine ns ?_
 refine wq Z (QV.loadAgg ag25 Z Z Z (Own.cellsBlk 2 Z)) ?_
 refine wq Z (QV.loadAgg ag28 Z Z Z (Own.cellsBlk 1 Z)) ?_
 refine wq Z (QV.loadAgg ag31 Z Z Z (Own.cellsBlk 0 Z)) ?_
 refine wm Z ?_
 refine WL.effect Z ?_
 obtain ⟨x4, hx5, hm6⟩ := bd_some hm; clear hm
 refine EV.of (C' := Own noM w [kn noM w.heap.size w w, blk b3 [.int .i64 k_.pace, .int .i64 k_.stages, v_k__ops] 31, blk b2 t.cells 28, blk b1 [v_l_logs, v_l_body, v_l_outs] 25]) (fun w hw => hw.pick [3, 0, 1, 2] (by decide)) ?_
 refine (EV.callR (X := Value × World) (R := []) (fun X => .tuple #[X.1, .bool x4.2]) (fun X => []) (fun X => X.2) (fun X => Arr X.2 X.1 3 (x4.1.map Off.cells)) hk (fun _ h => by cases h; decide) en22 (EvAll.cons Z Z (EvAll.cons Z Z (EvAll.cons Z Z (EvAll.cons Z Z EvAll.nil)))) (fun M w h1 h2 => have h := R10_Layout_w hx5 h_l_logs h_l_body h_l_outs h_k__ops h_order M w h1 h2; h) (fun X7 hF7 hle7 => ?_))
 refine wm Z ?_
 refine wq Z (QV.extract Z Z Z) ?_
 refine wq Z (QV.extract Z Z Z) ?_
 refine wa Z ?_
 refine wa Z ?_
 refine nt (WC.seq (sr ?_))
 refine wm Z ?_
 refine wq Z (QV.not Z Z) ?_
 refine nt ?_
 refine WC.cond Z (fun h8 => ?_) (fun h8 => ?_)
 ·skip
  have hm9 := br_t h8 hm6; clear hm6
  refine sr ?_
  refine wa Z ?_
  refine nt (WC.ret (tr ?_))
  obtain rfl := (eq_of_some hm9).symm
  refine WQ.ret1 Z Z (fun w hw => ?_)
  exact ⟨Z, Own.kgrow (fun _ x => x) hw⟩
 have hm10 := br_f h8 hm6; clear hm6
 refine sk (WQ.then (sr ?_))
 refine wq Z (QV.loadAgg ag25 Z Z Z (Own.cellsBlk 3 Z)) ?_
 refine wq Z (QV.loadAgg ag28 Z Z Z (Own.cellsBlk 2 Z)) ?_
 refine WL.effect Z ?_
 obtain ⟨x11, hx12, hm13⟩ := bd_some hm10; clear hm10
 refine (EV.callR (X := Value × World) (R := []) (fun X => X.1) (fun X => []) (fun X => X.2) (fun X => Arr X.2 X.1 4 (x11.map Edg.cells)) hk (fun _ h => by cases h; decide) en29 (EvAll.cons Z Z (EvAll.cons Z Z EvAll.nil)) (fun M w h1 h2 => have h := R6_Edges_w hx12 (h_l_logs.le hle7) (h_l_body.le hle7) (h_l_outs.le hle7) M w h1 h2; h) (fun X14 hF14 hle14 => ?_))
 refine wa Z ?_
 refine nt (WC.seq (sr ?_))
 refine wa Z ?_
 refine nt ?_
 obtain ⟨o15, ho16, hm17⟩ := bd_some hm13; clear hm13; obtain ⟨n18, ho19⟩ := lp_some ho16
 refine WC.bloop1 (H2 := [kn noM w.heap.size w X14.2, blk b3 [.int .i64 k_.pace, .int .i64 k_.stages, v_k__ops] 31, blk b2 t.cells 28, blk b1 [v_l_logs, v_l_body, v_l_outs] 25]) (τ := [(3, (true, _)), (4, (true, _)), (5, (true, _)), (6, (true, _)), (9, (true, _)), (11, (true, _))]) (fun (i12_1 : Int) => [(12, (true, .int .i64 i12_1))]) (fun i12_1 => []) (fun i12_1 m => iter (R10_Takes_L0 k_ x4 x11) m i12_1 = some o15) (fun i12_1 => o15 = .go i12_1) 0 n18 ho19 ⟨Z, Z, Z, Z, Z, Z, Z, trivial⟩ (fun w hw => hw.pick [0, 1, 2, 3] (by decide)) ?_ ?_
 ·skip
  rintro i12_1 rfl
  refine WQ.then (sr ?_)
  refine wa Z ?_
  refine nt (WC.seq (sr ?_))
  refine wa Z ?_
  refine nt ?_
  refine WK.of (fun w hw => hw.vecNil (E := 3) (sz := 1) (enc := icell)) ?_
  obtain ⟨o21, ho22, hm23⟩ := bd_some hm17; clear hm17; obtain ⟨n24, ho25⟩ := lp_some ho22
  refine WC.bloop4 (H2 := [blk b3 [.int .i64 k_.pace, .int .i64 k_.stages, v_k__ops] 31, blk b2 t.cells 28, blk b1 [v_l_logs, v_l_body, v_l_outs] 25]) (τ := [(3, (true, _)), (4, (true, _)), (5, (true, _)), (6, (true, _)), (9, (true, _))]) (fun (v20_24 : List Int) (s15_24 : Int) (uv20_24 : Value) (k_24 : World) => [(14, (true, uv20_24)), (15, (true, .int .i64 s15_24))]) (fun v20_24 s15_24 uv20_24 k_24 => [vec uv20_24 3 1 (List.map icell v20_24), kn noM w.heap.size w k_24]) (fun v20_24 s15_24 uv20_24 k_24 m => iter (R10_Takes_L2 l t k_ order x4) m (v20_24, s15_24) = some o21 ∧ SliceLen uv20_24 v20_24.length ∧ Le X14.2 k_24) (fun v20_24 s15_24 uv20_24 k_24 => o21 = .go (v20_24, s15_24) ∧ SliceLen uv20_24 v20_24.length ∧ Le X14.2 k_24) [] 0 (.slice none 0 0) X14.2 n24 ⟨ho25, SliceLen.nil, (Le.refl _)⟩ ⟨Z, Z, Z, Z, Z, Z, Z, trivial⟩ (fun w hw => hw.pick [0, 1, 2, 3, 4] (by decide)) ?_ ?_
  ·skip
   rintro v20_24 s15_24 uv20_24 k_24 ⟨rfl, hlv20_24, hle_24⟩
   refine WQ.then (WC.seq (sr ?_))
   refine wa Z ?_
   refine nt ?_
   obtain ⟨o26, ho27, hm28⟩ := bd_some hm23; clear hm23; obtain ⟨n29, ho30⟩ := lp_some ho27
   refine WC.bloop1 (H2 := [vec uv20_24 3 1 (List.map icell v20_24), kn noM w.heap.size w k_24, blk b3 [.int .i64 k_.pace, .int .i64 k_.stages, v_k__ops] 31, blk b2 t.cells 28, blk b1 [v_l_logs, v_l_body, v_l_outs] 25]) (τ := [(4, (true, _)), (5, (true, _)), (6, (true, _)), (9, (true, _))]) (fun (i23_25 : Int) => [(23, (true, .int .i64 i23_25))]) (fun i23_25 => []) (fun i23_25 m => iter (R10_Takes_L10 l t k_ x4) m i23_25 = some o26) (fun i23_25 => o26 = .go i23_25) 0 n29 ho30 ⟨Z, Z, Z, Z, Z, trivial⟩ (fun w hw => hw.pick [0, 1, 2, 3, 4] (by decide)) ?_ ?_
   ·skip
    rintro i23_25 rfl
    refine WQ.then (sr ?_)
    refine wa Z ?_
    refine nt (WC.ret ?_)
    obtain rfl := (eq_of_some hm28).symm
    refine WQ.ret1 Z Z (fun w hw => ?_)
    exact ⟨Z, Own.kgrow (fun _ x => x) hw⟩
   rintro i23_25 m31 hI32
   obtain ⟨m33, s34, rfl, hm35, hn36⟩ := iter_step hI32; clear hI32; unfold R10_Takes_L10 at hm35
   refine WC.seq (sr ?_)
   refine wm Z ?_
   refine wf fd25_2 Z ?_
   refine wl pl22 Z (Own.cell 4 Z Z) ?_
   refine wq Z (QV.lenS Try.underlying22 Z Z (h_l_outs.le ((hle7.trans hle14).trans hle_24)).lenMap) ?_
   refine wq Z (QV.lss Z Z Z Z) ?_
   refine nt ?_
   refine WC.cond Z (fun h37 => ?_) (fun h37 => ?_)
   ·skip
    have hm38 := br_t h37 hm35; clear hm35
    refine sk (WQ.then (WC.seq (WC.block (WC.seq ?_))))
    refine WC.dr (m := 12) (S := Own noM w [kn noM w.heap.size w k_24, vec uv20_24 3 1 (List.map icell v20_24), blk b3 [.int .i64 k_.pace, .int .i64 k_.stages, v_k__ops] 31, blk b2 t.cells 28, blk b1 [v_l_logs, v_l_body, v_l_outs] 25]) (by kernel_rfl) (by kernel_rfl) (fun w hw => hw.pick [1, 0, 2, 3, 4] (by decide)) ?_
    refine wz 0 Z Z (QV.move Z Z) ?_
    refine wz 1 Z Z (QV.fieldAddr fd31_0 Z Z) ?_
    refine wz 2 Z Z (QV.load pl3 Z Z (Own.cell 2 Z Z)) ?_
    refine wz 3 Z Z (QV.fieldAddr fd28_2 Z Z) ?_
    refine wz 4 Z Z (QV.load pl3 Z Z (Own.cell 3 Z Z)) ?_
    refine wz 5 Z Z (QV.fieldAddr fd25_2 Z Z) ?_
    refine wz 6 Z Z (QV.load pl22 Z Z (Own.cell 4 Z Z)) ?_
    refine wz 7 Z Z (QV.move Z Z) ?_
    obtain ⟨c39, hm40⟩ := cs hm38; clear hm38
    obtain ⟨p41, hp42⟩ := (h_l_outs.le ((hle7.trans hle14).trans hle_24)).lenMap.ix (sz := 1) ln_len c39
    refine wz 8 Z Z (QV.indexSlice sl22 Z Z Z Z hp42) ?_
    refine wz 9 Z Z (QV.load pl3 Z Z (fun w hw => CellsAt.one 0 (((Own.karr 0 Z hk (h_l_outs.le ((hle7.trans hle14).trans hle_24))) w hw).ele hp42 c39) Z)) ?_
    obtain ⟨x43, hx44, hm45⟩ := bd_some hm40; clear hm40
    refine wz 10 Z Z (QV.call en34 (EvAll.cons Z Z (EvAll.cons Z Z (EvAll.cons Z Z (EvAll.cons Z Z EvAll.nil)))) (fun w hw => have h := R10_told_w w hx44 ((Own.karr 0 Z hk (hF7.le (hle14.trans hle_24))) w hw); h)) ?_
    refine wz 11 Z Z (QV.not Z Z) ?_
    refine WD.e (by kernel_rfl) ?_
    refine WQ.then ?_
    refine WC.cond Z (fun h46 => ?_) (fun h46 => ?_)
    ·skip
     have hm47 := br_t h46 hm45; clear hm45
     refine sr ?_
     refine wa Z ?_
     refine nt (WC.ret (kr (tr (tr (kr (tr (tr ?_)))))))
     obtain rfl := up_ret hm47 hn36
     obtain rfl := (eq_of_some hm28).symm
     refine WQ.ret1 Z Z (fun w hw => ?_)
     exact ⟨Z, Own.kgrow (fun _ x => x) hw⟩
    have hm48 := br_f h46 hm45; clear hm45
    refine sk (WQ.block (WQ.then (WC.region ?_)))
    refine wm Z ?_
    obtain ⟨c49, hm50⟩ := cs hm48; clear hm48
    refine wq Z (QV.add Z Z Z Z c49) ?_
    refine wa Z ?_
    refine WL.nil ?_
    exact WQ.again1 (i23_25 + 1) m33 (up_next hm50 hn36) (Nat.lt_succ_self _) ⟨Z, Z, Z, Z, Z, trivial⟩ (fun w hw => hw.pick [0, 1, 2, 3, 4] (by decide))
   have hm51 := br_f h37 hm35; clear hm35
   refine WC.exit (te (te (WQ.block_exit ?_)))
   exact WQ.out1 i23_25 (up_brk hm51 hn36) ⟨Z, Z, Z, Z, Z, trivial⟩ (fun w hw => hw.pick [0, 1, 2, 3, 4] (by decide))
  rintro v20_24 s15_24 uv20_24 k_24 m52 ⟨hI53, hlv20_24, hle_24⟩
  obtain ⟨m54, s55, rfl, hm56, hn57⟩ := iter_step hI53; clear hI53; unfold R10_Takes_L2 at hm56; simp only at hm56
  refine WC.seq (sr ?_)
  refine wm Z ?_
  refine wm Z ?_
  refine wq Z (QV.lenS Try.underlying52 Z Z (hF7.le (hle14.trans hle_24)).lenMap) ?_
  refine wq Z (QV.lss Z Z Z Z) ?_
  refine nt ?_
  refine WC.cond Z (fun h58 => ?_) (fun h58 => ?_)
  ·skip
   have hm59 := br_t h58 hm56; clear hm56
   refine sk (WQ.then (WC.seq (WC.block (WC.seq ?_))))
   refine WC.dr (m := 10) (S := Own noM w [kn noM w.heap.size w k_24, vec uv20_24 3 1 (List.map icell v20_24), blk b3 [.int .i64 k_.pace, .int .i64 k_.stages, v_k__ops] 31, blk b2 t.cells 28, blk b1 [v_l_logs, v_l_body, v_l_outs] 25]) (by kernel_rfl) (by kernel_rfl) (fun w hw => hw.pick [1, 0, 2, 3, 4] (by decide)) ?_
   refine wz 0 Z Z (QV.fieldAddr fd31_2 Z Z) ?_
   refine wz 1 Z Z (QV.load pl29 Z Z (Own.cell 2 Z Z)) ?_
   refine wz 2 Z Z (QV.move Z Z) ?_
   refine wz 3 Z Z (QV.move Z Z) ?_
   obtain ⟨c60, hm61⟩ := cs hm59; clear hm59
   obtain ⟨p62, hp63⟩ := (h_order.le ((hle7.trans hle14).trans hle_24)).lenMap.ix (sz := 1) ln_len c60
   refine wz 4 Z Z (QV.indexSlice sl22 Z Z Z Z hp63) ?_
   refine wz 5 Z Z (QV.load pl3 Z Z (fun w hw => CellsAt.one 0 (((Own.karr 0 Z hk (h_order.le ((hle7.trans hle14).trans hle_24))) w hw).ele hp63 c60) Z)) ?_
   obtain ⟨c64, hm65⟩ := cs hm61; clear hm61
   obtain ⟨p66, hp67⟩ := (h_k__ops.le ((hle7.trans hle14).trans hle_24)).lenMap.ix (sz := 10) ln_len c64
   refine wz 6 Z Z (QV.indexSlice sl29 Z Z Z Z hp67) ?_
   refine wz 7 Z Z (QV.loadAgg ag75 Z Z Z (fun w hw => ((Own.karr 0 Z hk (h_k__ops.le ((hle7.trans hle14).trans hle_24))) w hw).ele hp67 c64)) ?_
   refine WD.o 8 Z (by kernel_rfl) Z ?_
   refine (EV.alloc (by decide) ze75 (fun b68 => ?_))
   refine WD.b (H' := [kn noM w.heap.size w k_24, blk b68 [.int .i64 0, .int .i64 0, .int .i64 0, .int .i64 0, .int .i64 0, .int .i64 0, .int .i64 0, .int .i64 0, .int .i64 0, .int .i64 0] 75, vec uv20_24 3 1 (List.map icell v20_24), blk b3 [.int .i64 k_.pace, .int .i64 k_.stages, v_k__ops] 31, blk b2 t.cells 28, blk b1 [v_l_logs, v_l_body, v_l_outs] 25]) (fun w hw => hw.pick [2, 0, 1, 3, 4, 5] (by decide)) (fun w hw => hw.pick [0, 2, 3, 4, 5] (by decide)) ?_
   refine WD.l 9 Z (by kernel_rfl) Z ?_
   refine (EV.store 0 Z Z Z Z Z Z (vs := (Opr.cells (ele k_.ops (ele order s15_24)))) (show Value.cells _ = List.toArray _ from Z) sz75 (Nat.le_of_ble_eq_true Z) (one_cons Z (one_cons Z (one_cons Z (one_cons Z (one_cons Z (one_cons Z (one_cons Z (one_cons Z (one_cons Z (one_cons Z one_nil)))))))))) ?_)
   refine WQ.then (sr ?_)
   refine wf fd25_1 Z ?_
   refine wl pl23 Z (Own.cell 5 Z Z) ?_
   refine wm Z ?_
   obtain ⟨c69, hm70⟩ := cs hm65; clear hm65
   obtain ⟨p71, hp72⟩ := (h_l_body.le ((hle7.trans hle14).trans hle_24)).lenMap.ix (sz := 9) ln_len c69
   refine wq Z (QV.indexSlice sl23 Z Z Z Z hp72) ?_
   refine wq Z (QV.loadAgg ag81 Z Z Z (fun w hw => ((Own.karr 2 Z hk (h_l_body.le ((hle7.trans hle14).trans hle_24))) w hw).ele hp72 c69)) ?_
   refine WL.effect Z ?_
   obtain ⟨x73, hx74, hm75⟩ := bd_some hm70; clear hm70
   refine EV.of (C' := Own noM w [kn noM w.heap.size w k_24, blk b68 (Opr.cells (ele k_.ops (ele order s15_24))) 75, vec uv20_24 3 1 (List.map icell v20_24), blk b3 [.int .i64 k_.pace, .int .i64 k_.stages, v_k__ops] 31, blk b2 t.cells 28, blk b1 [v_l_logs, v_l_body, v_l_outs] 25]) (fun w hw => hw.pick [2, 0, 1, 3, 4, 5] (by decide)) ?_
   refine (EV.callR (X := Value × World) (R := []) (fun X => X.1) (fun X => []) (fun X => X.2) (fun X => Arr X.2 X.1 2 (x73.map Rf.cells)) hk (fun _ h => by cases h; decide) en30 (EvAll.cons Z Z EvAll.nil) (fun M w h1 h2 => have h := R2_Uses_w hx74  M w h1 h2; h) (fun X76 hF76 hle76 => ?_))
   refine wa Z ?_
   refine nt (WC.seq (sr ?_))
   refine wa Z ?_
   refine nt ?_
   obtain ⟨o77, ho78, hm79⟩ := bd_some hm75; clear hm75; obtain ⟨n80, ho81⟩ := lp_some ho78
   refine WC.bloop1 (H2 := [kn noM w.heap.size w X76.2, blk b68 (Opr.cells (ele k_.ops (ele order s15_24))) 75, vec uv20_24 3 1 (List.map icell v20_24), blk b3 [.int .i64 k_.pace, .int .i64 k_.stages, v_k__ops] 31, blk b2 t.cells 28, blk b1 [v_l_logs, v_l_body, v_l_outs] 25]) (τ := [(3, (true, _)), (4, (true, _)), (5, (true, _)), (6, (true, _)), (9, (true, _)), (14, (true, _)), (15, (true, _)), (16, (true, _)), (17, (true, _))]) (fun (i18_27 : Int) => [(18, (true, .int .i64 i18_27))]) (fun i18_27 => []) (fun i18_27 m => iter (R10_Takes_L4 t k_ order x4 s15_24 x73) m i18_27 = some o77) (fun i18_27 => o77 = .go i18_27) 0 n80 ho81 ⟨Z, Z, Z, Z, Z, Z, Z, Z, Z, Z, trivial⟩ (fun w hw => hw.pick [0, 1, 2, 3, 4, 5] (by decide)) ?_ ?_
   ·skip
    rintro i18_27 rfl
    refine WQ.then (sr ?_)
    refine wa Z ?_
    refine nt ?_
    obtain ⟨o82, ho83, hm84⟩ := bd_some hm79; clear hm79; obtain ⟨n85, ho86⟩ := lp_some ho83
    refine WC.bloop3 (H2 := [kn noM w.heap.size w X76.2, blk b68 (Opr.cells (ele k_.ops (ele order s15_24))) 75, blk b3 [.int .i64 k_.pace, .int .i64 k_.stages, v_k__ops] 31, blk b2 t.cells 28, blk b1 [v_l_logs, v_l_body, v_l_outs] 25]) (τ := [(3, (true, _)), (4, (true, _)), (5, (true, _)), (6, (true, _)), (9, (true, _)), (15, (true, _))]) (fun (v20_30 : List Int) (q20_30 : Int) (uv20_30 : Value) => [(14, (true, uv20_30)), (20, (true, .int .i64 q20_30))]) (fun v20_30 q20_30 uv20_30 => [vec uv20_30 3 1 (List.map icell v20_30)]) (fun v20_30 q20_30 uv20_30 m => iter (R10_Takes_L6 l t x4 s15_24) m (v20_30, q20_30) = some o82 ∧ SliceLen uv20_30 v20_30.length) (fun v20_30 q20_30 uv20_30 => o82 = .go (v20_30, q20_30) ∧ SliceLen uv20_30 v20_30.length) v20_24 1 uv20_24 n85 ⟨ho86, hlv20_24⟩ ⟨Z, Z, Z, Z, Z, Z, Z, Z, trivial⟩ (fun w hw => hw.pick [2, 0, 1, 3, 4, 5] (by decide)) ?_ ?_
    ·skip
     rintro v20_30 q20_30 uv20_30 ⟨rfl, hlv20_30⟩
     refine WQ.block (WQ.then (WC.region ?_))
     refine wm Z ?_
     obtain ⟨c87, hm88⟩ := cs hm84; clear hm84
     refine wq Z (QV.add Z Z Z Z c87) ?_
     refine wa Z ?_
     refine WL.nil ?_
     exact WQ.again4 v20_30 (s15_24 + 1) uv20_30 X76.2 m54 ⟨up_next hm88 hn57, hlv20_30, (hle_24.trans hle76)⟩ (Nat.lt_succ_self _) ⟨Z, Z, Z, Z, Z, Z, Z, trivial⟩ (fun w hw => hw.pick [0, 1, 3, 4, 5] (by decide))
    rintro v20_30 q20_30 uv20_30 m89 ⟨hI90, hlv20_30⟩
    obtain ⟨m91, s92, rfl, hm93, hn94⟩ := iter_step hI90; clear hI90; unfold R10_Takes_L6 at hm93; simp only at hm93
    refine WC.seq (sr ?_)
    refine wm Z ?_
    refine wq Z (QV.loadAgg ag25 Z Z Z (Own.cellsBlk 5 Z)) ?_
    refine wm Z ?_
    obtain ⟨x95, hx96, hm97⟩ := bd_some hm93; clear hm93
    refine wq Z (QV.call en33 (EvAll.cons Z Z (EvAll.cons Z Z EvAll.nil)) (fun w hw => have h := R10_Far_w w hx96 ((Own.karr 1 Z hk (h_l_logs.le (((hle7.trans hle14).trans hle_24).trans hle76))) w hw) ((Own.karr 1 Z hk (h_l_body.le (((hle7.trans hle14).trans hle_24).trans hle76))) w hw) ((Own.karr 1 Z hk (h_l_outs.le (((hle7.trans hle14).trans hle_24).trans hle76))) w hw); h)) ?_
    refine wq Z (QV.leq Z Z Z Z) ?_
    refine nt ?_
    refine WC.cond Z (fun h98 => ?_) (fun h98 => ?_)
    ·skip
     have hm99 := br_t h98 hm97; clear hm97
     refine sk (WQ.then (WC.seq (WC.block (WC.seq ?_))))
     refine WC.dr (m := 11) (S := Own noM w [kn noM w.heap.size w X76.2, vec uv20_30 3 1 (List.map icell v20_30), blk b68 (Opr.cells (ele k_.ops (ele order s15_24))) 75, blk b3 [.int .i64 k_.pace, .int .i64 k_.stages, v_k__ops] 31, blk b2 t.cells 28, blk b1 [v_l_logs, v_l_body, v_l_outs] 25]) (by kernel_rfl) (by kernel_rfl) (fun w hw => hw.pick [1, 0, 2, 3, 4, 5] (by decide)) ?_
     refine wz 0 Z Z (QV.move Z Z) ?_
     refine wz 1 Z Z (QV.move Z Z) ?_
     obtain ⟨c100, hm101⟩ := cs hm99; clear hm99
     obtain ⟨p102, hp103⟩ := (hF7.le ((hle14.trans hle_24).trans hle76)).lenMap.ix (sz := 3) ln_len c100
     refine wz 2 Z Z (QV.indexSlice sl52 Z Z Z Z hp103) ?_
     refine wz 3 Z Z (QV.fieldAddr fd73_2 Z Z) ?_
     refine wz 4 Z Z (QV.load pl3 Z Z (fun w hw => CellsAt.one 2 (((Own.karr 0 Z hk (hF7.le ((hle14.trans hle_24).trans hle76))) w hw).ele hp103 c100) Z)) ?_
     refine wz 5 Z Z (QV.move Z Z) ?_
     obtain ⟨c104, hm105⟩ := cs hm101; clear hm101
     refine wz 6 Z Z (QV.sub Z Z Z Z c104) ?_
     refine wz 7 Z Z (QV.fieldAddr fd28_2 Z Z) ?_
     refine wz 8 Z Z (QV.load pl3 Z Z (Own.cell 4 Z Z)) ?_
     obtain ⟨x106, hx107, hm108⟩ := bd_some hm105; clear hm105
     refine wz 9 Z Z (QV.call en31 (EvAll.cons Z Z (EvAll.cons Z Z EvAll.nil)) (fun w hw => have h := R1_Rest_w w hx107 ; h)) ?_
     refine wz 10 Z Z (QV.assign Z Z) ?_
     refine WD.e (by kernel_rfl) ?_
     refine WQ.then (WC.seq (sr ?_))
     refine wa Z ?_
     refine nt ?_
     obtain ⟨o109, ho110, hm111⟩ := bd_some hm108; clear hm108; obtain ⟨n112, ho113⟩ := lp_some ho110
     refine WC.bloop1 (H2 := [vec uv20_30 3 1 (List.map icell v20_30), kn noM w.heap.size w X76.2, blk b68 (Opr.cells (ele k_.ops (ele order s15_24))) 75, blk b3 [.int .i64 k_.pace, .int .i64 k_.stages, v_k__ops] 31, blk b2 t.cells 28, blk b1 [v_l_logs, v_l_body, v_l_outs] 25]) (τ := [(3, (true, _)), (4, (true, _)), (5, (true, _)), (6, (true, _)), (9, (true, _)), (14, (true, _)), (15, (true, _)), (20, (true, _)), (21, (true, _))]) (fun (i22_31 : Int) => [(22, (true, .int .i64 i22_31))]) (fun i22_31 => []) (fun i22_31 m => iter (R10_Takes_L8 v20_30 x106) m i22_31 = some o109) (fun i22_31 => o109 = .go i22_31) 0 n112 ho113 ⟨Z, Z, Z, Z, Z, Z, Z, Z, Z, Z, trivial⟩ (fun w hw => hw.pick [0, 1, 2, 3, 4, 5] (by decide)) ?_ ?_
     ·skip
      rintro i22_31 rfl
      refine WQ.then (WC.region ?_)
      refine wm Z ?_
      refine wm Z ?_
      refine WL.effect Z ?_
      refine (EV.buildSlice (by decide) sz_22 (by decide) (by decide) (ps := [(0, .tmp 181)]) (cells := [.int .i64 x106]) (EvAll.cons Z Z EvAll.nil) (by kernel_rfl) (fun b114 => ?_))
      refine WL.effect Z ?_
      obtain ⟨c115, hm116⟩ := cs hm111; clear hm111
      refine (EV.appendL (enc := icell) (xs := v20_30) (ys := [x106]) ((v20_30 ++ [x106])) 1 (by decide) ve22 Z Z Z Z Z (Own.blkArr 0 (rows := [x106].map icell) Z Z (rows_len icell_len)) icell_len (icell_one _) Z c115.1 c115.2 (fun u117 hu118 => ?_))
      refine wa Z ?_
      refine WL.nil (WQ.block (WQ.then (WC.region ?_)))
      refine wm Z ?_
      obtain ⟨c119, hm120⟩ := cs hm116; clear hm116
      refine wq Z (QV.add Z Z Z Z c119) ?_
      refine wa Z ?_
      refine WL.nil ?_
      exact WQ.again3 (v20_30 ++ [x106]) (q20_30 + 1) u117 m91 ⟨up_next hm120 hn94, hu118⟩ (Nat.lt_succ_self _) ⟨Z, Z, Z, Z, Z, Z, Z, Z, trivial⟩ (fun w hw => hw.pick [1, 2, 3, 4, 5, 6] (by decide))
     rintro i22_31 m121 hI122
     obtain ⟨m123, s124, rfl, hm125, hn126⟩ := iter_step hI122; clear hI122; unfold R10_Takes_L8 at hm125
     refine WC.seq (sr ?_)
     refine wm Z ?_
     refine wm Z ?_
     refine wq Z (QV.lenS Try.underlying22 Z Z hlv20_30) ?_
     refine wq Z (QV.lss Z Z Z Z) ?_
     refine nt ?_
     refine WC.cond Z (fun h127 => ?_) (fun h127 => ?_)
     ·skip
      have hm128 := br_t h127 hm125; clear hm125
      refine sk (WQ.then (WC.seq (WC.block (sr ?_))))
      refine wm Z ?_
      refine wm Z ?_
      obtain ⟨c129, hm130⟩ := cs hm128; clear hm128
      obtain ⟨p131, hp132⟩ := hlv20_30.ix (sz := 1) ln_len c129
      refine wq Z (QV.indexSlice sl22 Z Z Z Z hp132) ?_
      refine wl pl3 Z (fun w hw => CellsAt.one 0 (((Own.vecArr 0 Z) w hw).ele hp132 c129) Z) ?_
      refine wm Z ?_
      refine wq Z (QV.eql Z Z Z Z) ?_
      refine nt ?_
      refine WC.cond Z (fun h133 => ?_) (fun h133 => ?_)
      ·skip
       have hm134 := br_t h133 hm130; clear hm130
       refine sr ?_
       refine wa Z ?_
       refine nt (WC.ret (kr (tr (tr (kr (tr (tr (kr (tr (tr (kr (tr (kr (tr (tr (kr (tr (tr ?_))))))))))))))))))
       obtain rfl := up_ret hm134 hn126
       obtain rfl := up_ret hm111 hn94
       obtain rfl := up_ret hm84 hn57
       obtain rfl := (eq_of_some hm23).symm
       refine WQ.ret1 Z Z (fun w hw => ?_)
       exact ⟨Z, Own.kgrow (fun _ x => x) hw⟩
      have hm135 := br_f h133 hm130; clear hm130
      refine sk (WQ.block (WQ.then (WC.region ?_)))
      refine wm Z ?_
      obtain ⟨c136, hm137⟩ := cs hm135; clear hm135
      refine wq Z (QV.add Z Z Z Z c136) ?_
      refine wa Z ?_
      refine WL.nil ?_
      exact WQ.again1 (i22_31 + 1) m123 (up_next hm137 hn126) (Nat.lt_succ_self _) ⟨Z, Z, Z, Z, Z, Z, Z, Z, Z, Z, trivial⟩ (fun w hw => hw.pick [0, 1, 2, 3, 4, 5] (by decide))
     have hm138 := br_f h127 hm125; clear hm125
     refine WC.exit (te (te (WQ.block_exit ?_)))
     exact WQ.out1 i22_31 (up_brk hm138 hn126) ⟨Z, Z, Z, Z, Z, Z, Z, Z, Z, Z, trivial⟩ (fun w hw => hw.pick [0, 1, 2, 3, 4, 5] (by decide))
    have hm139 := br_f h98 hm97; clear hm97
    refine WC.exit (te (te (WQ.block_exit ?_)))
    exact WQ.out3 v20_30 q20_30 uv20_30 ⟨up_brk hm139 hn94, hlv20_30⟩ ⟨Z, Z, Z, Z, Z, Z, Z, Z, trivial⟩ (fun w hw => hw.pick [0, 1, 2, 3, 4, 5] (by decide))
   rintro i18_27 m140 hI141
   obtain ⟨m142, s143, rfl, hm144, hn145⟩ := iter_step hI141; clear hI141; unfold R10_Takes_L4 at hm144
   refine WC.seq (sr ?_)
   refine wm Z ?_
   refine wm Z ?_
   refine wq Z (QV.lenS Try.underlying76 Z Z hF76.lenMap) ?_
   refine wq Z (QV.lss Z Z Z Z) ?_
   refine nt ?_
   refine WC.cond Z (fun h146 => ?_) (fun h146 => ?_)
   ·skip
    have hm147 := br_t h146 hm144; clear hm144
    refine sk (WQ.then (WC.seq (WC.block (sr ?_))))
    refine wf fd75_4 Z ?_
    refine wl pl3 Z (Own.cell 1 Z Z) ?_
    refine wa Z ?_
    refine nt (WC.seq (sr ?_))
    refine wm Z ?_
    refine wq Z (QV.eql Z Z Z Z) ?_
    refine nt ?_
    obtain ⟨o148, hj149, hm150⟩ := bd_some hm147; clear hm147
    refine WC.joint1 (H2 := [kn noM w.heap.size w X76.2, blk b68 (Opr.cells (ele k_.ops (ele order s15_24))) 75, vec uv20_24 3 1 (List.map icell v20_24), blk b3 [.int .i64 k_.pace, .int .i64 k_.stages, v_k__ops] 31, blk b2 t.cells 28, blk b1 [v_l_logs, v_l_body, v_l_outs] 25]) (τ := [(3, (true, _)), (4, (true, _)), (5, (true, _)), (6, (true, _)), (9, (true, _)), (14, (true, _)), (15, (true, _)), (16, (true, _)), (17, (true, _)), (18, (true, _))]) (fun (name19_32 : Int) => [(19, (true, .int .i64 name19_32))]) (fun name19_32 => []) (fun name19_32 => o148 = .go name19_32) ⟨Z, Z, Z, Z, Z, Z, Z, Z, Z, Z, trivial⟩ (fun w hw => hw.pick [0, 1, 2, 3, 4, 5] (by decide)) ?_ ?_
    ·skip
     rintro name19_32 rfl
     refine WC.seq ?_
     refine WC.dr (m := 50) (by kernel_rfl) (by kernel_rfl) (fun w hw => hw) ?_
     refine wz 0 Z Z (QV.move Z Z) ?_
     refine wz 1 Z Z (QV.move Z Z) ?_
     refine wz 2 Z Z (QV.move Z Z) ?_
     refine wz 3 Z Z (QV.move Z Z) ?_
     obtain ⟨c151, hm152⟩ := cs hm150; clear hm150
     obtain ⟨p153, hp154⟩ := hF76.lenMap.ix (sz := 2) ln_len c151
     refine wz 4 Z Z (QV.indexSlice sl76 Z Z Z Z hp154) ?_
     refine wz 5 Z Z (QV.fieldAddr fd79_0 Z Z) ?_
     refine wz 6 Z Z (QV.load pl3 Z Z (fun w hw => CellsAt.one 0 (((Own.karr 0 Z hk hF76) w hw).ele hp154 c151) Z)) ?_
     obtain ⟨c155, hm156⟩ := cs hm152; clear hm152
     obtain ⟨p157, hp158⟩ := (hF7.le ((hle14.trans hle_24).trans hle76)).lenMap.ix (sz := 3) ln_len c155
     refine wz 7 Z Z (QV.indexSlice sl52 Z Z Z Z hp158) ?_
     refine wz 8 Z Z (QV.fieldAddr fd73_2 Z Z) ?_
     refine wz 9 Z Z (QV.load pl3 Z Z (fun w hw => CellsAt.one 2 (((Own.karr 0 Z hk (hF7.le ((hle14.trans hle_24).trans hle76))) w hw).ele hp158 c155) Z)) ?_
     refine wz 10 Z Z (QV.move Z Z) ?_
     refine wz 11 Z Z (QV.move Z Z) ?_
     obtain ⟨c159, hm160⟩ := cs hm156; clear hm156
     obtain ⟨p161, hp162⟩ := hF76.lenMap.ix (sz := 2) ln_len c159
     refine wz 12 Z Z (QV.indexSlice sl76 Z Z Z Z hp162) ?_
     refine wz 13 Z Z (QV.fieldAddr fd79_1 Z Z) ?_
     refine wz 14 Z Z (QV.load pl3 Z Z (fun w hw => CellsAt.one 1 (((Own.karr 0 Z hk hF76) w hw).ele hp162 c159) Z)) ?_
     obtain ⟨c163, hm164⟩ := cs hm160; clear hm160
     refine wz 15 Z Z (QV.sub Z Z Z Z c163) ?_
     refine wz 16 Z Z (QV.fieldAddr fd75_1 Z Z) ?_
     refine wz 17 Z Z (QV.load pl3 Z Z (Own.cell 1 Z Z)) ?_
     obtain ⟨c165, hm166⟩ := cs hm164; clear hm164
     refine wz 18 Z Z (QV.sub Z Z Z Z c165) ?_
     refine wz 19 Z Z (QV.fieldAddr fd28_2 Z Z) ?_
     refine wz 20 Z Z (QV.load pl3 Z Z (Own.cell 4 Z Z)) ?_
     obtain ⟨x167, hx168, hm169⟩ := bd_some hm166; clear hm166
     refine wz 21 Z Z (QV.call en31 (EvAll.cons Z Z (EvAll.cons Z Z EvAll.nil)) (fun w hw => have h := R1_Rest_w w hx168 ; h)) ?_
     refine wz 22 Z Z (QV.neq Z Z Z Z) ?_
     refine wz 23 Z Z (QV.move Z Z) ?_
     refine WD.g 24 Z (by kernel_rfl) Z Z (GuardIs.neg Z Z) (fun hG => QV.move Z Z) ?_
     refine WD.g 25 Z (by kernel_rfl) Z Z (GuardIs.neg Z Z) (fun hG => QV.fieldAddr fd31_0 Z Z) ?_
     refine WD.g 26 Z (by kernel_rfl) Z Z (GuardIs.neg Z Z) (fun hG => QV.load pl3 Z hG (Own.cell 3 Z Z)) ?_
     refine WD.g 27 Z (by kernel_rfl) Z Z (GuardIs.neg Z Z) (fun hG => QV.fieldAddr fd28_2 Z Z) ?_
     refine WD.g 28 Z (by kernel_rfl) Z Z (GuardIs.neg Z Z) (fun hG => QV.load pl3 Z hG (Own.cell 4 Z Z)) ?_
     refine WD.g 29 Z (by kernel_rfl) Z Z (GuardIs.neg Z Z) (fun hG => QV.move Z Z) ?_
     refine WD.g 30 Z (by kernel_rfl) Z Z (GuardIs.neg Z Z) (fun hG => QV.move Z Z) ?_
     obtain ⟨c170, hm171⟩ := cs hm169; clear hm169
     obtain ⟨p172, hp173⟩ := hF76.lenMap.ixG (sz := 2) ln_len c170
     refine WD.g 31 Z (by kernel_rfl) Z Z (GuardIs.neg Z Z) (fun hG => QV.indexSlice sl76 Z hG Z hG (hp173 hG)) ?_
     refine WD.g 32 Z (by kernel_rfl) Z Z (GuardIs.neg Z Z) (fun hG => QV.loadAgg ag79 Z Z hG (fun w hw => ((Own.karr 0 Z hk hF76) w hw).ele (hp173 hG) (c170 hG))) ?_
     refine WD.g 33 Z (by kernel_rfl) Z Z (GuardIs.neg Z Z) (fun hG => QV.move Z Z) ?_
     refine WD.g 34 Z (by kernel_rfl) Z Z (GuardIs.neg Z Z) (fun hG => QV.move Z Z) ?_
     obtain ⟨c174, hm175⟩ := cs hm171; clear hm171
     obtain ⟨p176, hp177⟩ := (hF7.le ((hle14.trans hle_24).trans hle76)).lenMap.ixG (sz := 3) ln_len c174
     refine WD.g 35 Z (by kernel_rfl) Z Z (GuardIs.neg Z Z) (fun hG => QV.indexSlice sl52 Z hG Z hG (hp177 hG)) ?_
     refine WD.g 36 Z (by kernel_rfl) Z Z (GuardIs.neg Z Z) (fun hG => QV.fieldAddr fd73_0 Z hG) ?_
     refine WD.g 37 Z (by kernel_rfl) Z Z (GuardIs.neg Z Z) (fun hG => QV.load pl3 Z hG (fun w hw => CellsAt.one 0 (((Own.karr 0 Z hk (hF7.le ((hle14.trans hle_24).trans hle76))) w hw).ele (hp177 hG) (c174 hG)) Z)) ?_
     refine WD.g 38 Z (by kernel_rfl) Z Z (GuardIs.neg Z Z) (fun hG => QV.move Z Z) ?_
     refine WD.g 39 Z (by kernel_rfl) Z Z (GuardIs.neg Z Z) (fun hG => QV.move Z Z) ?_
     obtain ⟨c178, hm179⟩ := cs hm175; clear hm175
     obtain ⟨p180, hp181⟩ := hF76.lenMap.ixG (sz := 2) ln_len c178
     refine WD.g 40 Z (by kernel_rfl) Z Z (GuardIs.neg Z Z) (fun hG => QV.indexSlice sl76 Z hG Z hG (hp181 hG)) ?_
     refine WD.g 41 Z (by kernel_rfl) Z Z (GuardIs.neg Z Z) (fun hG => QV.fieldAddr fd79_1 Z hG) ?_
     refine WD.g 42 Z (by kernel_rfl) Z Z (GuardIs.neg Z Z) (fun hG => QV.load pl3 Z hG (fun w hw => CellsAt.one 1 (((Own.karr 0 Z hk hF76) w hw).ele (hp181 hG) (c178 hG)) Z)) ?_
     refine WD.g 43 Z (by kernel_rfl) Z Z (GuardIs.neg Z Z) (fun hG => QV.fieldAddr fd31_0 Z Z) ?_
     refine WD.g 44 Z (by kernel_rfl) Z Z (GuardIs.neg Z Z) (fun hG => QV.load pl3 Z hG (Own.cell 3 Z Z)) ?_
     obtain ⟨c182, hm183⟩ := cs hm179; clear hm179
     refine WD.g 45 Z (by kernel_rfl) Z Z (GuardIs.neg Z Z) (fun hG => QV.mul Z hG Z hG (c182 hG)) ?_
     obtain ⟨c184, hm185⟩ := cs hm183; clear hm183
     refine WD.g 46 Z (by kernel_rfl) Z Z (GuardIs.neg Z Z) (fun hG => QV.add Z hG Z hG (c184 hG)) ?_
     obtain ⟨x186, hx187, hm188⟩ := bdG_some hm185; clear hm185
     refine WD.g 47 Z (by kernel_rfl) Z Z (GuardIs.neg Z Z) (fun hG => QV.call en32 (EvAll.cons Z hG (EvAll.cons Z hG (EvAll.cons Z hG (EvAll.cons Z hG (EvAll.cons Z hG EvAll.nil))))) (fun w hw => have h := R10_kept_w w (hx187 hG) ((Own.karr 0 Z hk (hF7.le ((hle14.trans hle_24).trans hle76))) w hw); h)) ?_
     refine WD.g 48 Z (by kernel_rfl) Z Z (GuardIs.neg Z Z) (fun hG => QV.not Z hG) ?_
     refine wz 49 Z Z (QV.pickOr Z Z Z (fun h => notF h)) ?_
     refine WD.e (by kernel_rfl) ?_
     refine WQ.then ?_
     refine WC.cond Z (fun h189 => ?_) (fun h189 => ?_)
     ·skip
      have hm190 := br_t h189 hm188; clear hm188
      refine sr ?_
      refine wa Z ?_
      refine nt (WC.ret (kr (tr (tr (kr (tr (tr (kr (tr (tr (kr (tr (tr ?_)))))))))))))
      obtain rfl := up_ret hm190 hn145
      obtain rfl := up_ret hm79 hn57
      obtain rfl := (eq_of_some hm23).symm
      refine WQ.ret1 Z Z (fun w hw => ?_)
      exact ⟨Z, Own.kgrow (fun _ x => x) hw⟩
     have hm191 := br_f h189 hm188; clear hm188
     refine sk (WQ.block (WQ.then (WC.region ?_)))
     refine wm Z ?_
     obtain ⟨c192, hm193⟩ := cs hm191; clear hm191
     refine wq Z (QV.add Z Z Z Z c192) ?_
     refine wa Z ?_
     refine WL.nil ?_
     exact WQ.again1 (i18_27 + 1) m142 (up_next hm193 hn145) (Nat.lt_succ_self _) ⟨Z, Z, Z, Z, Z, Z, Z, Z, Z, Z, trivial⟩ (fun w hw => hw.pick [0, 1, 2, 3, 4, 5] (by decide))
    refine WC.cond Z (fun h194 => ?_) (fun h194 => ?_)
    ·skip
     have hm195 := br_t h194 hj149; clear hj149
     refine WC.region ?_
     refine wf fd75_5 Z ?_
     refine wl pl3 Z (Own.cell 1 Z Z) ?_
     refine wa Z ?_
     refine WL.nil ?_
     exact WQ.out1 ((ele k_.ops (ele order s15_24)).b) (eq_of_some hm195) ⟨Z, Z, Z, Z, Z, Z, Z, Z, Z, Z, Z, trivial⟩ (fun w hw => hw.pick [0, 1, 2, 3, 4, 5] (by decide))
    have hm196 := br_f h194 hj149; clear hj149
    refine sk ?_
    exact WQ.out1 ((ele k_.ops (ele order s15_24)).a) (eq_of_some hm196) ⟨Z, Z, Z, Z, Z, Z, Z, Z, Z, Z, Z, trivial⟩ (fun w hw => hw.pick [0, 1, 2, 3, 4, 5] (by decide))
   have hm197 := br_f h146 hm144; clear hm144
   refine WC.exit (te (te (WQ.block_exit ?_)))
   exact WQ.out1 i18_27 (up_brk hm197 hn145) ⟨Z, Z, Z, Z, Z, Z, Z, Z, Z, Z, trivial⟩ (fun w hw => hw.pick [0, 1, 2, 3, 4, 5] (by decide))
  have hm198 := br_f h58 hm56; clear hm56
  refine WC.exit (te (te (WQ.block_exit ?_)))
  exact WQ.out4 v20_24 s15_24 uv20_24 k_24 ⟨up_brk hm198 hn57, hlv20_24, hle_24⟩ ⟨Z, Z, Z, Z, Z, Z, Z, trivial⟩ (fun w hw => hw.pick [0, 1, 2, 3, 4] (by decide))
 rintro i12_1 m199 hI200
 obtain ⟨m201, s202, rfl, hm203, hn204⟩ := iter_step hI200; clear hI200; unfold R10_Takes_L0 at hm203
 refine WC.seq (sr ?_)
 refine wm Z ?_
 refine wm Z ?_
 refine wq Z (QV.lenS Try.underlying68 Z Z hF14.lenMap) ?_
 refine wq Z (QV.lss Z Z Z Z) ?_
 refine nt ?_
 refine WC.cond Z (fun h205 => ?_) (fun h205 => ?_)
 ·skip
  have hm206 := br_t h205 hm203; clear hm203
  refine sk (WQ.then (WC.seq (WC.block (sr ?_))))
  refine wm Z ?_
  refine wm Z ?_
  obtain ⟨c207, hm208⟩ := cs hm206; clear hm206
  obtain ⟨p209, hp210⟩ := hF14.lenMap.ix (sz := 4) ln_len c207
  refine wq Z (QV.indexSlice sl68 Z Z Z Z hp210) ?_
  refine wq Z (QV.loadAgg ag71 Z Z Z (fun w hw => ((Own.karr 0 Z hk hF14) w hw).ele hp210 c207)) ?_
  refine WL.effect Z ?_
  refine (EV.alloc (by decide) ze71 (fun b211 => ?_))
  refine WL.effect Z ?_
  refine (EV.store 0 Z Z Z Z Z Z (vs := (Edg.cells (ele x11 i12_1))) (show Value.cells _ = List.toArray _ from Z) sz71 (Nat.le_of_ble_eq_true Z) (one_cons Z (one_cons Z (one_cons Z (one_cons Z one_nil)))) ?_)
  refine nt (WC.seq ?_)
  refine WC.dr (m := 22) (S := Own noM w [kn noM w.heap.size w X14.2, blk b211 (Edg.cells (ele x11 i12_1)) 71, blk b3 [.int .i64 k_.pace, .int .i64 k_.stages, v_k__ops] 31, blk b2 t.cells 28, blk b1 [v_l_logs, v_l_body, v_l_outs] 25]) (by kernel_rfl) (by kernel_rfl) (fun w hw => hw.pick [1, 0, 2, 3, 4] (by decide)) ?_
  refine wz 0 Z Z (QV.move Z Z) ?_
  refine wz 1 Z Z (QV.fieldAddr fd71_1 Z Z) ?_
  refine wz 2 Z Z (QV.load pl3 Z Z (Own.cell 1 Z Z)) ?_
  obtain ⟨c212, hm213⟩ := cs hm208; clear hm208
  obtain ⟨p214, hp215⟩ := (hF7.le hle14).lenMap.ix (sz := 3) ln_len c212
  refine wz 3 Z Z (QV.indexSlice sl52 Z Z Z Z hp215) ?_
  refine wz 4 Z Z (QV.fieldAddr fd73_0 Z Z) ?_
  refine wz 5 Z Z (QV.load pl3 Z Z (fun w hw => CellsAt.one 0 (((Own.karr 0 Z hk (hF7.le hle14)) w hw).ele hp215 c212) Z)) ?_
  refine wz 6 Z Z (QV.fieldAddr fd71_2 Z Z) ?_
  refine wz 7 Z Z (QV.load pl3 Z Z (Own.cell 1 Z Z)) ?_
  refine wz 8 Z Z (QV.fieldAddr fd31_0 Z Z) ?_
  refine wz 9 Z Z (QV.load pl3 Z Z (Own.cell 2 Z Z)) ?_
  obtain ⟨c216, hm217⟩ := cs hm213; clear hm213
  refine wz 10 Z Z (QV.mul Z Z Z Z c216) ?_
  obtain ⟨c218, hm219⟩ := cs hm217; clear hm217
  refine wz 11 Z Z (QV.add Z Z Z Z c218) ?_
  refine wz 12 Z Z (QV.move Z Z) ?_
  refine wz 13 Z Z (QV.fieldAddr fd71_0 Z Z) ?_
  refine wz 14 Z Z (QV.load pl3 Z Z (Own.cell 1 Z Z)) ?_
  obtain ⟨c220, hm221⟩ := cs hm219; clear hm219
  obtain ⟨p222, hp223⟩ := (hF7.le hle14).lenMap.ix (sz := 3) ln_len c220
  refine wz 15 Z Z (QV.indexSlice sl52 Z Z Z Z hp223) ?_
  refine wz 16 Z Z (QV.fieldAddr fd73_0 Z Z) ?_
  refine wz 17 Z Z (QV.load pl3 Z Z (fun w hw => CellsAt.one 0 (((Own.karr 0 Z hk (hF7.le hle14)) w hw).ele hp223 c220) Z)) ?_
  refine wz 18 Z Z (QV.fieldAddr fd71_3 Z Z) ?_
  refine wz 19 Z Z (QV.load pl3 Z Z (Own.cell 1 Z Z)) ?_
  obtain ⟨c224, hm225⟩ := cs hm221; clear hm221
  refine wz 20 Z Z (QV.add Z Z Z Z c224) ?_
  refine wz 21 Z Z (QV.lss Z Z Z Z) ?_
  refine WD.e (by kernel_rfl) ?_
  refine WQ.then ?_
  refine WC.cond Z (fun h226 => ?_) (fun h226 => ?_)
  ·skip
   have hm227 := br_t h226 hm225; clear hm225
   refine sr ?_
   refine wa Z ?_
   refine nt (WC.ret (kr (tr (tr (kr (tr (tr ?_)))))))
   obtain rfl := up_ret hm227 hn204
   obtain rfl := (eq_of_some hm17).symm
   refine WQ.ret1 Z Z (fun w hw => ?_)
   exact ⟨Z, Own.kgrow (fun _ x => x) hw⟩
  have hm228 := br_f h226 hm225; clear hm225
  refine sk (WQ.block (WQ.then (WC.region ?_)))
  refine wm Z ?_
  obtain ⟨c229, hm230⟩ := cs hm228; clear hm228
  refine wq Z (QV.add Z Z Z Z c229) ?_
  refine wa Z ?_
  refine WL.nil ?_
  exact WQ.again1 (i12_1 + 1) m201 (up_next hm230 hn204) (Nat.lt_succ_self _) ⟨Z, Z, Z, Z, Z, Z, Z, trivial⟩ (fun w hw => hw.pick [1, 2, 3, 4] (by decide))
 have hm231 := br_f h205 hm203; clear hm203
 refine WC.exit (te (te (WQ.block_exit ?_)))
 exact WQ.out1 i12_1 (up_brk hm231 hn204) ⟨Z, Z, Z, Z, Z, Z, Z, trivial⟩ (fun w hw => hw.pick [0, 1, 2, 3] (by decide))
end Go.Proofs.Ytaimbkndebaaiac
end
section
namespace Go.Proofs.Ytaimbkndebaaiac
open Go.Rd
open TNum TLoop TKern TKeep TOrd TCpt TDep TSched1 TEmit TCheck TRegs TBound TMake TBuild TRDep TRSched TRBound TR10
namespace TCode13
theorem eq75 : EqT Try.prog 75 10 := ⟨by kernel_rfl, ⟨_, Try.underlying75⟩, by kernel_rfl, by kernel_rfl⟩
end TCode13
open TCode13
theorem R13_Same_w {v_a_ops : Value} {v_b_ops : Value} {a : Krn} {b : Krn} {r : Bool} (w : World) (hm : R13_Same_m a b = some r) (h_a_ops : Arr w v_a_ops 10 (a.ops.map Opr.cells)) (h_b_ops : Arr w v_b_ops 10 (b.ops.map Opr.cells)) : Calls Try.prog 17 #[.agg #[.int .i64 a.pace, .int .i64 a.stages, v_a_ops], .agg #[.int .i64 b.pace, .int .i64 b.stages, v_b_ops]] w (fun e w' => e = .returned (.bool r) ∧ Grow w w') := by
 unfold R13_Same_m at hm
 have hk := Base.rfl (w := w)
 refine calls_of_WC (n := 45) (args := [.agg #[.int .i64 a.pace, .int .i64 a.stages, v_a_ops], .agg #[.int .i64 b.pace, .int .i64 b.stages, v_b_ops]]) Try.func17 Z Z (Nat.le_of_ble_eq_true Z) ?_ (Own.startK hk (Own.start w))
 refine sr ?_
 refine WL.effect Z ?_
 refine (EV.boxAgg (by decide) Z Z (fun b1 => ?_))
 refine WL.effect Z ?_
 refine (EV.boxAgg (by decide) Z Z (fun b2 => ?_))
 refine wa Z ?_
 refine nt (WC.seq (sr ?_))
 refine wf fd31_0 Z ?_
 refine wl pl3 Z (Own.cell 1 Z Z) ?_
 refine wf fd31_0 Z ?_
 refine wl pl3 Z (Own.cell 0 Z Z) ?_
 refine wq Z (QV.neq Z Z Z Z) ?_
 refine wm Z ?_
 refine gn Z (fun hG => QV.fieldAddr fd31_1 Z Z) ?_
 refine gn Z (fun hG => QV.load pl3 Z hG (Own.cell 1 Z Z)) ?_
 refine gn Z (fun hG => QV.fieldAddr fd31_1 Z Z) ?_
 refine gn Z (fun hG => QV.load pl3 Z hG (Own.cell 0 Z Z)) ?_
 refine gn Z (fun hG => QV.neq Z hG Z hG) ?_
 refine wq Z (QV.pickOr Z Z Z (fun h => notF h)) ?_
 refine wm Z ?_
 refine gn Z (fun hG => QV.fieldAddr fd31_2 Z Z) ?_
 refine gn Z (fun hG => QV.load pl29 Z hG (Own.cell 1 Z Z)) ?_
 refine gn Z (fun hG => QV.lenS Try.underlying29 Z hG h_a_ops.lenMap) ?_
 refine gn Z (fun hG => QV.fieldAddr fd31_2 Z Z) ?_
 refine gn Z (fun hG => QV.load pl29 Z hG (Own.cell 0 Z Z)) ?_
 refine gn Z (fun hG => QV.lenS Try.underlying29 Z hG h_b_ops.lenMap) ?_
 refine gn Z (fun hG => QV.neq Z hG Z hG) ?_
 refine wq Z (QV.pickOr Z Z Z (fun h => notF h)) ?_
 refine nt ?_
 refine WC.cond Z (fun h3 => ?_) (fun h3 => ?_)
 ·skip
  have hm4 := br_t h3 hm; clear hm
  refine sr ?_
  refine wa Z ?_
  refine nt (WC.ret (tr ?_))
  obtain rfl := (eq_of_some hm4).symm
  refine WQ.ret1 Z Z (fun w hw => ?_)
  exact ⟨Z, Own.kgrow (fun _ x => x) hw⟩
 have hm5 := br_f h3 hm; clear hm
 refine sk (WQ.then (WC.seq (sr ?_)))
 refine wa Z ?_
 refine nt ?_
 obtain ⟨o6, ho7, hm8⟩ := bd_some hm5; clear hm5; obtain ⟨n9, ho10⟩ := lp_some ho7
 refine WC.bloop1 (H2 := [blk b2 [.int .i64 b.pace, .int .i64 b.stages, v_b_ops] 31, blk b1 [.int .i64 a.pace, .int .i64 a.stages, v_a_ops] 31, kn noM w.heap.size w w]) (τ := [(2, (true, _)), (3, (true, _))]) (fun (i5_1 : Int) => [(5, (true, .int .i64 i5_1))]) (fun i5_1 => []) (fun i5_1 m => iter (R13_Same_L0 a b) m i5_1 = some o6) (fun i5_1 => o6 = .go i5_1) 0 n9 ho10 ⟨Z, Z, Z, trivial⟩ (fun w hw => hw.pick [0, 1, 2] (by decide)) ?_ ?_
 ·skip
  rintro i5_1 rfl
  refine WQ.then (sr ?_)
  refine wa Z ?_
  refine nt (WC.ret ?_)
  obtain rfl := (eq_of_some hm8).symm
  refine WQ.ret1 Z Z (fun w hw => ?_)
  exact ⟨Z, Own.kgrow (fun _ x => x) hw⟩
 rintro i5_1 m11 hI12
 obtain ⟨m13, s14, rfl, hm15, hn16⟩ := iter_step hI12; clear hI12; unfold R13_Same_L0 at hm15
 refine WC.seq (sr ?_)
 refine wm Z ?_
 refine wf fd31_2 Z ?_
 refine wl pl29 Z (Own.cell 1 Z Z) ?_
 refine wq Z (QV.lenS Try.underlying29 Z Z h_a_ops.lenMap) ?_
 refine wq Z (QV.lss Z Z Z Z) ?_
 refine nt ?_
 refine WC.cond Z (fun h17 => ?_) (fun h17 => ?_)
 ·skip
  have hm18 := br_t h17 hm15; clear hm15
  refine sk (WQ.then (WC.seq (WC.block (WC.seq ?_))))
  refine WC.dr (m := 11) (S := Own noM w [kn noM w.heap.size w w, blk b2 [.int .i64 b.pace, .int .i64 b.stages, v_b_ops] 31, blk b1 [.int .i64 a.pace, .int .i64 a.stages, v_a_ops] 31]) (by kernel_rfl) (by kernel_rfl) (fun w hw => hw.pick [2, 0, 1] (by decide)) ?_
  refine wz 0 Z Z (QV.fieldAddr fd31_2 Z Z) ?_
  refine wz 1 Z Z (QV.load pl29 Z Z (Own.cell 2 Z Z)) ?_
  refine wz 2 Z Z (QV.move Z Z) ?_
  obtain ⟨c19, hm20⟩ := cs hm18; clear hm18
  obtain ⟨p21, hp22⟩ := h_a_ops.lenMap.ix (sz := 10) ln_len c19
  refine wz 3 Z Z (QV.indexSlice sl29 Z Z Z Z hp22) ?_
  refine wz 4 Z Z (QV.loadAgg ag75 Z Z Z (fun w hw => ((Own.karr 0 Z hk h_a_ops) w hw).ele hp22 c19)) ?_
  refine wz 5 Z Z (QV.fieldAddr fd31_2 Z Z) ?_
  refine wz 6 Z Z (QV.load pl29 Z Z (Own.cell 1 Z Z)) ?_
  refine wz 7 Z Z (QV.move Z Z) ?_
  obtain ⟨c23, hm24⟩ := cs hm20; clear hm20
  obtain ⟨p25, hp26⟩ := h_b_ops.lenMap.ix (sz := 10) ln_len c23
  refine wz 8 Z Z (QV.indexSlice sl29 Z Z Z Z hp26) ?_
  refine wz 9 Z Z (QV.loadAgg ag75 Z Z Z (fun w hw => ((Own.karr 0 Z hk h_b_ops) w hw).ele hp26 c23)) ?_
  refine wz 10 Z Z (QV.neqF eq75 (ns := [(ele a.ops i5_1).slot, (ele a.ops i5_1).stage, (ele a.ops i5_1).op, (ele a.ops i5_1).dest, (ele a.ops i5_1).a, (ele a.ops i5_1).b, (ele a.ops i5_1).ar, (ele a.ops i5_1).sp, (ele a.ops i5_1).pl, (ele a.ops i5_1).n]) (ms := [(ele b.ops i5_1).slot, (ele b.ops i5_1).stage, (ele b.ops i5_1).op, (ele b.ops i5_1).dest, (ele b.ops i5_1).a, (ele b.ops i5_1).b, (ele b.ops i5_1).ar, (ele b.ops i5_1).sp, (ele b.ops i5_1).pl, (ele b.ops i5_1).n]) Z Z Z Z Z Z) ?_
  refine WD.e (by kernel_rfl) ?_
  refine WQ.then ?_
  refine WC.cond Z (fun h27 => ?_) (fun h27 => ?_)
  ·skip
   have hm28 := br_t h27 hm24; clear hm24
   refine sr ?_
   refine wa Z ?_
   refine nt (WC.ret (kr (tr (tr (kr (tr (tr ?_)))))))
   obtain rfl := up_ret hm28 hn16
   obtain rfl := (eq_of_some hm8).symm
   refine WQ.ret1 Z Z (fun w hw => ?_)
   exact ⟨Z, Own.kgrow (fun _ x => x) hw⟩
  have hm29 := br_f h27 hm24; clear hm24
  refine sk (WQ.block (WQ.then (WC.region ?_)))
  refine wm Z ?_
  obtain ⟨c30, hm31⟩ := cs hm29; clear hm29
  refine wq Z (QV.add Z Z Z Z c30) ?_
  refine wa Z ?_
  refine WL.nil ?_
  exact WQ.again1 (i5_1 + 1) m13 (up_next hm31 hn16) (Nat.lt_succ_self _) ⟨Z, Z, Z, trivial⟩ (fun w hw => hw.pick [0, 1, 2] (by decide))
 have hm32 := br_f h17 hm15; clear hm15
 refine WC.exit (te (te (WQ.block_exit ?_)))
 exact WQ.out1 i5_1 (up_brk hm32 hn16) ⟨Z, Z, Z, trivial⟩ (fun w hw => hw.pick [0, 1, 2] (by decide))
end Go.Proofs.Ytaimbkndebaaiac
end
section
namespace Go.Proofs.Ytaimbkndebaaiac
open Go.Rd
open TNum TLoop TKern TKeep TOrd TCpt TDep TSched1 TEmit TCheck TRegs TBound TMake TBuild TRDep TRSched TRBound TR10 TCode13
namespace TLawBuild
theorem en15 : Go.Rd.Enters Try.prog 15 := ⟨Try.f15, Try.func15, by kernel_rfl, by kernel_rfl⟩
theorem en17 : Go.Rd.Enters Try.prog 17 := ⟨Try.f17, Try.func17, by kernel_rfl, by kernel_rfl⟩
theorem en18 : Go.Rd.Enters Try.prog 18 := ⟨Try.f18, Try.func18, by kernel_rfl, by kernel_rfl⟩
theorem en19 : Go.Rd.Enters Try.prog 19 := ⟨Try.f19, Try.func19, by kernel_rfl, by kernel_rfl⟩
theorem en20 : Go.Rd.Enters Try.prog 20 := ⟨Try.f20, Try.func20, by kernel_rfl, by kernel_rfl⟩
theorem en8 : Go.Rd.Enters Try.prog 8 := ⟨Try.f8, Try.func8, by kernel_rfl, by kernel_rfl⟩
end TLawBuild
open TLawBuild
theorem roundelaylaw_BuildMakes_w {v_l_logs : Value} {v_l_body : Value} {v_l_outs : Value} {l : Lp} {t : Tgt} {r : Bool} (w : World) (hm : roundelaylaw_BuildMakes_m l t = some r) (h_l_logs : Arr w v_l_logs 1 (l.logs.map icell)) (h_l_body : Arr w v_l_body 9 (l.body.map Stm.cells)) (h_l_outs : Arr w v_l_outs 1 (l.outs.map icell)) : Calls Try.prog 4 #[.agg #[v_l_logs, v_l_body, v_l_outs], .agg #[.int .i64 t.u0, .int .i64 t.u1, .int .i64 t.u2, .int .i64 t.w0, .int .i64 t.w1, .int .i64 t.w2, .int .i64 t.regs]] w (fun e w' => e = .returned (.bool r) ∧ Grow w w') := by
 unfold roundelaylaw_BuildMakes_m at hm
 have hk := Base.rfl (w := w)
 refine calls_of_WC (n := 82) (args := [.agg #[v_l_logs, v_l_body, v_l_outs], .agg #[.int .i64 t.u0, .int .i64 t.u1, .int .i64 t.u2, .int .i64 t.w0, .int .i64 t.w1, .int .i64 t.w2, .int .i64 t.regs]]) Try.func4 Z Z (Nat.le_of_ble_eq_true Z) ?_ (Own.startK hk (Own.start w))
 refine sr ?_
 refine WL.effect Z ?_
 refine (EV.boxAgg (by decide) Z Z (fun b1 => ?_))
 refine WL.effect Z ?_
 refine (EV.boxAgg (by decide) Z Z (fun b2 => ?_))
 refine wa Z ?_
 refine ns ?_
 refine wq Z (QV.loadAgg ag25 Z Z Z (Own.cellsBlk 1 Z)) ?_
 refine wq Z (QV.loadAgg ag28 Z Z Z (Own.cellsBlk 0 Z)) ?_
 refine WL.effect Z ?_
 obtain ⟨x3, hx4, hm5⟩ := bd_some hm; clear hm
 refine EV.of (C' := Own noM w [kn noM w.heap.size w w, blk b2 t.cells 28, blk b1 [v_l_logs, v_l_body, v_l_outs] 25]) (fun w hw => hw.pick [2, 0, 1] (by decide)) ?_
 refine (EV.callR (X := Value × Value × World) (R := []) (fun X => .tuple #[.agg #[.int .i64 x3.1.pace, .int .i64 x3.1.stages, X.1], X.2.1, .int .i64 x3.2.2]) (fun X => []) (fun X => X.2.2) (fun X => Arr X.2.2 X.1 10 (x3.1.ops.map Opr.cells) ∧ Arr X.2.2 X.2.1 1 (x3.2.1.map icell)) hk (fun _ h => by cases h; decide) en15 (EvAll.cons Z Z (EvAll.cons Z Z EvAll.nil)) (fun M w h1 h2 => have h := build_Build_w hx4 h_l_logs h_l_body h_l_outs M w h1 h2; h) (fun X6 hF6 hle6 => ?_))
 refine wm Z ?_
 refine wq Z (QV.extract Z Z Z) ?_
 refine wq Z (QV.extract Z Z Z) ?_
 refine wq Z (QV.extract Z Z Z) ?_
 refine WL.effect Z ?_
 refine (EV.alloc (by decide) ze31 (fun b7 => ?_))
 refine WL.effect Z ?_
 refine (EV.store 0 Z Z Z Z Z Z (vs := [.int .i64 x3.1.pace, .int .i64 x3.1.stages, X6.1]) (show Value.cells _ = List.toArray _ from Z) sz31 (Nat.le_of_ble_eq_true Z) (one_cons Z (one_cons Z (one_cons (SliceLen.one hF6.1.lenMap) one_nil))) ?_)
 refine wa Z ?_
 refine wa Z ?_
 refine nt (WC.seq (sr ?_))
 refine wq Z (QV.loadAgg ag25 Z Z Z (Own.cellsBlk 3 Z)) ?_
 refine wq Z (QV.loadAgg ag28 Z Z Z (Own.cellsBlk 2 Z)) ?_
 obtain ⟨x8, hx9, hm10⟩ := bd_some hm5; clear hm5
 refine wq Z (QV.call en16 (EvAll.cons Z Z (EvAll.cons Z Z EvAll.nil)) (fun w hw => have h := R6_May_w w hx9 ((Own.karr 1 Z hk (h_l_logs.le hle6)) w hw) ((Own.karr 1 Z hk (h_l_body.le hle6)) w hw) ((Own.karr 1 Z hk (h_l_outs.le hle6)) w hw); h)) ?_
 refine wq Z (QV.not Z Z) ?_
 refine nt ?_
 refine WC.cond Z (fun h11 => ?_) (fun h11 => ?_)
 ·skip
  have hm12 := br_t h11 hm10; clear hm10
  refine sr ?_
  refine wm Z ?_
  refine wq Z (QV.eql Z Z Z Z) ?_
  refine wm Z ?_
  refine gp Z (fun hG => QV.move Z Z) ?_
  refine gp Z (fun hG => QV.lenS Try.underlying22 Z hG hF6.2.lenMap) ?_
  refine gp Z (fun hG => QV.eql Z hG Z Z) ?_
  refine wq Z (QV.pickAnd Z Z Z (fun h => h)) ?_
  refine wm Z ?_
  refine gp Z (fun hG => QV.loadAgg ag31 Z Z Z (Own.cellsBlk 0 Z)) ?_
  refine gp Z (fun hG => QV.build (ps := []) (cells := [.int .i64 0, .int .i64 0, .slice none 0 0]) EvAll.nil (by kernel_rfl)) ?_
  obtain ⟨x13, hx14, hm15⟩ := bdG_some hm12; clear hm12
  refine gp Z (fun hG => QV.call en17 (EvAll.cons Z hG (EvAll.cons Z hG EvAll.nil)) (fun w hw => have h := R13_Same_w w (hx14 hG) ((Own.karr 1 Z hk hF6.1) w hw) Arr.nil; h)) ?_
  refine wq Z (QV.pickAnd Z Z Z (fun h => h)) ?_
  refine wa Z ?_
  refine nt (WC.ret (tr ?_))
  obtain rfl := (eq_of_some hm15).symm
  refine WQ.ret1 Z Z (fun w hw => ?_)
  exact ⟨Z, Own.kgrow (fun _ x => x) hw⟩
 have hm16 := br_f h11 hm10; clear hm10
 refine sk (WQ.then (WC.seq (sr ?_)))
 refine wm Z ?_
 refine wq Z (QV.eql Z Z Z Z) ?_
 refine nt ?_
 refine WC.cond Z (fun h17 => ?_) (fun h17 => ?_)
 ·skip
  have hm18 := br_t h17 hm16; clear hm16
  refine sr ?_
  refine wf fd28_2 Z ?_
  refine wl pl3 Z (Own.cell 2 Z Z) ?_
  refine wf fd25_1 Z ?_
  refine wl pl23 Z (Own.cell 3 Z Z) ?_
  refine wq Z (QV.lenS Try.underlying23 Z Z (h_l_body.le hle6).lenMap) ?_
  obtain ⟨c19, hm20⟩ := cs hm18; clear hm18
  refine wq Z (QV.mul Z Z Z Z c19) ?_
  refine wq Z (QV.lss Z Z Z Z) ?_
  refine wm Z ?_
  refine gp Z (fun hG => QV.move Z Z) ?_
  refine gp Z (fun hG => QV.lenS Try.underlying22 Z hG hF6.2.lenMap) ?_
  refine gp Z (fun hG => QV.eql Z hG Z Z) ?_
  refine wq Z (QV.pickAnd Z Z Z (fun h => h)) ?_
  refine wm Z ?_
  refine gp Z (fun hG => QV.loadAgg ag31 Z Z Z (Own.cellsBlk 0 Z)) ?_
  refine gp Z (fun hG => QV.build (ps := []) (cells := [.int .i64 0, .int .i64 0, .slice none 0 0]) EvAll.nil (by kernel_rfl)) ?_
  obtain ⟨x21, hx22, hm23⟩ := bdG_some hm20; clear hm20
  refine gp Z (fun hG => QV.call en17 (EvAll.cons Z hG (EvAll.cons Z hG EvAll.nil)) (fun w hw => have h := R13_Same_w w (hx22 hG) ((Own.karr 1 Z hk hF6.1) w hw) Arr.nil; h)) ?_
  refine wq Z (QV.pickAnd Z Z Z (fun h => h)) ?_
  refine wa Z ?_
  refine nt (WC.ret (tr ?_))
  obtain rfl := (eq_of_some hm23).symm
  refine WQ.ret1 Z Z (fun w hw => ?_)
  exact ⟨Z, Own.kgrow (fun _ x => x) hw⟩
 have hm24 := br_f h17 hm16; clear hm16
 refine sk (WQ.then (WC.seq (sr ?_)))
 refine wm Z ?_
 refine wq Z (QV.neq Z Z Z Z) ?_
 refine wm Z ?_
 refine gn Z (fun hG => QV.loadAgg ag25 Z Z Z (Own.cellsBlk 3 Z)) ?_
 refine gn Z (fun hG => QV.loadAgg ag28 Z Z Z (Own.cellsBlk 2 Z)) ?_
 refine gn Z (fun hG => QV.loadAgg ag31 Z Z Z (Own.cellsBlk 0 Z)) ?_
 refine gn Z (fun hG => QV.move Z Z) ?_
 obtain ⟨x25, hx26, hm27⟩ := bdG_some hm24; clear hm24
 refine gn Z (fun hG => QV.call en8 (EvAll.cons Z hG (EvAll.cons Z hG (EvAll.cons Z hG (EvAll.cons Z hG EvAll.nil)))) (fun w hw => have h := R10_Takes_w w (hx26 hG) ((Own.karr 1 Z hk (h_l_logs.le hle6)) w hw) ((Own.karr 1 Z hk (h_l_body.le hle6)) w hw) ((Own.karr 1 Z hk (h_l_outs.le hle6)) w hw) ((Own.karr 1 Z hk hF6.1) w hw) ((Own.karr 1 Z hk hF6.2) w hw); h)) ?_
 refine gn Z (fun hG => QV.not Z hG) ?_
 refine wq Z (QV.pickOr Z Z Z (fun h => notF h)) ?_
 refine nt ?_
 refine WC.cond Z (fun h28 => ?_) (fun h28 => ?_)
 ·skip
  have hm29 := br_t h28 hm27; clear hm27
  refine sr ?_
  refine wa Z ?_
  refine nt (WC.ret (tr ?_))
  obtain rfl := (eq_of_some hm29).symm
  refine WQ.ret1 Z Z (fun w hw => ?_)
  exact ⟨Z, Own.kgrow (fun _ x => x) hw⟩
 have hm30 := br_f h28 hm27; clear hm27
 refine sk (WQ.then (WC.seq ?_))
 refine WC.dr (m := 23) (S := Own noM w [kn noM w.heap.size w X6.2.2, blk b7 [.int .i64 x3.1.pace, .int .i64 x3.1.stages, X6.1] 31, blk b2 t.cells 28, blk b1 [v_l_logs, v_l_body, v_l_outs] 25]) (by kernel_rfl) (by kernel_rfl) (fun w hw => hw.pick [1, 0, 2, 3] (by decide)) ?_
 refine wz 0 Z Z (QV.fieldAddr fd31_0 Z Z) ?_
 refine wz 1 Z Z (QV.load pl3 Z Z (Own.cell 1 Z Z)) ?_
 refine wz 2 Z Z (QV.loadAgg ag25 Z Z Z (Own.cellsBlk 3 Z)) ?_
 refine wz 3 Z Z (QV.loadAgg ag28 Z Z Z (Own.cellsBlk 2 Z)) ?_
 obtain ⟨x31, hx32, hm33⟩ := bd_some hm30; clear hm30
 refine wz 4 Z Z (QV.call en18 (EvAll.cons Z Z (EvAll.cons Z Z EvAll.nil)) (fun w hw => have h := R7_Units_w w hx32 ((Own.karr 0 Z hk (h_l_logs.le hle6)) w hw) ((Own.karr 0 Z hk (h_l_body.le hle6)) w hw) ((Own.karr 0 Z hk (h_l_outs.le hle6)) w hw); h)) ?_
 refine wz 5 Z Z (QV.geq Z Z Z Z) ?_
 refine wz 6 Z Z (QV.move Z Z) ?_
 refine WD.g 7 Z (by kernel_rfl) Z Z (GuardIs.pos Z Z) (fun hG => QV.fieldAddr fd31_0 Z Z) ?_
 refine WD.g 8 Z (by kernel_rfl) Z Z (GuardIs.pos Z Z) (fun hG => QV.load pl3 Z hG (Own.cell 1 Z Z)) ?_
 refine WD.g 9 Z (by kernel_rfl) Z Z (GuardIs.pos Z Z) (fun hG => QV.loadAgg ag25 Z Z Z (Own.cellsBlk 3 Z)) ?_
 refine WD.g 10 Z (by kernel_rfl) Z Z (GuardIs.pos Z Z) (fun hG => QV.loadAgg ag28 Z Z Z (Own.cellsBlk 2 Z)) ?_
 obtain ⟨x34, hx35, hm36⟩ := bdG_some hm33; clear hm33
 refine WD.g 11 Z (by kernel_rfl) Z Z (GuardIs.pos Z Z) (fun hG => QV.call en19 (EvAll.cons Z hG (EvAll.cons Z hG EvAll.nil)) (fun w hw => have h := R7_Least_w w (hx35 hG) ((Own.karr 0 Z hk (h_l_logs.le hle6)) w hw) ((Own.karr 0 Z hk (h_l_body.le hle6)) w hw) ((Own.karr 0 Z hk (h_l_outs.le hle6)) w hw); h)) ?_
 refine WD.g 12 Z (by kernel_rfl) Z Z (GuardIs.pos Z Z) (fun hG => QV.geq Z hG Z hG) ?_
 refine wz 13 Z Z (QV.pickAnd Z Z Z (fun h => h)) ?_
 refine wz 14 Z Z (QV.move Z Z) ?_
 refine WD.g 15 Z (by kernel_rfl) Z Z (GuardIs.pos Z Z) (fun hG => QV.fieldAddr fd31_0 Z Z) ?_
 refine WD.g 16 Z (by kernel_rfl) Z Z (GuardIs.pos Z Z) (fun hG => QV.load pl3 Z hG (Own.cell 1 Z Z)) ?_
 refine WD.g 17 Z (by kernel_rfl) Z Z (GuardIs.pos Z Z) (fun hG => QV.loadAgg ag25 Z Z Z (Own.cellsBlk 3 Z)) ?_
 refine WD.g 18 Z (by kernel_rfl) Z Z (GuardIs.pos Z Z) (fun hG => QV.loadAgg ag28 Z Z Z (Own.cellsBlk 2 Z)) ?_
 obtain ⟨x37, hx38, hm39⟩ := bdG_some hm36; clear hm36
 refine WD.g 19 Z (by kernel_rfl) Z Z (GuardIs.pos Z Z) (fun hG => QV.call en20 (EvAll.cons Z hG (EvAll.cons Z hG EvAll.nil)) (fun w hw => have h := R8_All_w w (hx38 hG) ((Own.karr 0 Z hk (h_l_logs.le hle6)) w hw) ((Own.karr 0 Z hk (h_l_body.le hle6)) w hw) ((Own.karr 0 Z hk (h_l_outs.le hle6)) w hw); h)) ?_
 refine WD.g 20 Z (by kernel_rfl) Z Z (GuardIs.pos Z Z) (fun hG => QV.leq Z hG Z hG) ?_
 refine wz 21 Z Z (QV.pickAnd Z Z Z (fun h => h)) ?_
 refine wz 22 Z Z (QV.assign Z Z) ?_
 refine WD.e (by kernel_rfl) ?_
 refine WQ.then (WC.ret ?_)
 obtain rfl := (eq_of_some hm39).symm
 refine WQ.ret1 Z Z (fun w hw => ?_)
 exact ⟨Z, Own.kgrow (fun _ x => x) hw⟩
end Go.Proofs.Ytaimbkndebaaiac
end