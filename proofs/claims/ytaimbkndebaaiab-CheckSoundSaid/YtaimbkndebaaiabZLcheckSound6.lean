/- Texts that the law stands on: part 6. -/
import Derived.Test.YtaimbkndebaaiabZLcheckSound5
import Derived.Test.YtaimbkndebaaiabProg
import Derived.KernelRfl
section
namespace Go.Proofs.Ytaimbkndebaaiab
open Go.Rd
set_option linter.unusedVariables false
set_option linter.unusedSimpArgs false
open TNum TLoop TKern TKeep TOrd TCpt TDep TSched1 TEmit TCheck TRDep
namespace TR10
theorem en16 : Go.Rd.Enters Try.prog 16 := ⟨Try.f16, Try.func16, by kernel_rfl, by kernel_rfl⟩
theorem en24 : Go.Rd.Enters Try.prog 24 := ⟨Try.f24, Try.func24, by kernel_rfl, by kernel_rfl⟩
theorem en42 : Go.Rd.Enters Try.prog 42 := ⟨Try.f42, Try.func42, by kernel_rfl, by kernel_rfl⟩
theorem en51 : Go.Rd.Enters Try.prog 51 := ⟨Try.f51, Try.func51, by kernel_rfl, by kernel_rfl⟩
theorem en84 : Go.Rd.Enters Try.prog 84 := ⟨Try.f84, Try.func84, by kernel_rfl, by kernel_rfl⟩
theorem en93 : Go.Rd.Enters Try.prog 93 := ⟨Try.f93, Try.func93, by kernel_rfl, by kernel_rfl⟩
theorem fd128_2 : FieldT Try.prog 128 2 2 := ⟨_, _, 0, Try.underlying128, rfl, rfl, by kernel_rfl⟩
theorem sl81 : SliceT Try.prog 81 128 3 := ⟨Try.underlying81, by kernel_rfl⟩
theorem sz_81 : SliceZ Try.prog 81 128 3 [.int .i64 0, .int .i64 0, .int .i64 0] := ⟨Try.underlying81, by kernel_rfl⟩
theorem ve81 : VecT Try.prog 81 128 3 24 := ⟨Try.underlying81, by kernel_rfl, by decide⟩
end TR10
open TR10
set_option maxRecDepth 8000 in
theorem roundelayref5_Uses_w {op : Int} {r : Int} (w : World) (hm : roundelayref5_Uses_m op = some r)  : Calls Try.prog 93 #[.int .i64 op] w (fun e w' => e = .returned (.int .i64 r) ∧ Grow w w') := by
 unfold roundelayref5_Uses_m at hm
 have hk := Base.rfl (w := w)
 refine calls_of_WC (n := 7) (args := [.int .i64 op]) Try.func93 Z Z (Nat.le_of_ble_eq_true Z) ?_ (Own.startK hk (Own.start w))
 refine sr ?_
 refine wa Z ?_
 refine nt (WC.seq (sr ?_))
 refine wm Z ?_
 refine wq Z (QV.eql Z Z Z Z) ?_
 refine nt ?_
 refine WC.cond Z (fun h1 => ?_) (fun h1 => ?_)
 ·skip
  have hm2 := br_t h1 hm; clear hm
  refine sr ?_
  refine wa Z ?_
  refine nt (WC.ret (tr ?_))
  obtain rfl := (eq_of_some hm2).symm
  refine WQ.ret1 Z Z (fun w hw => ?_)
  exact ⟨Z, Own.kgrow (fun _ x => x) hw⟩
 have hm3 := br_f h1 hm; clear hm
 refine sk (WQ.then (WC.seq (sr ?_)))
 refine wm Z ?_
 refine wq Z (QV.gtr Z Z Z Z) ?_
 refine nt ?_
 refine WC.cond Z (fun h4 => ?_) (fun h4 => ?_)
 ·skip
  have hm5 := br_t h4 hm3; clear hm3
  refine sr ?_
  refine wa Z ?_
  refine nt (WC.ret (tr ?_))
  obtain rfl := (eq_of_some hm5).symm
  refine WQ.ret1 Z Z (fun w hw => ?_)
  exact ⟨Z, Own.kgrow (fun _ x => x) hw⟩
 have hm6 := br_f h4 hm3; clear hm3
 refine sk (WQ.then (sr ?_))
 refine wa Z ?_
 refine nt (WC.ret ?_)
 obtain rfl := (eq_of_some hm6).symm
 refine WQ.ret1 Z Z (fun w hw => ?_)
 exact ⟨Z, Own.kgrow (fun _ x => x) hw⟩

set_option maxRecDepth 8000 in
theorem roundelayref5_one_w {v_k__ops : Value} {v_logs : Value} {t : Tgt} {k_ : Krn} {o : Opr} {logs : List Int} {r : Bool} (w : World) (hm : roundelayref5_one_m t k_ o logs = some r) (h_k__ops : Arr w v_k__ops 10 (k_.ops.map Opr.cells)) (h_logs : Arr w v_logs 1 (logs.map icell)) : Calls Try.prog 51 #[.agg #[.int .i64 t.u0, .int .i64 t.u1, .int .i64 t.u2, .int .i64 t.w0, .int .i64 t.w1, .int .i64 t.w2, .int .i64 t.regs], .agg #[.int .i64 k_.pace, .int .i64 k_.stages, v_k__ops], .agg #[.int .i64 o.slot, .int .i64 o.stage, .int .i64 o.op, .int .i64 o.dest, .int .i64 o.a, .int .i64 o.b, .int .i64 o.ar, .int .i64 o.sp, .int .i64 o.pl, .int .i64 o.n], v_logs] w (fun e w' => e = .returned (.bool r) ∧ Grow w w') := by
 unfold roundelayref5_one_m at hm
 have hk := Base.rfl (w := w)
 refine calls_of_WC (n := 116) (args := [.agg #[.int .i64 t.u0, .int .i64 t.u1, .int .i64 t.u2, .int .i64 t.w0, .int .i64 t.w1, .int .i64 t.w2, .int .i64 t.regs], .agg #[.int .i64 k_.pace, .int .i64 k_.stages, v_k__ops], .agg #[.int .i64 o.slot, .int .i64 o.stage, .int .i64 o.op, .int .i64 o.dest, .int .i64 o.a, .int .i64 o.b, .int .i64 o.ar, .int .i64 o.sp, .int .i64 o.pl, .int .i64 o.n], v_logs]) Try.func51 Z Z (Nat.le_of_ble_eq_true Z) ?_ (Own.startK hk (Own.start w))
 refine sr ?_
 refine WL.effect Z ?_
 refine (EV.boxAgg (by decide) Z Z (fun b1 => ?_))
 refine WL.effect Z ?_
 refine (EV.boxAgg (by decide) Z Z (fun b2 => ?_))
 refine WL.effect Z ?_
 refine (EV.boxAgg (by decide) Z Z (fun b3 => ?_))
 refine wa Z ?_
 refine nt (WC.seq (sr ?_))
 refine wf fd45_0 Z ?_
 refine wl pl3 Z (Own.cell 0 Z Z) ?_
 refine wq Z (QV.lss Z Z Z Z) ?_
 refine wm Z ?_
 refine gn Z (fun hG => QV.fieldAddr fd45_0 Z Z) ?_
 refine gn Z (fun hG => QV.load pl3 Z hG (Own.cell 0 Z Z)) ?_
 refine gn Z (fun hG => QV.fieldAddr fd27_0 Z Z) ?_
 refine gn Z (fun hG => QV.load pl3 Z hG (Own.cell 1 Z Z)) ?_
 refine gn Z (fun hG => QV.geq Z hG Z hG) ?_
 refine wq Z (QV.pickOr Z Z Z (fun h => notF h)) ?_
 refine wm Z ?_
 refine gn Z (fun hG => QV.fieldAddr fd45_1 Z Z) ?_
 refine gn Z (fun hG => QV.load pl3 Z hG (Own.cell 0 Z Z)) ?_
 refine gn Z (fun hG => QV.lss Z hG Z Z) ?_
 refine wq Z (QV.pickOr Z Z Z (fun h => notF h)) ?_
 refine wm Z ?_
 refine gn Z (fun hG => QV.fieldAddr fd45_1 Z Z) ?_
 refine gn Z (fun hG => QV.load pl3 Z hG (Own.cell 0 Z Z)) ?_
 refine gn Z (fun hG => QV.fieldAddr fd27_1 Z Z) ?_
 refine gn Z (fun hG => QV.load pl3 Z hG (Own.cell 1 Z Z)) ?_
 refine gn Z (fun hG => QV.geq Z hG Z hG) ?_
 refine wq Z (QV.pickOr Z Z Z (fun h => notF h)) ?_
 refine wm Z ?_
 refine gn Z (fun hG => QV.fieldAddr fd45_1 Z Z) ?_
 refine gn Z (fun hG => QV.load pl3 Z hG (Own.cell 0 Z Z)) ?_
 refine gn Z (fun hG => QV.fieldAddr fd27_0 Z Z) ?_
 refine gn Z (fun hG => QV.load pl3 Z hG (Own.cell 1 Z Z)) ?_
 obtain ⟨c4, hm5⟩ := cs hm; clear hm
 refine gn Z (fun hG => QV.mul Z hG Z hG (c4 hG)) ?_
 refine gn Z (fun hG => QV.fieldAddr fd45_0 Z Z) ?_
 refine gn Z (fun hG => QV.load pl3 Z hG (Own.cell 0 Z Z)) ?_
 obtain ⟨c6, hm7⟩ := cs hm5; clear hm5
 refine gn Z (fun hG => QV.add Z hG Z hG (c6 hG)) ?_
 refine gn Z (fun hG => QV.gtr Z hG Z Z) ?_
 refine wq Z (QV.pickOr Z Z Z (fun h => notF h)) ?_
 refine nt ?_
 refine WC.cond Z (fun h8 => ?_) (fun h8 => ?_)
 ·skip
  have hm9 := br_t h8 hm7; clear hm7
  refine sr ?_
  refine wa Z ?_
  refine nt (WC.ret (tr ?_))
  obtain rfl := (eq_of_some hm9).symm
  refine WQ.ret1 Z Z (fun w hw => ?_)
  exact ⟨Z, Own.kgrow (fun _ x => x) hw⟩
 have hm10 := br_f h8 hm7; clear hm7
 refine sk (WQ.then (sr ?_))
 refine wf fd45_2 Z ?_
 refine wl pl3 Z (Own.cell 0 Z Z) ?_
 obtain ⟨x11, hx12, hm13⟩ := bd_some hm10; clear hm10
 refine wq Z (QV.call en93 (EvAll.cons Z Z EvAll.nil) (fun w hw => have h := roundelayref5_Uses_w w hx12 ; h)) ?_
 refine wa Z ?_
 refine nt (WC.seq (sr ?_))
 refine wf fd45_3 Z ?_
 refine wl pl3 Z (Own.cell 0 Z Z) ?_
 refine wq Z (QV.lss Z Z Z Z) ?_
 refine wm Z ?_
 refine gn Z (fun hG => QV.fieldAddr fd45_3 Z Z) ?_
 refine gn Z (fun hG => QV.load pl3 Z hG (Own.cell 0 Z Z)) ?_
 refine gn Z (fun hG => QV.fieldAddr fd24_2 Z Z) ?_
 refine gn Z (fun hG => QV.load pl3 Z hG (Own.cell 2 Z Z)) ?_
 refine gn Z (fun hG => QV.geq Z hG Z hG) ?_
 refine wq Z (QV.pickOr Z Z Z (fun h => notF h)) ?_
 refine wm Z ?_
 refine gn Z (fun hG => QV.fieldAddr fd45_4 Z Z) ?_
 refine gn Z (fun hG => QV.load pl3 Z hG (Own.cell 0 Z Z)) ?_
 refine gn Z (fun hG => QV.lss Z hG Z Z) ?_
 refine wq Z (QV.pickOr Z Z Z (fun h => notF h)) ?_
 refine wm Z ?_
 refine gn Z (fun hG => QV.fieldAddr fd45_5 Z Z) ?_
 refine gn Z (fun hG => QV.load pl3 Z hG (Own.cell 0 Z Z)) ?_
 refine gn Z (fun hG => QV.lss Z hG Z Z) ?_
 refine wq Z (QV.pickOr Z Z Z (fun h => notF h)) ?_
 refine wm Z ?_
 refine gn Z (fun hG => QV.fieldAddr fd45_4 Z Z) ?_
 refine gn Z (fun hG => QV.load pl3 Z hG (Own.cell 0 Z Z)) ?_
 refine gn Z (fun hG => QV.fieldAddr fd24_2 Z Z) ?_
 refine gn Z (fun hG => QV.load pl3 Z hG (Own.cell 2 Z Z)) ?_
 refine gn Z (fun hG => QV.geq Z hG Z hG) ?_
 refine wq Z (QV.pickOr Z Z Z (fun h => notF h)) ?_
 refine wm Z ?_
 refine gn Z (fun hG => QV.fieldAddr fd45_5 Z Z) ?_
 refine gn Z (fun hG => QV.load pl3 Z hG (Own.cell 0 Z Z)) ?_
 refine gn Z (fun hG => QV.fieldAddr fd24_2 Z Z) ?_
 refine gn Z (fun hG => QV.load pl3 Z hG (Own.cell 2 Z Z)) ?_
 refine gn Z (fun hG => QV.geq Z hG Z hG) ?_
 refine wq Z (QV.pickOr Z Z Z (fun h => notF h)) ?_
 refine wm Z ?_
 refine gn Z (fun hG => QV.move Z Z) ?_
 refine gn Z (fun hG => QV.lss Z hG Z Z) ?_
 refine gn Z (fun hG => QV.move Z hG) ?_
 refine WL.g Z Z (GuardIs.posC Z Z) (fun hG => QV.fieldAddr fd45_4 Z Z) ?_
 refine WL.g Z Z (GuardIs.posC Z Z) (fun hG => QV.load pl3 Z hG (Own.cell 0 Z Z)) ?_
 refine WL.g Z Z (GuardIs.posC Z Z) (fun hG => QV.neq Z hG Z Z) ?_
 refine gn Z (fun hG => QV.pickAnd Z hG Z (fun h => andT hG h)) ?_
 refine wq Z (QV.pickOr Z Z Z (fun h => notF h)) ?_
 refine wm Z ?_
 refine gn Z (fun hG => QV.move Z Z) ?_
 refine gn Z (fun hG => QV.lss Z hG Z Z) ?_
 refine gn Z (fun hG => QV.move Z hG) ?_
 refine WL.g Z Z (GuardIs.posC Z Z) (fun hG => QV.fieldAddr fd45_5 Z Z) ?_
 refine WL.g Z Z (GuardIs.posC Z Z) (fun hG => QV.load pl3 Z hG (Own.cell 0 Z Z)) ?_
 refine WL.g Z Z (GuardIs.posC Z Z) (fun hG => QV.neq Z hG Z Z) ?_
 refine gn Z (fun hG => QV.pickAnd Z hG Z (fun h => andT hG h)) ?_
 refine wq Z (QV.pickOr Z Z Z (fun h => notF h)) ?_
 refine nt ?_
 refine WC.cond Z (fun h14 => ?_) (fun h14 => ?_)
 ·skip
  have hm15 := br_t h14 hm13; clear hm13
  refine sr ?_
  refine wa Z ?_
  refine nt (WC.ret (tr ?_))
  obtain rfl := (eq_of_some hm15).symm
  refine WQ.ret1 Z Z (fun w hw => ?_)
  exact ⟨Z, Own.kgrow (fun _ x => x) hw⟩
 have hm16 := br_f h14 hm13; clear hm13
 refine sk (WQ.then (sr ?_))
 refine wf fd45_2 Z ?_
 refine wl pl3 Z (Own.cell 0 Z Z) ?_
 refine wf fd45_6 Z ?_
 refine wl pl3 Z (Own.cell 0 Z Z) ?_
 refine wf fd45_7 Z ?_
 refine wl pl3 Z (Own.cell 0 Z Z) ?_
 refine wf fd45_8 Z ?_
 refine wl pl3 Z (Own.cell 0 Z Z) ?_
 refine wf fd45_9 Z ?_
 refine wl pl2 Z (Own.cell 0 Z Z) ?_
 refine wq Z (QV.build (ps := [(0, .tmp 100), (3, .tmp 102), (4, .tmp 104), (5, .tmp 106), (6, .tmp 108)]) (cells := [.int .i64 o.op, .int .i64 0, .int .i64 0, .int .i64 0, .int .i64 0, .int .i64 o.ar, .int .i64 o.sp, .int .i64 o.pl, .int .i64 o.n]) (EvAll.cons Z Z (EvAll.cons Z Z (EvAll.cons Z Z (EvAll.cons Z Z (EvAll.cons Z Z EvAll.nil))))) (by kernel_rfl)) ?_
 refine WL.effect Z ?_
 refine (EV.alloc (by decide) ze59 (fun b17 => ?_))
 refine WL.effect Z ?_
 refine (EV.store 0 Z Z Z Z Z Z (vs := [.int .i64 o.op, .int .i64 0, .int .i64 0, .int .i64 0, .int .i64 0, .int .i64 o.ar, .int .i64 o.sp, .int .i64 o.pl, .int .i64 o.n]) (show Value.cells _ = List.toArray _ from Z) sz59 (Nat.le_of_ble_eq_true Z) (one_cons Z (one_cons Z (one_cons Z (one_cons Z (one_cons Z (one_cons Z (one_cons Z (one_cons Z (one_cons Z one_nil))))))))) ?_)
 refine ns ?_
 refine wm Z ?_
 refine wq Z (QV.build (ps := [(0, .const (.int .i64 2))]) (cells := [.int .i64 2, .int .i64 0, .int .i64 0, .int .i64 0, .int .i64 0, .int .i64 0, .int .i64 0, .int .i64 0, .int .i64 0]) (EvAll.cons Z Z EvAll.nil) (by kernel_rfl)) ?_
 refine wq Z (QV.loadAgg ag59 Z Z Z (Own.cellsBlk 0 Z)) ?_
 refine WL.effect Z ?_
 refine (EV.buildSlice (by decide) sz_47 (by decide) (by decide) (ps := [(0, .tmp 111), (1, .tmp 112)]) (cells := [.int .i64 2, .int .i64 0, .int .i64 0, .int .i64 0, .int .i64 0, .int .i64 0, .int .i64 0, .int .i64 0, .int .i64 0, .int .i64 o.op, .int .i64 0, .int .i64 0, .int .i64 0, .int .i64 0, .int .i64 o.ar, .int .i64 o.sp, .int .i64 o.pl, .int .i64 o.n]) (EvAll.cons Z Z (EvAll.cons Z Z EvAll.nil)) (by kernel_rfl) (fun b18 => ?_))
 refine wq Z (QV.buildS (ps := [(0, .tmp 110), (1, .tmp 113)]) (cells := [v_logs, (blkSlice b18 2 2), .slice none 0 0]) (css := [[v_logs], [(blkSlice b18 2 2)]]) (EvAll.cons Z Z (EvAll.cons Z Z EvAll.nil)) (CellsAll.cons (SliceLen.cells h_logs.lenMap) (CellsAll.cons (SliceLen.cells SliceLen.blk) CellsAll.nil)) (by kernel_rfl)) ?_
 obtain ⟨x19, hx20, hm21⟩ := bd_some hm16; clear hm16
 refine wq Z (QV.call en68 (EvAll.cons Z Z EvAll.nil) (fun w hw => have h := roundelayref2_May_w w hx20 ((Own.karr 5 Z hk h_logs) w hw) ((Own.blkArr 0 (rows := [(Stm.mk 2 (Rf.mk 0 0) (Rf.mk 0 0) 0 0 0 0), (Stm.mk o.op (Rf.mk 0 0) (Rf.mk 0 0) o.ar o.sp o.pl o.n)].map Stm.cells) Z Z (rows_len Stm.cells_len)) w hw) Arr.nil; h)) ?_
 refine wa Z ?_
 refine nt (WC.ret ?_)
 obtain rfl := (eq_of_some hm21).symm
 refine WQ.ret1 Z Z (fun w hw => ?_)
 exact ⟨Z, Own.kgrow (fun _ x => x) hw⟩

set_option maxRecDepth 8000 in
theorem roundelayref5_May_w {v_k__ops : Value} {v_logs : Value} {t : Tgt} {k_ : Krn} {logs : List Int} {r : Bool} (w : World) (hm : roundelayref5_May_m t k_ logs = some r) (h_k__ops : Arr w v_k__ops 10 (k_.ops.map Opr.cells)) (h_logs : Arr w v_logs 1 (logs.map icell)) : Calls Try.prog 16 #[.agg #[.int .i64 t.u0, .int .i64 t.u1, .int .i64 t.u2, .int .i64 t.w0, .int .i64 t.w1, .int .i64 t.w2, .int .i64 t.regs], .agg #[.int .i64 k_.pace, .int .i64 k_.stages, v_k__ops], v_logs] w (fun e w' => e = .returned (.bool r) ∧ Grow w w') := by
 unfold roundelayref5_May_m at hm
 have hk := Base.rfl (w := w)
 refine calls_of_WC (n := 96) (args := [.agg #[.int .i64 t.u0, .int .i64 t.u1, .int .i64 t.u2, .int .i64 t.w0, .int .i64 t.w1, .int .i64 t.w2, .int .i64 t.regs], .agg #[.int .i64 k_.pace, .int .i64 k_.stages, v_k__ops], v_logs]) Try.func16 Z Z (Nat.le_of_ble_eq_true Z) ?_ (Own.startK hk (Own.start w))
 refine sr ?_
 refine WL.effect Z ?_
 refine (EV.boxAgg (by decide) Z Z (fun b1 => ?_))
 refine WL.effect Z ?_
 refine (EV.boxAgg (by decide) Z Z (fun b2 => ?_))
 refine wa Z ?_
 refine nt (WC.seq (sr ?_))
 refine wq Z (QV.loadAgg ag24 Z Z Z (Own.cellsBlk 1 Z)) ?_
 obtain ⟨x3, hx4, hm5⟩ := bd_some hm; clear hm
 refine wq Z (QV.call en49 (EvAll.cons Z Z EvAll.nil) (fun w hw => have h := roundelayref4_May_w w hx4 ; h)) ?_
 refine wq Z (QV.not Z Z) ?_
 refine wm Z ?_
 refine gn Z (fun hG => QV.fieldAddr fd27_0 Z Z) ?_
 refine gn Z (fun hG => QV.load pl3 Z hG (Own.cell 0 Z Z)) ?_
 obtain ⟨x6, hx7, hm8⟩ := bdG_some hm5; clear hm5
 refine gn Z (fun hG => QV.call en50 (EvAll.cons Z hG (EvAll.cons Z Z (EvAll.cons Z Z EvAll.nil))) (fun w hw => have h := roundelayref2_Within_w w (hx7 hG) ; h)) ?_
 refine gn Z (fun hG => QV.not Z hG) ?_
 refine wq Z (QV.pickOr Z Z Z (fun h => notF h)) ?_
 refine wm Z ?_
 refine gn Z (fun hG => QV.fieldAddr fd27_1 Z Z) ?_
 refine gn Z (fun hG => QV.load pl3 Z hG (Own.cell 0 Z Z)) ?_
 obtain ⟨x9, hx10, hm11⟩ := bdG_some hm8; clear hm8
 refine gn Z (fun hG => QV.call en50 (EvAll.cons Z hG (EvAll.cons Z Z (EvAll.cons Z Z EvAll.nil))) (fun w hw => have h := roundelayref2_Within_w w (hx10 hG) ; h)) ?_
 refine gn Z (fun hG => QV.not Z hG) ?_
 refine wq Z (QV.pickOr Z Z Z (fun h => notF h)) ?_
 refine wm Z ?_
 refine gn Z (fun hG => QV.fieldAddr fd27_2 Z Z) ?_
 refine gn Z (fun hG => QV.load pl25 Z hG (Own.cell 0 Z Z)) ?_
 refine gn Z (fun hG => QV.lenS Try.underlying25 Z hG h_k__ops.lenMap) ?_
 obtain ⟨x12, hx13, hm14⟩ := bdG_some hm11; clear hm11
 refine gn Z (fun hG => QV.call en50 (EvAll.cons Z hG (EvAll.cons Z Z (EvAll.cons Z Z EvAll.nil))) (fun w hw => have h := roundelayref2_Within_w w (hx13 hG) ; h)) ?_
 refine gn Z (fun hG => QV.not Z hG) ?_
 refine wq Z (QV.pickOr Z Z Z (fun h => notF h)) ?_
 refine nt ?_
 refine WC.cond Z (fun h15 => ?_) (fun h15 => ?_)
 ·skip
  have hm16 := br_t h15 hm14; clear hm14
  refine sr ?_
  refine wa Z ?_
  refine nt (WC.ret (tr ?_))
  obtain rfl := (eq_of_some hm16).symm
  refine WQ.ret1 Z Z (fun w hw => ?_)
  exact ⟨Z, Own.kgrow (fun _ x => x) hw⟩
 have hm17 := br_f h15 hm14; clear hm14
 refine sk (WQ.then (WC.seq (sr ?_)))
 refine wa Z ?_
 refine nt ?_
 obtain ⟨o18, ho19, hm20⟩ := bd_some hm17; clear hm17; obtain ⟨n21, ho22⟩ := lp_some ho19
 refine WC.bloop1 (H2 := [blk b2 [.int .i64 k_.pace, .int .i64 k_.stages, v_k__ops] 27, blk b1 t.cells 24, kn noM w.heap.size w w]) (τ := [(2, (true, _)), (3, (true, _)), (4, (true, _))]) (fun (i7_2 : Int) => [(7, (true, .int .i64 i7_2))]) (fun i7_2 => []) (fun i7_2 m => iter (roundelayref5_May_L0 t k_ logs) m i7_2 = some o18) (fun i7_2 => o18 = .go i7_2) 0 n21 ho22 ⟨Z, Z, Z, Z, trivial⟩ (fun w hw => hw.pick [0, 1, 2] (by decide)) ?_ ?_
 ·skip
  rintro i7_2 rfl
  refine WQ.then (sr ?_)
  refine wa Z ?_
  refine nt (WC.ret ?_)
  obtain rfl := (eq_of_some hm20).symm
  refine WQ.ret1 Z Z (fun w hw => ?_)
  exact ⟨Z, Own.kgrow (fun _ x => x) hw⟩
 rintro i7_2 m23 hI24
 obtain ⟨m25, s26, rfl, hm27, hn28⟩ := iter_step hI24; clear hI24; unfold roundelayref5_May_L0 at hm27
 refine WC.seq (sr ?_)
 refine wm Z ?_
 refine wf fd27_2 Z ?_
 refine wl pl25 Z (Own.cell 0 Z Z) ?_
 refine wq Z (QV.lenS Try.underlying25 Z Z h_k__ops.lenMap) ?_
 refine wq Z (QV.lss Z Z Z Z) ?_
 refine nt ?_
 refine WC.cond Z (fun h29 => ?_) (fun h29 => ?_)
 ·skip
  have hm30 := br_t h29 hm27; clear hm27
  refine sk (WQ.then (WC.seq (WC.block (WC.seq (WC.seq ?_)))))
  refine WC.dr (m := 10) (S := Own noM w [kn noM w.heap.size w w, blk b2 [.int .i64 k_.pace, .int .i64 k_.stages, v_k__ops] 27, blk b1 t.cells 24]) (by kernel_rfl) (by kernel_rfl) (fun w hw => hw.pick [2, 0, 1] (by decide)) ?_
  refine wz 0 Z Z (QV.loadAgg ag24 Z Z Z (Own.cellsBlk 2 Z)) ?_
  refine wz 1 Z Z (QV.loadAgg ag27 Z Z Z (Own.cellsBlk 1 Z)) ?_
  refine wz 2 Z Z (QV.fieldAddr fd27_2 Z Z) ?_
  refine wz 3 Z Z (QV.load pl25 Z Z (Own.cell 1 Z Z)) ?_
  refine wz 4 Z Z (QV.move Z Z) ?_
  obtain ⟨c31, hm32⟩ := cs hm30; clear hm30
  obtain ⟨p33, hp34⟩ := h_k__ops.lenMap.ix (sz := 10) ln_len c31
  refine wz 5 Z Z (QV.indexSlice sl25 Z Z Z Z hp34) ?_
  refine wz 6 Z Z (QV.loadAgg ag45 Z Z Z (fun w hw => ((Own.karr 0 Z hk h_k__ops) w hw).ele hp34 c31)) ?_
  refine wz 7 Z Z (QV.move Z Z) ?_
  obtain ⟨x35, hx36, hm37⟩ := bd_some hm32; clear hm32
  refine wz 8 Z Z (QV.call en51 (EvAll.cons Z Z (EvAll.cons Z Z (EvAll.cons Z Z (EvAll.cons Z Z EvAll.nil)))) (fun w hw => have h := roundelayref5_one_w w hx36 ((Own.karr 0 Z hk h_k__ops) w hw) ((Own.karr 0 Z hk h_logs) w hw); h)) ?_
  refine wz 9 Z Z (QV.not Z Z) ?_
  refine WD.e (by kernel_rfl) ?_
  refine WQ.then ?_
  refine WC.cond Z (fun h38 => ?_) (fun h38 => ?_)
  ·skip
   have hm39 := br_t h38 hm37; clear hm37
   refine sr ?_
   refine wa Z ?_
   refine nt (WC.ret (tr (kr (tr (tr (kr (tr (tr ?_))))))))
   obtain rfl := up_ret hm39 hn28
   obtain rfl := (eq_of_some hm20).symm
   refine WQ.ret1 Z Z (fun w hw => ?_)
   exact ⟨Z, Own.kgrow (fun _ x => x) hw⟩
  have hm40 := br_f h38 hm37; clear hm37
  refine sk (WQ.then (sr ?_))
  refine wf fd27_2 Z ?_
  refine wl pl25 Z (Own.cell 0 Z Z) ?_
  refine wm Z ?_
  obtain ⟨c41, hm42⟩ := cs hm40; clear hm40
  obtain ⟨p43, hp44⟩ := h_k__ops.lenMap.ix (sz := 10) ln_len c41
  refine wq Z (QV.indexSlice sl25 Z Z Z Z hp44) ?_
  refine wf fd45_2 Z ?_
  refine wl pl3 Z (fun w hw => CellsAt.one 2 (((Own.karr 2 Z hk h_k__ops) w hw).ele hp44 c41) Z) ?_
  obtain ⟨x45, hx46, hm47⟩ := bd_some hm42; clear hm42
  refine wq Z (QV.call en52 (EvAll.cons Z Z EvAll.nil) (fun w hw => have h := roundelayref1_Class_w w hx46 ; h)) ?_
  refine wa Z ?_
  refine ns ?_
  refine wa Z ?_
  refine nt (WC.seq (sr ?_))
  refine wa Z ?_
  refine nt ?_
  obtain ⟨o48, ho49, hm50⟩ := bd_some hm47; clear hm47; obtain ⟨n51, ho52⟩ := lp_some ho49
  refine WC.bloop2 (H2 := [blk b2 [.int .i64 k_.pace, .int .i64 k_.stages, v_k__ops] 27, blk b1 t.cells 24, kn noM w.heap.size w w]) (τ := [(2, (true, _)), (3, (true, _)), (4, (true, _)), (7, (true, _)), (8, (true, _))]) (fun (many9_3 : Int) (j10_3 : Int) => [(9, (true, .int .i64 many9_3)), (10, (true, .int .i64 j10_3))]) (fun many9_3 j10_3 => []) (fun many9_3 j10_3 m => iter (roundelayref5_May_L2 k_ i7_2 x45) m (many9_3, j10_3) = some o48) (fun many9_3 j10_3 => o48 = .go (many9_3, j10_3)) 0 0 n51 ho52 ⟨Z, Z, Z, Z, Z, Z, Z, trivial⟩ (fun w hw => hw.pick [0, 1, 2] (by decide)) ?_ ?_
  ·skip
   rintro many9_3 j10_3 rfl
   refine WQ.then (sr ?_)
   refine wm Z ?_
   refine wm Z ?_
   refine wf fd24_0 Z ?_
   obtain ⟨c53, hm54⟩ := cs hm50; clear hm50
   refine wq Z (QV.indexArray ar22 Z Z Z Z c53.1 c53.2) ?_
   refine wl pl3 Z (Own.cellSym 1 Z (sel3_get (off := 0) (i := x45) c53.1 c53.2 Z Z Z) (addr_sym _ _ _)) ?_
   refine wq Z (QV.gtr Z Z Z Z) ?_
   refine nt ?_
   refine WC.cond Z (fun h55 => ?_) (fun h55 => ?_)
   ·skip
    have hm56 := br_t h55 hm54; clear hm54
    refine sr ?_
    refine wa Z ?_
    refine nt (WC.ret (kr (tr (tr (kr (tr (tr ?_)))))))
    obtain rfl := up_ret hm56 hn28
    obtain rfl := (eq_of_some hm20).symm
    refine WQ.ret1 Z Z (fun w hw => ?_)
    exact ⟨Z, Own.kgrow (fun _ x => x) hw⟩
   have hm57 := br_f h55 hm54; clear hm54
   refine sk (WQ.block (WQ.then (WC.region ?_)))
   refine wm Z ?_
   obtain ⟨c58, hm59⟩ := cs hm57; clear hm57
   refine wq Z (QV.add Z Z Z Z c58) ?_
   refine wa Z ?_
   refine WL.nil ?_
   exact WQ.again1 (i7_2 + 1) m25 (up_next hm59 hn28) (Nat.lt_succ_self _) ⟨Z, Z, Z, Z, trivial⟩ (fun w hw => hw.pick [0, 1, 2] (by decide))
  rintro many9_3 j10_3 m60 hI61
  obtain ⟨m62, s63, rfl, hm64, hn65⟩ := iter_step hI61; clear hI61; unfold roundelayref5_May_L2 at hm64; simp only at hm64
  refine WC.seq (sr ?_)
  refine wm Z ?_
  refine wf fd27_2 Z ?_
  refine wl pl25 Z (Own.cell 0 Z Z) ?_
  refine wq Z (QV.lenS Try.underlying25 Z Z h_k__ops.lenMap) ?_
  refine wq Z (QV.lss Z Z Z Z) ?_
  refine nt ?_
  refine WC.cond Z (fun h66 => ?_) (fun h66 => ?_)
  ·skip
   have hm67 := br_t h66 hm64; clear hm64
   refine sk (WQ.then (WC.seq (WC.block (WC.seq ?_))))
   refine WC.dr (m := 24) (S := Own noM w [kn noM w.heap.size w w, blk b2 [.int .i64 k_.pace, .int .i64 k_.stages, v_k__ops] 27, blk b1 t.cells 24]) (by kernel_rfl) (by kernel_rfl) (fun w hw => hw.pick [2, 0, 1] (by decide)) ?_
   refine wz 0 Z Z (QV.fieldAddr fd27_2 Z Z) ?_
   refine wz 1 Z Z (QV.load pl25 Z Z (Own.cell 1 Z Z)) ?_
   refine wz 2 Z Z (QV.move Z Z) ?_
   obtain ⟨c68, hm69⟩ := cs hm67; clear hm67
   obtain ⟨p70, hp71⟩ := h_k__ops.lenMap.ix (sz := 10) ln_len c68
   refine wz 3 Z Z (QV.indexSlice sl25 Z Z Z Z hp71) ?_
   refine wz 4 Z Z (QV.fieldAddr fd45_0 Z Z) ?_
   refine wz 5 Z Z (QV.load pl3 Z Z (fun w hw => CellsAt.one 0 (((Own.karr 0 Z hk h_k__ops) w hw).ele hp71 c68) Z)) ?_
   refine wz 6 Z Z (QV.fieldAddr fd27_2 Z Z) ?_
   refine wz 7 Z Z (QV.load pl25 Z Z (Own.cell 1 Z Z)) ?_
   refine wz 8 Z Z (QV.move Z Z) ?_
   obtain ⟨c72, hm73⟩ := cs hm69; clear hm69
   obtain ⟨p74, hp75⟩ := h_k__ops.lenMap.ix (sz := 10) ln_len c72
   refine wz 9 Z Z (QV.indexSlice sl25 Z Z Z Z hp75) ?_
   refine wz 10 Z Z (QV.fieldAddr fd45_0 Z Z) ?_
   refine wz 11 Z Z (QV.load pl3 Z Z (fun w hw => CellsAt.one 0 (((Own.karr 0 Z hk h_k__ops) w hw).ele hp75 c72) Z)) ?_
   refine wz 12 Z Z (QV.eql Z Z Z Z) ?_
   refine wz 13 Z Z (QV.move Z Z) ?_
   refine WD.g 14 Z (by kernel_rfl) Z Z (GuardIs.pos Z Z) (fun hG => QV.fieldAddr fd27_2 Z Z) ?_
   refine WD.g 15 Z (by kernel_rfl) Z Z (GuardIs.pos Z Z) (fun hG => QV.load pl25 Z hG (Own.cell 1 Z Z)) ?_
   refine WD.g 16 Z (by kernel_rfl) Z Z (GuardIs.pos Z Z) (fun hG => QV.move Z Z) ?_
   obtain ⟨c76, hm77⟩ := cs hm73; clear hm73
   obtain ⟨p78, hp79⟩ := h_k__ops.lenMap.ixG (sz := 10) ln_len c76
   refine WD.g 17 Z (by kernel_rfl) Z Z (GuardIs.pos Z Z) (fun hG => QV.indexSlice sl25 Z hG Z hG (hp79 hG)) ?_
   refine WD.g 18 Z (by kernel_rfl) Z Z (GuardIs.pos Z Z) (fun hG => QV.fieldAddr fd45_2 Z hG) ?_
   refine WD.g 19 Z (by kernel_rfl) Z Z (GuardIs.pos Z Z) (fun hG => QV.load pl3 Z hG (fun w hw => CellsAt.one 2 (((Own.karr 0 Z hk h_k__ops) w hw).ele (hp79 hG) (c76 hG)) Z)) ?_
   obtain ⟨x80, hx81, hm82⟩ := bdG_some hm77; clear hm77
   refine WD.g 20 Z (by kernel_rfl) Z Z (GuardIs.pos Z Z) (fun hG => QV.call en52 (EvAll.cons Z hG EvAll.nil) (fun w hw => have h := roundelayref1_Class_w w (hx81 hG) ; h)) ?_
   refine WD.g 21 Z (by kernel_rfl) Z Z (GuardIs.pos Z Z) (fun hG => QV.move Z Z) ?_
   refine WD.g 22 Z (by kernel_rfl) Z Z (GuardIs.pos Z Z) (fun hG => QV.eql Z hG Z hG) ?_
   refine wz 23 Z Z (QV.pickAnd Z Z Z (fun h => h)) ?_
   refine WD.e (by kernel_rfl) ?_
   refine WQ.then ?_
   refine WC.cond Z (fun h83 => ?_) (fun h83 => ?_)
   ·skip
    have hm84 := br_t h83 hm82; clear hm82
    refine WC.region ?_
    refine wm Z ?_
    obtain ⟨c85, hm86⟩ := cs hm84; clear hm84
    refine wq Z (QV.add Z Z Z Z c85) ?_
    refine wa Z ?_
    refine WL.nil (WQ.block (WQ.then (WC.region ?_)))
    refine wm Z ?_
    obtain ⟨c87, hm88⟩ := cs hm86; clear hm86
    refine wq Z (QV.add Z Z Z Z c87) ?_
    refine wa Z ?_
    refine WL.nil ?_
    exact WQ.again2 (many9_3 + 1) (j10_3 + 1) m62 (up_next hm88 hn65) (Nat.lt_succ_self _) ⟨Z, Z, Z, Z, Z, Z, Z, trivial⟩ (fun w hw => hw.pick [0, 1, 2] (by decide))
   have hm89 := br_f h83 hm82; clear hm82
   refine sk (WQ.block (WQ.then (WC.region ?_)))
   refine wm Z ?_
   obtain ⟨c90, hm91⟩ := cs hm89; clear hm89
   refine wq Z (QV.add Z Z Z Z c90) ?_
   refine wa Z ?_
   refine WL.nil ?_
   exact WQ.again2 many9_3 (j10_3 + 1) m62 (up_next hm91 hn65) (Nat.lt_succ_self _) ⟨Z, Z, Z, Z, Z, Z, Z, trivial⟩ (fun w hw => hw.pick [0, 1, 2] (by decide))
  have hm92 := br_f h66 hm64; clear hm64
  refine WC.exit (te (te (WQ.block_exit ?_)))
  exact WQ.out2 many9_3 j10_3 (up_brk hm92 hn65) ⟨Z, Z, Z, Z, Z, Z, Z, trivial⟩ (fun w hw => hw.pick [0, 1, 2] (by decide))
 have hm93 := br_f h29 hm27; clear hm27
 refine WC.exit (te (te (WQ.block_exit ?_)))
 exact WQ.out1 i7_2 (up_brk hm93 hn28) ⟨Z, Z, Z, Z, trivial⟩ (fun w hw => hw.pick [0, 1, 2] (by decide))

set_option maxRecDepth 8000 in
theorem roundelayref10_Layout_w {v_l_logs : Value} {v_l_body : Value} {v_l_outs : Value} {v_k__ops : Value} {v_order : Value} {l : Lp} {t : Tgt} {k_ : Krn} {order : List Int} {r : List Off × Bool} {K0 : World} (hm : roundelayref10_Layout_m l t k_ order = some r) (h_l_logs : Arr K0 v_l_logs 1 (l.logs.map icell)) (h_l_body : Arr K0 v_l_body 9 (l.body.map Stm.cells)) (h_l_outs : Arr K0 v_l_outs 1 (l.outs.map icell)) (h_k__ops : Arr K0 v_k__ops 10 (k_.ops.map Opr.cells)) (h_order : Arr K0 v_order 1 (order.map icell)) (M : Nat → Prop) (w : World) (hk : Base M K0 w) (hw0 : Own M w [] w) : Calls Try.prog 42 #[.agg #[v_l_logs, v_l_body, v_l_outs], .agg #[.int .i64 t.u0, .int .i64 t.u1, .int .i64 t.u2, .int .i64 t.w0, .int .i64 t.w1, .int .i64 t.w2, .int .i64 t.regs], .agg #[.int .i64 k_.pace, .int .i64 k_.stages, v_k__ops], v_order] w (fun e w' => ∃ X : Value × World, e = .returned (.tuple #[X.1, .bool r.2]) ∧ Own M w (kn M w.heap.size K0 X.2 :: []) w' ∧ Arr X.2 X.1 3 (r.1.map Off.cells)) := by
 unfold roundelayref10_Layout_m at hm
 refine calls_of_WC (n := 150) (args := [.agg #[v_l_logs, v_l_body, v_l_outs], .agg #[.int .i64 t.u0, .int .i64 t.u1, .int .i64 t.u2, .int .i64 t.w0, .int .i64 t.w1, .int .i64 t.w2, .int .i64 t.regs], .agg #[.int .i64 k_.pace, .int .i64 k_.stages, v_k__ops], v_order]) Try.func42 Z Z (Nat.le_of_ble_eq_true Z) ?_ (Own.startK hk hw0)
 refine sr ?_
 refine WL.effect Z ?_
 refine (EV.boxAgg (by decide) Z Z (fun b1 => ?_))
 refine WL.effect Z ?_
 refine (EV.boxAgg (by decide) Z Z (fun b2 => ?_))
 refine WL.effect Z ?_
 refine (EV.boxAgg (by decide) Z Z (fun b3 => ?_))
 refine wa Z ?_
 refine wa Z ?_
 refine ns ?_
 refine wf fd49_1 Z ?_
 refine wl pl47 Z (Own.cell 2 Z Z) ?_
 refine wq Z (QV.lenS Try.underlying47 Z Z h_l_body.lenMap) ?_
 refine wa Z ?_
 refine nt (WC.seq (sr ?_))
 refine wq Z (QV.loadAgg ag49 Z Z Z (Own.cellsBlk 2 Z)) ?_
 refine wq Z (QV.loadAgg ag24 Z Z Z (Own.cellsBlk 1 Z)) ?_
 obtain ⟨x4, hx5, hm6⟩ := bd_some hm; clear hm
 refine wq Z (QV.call en24 (EvAll.cons Z Z (EvAll.cons Z Z EvAll.nil)) (fun w hw => have h := roundelayref6_May_w w hx5 ((Own.karr 3 Z hk h_l_logs) w hw) ((Own.karr 3 Z hk h_l_body) w hw) ((Own.karr 3 Z hk h_l_outs) w hw); h)) ?_
 refine wq Z (QV.not Z Z) ?_
 refine wm Z ?_
 refine gn Z (fun hG => QV.loadAgg ag24 Z Z Z (Own.cellsBlk 1 Z)) ?_
 refine gn Z (fun hG => QV.loadAgg ag27 Z Z Z (Own.cellsBlk 0 Z)) ?_
 refine gn Z (fun hG => QV.fieldAddr fd49_0 Z Z) ?_
 refine gn Z (fun hG => QV.load pl30 Z hG (Own.cell 2 Z Z)) ?_
 obtain ⟨x7, hx8, hm9⟩ := bdG_some hm6; clear hm6
 refine gn Z (fun hG => QV.call en16 (EvAll.cons Z hG (EvAll.cons Z hG (EvAll.cons Z hG EvAll.nil))) (fun w hw => have h := roundelayref5_May_w w (hx8 hG) ((Own.karr 3 Z hk h_k__ops) w hw) ((Own.karr 3 Z hk h_l_logs) w hw); h)) ?_
 refine gn Z (fun hG => QV.not Z hG) ?_
 refine wq Z (QV.pickOr Z Z Z (fun h => notF h)) ?_
 refine wm Z ?_
 refine gn Z (fun hG => QV.fieldAddr fd27_2 Z Z) ?_
 refine gn Z (fun hG => QV.load pl25 Z hG (Own.cell 0 Z Z)) ?_
 refine gn Z (fun hG => QV.lenS Try.underlying25 Z hG h_k__ops.lenMap) ?_
 refine gn Z (fun hG => QV.move Z Z) ?_
 refine gn Z (fun hG => QV.neq Z hG Z hG) ?_
 refine wq Z (QV.pickOr Z Z Z (fun h => notF h)) ?_
 refine wm Z ?_
 refine gn Z (fun hG => QV.move Z Z) ?_
 refine gn Z (fun hG => QV.lenS Try.underlying30 Z hG h_order.lenMap) ?_
 refine gn Z (fun hG => QV.move Z Z) ?_
 refine gn Z (fun hG => QV.neq Z hG Z hG) ?_
 refine wq Z (QV.pickOr Z Z Z (fun h => notF h)) ?_
 refine nt ?_
 refine WC.cond Z (fun h10 => ?_) (fun h10 => ?_)
 ·skip
  have hm11 := br_t h10 hm9; clear hm9
  refine sr ?_
  refine wa Z ?_
  refine wa Z ?_
  refine nt (WC.ret (tr ?_))
  obtain rfl := (eq_of_some hm11).symm
  refine WQ.ret2 Z Z Z (fun w hw => ?_)
  exact ⟨(.slice none 0 0, K0), Z, hw.pick [3] (by decide), Arr.nil⟩
 have hm12 := br_f h10 hm9; clear hm9
 refine sk (WQ.then (sr ?_))
 refine wa Z ?_
 refine nt (WC.seq (sr ?_))
 refine wa Z ?_
 refine nt ?_
 refine WK.of (fun w hw => hw.vecNil (E := 128) (sz := 3) (enc := Off.cells)) ?_
 obtain ⟨o14, ho15, hm16⟩ := bd_some hm12; clear hm12; obtain ⟨n17, ho18⟩ := lp_some ho15
 refine WC.bloop3 (H2 := [blk b3 [.int .i64 k_.pace, .int .i64 k_.stages, v_k__ops] 27, blk b2 t.cells 24, blk b1 [v_l_logs, v_l_body, v_l_outs] 49, kn M w.heap.size K0 K0]) (τ := [(3, (true, _)), (4, (true, _)), (5, (true, _)), (6, (true, _)), (10, (true, _))]) (fun (v13_4 : List Off) (s12_4 : Int) (uv13_4 : Value) => [(11, (true, uv13_4)), (12, (true, .int .i64 s12_4))]) (fun v13_4 s12_4 uv13_4 => [vec uv13_4 128 3 (List.map Off.cells v13_4)]) (fun v13_4 s12_4 uv13_4 m => iter (roundelayref10_Layout_L0 l t k_ order) m (v13_4, s12_4) = some o14 ∧ SliceLen uv13_4 v13_4.length) (fun v13_4 s12_4 uv13_4 => o14 = .go (v13_4, s12_4) ∧ SliceLen uv13_4 v13_4.length) [] 0 (.slice none 0 0) n17 ⟨ho18, SliceLen.nil⟩ ⟨Z, Z, Z, Z, Z, Z, Z, trivial⟩ (fun w hw => hw.pick [0, 1, 2, 3, 4] (by decide)) ?_ ?_
 ·skip
  rintro v13_4 s12_4 uv13_4 ⟨rfl, hlv13_4⟩
  refine WQ.then (sr ?_)
  refine wm Z ?_
  refine wa Z ?_
  refine wa Z ?_
  refine nt (WC.ret ?_)
  obtain rfl := (eq_of_some hm16).symm
  refine WK.of (C' := Own M w [kn M w.heap.size K0 K0, vec uv13_4 128 3 (List.map Off.cells v13_4), blk b3 [.int .i64 k_.pace, .int .i64 k_.stages, v_k__ops] 27, blk b2 t.cells 24, blk b1 [v_l_logs, v_l_body, v_l_outs] 49]) (fun w hw => hw.pick [4, 0, 1, 2, 3] (by decide)) ?_
  refine WK.freeze hk (fun k19 hle19 hr19 => ?_)
  have hA19 := vec_arr hr19
  refine WQ.ret2 Z Z Z (fun w hw => ?_)
  exact ⟨(uv13_4, k19), Z, hw.pick [0] (by decide), hA19⟩
 rintro v13_4 s12_4 uv13_4 m20 ⟨hI21, hlv13_4⟩
 obtain ⟨m22, s23, rfl, hm24, hn25⟩ := iter_step hI21; clear hI21; unfold roundelayref10_Layout_L0 at hm24; simp only at hm24
 refine WC.seq (sr ?_)
 refine wm Z ?_
 refine wm Z ?_
 refine wq Z (QV.lss Z Z Z Z) ?_
 refine nt ?_
 refine WC.cond Z (fun h26 => ?_) (fun h26 => ?_)
 ·skip
  have hm27 := br_t h26 hm24; clear hm24
  refine sk (WQ.then (WC.seq (WC.block (WC.seq (sr ?_)))))
  refine wm Z ?_
  refine wm Z ?_
  obtain ⟨c28, hm29⟩ := cs hm27; clear hm27
  obtain ⟨p30, hp31⟩ := h_order.lenMap.ix (sz := 1) ln_len c28
  refine wq Z (QV.indexSlice sl30 Z Z Z Z hp31) ?_
  refine wl pl3 Z (fun w hw => CellsAt.one 0 (((Own.karr 4 Z hk h_order) w hw).ele hp31 c28) Z) ?_
  refine wq Z (QV.lss Z Z Z Z) ?_
  refine wm Z ?_
  refine gn Z (fun hG => QV.move Z Z) ?_
  refine gn Z (fun hG => QV.move Z Z) ?_
  obtain ⟨c32, hm33⟩ := cs hm29; clear hm29
  obtain ⟨p34, hp35⟩ := h_order.lenMap.ixG (sz := 1) ln_len c32
  refine gn Z (fun hG => QV.indexSlice sl30 Z hG Z hG (hp35 hG)) ?_
  refine gn Z (fun hG => QV.load pl3 Z hG (fun w hw => CellsAt.one 0 (((Own.karr 4 Z hk h_order) w hw).ele (hp35 hG) (c32 hG)) Z)) ?_
  refine gn Z (fun hG => QV.move Z Z) ?_
  refine gn Z (fun hG => QV.geq Z hG Z hG) ?_
  refine wq Z (QV.pickOr Z Z Z (fun h => notF h)) ?_
  refine nt ?_
  refine WC.cond Z (fun h36 => ?_) (fun h36 => ?_)
  ·skip
   have hm37 := br_t h36 hm33; clear hm33
   refine sr ?_
   refine wa Z ?_
   refine wa Z ?_
   refine nt (WC.ret (tr (kr (tr (tr (kr (tr (tr ?_))))))))
   obtain rfl := up_ret hm37 hn25
   obtain rfl := (eq_of_some hm16).symm
   refine WQ.ret2 Z Z Z (fun w hw => ?_)
   exact ⟨(.slice none 0 0, K0), Z, hw.pick [4] (by decide), Arr.nil⟩
  have hm38 := br_f h36 hm33; clear hm33
  refine sk (WQ.then (WC.seq (sr ?_)))
  refine wa Z ?_
  refine nt ?_
  obtain ⟨o39, ho40, hm41⟩ := bd_some hm38; clear hm38; obtain ⟨n42, ho43⟩ := lp_some ho40
  refine WC.bloop1 (H2 := [vec uv13_4 128 3 (List.map Off.cells v13_4), blk b3 [.int .i64 k_.pace, .int .i64 k_.stages, v_k__ops] 27, blk b2 t.cells 24, blk b1 [v_l_logs, v_l_body, v_l_outs] 49, kn M w.heap.size K0 K0]) (τ := [(3, (true, _)), (4, (true, _)), (5, (true, _)), (6, (true, _)), (10, (true, _)), (11, (true, _)), (12, (true, _))]) (fun (i13_5 : Int) => [(13, (true, .int .i64 i13_5))]) (fun i13_5 => []) (fun i13_5 m => iter (roundelayref10_Layout_L2 order s12_4) m i13_5 = some o39) (fun i13_5 => o39 = .go i13_5) 0 n42 ho43 ⟨Z, Z, Z, Z, Z, Z, Z, Z, trivial⟩ (fun w hw => hw.pick [0, 1, 2, 3, 4] (by decide)) ?_ ?_
  ·skip
   rintro i13_5 rfl
   refine WQ.then (WC.seq ?_)
   refine WC.dr (m := 10) (S := Own M w [kn M w.heap.size K0 K0, vec uv13_4 128 3 (List.map Off.cells v13_4), blk b3 [.int .i64 k_.pace, .int .i64 k_.stages, v_k__ops] 27, blk b2 t.cells 24, blk b1 [v_l_logs, v_l_body, v_l_outs] 49]) (by kernel_rfl) (by kernel_rfl) (fun w hw => hw.pick [4, 0, 1, 2, 3] (by decide)) ?_
   refine wz 0 Z Z (QV.fieldAddr fd27_2 Z Z) ?_
   refine wz 1 Z Z (QV.load pl25 Z Z (Own.cell 2 Z Z)) ?_
   refine wz 2 Z Z (QV.move Z Z) ?_
   refine wz 3 Z Z (QV.move Z Z) ?_
   obtain ⟨c44, hm45⟩ := cs hm41; clear hm41
   obtain ⟨p46, hp47⟩ := h_order.lenMap.ix (sz := 1) ln_len c44
   refine wz 4 Z Z (QV.indexSlice sl30 Z Z Z Z hp47) ?_
   refine wz 5 Z Z (QV.load pl3 Z Z (fun w hw => CellsAt.one 0 (((Own.karr 0 Z hk h_order) w hw).ele hp47 c44) Z)) ?_
   obtain ⟨c48, hm49⟩ := cs hm45; clear hm45
   obtain ⟨p50, hp51⟩ := h_k__ops.lenMap.ix (sz := 10) ln_len c48
   refine wz 6 Z Z (QV.indexSlice sl25 Z Z Z Z hp51) ?_
   refine wz 7 Z Z (QV.loadAgg ag45 Z Z Z (fun w hw => ((Own.karr 0 Z hk h_k__ops) w hw).ele hp51 c48)) ?_
   refine WD.o 8 Z (by kernel_rfl) Z ?_
   refine (EV.alloc (by decide) ze45 (fun b52 => ?_))
   refine WD.b (H' := [kn M w.heap.size K0 K0, blk b52 [.int .i64 0, .int .i64 0, .int .i64 0, .int .i64 0, .int .i64 0, .int .i64 0, .int .i64 0, .int .i64 0, .int .i64 0, .int .i64 0] 45, vec uv13_4 128 3 (List.map Off.cells v13_4), blk b3 [.int .i64 k_.pace, .int .i64 k_.stages, v_k__ops] 27, blk b2 t.cells 24, blk b1 [v_l_logs, v_l_body, v_l_outs] 49]) (fun w hw => hw.pick [5, 0, 1, 2, 3, 4] (by decide)) (fun w hw => hw.pick [0, 2, 3, 4, 5] (by decide)) ?_
   refine WD.l 9 Z (by kernel_rfl) Z ?_
   refine (EV.store 0 Z Z Z Z Z Z (vs := (Opr.cells (ele k_.ops (ele order s12_4)))) (show Value.cells _ = List.toArray _ from Z) sz45 (Nat.le_of_ble_eq_true Z) (one_cons Z (one_cons Z (one_cons Z (one_cons Z (one_cons Z (one_cons Z (one_cons Z (one_cons Z (one_cons Z (one_cons Z one_nil)))))))))) ?_)
   refine WQ.then (sr ?_)
   refine wf fd49_1 Z ?_
   refine wl pl47 Z (Own.cell 4 Z Z) ?_
   refine wm Z ?_
   obtain ⟨c53, hm54⟩ := cs hm49; clear hm49
   obtain ⟨p55, hp56⟩ := h_l_body.lenMap.ix (sz := 9) ln_len c53
   refine wq Z (QV.indexSlice sl47 Z Z Z Z hp56) ?_
   refine wq Z (QV.loadAgg ag59 Z Z Z (fun w hw => ((Own.karr 5 Z hk h_l_body) w hw).ele hp56 c53)) ?_
   refine WL.effect Z ?_
   refine (EV.alloc (by decide) ze59 (fun b57 => ?_))
   refine WL.effect Z ?_
   refine (EV.store 0 Z Z Z Z Z Z (vs := (Stm.cells (ele l.body s12_4))) (show Value.cells _ = List.toArray _ from Z) sz59 (Nat.le_of_ble_eq_true Z) (one_cons Z (one_cons Z (one_cons Z (one_cons Z (one_cons Z (one_cons Z (one_cons Z (one_cons Z (one_cons Z one_nil))))))))) ?_)
   refine nt (WC.seq (sr ?_))
   refine wf fd45_2 Z ?_
   refine wl pl3 Z (Own.cell 1 Z Z) ?_
   refine wf fd59_0 Z ?_
   refine wl pl3 Z (Own.cell 0 Z Z) ?_
   refine wq Z (QV.neq Z Z Z Z) ?_
   refine wm Z ?_
   refine gn Z (fun hG => QV.fieldAddr fd45_6 Z Z) ?_
   refine gn Z (fun hG => QV.load pl3 Z hG (Own.cell 1 Z Z)) ?_
   refine gn Z (fun hG => QV.fieldAddr fd59_3 Z Z) ?_
   refine gn Z (fun hG => QV.load pl3 Z hG (Own.cell 0 Z Z)) ?_
   refine gn Z (fun hG => QV.neq Z hG Z hG) ?_
   refine wq Z (QV.pickOr Z Z Z (fun h => notF h)) ?_
   refine wm Z ?_
   refine gn Z (fun hG => QV.fieldAddr fd45_7 Z Z) ?_
   refine gn Z (fun hG => QV.load pl3 Z hG (Own.cell 1 Z Z)) ?_
   refine gn Z (fun hG => QV.fieldAddr fd59_4 Z Z) ?_
   refine gn Z (fun hG => QV.load pl3 Z hG (Own.cell 0 Z Z)) ?_
   refine gn Z (fun hG => QV.neq Z hG Z hG) ?_
   refine wq Z (QV.pickOr Z Z Z (fun h => notF h)) ?_
   refine wm Z ?_
   refine gn Z (fun hG => QV.fieldAddr fd45_8 Z Z) ?_
   refine gn Z (fun hG => QV.load pl3 Z hG (Own.cell 1 Z Z)) ?_
   refine gn Z (fun hG => QV.fieldAddr fd59_5 Z Z) ?_
   refine gn Z (fun hG => QV.load pl3 Z hG (Own.cell 0 Z Z)) ?_
   refine gn Z (fun hG => QV.neq Z hG Z hG) ?_
   refine wq Z (QV.pickOr Z Z Z (fun h => notF h)) ?_
   refine wm Z ?_
   refine gn Z (fun hG => QV.fieldAddr fd45_9 Z Z) ?_
   refine gn Z (fun hG => QV.load pl2 Z hG (Own.cell 1 Z Z)) ?_
   refine gn Z (fun hG => QV.fieldAddr fd59_6 Z Z) ?_
   refine gn Z (fun hG => QV.load pl2 Z hG (Own.cell 0 Z Z)) ?_
   refine gn Z (fun hG => QV.neq Z hG Z hG) ?_
   refine wq Z (QV.pickOr Z Z Z (fun h => notF h)) ?_
   refine nt ?_
   refine WC.cond Z (fun h58 => ?_) (fun h58 => ?_)
   ·skip
    have hm59 := br_t h58 hm54; clear hm54
    refine sr ?_
    refine wa Z ?_
    refine wa Z ?_
    refine nt (WC.ret (tr (kr (tr (tr (kr (tr (tr ?_))))))))
    obtain rfl := up_ret hm59 hn25
    obtain rfl := (eq_of_some hm16).symm
    refine WQ.ret2 Z Z Z (fun w hw => ?_)
    exact ⟨(.slice none 0 0, K0), Z, hw.pick [6] (by decide), Arr.nil⟩
   have hm60 := br_f h58 hm54; clear hm54
   refine sk (WQ.then (sr ?_))
   refine wf fd45_0 Z ?_
   refine wl pl3 Z (Own.cell 1 Z Z) ?_
   refine wf fd27_0 Z ?_
   refine wl pl3 Z (Own.cell 3 Z Z) ?_
   refine wf fd45_1 Z ?_
   refine wl pl3 Z (Own.cell 1 Z Z) ?_
   obtain ⟨c61, hm62⟩ := cs hm60; clear hm60
   refine wq Z (QV.mul Z Z Z Z c61) ?_
   obtain ⟨c63, hm64⟩ := cs hm62; clear hm62
   refine wq Z (QV.add Z Z Z Z c63) ?_
   refine wa Z ?_
   refine ns ?_
   refine wq Z (QV.loadAgg ag24 Z Z Z (Own.cellsBlk 4 Z)) ?_
   refine wf fd45_2 Z ?_
   refine wl pl3 Z (Own.cell 1 Z Z) ?_
   obtain ⟨x65, hx66, hm67⟩ := bd_some hm64; clear hm64
   refine wq Z (QV.call en78 (EvAll.cons Z Z (EvAll.cons Z Z EvAll.nil)) (fun w hw => have h := roundelayref4_Wait_w w hx66 ; h)) ?_
   refine wa Z ?_
   refine nr ?_
   refine wm Z ?_
   refine wm Z ?_
   refine wm Z ?_
   refine wm Z ?_
   obtain ⟨c68, hm69⟩ := cs hm67; clear hm67
   refine wq Z (QV.add Z Z Z Z c68) ?_
   refine wf fd45_3 Z ?_
   refine wl pl3 Z (Own.cell 1 Z Z) ?_
   refine wf fd45_1 Z ?_
   refine wl pl3 Z (Own.cell 1 Z Z) ?_
   obtain ⟨c70, hm71⟩ := cs hm69; clear hm69
   refine wq Z (QV.add Z Z Z Z c70) ?_
   refine wq Z (QV.build (ps := [(0, .tmp 137), (1, .tmp 140), (2, .tmp 145)]) (cells := [.int .i64 ((ele k_.ops (ele order s12_4)).slot + (k_.pace * (ele k_.ops (ele order s12_4)).stage)), .int .i64 (((ele k_.ops (ele order s12_4)).slot + (k_.pace * (ele k_.ops (ele order s12_4)).stage)) + x65), .int .i64 ((ele k_.ops (ele order s12_4)).dest + (ele k_.ops (ele order s12_4)).stage)]) (EvAll.cons Z Z (EvAll.cons Z Z (EvAll.cons Z Z EvAll.nil))) (by kernel_rfl)) ?_
   refine WL.effect Z ?_
   refine (EV.buildSlice (by decide) sz_81 (by decide) (by decide) (ps := [(0, .tmp 146)]) (cells := [.int .i64 ((ele k_.ops (ele order s12_4)).slot + (k_.pace * (ele k_.ops (ele order s12_4)).stage)), .int .i64 (((ele k_.ops (ele order s12_4)).slot + (k_.pace * (ele k_.ops (ele order s12_4)).stage)) + x65), .int .i64 ((ele k_.ops (ele order s12_4)).dest + (ele k_.ops (ele order s12_4)).stage)]) (EvAll.cons Z Z EvAll.nil) (by kernel_rfl) (fun b72 => ?_))
   refine WL.effect Z ?_
   obtain ⟨c73, hm74⟩ := cs hm71; clear hm71
   refine (EV.appendL (enc := Off.cells) (xs := v13_4) (ys := [(Off.mk ((ele k_.ops (ele order s12_4)).slot + (k_.pace * (ele k_.ops (ele order s12_4)).stage)) (((ele k_.ops (ele order s12_4)).slot + (k_.pace * (ele k_.ops (ele order s12_4)).stage)) + x65) ((ele k_.ops (ele order s12_4)).dest + (ele k_.ops (ele order s12_4)).stage))]) ((v13_4 ++ [(Off.mk ((ele k_.ops (ele order s12_4)).slot + (k_.pace * (ele k_.ops (ele order s12_4)).stage)) (((ele k_.ops (ele order s12_4)).slot + (k_.pace * (ele k_.ops (ele order s12_4)).stage)) + x65) ((ele k_.ops (ele order s12_4)).dest + (ele k_.ops (ele order s12_4)).stage))])) 3 (by decide) ve81 Z Z Z Z Z (Own.blkArr 0 (rows := [(Off.mk ((ele k_.ops (ele order s12_4)).slot + (k_.pace * (ele k_.ops (ele order s12_4)).stage)) (((ele k_.ops (ele order s12_4)).slot + (k_.pace * (ele k_.ops (ele order s12_4)).stage)) + x65) ((ele k_.ops (ele order s12_4)).dest + (ele k_.ops (ele order s12_4)).stage))].map Off.cells) Z Z (rows_len Off.cells_len)) Off.cells_len (Off.cells_one _) Z c73.1 c73.2 (fun u75 hu76 => ?_))
   refine wa Z ?_
   refine WL.nil (WQ.block (WQ.then (WC.region ?_)))
   refine wm Z ?_
   obtain ⟨c77, hm78⟩ := cs hm74; clear hm74
   refine wq Z (QV.add Z Z Z Z c77) ?_
   refine wa Z ?_
   refine WL.nil ?_
   exact WQ.again3 (v13_4 ++ [(Off.mk ((ele k_.ops (ele order s12_4)).slot + (k_.pace * (ele k_.ops (ele order s12_4)).stage)) (((ele k_.ops (ele order s12_4)).slot + (k_.pace * (ele k_.ops (ele order s12_4)).stage)) + x65) ((ele k_.ops (ele order s12_4)).dest + (ele k_.ops (ele order s12_4)).stage))]) (s12_4 + 1) u75 m22 ⟨up_next hm78 hn25, hu76⟩ (Nat.lt_succ_self _) ⟨Z, Z, Z, Z, Z, Z, Z, trivial⟩ (fun w hw => hw.pick [3, 4, 5, 6, 7] (by decide))
  rintro i13_5 m79 hI80
  obtain ⟨m81, s82, rfl, hm83, hn84⟩ := iter_step hI80; clear hI80; unfold roundelayref10_Layout_L2 at hm83
  refine WC.seq (sr ?_)
  refine wm Z ?_
  refine wm Z ?_
  refine wq Z (QV.lss Z Z Z Z) ?_
  refine nt ?_
  refine WC.cond Z (fun h85 => ?_) (fun h85 => ?_)
  ·skip
   have hm86 := br_t h85 hm83; clear hm83
   refine sk (WQ.then (WC.seq (WC.block (WC.seq ?_))))
   refine WC.dr (m := 9) (S := Own M w [kn M w.heap.size K0 K0, vec uv13_4 128 3 (List.map Off.cells v13_4), blk b3 [.int .i64 k_.pace, .int .i64 k_.stages, v_k__ops] 27, blk b2 t.cells 24, blk b1 [v_l_logs, v_l_body, v_l_outs] 49]) (by kernel_rfl) (by kernel_rfl) (fun w hw => hw.pick [4, 0, 1, 2, 3] (by decide)) ?_
   refine wz 0 Z Z (QV.move Z Z) ?_
   refine wz 1 Z Z (QV.move Z Z) ?_
   obtain ⟨c87, hm88⟩ := cs hm86; clear hm86
   obtain ⟨p89, hp90⟩ := h_order.lenMap.ix (sz := 1) ln_len c87
   refine wz 2 Z Z (QV.indexSlice sl30 Z Z Z Z hp90) ?_
   refine wz 3 Z Z (QV.load pl3 Z Z (fun w hw => CellsAt.one 0 (((Own.karr 0 Z hk h_order) w hw).ele hp90 c87) Z)) ?_
   refine wz 4 Z Z (QV.move Z Z) ?_
   refine wz 5 Z Z (QV.move Z Z) ?_
   obtain ⟨c91, hm92⟩ := cs hm88; clear hm88
   obtain ⟨p93, hp94⟩ := h_order.lenMap.ix (sz := 1) ln_len c91
   refine wz 6 Z Z (QV.indexSlice sl30 Z Z Z Z hp94) ?_
   refine wz 7 Z Z (QV.load pl3 Z Z (fun w hw => CellsAt.one 0 (((Own.karr 0 Z hk h_order) w hw).ele hp94 c91) Z)) ?_
   refine wz 8 Z Z (QV.eql Z Z Z Z) ?_
   refine WD.e (by kernel_rfl) ?_
   refine WQ.then ?_
   refine WC.cond Z (fun h95 => ?_) (fun h95 => ?_)
   ·skip
    have hm96 := br_t h95 hm92; clear hm92
    refine sr ?_
    refine wa Z ?_
    refine wa Z ?_
    refine nt (WC.ret (kr (tr (tr (kr (tr (tr (kr (tr (tr (kr (tr (tr ?_)))))))))))))
    obtain rfl := up_ret hm96 hn84
    obtain rfl := up_ret hm41 hn25
    obtain rfl := (eq_of_some hm16).symm
    refine WQ.ret2 Z Z Z (fun w hw => ?_)
    exact ⟨(.slice none 0 0, K0), Z, hw.pick [4] (by decide), Arr.nil⟩
   have hm97 := br_f h95 hm92; clear hm92
   refine sk (WQ.block (WQ.then (WC.region ?_)))
   refine wm Z ?_
   obtain ⟨c98, hm99⟩ := cs hm97; clear hm97
   refine wq Z (QV.add Z Z Z Z c98) ?_
   refine wa Z ?_
   refine WL.nil ?_
   exact WQ.again1 (i13_5 + 1) m81 (up_next hm99 hn84) (Nat.lt_succ_self _) ⟨Z, Z, Z, Z, Z, Z, Z, Z, trivial⟩ (fun w hw => hw.pick [0, 1, 2, 3, 4] (by decide))
  have hm100 := br_f h85 hm83; clear hm83
  refine WC.exit (te (te (WQ.block_exit ?_)))
  exact WQ.out1 i13_5 (up_brk hm100 hn84) ⟨Z, Z, Z, Z, Z, Z, Z, Z, trivial⟩ (fun w hw => hw.pick [0, 1, 2, 3, 4] (by decide))
 have hm101 := br_f h26 hm24; clear hm24
 refine WC.exit (te (te (WQ.block_exit ?_)))
 exact WQ.out3 v13_4 s12_4 uv13_4 ⟨up_brk hm101 hn25, hlv13_4⟩ ⟨Z, Z, Z, Z, Z, Z, Z, trivial⟩ (fun w hw => hw.pick [0, 1, 2, 3, 4] (by decide))

set_option maxRecDepth 8000 in
theorem roundelayref10_Far_w {v_l_logs : Value} {v_l_body : Value} {v_l_outs : Value} {l : Lp} {a : Int} {r : Int} (w : World) (hm : roundelayref10_Far_m l a = some r) (h_l_logs : Arr w v_l_logs 1 (l.logs.map icell)) (h_l_body : Arr w v_l_body 9 (l.body.map Stm.cells)) (h_l_outs : Arr w v_l_outs 1 (l.outs.map icell)) : Calls Try.prog 84 #[.agg #[v_l_logs, v_l_body, v_l_outs], .int .i64 a] w (fun e w' => e = .returned (.int .i64 r) ∧ Grow w w') := by
 unfold roundelayref10_Far_m at hm
 have hk := Base.rfl (w := w)
 refine calls_of_WC (n := 50) (args := [.agg #[v_l_logs, v_l_body, v_l_outs], .int .i64 a]) Try.func84 Z Z (Nat.le_of_ble_eq_true Z) ?_ (Own.startK hk (Own.start w))
 refine sr ?_
 refine WL.effect Z ?_
 refine (EV.boxAgg (by decide) Z Z (fun b1 => ?_))
 refine wa Z ?_
 refine ns ?_
 refine wa Z ?_
 refine nt (WC.seq (sr ?_))
 refine wa Z ?_
 refine nt ?_
 obtain ⟨o2, ho3, hm4⟩ := bd_some hm; clear hm; obtain ⟨n5, ho6⟩ := lp_some ho3
 refine WC.bloop3 (H2 := [blk b1 [v_l_logs, v_l_body, v_l_outs] 49]) (τ := [(1, (true, _)), (2, (true, _))]) (fun (far5_3 : Int) (i6_3 : Int) (k_3 : World) => [(5, (true, .int .i64 far5_3)), (6, (true, .int .i64 i6_3))]) (fun far5_3 i6_3 k_3 => [kn noM w.heap.size w k_3]) (fun far5_3 i6_3 k_3 m => iter (roundelayref10_Far_L0 l a) m (far5_3, i6_3) = some o2 ∧ Le w k_3) (fun far5_3 i6_3 k_3 => o2 = .go (far5_3, i6_3) ∧ Le w k_3) 0 0 w n5 ⟨ho6, (Le.refl _)⟩ ⟨Z, Z, Z, Z, trivial⟩ (fun w hw => hw.pick [1, 0] (by decide)) ?_ ?_
 ·skip
  rintro far5_3 i6_3 k_3 ⟨rfl, hle_3⟩
  refine WQ.then (sr ?_)
  refine wm Z ?_
  refine wa Z ?_
  refine nt (WC.ret ?_)
  obtain rfl := (eq_of_some hm4).symm
  refine WQ.ret1 Z Z (fun w hw => ?_)
  exact ⟨Z, Own.kgrow (fun _ x => x) hw⟩
 rintro far5_3 i6_3 k_3 m7 ⟨hI8, hle_3⟩
 obtain ⟨m9, s10, rfl, hm11, hn12⟩ := iter_step hI8; clear hI8; unfold roundelayref10_Far_L0 at hm11; simp only at hm11
 refine WC.seq (sr ?_)
 refine wm Z ?_
 refine wf fd49_1 Z ?_
 refine wl pl47 Z (Own.cell 1 Z Z) ?_
 refine wq Z (QV.lenS Try.underlying47 Z Z (h_l_body.le hle_3).lenMap) ?_
 refine wq Z (QV.lss Z Z Z Z) ?_
 refine nt ?_
 refine WC.cond Z (fun h13 => ?_) (fun h13 => ?_)
 ·skip
  have hm14 := br_t h13 hm11; clear hm11
  refine sk (WQ.then (WC.seq (WC.block (sr ?_))))
  refine wf fd49_1 Z ?_
  refine wl pl47 Z (Own.cell 1 Z Z) ?_
  refine wm Z ?_
  obtain ⟨c15, hm16⟩ := cs hm14; clear hm14
  obtain ⟨p17, hp18⟩ := (h_l_body.le hle_3).lenMap.ix (sz := 9) ln_len c15
  refine wq Z (QV.indexSlice sl47 Z Z Z Z hp18) ?_
  refine wq Z (QV.loadAgg ag59 Z Z Z (fun w hw => ((Own.karr 0 Z hk (h_l_body.le hle_3)) w hw).ele hp18 c15)) ?_
  refine WL.effect Z ?_
  obtain ⟨x19, hx20, hm21⟩ := bd_some hm16; clear hm16
  refine (EV.callR (X := Value × World) (R := []) (fun X => X.1) (fun X => []) (fun X => X.2) (fun X => Arr X.2 X.1 2 (x19.map Rf.cells)) hk (fun _ h => by cases h; decide) en74 (EvAll.cons Z Z EvAll.nil) (fun M w h1 h2 => have h := roundelayref2_Uses_w hx20  M w h1 h2; h) (fun X22 hF22 hle22 => ?_))
  refine wa Z ?_
  refine ns ?_
  refine wa Z ?_
  refine nt ?_
  obtain ⟨o23, ho24, hm25⟩ := bd_some hm21; clear hm21; obtain ⟨n26, ho27⟩ := lp_some ho24
  refine WC.bloop2 (H2 := [kn noM w.heap.size w X22.2, blk b1 [v_l_logs, v_l_body, v_l_outs] 49]) (τ := [(1, (true, _)), (2, (true, _)), (6, (true, _)), (7, (true, _))]) (fun (far5_4 : Int) (k8_4 : Int) => [(5, (true, .int .i64 far5_4)), (8, (true, .int .i64 k8_4))]) (fun far5_4 k8_4 => []) (fun far5_4 k8_4 m => iter (roundelayref10_Far_L2 a x19) m (far5_4, k8_4) = some o23) (fun far5_4 k8_4 => o23 = .go (far5_4, k8_4)) far5_3 0 n26 ho27 ⟨Z, Z, Z, Z, Z, Z, trivial⟩ (fun w hw => hw.pick [0, 1] (by decide)) ?_ ?_
  ·skip
   rintro far5_4 k8_4 rfl
   refine WQ.block (WQ.then (WC.region ?_))
   refine wm Z ?_
   obtain ⟨c28, hm29⟩ := cs hm25; clear hm25
   refine wq Z (QV.add Z Z Z Z c28) ?_
   refine wa Z ?_
   refine WL.nil ?_
   exact WQ.again3 far5_4 (i6_3 + 1) X22.2 m9 ⟨up_next hm29 hn12, (hle_3.trans hle22)⟩ (Nat.lt_succ_self _) ⟨Z, Z, Z, Z, trivial⟩ (fun w hw => hw.pick [0, 1] (by decide))
  rintro far5_4 k8_4 m30 hI31
  obtain ⟨m32, s33, rfl, hm34, hn35⟩ := iter_step hI31; clear hI31; unfold roundelayref10_Far_L2 at hm34; simp only at hm34
  refine WC.seq (sr ?_)
  refine wm Z ?_
  refine wm Z ?_
  refine wq Z (QV.lenS Try.underlying106 Z Z hF22.lenMap) ?_
  refine wq Z (QV.lss Z Z Z Z) ?_
  refine nt ?_
  refine WC.cond Z (fun h36 => ?_) (fun h36 => ?_)
  ·skip
   have hm37 := br_t h36 hm34; clear hm34
   refine sk (WQ.then (WC.seq (WC.block (sr ?_))))
   refine wm Z ?_
   refine wm Z ?_
   obtain ⟨c38, hm39⟩ := cs hm37; clear hm37
   obtain ⟨p40, hp41⟩ := hF22.lenMap.ix (sz := 2) ln_len c38
   refine wq Z (QV.indexSlice sl106 Z Z Z Z hp41) ?_
   refine wf fd57_0 Z ?_
   refine wl pl3 Z (fun w hw => CellsAt.one 0 (((Own.karr 0 Z hk hF22) w hw).ele hp41 c38) Z) ?_
   refine wm Z ?_
   refine wq Z (QV.eql Z Z Z Z) ?_
   refine wm Z ?_
   refine gp Z (fun hG => QV.move Z Z) ?_
   refine gp Z (fun hG => QV.move Z Z) ?_
   obtain ⟨c42, hm43⟩ := cs hm39; clear hm39
   obtain ⟨p44, hp45⟩ := hF22.lenMap.ixG (sz := 2) ln_len c42
   refine gp Z (fun hG => QV.indexSlice sl106 Z hG Z hG (hp45 hG)) ?_
   refine gp Z (fun hG => QV.fieldAddr fd57_1 Z hG) ?_
   refine gp Z (fun hG => QV.load pl3 Z hG (fun w hw => CellsAt.one 1 (((Own.karr 0 Z hk hF22) w hw).ele (hp45 hG) (c42 hG)) Z)) ?_
   refine gp Z (fun hG => QV.move Z Z) ?_
   refine gp Z (fun hG => QV.gtr Z hG Z hG) ?_
   refine wq Z (QV.pickAnd Z Z Z (fun h => h)) ?_
   refine nt ?_
   refine WC.cond Z (fun h46 => ?_) (fun h46 => ?_)
   ·skip
    have hm47 := br_t h46 hm43; clear hm43
    refine WC.region ?_
    refine wm Z ?_
    refine wm Z ?_
    obtain ⟨c48, hm49⟩ := cs hm47; clear hm47
    obtain ⟨p50, hp51⟩ := hF22.lenMap.ix (sz := 2) ln_len c48
    refine wq Z (QV.indexSlice sl106 Z Z Z Z hp51) ?_
    refine wf fd57_1 Z ?_
    refine wl pl3 Z (fun w hw => CellsAt.one 1 (((Own.karr 0 Z hk hF22) w hw).ele hp51 c48) Z) ?_
    refine wa Z ?_
    refine WL.nil (WQ.block (WQ.then (WC.region ?_)))
    refine wm Z ?_
    obtain ⟨c52, hm53⟩ := cs hm49; clear hm49
    refine wq Z (QV.add Z Z Z Z c52) ?_
    refine wa Z ?_
    refine WL.nil ?_
    exact WQ.again2 ((ele x19 k8_4).bk) (k8_4 + 1) m32 (up_next hm53 hn35) (Nat.lt_succ_self _) ⟨Z, Z, Z, Z, Z, Z, trivial⟩ (fun w hw => hw.pick [0, 1] (by decide))
   have hm54 := br_f h46 hm43; clear hm43
   refine sk (WQ.block (WQ.then (WC.region ?_)))
   refine wm Z ?_
   obtain ⟨c55, hm56⟩ := cs hm54; clear hm54
   refine wq Z (QV.add Z Z Z Z c55) ?_
   refine wa Z ?_
   refine WL.nil ?_
   exact WQ.again2 far5_4 (k8_4 + 1) m32 (up_next hm56 hn35) (Nat.lt_succ_self _) ⟨Z, Z, Z, Z, Z, Z, trivial⟩ (fun w hw => hw.pick [0, 1] (by decide))
  have hm57 := br_f h36 hm34; clear hm34
  refine WC.exit (te (te (WQ.block_exit ?_)))
  exact WQ.out2 far5_4 k8_4 (up_brk hm57 hn35) ⟨Z, Z, Z, Z, Z, Z, trivial⟩ (fun w hw => hw.pick [0, 1] (by decide))
 have hm58 := br_f h13 hm11; clear hm11
 refine WC.exit (te (te (WQ.block_exit ?_)))
 exact WQ.out3 far5_3 i6_3 k_3 ⟨up_brk hm58 hn12, hle_3⟩ ⟨Z, Z, Z, Z, trivial⟩ (fun w hw => hw.pick [0, 1] (by decide))

end Go.Proofs.Ytaimbkndebaaiab
end

section
namespace Go.Proofs.Ytaimbkndebaaiab
open Go.Rd
set_option linter.unusedVariables false
open TNum TLoop TKern TKeep TOrd TCpt TDep TSched1 TEmit TCheck TRDep TR10
namespace TR10b
theorem sl28 : SliceT Try.prog 28 2 1 := ⟨Try.underlying28, by kernel_rfl⟩
theorem sz2 : SizeT Try.prog 2 1 := by unfold SizeT; kernel_rfl
theorem sz_28 : SliceZ Try.prog 28 2 1 [.int .i64 0] := ⟨Try.underlying28, by kernel_rfl⟩
theorem ve28 : VecT Try.prog 28 2 1 8 := ⟨Try.underlying28, by kernel_rfl, by decide⟩
theorem ze2 : ZeroT Try.prog 2 [.int .i64 0] := by unfold ZeroT; kernel_rfl
end TR10b
open TR10b
set_option maxRecDepth 8000 in
theorem roundelayref10_Enter_w {v_l_logs : Value} {v_l_body : Value} {v_l_outs : Value} {v_k__ops : Value} {v_order : Value} {v_before : Value} {l : Lp} {t : Tgt} {k_ : Krn} {order : List Int} {before : List (List Int)} {r : List Int} {K0 : World} (hm : roundelayref10_Enter_m l t k_ order before = some r) (h_l_logs : Arr K0 v_l_logs 1 (l.logs.map icell)) (h_l_body : Arr K0 v_l_body 9 (l.body.map Stm.cells)) (h_l_outs : Arr K0 v_l_outs 1 (l.outs.map icell)) (h_k__ops : Arr K0 v_k__ops 10 (k_.ops.map Opr.cells)) (h_order : Arr K0 v_order 1 (order.map icell)) (h_before : RowsA K0 v_before before) (M : Nat → Prop) (w : World) (hk : Base M K0 w) (hw0 : Own M w [] w) : Calls Try.prog 87 #[.agg #[v_l_logs, v_l_body, v_l_outs], .agg #[.int .i64 t.u0, .int .i64 t.u1, .int .i64 t.u2, .int .i64 t.w0, .int .i64 t.w1, .int .i64 t.w2, .int .i64 t.regs], .agg #[.int .i64 k_.pace, .int .i64 k_.stages, v_k__ops], v_order, v_before] w (fun e w' => ∃ X : Value × World, e = .returned (X.1) ∧ Own M w (kn M w.heap.size K0 X.2 :: []) w' ∧ Arr X.2 X.1 1 (r.map icell)) := by
 unfold roundelayref10_Enter_m at hm
 refine calls_of_WC (n := 61) (args := [.agg #[v_l_logs, v_l_body, v_l_outs], .agg #[.int .i64 t.u0, .int .i64 t.u1, .int .i64 t.u2, .int .i64 t.w0, .int .i64 t.w1, .int .i64 t.w2, .int .i64 t.regs], .agg #[.int .i64 k_.pace, .int .i64 k_.stages, v_k__ops], v_order, v_before]) Try.func87 Z Z (Nat.le_of_ble_eq_true Z) ?_ (Own.startK hk hw0)
 refine sr ?_
 refine WL.effect Z ?_
 refine (EV.boxAgg (by decide) Z Z (fun b1 => ?_))
 refine WL.effect Z ?_
 refine (EV.boxAgg (by decide) Z Z (fun b2 => ?_))
 refine WL.effect Z ?_
 refine (EV.boxAgg (by decide) Z Z (fun b3 => ?_))
 refine wa Z ?_
 refine ns ?_
 refine wq Z (QV.loadAgg ag49 Z Z Z (Own.cellsBlk 2 Z)) ?_
 refine wq Z (QV.loadAgg ag24 Z Z Z (Own.cellsBlk 1 Z)) ?_
 refine wq Z (QV.loadAgg ag27 Z Z Z (Own.cellsBlk 0 Z)) ?_
 refine wm Z ?_
 refine WL.effect Z ?_
 obtain ⟨x4, hx5, hm6⟩ := bd_some hm; clear hm
 refine EV.of (C' := Own M w [kn M w.heap.size K0 K0, blk b3 [.int .i64 k_.pace, .int .i64 k_.stages, v_k__ops] 27, blk b2 t.cells 24, blk b1 [v_l_logs, v_l_body, v_l_outs] 49]) (fun w hw => hw.pick [3, 0, 1, 2] (by decide)) ?_
 refine (EV.callR (X := Value × World) (R := []) (fun X => .tuple #[X.1, .bool x4.2]) (fun X => []) (fun X => X.2) (fun X => Arr X.2 X.1 3 (x4.1.map Off.cells)) hk (fun _ h => by cases h; decide) en42 (EvAll.cons Z Z (EvAll.cons Z Z (EvAll.cons Z Z (EvAll.cons Z Z EvAll.nil)))) (fun M w h1 h2 => have h := roundelayref10_Layout_w hx5 h_l_logs h_l_body h_l_outs h_k__ops h_order M w h1 h2; h) (fun X7 hF7 hle7 => ?_))
 refine wm Z ?_
 refine wq Z (QV.extract Z Z Z) ?_
 refine wq Z (QV.extract Z Z Z) ?_
 refine wa Z ?_
 refine wa Z ?_
 refine ns ?_
 refine wf fd24_2 Z ?_
 refine wl pl3 Z (Own.cell 2 Z Z) ?_
 refine WL.effect Z ?_
 obtain ⟨c8, hm9⟩ := cs hm6; clear hm6
 obtain ⟨c10, hm11⟩ := cs hm9; clear hm9
 refine (EV.makeSlice (enc := icell) (0 : Int) (by decide) ve28 ze2 Z Z c8 Z c10 (fun u12 hu13 => ?_))
 refine wa Z ?_
 refine nt (WC.seq (sr ?_))
 refine wa Z ?_
 refine nt ?_
 obtain ⟨o15, ho16, hm17⟩ := bd_some hm11; clear hm11; obtain ⟨n18, ho19⟩ := lp_some ho16
 refine WC.bloop2 (H2 := [kn M w.heap.size K0 X7.2, blk b3 [.int .i64 k_.pace, .int .i64 k_.stages, v_k__ops] 27, blk b2 t.cells 24, blk b1 [v_l_logs, v_l_body, v_l_outs] 49]) (τ := [(4, (true, _)), (5, (true, _)), (6, (true, _)), (11, (true, _)), (13, (true, _))]) (fun (v14_3 : List Int) (s14_3 : Int) => [(14, (true, .int .i64 s14_3))]) (fun v14_3 s14_3 => [vec u12 2 1 (List.map icell v14_3)]) (fun v14_3 s14_3 m => iter (roundelayref10_Enter_L0 l t before x4) m (v14_3, s14_3) = some o15 ∧ SliceLen u12 v14_3.length) (fun v14_3 s14_3 => o15 = .go (v14_3, s14_3) ∧ SliceLen u12 v14_3.length) (List.replicate t.regs.toNat (0 : Int)) 0 n18 ⟨ho19, hu13⟩ ⟨Z, Z, Z, Z, Z, Z, trivial⟩ (fun w hw => hw.pick [0, 1, 2, 3, 4] (by decide)) ?_ ?_
 ·skip
  rintro v14_3 s14_3 ⟨rfl, hlv14_3⟩
  refine WQ.then (sr ?_)
  refine wm Z ?_
  refine wa Z ?_
  refine nt (WC.ret ?_)
  obtain rfl := (eq_of_some hm17).symm
  refine WK.of (C' := Own M w [kn M w.heap.size K0 X7.2, vec u12 2 1 (List.map icell v14_3), blk b3 [.int .i64 k_.pace, .int .i64 k_.stages, v_k__ops] 27, blk b2 t.cells 24, blk b1 [v_l_logs, v_l_body, v_l_outs] 49]) (fun w hw => hw.pick [1, 0, 2, 3, 4] (by decide)) ?_
  refine WK.freeze hk (fun k20 hle20 hr20 => ?_)
  have hA20 := vec_arr hr20
  refine WQ.ret1 Z Z (fun w hw => ?_)
  exact ⟨(u12, k20), Z, hw.pick [0] (by decide), hA20⟩
 rintro v14_3 s14_3 m21 ⟨hI22, hlv14_3⟩
 obtain ⟨m23, s24, rfl, hm25, hn26⟩ := iter_step hI22; clear hI22; unfold roundelayref10_Enter_L0 at hm25; simp only at hm25
 refine WC.seq (sr ?_)
 refine wm Z ?_
 refine wm Z ?_
 refine wq Z (QV.lenS Try.underlying81 Z Z hF7.lenMap) ?_
 refine wq Z (QV.lss Z Z Z Z) ?_
 refine nt ?_
 refine WC.cond Z (fun h27 => ?_) (fun h27 => ?_)
 ·skip
  have hm28 := br_t h27 hm25; clear hm25
  refine sk (WQ.then (WC.seq (WC.block (sr ?_))))
  refine wa Z ?_
  refine nt ?_
  obtain ⟨o29, ho30, hm31⟩ := bd_some hm28; clear hm28; obtain ⟨n32, ho33⟩ := lp_some ho30
  refine WC.bloop2 (H2 := [kn M w.heap.size K0 X7.2, blk b3 [.int .i64 k_.pace, .int .i64 k_.stages, v_k__ops] 27, blk b2 t.cells 24, blk b1 [v_l_logs, v_l_body, v_l_outs] 49]) (τ := [(4, (true, _)), (5, (true, _)), (6, (true, _)), (11, (true, _)), (13, (true, _)), (14, (true, _))]) (fun (v14_4 : List Int) (q15_4 : Int) => [(15, (true, .int .i64 q15_4))]) (fun v14_4 q15_4 => [vec u12 2 1 (List.map icell v14_4)]) (fun v14_4 q15_4 m => iter (roundelayref10_Enter_L2 l t before x4 s14_3) m (v14_4, q15_4) = some o29 ∧ SliceLen u12 v14_4.length) (fun v14_4 q15_4 => o29 = .go (v14_4, q15_4) ∧ SliceLen u12 v14_4.length) v14_3 1 n32 ⟨ho33, hlv14_3⟩ ⟨Z, Z, Z, Z, Z, Z, Z, trivial⟩ (fun w hw => hw.pick [0, 1, 2, 3, 4] (by decide)) ?_ ?_
  ·skip
   rintro v14_4 q15_4 ⟨rfl, hlv14_4⟩
   refine WQ.block (WQ.then (WC.region ?_))
   refine wm Z ?_
   obtain ⟨c34, hm35⟩ := cs hm31; clear hm31
   refine wq Z (QV.add Z Z Z Z c34) ?_
   refine wa Z ?_
   refine WL.nil ?_
   exact WQ.again2 v14_4 (s14_3 + 1) m23 ⟨up_next hm35 hn26, hlv14_4⟩ (Nat.lt_succ_self _) ⟨Z, Z, Z, Z, Z, Z, trivial⟩ (fun w hw => hw.pick [0, 1, 2, 3, 4] (by decide))
  rintro v14_4 q15_4 m36 ⟨hI37, hlv14_4⟩
  obtain ⟨m38, s39, rfl, hm40, hn41⟩ := iter_step hI37; clear hI37; unfold roundelayref10_Enter_L2 at hm40; simp only at hm40
  refine WC.seq (sr ?_)
  refine wm Z ?_
  refine wq Z (QV.loadAgg ag49 Z Z Z (Own.cellsBlk 4 Z)) ?_
  refine wm Z ?_
  obtain ⟨x42, hx43, hm44⟩ := bd_some hm40; clear hm40
  refine wq Z (QV.call en84 (EvAll.cons Z Z (EvAll.cons Z Z EvAll.nil)) (fun w hw => have h := roundelayref10_Far_w w hx43 ((Own.karr 1 Z hk (h_l_logs.le hle7)) w hw) ((Own.karr 1 Z hk (h_l_body.le hle7)) w hw) ((Own.karr 1 Z hk (h_l_outs.le hle7)) w hw); h)) ?_
  refine wq Z (QV.leq Z Z Z Z) ?_
  refine nt ?_
  refine WC.cond Z (fun h45 => ?_) (fun h45 => ?_)
  ·skip
   have hm46 := br_t h45 hm44; clear hm44
   refine sk (WQ.then (WC.seq (WC.block ?_)))
   refine WC.dr (m := 21) (S := Own M w [kn M w.heap.size K0 X7.2, vec u12 2 1 (List.map icell v14_4), blk b3 [.int .i64 k_.pace, .int .i64 k_.stages, v_k__ops] 27, blk b2 t.cells 24, blk b1 [v_l_logs, v_l_body, v_l_outs] 49]) (by kernel_rfl) (by kernel_rfl) (fun w hw => hw.pick [1, 0, 2, 3, 4] (by decide)) ?_
   refine wz 0 Z Z (QV.move Z Z) ?_
   refine wz 1 Z Z (QV.move Z Z) ?_
   refine wz 2 Z Z (QV.move Z Z) ?_
   obtain ⟨c47, hm48⟩ := cs hm46; clear hm46
   obtain ⟨p49, hp50⟩ := hF7.lenMap.ix (sz := 3) ln_len c47
   refine wz 3 Z Z (QV.indexSlice sl81 Z Z Z Z hp50) ?_
   refine wz 4 Z Z (QV.fieldAddr fd128_2 Z Z) ?_
   refine wz 5 Z Z (QV.load pl3 Z Z (fun w hw => CellsAt.one 2 (((Own.karr 0 Z hk hF7) w hw).ele hp50 c47) Z)) ?_
   refine wz 6 Z Z (QV.move Z Z) ?_
   obtain ⟨c51, hm52⟩ := cs hm48; clear hm48
   refine wz 7 Z Z (QV.sub Z Z Z Z c51) ?_
   refine wz 8 Z Z (QV.fieldAddr fd24_2 Z Z) ?_
   refine wz 9 Z Z (QV.load pl3 Z Z (Own.cell 3 Z Z)) ?_
   obtain ⟨x53, hx54, hm55⟩ := bd_some hm52; clear hm52
   refine wz 10 Z Z (QV.call en75 (EvAll.cons Z Z (EvAll.cons Z Z EvAll.nil)) (fun w hw => have h := roundelayref1_Rest_w w hx54 ; h)) ?_
   refine wz 11 Z Z (QV.move Z Z) ?_
   refine wz 12 Z Z (QV.move Z Z) ?_
   obtain ⟨c56, hm57⟩ := cs hm55; clear hm55
   obtain ⟨p58, u60, hp59, hc61, hA62⟩ := (h_before.le hle7).ix c56
   refine wz 13 Z Z (QV.indexSlice sl29 Z Z Z Z hp59) ?_
   refine wz 14 Z Z (QV.load pl28 Z Z (fun w hw => CellsAt.one 0 ((Own.kcells 0 Z hk hc61) w hw) Z)) ?_
   refine wz 15 Z Z (QV.move Z Z) ?_
   obtain ⟨c63, hm64⟩ := cs hm57; clear hm57
   refine wz 16 Z Z (QV.sub Z Z Z Z c63) ?_
   obtain ⟨c65, hm66⟩ := cs hm64; clear hm64
   obtain ⟨p67, hp68⟩ := hA62.lenMap.ix (sz := 1) ln_len c65
   refine wz 17 Z Z (QV.indexSlice sl28 Z Z Z Z hp68) ?_
   refine wz 18 Z Z (QV.load pl2 Z Z (fun w hw => CellsAt.one 0 (((Own.karr 0 Z hk hA62) w hw).ele hp68 c65) Z)) ?_
   obtain ⟨c69, hm70⟩ := cs hm66; clear hm66
   obtain ⟨p71, hp72⟩ := hlv14_4.ix (sz := 1) ln_len c69
   refine wz 19 Z Z (QV.indexSlice sl28 Z Z Z Z hp72) ?_
   refine WD.l 20 Z (by kernel_rfl) Z ?_
   refine (EV.storeV 0 (ele (ele before s14_3) (q15_4 - 1)) icell_eq Z Z Z Z Z hp72 Z Z sz2 ?_)
   have hl73 : SliceLen u12 (upd v14_4 x53 (ele (ele before s14_3) (q15_4 - 1))).length := slen_upd hlv14_4
   refine WQ.block (WQ.then (WC.region ?_))
   refine wm Z ?_
   obtain ⟨c74, hm75⟩ := cs hm70; clear hm70
   refine wq Z (QV.add Z Z Z Z c74) ?_
   refine wa Z ?_
   refine WL.nil ?_
   exact WQ.again2 (upd v14_4 x53 (ele (ele before s14_3) (q15_4 - 1))) (q15_4 + 1) m38 ⟨up_next hm75 hn41, hl73⟩ (Nat.lt_succ_self _) ⟨Z, Z, Z, Z, Z, Z, Z, trivial⟩ (fun w hw => hw.pick [0, 1, 2, 3, 4] (by decide))
  have hm76 := br_f h45 hm44; clear hm44
  refine WC.exit (te (te (WQ.block_exit ?_)))
  exact WQ.out2 v14_4 q15_4 ⟨up_brk hm76 hn41, hlv14_4⟩ ⟨Z, Z, Z, Z, Z, Z, Z, trivial⟩ (fun w hw => hw.pick [0, 1, 2, 3, 4] (by decide))
 have hm77 := br_f h27 hm25; clear hm25
 refine WC.exit (te (te (WQ.block_exit ?_)))
 exact WQ.out2 v14_3 s14_3 ⟨up_brk hm77 hn26, hlv14_3⟩ ⟨Z, Z, Z, Z, Z, Z, trivial⟩ (fun w hw => hw.pick [0, 1, 2, 3, 4] (by decide))

set_option maxRecDepth 8000 in
theorem roundelayref10_Leave_w {v_l_logs : Value} {v_l_body : Value} {v_l_outs : Value} {v_k__ops : Value} {v_order : Value} {v_before : Value} {v_regs : Value} {l : Lp} {t : Tgt} {k_ : Krn} {order : List Int} {before : List (List Int)} {regs : List Int} {turns : Int} {r : List Int} {K0 : World} (hm : roundelayref10_Leave_m l t k_ order before regs turns = some r) (h_l_logs : Arr K0 v_l_logs 1 (l.logs.map icell)) (h_l_body : Arr K0 v_l_body 9 (l.body.map Stm.cells)) (h_l_outs : Arr K0 v_l_outs 1 (l.outs.map icell)) (h_k__ops : Arr K0 v_k__ops 10 (k_.ops.map Opr.cells)) (h_order : Arr K0 v_order 1 (order.map icell)) (h_before : RowsA K0 v_before before) (h_regs : Arr K0 v_regs 1 (regs.map icell)) (M : Nat → Prop) (w : World) (hk : Base M K0 w) (hw0 : Own M w [] w) : Calls Try.prog 88 #[.agg #[v_l_logs, v_l_body, v_l_outs], .agg #[.int .i64 t.u0, .int .i64 t.u1, .int .i64 t.u2, .int .i64 t.w0, .int .i64 t.w1, .int .i64 t.w2, .int .i64 t.regs], .agg #[.int .i64 k_.pace, .int .i64 k_.stages, v_k__ops], v_order, v_before, v_regs, .int .i64 turns] w (fun e w' => ∃ X : Value × World, e = .returned (X.1) ∧ Own M w (kn M w.heap.size K0 X.2 :: []) w' ∧ Arr X.2 X.1 1 (r.map icell)) := by
 unfold roundelayref10_Leave_m at hm
 refine calls_of_WC (n := 70) (args := [.agg #[v_l_logs, v_l_body, v_l_outs], .agg #[.int .i64 t.u0, .int .i64 t.u1, .int .i64 t.u2, .int .i64 t.w0, .int .i64 t.w1, .int .i64 t.w2, .int .i64 t.regs], .agg #[.int .i64 k_.pace, .int .i64 k_.stages, v_k__ops], v_order, v_before, v_regs, .int .i64 turns]) Try.func88 Z Z (Nat.le_of_ble_eq_true Z) ?_ (Own.startK hk hw0)
 refine sr ?_
 refine WL.effect Z ?_
 refine (EV.boxAgg (by decide) Z Z (fun b1 => ?_))
 refine WL.effect Z ?_
 refine (EV.boxAgg (by decide) Z Z (fun b2 => ?_))
 refine WL.effect Z ?_
 refine (EV.boxAgg (by decide) Z Z (fun b3 => ?_))
 refine wa Z ?_
 refine ns ?_
 refine wq Z (QV.loadAgg ag49 Z Z Z (Own.cellsBlk 2 Z)) ?_
 refine wq Z (QV.loadAgg ag24 Z Z Z (Own.cellsBlk 1 Z)) ?_
 refine wq Z (QV.loadAgg ag27 Z Z Z (Own.cellsBlk 0 Z)) ?_
 refine wm Z ?_
 refine WL.effect Z ?_
 obtain ⟨x4, hx5, hm6⟩ := bd_some hm; clear hm
 refine EV.of (C' := Own M w [kn M w.heap.size K0 K0, blk b3 [.int .i64 k_.pace, .int .i64 k_.stages, v_k__ops] 27, blk b2 t.cells 24, blk b1 [v_l_logs, v_l_body, v_l_outs] 49]) (fun w hw => hw.pick [3, 0, 1, 2] (by decide)) ?_
 refine (EV.callR (X := Value × World) (R := []) (fun X => .tuple #[X.1, .bool x4.2]) (fun X => []) (fun X => X.2) (fun X => Arr X.2 X.1 3 (x4.1.map Off.cells)) hk (fun _ h => by cases h; decide) en42 (EvAll.cons Z Z (EvAll.cons Z Z (EvAll.cons Z Z (EvAll.cons Z Z EvAll.nil)))) (fun M w h1 h2 => have h := roundelayref10_Layout_w hx5 h_l_logs h_l_body h_l_outs h_k__ops h_order M w h1 h2; h) (fun X7 hF7 hle7 => ?_))
 refine wm Z ?_
 refine wq Z (QV.extract Z Z Z) ?_
 refine wq Z (QV.extract Z Z Z) ?_
 refine wa Z ?_
 refine wa Z ?_
 refine ns ?_
 refine wa Z ?_
 refine nt (WC.seq (sr ?_))
 refine wa Z ?_
 refine nt ?_
 refine WK.of (fun w hw => hw.vecNil (E := 2) (sz := 1) (enc := icell)) ?_
 obtain ⟨o9, ho10, hm11⟩ := bd_some hm6; clear hm6; obtain ⟨n12, ho13⟩ := lp_some ho10
 refine WC.bloop3 (H2 := [kn M w.heap.size K0 X7.2, blk b3 [.int .i64 k_.pace, .int .i64 k_.stages, v_k__ops] 27, blk b2 t.cells 24, blk b1 [v_l_logs, v_l_body, v_l_outs] 49]) (τ := [(4, (true, _)), (5, (true, _)), (6, (true, _)), (7, (true, _)), (8, (true, _)), (15, (true, _))]) (fun (v8_1 : List Int) (i18_1 : Int) (uv8_1 : Value) => [(17, (true, uv8_1)), (18, (true, .int .i64 i18_1))]) (fun v8_1 i18_1 uv8_1 => [vec uv8_1 2 1 (List.map icell v8_1)]) (fun v8_1 i18_1 uv8_1 m => iter (roundelayref10_Leave_L0 l t before regs turns x4) m (v8_1, i18_1) = some o9 ∧ SliceLen uv8_1 v8_1.length) (fun v8_1 i18_1 uv8_1 => o9 = .go (v8_1, i18_1) ∧ SliceLen uv8_1 v8_1.length) [] 0 (.slice none 0 0) n12 ⟨ho13, SliceLen.nil⟩ ⟨Z, Z, Z, Z, Z, Z, Z, Z, trivial⟩ (fun w hw => hw.pick [0, 1, 2, 3, 4] (by decide)) ?_ ?_
 ·skip
  rintro v8_1 i18_1 uv8_1 ⟨rfl, hlv8_1⟩
  refine WQ.then (sr ?_)
  refine wm Z ?_
  refine wa Z ?_
  refine nt (WC.ret ?_)
  obtain rfl := (eq_of_some hm11).symm
  refine WK.of (C' := Own M w [kn M w.heap.size K0 X7.2, vec uv8_1 2 1 (List.map icell v8_1), blk b3 [.int .i64 k_.pace, .int .i64 k_.stages, v_k__ops] 27, blk b2 t.cells 24, blk b1 [v_l_logs, v_l_body, v_l_outs] 49]) (fun w hw => hw.pick [1, 0, 2, 3, 4] (by decide)) ?_
  refine WK.freeze hk (fun k14 hle14 hr14 => ?_)
  have hA14 := vec_arr hr14
  refine WQ.ret1 Z Z (fun w hw => ?_)
  exact ⟨(uv8_1, k14), Z, hw.pick [0] (by decide), hA14⟩
 rintro v8_1 i18_1 uv8_1 m15 ⟨hI16, hlv8_1⟩
 obtain ⟨m17, s18, rfl, hm19, hn20⟩ := iter_step hI16; clear hI16; unfold roundelayref10_Leave_L0 at hm19; simp only at hm19
 refine WC.seq (sr ?_)
 refine wm Z ?_
 refine wf fd49_2 Z ?_
 refine wl pl30 Z (Own.cell 4 Z Z) ?_
 refine wq Z (QV.lenS Try.underlying30 Z Z (h_l_outs.le hle7).lenMap) ?_
 refine wq Z (QV.lss Z Z Z Z) ?_
 refine nt ?_
 refine WC.cond Z (fun h21 => ?_) (fun h21 => ?_)
 ·skip
  have hm22 := br_t h21 hm19; clear hm19
  refine sk (WQ.then (WC.seq (WC.block (sr ?_))))
  refine wm Z ?_
  refine wf fd49_2 Z ?_
  refine wl pl30 Z (Own.cell 4 Z Z) ?_
  refine wm Z ?_
  obtain ⟨c23, hm24⟩ := cs hm22; clear hm22
  obtain ⟨p25, hp26⟩ := (h_l_outs.le hle7).lenMap.ix (sz := 1) ln_len c23
  refine wq Z (QV.indexSlice sl30 Z Z Z Z hp26) ?_
  refine wl pl3 Z (fun w hw => CellsAt.one 0 (((Own.karr 1 Z hk (h_l_outs.le hle7)) w hw).ele hp26 c23) Z) ?_
  obtain ⟨c27, hm28⟩ := cs hm24; clear hm24
  obtain ⟨p29, u31, hp30, hc32, hA33⟩ := (h_before.le hle7).ix c27
  refine wq Z (QV.indexSlice sl29 Z Z Z Z hp30) ?_
  refine wl pl28 Z (fun w hw => CellsAt.one 0 ((Own.kcells 1 Z hk hc32) w hw) Z) ?_
  obtain ⟨c34, hm35⟩ := cs hm28; clear hm28
  obtain ⟨p36, hp37⟩ := hA33.lenMap.ix (sz := 1) ln_len c34
  refine wq Z (QV.indexSlice sl28 Z Z Z Z hp37) ?_
  refine wl pl2 Z (fun w hw => CellsAt.one 0 (((Own.karr 1 Z hk hA33) w hw).ele hp37 c34) Z) ?_
  refine wa Z ?_
  refine nt (WC.seq (sr ?_))
  refine wm Z ?_
  refine wq Z (QV.gtr Z Z Z Z) ?_
  refine nt ?_
  refine WC.cond Z (fun h38 => ?_) (fun h38 => ?_)
  ·skip
   have hm39 := br_t h38 hm35; clear hm35
   refine WC.dr (m := 19) (S := Own M w [kn M w.heap.size K0 X7.2, vec uv8_1 2 1 (List.map icell v8_1), blk b3 [.int .i64 k_.pace, .int .i64 k_.stages, v_k__ops] 27, blk b2 t.cells 24, blk b1 [v_l_logs, v_l_body, v_l_outs] 49]) (by kernel_rfl) (by kernel_rfl) (fun w hw => hw.pick [1, 0, 2, 3, 4] (by decide)) ?_
   refine wz 0 Z Z (QV.move Z Z) ?_
   refine wz 1 Z Z (QV.move Z Z) ?_
   refine wz 2 Z Z (QV.fieldAddr fd49_2 Z Z) ?_
   refine wz 3 Z Z (QV.load pl30 Z Z (Own.cell 4 Z Z)) ?_
   refine wz 4 Z Z (QV.move Z Z) ?_
   obtain ⟨c40, hm41⟩ := cs hm39; clear hm39
   obtain ⟨p42, hp43⟩ := (h_l_outs.le hle7).lenMap.ix (sz := 1) ln_len c40
   refine wz 5 Z Z (QV.indexSlice sl30 Z Z Z Z hp43) ?_
   refine wz 6 Z Z (QV.load pl3 Z Z (fun w hw => CellsAt.one 0 (((Own.karr 0 Z hk (h_l_outs.le hle7)) w hw).ele hp43 c40) Z)) ?_
   obtain ⟨c44, hm45⟩ := cs hm41; clear hm41
   obtain ⟨p46, hp47⟩ := hF7.lenMap.ix (sz := 3) ln_len c44
   refine wz 7 Z Z (QV.indexSlice sl81 Z Z Z Z hp47) ?_
   refine wz 8 Z Z (QV.fieldAddr fd128_2 Z Z) ?_
   refine wz 9 Z Z (QV.load pl3 Z Z (fun w hw => CellsAt.one 2 (((Own.karr 0 Z hk hF7) w hw).ele hp47 c44) Z)) ?_
   refine wz 10 Z Z (QV.move Z Z) ?_
   obtain ⟨c48, hm49⟩ := cs hm45; clear hm45
   refine wz 11 Z Z (QV.add Z Z Z Z c48) ?_
   obtain ⟨c50, hm51⟩ := cs hm49; clear hm49
   refine wz 12 Z Z (QV.sub Z Z Z Z c50) ?_
   refine wz 13 Z Z (QV.fieldAddr fd24_2 Z Z) ?_
   refine wz 14 Z Z (QV.load pl3 Z Z (Own.cell 3 Z Z)) ?_
   obtain ⟨x52, hx53, hm54⟩ := bd_some hm51; clear hm51
   refine wz 15 Z Z (QV.call en75 (EvAll.cons Z Z (EvAll.cons Z Z EvAll.nil)) (fun w hw => have h := roundelayref1_Rest_w w hx53 ; h)) ?_
   obtain ⟨c55, hm56⟩ := cs hm54; clear hm54
   obtain ⟨p57, hp58⟩ := (h_regs.le hle7).lenMap.ix (sz := 1) ln_len c55
   refine wz 16 Z Z (QV.indexSlice sl28 Z Z Z Z hp58) ?_
   refine wz 17 Z Z (QV.load pl2 Z Z (fun w hw => CellsAt.one 0 (((Own.karr 0 Z hk (h_regs.le hle7)) w hw).ele hp58 c55) Z)) ?_
   refine wz 18 Z Z (QV.assign Z Z) ?_
   refine WD.e (by kernel_rfl) ?_
   refine WQ.then (WC.region ?_)
   refine wm Z ?_
   refine wm Z ?_
   refine WL.effect Z ?_
   refine (EV.buildSlice (by decide) sz_28 (by decide) (by decide) (ps := [(0, .tmp 66)]) (cells := [.int .i64 (ele regs x52)]) (EvAll.cons Z Z EvAll.nil) (by kernel_rfl) (fun b59 => ?_))
   refine WL.effect Z ?_
   obtain ⟨c60, hm61⟩ := cs hm56; clear hm56
   refine (EV.appendL (enc := icell) (xs := v8_1) (ys := [(ele regs x52)]) ((v8_1 ++ [(ele regs x52)])) 1 (by decide) ve28 Z Z Z Z Z (Own.blkArr 0 (rows := [(ele regs x52)].map icell) Z Z (rows_len icell_len)) icell_len (icell_one _) Z c60.1 c60.2 (fun u62 hu63 => ?_))
   refine wa Z ?_
   refine WL.nil (WQ.block (WQ.then (WC.region ?_)))
   refine wm Z ?_
   obtain ⟨c64, hm65⟩ := cs hm61; clear hm61
   refine wq Z (QV.add Z Z Z Z c64) ?_
   refine wa Z ?_
   refine WL.nil ?_
   exact WQ.again3 (v8_1 ++ [(ele regs x52)]) (i18_1 + 1) u62 m17 ⟨up_next hm65 hn20, hu63⟩ (Nat.lt_succ_self _) ⟨Z, Z, Z, Z, Z, Z, Z, Z, trivial⟩ (fun w hw => hw.pick [1, 2, 3, 4, 5] (by decide))
  have hm66 := br_f h38 hm35; clear hm35
  refine sk (WQ.then (WC.region ?_))
  refine wm Z ?_
  refine wm Z ?_
  refine WL.effect Z ?_
  refine (EV.buildSlice (by decide) sz_28 (by decide) (by decide) (ps := [(0, .tmp 66)]) (cells := [.int .i64 (ele (ele before (ele l.outs i18_1)) 0)]) (EvAll.cons Z Z EvAll.nil) (by kernel_rfl) (fun b67 => ?_))
  refine WL.effect Z ?_
  obtain ⟨c68, hm69⟩ := cs hm66; clear hm66
  refine (EV.appendL (enc := icell) (xs := v8_1) (ys := [(ele (ele before (ele l.outs i18_1)) 0)]) ((v8_1 ++ [(ele (ele before (ele l.outs i18_1)) 0)])) 1 (by decide) ve28 Z Z Z Z Z (Own.blkArr 0 (rows := [(ele (ele before (ele l.outs i18_1)) 0)].map icell) Z Z (rows_len icell_len)) icell_len (icell_one _) Z c68.1 c68.2 (fun u70 hu71 => ?_))
  refine wa Z ?_
  refine WL.nil (WQ.block (WQ.then (WC.region ?_)))
  refine wm Z ?_
  obtain ⟨c72, hm73⟩ := cs hm69; clear hm69
  refine wq Z (QV.add Z Z Z Z c72) ?_
  refine wa Z ?_
  refine WL.nil ?_
  exact WQ.again3 (v8_1 ++ [(ele (ele before (ele l.outs i18_1)) 0)]) (i18_1 + 1) u70 m17 ⟨up_next hm73 hn20, hu71⟩ (Nat.lt_succ_self _) ⟨Z, Z, Z, Z, Z, Z, Z, Z, trivial⟩ (fun w hw => hw.pick [1, 2, 3, 4, 5] (by decide))
 have hm74 := br_f h21 hm19; clear hm19
 refine WC.exit (te (te (WQ.block_exit ?_)))
 exact WQ.out3 v8_1 i18_1 uv8_1 ⟨up_brk hm74 hn20, hlv8_1⟩ ⟨Z, Z, Z, Z, Z, Z, Z, Z, trivial⟩ (fun w hw => hw.pick [0, 1, 2, 3, 4] (by decide))
end Go.Proofs.Ytaimbkndebaaiab
end

section
namespace Go.Proofs.Ytaimbkndebaaiab
open Go.Rd
set_option linter.unusedVariables false
open TNum TLoop TKern TKeep TOrd TCpt TDep TSched1 TEmit TCheck TRDep TR10 TR10b
namespace TClone
end TClone
open TClone
end Go.Proofs.Ytaimbkndebaaiab
end

section
namespace Go.Proofs.Ytaimbkndebaaiab
open Go.Rd
set_option linter.unusedVariables false
open TNum TLoop TKern TKeep TOrd TCpt TDep TSched1 TEmit TCheck TRDep TR10 TR10b TClone
namespace TNbr
end TNbr
open TNbr
set_option maxRecDepth 8000 in
theorem roundelayref3_Numbers_w {v_a : Value} {v_b : Value} {a : List Int} {b : List Int} {r : Bool} (w : World) (hm : roundelayref3_Numbers_m a b = some r) (h_a : Arr w v_a 1 (a.map icell)) (h_b : Arr w v_b 1 (b.map icell)) : Calls Try.prog 21 #[v_a, v_b] w (fun e w' => e = .returned (.bool r) ∧ Grow w w') := by
 unfold roundelayref3_Numbers_m at hm
 have hk := Base.rfl (w := w)
 refine calls_of_WC (n := 26) (args := [v_a, v_b]) Try.func21 Z Z (Nat.le_of_ble_eq_true Z) ?_ (Own.startK hk (Own.start w))
 refine sr ?_
 refine wa Z ?_
 refine nt (WC.seq (sr ?_))
 refine wm Z ?_
 refine wq Z (QV.lenS Try.underlying28 Z Z h_a.lenMap) ?_
 refine wm Z ?_
 refine wq Z (QV.lenS Try.underlying28 Z Z h_b.lenMap) ?_
 refine wq Z (QV.neq Z Z Z Z) ?_
 refine nt ?_
 refine WC.cond Z (fun h1 => ?_) (fun h1 => ?_)
 ·skip
  have hm2 := br_t h1 hm; clear hm
  refine sr ?_
  refine wa Z ?_
  refine nt (WC.ret (tr ?_))
  obtain rfl := (eq_of_some hm2).symm
  refine WQ.ret1 Z Z (fun w hw => ?_)
  exact ⟨Z, Own.kgrow (fun _ x => x) hw⟩
 have hm3 := br_f h1 hm; clear hm
 refine sk (WQ.then (WC.seq (sr ?_)))
 refine wa Z ?_
 refine nt ?_
 obtain ⟨o4, ho5, hm6⟩ := bd_some hm3; clear hm3; obtain ⟨n7, ho8⟩ := lp_some ho5
 refine WC.bloop1 (H2 := [kn noM w.heap.size w w]) (τ := [(0, (true, _)), (1, (true, _))]) (fun (i5_1 : Int) => [(5, (true, .int .i64 i5_1))]) (fun i5_1 => []) (fun i5_1 m => iter (roundelayref3_Numbers_L0 a b) m i5_1 = some o4) (fun i5_1 => o4 = .go i5_1) 0 n7 ho8 ⟨Z, Z, Z, trivial⟩ (fun w hw => hw.pick [0] (by decide)) ?_ ?_
 ·skip
  rintro i5_1 rfl
  refine WQ.then (sr ?_)
  refine wa Z ?_
  refine nt (WC.ret ?_)
  obtain rfl := (eq_of_some hm6).symm
  refine WQ.ret1 Z Z (fun w hw => ?_)
  exact ⟨Z, Own.kgrow (fun _ x => x) hw⟩
 rintro i5_1 m9 hI10
 obtain ⟨m11, s12, rfl, hm13, hn14⟩ := iter_step hI10; clear hI10; unfold roundelayref3_Numbers_L0 at hm13
 refine WC.seq (sr ?_)
 refine wm Z ?_
 refine wm Z ?_
 refine wq Z (QV.lenS Try.underlying28 Z Z h_a.lenMap) ?_
 refine wq Z (QV.lss Z Z Z Z) ?_
 refine nt ?_
 refine WC.cond Z (fun h15 => ?_) (fun h15 => ?_)
 ·skip
  have hm16 := br_t h15 hm13; clear hm13
  refine sk (WQ.then (WC.seq (WC.block (WC.seq ?_))))
  refine WC.dr (m := 9) (by kernel_rfl) (by kernel_rfl) (fun w hw => hw) ?_
  refine wz 0 Z Z (QV.move Z Z) ?_
  refine wz 1 Z Z (QV.move Z Z) ?_
  obtain ⟨c17, hm18⟩ := cs hm16; clear hm16
  obtain ⟨p19, hp20⟩ := h_a.lenMap.ix (sz := 1) ln_len c17
  refine wz 2 Z Z (QV.indexSlice sl28 Z Z Z Z hp20) ?_
  refine wz 3 Z Z (QV.load pl2 Z Z (fun w hw => CellsAt.one 0 (((Own.karr 0 Z hk h_a) w hw).ele hp20 c17) Z)) ?_
  refine wz 4 Z Z (QV.move Z Z) ?_
  refine wz 5 Z Z (QV.move Z Z) ?_
  obtain ⟨c21, hm22⟩ := cs hm18; clear hm18
  obtain ⟨p23, hp24⟩ := h_b.lenMap.ix (sz := 1) ln_len c21
  refine wz 6 Z Z (QV.indexSlice sl28 Z Z Z Z hp24) ?_
  refine wz 7 Z Z (QV.load pl2 Z Z (fun w hw => CellsAt.one 0 (((Own.karr 0 Z hk h_b) w hw).ele hp24 c21) Z)) ?_
  refine wz 8 Z Z (QV.neq Z Z Z Z) ?_
  refine WD.e (by kernel_rfl) ?_
  refine WQ.then ?_
  refine WC.cond Z (fun h25 => ?_) (fun h25 => ?_)
  ·skip
   have hm26 := br_t h25 hm22; clear hm22
   refine sr ?_
   refine wa Z ?_
   refine nt (WC.ret (kr (tr (tr (kr (tr (tr ?_)))))))
   obtain rfl := up_ret hm26 hn14
   obtain rfl := (eq_of_some hm6).symm
   refine WQ.ret1 Z Z (fun w hw => ?_)
   exact ⟨Z, Own.kgrow (fun _ x => x) hw⟩
  have hm27 := br_f h25 hm22; clear hm22
  refine sk (WQ.block (WQ.then (WC.region ?_)))
  refine wm Z ?_
  obtain ⟨c28, hm29⟩ := cs hm27; clear hm27
  refine wq Z (QV.add Z Z Z Z c28) ?_
  refine wa Z ?_
  refine WL.nil ?_
  exact WQ.again1 (i5_1 + 1) m11 (up_next hm29 hn14) (Nat.lt_succ_self _) ⟨Z, Z, Z, trivial⟩ (fun w hw => hw.pick [0] (by decide))
 have hm30 := br_f h15 hm13; clear hm13
 refine WC.exit (te (te (WQ.block_exit ?_)))
 exact WQ.out1 i5_1 (up_brk hm30 hn14) ⟨Z, Z, Z, trivial⟩ (fun w hw => hw.pick [0] (by decide))
end Go.Proofs.Ytaimbkndebaaiab
end

section
namespace Go.Proofs.Ytaimbkndebaaiab
open Go.Rd
set_option linter.unusedVariables false
open TNum TLoop TKern TKeep TOrd TCpt TDep TSched1 TEmit TCheck TRDep TR10 TR10b TClone TNbr
namespace TSeq
theorem ag137 : AggT Try.prog 137 2 := ⟨_, Try.underlying137, rfl, by kernel_rfl⟩
theorem ag80 : AggT Try.prog 80 2 := ⟨_, Try.underlying80, rfl, by kernel_rfl⟩
theorem en117 : Go.Rd.Enters Try.prog 117 := ⟨Try.f117, Try.func117, by kernel_rfl, by kernel_rfl⟩
theorem en21 : Go.Rd.Enters Try.prog 21 := ⟨Try.f21, Try.func21, by kernel_rfl, by kernel_rfl⟩
theorem en58 : Go.Rd.Enters Try.prog 58 := ⟨Try.f58, Try.func58, by kernel_rfl, by kernel_rfl⟩
theorem en59 : Go.Rd.Enters Try.prog 59 := ⟨Try.f59, Try.func59, by kernel_rfl, by kernel_rfl⟩
theorem en60 : Go.Rd.Enters Try.prog 60 := ⟨Try.f60, Try.func60, by kernel_rfl, by kernel_rfl⟩
theorem fd137_0 : FieldT Try.prog 137 0 0 := ⟨_, _, 0, Try.underlying137, rfl, rfl, by kernel_rfl⟩
theorem sz137 : SizeT Try.prog 137 2 := by unfold SizeT; kernel_rfl
theorem sz28 : SizeT Try.prog 28 1 := by unfold SizeT; kernel_rfl
theorem sz_29 : SliceZ Try.prog 29 28 1 [.slice none 0 0] := ⟨Try.underlying29, by kernel_rfl⟩
theorem ve29 : VecT Try.prog 29 28 1 24 := ⟨Try.underlying29, by kernel_rfl, by decide⟩
theorem ze137 : ZeroT Try.prog 137 [.slice none 0 0, .slice none 0 0] := by unfold ZeroT; kernel_rfl
theorem ze28 : ZeroT Try.prog 28 [.slice none 0 0] := by unfold ZeroT; kernel_rfl
end TSeq
open TSeq
set_option maxRecDepth 8000 in
theorem roundelayref3_Words_w {v_a : Value} {v_b : Value} {a : List (List Int)} {b : List (List Int)} {r : Bool} (w : World) (hm : roundelayref3_Words_m a b = some r) (h_a : RowsA w v_a a) (h_b : RowsA w v_b b) : Calls Try.prog 22 #[v_a, v_b] w (fun e w' => e = .returned (.bool r) ∧ Grow w w') := by
 unfold roundelayref3_Words_m at hm
 have hk := Base.rfl (w := w)
 refine calls_of_WC (n := 27) (args := [v_a, v_b]) Try.func22 Z Z (Nat.le_of_ble_eq_true Z) ?_ (Own.startK hk (Own.start w))
 refine sr ?_
 refine wa Z ?_
 refine nt (WC.seq (sr ?_))
 refine wm Z ?_
 refine wq Z (QV.lenS Try.underlying29 Z Z h_a.slen) ?_
 refine wm Z ?_
 refine wq Z (QV.lenS Try.underlying29 Z Z h_b.slen) ?_
 refine wq Z (QV.neq Z Z Z Z) ?_
 refine nt ?_
 refine WC.cond Z (fun h1 => ?_) (fun h1 => ?_)
 ·skip
  have hm2 := br_t h1 hm; clear hm
  refine sr ?_
  refine wa Z ?_
  refine nt (WC.ret (tr ?_))
  obtain rfl := (eq_of_some hm2).symm
  refine WQ.ret1 Z Z (fun w hw => ?_)
  exact ⟨Z, Own.kgrow (fun _ x => x) hw⟩
 have hm3 := br_f h1 hm; clear hm
 refine sk (WQ.then (WC.seq (sr ?_)))
 refine wa Z ?_
 refine nt ?_
 obtain ⟨o4, ho5, hm6⟩ := bd_some hm3; clear hm3; obtain ⟨n7, ho8⟩ := lp_some ho5
 refine WC.bloop1 (H2 := [kn noM w.heap.size w w]) (τ := [(0, (true, _)), (1, (true, _))]) (fun (i5_1 : Int) => [(5, (true, .int .i64 i5_1))]) (fun i5_1 => []) (fun i5_1 m => iter (roundelayref3_Words_L0 a b) m i5_1 = some o4) (fun i5_1 => o4 = .go i5_1) 0 n7 ho8 ⟨Z, Z, Z, trivial⟩ (fun w hw => hw.pick [0] (by decide)) ?_ ?_
 ·skip
  rintro i5_1 rfl
  refine WQ.then (sr ?_)
  refine wa Z ?_
  refine nt (WC.ret ?_)
  obtain rfl := (eq_of_some hm6).symm
  refine WQ.ret1 Z Z (fun w hw => ?_)
  exact ⟨Z, Own.kgrow (fun _ x => x) hw⟩
 rintro i5_1 m9 hI10
 obtain ⟨m11, s12, rfl, hm13, hn14⟩ := iter_step hI10; clear hI10; unfold roundelayref3_Words_L0 at hm13
 refine WC.seq (sr ?_)
 refine wm Z ?_
 refine wm Z ?_
 refine wq Z (QV.lenS Try.underlying29 Z Z h_a.slen) ?_
 refine wq Z (QV.lss Z Z Z Z) ?_
 refine nt ?_
 refine WC.cond Z (fun h15 => ?_) (fun h15 => ?_)
 ·skip
  have hm16 := br_t h15 hm13; clear hm13
  refine sk (WQ.then (WC.seq (WC.block (WC.seq ?_))))
  refine WC.dr (m := 10) (by kernel_rfl) (by kernel_rfl) (fun w hw => hw) ?_
  refine wz 0 Z Z (QV.move Z Z) ?_
  refine wz 1 Z Z (QV.move Z Z) ?_
  obtain ⟨c17, hm18⟩ := cs hm16; clear hm16
  obtain ⟨p19, u21, hp20, hc22, hA23⟩ := h_a.ix c17
  refine wz 2 Z Z (QV.indexSlice sl29 Z Z Z Z hp20) ?_
  refine wz 3 Z Z (QV.load pl28 Z Z (fun w hw => CellsAt.one 0 ((Own.kcells 0 Z hk hc22) w hw) Z)) ?_
  refine wz 4 Z Z (QV.move Z Z) ?_
  refine wz 5 Z Z (QV.move Z Z) ?_
  obtain ⟨c24, hm25⟩ := cs hm18; clear hm18
  obtain ⟨p26, u28, hp27, hc29, hA30⟩ := h_b.ix c24
  refine wz 6 Z Z (QV.indexSlice sl29 Z Z Z Z hp27) ?_
  refine wz 7 Z Z (QV.load pl28 Z Z (fun w hw => CellsAt.one 0 ((Own.kcells 0 Z hk hc29) w hw) Z)) ?_
  obtain ⟨x31, hx32, hm33⟩ := bd_some hm25; clear hm25
  refine wz 8 Z Z (QV.call en21 (EvAll.cons Z Z (EvAll.cons Z Z EvAll.nil)) (fun w hw => have h := roundelayref3_Numbers_w w hx32 ((Own.karr 0 Z hk hA23) w hw) ((Own.karr 0 Z hk hA30) w hw); h)) ?_
  refine wz 9 Z Z (QV.not Z Z) ?_
  refine WD.e (by kernel_rfl) ?_
  refine WQ.then ?_
  refine WC.cond Z (fun h34 => ?_) (fun h34 => ?_)
  ·skip
   have hm35 := br_t h34 hm33; clear hm33
   refine sr ?_
   refine wa Z ?_
   refine nt (WC.ret (kr (tr (tr (kr (tr (tr ?_)))))))
   obtain rfl := up_ret hm35 hn14
   obtain rfl := (eq_of_some hm6).symm
   refine WQ.ret1 Z Z (fun w hw => ?_)
   exact ⟨Z, Own.kgrow (fun _ x => x) hw⟩
  have hm36 := br_f h34 hm33; clear hm33
  refine sk (WQ.block (WQ.then (WC.region ?_)))
  refine wm Z ?_
  obtain ⟨c37, hm38⟩ := cs hm36; clear hm36
  refine wq Z (QV.add Z Z Z Z c37) ?_
  refine wa Z ?_
  refine WL.nil ?_
  exact WQ.again1 (i5_1 + 1) m11 (up_next hm38 hn14) (Nat.lt_succ_self _) ⟨Z, Z, Z, trivial⟩ (fun w hw => hw.pick [0] (by decide))
 have hm39 := br_f h15 hm13; clear hm13
 refine WC.exit (te (te (WQ.block_exit ?_)))
 exact WQ.out1 i5_1 (up_brk hm39 hn14) ⟨Z, Z, Z, trivial⟩ (fun w hw => hw.pick [0] (by decide))

set_option maxRecDepth 8000 in
theorem roundelayref3_is_w {v_s_bef : Value} {v_s_mem : Value} {v_all : Value} {s : Sta} {all : List (List Int)} {r_ : Rf} {turn : Int} {r : Int} (w : World) (hm : roundelayref3_is_m s all r_ turn = some r) (h_s_bef : RowsA w v_s_bef s.bef) (h_s_mem : RowsA w v_s_mem s.mem) (h_all : RowsA w v_all all) : Calls Try.prog 117 #[.agg #[v_s_bef, v_s_mem], v_all, .agg #[.int .i64 r_.st, .int .i64 r_.bk], .int .i64 turn] w (fun e w' => e = .returned (.int .i64 r) ∧ Grow w w') := by
 unfold roundelayref3_is_m at hm
 have hk := Base.rfl (w := w)
 refine calls_of_WC (n := 35) (args := [.agg #[v_s_bef, v_s_mem], v_all, .agg #[.int .i64 r_.st, .int .i64 r_.bk], .int .i64 turn]) Try.func117 Z Z (Nat.le_of_ble_eq_true Z) ?_ (Own.startK hk (Own.start w))
 refine sr ?_
 refine WL.effect Z ?_
 refine (EV.boxAgg (by decide) Z Z (fun b1 => ?_))
 refine WL.effect Z ?_
 refine (EV.boxAgg (by decide) Z Z (fun b2 => ?_))
 refine wa Z ?_
 refine ns ?_
 refine wm Z ?_
 refine wf fd57_1 Z ?_
 refine wl pl3 Z (Own.cell 0 Z Z) ?_
 obtain ⟨c3, hm4⟩ := cs hm; clear hm
 refine wq Z (QV.sub Z Z Z Z c3) ?_
 refine wa Z ?_
 refine nt (WC.seq (sr ?_))
 refine wm Z ?_
 refine wq Z (QV.geq Z Z Z Z) ?_
 refine nt ?_
 refine WC.cond Z (fun h5 => ?_) (fun h5 => ?_)
 ·skip
  have hm6 := br_t h5 hm4; clear hm4
  refine WC.seq ?_
  refine WC.dr (m := 9) (S := Own noM w [kn noM w.heap.size w w, blk b2 [.int .i64 r_.st, .int .i64 r_.bk] 57, blk b1 [v_s_bef, v_s_mem] 80]) (by kernel_rfl) (by kernel_rfl) (fun w hw => hw.pick [2, 0, 1] (by decide)) ?_
  refine wz 0 Z Z (QV.move Z Z) ?_
  refine wz 1 Z Z (QV.move Z Z) ?_
  obtain ⟨c7, hm8⟩ := cs hm6; clear hm6
  obtain ⟨p9, u11, hp10, hc12, hA13⟩ := h_all.ix c7
  refine wz 2 Z Z (QV.indexSlice sl29 Z Z Z Z hp10) ?_
  refine wz 3 Z Z (QV.load pl28 Z Z (fun w hw => CellsAt.one 0 ((Own.kcells 0 Z hk hc12) w hw) Z)) ?_
  refine wz 4 Z Z (QV.fieldAddr fd57_0 Z Z) ?_
  refine wz 5 Z Z (QV.load pl3 Z Z (Own.cell 1 Z Z)) ?_
  obtain ⟨c14, hm15⟩ := cs hm8; clear hm8
  obtain ⟨p16, hp17⟩ := hA13.lenMap.ix (sz := 1) ln_len c14
  refine wz 6 Z Z (QV.indexSlice sl28 Z Z Z Z hp17) ?_
  refine wz 7 Z Z (QV.load pl2 Z Z (fun w hw => CellsAt.one 0 (((Own.karr 0 Z hk hA13) w hw).ele hp17 c14) Z)) ?_
  refine wz 8 Z Z (QV.assign Z Z) ?_
  refine WD.e (by kernel_rfl) ?_
  refine WQ.then (WC.ret (tr ?_))
  obtain rfl := (eq_of_some hm15).symm
  refine WQ.ret1 Z Z (fun w hw => ?_)
  exact ⟨Z, Own.kgrow (fun _ x => x) hw⟩
 have hm18 := br_f h5 hm4; clear hm4
 refine sk (WQ.then (sr ?_))
 refine wf fd80_0 Z ?_
 refine wl pl29 Z (Own.cell 1 Z Z) ?_
 refine wf fd57_0 Z ?_
 refine wl pl3 Z (Own.cell 0 Z Z) ?_
 obtain ⟨c19, hm20⟩ := cs hm18; clear hm18
 obtain ⟨p21, u23, hp22, hc24, hA25⟩ := h_s_bef.ix c19
 refine wq Z (QV.indexSlice sl29 Z Z Z Z hp22) ?_
 refine wl pl28 Z (fun w hw => CellsAt.one 0 ((Own.kcells 2 Z hk hc24) w hw) Z) ?_
 refine wm Z ?_
 obtain ⟨c26, hm27⟩ := cs hm20; clear hm20
 refine wq Z (QV.neg Z Z c26) ?_
 obtain ⟨c28, hm29⟩ := cs hm27; clear hm27
 refine wq Z (QV.sub Z Z Z Z c28) ?_
 obtain ⟨c30, hm31⟩ := cs hm29; clear hm29
 obtain ⟨p32, hp33⟩ := hA25.lenMap.ix (sz := 1) ln_len c30
 refine wq Z (QV.indexSlice sl28 Z Z Z Z hp33) ?_
 refine wl pl2 Z (fun w hw => CellsAt.one 0 (((Own.karr 2 Z hk hA25) w hw).ele hp33 c30) Z) ?_
 refine wa Z ?_
 refine nt (WC.ret ?_)
 obtain rfl := (eq_of_some hm31).symm
 refine WQ.ret1 Z Z (fun w hw => ?_)
 exact ⟨Z, Own.kgrow (fun _ x => x) hw⟩

set_option maxRecDepth 8000 in
theorem roundelayref3_Copy_w {v_l : Value} {l : List (List Int)} {r : List (List Int)} {K0 : World} (hm : roundelayref3_Copy_m l = some r) (h_l : RowsA K0 v_l l) (M : Nat → Prop) (w : World) (hk : Base M K0 w) (hw0 : Own M w [] w) : Calls Try.prog 58 #[v_l] w (fun e w' => ∃ X : Value × (List Value) × World, e = .returned (X.1) ∧ Own M w (kn M w.heap.size K0 X.2.2 :: [grid X.1 X.2.1 28 2 r]) w' ∧ SliceLen X.1 (r).length ∧ GL X.2.1 r) := by
 unfold roundelayref3_Copy_m at hm
 refine calls_of_WC (n := 21) (args := [v_l]) Try.func58 Z Z (Nat.le_of_ble_eq_true Z) ?_ (Own.startK hk hw0)
 refine sr ?_
 refine wa Z ?_
 refine ns ?_
 refine wa Z ?_
 refine nt (WC.seq (sr ?_))
 refine wa Z ?_
 refine nt ?_
 refine WK.of (fun w hw => hw.gridNil (E1 := 28) (E2 := 2)) ?_
 obtain ⟨o2, ho3, hm4⟩ := bd_some hm; clear hm; obtain ⟨n5, ho6⟩ := lp_some ho3
 refine WC.bloop4 (H2 := [kn M w.heap.size K0 K0]) (τ := [(0, (true, _))]) (fun (v1_1 : List (List Int)) (i4_1 : Int) (uv1_1 : Value) (hsv1_1 : List Value) => [(3, (true, uv1_1)), (4, (true, .int .i64 i4_1))]) (fun v1_1 i4_1 uv1_1 hsv1_1 => [grid uv1_1 hsv1_1 28 2 v1_1]) (fun v1_1 i4_1 uv1_1 hsv1_1 m => iter (roundelayref3_Copy_L0 l) m (v1_1, i4_1) = some o2 ∧ SliceLen uv1_1 v1_1.length ∧ GL hsv1_1 v1_1) (fun v1_1 i4_1 uv1_1 hsv1_1 => o2 = .go (v1_1, i4_1) ∧ SliceLen uv1_1 v1_1.length ∧ GL hsv1_1 v1_1) [] 0 nilS [] n5 ⟨ho6, SliceLen.nil, GL.nil⟩ ⟨Z, Z, Z, trivial⟩ (fun w hw => hw.pick [0, 1] (by decide)) ?_ ?_
 ·skip
  rintro v1_1 i4_1 uv1_1 hsv1_1 ⟨rfl, hlv1_1, hgv1_1⟩
  refine WQ.then (sr ?_)
  refine wm Z ?_
  refine wa Z ?_
  refine nt (WC.ret ?_)
  obtain rfl := (eq_of_some hm4).symm
  refine WQ.ret1 Z Z (fun w hw => ?_)
  exact ⟨(uv1_1, hsv1_1, K0), Z, hw.pick [1, 0] (by decide), hlv1_1, hgv1_1⟩
 rintro v1_1 i4_1 uv1_1 hsv1_1 m7 ⟨hI8, hlv1_1, hgv1_1⟩
 obtain ⟨m9, s10, rfl, hm11, hn12⟩ := iter_step hI8; clear hI8; unfold roundelayref3_Copy_L0 at hm11; simp only at hm11
 refine WC.seq (sr ?_)
 refine wm Z ?_
 refine wm Z ?_
 refine wq Z (QV.lenS Try.underlying29 Z Z h_l.slen) ?_
 refine wq Z (QV.lss Z Z Z Z) ?_
 refine nt ?_
 refine WC.cond Z (fun h13 => ?_) (fun h13 => ?_)
 ·skip
  have hm14 := br_t h13 hm11; clear hm11
  refine sk (WQ.then (WC.seq (WC.block (WC.region ?_))))
  refine wm Z ?_
  refine WL.effect Z ?_
  refine (EV.buildSlice0 (by decide) sz_28 (fun b15 => ?_))
  refine wm Z ?_
  refine wm Z ?_
  obtain ⟨c16, hm17⟩ := cs hm14; clear hm14
  obtain ⟨p18, u20, hp19, hc21, hA22⟩ := h_l.ix c16
  refine wq Z (QV.indexSlice sl29 Z Z Z Z hp19) ?_
  refine wl pl28 Z (fun w hw => CellsAt.one 0 ((Own.kcells 2 Z hk hc21) w hw) Z) ?_
  refine WL.effect Z ?_
  refine EV.of (fun w hw => hw.blkVec icell ([] : List Int) Z icell_len (Nat.le_of_ble_eq_true Z)) ?_
  obtain ⟨c23, hm24⟩ := cs hm17; clear hm17
  refine (EV.appendL (enc := icell) (xs := []) (ys := (ele l i4_1)) (([] ++ (ele l i4_1))) 0 (by decide) ve28 Z Z Z Z Z (Own.karr 2 Z hk hA22) icell_len (icell_one _) Z c23.1 c23.2 (fun u25 hu26 => ?_))
  refine WL.effect Z ?_
  refine (EV.buildSlice (by decide) sz_29 (by decide) (by decide) (ps := [(0, .tmp 17)]) (cells := [u25]) (EvAll.cons Z Z EvAll.nil) (filled1 hu26) (fun b27 => ?_))
  refine WL.effect Z ?_
  obtain ⟨c28, hm29⟩ := cs hm24; clear hm24
  refine EV.of (C' := Own M w [grid uv1_1 hsv1_1 28 2 v1_1, vec u25 2 1 (List.map icell ([] ++ (ele l i4_1))), blk b27 [u25] 28, kn M w.heap.size K0 K0]) (fun w hw => hw.pick [2, 1, 0, 3] (by decide)) ?_
  refine (EV.appendG (by decide) ve29 Z Z Z Z hu26 (Own.blkArr 2 (rows := [[u25]]) Z Z (rows_one)) c28 hgv1_1 (fun u30 hu31 => ?_))
  have hg32 := hgv1_1.snoc hu26
  refine wa Z ?_
  refine WL.nil (WQ.block (WQ.then (WC.region ?_)))
  refine wm Z ?_
  obtain ⟨c33, hm34⟩ := cs hm29; clear hm29
  refine wq Z (QV.add Z Z Z Z c33) ?_
  refine wa Z ?_
  refine WL.nil ?_
  exact WQ.again4 (v1_1 ++ [([] ++ (ele l i4_1))]) (i4_1 + 1) u30 (hsv1_1 ++ [u25]) m9 ⟨up_next hm34 hn12, hu31, hg32⟩ (Nat.lt_succ_self _) ⟨Z, Z, Z, trivial⟩ (fun w hw => hw.pick [0, 2] (by decide))
 have hm35 := br_f h13 hm11; clear hm11
 refine WC.exit (te (te (WQ.block_exit ?_)))
 exact WQ.out4 v1_1 i4_1 uv1_1 hsv1_1 ⟨up_brk hm35 hn12, hlv1_1, hgv1_1⟩ ⟨Z, Z, Z, trivial⟩ (fun w hw => hw.pick [0, 1] (by decide))

set_option maxRecDepth 8000 in
theorem roundelayref3_Play_w {v_l_logs : Value} {v_l_body : Value} {v_l_outs : Value} {v_s_bef : Value} {v_s_mem : Value} {l : Lp} {s : Sta} {turns : Int} {r : Rst} {K0 : World} (hm : roundelayref3_Play_m l s turns = some r) (h_l_logs : Arr K0 v_l_logs 1 (l.logs.map icell)) (h_l_body : Arr K0 v_l_body 9 (l.body.map Stm.cells)) (h_l_outs : Arr K0 v_l_outs 1 (l.outs.map icell)) (h_s_bef : RowsA K0 v_s_bef s.bef) (h_s_mem : RowsA K0 v_s_mem s.mem) (M : Nat → Prop) (w : World) (hk : Base M K0 w) (hw0 : Own M w [] w) : Calls Try.prog 89 #[.agg #[v_l_logs, v_l_body, v_l_outs], .agg #[v_s_bef, v_s_mem], .int .i64 turns] w (fun e w' => ∃ X : Value × Value × World, e = .returned (.agg #[X.1, X.2.1]) ∧ Own M w (kn M w.heap.size K0 X.2.2 :: []) w' ∧ Arr X.2.2 X.1 1 (r.outs.map icell) ∧ RowsA X.2.2 X.2.1 r.mem) := by
 unfold roundelayref3_Play_m at hm
 refine calls_of_WC (n := 198) (args := [.agg #[v_l_logs, v_l_body, v_l_outs], .agg #[v_s_bef, v_s_mem], .int .i64 turns]) Try.func89 Z Z (Nat.le_of_ble_eq_true Z) ?_ (Own.startK hk hw0)
 refine sr ?_
 refine WL.effect Z ?_
 refine (EV.boxAgg (by decide) Z Z (fun b1 => ?_))
 refine WL.effect Z ?_
 refine (EV.boxAgg (by decide) Z Z (fun b2 => ?_))
 refine WL.effect Z ?_
 refine (EV.alloc (by decide) ze137 (fun b3 => ?_))
 refine ns ?_
 refine wf fd80_1 Z ?_
 refine wl pl29 Z (Own.cell 1 Z Z) ?_
 refine WL.effect Z ?_
 obtain ⟨x4, hx5, hm6⟩ := bd_some hm; clear hm
 refine EV.of (C' := Own M w [kn M w.heap.size K0 K0, blk b3 [.slice none 0 0, .slice none 0 0] 137, blk b2 [v_s_bef, v_s_mem] 80, blk b1 [v_l_logs, v_l_body, v_l_outs] 49]) (fun w hw => hw.pick [3, 0, 1, 2] (by decide)) ?_
 refine (EV.callR (X := Value × (List Value) × World) (R := []) (fun X => X.1) (fun X => [grid X.1 X.2.1 28 2 x4]) (fun X => X.2.2) (fun X => SliceLen X.1 (x4).length ∧ GL X.2.1 x4) hk (fun _ h => by cases h; decide) en58 (EvAll.cons Z Z EvAll.nil) (fun M w h1 h2 => have h := roundelayref3_Copy_w hx5 h_s_mem M w h1 h2; h) (fun X7 hF7 hle7 => ?_))
 refine wa Z ?_
 refine ns ?_
 refine wm Z ?_
 refine WL.effect Z ?_
 obtain ⟨c9, hm10⟩ := cs hm6; clear hm6
 obtain ⟨c11, hm12⟩ := cs hm10; clear hm10
 refine (EV.makeSlice (enc := hcell) nilS (by decide) ve29 ze28 Z Z c9 Z c11 (fun u13 hu14 => ?_))
 refine WK.of (fun w hw => hw.gridRep 2) ?_
 have hg16 := GL.rep turns.toNat
 have hl17 : SliceLen u13 (List.replicate turns.toNat ([] : List Int)).length := by rw [List.length_replicate]; simpa using hu14
 refine wa Z ?_
 refine nt (WC.seq (sr ?_))
 refine wa Z ?_
 refine nt ?_
 obtain ⟨o18, ho19, hm20⟩ := bd_some hm12; clear hm12; obtain ⟨n21, ho22⟩ := lp_some ho19
 refine WC.bloop4 (H2 := [kn M w.heap.size K0 X7.2.2, blk b3 [.slice none 0 0, .slice none 0 0] 137, blk b2 [v_s_bef, v_s_mem] 80, blk b1 [v_l_logs, v_l_body, v_l_outs] 49]) (τ := [(2, (true, _)), (3, (true, _)), (4, (true, _)), (6, (true, _)), (7, (true, _)), (8, (true, _))]) (fun (v15_3 : List (List Int)) (r8_3 : List (List Int)) (t9_3 : Int) (hsv15_3 : List Value) => [(9, (true, .int .i64 t9_3))]) (fun v15_3 r8_3 t9_3 hsv15_3 => [grid u13 hsv15_3 28 2 v15_3, grid X7.1 X7.2.1 28 2 r8_3]) (fun v15_3 r8_3 t9_3 hsv15_3 m => iter (roundelayref3_Play_L0 l s turns) m (v15_3, r8_3, t9_3) = some o18 ∧ SliceLen u13 v15_3.length ∧ GL hsv15_3 v15_3 ∧ SliceLen X7.1 r8_3.length ∧ GL X7.2.1 r8_3) (fun v15_3 r8_3 t9_3 hsv15_3 => o18 = .go (v15_3, r8_3, t9_3) ∧ SliceLen u13 v15_3.length ∧ GL hsv15_3 v15_3 ∧ SliceLen X7.1 r8_3.length ∧ GL X7.2.1 r8_3) (List.replicate turns.toNat ([] : List Int)) x4 0 (List.replicate turns.toNat nilS) n21 ⟨ho22, hl17, hg16, hF7.1, hF7.2⟩ ⟨Z, Z, Z, Z, Z, Z, Z, trivial⟩ (fun w hw => hw.pick [0, 2, 1, 3, 4, 5] (by decide)) ?_ ?_
 ·skip
  rintro v15_3 r8_3 t9_3 hsv15_3 ⟨rfl, hlv15_3, hgv15_3, hlr8_3, hgr8_3⟩
  refine WQ.then (sr ?_)
  refine wm Z ?_
  refine wq Z (QV.buildS (ps := [(1, .tmp 157)]) (cells := [.slice none 0 0, X7.1]) (css := [[X7.1]]) (EvAll.cons Z Z EvAll.nil) (CellsAll.cons (SliceLen.cells hlr8_3) CellsAll.nil) (by kernel_rfl)) ?_
  refine WL.effect Z ?_
  refine (EV.alloc (by decide) ze137 (fun b23 => ?_))
  refine WL.effect Z ?_
  refine (EV.store 0 Z Z Z Z Z Z (vs := [.slice none 0 0, X7.1]) (show Value.cells _ = List.toArray _ from Z) sz137 (Nat.le_of_ble_eq_true Z) (one_cons Z (one_cons (SliceLen.one hlr8_3) one_nil)) ?_)
  refine nt (WC.seq (sr ?_))
  refine wa Z ?_
  refine nt ?_
  refine WK.of (fun w hw => hw.vecNil (E := 2) (sz := 1) (enc := icell)) ?_
  obtain ⟨o25, ho26, hm27⟩ := bd_some hm20; clear hm20; obtain ⟨n28, ho29⟩ := lp_some ho26
  refine WC.bloop3 (H2 := [grid u13 hsv15_3 28 2 v15_3, grid X7.1 X7.2.1 28 2 r8_3, kn M w.heap.size K0 X7.2.2, blk b3 [.slice none 0 0, .slice none 0 0] 137, blk b2 [v_s_bef, v_s_mem] 80, blk b1 [v_l_logs, v_l_body, v_l_outs] 49]) (τ := [(2, (true, _)), (3, (true, _)), (4, (true, _)), (6, (true, _)), (8, (true, _)), (17, (true, _))]) (fun (v24_4 : List Int) (i18_4 : Int) (uv24_4 : Value) => [(18, (true, .int .i64 i18_4))]) (fun v24_4 i18_4 uv24_4 => [vec uv24_4 2 1 (List.map icell v24_4), blk b23 [uv24_4, X7.1] 137]) (fun v24_4 i18_4 uv24_4 m => iter (roundelayref3_Play_L5 l s turns v15_3) m (v24_4, i18_4) = some o25 ∧ SliceLen uv24_4 v24_4.length) (fun v24_4 i18_4 uv24_4 => o25 = .go (v24_4, i18_4) ∧ SliceLen uv24_4 v24_4.length) [] 0 (.slice none 0 0) n28 ⟨ho29, SliceLen.nil⟩ ⟨Z, Z, Z, Z, Z, Z, Z, trivial⟩ (fun w hw => hw.pick [0, 1, 2, 3, 4, 5, 6, 7] (by decide)) ?_ ?_
  ·skip
   rintro v24_4 i18_4 uv24_4 ⟨rfl, hlv24_4⟩
   refine WQ.then (sr ?_)
   refine wq Z (QV.loadAgg ag137 Z Z Z (Own.cellsBlk 1 Z)) ?_
   refine WL.effect Z ?_
   refine (EV.store 5 Z Z Z Z Z Z (vs := [uv24_4, X7.1]) (show Value.cells _ = List.toArray _ from Z) sz137 (Nat.le_of_ble_eq_true Z) (one_cons (SliceLen.one hlv24_4) (one_cons (SliceLen.one hlr8_3) one_nil)) ?_)
   refine nt (WC.ret ?_)
   obtain rfl := (eq_of_some hm27).symm
   refine WK.of (C' := Own M w [kn M w.heap.size K0 X7.2.2, vec uv24_4 2 1 (List.map icell v24_4), blk b23 [uv24_4, X7.1] 137, grid u13 hsv15_3 28 2 v15_3, grid X7.1 X7.2.1 28 2 r8_3, blk b3 [uv24_4, X7.1] 137, blk b2 [v_s_bef, v_s_mem] 80, blk b1 [v_l_logs, v_l_body, v_l_outs] 49]) (fun w hw => hw.pick [4, 0, 1, 2, 3, 5, 6, 7] (by decide)) ?_
   refine WK.freeze hk (fun k30 hle30 hr30 => ?_)
   have hA30 := vec_arr hr30
   refine WK.of (C' := Own M w [kn M w.heap.size K0 k30, grid X7.1 X7.2.1 28 2 r8_3, blk b23 [uv24_4, X7.1] 137, grid u13 hsv15_3 28 2 v15_3, blk b3 [uv24_4, X7.1] 137, blk b2 [v_s_bef, v_s_mem] 80, blk b1 [v_l_logs, v_l_body, v_l_outs] 49]) (fun w hw => hw.pick [0, 3, 1, 2, 4, 5, 6] (by decide)) ?_
   refine WK.freeze hk (fun k31 hle31 hr31 => ?_)
   have hA31 := grid_rows hr31
   refine WQ.retCell Z ag137 Z Z (Own.cellsBlk 3 Z) (fun w hw => ?_)
   exact ⟨(uv24_4, X7.1, k31), Z, hw.pick [0] (by decide), (hA30.le hle31), hA31⟩
  rintro v24_4 i18_4 uv24_4 m32 ⟨hI33, hlv24_4⟩
  obtain ⟨m34, s35, rfl, hm36, hn37⟩ := iter_step hI33; clear hI33; unfold roundelayref3_Play_L5 at hm36; simp only at hm36
  refine WC.seq (sr ?_)
  refine wm Z ?_
  refine wf fd49_2 Z ?_
  refine wl pl30 Z (Own.cell 7 Z Z) ?_
  refine wq Z (QV.lenS Try.underlying30 Z Z (h_l_outs.le hle7).lenMap) ?_
  refine wq Z (QV.lss Z Z Z Z) ?_
  refine nt ?_
  refine WC.cond Z (fun h38 => ?_) (fun h38 => ?_)
  ·skip
   have hm39 := br_t h38 hm36; clear hm36
   refine sk (WQ.then (WC.seq (WC.block (WC.seq ?_))))
   refine WC.dr (m := 12) (S := Own M w [kn M w.heap.size K0 X7.2.2, vec uv24_4 2 1 (List.map icell v24_4), blk b23 [uv24_4, X7.1] 137, grid u13 hsv15_3 28 2 v15_3, grid X7.1 X7.2.1 28 2 r8_3, blk b3 [.slice none 0 0, .slice none 0 0] 137, blk b2 [v_s_bef, v_s_mem] 80, blk b1 [v_l_logs, v_l_body, v_l_outs] 49]) (by kernel_rfl) (by kernel_rfl) (fun w hw => hw.pick [4, 0, 1, 2, 3, 5, 6, 7] (by decide)) ?_
   refine wz 0 Z Z (QV.fieldAddr fd80_0 Z Z) ?_
   refine wz 1 Z Z (QV.load pl29 Z Z (Own.cell 6 Z Z)) ?_
   refine wz 2 Z Z (QV.fieldAddr fd49_2 Z Z) ?_
   refine wz 3 Z Z (QV.load pl30 Z Z (Own.cell 7 Z Z)) ?_
   refine wz 4 Z Z (QV.move Z Z) ?_
   obtain ⟨c40, hm41⟩ := cs hm39; clear hm39
   obtain ⟨p42, hp43⟩ := (h_l_outs.le hle7).lenMap.ix (sz := 1) ln_len c40
   refine wz 5 Z Z (QV.indexSlice sl30 Z Z Z Z hp43) ?_
   refine wz 6 Z Z (QV.load pl3 Z Z (fun w hw => CellsAt.one 0 (((Own.karr 0 Z hk (h_l_outs.le hle7)) w hw).ele hp43 c40) Z)) ?_
   obtain ⟨c44, hm45⟩ := cs hm41; clear hm41
   obtain ⟨p46, u48, hp47, hc49, hA50⟩ := (h_s_bef.le hle7).ix c44
   refine wz 7 Z Z (QV.indexSlice sl29 Z Z Z Z hp47) ?_
   refine wz 8 Z Z (QV.load pl28 Z Z (fun w hw => CellsAt.one 0 ((Own.kcells 0 Z hk hc49) w hw) Z)) ?_
   obtain ⟨c51, hm52⟩ := cs hm45; clear hm45
   obtain ⟨p53, hp54⟩ := hA50.lenMap.ix (sz := 1) ln_len c51
   refine wz 9 Z Z (QV.indexSlice sl28 Z Z Z Z hp54) ?_
   refine wz 10 Z Z (QV.load pl2 Z Z (fun w hw => CellsAt.one 0 (((Own.karr 0 Z hk hA50) w hw).ele hp54 c51) Z)) ?_
   refine wz 11 Z Z (QV.assign Z Z) ?_
   refine WD.e (by kernel_rfl) ?_
   refine WQ.then (WC.seq (sr ?_))
   refine wm Z ?_
   refine wq Z (QV.gtr Z Z Z Z) ?_
   refine nt ?_
   refine WC.cond Z (fun h55 => ?_) (fun h55 => ?_)
   ·skip
    have hm56 := br_t h55 hm52; clear hm52
    refine WC.dr (m := 13) (S := Own M w [kn M w.heap.size K0 X7.2.2, vec uv24_4 2 1 (List.map icell v24_4), blk b23 [uv24_4, X7.1] 137, grid u13 hsv15_3 28 2 v15_3, grid X7.1 X7.2.1 28 2 r8_3, blk b3 [.slice none 0 0, .slice none 0 0] 137, blk b2 [v_s_bef, v_s_mem] 80, blk b1 [v_l_logs, v_l_body, v_l_outs] 49]) (by kernel_rfl) (by kernel_rfl) (fun w hw => hw.pick [4, 0, 1, 2, 3, 5, 6, 7] (by decide)) ?_
    refine wz 0 Z Z (QV.move Z Z) ?_
    refine wz 1 Z Z (QV.move Z Z) ?_
    obtain ⟨c57, hm58⟩ := cs hm56; clear hm56
    refine wz 2 Z Z (QV.sub Z Z Z Z c57) ?_
    obtain ⟨c59, hm60⟩ := cs hm58; clear hm58
    obtain ⟨p61, hp62⟩ := hlv15_3.ix (sz := 1) ln_len c59
    refine wz 3 Z Z (QV.indexSlice sl29 Z Z Z Z hp62) ?_
    refine wz 4 Z Z (QV.load pl28 Z Z (Own.gridHdr 3 Z hp62 c59)) ?_
    refine wz 5 Z Z (QV.fieldAddr fd49_2 Z Z) ?_
    refine wz 6 Z Z (QV.load pl30 Z Z (Own.cell 7 Z Z)) ?_
    refine wz 7 Z Z (QV.move Z Z) ?_
    obtain ⟨c63, hm64⟩ := cs hm60; clear hm60
    obtain ⟨p65, hp66⟩ := (h_l_outs.le hle7).lenMap.ix (sz := 1) ln_len c63
    refine wz 8 Z Z (QV.indexSlice sl30 Z Z Z Z hp66) ?_
    refine wz 9 Z Z (QV.load pl3 Z Z (fun w hw => CellsAt.one 0 (((Own.karr 0 Z hk (h_l_outs.le hle7)) w hw).ele hp66 c63) Z)) ?_
    obtain ⟨c67, hm68⟩ := cs hm64; clear hm64
    obtain ⟨p69, hp70⟩ := (hgv15_3.ix (turns - 1)).ix (sz := 1) ln_len c67
    refine wz 10 Z Z (QV.indexSlice sl28 Z Z Z Z hp70) ?_
    refine wz 11 Z Z (QV.load pl2 Z Z (fun w hw => CellsAt.one 0 (((Own.gridArr 3 Z c59) w hw).ele hp70 c67) Z)) ?_
    refine wz 12 Z Z (QV.assign Z Z) ?_
    refine WD.e (by kernel_rfl) ?_
    refine WQ.then (WC.region ?_)
    refine wf fd137_0 Z ?_
    refine wl pl28 Z (Own.cell 1 Z Z) ?_
    refine wm Z ?_
    refine WL.effect Z ?_
    refine (EV.buildSlice (by decide) sz_28 (by decide) (by decide) (ps := [(0, .tmp 193)]) (cells := [.int .i64 (ele (ele v15_3 (turns - 1)) (ele l.outs i18_4))]) (EvAll.cons Z Z EvAll.nil) (by kernel_rfl) (fun b71 => ?_))
    refine WL.effect Z ?_
    obtain ⟨c72, hm73⟩ := cs hm68; clear hm68
    refine (EV.appendL (enc := icell) (xs := v24_4) (ys := [(ele (ele v15_3 (turns - 1)) (ele l.outs i18_4))]) ((v24_4 ++ [(ele (ele v15_3 (turns - 1)) (ele l.outs i18_4))])) 1 (by decide) ve28 Z Z Z Z Z (Own.blkArr 0 (rows := [(ele (ele v15_3 (turns - 1)) (ele l.outs i18_4))].map icell) Z Z (rows_len icell_len)) icell_len (icell_one _) Z c72.1 c72.2 (fun u74 hu75 => ?_))
    refine wf fd137_0 Z ?_
    refine WL.effect Z ?_
    refine (EV.store 2 Z Z Z Z Z Z (vs := [u74]) (SliceLen.cells hu75) sz28 (Nat.le_of_ble_eq_true Z) (one_cons (SliceLen.one hu75) one_nil) ?_)
    refine WL.nil (WQ.block (WQ.then (WC.region ?_)))
    refine wm Z ?_
    obtain ⟨c76, hm77⟩ := cs hm73; clear hm73
    refine wq Z (QV.add Z Z Z Z c76) ?_
    refine wa Z ?_
    refine WL.nil ?_
    exact WQ.again3 (v24_4 ++ [(ele (ele v15_3 (turns - 1)) (ele l.outs i18_4))]) (i18_4 + 1) u74 m34 ⟨up_next hm77 hn37, hu75⟩ (Nat.lt_succ_self _) ⟨Z, Z, Z, Z, Z, Z, Z, trivial⟩ (fun w hw => hw.pick [1, 2, 3, 4, 5, 6, 7, 8] (by decide))
   have hm78 := br_f h55 hm52; clear hm52
   refine sk (WQ.then (WC.region ?_))
   refine wf fd137_0 Z ?_
   refine wl pl28 Z (Own.cell 1 Z Z) ?_
   refine wm Z ?_
   refine WL.effect Z ?_
   refine (EV.buildSlice (by decide) sz_28 (by decide) (by decide) (ps := [(0, .tmp 193)]) (cells := [.int .i64 (ele (ele s.bef (ele l.outs i18_4)) 0)]) (EvAll.cons Z Z EvAll.nil) (by kernel_rfl) (fun b79 => ?_))
   refine WL.effect Z ?_
   obtain ⟨c80, hm81⟩ := cs hm78; clear hm78
   refine (EV.appendL (enc := icell) (xs := v24_4) (ys := [(ele (ele s.bef (ele l.outs i18_4)) 0)]) ((v24_4 ++ [(ele (ele s.bef (ele l.outs i18_4)) 0)])) 1 (by decide) ve28 Z Z Z Z Z (Own.blkArr 0 (rows := [(ele (ele s.bef (ele l.outs i18_4)) 0)].map icell) Z Z (rows_len icell_len)) icell_len (icell_one _) Z c80.1 c80.2 (fun u82 hu83 => ?_))
   refine wf fd137_0 Z ?_
   refine WL.effect Z ?_
   refine (EV.store 2 Z Z Z Z Z Z (vs := [u82]) (SliceLen.cells hu83) sz28 (Nat.le_of_ble_eq_true Z) (one_cons (SliceLen.one hu83) one_nil) ?_)
   refine WL.nil (WQ.block (WQ.then (WC.region ?_)))
   refine wm Z ?_
   obtain ⟨c84, hm85⟩ := cs hm81; clear hm81
   refine wq Z (QV.add Z Z Z Z c84) ?_
   refine wa Z ?_
   refine WL.nil ?_
   exact WQ.again3 (v24_4 ++ [(ele (ele s.bef (ele l.outs i18_4)) 0)]) (i18_4 + 1) u82 m34 ⟨up_next hm85 hn37, hu83⟩ (Nat.lt_succ_self _) ⟨Z, Z, Z, Z, Z, Z, Z, trivial⟩ (fun w hw => hw.pick [1, 2, 3, 4, 5, 6, 7, 8] (by decide))
  have hm86 := br_f h38 hm36; clear hm36
  refine WC.exit (te (te (WQ.block_exit ?_)))
  exact WQ.out3 v24_4 i18_4 uv24_4 ⟨up_brk hm86 hn37, hlv24_4⟩ ⟨Z, Z, Z, Z, Z, Z, Z, trivial⟩ (fun w hw => hw.pick [0, 1, 2, 3, 4, 5, 6, 7] (by decide))
 rintro v15_3 r8_3 t9_3 hsv15_3 m87 ⟨hI88, hlv15_3, hgv15_3, hlr8_3, hgr8_3⟩
 obtain ⟨m89, s90, rfl, hm91, hn92⟩ := iter_step hI88; clear hI88; unfold roundelayref3_Play_L0 at hm91; simp only at hm91
 refine WC.seq (sr ?_)
 refine wm Z ?_
 refine wm Z ?_
 refine wq Z (QV.lss Z Z Z Z) ?_
 refine nt ?_
 refine WC.cond Z (fun h93 => ?_) (fun h93 => ?_)
 ·skip
  have hm94 := br_t h93 hm91; clear hm91
  refine sk (WQ.then (WC.seq (WC.block (sr ?_))))
  refine wm Z ?_
  refine wm Z ?_
  refine wf fd49_1 Z ?_
  refine wl pl47 Z (Own.cell 5 Z Z) ?_
  refine wq Z (QV.lenS Try.underlying47 Z Z (h_l_body.le hle7).lenMap) ?_
  refine WL.effect Z ?_
  obtain ⟨c95, hm96⟩ := cs hm94; clear hm94
  obtain ⟨c97, hm98⟩ := cs hm96; clear hm96
  refine (EV.makeSlice (enc := icell) (0 : Int) (by decide) ve28 ze2 Z Z c95 Z c97 (fun u99 hu100 => ?_))
  obtain ⟨c102, hm103⟩ := cs hm98; clear hm98
  obtain ⟨p104, hp105⟩ := hlv15_3.ix (sz := 1) ln_len c102
  refine wq Z (QV.indexSlice sl29 Z Z Z Z hp105) ?_
  refine WL.effect Z ?_
  refine EV.of (C' := Own M w [grid u13 hsv15_3 28 2 v15_3, vec u99 2 1 (List.map icell (List.replicate (ln l.body).toNat (0 : Int))), grid X7.1 X7.2.1 28 2 r8_3, kn M w.heap.size K0 X7.2.2, blk b3 [.slice none 0 0, .slice none 0 0] 137, blk b2 [v_s_bef, v_s_mem] 80, blk b1 [v_l_logs, v_l_body, v_l_outs] 49]) (fun w hw => hw.pick [1, 0, 2, 3, 4, 5, 6] (by decide)) ?_
  refine (EV.storeRow Z Z Z Z hp105 c102 hu100 sz28 ?_)
  have hg107 := GL.upd hgv15_3 hu100 t9_3
  have hl106 : SliceLen u13 (upd v15_3 t9_3 (List.replicate (ln l.body).toNat (0 : Int))).length := slen_upd hlv15_3
  refine ns ?_
  refine wa Z ?_
  refine nt ?_
  obtain ⟨o108, ho109, hm110⟩ := bd_some hm103; clear hm103; obtain ⟨n111, ho112⟩ := lp_some ho109
  refine WC.bloop3 (H2 := [kn M w.heap.size K0 X7.2.2, blk b3 [.slice none 0 0, .slice none 0 0] 137, blk b2 [v_s_bef, v_s_mem] 80, blk b1 [v_l_logs, v_l_body, v_l_outs] 49]) (τ := [(2, (true, _)), (3, (true, _)), (4, (true, _)), (6, (true, _)), (7, (true, _)), (8, (true, _)), (9, (true, _))]) (fun (v15_5 : List (List Int)) (r8_5 : List (List Int)) (k10_5 : Int) => [(10, (true, .int .i64 k10_5))]) (fun v15_5 r8_5 k10_5 => [grid u13 (upd hsv15_3 t9_3 u99) 28 2 v15_5, grid X7.1 X7.2.1 28 2 r8_5]) (fun v15_5 r8_5 k10_5 m => iter (roundelayref3_Play_L2 l s t9_3) m (v15_5, r8_5, k10_5) = some o108 ∧ SliceLen u13 v15_5.length ∧ GL (upd hsv15_3 t9_3 u99) v15_5 ∧ SliceLen X7.1 r8_5.length ∧ GL X7.2.1 r8_5) (fun v15_5 r8_5 k10_5 => o108 = .go (v15_5, r8_5, k10_5) ∧ SliceLen u13 v15_5.length ∧ GL (upd hsv15_3 t9_3 u99) v15_5 ∧ SliceLen X7.1 r8_5.length ∧ GL X7.2.1 r8_5) (upd v15_3 t9_3 (List.replicate (ln l.body).toNat (0 : Int))) r8_3 0 n111 ⟨ho112, hl106, hg107, hlr8_3, hgr8_3⟩ ⟨Z, Z, Z, Z, Z, Z, Z, Z, trivial⟩ (fun w hw => hw.pick [0, 1, 2, 3, 4, 5] (by decide)) ?_ ?_
  ·skip
   rintro v15_5 r8_5 k10_5 ⟨rfl, hlv15_5, hgv15_5, hlr8_5, hgr8_5⟩
   refine WQ.block (WQ.then (WC.region ?_))
   refine wm Z ?_
   obtain ⟨c113, hm114⟩ := cs hm110; clear hm110
   refine wq Z (QV.add Z Z Z Z c113) ?_
   refine wa Z ?_
   refine WL.nil ?_
   exact WQ.again4 v15_5 r8_5 (t9_3 + 1) (upd hsv15_3 t9_3 u99) m89 ⟨up_next hm114 hn92, hlv15_5, hgv15_5, hlr8_5, hgr8_5⟩ (Nat.lt_succ_self _) ⟨Z, Z, Z, Z, Z, Z, Z, trivial⟩ (fun w hw => hw.pick [0, 1, 2, 3, 4, 5] (by decide))
  rintro v15_5 r8_5 k10_5 m115 ⟨hI116, hlv15_5, hgv15_5, hlr8_5, hgr8_5⟩
  obtain ⟨m117, s118, rfl, hm119, hn120⟩ := iter_step hI116; clear hI116; unfold roundelayref3_Play_L2 at hm119; simp only at hm119
  refine WC.seq (sr ?_)
  refine wm Z ?_
  refine wf fd49_1 Z ?_
  refine wl pl47 Z (Own.cell 5 Z Z) ?_
  refine wq Z (QV.lenS Try.underlying47 Z Z (h_l_body.le hle7).lenMap) ?_
  refine wq Z (QV.lss Z Z Z Z) ?_
  refine nt ?_
  refine WC.cond Z (fun h121 => ?_) (fun h121 => ?_)
  ·skip
   have hm122 := br_t h121 hm119; clear hm119
   refine sk (WQ.then (WC.seq (WC.block (sr ?_))))
   refine wf fd49_1 Z ?_
   refine wl pl47 Z (Own.cell 5 Z Z) ?_
   refine wm Z ?_
   obtain ⟨c123, hm124⟩ := cs hm122; clear hm122
   obtain ⟨p125, hp126⟩ := (h_l_body.le hle7).lenMap.ix (sz := 9) ln_len c123
   refine wq Z (QV.indexSlice sl47 Z Z Z Z hp126) ?_
   refine wq Z (QV.loadAgg ag59 Z Z Z (fun w hw => ((Own.karr 2 Z hk (h_l_body.le hle7)) w hw).ele hp126 c123)) ?_
   refine WL.effect Z ?_
   refine (EV.alloc (by decide) ze59 (fun b127 => ?_))
   refine WL.effect Z ?_
   refine (EV.store 0 Z Z Z Z Z Z (vs := (Stm.cells (ele l.body k10_5))) (show Value.cells _ = List.toArray _ from Z) sz59 (Nat.le_of_ble_eq_true Z) (one_cons Z (one_cons Z (one_cons Z (one_cons Z (one_cons Z (one_cons Z (one_cons Z (one_cons Z (one_cons Z one_nil))))))))) ?_)
   refine ns ?_
   refine wf fd59_0 Z ?_
   refine wl pl3 Z (Own.cell 0 Z Z) ?_
   refine nt (WC.block (sr ?_))
   refine wq Z (QV.eql Z Z Z Z) ?_
   refine wa Z ?_
   refine nt ?_
   refine WC.cond Z (fun h128 => ?_) (fun h128 => ?_)
   ·skip
    have hm129 := br_t h128 hm124; clear hm124
    refine WC.dr (m := 9) (S := Own M w [kn M w.heap.size K0 X7.2.2, blk b127 (Stm.cells (ele l.body k10_5)) 59, grid u13 (upd hsv15_3 t9_3 u99) 28 2 v15_5, grid X7.1 X7.2.1 28 2 r8_5, blk b3 [.slice none 0 0, .slice none 0 0] 137, blk b2 [v_s_bef, v_s_mem] 80, blk b1 [v_l_logs, v_l_body, v_l_outs] 49]) (by kernel_rfl) (by kernel_rfl) (fun w hw => hw.pick [3, 0, 1, 2, 4, 5, 6] (by decide)) ?_
    refine wz 0 Z Z (QV.move Z Z) ?_
    refine wz 1 Z Z (QV.move Z Z) ?_
    obtain ⟨c130, hm131⟩ := cs hm129; clear hm129
    obtain ⟨p132, hp133⟩ := hlv15_5.ix (sz := 1) ln_len c130
    refine wz 2 Z Z (QV.indexSlice sl29 Z Z Z Z hp133) ?_
    refine wz 3 Z Z (QV.load pl28 Z Z (Own.gridHdr 2 Z hp133 c130)) ?_
    refine wz 4 Z Z (QV.move Z Z) ?_
    refine wz 5 Z Z (QV.fieldAddr fd59_6 Z Z) ?_
    refine wz 6 Z Z (QV.load pl2 Z Z (Own.cell 1 Z Z)) ?_
    obtain ⟨c134, hm135⟩ := cs hm131; clear hm131
    obtain ⟨p136, hp137⟩ := (hgv15_5.ix t9_3).ix (sz := 1) ln_len c134
    refine wz 7 Z Z (QV.indexSlice sl28 Z Z Z Z hp137) ?_
    refine WD.l 8 Z (by kernel_rfl) Z ?_
    refine (EV.storeG 1 ((ele l.body k10_5).n) Z Z Z Z Z c130 hp137 sz2 ?_)
    have hg139 := hgv15_5.updG t9_3 k10_5 ((ele l.body k10_5).n)
    have hl138 : SliceLen u13 (updG v15_5 t9_3 k10_5 ((ele l.body k10_5).n)).length := slen_updG hlv15_5
    refine WQ.block (WQ.block (WQ.then (WC.region ?_)))
    refine wm Z ?_
    obtain ⟨c140, hm141⟩ := cs hm135; clear hm135
    refine wq Z (QV.add Z Z Z Z c140) ?_
    refine wa Z ?_
    refine WL.nil ?_
    exact WQ.again3 (updG v15_5 t9_3 k10_5 ((ele l.body k10_5).n)) r8_5 (k10_5 + 1) m117 ⟨up_next hm141 hn120, hl138, hg139, hlr8_5, hgr8_5⟩ (Nat.lt_succ_self _) ⟨Z, Z, Z, Z, Z, Z, Z, Z, trivial⟩ (fun w hw => hw.pick [1, 2, 3, 4, 5, 6] (by decide))
   have hm142 := br_f h128 hm124; clear hm124
   refine sr ?_
   refine wq Z (QV.eql Z Z Z Z) ?_
   refine wa Z ?_
   refine nt ?_
   refine WC.cond Z (fun h143 => ?_) (fun h143 => ?_)
   ·skip
    have hm144 := br_t h143 hm142; clear hm142
    refine WC.region ?_
    refine wm Z ?_
    refine wm Z ?_
    obtain ⟨c145, hm146⟩ := cs hm144; clear hm144
    obtain ⟨p147, hp148⟩ := hlv15_5.ix (sz := 1) ln_len c145
    refine wq Z (QV.indexSlice sl29 Z Z Z Z hp148) ?_
    refine wl pl28 Z (Own.gridHdr 1 Z hp148 c145) ?_
    refine wm Z ?_
    refine wm Z ?_
    obtain ⟨c149, hm150⟩ := cs hm146; clear hm146
    obtain ⟨p151, hp152⟩ := (hgv15_5.ix t9_3).ix (sz := 1) ln_len c149
    refine wq Z (QV.indexSlice sl28 Z Z Z Z hp152) ?_
    refine WL.effect Z ?_
    refine (EV.storeG 1 t9_3 Z Z Z Z Z c145 hp152 sz2 ?_)
    have hg154 := hgv15_5.updG t9_3 k10_5 t9_3
    have hl153 : SliceLen u13 (updG v15_5 t9_3 k10_5 t9_3).length := slen_updG hlv15_5
    refine WL.nil (WQ.block (WQ.block (WQ.then (WC.region ?_))))
    refine wm Z ?_
    obtain ⟨c155, hm156⟩ := cs hm150; clear hm150
    refine wq Z (QV.add Z Z Z Z c155) ?_
    refine wa Z ?_
    refine WL.nil ?_
    exact WQ.again3 (updG v15_5 t9_3 k10_5 t9_3) r8_5 (k10_5 + 1) m117 ⟨up_next hm156 hn120, hl153, hg154, hlr8_5, hgr8_5⟩ (Nat.lt_succ_self _) ⟨Z, Z, Z, Z, Z, Z, Z, Z, trivial⟩ (fun w hw => hw.pick [1, 2, 3, 4, 5, 6] (by decide))
   have hm157 := br_f h143 hm142; clear hm142
   refine sr ?_
   refine wq Z (QV.eql Z Z Z Z) ?_
   refine wa Z ?_
   refine nt ?_
   refine WC.cond Z (fun h158 => ?_) (fun h158 => ?_)
   ·skip
    have hm159 := br_t h158 hm157; clear hm157
    refine WC.seq ?_
    refine WC.dr (m := 13) (S := Own M w [kn M w.heap.size K0 X7.2.2, blk b127 (Stm.cells (ele l.body k10_5)) 59, grid u13 (upd hsv15_3 t9_3 u99) 28 2 v15_5, grid X7.1 X7.2.1 28 2 r8_5, blk b3 [.slice none 0 0, .slice none 0 0] 137, blk b2 [v_s_bef, v_s_mem] 80, blk b1 [v_l_logs, v_l_body, v_l_outs] 49]) (by kernel_rfl) (by kernel_rfl) (fun w hw => hw.pick [3, 0, 1, 2, 4, 5, 6] (by decide)) ?_
    refine wz 0 Z Z (QV.fieldAddr fd59_4 Z Z) ?_
    refine wz 1 Z Z (QV.load pl3 Z Z (Own.cell 1 Z Z)) ?_
    refine wz 2 Z Z (QV.fieldAddr fd59_5 Z Z) ?_
    refine wz 3 Z Z (QV.load pl3 Z Z (Own.cell 1 Z Z)) ?_
    refine wz 4 Z Z (QV.move Z Z) ?_
    refine wz 5 Z Z (QV.fieldAddr fd49_0 Z Z) ?_
    refine wz 6 Z Z (QV.load pl30 Z Z (Own.cell 6 Z Z)) ?_
    refine wz 7 Z Z (QV.fieldAddr fd59_3 Z Z) ?_
    refine wz 8 Z Z (QV.load pl3 Z Z (Own.cell 1 Z Z)) ?_
    obtain ⟨c160, hm161⟩ := cs hm159; clear hm159
    obtain ⟨p162, hp163⟩ := (h_l_logs.le hle7).lenMap.ix (sz := 1) ln_len c160
    refine wz 9 Z Z (QV.indexSlice sl30 Z Z Z Z hp163) ?_
    refine wz 10 Z Z (QV.load pl3 Z Z (fun w hw => CellsAt.one 0 (((Own.karr 0 Z hk (h_l_logs.le hle7)) w hw).ele hp163 c160) Z)) ?_
    obtain ⟨x164, hx165, hm166⟩ := bd_some hm161; clear hm161
    refine wz 11 Z Z (QV.call en59 (EvAll.cons Z Z (EvAll.cons Z Z (EvAll.cons Z Z (EvAll.cons Z Z EvAll.nil)))) (fun w hw => have h := roundelayref1_Index_w w hx165 ; h)) ?_
    refine wz 12 Z Z (QV.assign Z Z) ?_
    refine WD.e (by kernel_rfl) ?_
    refine WQ.then ?_
    refine WC.dr (m := 15) (S := Own M w [kn M w.heap.size K0 X7.2.2, blk b127 (Stm.cells (ele l.body k10_5)) 59, grid u13 (upd hsv15_3 t9_3 u99) 28 2 v15_5, grid X7.1 X7.2.1 28 2 r8_5, blk b3 [.slice none 0 0, .slice none 0 0] 137, blk b2 [v_s_bef, v_s_mem] 80, blk b1 [v_l_logs, v_l_body, v_l_outs] 49]) (by kernel_rfl) (by kernel_rfl) (fun w hw => hw.pick [3, 0, 1, 2, 4, 5, 6] (by decide)) ?_
    refine wz 0 Z Z (QV.move Z Z) ?_
    refine wz 1 Z Z (QV.move Z Z) ?_
    obtain ⟨c167, hm168⟩ := cs hm166; clear hm166
    obtain ⟨p169, hp170⟩ := hlv15_5.ix (sz := 1) ln_len c167
    refine wz 2 Z Z (QV.indexSlice sl29 Z Z Z Z hp170) ?_
    refine wz 3 Z Z (QV.load pl28 Z Z (Own.gridHdr 2 Z hp170 c167)) ?_
    refine wz 4 Z Z (QV.move Z Z) ?_
    refine wz 5 Z Z (QV.move Z Z) ?_
    refine wz 6 Z Z (QV.fieldAddr fd59_3 Z Z) ?_
    refine wz 7 Z Z (QV.load pl3 Z Z (Own.cell 1 Z Z)) ?_
    obtain ⟨c171, hm172⟩ := cs hm168; clear hm168
    obtain ⟨p173, hp174⟩ := hlr8_5.ix (sz := 1) ln_len c171
    refine wz 8 Z Z (QV.indexSlice sl29 Z Z Z Z hp174) ?_
    refine wz 9 Z Z (QV.load pl28 Z Z (Own.gridHdr 3 Z hp174 c171)) ?_
    refine wz 10 Z Z (QV.move Z Z) ?_
    obtain ⟨c175, hm176⟩ := cs hm172; clear hm172
    obtain ⟨p177, hp178⟩ := (hgr8_5.ix ((ele l.body k10_5).ar)).ix (sz := 1) ln_len c175
    refine wz 11 Z Z (QV.indexSlice sl28 Z Z Z Z hp178) ?_
    refine wz 12 Z Z (QV.load pl2 Z Z (fun w hw => CellsAt.one 0 (((Own.gridArr 3 Z c171) w hw).ele hp178 c175) Z)) ?_
    obtain ⟨c179, hm180⟩ := cs hm176; clear hm176
    obtain ⟨p181, hp182⟩ := (hgv15_5.ix t9_3).ix (sz := 1) ln_len c179
    refine wz 13 Z Z (QV.indexSlice sl28 Z Z Z Z hp182) ?_
    refine WD.l 14 Z (by kernel_rfl) Z ?_
    refine (EV.storeG 1 (ele (ele r8_5 ((ele l.body k10_5).ar)) x164) Z Z Z Z Z c167 hp182 sz2 ?_)
    have hg184 := hgv15_5.updG t9_3 k10_5 (ele (ele r8_5 ((ele l.body k10_5).ar)) x164)
    have hl183 : SliceLen u13 (updG v15_5 t9_3 k10_5 (ele (ele r8_5 ((ele l.body k10_5).ar)) x164)).length := slen_updG hlv15_5
    refine WQ.block (WQ.block (WQ.then (WC.region ?_)))
    refine wm Z ?_
    obtain ⟨c185, hm186⟩ := cs hm180; clear hm180
    refine wq Z (QV.add Z Z Z Z c185) ?_
    refine wa Z ?_
    refine WL.nil ?_
    exact WQ.again3 (updG v15_5 t9_3 k10_5 (ele (ele r8_5 ((ele l.body k10_5).ar)) x164)) r8_5 (k10_5 + 1) m117 ⟨up_next hm186 hn120, hl183, hg184, hlr8_5, hgr8_5⟩ (Nat.lt_succ_self _) ⟨Z, Z, Z, Z, Z, Z, Z, Z, trivial⟩ (fun w hw => hw.pick [1, 2, 3, 4, 5, 6] (by decide))
   have hm187 := br_f h158 hm157; clear hm157
   refine sr ?_
   refine wq Z (QV.eql Z Z Z Z) ?_
   refine wa Z ?_
   refine nt ?_
   refine WC.cond Z (fun h188 => ?_) (fun h188 => ?_)
   ·skip
    have hm189 := br_t h188 hm187; clear hm187
    refine WC.seq ?_
    refine WC.dr (m := 13) (S := Own M w [kn M w.heap.size K0 X7.2.2, blk b127 (Stm.cells (ele l.body k10_5)) 59, grid u13 (upd hsv15_3 t9_3 u99) 28 2 v15_5, grid X7.1 X7.2.1 28 2 r8_5, blk b3 [.slice none 0 0, .slice none 0 0] 137, blk b2 [v_s_bef, v_s_mem] 80, blk b1 [v_l_logs, v_l_body, v_l_outs] 49]) (by kernel_rfl) (by kernel_rfl) (fun w hw => hw.pick [3, 0, 1, 2, 4, 5, 6] (by decide)) ?_
    refine wz 0 Z Z (QV.fieldAddr fd59_4 Z Z) ?_
    refine wz 1 Z Z (QV.load pl3 Z Z (Own.cell 1 Z Z)) ?_
    refine wz 2 Z Z (QV.fieldAddr fd59_5 Z Z) ?_
    refine wz 3 Z Z (QV.load pl3 Z Z (Own.cell 1 Z Z)) ?_
    refine wz 4 Z Z (QV.move Z Z) ?_
    refine wz 5 Z Z (QV.fieldAddr fd49_0 Z Z) ?_
    refine wz 6 Z Z (QV.load pl30 Z Z (Own.cell 6 Z Z)) ?_
    refine wz 7 Z Z (QV.fieldAddr fd59_3 Z Z) ?_
    refine wz 8 Z Z (QV.load pl3 Z Z (Own.cell 1 Z Z)) ?_
    obtain ⟨c190, hm191⟩ := cs hm189; clear hm189
    obtain ⟨p192, hp193⟩ := (h_l_logs.le hle7).lenMap.ix (sz := 1) ln_len c190
    refine wz 9 Z Z (QV.indexSlice sl30 Z Z Z Z hp193) ?_
    refine wz 10 Z Z (QV.load pl3 Z Z (fun w hw => CellsAt.one 0 (((Own.karr 0 Z hk (h_l_logs.le hle7)) w hw).ele hp193 c190) Z)) ?_
    obtain ⟨x194, hx195, hm196⟩ := bd_some hm191; clear hm191
    refine wz 11 Z Z (QV.call en59 (EvAll.cons Z Z (EvAll.cons Z Z (EvAll.cons Z Z (EvAll.cons Z Z EvAll.nil)))) (fun w hw => have h := roundelayref1_Index_w w hx195 ; h)) ?_
    refine wz 12 Z Z (QV.assign Z Z) ?_
    refine WD.e (by kernel_rfl) ?_
    refine WQ.then (sr ?_)
    refine wq Z (QV.loadAgg ag80 Z Z Z (Own.cellsBlk 5 Z)) ?_
    refine wm Z ?_
    refine wf fd59_1 Z ?_
    refine wq Z (QV.loadAgg ag57 Z Z Z (fun w hw => (Own.cellsBlk 0 Z w hw).sub 1 2 Z)) ?_
    refine wm Z ?_
    obtain ⟨x197, hx198, hm199⟩ := bd_some hm196; clear hm196
    refine wq Z (QV.call en117 (EvAll.cons Z Z (EvAll.cons Z Z (EvAll.cons Z Z (EvAll.cons Z Z EvAll.nil)))) (fun w hw => have h := roundelayref3_is_w w hx198 (Own.krows 3 Z hk (h_s_bef.le hle7) w hw) (Own.krows 3 Z hk (h_s_mem.le hle7) w hw) (Own.gridRows 1 Z w hw); h)) ?_
    refine wa Z ?_
    refine ns ?_
    refine wm Z ?_
    refine wf fd59_3 Z ?_
    refine wl pl3 Z (Own.cell 0 Z Z) ?_
    obtain ⟨c200, hm201⟩ := cs hm199; clear hm199
    obtain ⟨p202, hp203⟩ := hlr8_5.ix (sz := 1) ln_len c200
    refine wq Z (QV.indexSlice sl29 Z Z Z Z hp203) ?_
    refine wl pl28 Z (Own.gridHdr 2 Z hp203 c200) ?_
    refine wm Z ?_
    refine wm Z ?_
    obtain ⟨c204, hm205⟩ := cs hm201; clear hm201
    obtain ⟨p206, hp207⟩ := (hgr8_5.ix ((ele l.body k10_5).ar)).ix (sz := 1) ln_len c204
    refine wq Z (QV.indexSlice sl28 Z Z Z Z hp207) ?_
    refine WL.effect Z ?_
    refine (EV.storeG 2 x197 Z Z Z Z Z c200 hp207 sz2 ?_)
    have hg209 := hgr8_5.updG ((ele l.body k10_5).ar) x194 x197
    have hl208 : SliceLen X7.1 (updG r8_5 ((ele l.body k10_5).ar) x194 x197).length := slen_updG hlr8_5
    refine nr ?_
    refine wm Z ?_
    refine wm Z ?_
    obtain ⟨c210, hm211⟩ := cs hm205; clear hm205
    obtain ⟨p212, hp213⟩ := hlv15_5.ix (sz := 1) ln_len c210
    refine wq Z (QV.indexSlice sl29 Z Z Z Z hp213) ?_
    refine wl pl28 Z (Own.gridHdr 1 Z hp213 c210) ?_
    refine wm Z ?_
    refine wm Z ?_
    obtain ⟨c214, hm215⟩ := cs hm211; clear hm211
    obtain ⟨p216, hp217⟩ := (hgv15_5.ix t9_3).ix (sz := 1) ln_len c214
    refine wq Z (QV.indexSlice sl28 Z Z Z Z hp217) ?_
    refine WL.effect Z ?_
    refine (EV.storeG 1 x197 Z Z Z Z Z c210 hp217 sz2 ?_)
    have hg219 := hgv15_5.updG t9_3 k10_5 x197
    have hl218 : SliceLen u13 (updG v15_5 t9_3 k10_5 x197).length := slen_updG hlv15_5
    refine WL.nil (WQ.block (WQ.block (WQ.then (WC.region ?_))))
    refine wm Z ?_
    obtain ⟨c220, hm221⟩ := cs hm215; clear hm215
    refine wq Z (QV.add Z Z Z Z c220) ?_
    refine wa Z ?_
    refine WL.nil ?_
    exact WQ.again3 (updG v15_5 t9_3 k10_5 x197) (updG r8_5 ((ele l.body k10_5).ar) x194 x197) (k10_5 + 1) m117 ⟨up_next hm221 hn120, hl218, hg219, hl208, hg209⟩ (Nat.lt_succ_self _) ⟨Z, Z, Z, Z, Z, Z, Z, Z, trivial⟩ (fun w hw => hw.pick [1, 2, 3, 4, 5, 6] (by decide))
   have hm222 := br_f h188 hm187; clear hm187
   refine sr ?_
   refine wq Z (QV.loadAgg ag80 Z Z Z (Own.cellsBlk 5 Z)) ?_
   refine wm Z ?_
   refine wf fd59_1 Z ?_
   refine wq Z (QV.loadAgg ag57 Z Z Z (fun w hw => (Own.cellsBlk 0 Z w hw).sub 1 2 Z)) ?_
   refine wm Z ?_
   obtain ⟨x223, hx224, hm225⟩ := bd_some hm222; clear hm222
   refine wq Z (QV.call en117 (EvAll.cons Z Z (EvAll.cons Z Z (EvAll.cons Z Z (EvAll.cons Z Z EvAll.nil)))) (fun w hw => have h := roundelayref3_is_w w hx224 (Own.krows 3 Z hk (h_s_bef.le hle7) w hw) (Own.krows 3 Z hk (h_s_mem.le hle7) w hw) (Own.gridRows 1 Z w hw); h)) ?_
   refine wa Z ?_
   refine ns ?_
   refine wq Z (QV.loadAgg ag80 Z Z Z (Own.cellsBlk 5 Z)) ?_
   refine wm Z ?_
   refine wf fd59_2 Z ?_
   refine wq Z (QV.loadAgg ag57 Z Z Z (fun w hw => (Own.cellsBlk 0 Z w hw).sub 3 2 Z)) ?_
   refine wm Z ?_
   obtain ⟨x226, hx227, hm228⟩ := bd_some hm225; clear hm225
   refine wq Z (QV.call en117 (EvAll.cons Z Z (EvAll.cons Z Z (EvAll.cons Z Z (EvAll.cons Z Z EvAll.nil)))) (fun w hw => have h := roundelayref3_is_w w hx227 (Own.krows 3 Z hk (h_s_bef.le hle7) w hw) (Own.krows 3 Z hk (h_s_mem.le hle7) w hw) (Own.gridRows 1 Z w hw); h)) ?_
   refine wa Z ?_
   refine nt ?_
   refine WC.dr (m := 13) (S := Own M w [kn M w.heap.size K0 X7.2.2, blk b127 (Stm.cells (ele l.body k10_5)) 59, grid u13 (upd hsv15_3 t9_3 u99) 28 2 v15_5, grid X7.1 X7.2.1 28 2 r8_5, blk b3 [.slice none 0 0, .slice none 0 0] 137, blk b2 [v_s_bef, v_s_mem] 80, blk b1 [v_l_logs, v_l_body, v_l_outs] 49]) (by kernel_rfl) (by kernel_rfl) (fun w hw => hw.pick [3, 0, 1, 2, 4, 5, 6] (by decide)) ?_
   refine wz 0 Z Z (QV.move Z Z) ?_
   refine wz 1 Z Z (QV.move Z Z) ?_
   obtain ⟨c229, hm230⟩ := cs hm228; clear hm228
   obtain ⟨p231, hp232⟩ := hlv15_5.ix (sz := 1) ln_len c229
   refine wz 2 Z Z (QV.indexSlice sl29 Z Z Z Z hp232) ?_
   refine wz 3 Z Z (QV.load pl28 Z Z (Own.gridHdr 2 Z hp232 c229)) ?_
   refine wz 4 Z Z (QV.move Z Z) ?_
   refine wz 5 Z Z (QV.fieldAddr fd59_0 Z Z) ?_
   refine wz 6 Z Z (QV.load pl3 Z Z (Own.cell 1 Z Z)) ?_
   obtain ⟨c233, hm234⟩ := cs hm230; clear hm230
   refine wz 7 Z Z (QV.sub Z Z Z Z c233) ?_
   refine wz 8 Z Z (QV.move Z Z) ?_
   refine wz 9 Z Z (QV.move Z Z) ?_
   obtain ⟨x235, hx236, hm237⟩ := bd_some hm234; clear hm234
   refine wz 10 Z Z (QV.call en60 (EvAll.cons Z Z (EvAll.cons Z Z (EvAll.cons Z Z EvAll.nil))) (fun w hw => have h := roundelayref1_Op_w w hx236 ; h)) ?_
   obtain ⟨c238, hm239⟩ := cs hm237; clear hm237
   obtain ⟨p240, hp241⟩ := (hgv15_5.ix t9_3).ix (sz := 1) ln_len c238
   refine wz 11 Z Z (QV.indexSlice sl28 Z Z Z Z hp241) ?_
   refine WD.l 12 Z (by kernel_rfl) Z ?_
   refine (EV.storeG 1 x235 Z Z Z Z Z c229 hp241 sz2 ?_)
   have hg243 := hgv15_5.updG t9_3 k10_5 x235
   have hl242 : SliceLen u13 (updG v15_5 t9_3 k10_5 x235).length := slen_updG hlv15_5
   refine WQ.block (WQ.block (WQ.then (WC.region ?_)))
   refine wm Z ?_
   obtain ⟨c244, hm245⟩ := cs hm239; clear hm239
   refine wq Z (QV.add Z Z Z Z c244) ?_
   refine wa Z ?_
   refine WL.nil ?_
   exact WQ.again3 (updG v15_5 t9_3 k10_5 x235) r8_5 (k10_5 + 1) m117 ⟨up_next hm245 hn120, hl242, hg243, hlr8_5, hgr8_5⟩ (Nat.lt_succ_self _) ⟨Z, Z, Z, Z, Z, Z, Z, Z, trivial⟩ (fun w hw => hw.pick [1, 2, 3, 4, 5, 6] (by decide))
  have hm246 := br_f h121 hm119; clear hm119
  refine WC.exit (te (te (WQ.block_exit ?_)))
  exact WQ.out3 v15_5 r8_5 k10_5 ⟨up_brk hm246 hn120, hlv15_5, hgv15_5, hlr8_5, hgr8_5⟩ ⟨Z, Z, Z, Z, Z, Z, Z, Z, trivial⟩ (fun w hw => hw.pick [0, 1, 2, 3, 4, 5] (by decide))
 have hm247 := br_f h93 hm91; clear hm91
 refine WC.exit (te (te (WQ.block_exit ?_)))
 exact WQ.out4 v15_3 r8_3 t9_3 hsv15_3 ⟨up_brk hm247 hn92, hlv15_3, hgv15_3, hlr8_3, hgr8_3⟩ ⟨Z, Z, Z, Z, Z, Z, Z, trivial⟩ (fun w hw => hw.pick [0, 1, 2, 3, 4, 5] (by decide))
end Go.Proofs.Ytaimbkndebaaiab
end

section
namespace Go.Proofs.Ytaimbkndebaaiab
open Go.Rd
set_option linter.unusedVariables false
open TNum TLoop TKern TKeep TOrd TCpt TDep TSched1 TEmit TCheck TRDep TR10 TR10b TClone TNbr TSeq
namespace TR5b
theorem ag102 : AggT Try.prog 102 3 := ⟨_, Try.underlying102, rfl, by kernel_rfl⟩
theorem en14 : Go.Rd.Enters Try.prog 14 := ⟨Try.f14, Try.func14, by kernel_rfl, by kernel_rfl⟩
theorem fd102_0 : FieldT Try.prog 102 0 0 := ⟨_, _, 0, Try.underlying102, rfl, rfl, by kernel_rfl⟩
theorem fd102_1 : FieldT Try.prog 102 1 1 := ⟨_, _, 0, Try.underlying102, rfl, rfl, by kernel_rfl⟩
theorem fd102_2 : FieldT Try.prog 102 2 2 := ⟨_, _, 0, Try.underlying102, rfl, rfl, by kernel_rfl⟩
theorem sl100 : SliceT Try.prog 100 102 3 := ⟨Try.underlying100, by kernel_rfl⟩
theorem sz_100 : SliceZ Try.prog 100 102 3 [.int .i64 0, .int .i64 0, .int .i64 0] := ⟨Try.underlying100, by kernel_rfl⟩
theorem ve100 : VecT Try.prog 100 102 3 24 := ⟨Try.underlying100, by kernel_rfl, by decide⟩
end TR5b
open TR5b
set_option maxRecDepth 8000 in
theorem roundelayref5_Logs_w {v_m_ : Value} {m_ : List (List Int)} {r : List Int × Bool} {K0 : World} (hm : roundelayref5_Logs_m m_ = some r) (h_m_ : RowsA K0 v_m_ m_) (M : Nat → Prop) (w : World) (hk : Base M K0 w) (hw0 : Own M w [] w) : Calls Try.prog 14 #[v_m_] w (fun e w' => ∃ X : Value × World, e = .returned (.tuple #[X.1, .bool r.2]) ∧ Own M w (kn M w.heap.size K0 X.2 :: []) w' ∧ Arr X.2 X.1 1 (r.1.map icell)) := by
 unfold roundelayref5_Logs_m at hm
 refine calls_of_WC (n := 34) (args := [v_m_]) Try.func14 Z Z (Nat.le_of_ble_eq_true Z) ?_ (Own.startK hk hw0)
 refine sr ?_
 refine wa Z ?_
 refine wa Z ?_
 refine ns ?_
 refine wa Z ?_
 refine nt (WC.seq (sr ?_))
 refine wa Z ?_
 refine nt ?_
 refine WK.of (fun w hw => hw.vecNil (E := 3) (sz := 1) (enc := icell)) ?_
 obtain ⟨o2, ho3, hm4⟩ := bd_some hm; clear hm; obtain ⟨n5, ho6⟩ := lp_some ho3
 refine WC.bloop3 (H2 := [kn M w.heap.size K0 K0]) (τ := [(0, (true, _))]) (fun (v1_4 : List Int) (i5_4 : Int) (uv1_4 : Value) => [(4, (true, uv1_4)), (5, (true, .int .i64 i5_4))]) (fun v1_4 i5_4 uv1_4 => [vec uv1_4 3 1 (List.map icell v1_4)]) (fun v1_4 i5_4 uv1_4 m => iter (roundelayref5_Logs_L0 m_) m (v1_4, i5_4) = some o2 ∧ SliceLen uv1_4 v1_4.length) (fun v1_4 i5_4 uv1_4 => o2 = .go (v1_4, i5_4) ∧ SliceLen uv1_4 v1_4.length) [] 0 (.slice none 0 0) n5 ⟨ho6, SliceLen.nil⟩ ⟨Z, Z, Z, trivial⟩ (fun w hw => hw.pick [0, 1] (by decide)) ?_ ?_
 ·skip
  rintro v1_4 i5_4 uv1_4 ⟨rfl, hlv1_4⟩
  refine WQ.then (sr ?_)
  refine wm Z ?_
  refine wa Z ?_
  refine wa Z ?_
  refine nt (WC.ret ?_)
  obtain rfl := (eq_of_some hm4).symm
  refine WK.of (C' := Own M w [kn M w.heap.size K0 K0, vec uv1_4 3 1 (List.map icell v1_4)]) (fun w hw => hw.pick [1, 0] (by decide)) ?_
  refine WK.freeze hk (fun k7 hle7 hr7 => ?_)
  have hA7 := vec_arr hr7
  refine WQ.ret2 Z Z Z (fun w hw => ?_)
  exact ⟨(uv1_4, k7), Z, hw.pick [0] (by decide), hA7⟩
 rintro v1_4 i5_4 uv1_4 m8 ⟨hI9, hlv1_4⟩
 obtain ⟨m10, s11, rfl, hm12, hn13⟩ := iter_step hI9; clear hI9; unfold roundelayref5_Logs_L0 at hm12; simp only at hm12
 refine WC.seq (sr ?_)
 refine wm Z ?_
 refine wm Z ?_
 refine wq Z (QV.lenS Try.underlying29 Z Z h_m_.slen) ?_
 refine wq Z (QV.lss Z Z Z Z) ?_
 refine nt ?_
 refine WC.cond Z (fun h14 => ?_) (fun h14 => ?_)
 ·skip
  have hm15 := br_t h14 hm12; clear hm12
  refine sk (WQ.then (WC.seq (WC.block (sr ?_))))
  refine wa Z ?_
  refine nt (WC.seq ?_)
  obtain ⟨o16, ho17, hm18⟩ := bd_some hm15; clear hm15; obtain ⟨n19, ho20⟩ := lp_some ho17
  refine WC.bloop1 (H2 := [vec uv1_4 3 1 (List.map icell v1_4), kn M w.heap.size K0 K0]) (τ := [(0, (true, _)), (4, (true, _)), (5, (true, _))]) (fun (log6_5 : Int) => [(6, (true, .int .i64 log6_5))]) (fun log6_5 => []) (fun log6_5 m => iter (roundelayref5_Logs_L2 m_ i5_4) m log6_5 = some o16) (fun log6_5 => o16 = .go log6_5) 0 n19 ho20 ⟨Z, Z, Z, Z, trivial⟩ (fun w hw => hw.pick [0, 1] (by decide)) ?_ ?_
  ·skip
   rintro log6_5 rfl
   refine WQ.then (WC.seq (sr ?_))
   refine wm Z ?_
   refine wq Z (QV.gtr Z Z Z Z) ?_
   refine nt ?_
   refine WC.cond Z (fun h21 => ?_) (fun h21 => ?_)
   ·skip
    have hm22 := br_t h21 hm18; clear hm18
    refine sr ?_
    refine wa Z ?_
    refine wa Z ?_
    refine nt (WC.ret (tr (kr (tr (tr (kr (tr (tr ?_))))))))
    obtain rfl := up_ret hm22 hn13
    obtain rfl := (eq_of_some hm4).symm
    refine WQ.ret2 Z Z Z (fun w hw => ?_)
    exact ⟨(.slice none 0 0, K0), Z, hw.pick [1] (by decide), Arr.nil⟩
   have hm23 := br_f h21 hm18; clear hm18
   refine sk (WQ.then (WC.region ?_))
   refine wm Z ?_
   refine wm Z ?_
   refine WL.effect Z ?_
   refine (EV.buildSlice (by decide) sz_30 (by decide) (by decide) (ps := [(0, .tmp 30)]) (cells := [.int .i64 log6_5]) (EvAll.cons Z Z EvAll.nil) (by kernel_rfl) (fun b24 => ?_))
   refine WL.effect Z ?_
   obtain ⟨c25, hm26⟩ := cs hm23; clear hm23
   refine (EV.appendL (enc := icell) (xs := v1_4) (ys := [log6_5]) ((v1_4 ++ [log6_5])) 1 (by decide) ve30 Z Z Z Z Z (Own.blkArr 0 (rows := [log6_5].map icell) Z Z (rows_len icell_len)) icell_len (icell_one _) Z c25.1 c25.2 (fun u27 hu28 => ?_))
   refine wa Z ?_
   refine WL.nil (WQ.block (WQ.then (WC.region ?_)))
   refine wm Z ?_
   obtain ⟨c29, hm30⟩ := cs hm26; clear hm26
   refine wq Z (QV.add Z Z Z Z c29) ?_
   refine wa Z ?_
   refine WL.nil ?_
   exact WQ.again3 (v1_4 ++ [log6_5]) (i5_4 + 1) u27 m10 ⟨up_next hm30 hn13, hu28⟩ (Nat.lt_succ_self _) ⟨Z, Z, Z, trivial⟩ (fun w hw => hw.pick [1, 2] (by decide))
  rintro log6_5 m31 hI32
  obtain ⟨m33, s34, rfl, hm35, hn36⟩ := iter_step hI32; clear hI32; unfold roundelayref5_Logs_L2 at hm35
  refine WC.seq (WC.seq ?_)
  refine WC.dr (m := 12) (S := Own M w [kn M w.heap.size K0 K0, vec uv1_4 3 1 (List.map icell v1_4)]) (by kernel_rfl) (by kernel_rfl) (fun w hw => hw.pick [1, 0] (by decide)) ?_
  refine wz 0 Z Z (QV.move Z Z) ?_
  refine wz 1 Z Z (QV.leq Z Z Z Z) ?_
  refine wz 2 Z Z (QV.move Z Z) ?_
  refine WD.g 3 Z (by kernel_rfl) Z Z (GuardIs.pos Z Z) (fun hG => QV.move Z Z) ?_
  obtain ⟨x37, hx38, hm39⟩ := bdG_some hm35; clear hm35
  refine WD.g 4 Z (by kernel_rfl) Z Z (GuardIs.pos Z Z) (fun hG => QV.call en45 (EvAll.cons Z hG EvAll.nil) (fun w hw => have h := roundelayref1_Size_w w (hx38 hG) ; h)) ?_
  refine WD.g 5 Z (by kernel_rfl) Z Z (GuardIs.pos Z Z) (fun hG => QV.move Z Z) ?_
  refine WD.g 6 Z (by kernel_rfl) Z Z (GuardIs.pos Z Z) (fun hG => QV.move Z Z) ?_
  obtain ⟨c40, hm41⟩ := cs hm39; clear hm39
  obtain ⟨p42, u44, hp43, hc45, hA46⟩ := h_m_.ixG c40
  refine WD.g 7 Z (by kernel_rfl) Z Z (GuardIs.pos Z Z) (fun hG => QV.indexSlice sl29 Z hG Z hG (hp43 hG)) ?_
  refine WD.g 8 Z (by kernel_rfl) Z Z (GuardIs.pos Z Z) (fun hG => QV.load pl28 Z hG (fun w hw => CellsAt.one 0 ((Own.kcells 0 Z hk (hc45 hG)) w hw) Z)) ?_
  refine WD.g 9 Z (by kernel_rfl) Z Z (GuardIs.pos Z Z) (fun hG => QV.lenS Try.underlying28 Z hG hA46.lenMap) ?_
  refine WD.g 10 Z (by kernel_rfl) Z Z (GuardIs.pos Z Z) (fun hG => QV.neq Z hG Z hG) ?_
  refine wz 11 Z Z (QV.pickAnd Z Z Z (fun h => h)) ?_
  refine WD.e (by kernel_rfl) ?_
  refine WQ.then ?_
  refine WC.cond Z (fun h47 => ?_) (fun h47 => ?_)
  ·skip
   have hm48 := br_t h47 hm41; clear hm41
   refine sk (WQ.then (WC.block (WC.region ?_)))
   refine wm Z ?_
   obtain ⟨c49, hm50⟩ := cs hm48; clear hm48
   refine wq Z (QV.add Z Z Z Z c49) ?_
   refine wa Z ?_
   refine WL.nil (WQ.block ?_)
   exact WQ.again1 (log6_5 + 1) m33 (up_next hm50 hn36) (Nat.lt_succ_self _) ⟨Z, Z, Z, Z, trivial⟩ (fun w hw => hw.pick [0, 1] (by decide))
  have hm51 := br_f h47 hm41; clear hm41
  refine WC.exit (te (te (WQ.block_exit ?_)))
  exact WQ.out1 log6_5 (up_brk hm51 hn36) ⟨Z, Z, Z, Z, trivial⟩ (fun w hw => hw.pick [0, 1] (by decide))
 have hm52 := br_f h14 hm12; clear hm12
 refine WC.exit (te (te (WQ.block_exit ?_)))
 exact WQ.out3 v1_4 i5_4 uv1_4 ⟨up_brk hm52 hn13, hlv1_4⟩ ⟨Z, Z, Z, trivial⟩ (fun w hw => hw.pick [0, 1] (by decide))

set_option maxRecDepth 8000 in
theorem roundelayref5_Play_w {v_k__ops : Value} {v_regs : Value} {v_memory : Value} {t : Tgt} {k_ : Krn} {regs : List Int} {memory : List (List Int)} {turns : Int} {r : List Int × List (List Int)} {K0 : World} (hm : roundelayref5_Play_m t k_ regs memory turns = some r) (h_k__ops : Arr K0 v_k__ops 10 (k_.ops.map Opr.cells)) (h_regs : Arr K0 v_regs 1 (regs.map icell)) (h_memory : RowsA K0 v_memory memory) (M : Nat → Prop) (w : World) (hk : Base M K0 w) (hw0 : Own M w [] w) : Calls Try.prog 20 #[.agg #[.int .i64 t.u0, .int .i64 t.u1, .int .i64 t.u2, .int .i64 t.w0, .int .i64 t.w1, .int .i64 t.w2, .int .i64 t.regs], .agg #[.int .i64 k_.pace, .int .i64 k_.stages, v_k__ops], v_regs, v_memory, .int .i64 turns] w (fun e w' => ∃ X : Value × Value × World, e = .returned (.tuple #[X.1, X.2.1]) ∧ Own M w (kn M w.heap.size K0 X.2.2 :: []) w' ∧ Arr X.2.2 X.1 1 (r.1.map icell) ∧ RowsA X.2.2 X.2.1 r.2) := by
 unfold roundelayref5_Play_m at hm
 refine calls_of_WC (n := 233) (args := [.agg #[.int .i64 t.u0, .int .i64 t.u1, .int .i64 t.u2, .int .i64 t.w0, .int .i64 t.w1, .int .i64 t.w2, .int .i64 t.regs], .agg #[.int .i64 k_.pace, .int .i64 k_.stages, v_k__ops], v_regs, v_memory, .int .i64 turns]) Try.func20 Z Z (Nat.le_of_ble_eq_true Z) ?_ (Own.startK hk hw0)
 refine sr ?_
 refine WL.effect Z ?_
 refine (EV.boxAgg (by decide) Z Z (fun b1 => ?_))
 refine WL.effect Z ?_
 refine (EV.boxAgg (by decide) Z Z (fun b2 => ?_))
 refine wa Z ?_
 refine wa Z ?_
 refine ns ?_
 refine WL.effect Z ?_
 refine (EV.buildSlice0 (by decide) sz_28 (fun b3 => ?_))
 refine wm Z ?_
 refine WL.effect Z ?_
 refine EV.of (fun w hw => hw.blkVec icell ([] : List Int) Z icell_len (Nat.le_of_ble_eq_true Z)) ?_
 obtain ⟨c4, hm5⟩ := cs hm; clear hm
 refine (EV.appendL (enc := icell) (xs := []) (ys := regs) (([] ++ regs)) 0 (by decide) ve28 Z Z Z Z Z (Own.karr 3 Z hk h_regs) icell_len (icell_one _) Z c4.1 c4.2 (fun u6 hu7 => ?_))
 refine wa Z ?_
 refine ns ?_
 refine wm Z ?_
 refine WL.effect Z ?_
 obtain ⟨x8, hx9, hm10⟩ := bd_some hm5; clear hm5
 refine EV.of (C' := Own M w [kn M w.heap.size K0 K0, vec u6 2 1 (List.map icell ([] ++ regs)), blk b2 [.int .i64 k_.pace, .int .i64 k_.stages, v_k__ops] 27, blk b1 t.cells 24]) (fun w hw => hw.pick [3, 0, 1, 2] (by decide)) ?_
 refine (EV.callR (X := Value × (List Value) × World) (R := []) (fun X => X.1) (fun X => [grid X.1 X.2.1 28 2 x8]) (fun X => X.2.2) (fun X => SliceLen X.1 (x8).length ∧ GL X.2.1 x8) hk (fun _ h => by cases h; decide) en58 (EvAll.cons Z Z EvAll.nil) (fun M w h1 h2 => have h := roundelayref3_Copy_w hx9 h_memory M w h1 h2; h) (fun X11 hF11 hle11 => ?_))
 refine wa Z ?_
 refine ns ?_
 refine wm Z ?_
 refine WL.effect Z ?_
 obtain ⟨x13, hx14, hm15⟩ := bd_some hm10; clear hm10
 refine (EV.callR (X := Value × World) (R := []) (fun X => .tuple #[X.1, .bool x13.2]) (fun X => []) (fun X => X.2) (fun X => Arr X.2 X.1 1 (x13.1.map icell)) hk (fun _ h => by cases h; decide) en14 (EvAll.cons Z Z EvAll.nil) (fun M w h1 h2 => have h := roundelayref5_Logs_w hx14 (h_memory.le hle11) M w h1 h2; h) (fun X16 hF16 hle16 => ?_))
 refine wm Z ?_
 refine wq Z (QV.extract Z Z Z) ?_
 refine wq Z (QV.extract Z Z Z) ?_
 refine wa Z ?_
 refine wa Z ?_
 refine nt (WC.seq (sr ?_))
 refine wm Z ?_
 refine wq Z (QV.eql Z Z Z Z) ?_
 refine nt ?_
 refine WC.cond Z (fun h17 => ?_) (fun h17 => ?_)
 ·skip
  have hm18 := br_t h17 hm15; clear hm15
  refine sr ?_
  refine wm Z ?_
  refine wm Z ?_
  refine wa Z ?_
  refine wa Z ?_
  refine nt (WC.ret (tr ?_))
  obtain rfl := (eq_of_some hm18).symm
  refine WK.of (C' := Own M w [kn M w.heap.size K0 X16.2, vec u6 2 1 (List.map icell ([] ++ regs)), grid X11.1 X11.2.1 28 2 x8, blk b2 [.int .i64 k_.pace, .int .i64 k_.stages, v_k__ops] 27, blk b1 t.cells 24]) (fun w hw => hw.pick [0, 2, 1, 3, 4] (by decide)) ?_
  refine WK.freeze hk (fun k19 hle19 hr19 => ?_)
  have hA19 := vec_arr hr19
  refine WK.freeze hk (fun k20 hle20 hr20 => ?_)
  have hA20 := grid_rows hr20
  refine WQ.ret2 Z Z Z (fun w hw => ?_)
  exact ⟨(u6, X11.1, k20), Z, hw.pick [0] (by decide), (hA19.le hle20), hA20⟩
 have hm21 := br_f h17 hm15; clear hm15
 refine sk (WQ.then (sr ?_))
 refine wa Z ?_
 refine ns ?_
 refine wm Z ?_
 refine wf fd27_1 Z ?_
 refine wl pl3 Z (Own.cell 3 Z Z) ?_
 obtain ⟨c22, hm23⟩ := cs hm21; clear hm21
 refine wq Z (QV.add Z Z Z Z c22) ?_
 obtain ⟨c24, hm25⟩ := cs hm23; clear hm23
 refine wq Z (QV.sub Z Z Z Z c24) ?_
 refine wf fd27_0 Z ?_
 refine wl pl3 Z (Own.cell 3 Z Z) ?_
 obtain ⟨c26, hm27⟩ := cs hm25; clear hm25
 refine wq Z (QV.mul Z Z Z Z c26) ?_
 refine wa Z ?_
 refine nt (WC.seq (sr ?_))
 refine wa Z ?_
 refine nt ?_
 refine WK.of (fun w hw => hw.vecNil (E := 102) (sz := 3) (enc := Due.cells)) ?_
 refine WK.of (C' := Own M w [kn M w.heap.size K0 X16.2, grid X11.1 X11.2.1 28 2 x8, vec (.slice none 0 0) 102 3 (List.map Due.cells []), vec u6 2 1 (List.map icell ([] ++ regs)), blk b2 [.int .i64 k_.pace, .int .i64 k_.stages, v_k__ops] 27, blk b1 t.cells 24]) (fun w hw => hw.pick [1, 2, 0, 3, 4, 5] (by decide)) ?_
 refine WK.freeze hk (fun k29 hle29 hr29 => ?_)
 have hA29 := grid_rows hr29
 obtain ⟨o30, ho31, hm32⟩ := bd_some hm27; clear hm27; obtain ⟨n33, ho34⟩ := lp_some ho31
 refine WC.bloop7 (H2 := [blk b2 [.int .i64 k_.pace, .int .i64 k_.stages, v_k__ops] 27, blk b1 t.cells 24]) (τ := [(4, (true, _)), (5, (true, _)), (6, (true, _)), (12, (true, _)), (14, (true, _)), (17, (true, _))]) (fun (v28_9 : List Due) (v3_9 : List Int) (m13_9 : List (List Int)) (now18_9 : Int) (uv28_9 : Value) (vm13_9 : Value) (k_9 : World) => [(13, (true, vm13_9)), (16, (true, uv28_9)), (18, (true, .int .i64 now18_9))]) (fun v28_9 v3_9 m13_9 now18_9 uv28_9 vm13_9 k_9 => [kn M w.heap.size K0 k_9, vec uv28_9 102 3 (List.map Due.cells v28_9), vec u6 2 1 (List.map icell v3_9)]) (fun v28_9 v3_9 m13_9 now18_9 uv28_9 vm13_9 k_9 m => iter (roundelayref5_Play_L0 t k_ regs turns x13) m (v28_9, v3_9, m13_9, now18_9) = some o30 ∧ SliceLen uv28_9 v28_9.length ∧ SliceLen u6 v3_9.length ∧ RowsA k_9 vm13_9 m13_9 ∧ Le k29 k_9) (fun v28_9 v3_9 m13_9 now18_9 uv28_9 vm13_9 k_9 => o30 = .go (v28_9, v3_9, m13_9, now18_9) ∧ SliceLen uv28_9 v28_9.length ∧ SliceLen u6 v3_9.length ∧ RowsA k_9 vm13_9 m13_9 ∧ Le k29 k_9) [] ([] ++ regs) x8 0 (.slice none 0 0) X11.1 k29 n33 ⟨ho34, SliceLen.nil, hu7, hA29, (Le.refl _)⟩ ⟨Z, Z, Z, Z, Z, Z, Z, Z, Z, trivial⟩ (fun w hw => hw.pick [0, 1, 2, 3, 4] (by decide)) ?_ ?_
 ·skip
  rintro v28_9 v3_9 m13_9 now18_9 uv28_9 vm13_9 k_9 ⟨rfl, hlv28_9, hlv3_9, hAm13_9, hle_9⟩
  refine WQ.then (sr ?_)
  refine wm Z ?_
  refine wm Z ?_
  refine wa Z ?_
  refine wa Z ?_
  refine nt (WC.ret ?_)
  obtain rfl := (eq_of_some hm32).symm
  refine WK.of (C' := Own M w [kn M w.heap.size K0 k_9, vec u6 2 1 (List.map icell v3_9), vec uv28_9 102 3 (List.map Due.cells v28_9), blk b2 [.int .i64 k_.pace, .int .i64 k_.stages, v_k__ops] 27, blk b1 t.cells 24]) (fun w hw => hw.pick [0, 2, 1, 3, 4] (by decide)) ?_
  refine WK.freeze hk (fun k35 hle35 hr35 => ?_)
  have hA35 := vec_arr hr35
  refine WQ.ret2 Z Z Z (fun w hw => ?_)
  exact ⟨(u6, vm13_9, k35), Z, hw.pick [0] (by decide), hA35, (hAm13_9.le hle35)⟩
 rintro v28_9 v3_9 m13_9 now18_9 uv28_9 vm13_9 k_9 m36 ⟨hI37, hlv28_9, hlv3_9, hAm13_9, hle_9⟩
 obtain ⟨m38, s39, rfl, hm40, hn41⟩ := iter_step hI37; clear hI37; unfold roundelayref5_Play_L0 at hm40; simp only at hm40
 refine WC.seq (sr ?_)
 refine wm Z ?_
 refine wm Z ?_
 obtain ⟨c42, hm43⟩ := cs hm40; clear hm40
 refine wq Z (QV.add Z Z Z Z c42) ?_
 obtain ⟨c44, hm45⟩ := cs hm43; clear hm43
 refine wq Z (QV.add Z Z Z Z c44) ?_
 refine wq Z (QV.lss Z Z Z Z) ?_
 refine nt ?_
 refine WC.cond Z (fun h46 => ?_) (fun h46 => ?_)
 ·skip
  have hm47 := br_t h46 hm45; clear hm45
  refine sk (WQ.then (WC.seq (WC.block (sr ?_))))
  refine wa Z ?_
  refine nt (WC.seq (sr ?_))
  refine wa Z ?_
  refine nt ?_
  refine WK.of (fun w hw => hw.vecNil (E := 102) (sz := 3) (enc := Due.cells)) ?_
  obtain ⟨o49, ho50, hm51⟩ := bd_some hm47; clear hm47; obtain ⟨n52, ho53⟩ := lp_some ho50
  refine WC.bloop4 (H2 := [kn M w.heap.size K0 k_9, vec uv28_9 102 3 (List.map Due.cells v28_9), blk b2 [.int .i64 k_.pace, .int .i64 k_.stages, v_k__ops] 27, blk b1 t.cells 24]) (τ := [(4, (true, _)), (5, (true, _)), (6, (true, _)), (12, (true, _)), (13, (true, _)), (14, (true, _)), (16, (true, _)), (17, (true, _)), (18, (true, _))]) (fun (v3_10 : List Int) (v48_10 : List Due) (i20_10 : Int) (uv48_10 : Value) => [(19, (true, uv48_10)), (20, (true, .int .i64 i20_10))]) (fun v3_10 v48_10 i20_10 uv48_10 => [vec uv48_10 102 3 (List.map Due.cells v48_10), vec u6 2 1 (List.map icell v3_10)]) (fun v3_10 v48_10 i20_10 uv48_10 m => iter (roundelayref5_Play_L2 v28_9 now18_9) m (v3_10, v48_10, i20_10) = some o49 ∧ SliceLen u6 v3_10.length ∧ SliceLen uv48_10 v48_10.length) (fun v3_10 v48_10 i20_10 uv48_10 => o49 = .go (v3_10, v48_10, i20_10) ∧ SliceLen u6 v3_10.length ∧ SliceLen uv48_10 v48_10.length) v3_9 [] 0 (.slice none 0 0) n52 ⟨ho53, hlv3_9, SliceLen.nil⟩ ⟨Z, Z, Z, Z, Z, Z, Z, Z, Z, Z, Z, trivial⟩ (fun w hw => hw.pick [0, 3, 1, 2, 4, 5] (by decide)) ?_ ?_
  ·skip
   rintro v3_10 v48_10 i20_10 uv48_10 ⟨rfl, hlv3_10, hlv48_10⟩
   refine WQ.then (sr ?_)
   refine wm Z ?_
   refine wa Z ?_
   refine nt (WC.seq (sr ?_))
   refine wm Z ?_
   refine wm Z ?_
   refine wq Z (QV.geq Z Z Z Z) ?_
   refine nt ?_
   refine WC.cond Z (fun h54 => ?_) (fun h54 => ?_)
   ·skip
    have hm55 := br_t h54 hm51; clear hm51
    refine WC.exit (te (WQ.block_exit (WQ.then (WC.region ?_))))
    refine wm Z ?_
    obtain ⟨c56, hm57⟩ := cs hm55; clear hm55
    refine wq Z (QV.add Z Z Z Z c56) ?_
    refine wa Z ?_
    refine WL.nil ?_
    exact WQ.again7 v48_10 v3_10 m13_9 (now18_9 + 1) uv48_10 vm13_9 k_9 m38 ⟨up_next hm57 hn41, hlv48_10, hlv3_10, hAm13_9, hle_9⟩ (Nat.lt_succ_self _) ⟨Z, Z, Z, Z, Z, Z, Z, Z, Z, trivial⟩ (fun w hw => hw.pick [2, 0, 1, 4, 5] (by decide))
   have hm58 := br_f h54 hm51; clear hm51
   refine sk (WQ.then (sr ?_))
   refine wm Z ?_
   refine wf fd27_0 Z ?_
   refine wl pl3 Z (Own.cell 4 Z Z) ?_
   obtain ⟨c59, hm60⟩ := cs hm58; clear hm58
   obtain ⟨c61, hm62⟩ := cs hm60; clear hm60
   refine wq Z (QV.quo Z Z Z Z c59 c61) ?_
   refine wa Z ?_
   refine ns ?_
   refine wm Z ?_
   refine WL.effect Z ?_
   obtain ⟨x63, hx64, hm65⟩ := bd_some hm62; clear hm62
   refine EV.of (C' := Own M w [kn M w.heap.size K0 k_9, vec uv48_10 102 3 (List.map Due.cells v48_10), vec u6 2 1 (List.map icell v3_10), vec uv28_9 102 3 (List.map Due.cells v28_9), blk b2 [.int .i64 k_.pace, .int .i64 k_.stages, v_k__ops] 27, blk b1 t.cells 24]) (fun w hw => hw.pick [2, 0, 1, 3, 4, 5] (by decide)) ?_
   refine (EV.callR (X := Value × (List Value) × World) (R := []) (fun X => X.1) (fun X => [grid X.1 X.2.1 28 2 x63]) (fun X => X.2.2) (fun X => SliceLen X.1 (x63).length ∧ GL X.2.1 x63) hk (fun _ h => by cases h; decide) en58 (EvAll.cons Z Z EvAll.nil) (fun M w h1 h2 => have h := roundelayref3_Copy_w hx64 hAm13_9 M w h1 h2; h) (fun X66 hF66 hle66 => ?_))
   refine wa Z ?_
   refine nt (WC.seq (sr ?_))
   refine wa Z ?_
   refine nt ?_
   obtain ⟨o68, ho69, hm70⟩ := bd_some hm65; clear hm65; obtain ⟨n71, ho72⟩ := lp_some ho69
   refine WC.bloop4 (H2 := [kn M w.heap.size K0 X66.2.2, vec u6 2 1 (List.map icell v3_10), vec uv28_9 102 3 (List.map Due.cells v28_9), blk b2 [.int .i64 k_.pace, .int .i64 k_.stages, v_k__ops] 27, blk b1 t.cells 24]) (τ := [(4, (true, _)), (5, (true, _)), (6, (true, _)), (12, (true, _)), (13, (true, _)), (14, (true, _)), (17, (true, _)), (18, (true, _)), (21, (true, _)), (22, (true, _))]) (fun (v48_11 : List Due) (r67_11 : List (List Int)) (i23_11 : Int) (uv48_11 : Value) => [(16, (true, uv48_11)), (23, (true, .int .i64 i23_11))]) (fun v48_11 r67_11 i23_11 uv48_11 => [grid X66.1 X66.2.1 28 2 r67_11, vec uv48_11 102 3 (List.map Due.cells v48_11)]) (fun v48_11 r67_11 i23_11 uv48_11 m => iter (roundelayref5_Play_L4 t k_ regs turns x13 m13_9 now18_9 v3_10) m (v48_11, r67_11, i23_11) = some o68 ∧ SliceLen uv48_11 v48_11.length ∧ SliceLen X66.1 r67_11.length ∧ GL X66.2.1 r67_11) (fun v48_11 r67_11 i23_11 uv48_11 => o68 = .go (v48_11, r67_11, i23_11) ∧ SliceLen uv48_11 v48_11.length ∧ SliceLen X66.1 r67_11.length ∧ GL X66.2.1 r67_11) v48_10 x63 0 uv48_10 n71 ⟨ho72, hlv48_10, hF66.1, hF66.2⟩ ⟨Z, Z, Z, Z, Z, Z, Z, Z, Z, Z, Z, Z, trivial⟩ (fun w hw => hw.pick [1, 2, 0, 3, 4, 5, 6] (by decide)) ?_ ?_
   ·skip
    rintro v48_11 r67_11 i23_11 uv48_11 ⟨rfl, hlv48_11, hlr67_11, hgr67_11⟩
    refine WQ.then (WC.region ?_)
    refine wm Z ?_
    refine wa Z ?_
    refine WL.nil (WQ.block (WQ.then (WC.region ?_)))
    refine wm Z ?_
    obtain ⟨c73, hm74⟩ := cs hm70; clear hm70
    refine wq Z (QV.add Z Z Z Z c73) ?_
    refine wa Z ?_
    refine WL.nil ?_
    refine WK.of (C' := Own M w [kn M w.heap.size K0 X66.2.2, grid X66.1 X66.2.1 28 2 r67_11, vec uv48_11 102 3 (List.map Due.cells v48_11), vec u6 2 1 (List.map icell v3_10), vec uv28_9 102 3 (List.map Due.cells v28_9), blk b2 [.int .i64 k_.pace, .int .i64 k_.stages, v_k__ops] 27, blk b1 t.cells 24]) (fun w hw => hw.pick [2, 0, 1, 3, 4, 5, 6] (by decide)) ?_
    refine WK.freeze hk (fun k75 hle75 hr75 => ?_)
    have hA75 := grid_rows hr75
    exact WQ.again7 v48_11 v3_10 r67_11 (now18_9 + 1) uv48_11 X66.1 k75 m38 ⟨up_next hm74 hn41, hlv48_11, hlv3_10, hA75, ((hle_9.trans hle66).trans hle75)⟩ (Nat.lt_succ_self _) ⟨Z, Z, Z, Z, Z, Z, Z, Z, Z, trivial⟩ (fun w hw => hw.pick [0, 1, 2, 4, 5] (by decide))
   rintro v48_11 r67_11 i23_11 uv48_11 m76 ⟨hI77, hlv48_11, hlr67_11, hgr67_11⟩
   obtain ⟨m78, s79, rfl, hm80, hn81⟩ := iter_step hI77; clear hI77; unfold roundelayref5_Play_L4 at hm80; simp only at hm80
   refine WC.seq (sr ?_)
   refine wm Z ?_
   refine wf fd27_2 Z ?_
   refine wl pl25 Z (Own.cell 5 Z Z) ?_
   refine wq Z (QV.lenS Try.underlying25 Z Z (h_k__ops.le ((((hle11.trans hle16).trans hle29).trans hle_9).trans hle66)).lenMap) ?_
   refine wq Z (QV.lss Z Z Z Z) ?_
   refine nt ?_
   refine WC.cond Z (fun h82 => ?_) (fun h82 => ?_)
   ·skip
    have hm83 := br_t h82 hm80; clear hm80
    refine sk (WQ.then (WC.seq (WC.block (sr ?_))))
    refine wf fd27_2 Z ?_
    refine wl pl25 Z (Own.cell 5 Z Z) ?_
    refine wm Z ?_
    obtain ⟨c84, hm85⟩ := cs hm83; clear hm83
    obtain ⟨p86, hp87⟩ := (h_k__ops.le ((((hle11.trans hle16).trans hle29).trans hle_9).trans hle66)).lenMap.ix (sz := 10) ln_len c84
    refine wq Z (QV.indexSlice sl25 Z Z Z Z hp87) ?_
    refine wq Z (QV.loadAgg ag45 Z Z Z (fun w hw => ((Own.karr 2 Z hk (h_k__ops.le ((((hle11.trans hle16).trans hle29).trans hle_9).trans hle66))) w hw).ele hp87 c84)) ?_
    refine WL.effect Z ?_
    refine (EV.alloc (by decide) ze45 (fun b88 => ?_))
    refine WL.effect Z ?_
    refine (EV.store 0 Z Z Z Z Z Z (vs := (Opr.cells (ele k_.ops i23_11))) (show Value.cells _ = List.toArray _ from Z) sz45 (Nat.le_of_ble_eq_true Z) (one_cons Z (one_cons Z (one_cons Z (one_cons Z (one_cons Z (one_cons Z (one_cons Z (one_cons Z (one_cons Z (one_cons Z one_nil)))))))))) ?_)
    refine ns ?_
    refine wm Z ?_
    refine wf fd45_1 Z ?_
    refine wl pl3 Z (Own.cell 0 Z Z) ?_
    obtain ⟨c89, hm90⟩ := cs hm85; clear hm85
    refine wq Z (QV.sub Z Z Z Z c89) ?_
    refine wa Z ?_
    refine nt (WC.seq (WC.seq ?_))
    refine WC.dr (m := 16) (S := Own M w [kn M w.heap.size K0 X66.2.2, blk b88 (Opr.cells (ele k_.ops i23_11)) 45, grid X66.1 X66.2.1 28 2 r67_11, vec uv48_11 102 3 (List.map Due.cells v48_11), vec u6 2 1 (List.map icell v3_10), vec uv28_9 102 3 (List.map Due.cells v28_9), blk b2 [.int .i64 k_.pace, .int .i64 k_.stages, v_k__ops] 27, blk b1 t.cells 24]) (by kernel_rfl) (by kernel_rfl) (fun w hw => hw.pick [3, 0, 1, 2, 4, 5, 6, 7] (by decide)) ?_
    refine wz 0 Z Z (QV.fieldAddr fd45_0 Z Z) ?_
    refine wz 1 Z Z (QV.load pl3 Z Z (Own.cell 1 Z Z)) ?_
    refine wz 2 Z Z (QV.move Z Z) ?_
    refine wz 3 Z Z (QV.fieldAddr fd27_0 Z Z) ?_
    refine wz 4 Z Z (QV.load pl3 Z Z (Own.cell 6 Z Z)) ?_
    obtain ⟨c91, hm92⟩ := cs hm90; clear hm90
    refine wz 5 Z Z (QV.rem Z Z Z Z c91) ?_
    refine wz 6 Z Z (QV.neq Z Z Z Z) ?_
    refine wz 7 Z Z (QV.move Z Z) ?_
    refine WD.g 8 Z (by kernel_rfl) Z Z (GuardIs.neg Z Z) (fun hG => QV.move Z Z) ?_
    refine WD.g 9 Z (by kernel_rfl) Z Z (GuardIs.neg Z Z) (fun hG => QV.lss Z hG Z Z) ?_
    refine wz 10 Z Z (QV.pickOr Z Z Z (fun h => notF h)) ?_
    refine wz 11 Z Z (QV.move Z Z) ?_
    refine WD.g 12 Z (by kernel_rfl) Z Z (GuardIs.neg Z Z) (fun hG => QV.move Z Z) ?_
    refine WD.g 13 Z (by kernel_rfl) Z Z (GuardIs.neg Z Z) (fun hG => QV.move Z Z) ?_
    refine WD.g 14 Z (by kernel_rfl) Z Z (GuardIs.neg Z Z) (fun hG => QV.geq Z hG Z hG) ?_
    refine wz 15 Z Z (QV.pickOr Z Z Z (fun h => notF h)) ?_
    refine WD.e (by kernel_rfl) ?_
    refine WQ.then ?_
    refine WC.cond Z (fun h93 => ?_) (fun h93 => ?_)
    ·skip
     have hm94 := br_t h93 hm92; clear hm92
     refine WC.exit (te (WQ.block_exit (WQ.then (WC.region ?_))))
     refine wm Z ?_
     obtain ⟨c95, hm96⟩ := cs hm94; clear hm94
     refine wq Z (QV.add Z Z Z Z c95) ?_
     refine wa Z ?_
     refine WL.nil ?_
     exact WQ.again4 v48_11 r67_11 (i23_11 + 1) uv48_11 m78 ⟨up_next hm96 hn81, hlv48_11, hlr67_11, hgr67_11⟩ (Nat.lt_succ_self _) ⟨Z, Z, Z, Z, Z, Z, Z, Z, Z, Z, Z, Z, trivial⟩ (fun w hw => hw.pick [1, 2, 3, 4, 5, 6, 7] (by decide))
    have hm97 := br_f h93 hm92; clear hm92
    refine sk (WQ.then (sr ?_))
    refine wm Z ?_
    refine wf fd45_4 Z ?_
    refine wl pl3 Z (Own.cell 0 Z Z) ?_
    refine wm Z ?_
    obtain ⟨c98, hm99⟩ := cs hm97; clear hm97
    refine wq Z (QV.add Z Z Z Z c98) ?_
    refine wf fd24_2 Z ?_
    refine wl pl3 Z (Own.cell 7 Z Z) ?_
    obtain ⟨c100, hm101⟩ := cs hm99; clear hm99
    refine wq Z (QV.rem Z Z Z Z c100) ?_
    obtain ⟨c102, hm103⟩ := cs hm101; clear hm101
    obtain ⟨p104, hp105⟩ := hlv3_10.ix (sz := 1) ln_len c102
    refine wq Z (QV.indexSlice sl28 Z Z Z Z hp105) ?_
    refine wl pl2 Z (fun w hw => CellsAt.one 0 (((Own.vecArr 4 Z) w hw).ele hp105 c102) Z) ?_
    refine wa Z ?_
    refine ns ?_
    refine wm Z ?_
    refine wf fd45_5 Z ?_
    refine wl pl3 Z (Own.cell 0 Z Z) ?_
    refine wm Z ?_
    obtain ⟨c106, hm107⟩ := cs hm103; clear hm103
    refine wq Z (QV.add Z Z Z Z c106) ?_
    refine wf fd24_2 Z ?_
    refine wl pl3 Z (Own.cell 7 Z Z) ?_
    obtain ⟨c108, hm109⟩ := cs hm107; clear hm107
    refine wq Z (QV.rem Z Z Z Z c108) ?_
    obtain ⟨c110, hm111⟩ := cs hm109; clear hm109
    obtain ⟨p112, hp113⟩ := hlv3_10.ix (sz := 1) ln_len c110
    refine wq Z (QV.indexSlice sl28 Z Z Z Z hp113) ?_
    refine wl pl2 Z (fun w hw => CellsAt.one 0 (((Own.vecArr 4 Z) w hw).ele hp113 c110) Z) ?_
    refine wa Z ?_
    refine ns ?_
    refine wm Z ?_
    refine wa Z ?_
    refine nt (WC.seq (sr ?_))
    refine wf fd45_2 Z ?_
    refine wl pl3 Z (Own.cell 0 Z Z) ?_
    refine nt (WC.block (sr ?_))
    refine wq Z (QV.eql Z Z Z Z) ?_
    refine wa Z ?_
    refine nt ?_
    refine WC.cond Z (fun h114 => ?_) (fun h114 => ?_)
    ·skip
     have hm115 := br_t h114 hm111; clear hm111
     refine WC.region ?_
     refine wf fd45_9 Z ?_
     refine wl pl2 Z (Own.cell 0 Z Z) ?_
     refine wa Z ?_
     refine WL.nil (WQ.block (WQ.then (sr ?_)))
     refine wf fd45_2 Z ?_
     refine wl pl3 Z (Own.cell 0 Z Z) ?_
     obtain ⟨x116, hx117, hm118⟩ := bd_some hm115; clear hm115
     refine wq Z (QV.call en52 (EvAll.cons Z Z EvAll.nil) (fun w hw => have h := roundelayref1_Class_w w hx117 ; h)) ?_
     refine wa Z ?_
     refine nt ?_
     refine WC.dr (m := 19) (S := Own M w [kn M w.heap.size K0 X66.2.2, blk b88 (Opr.cells (ele k_.ops i23_11)) 45, grid X66.1 X66.2.1 28 2 r67_11, vec u6 2 1 (List.map icell v3_10), vec uv28_9 102 3 (List.map Due.cells v28_9), blk b2 [.int .i64 k_.pace, .int .i64 k_.stages, v_k__ops] 27, blk b1 t.cells 24]) (by kernel_rfl) (by kernel_rfl) (fun w hw => hw.pick [3, 0, 1, 4, 5, 6, 7] (by decide)) ?_
     refine wz 0 Z Z (QV.move Z Z) ?_
     refine wz 1 Z Z (QV.move Z Z) ?_
     refine wz 2 Z Z (QV.move Z Z) ?_
     refine wz 3 Z Z (QV.fieldAddr fd24_1 Z Z) ?_
     obtain ⟨c119, hm120⟩ := cs hm118; clear hm118
     refine wz 4 Z Z (QV.indexArray ar22 Z Z Z Z c119.1 c119.2) ?_
     refine wz 5 Z Z (QV.load pl3 Z Z (Own.cellSym 6 Z (sel3_get (off := 3) (i := x116) c119.1 c119.2 Z Z Z) (addr_sym _ _ _))) ?_
     obtain ⟨c121, hm122⟩ := cs hm120; clear hm120
     refine wz 6 Z Z (QV.add Z Z Z Z c121) ?_
     refine wz 7 Z Z (QV.fieldAddr fd45_3 Z Z) ?_
     refine wz 8 Z Z (QV.load pl3 Z Z (Own.cell 1 Z Z)) ?_
     refine wz 9 Z Z (QV.move Z Z) ?_
     obtain ⟨c123, hm124⟩ := cs hm122; clear hm122
     refine wz 10 Z Z (QV.add Z Z Z Z c123) ?_
     refine wz 11 Z Z (QV.fieldAddr fd24_2 Z Z) ?_
     refine wz 12 Z Z (QV.load pl3 Z Z (Own.cell 6 Z Z)) ?_
     obtain ⟨c125, hm126⟩ := cs hm124; clear hm124
     refine wz 13 Z Z (QV.rem Z Z Z Z c125) ?_
     refine wz 14 Z Z (QV.move Z Z) ?_
     refine wz 15 Z Z (QV.build (ps := [(0, .tmp 218), (1, .tmp 225), (2, .tmp 226)]) (cells := [.int .i64 (now18_9 + (sel3 t.w0 t.w1 t.w2 x116)), .int .i64 (Int.tmod ((ele k_.ops i23_11).dest + (Int.tdiv now18_9 k_.pace)) t.regs), .int .i64 ((ele k_.ops i23_11).n)]) (EvAll.cons Z Z (EvAll.cons Z Z (EvAll.cons Z Z EvAll.nil))) (by kernel_rfl)) ?_
     refine WD.o 16 Z (by kernel_rfl) Z ?_
     refine (EV.buildSlice (by decide) sz_100 (by decide) (by decide) (ps := [(0, .tmp 227)]) (cells := [.int .i64 (now18_9 + (sel3 t.w0 t.w1 t.w2 x116)), .int .i64 (Int.tmod ((ele k_.ops i23_11).dest + (Int.tdiv now18_9 k_.pace)) t.regs), .int .i64 ((ele k_.ops i23_11).n)]) (EvAll.cons Z Z EvAll.nil) (by kernel_rfl) (fun b127 => ?_))
     refine WD.b (H' := [kn M w.heap.size K0 X66.2.2, blk b127 [.int .i64 (now18_9 + (sel3 t.w0 t.w1 t.w2 x116)), .int .i64 (Int.tmod ((ele k_.ops i23_11).dest + (Int.tdiv now18_9 k_.pace)) t.regs), .int .i64 ((ele k_.ops i23_11).n)] 102, blk b88 (Opr.cells (ele k_.ops i23_11)) 45, grid X66.1 X66.2.1 28 2 r67_11, vec u6 2 1 (List.map icell v3_10), vec uv28_9 102 3 (List.map Due.cells v28_9), blk b2 [.int .i64 k_.pace, .int .i64 k_.stages, v_k__ops] 27, blk b1 t.cells 24]) (fun w hw => hw.pick [4, 0, 1, 2, 5, 6, 7, 8] (by decide)) (fun w hw => hw.pick [0, 2, 3, 4, 5, 6, 7] (by decide)) ?_
     refine WD.o 17 Z (by kernel_rfl) Z ?_
     obtain ⟨c128, hm129⟩ := cs hm126; clear hm126
     refine (EV.appendL (enc := Due.cells) (xs := v48_11) (ys := [(Due.mk (now18_9 + (sel3 t.w0 t.w1 t.w2 x116)) (Int.tmod ((ele k_.ops i23_11).dest + (Int.tdiv now18_9 k_.pace)) t.regs) ((ele k_.ops i23_11).n))]) ((v48_11 ++ [(Due.mk (now18_9 + (sel3 t.w0 t.w1 t.w2 x116)) (Int.tmod ((ele k_.ops i23_11).dest + (Int.tdiv now18_9 k_.pace)) t.regs) ((ele k_.ops i23_11).n))])) 3 (by decide) ve100 Z Z Z Z Z (Own.blkArr 0 (rows := [(Due.mk (now18_9 + (sel3 t.w0 t.w1 t.w2 x116)) (Int.tmod ((ele k_.ops i23_11).dest + (Int.tdiv now18_9 k_.pace)) t.regs) ((ele k_.ops i23_11).n))].map Due.cells) Z Z (rows_len Due.cells_len)) Due.cells_len (Due.cells_one _) Z c128.1 c128.2 (fun u130 hu131 => ?_))
     refine WD.b (H' := [kn M w.heap.size K0 X66.2.2, blk b127 [.int .i64 (now18_9 + (sel3 t.w0 t.w1 t.w2 x116)), .int .i64 (Int.tmod ((ele k_.ops i23_11).dest + (Int.tdiv now18_9 k_.pace)) t.regs), .int .i64 ((ele k_.ops i23_11).n)] 102, blk b88 (Opr.cells (ele k_.ops i23_11)) 45, grid X66.1 X66.2.1 28 2 r67_11, vec u130 102 3 (List.map Due.cells (v48_11 ++ [(Due.mk (now18_9 + (sel3 t.w0 t.w1 t.w2 x116)) (Int.tmod ((ele k_.ops i23_11).dest + (Int.tdiv now18_9 k_.pace)) t.regs) ((ele k_.ops i23_11).n))])), vec u6 2 1 (List.map icell v3_10), vec uv28_9 102 3 (List.map Due.cells v28_9), blk b2 [.int .i64 k_.pace, .int .i64 k_.stages, v_k__ops] 27, blk b1 t.cells 24]) (fun w hw => hw.pick [4, 0, 1, 2, 3, 5, 6, 7, 8] (by decide)) (fun w hw => hw.pick [0, 1, 2, 3, 5, 6, 7, 8] (by decide)) ?_
     refine wz 18 Z Z (QV.assign Z Z) ?_
     refine WD.e (by kernel_rfl) ?_
     refine WQ.block (WQ.then (WC.region ?_))
     refine wm Z ?_
     obtain ⟨c132, hm133⟩ := cs hm129; clear hm129
     refine wq Z (QV.add Z Z Z Z c132) ?_
     refine wa Z ?_
     refine WL.nil ?_
     exact WQ.again4 (v48_11 ++ [(Due.mk (now18_9 + (sel3 t.w0 t.w1 t.w2 x116)) (Int.tmod ((ele k_.ops i23_11).dest + (Int.tdiv now18_9 k_.pace)) t.regs) ((ele k_.ops i23_11).n))]) r67_11 (i23_11 + 1) u130 m78 ⟨up_next hm133 hn81, hu131, hlr67_11, hgr67_11⟩ (Nat.lt_succ_self _) ⟨Z, Z, Z, Z, Z, Z, Z, Z, Z, Z, Z, Z, trivial⟩ (fun w hw => hw.pick [2, 3, 4, 5, 6, 7, 8] (by decide))
    have hm134 := br_f h114 hm111; clear hm111
    refine sr ?_
    refine wq Z (QV.eql Z Z Z Z) ?_
    refine wa Z ?_
    refine nt ?_
    refine WC.cond Z (fun h135 => ?_) (fun h135 => ?_)
    ·skip
     have hm136 := br_t h135 hm134; clear hm134
     refine WC.region ?_
     refine wm Z ?_
     refine wa Z ?_
     refine WL.nil (WQ.block (WQ.then (sr ?_)))
     refine wf fd45_2 Z ?_
     refine wl pl3 Z (Own.cell 0 Z Z) ?_
     obtain ⟨x137, hx138, hm139⟩ := bd_some hm136; clear hm136
     refine wq Z (QV.call en52 (EvAll.cons Z Z EvAll.nil) (fun w hw => have h := roundelayref1_Class_w w hx138 ; h)) ?_
     refine wa Z ?_
     refine nt ?_
     refine WC.dr (m := 19) (S := Own M w [kn M w.heap.size K0 X66.2.2, blk b88 (Opr.cells (ele k_.ops i23_11)) 45, grid X66.1 X66.2.1 28 2 r67_11, vec u6 2 1 (List.map icell v3_10), vec uv28_9 102 3 (List.map Due.cells v28_9), blk b2 [.int .i64 k_.pace, .int .i64 k_.stages, v_k__ops] 27, blk b1 t.cells 24]) (by kernel_rfl) (by kernel_rfl) (fun w hw => hw.pick [3, 0, 1, 4, 5, 6, 7] (by decide)) ?_
     refine wz 0 Z Z (QV.move Z Z) ?_
     refine wz 1 Z Z (QV.move Z Z) ?_
     refine wz 2 Z Z (QV.move Z Z) ?_
     refine wz 3 Z Z (QV.fieldAddr fd24_1 Z Z) ?_
     obtain ⟨c140, hm141⟩ := cs hm139; clear hm139
     refine wz 4 Z Z (QV.indexArray ar22 Z Z Z Z c140.1 c140.2) ?_
     refine wz 5 Z Z (QV.load pl3 Z Z (Own.cellSym 6 Z (sel3_get (off := 3) (i := x137) c140.1 c140.2 Z Z Z) (addr_sym _ _ _))) ?_
     obtain ⟨c142, hm143⟩ := cs hm141; clear hm141
     refine wz 6 Z Z (QV.add Z Z Z Z c142) ?_
     refine wz 7 Z Z (QV.fieldAddr fd45_3 Z Z) ?_
     refine wz 8 Z Z (QV.load pl3 Z Z (Own.cell 1 Z Z)) ?_
     refine wz 9 Z Z (QV.move Z Z) ?_
     obtain ⟨c144, hm145⟩ := cs hm143; clear hm143
     refine wz 10 Z Z (QV.add Z Z Z Z c144) ?_
     refine wz 11 Z Z (QV.fieldAddr fd24_2 Z Z) ?_
     refine wz 12 Z Z (QV.load pl3 Z Z (Own.cell 6 Z Z)) ?_
     obtain ⟨c146, hm147⟩ := cs hm145; clear hm145
     refine wz 13 Z Z (QV.rem Z Z Z Z c146) ?_
     refine wz 14 Z Z (QV.move Z Z) ?_
     refine wz 15 Z Z (QV.build (ps := [(0, .tmp 218), (1, .tmp 225), (2, .tmp 226)]) (cells := [.int .i64 (now18_9 + (sel3 t.w0 t.w1 t.w2 x137)), .int .i64 (Int.tmod ((ele k_.ops i23_11).dest + (Int.tdiv now18_9 k_.pace)) t.regs), .int .i64 ((Int.tdiv now18_9 k_.pace) - (ele k_.ops i23_11).stage)]) (EvAll.cons Z Z (EvAll.cons Z Z (EvAll.cons Z Z EvAll.nil))) (by kernel_rfl)) ?_
     refine WD.o 16 Z (by kernel_rfl) Z ?_
     refine (EV.buildSlice (by decide) sz_100 (by decide) (by decide) (ps := [(0, .tmp 227)]) (cells := [.int .i64 (now18_9 + (sel3 t.w0 t.w1 t.w2 x137)), .int .i64 (Int.tmod ((ele k_.ops i23_11).dest + (Int.tdiv now18_9 k_.pace)) t.regs), .int .i64 ((Int.tdiv now18_9 k_.pace) - (ele k_.ops i23_11).stage)]) (EvAll.cons Z Z EvAll.nil) (by kernel_rfl) (fun b148 => ?_))
     refine WD.b (H' := [kn M w.heap.size K0 X66.2.2, blk b148 [.int .i64 (now18_9 + (sel3 t.w0 t.w1 t.w2 x137)), .int .i64 (Int.tmod ((ele k_.ops i23_11).dest + (Int.tdiv now18_9 k_.pace)) t.regs), .int .i64 ((Int.tdiv now18_9 k_.pace) - (ele k_.ops i23_11).stage)] 102, blk b88 (Opr.cells (ele k_.ops i23_11)) 45, grid X66.1 X66.2.1 28 2 r67_11, vec u6 2 1 (List.map icell v3_10), vec uv28_9 102 3 (List.map Due.cells v28_9), blk b2 [.int .i64 k_.pace, .int .i64 k_.stages, v_k__ops] 27, blk b1 t.cells 24]) (fun w hw => hw.pick [4, 0, 1, 2, 5, 6, 7, 8] (by decide)) (fun w hw => hw.pick [0, 2, 3, 4, 5, 6, 7] (by decide)) ?_
     refine WD.o 17 Z (by kernel_rfl) Z ?_
     obtain ⟨c149, hm150⟩ := cs hm147; clear hm147
     refine (EV.appendL (enc := Due.cells) (xs := v48_11) (ys := [(Due.mk (now18_9 + (sel3 t.w0 t.w1 t.w2 x137)) (Int.tmod ((ele k_.ops i23_11).dest + (Int.tdiv now18_9 k_.pace)) t.regs) ((Int.tdiv now18_9 k_.pace) - (ele k_.ops i23_11).stage))]) ((v48_11 ++ [(Due.mk (now18_9 + (sel3 t.w0 t.w1 t.w2 x137)) (Int.tmod ((ele k_.ops i23_11).dest + (Int.tdiv now18_9 k_.pace)) t.regs) ((Int.tdiv now18_9 k_.pace) - (ele k_.ops i23_11).stage))])) 3 (by decide) ve100 Z Z Z Z Z (Own.blkArr 0 (rows := [(Due.mk (now18_9 + (sel3 t.w0 t.w1 t.w2 x137)) (Int.tmod ((ele k_.ops i23_11).dest + (Int.tdiv now18_9 k_.pace)) t.regs) ((Int.tdiv now18_9 k_.pace) - (ele k_.ops i23_11).stage))].map Due.cells) Z Z (rows_len Due.cells_len)) Due.cells_len (Due.cells_one _) Z c149.1 c149.2 (fun u151 hu152 => ?_))
     refine WD.b (H' := [kn M w.heap.size K0 X66.2.2, blk b148 [.int .i64 (now18_9 + (sel3 t.w0 t.w1 t.w2 x137)), .int .i64 (Int.tmod ((ele k_.ops i23_11).dest + (Int.tdiv now18_9 k_.pace)) t.regs), .int .i64 ((Int.tdiv now18_9 k_.pace) - (ele k_.ops i23_11).stage)] 102, blk b88 (Opr.cells (ele k_.ops i23_11)) 45, grid X66.1 X66.2.1 28 2 r67_11, vec u151 102 3 (List.map Due.cells (v48_11 ++ [(Due.mk (now18_9 + (sel3 t.w0 t.w1 t.w2 x137)) (Int.tmod ((ele k_.ops i23_11).dest + (Int.tdiv now18_9 k_.pace)) t.regs) ((Int.tdiv now18_9 k_.pace) - (ele k_.ops i23_11).stage))])), vec u6 2 1 (List.map icell v3_10), vec uv28_9 102 3 (List.map Due.cells v28_9), blk b2 [.int .i64 k_.pace, .int .i64 k_.stages, v_k__ops] 27, blk b1 t.cells 24]) (fun w hw => hw.pick [4, 0, 1, 2, 3, 5, 6, 7, 8] (by decide)) (fun w hw => hw.pick [0, 1, 2, 3, 5, 6, 7, 8] (by decide)) ?_
     refine wz 18 Z Z (QV.assign Z Z) ?_
     refine WD.e (by kernel_rfl) ?_
     refine WQ.block (WQ.then (WC.region ?_))
     refine wm Z ?_
     obtain ⟨c153, hm154⟩ := cs hm150; clear hm150
     refine wq Z (QV.add Z Z Z Z c153) ?_
     refine wa Z ?_
     refine WL.nil ?_
     exact WQ.again4 (v48_11 ++ [(Due.mk (now18_9 + (sel3 t.w0 t.w1 t.w2 x137)) (Int.tmod ((ele k_.ops i23_11).dest + (Int.tdiv now18_9 k_.pace)) t.regs) ((Int.tdiv now18_9 k_.pace) - (ele k_.ops i23_11).stage))]) r67_11 (i23_11 + 1) u151 m78 ⟨up_next hm154 hn81, hu152, hlr67_11, hgr67_11⟩ (Nat.lt_succ_self _) ⟨Z, Z, Z, Z, Z, Z, Z, Z, Z, Z, Z, Z, trivial⟩ (fun w hw => hw.pick [2, 3, 4, 5, 6, 7, 8] (by decide))
    have hm155 := br_f h135 hm134; clear hm134
    refine sr ?_
    refine wq Z (QV.eql Z Z Z Z) ?_
    refine wa Z ?_
    refine nt ?_
    refine WC.cond Z (fun h156 => ?_) (fun h156 => ?_)
    ·skip
     have hm157 := br_t h156 hm155; clear hm155
     refine WC.dr (m := 19) (S := Own M w [kn M w.heap.size K0 X66.2.2, blk b88 (Opr.cells (ele k_.ops i23_11)) 45, grid X66.1 X66.2.1 28 2 r67_11, vec uv48_11 102 3 (List.map Due.cells v48_11), vec u6 2 1 (List.map icell v3_10), vec uv28_9 102 3 (List.map Due.cells v28_9), blk b2 [.int .i64 k_.pace, .int .i64 k_.stages, v_k__ops] 27, blk b1 t.cells 24]) (by kernel_rfl) (by kernel_rfl) (fun w hw => hw.pick [3, 0, 1, 2, 4, 5, 6, 7] (by decide)) ?_
     refine wz 0 Z Z (QV.move Z Z) ?_
     refine wz 1 Z Z (QV.fieldAddr fd45_6 Z Z) ?_
     refine wz 2 Z Z (QV.load pl3 Z Z (Own.cell 1 Z Z)) ?_
     obtain ⟨c158, hm159⟩ := cs hm157; clear hm157
     obtain ⟨p160, u162, hp161, hc163, hA164⟩ := (hAm13_9.le hle66).ix c158
     refine wz 3 Z Z (QV.indexSlice sl29 Z Z Z Z hp161) ?_
     refine wz 4 Z Z (QV.load pl28 Z Z (fun w hw => CellsAt.one 0 ((Own.kcells 0 Z hk hc163) w hw) Z)) ?_
     refine wz 5 Z Z (QV.fieldAddr fd45_7 Z Z) ?_
     refine wz 6 Z Z (QV.load pl3 Z Z (Own.cell 1 Z Z)) ?_
     refine wz 7 Z Z (QV.fieldAddr fd45_8 Z Z) ?_
     refine wz 8 Z Z (QV.load pl3 Z Z (Own.cell 1 Z Z)) ?_
     refine wz 9 Z Z (QV.move Z Z) ?_
     refine wz 10 Z Z (QV.move Z Z) ?_
     refine wz 11 Z Z (QV.fieldAddr fd45_6 Z Z) ?_
     refine wz 12 Z Z (QV.load pl3 Z Z (Own.cell 1 Z Z)) ?_
     obtain ⟨c165, hm166⟩ := cs hm159; clear hm159
     obtain ⟨p167, hp168⟩ := (hF16.le ((hle29.trans hle_9).trans hle66)).lenMap.ix (sz := 1) ln_len c165
     refine wz 13 Z Z (QV.indexSlice sl30 Z Z Z Z hp168) ?_
     refine wz 14 Z Z (QV.load pl3 Z Z (fun w hw => CellsAt.one 0 (((Own.karr 0 Z hk (hF16.le ((hle29.trans hle_9).trans hle66))) w hw).ele hp168 c165) Z)) ?_
     obtain ⟨x169, hx170, hm171⟩ := bd_some hm166; clear hm166
     refine wz 15 Z Z (QV.call en59 (EvAll.cons Z Z (EvAll.cons Z Z (EvAll.cons Z Z (EvAll.cons Z Z EvAll.nil)))) (fun w hw => have h := roundelayref1_Index_w w hx170 ; h)) ?_
     obtain ⟨c172, hm173⟩ := cs hm171; clear hm171
     obtain ⟨p174, hp175⟩ := hA164.lenMap.ix (sz := 1) ln_len c172
     refine wz 16 Z Z (QV.indexSlice sl28 Z Z Z Z hp175) ?_
     refine wz 17 Z Z (QV.load pl2 Z Z (fun w hw => CellsAt.one 0 (((Own.karr 0 Z hk hA164) w hw).ele hp175 c172) Z)) ?_
     refine wz 18 Z Z (QV.assign Z Z) ?_
     refine WD.e (by kernel_rfl) ?_
     refine WQ.block (WQ.then (sr ?_))
     refine wf fd45_2 Z ?_
     refine wl pl3 Z (Own.cell 0 Z Z) ?_
     obtain ⟨x176, hx177, hm178⟩ := bd_some hm173; clear hm173
     refine wq Z (QV.call en52 (EvAll.cons Z Z EvAll.nil) (fun w hw => have h := roundelayref1_Class_w w hx177 ; h)) ?_
     refine wa Z ?_
     refine nt ?_
     refine WC.dr (m := 19) (S := Own M w [kn M w.heap.size K0 X66.2.2, blk b88 (Opr.cells (ele k_.ops i23_11)) 45, grid X66.1 X66.2.1 28 2 r67_11, vec u6 2 1 (List.map icell v3_10), vec uv28_9 102 3 (List.map Due.cells v28_9), blk b2 [.int .i64 k_.pace, .int .i64 k_.stages, v_k__ops] 27, blk b1 t.cells 24]) (by kernel_rfl) (by kernel_rfl) (fun w hw => hw.pick [3, 0, 1, 4, 5, 6, 7] (by decide)) ?_
     refine wz 0 Z Z (QV.move Z Z) ?_
     refine wz 1 Z Z (QV.move Z Z) ?_
     refine wz 2 Z Z (QV.move Z Z) ?_
     refine wz 3 Z Z (QV.fieldAddr fd24_1 Z Z) ?_
     obtain ⟨c179, hm180⟩ := cs hm178; clear hm178
     refine wz 4 Z Z (QV.indexArray ar22 Z Z Z Z c179.1 c179.2) ?_
     refine wz 5 Z Z (QV.load pl3 Z Z (Own.cellSym 6 Z (sel3_get (off := 3) (i := x176) c179.1 c179.2 Z Z Z) (addr_sym _ _ _))) ?_
     obtain ⟨c181, hm182⟩ := cs hm180; clear hm180
     refine wz 6 Z Z (QV.add Z Z Z Z c181) ?_
     refine wz 7 Z Z (QV.fieldAddr fd45_3 Z Z) ?_
     refine wz 8 Z Z (QV.load pl3 Z Z (Own.cell 1 Z Z)) ?_
     refine wz 9 Z Z (QV.move Z Z) ?_
     obtain ⟨c183, hm184⟩ := cs hm182; clear hm182
     refine wz 10 Z Z (QV.add Z Z Z Z c183) ?_
     refine wz 11 Z Z (QV.fieldAddr fd24_2 Z Z) ?_
     refine wz 12 Z Z (QV.load pl3 Z Z (Own.cell 6 Z Z)) ?_
     obtain ⟨c185, hm186⟩ := cs hm184; clear hm184
     refine wz 13 Z Z (QV.rem Z Z Z Z c185) ?_
     refine wz 14 Z Z (QV.move Z Z) ?_
     refine wz 15 Z Z (QV.build (ps := [(0, .tmp 218), (1, .tmp 225), (2, .tmp 226)]) (cells := [.int .i64 (now18_9 + (sel3 t.w0 t.w1 t.w2 x176)), .int .i64 (Int.tmod ((ele k_.ops i23_11).dest + (Int.tdiv now18_9 k_.pace)) t.regs), .int .i64 (ele (ele m13_9 ((ele k_.ops i23_11).ar)) x169)]) (EvAll.cons Z Z (EvAll.cons Z Z (EvAll.cons Z Z EvAll.nil))) (by kernel_rfl)) ?_
     refine WD.o 16 Z (by kernel_rfl) Z ?_
     refine (EV.buildSlice (by decide) sz_100 (by decide) (by decide) (ps := [(0, .tmp 227)]) (cells := [.int .i64 (now18_9 + (sel3 t.w0 t.w1 t.w2 x176)), .int .i64 (Int.tmod ((ele k_.ops i23_11).dest + (Int.tdiv now18_9 k_.pace)) t.regs), .int .i64 (ele (ele m13_9 ((ele k_.ops i23_11).ar)) x169)]) (EvAll.cons Z Z EvAll.nil) (by kernel_rfl) (fun b187 => ?_))
     refine WD.b (H' := [kn M w.heap.size K0 X66.2.2, blk b187 [.int .i64 (now18_9 + (sel3 t.w0 t.w1 t.w2 x176)), .int .i64 (Int.tmod ((ele k_.ops i23_11).dest + (Int.tdiv now18_9 k_.pace)) t.regs), .int .i64 (ele (ele m13_9 ((ele k_.ops i23_11).ar)) x169)] 102, blk b88 (Opr.cells (ele k_.ops i23_11)) 45, grid X66.1 X66.2.1 28 2 r67_11, vec u6 2 1 (List.map icell v3_10), vec uv28_9 102 3 (List.map Due.cells v28_9), blk b2 [.int .i64 k_.pace, .int .i64 k_.stages, v_k__ops] 27, blk b1 t.cells 24]) (fun w hw => hw.pick [4, 0, 1, 2, 5, 6, 7, 8] (by decide)) (fun w hw => hw.pick [0, 2, 3, 4, 5, 6, 7] (by decide)) ?_
     refine WD.o 17 Z (by kernel_rfl) Z ?_
     obtain ⟨c188, hm189⟩ := cs hm186; clear hm186
     refine (EV.appendL (enc := Due.cells) (xs := v48_11) (ys := [(Due.mk (now18_9 + (sel3 t.w0 t.w1 t.w2 x176)) (Int.tmod ((ele k_.ops i23_11).dest + (Int.tdiv now18_9 k_.pace)) t.regs) (ele (ele m13_9 ((ele k_.ops i23_11).ar)) x169))]) ((v48_11 ++ [(Due.mk (now18_9 + (sel3 t.w0 t.w1 t.w2 x176)) (Int.tmod ((ele k_.ops i23_11).dest + (Int.tdiv now18_9 k_.pace)) t.regs) (ele (ele m13_9 ((ele k_.ops i23_11).ar)) x169))])) 3 (by decide) ve100 Z Z Z Z Z (Own.blkArr 0 (rows := [(Due.mk (now18_9 + (sel3 t.w0 t.w1 t.w2 x176)) (Int.tmod ((ele k_.ops i23_11).dest + (Int.tdiv now18_9 k_.pace)) t.regs) (ele (ele m13_9 ((ele k_.ops i23_11).ar)) x169))].map Due.cells) Z Z (rows_len Due.cells_len)) Due.cells_len (Due.cells_one _) Z c188.1 c188.2 (fun u190 hu191 => ?_))
     refine WD.b (H' := [kn M w.heap.size K0 X66.2.2, blk b187 [.int .i64 (now18_9 + (sel3 t.w0 t.w1 t.w2 x176)), .int .i64 (Int.tmod ((ele k_.ops i23_11).dest + (Int.tdiv now18_9 k_.pace)) t.regs), .int .i64 (ele (ele m13_9 ((ele k_.ops i23_11).ar)) x169)] 102, blk b88 (Opr.cells (ele k_.ops i23_11)) 45, grid X66.1 X66.2.1 28 2 r67_11, vec u190 102 3 (List.map Due.cells (v48_11 ++ [(Due.mk (now18_9 + (sel3 t.w0 t.w1 t.w2 x176)) (Int.tmod ((ele k_.ops i23_11).dest + (Int.tdiv now18_9 k_.pace)) t.regs) (ele (ele m13_9 ((ele k_.ops i23_11).ar)) x169))])), vec u6 2 1 (List.map icell v3_10), vec uv28_9 102 3 (List.map Due.cells v28_9), blk b2 [.int .i64 k_.pace, .int .i64 k_.stages, v_k__ops] 27, blk b1 t.cells 24]) (fun w hw => hw.pick [4, 0, 1, 2, 3, 5, 6, 7, 8] (by decide)) (fun w hw => hw.pick [0, 1, 2, 3, 5, 6, 7, 8] (by decide)) ?_
     refine wz 18 Z Z (QV.assign Z Z) ?_
     refine WD.e (by kernel_rfl) ?_
     refine WQ.block (WQ.then (WC.region ?_))
     refine wm Z ?_
     obtain ⟨c192, hm193⟩ := cs hm189; clear hm189
     refine wq Z (QV.add Z Z Z Z c192) ?_
     refine wa Z ?_
     refine WL.nil ?_
     exact WQ.again4 (v48_11 ++ [(Due.mk (now18_9 + (sel3 t.w0 t.w1 t.w2 x176)) (Int.tmod ((ele k_.ops i23_11).dest + (Int.tdiv now18_9 k_.pace)) t.regs) (ele (ele m13_9 ((ele k_.ops i23_11).ar)) x169))]) r67_11 (i23_11 + 1) u190 m78 ⟨up_next hm193 hn81, hu191, hlr67_11, hgr67_11⟩ (Nat.lt_succ_self _) ⟨Z, Z, Z, Z, Z, Z, Z, Z, Z, Z, Z, Z, trivial⟩ (fun w hw => hw.pick [2, 3, 4, 5, 6, 7, 8] (by decide))
    have hm194 := br_f h156 hm155; clear hm155
    refine sr ?_
    refine wq Z (QV.eql Z Z Z Z) ?_
    refine wa Z ?_
    refine nt ?_
    refine WC.cond Z (fun h195 => ?_) (fun h195 => ?_)
    ·skip
     have hm196 := br_t h195 hm194; clear hm194
     refine WC.dr (m := 19) (S := Own M w [kn M w.heap.size K0 X66.2.2, blk b88 (Opr.cells (ele k_.ops i23_11)) 45, grid X66.1 X66.2.1 28 2 r67_11, vec uv48_11 102 3 (List.map Due.cells v48_11), vec u6 2 1 (List.map icell v3_10), vec uv28_9 102 3 (List.map Due.cells v28_9), blk b2 [.int .i64 k_.pace, .int .i64 k_.stages, v_k__ops] 27, blk b1 t.cells 24]) (by kernel_rfl) (by kernel_rfl) (fun w hw => hw.pick [3, 0, 1, 2, 4, 5, 6, 7] (by decide)) ?_
     refine wz 0 Z Z (QV.move Z Z) ?_
     refine wz 1 Z Z (QV.fieldAddr fd45_6 Z Z) ?_
     refine wz 2 Z Z (QV.load pl3 Z Z (Own.cell 1 Z Z)) ?_
     obtain ⟨c197, hm198⟩ := cs hm196; clear hm196
     obtain ⟨p199, hp200⟩ := hlr67_11.ix (sz := 1) ln_len c197
     refine wz 3 Z Z (QV.indexSlice sl29 Z Z Z Z hp200) ?_
     refine wz 4 Z Z (QV.load pl28 Z Z (Own.gridHdr 2 Z hp200 c197)) ?_
     refine wz 5 Z Z (QV.fieldAddr fd45_7 Z Z) ?_
     refine wz 6 Z Z (QV.load pl3 Z Z (Own.cell 1 Z Z)) ?_
     refine wz 7 Z Z (QV.fieldAddr fd45_8 Z Z) ?_
     refine wz 8 Z Z (QV.load pl3 Z Z (Own.cell 1 Z Z)) ?_
     refine wz 9 Z Z (QV.move Z Z) ?_
     refine wz 10 Z Z (QV.move Z Z) ?_
     refine wz 11 Z Z (QV.fieldAddr fd45_6 Z Z) ?_
     refine wz 12 Z Z (QV.load pl3 Z Z (Own.cell 1 Z Z)) ?_
     obtain ⟨c201, hm202⟩ := cs hm198; clear hm198
     obtain ⟨p203, hp204⟩ := (hF16.le ((hle29.trans hle_9).trans hle66)).lenMap.ix (sz := 1) ln_len c201
     refine wz 13 Z Z (QV.indexSlice sl30 Z Z Z Z hp204) ?_
     refine wz 14 Z Z (QV.load pl3 Z Z (fun w hw => CellsAt.one 0 (((Own.karr 0 Z hk (hF16.le ((hle29.trans hle_9).trans hle66))) w hw).ele hp204 c201) Z)) ?_
     obtain ⟨x205, hx206, hm207⟩ := bd_some hm202; clear hm202
     refine wz 15 Z Z (QV.call en59 (EvAll.cons Z Z (EvAll.cons Z Z (EvAll.cons Z Z (EvAll.cons Z Z EvAll.nil)))) (fun w hw => have h := roundelayref1_Index_w w hx206 ; h)) ?_
     refine wz 16 Z Z (QV.move Z Z) ?_
     obtain ⟨c208, hm209⟩ := cs hm207; clear hm207
     obtain ⟨p210, hp211⟩ := (hgr67_11.ix ((ele k_.ops i23_11).ar)).ix (sz := 1) ln_len c208
     refine wz 17 Z Z (QV.indexSlice sl28 Z Z Z Z hp211) ?_
     refine WD.l 18 Z (by kernel_rfl) Z ?_
     refine (EV.storeG 1 (ele v3_10 (Int.tmod ((ele k_.ops i23_11).a + (Int.tdiv now18_9 k_.pace)) t.regs)) Z Z Z Z Z c197 hp211 sz2 ?_)
     have hg213 := hgr67_11.updG ((ele k_.ops i23_11).ar) x205 (ele v3_10 (Int.tmod ((ele k_.ops i23_11).a + (Int.tdiv now18_9 k_.pace)) t.regs))
     have hl212 : SliceLen X66.1 (updG r67_11 ((ele k_.ops i23_11).ar) x205 (ele v3_10 (Int.tmod ((ele k_.ops i23_11).a + (Int.tdiv now18_9 k_.pace)) t.regs))).length := slen_updG hlr67_11
     refine WQ.block (WQ.then (sr ?_))
     refine wf fd45_2 Z ?_
     refine wl pl3 Z (Own.cell 0 Z Z) ?_
     obtain ⟨x214, hx215, hm216⟩ := bd_some hm209; clear hm209
     refine wq Z (QV.call en52 (EvAll.cons Z Z EvAll.nil) (fun w hw => have h := roundelayref1_Class_w w hx215 ; h)) ?_
     refine wa Z ?_
     refine nt ?_
     refine WC.dr (m := 19) (S := Own M w [kn M w.heap.size K0 X66.2.2, blk b88 (Opr.cells (ele k_.ops i23_11)) 45, grid X66.1 X66.2.1 28 2 (updG r67_11 ((ele k_.ops i23_11).ar) x205 (ele v3_10 (Int.tmod ((ele k_.ops i23_11).a + (Int.tdiv now18_9 k_.pace)) t.regs))), vec u6 2 1 (List.map icell v3_10), vec uv28_9 102 3 (List.map Due.cells v28_9), blk b2 [.int .i64 k_.pace, .int .i64 k_.stages, v_k__ops] 27, blk b1 t.cells 24]) (by kernel_rfl) (by kernel_rfl) (fun w hw => hw.pick [3, 0, 1, 4, 5, 6, 7] (by decide)) ?_
     refine wz 0 Z Z (QV.move Z Z) ?_
     refine wz 1 Z Z (QV.move Z Z) ?_
     refine wz 2 Z Z (QV.move Z Z) ?_
     refine wz 3 Z Z (QV.fieldAddr fd24_1 Z Z) ?_
     obtain ⟨c217, hm218⟩ := cs hm216; clear hm216
     refine wz 4 Z Z (QV.indexArray ar22 Z Z Z Z c217.1 c217.2) ?_
     refine wz 5 Z Z (QV.load pl3 Z Z (Own.cellSym 6 Z (sel3_get (off := 3) (i := x214) c217.1 c217.2 Z Z Z) (addr_sym _ _ _))) ?_
     obtain ⟨c219, hm220⟩ := cs hm218; clear hm218
     refine wz 6 Z Z (QV.add Z Z Z Z c219) ?_
     refine wz 7 Z Z (QV.fieldAddr fd45_3 Z Z) ?_
     refine wz 8 Z Z (QV.load pl3 Z Z (Own.cell 1 Z Z)) ?_
     refine wz 9 Z Z (QV.move Z Z) ?_
     obtain ⟨c221, hm222⟩ := cs hm220; clear hm220
     refine wz 10 Z Z (QV.add Z Z Z Z c221) ?_
     refine wz 11 Z Z (QV.fieldAddr fd24_2 Z Z) ?_
     refine wz 12 Z Z (QV.load pl3 Z Z (Own.cell 6 Z Z)) ?_
     obtain ⟨c223, hm224⟩ := cs hm222; clear hm222
     refine wz 13 Z Z (QV.rem Z Z Z Z c223) ?_
     refine wz 14 Z Z (QV.move Z Z) ?_
     refine wz 15 Z Z (QV.build (ps := [(0, .tmp 218), (1, .tmp 225), (2, .tmp 226)]) (cells := [.int .i64 (now18_9 + (sel3 t.w0 t.w1 t.w2 x214)), .int .i64 (Int.tmod ((ele k_.ops i23_11).dest + (Int.tdiv now18_9 k_.pace)) t.regs), .int .i64 (ele v3_10 (Int.tmod ((ele k_.ops i23_11).a + (Int.tdiv now18_9 k_.pace)) t.regs))]) (EvAll.cons Z Z (EvAll.cons Z Z (EvAll.cons Z Z EvAll.nil))) (by kernel_rfl)) ?_
     refine WD.o 16 Z (by kernel_rfl) Z ?_
     refine (EV.buildSlice (by decide) sz_100 (by decide) (by decide) (ps := [(0, .tmp 227)]) (cells := [.int .i64 (now18_9 + (sel3 t.w0 t.w1 t.w2 x214)), .int .i64 (Int.tmod ((ele k_.ops i23_11).dest + (Int.tdiv now18_9 k_.pace)) t.regs), .int .i64 (ele v3_10 (Int.tmod ((ele k_.ops i23_11).a + (Int.tdiv now18_9 k_.pace)) t.regs))]) (EvAll.cons Z Z EvAll.nil) (by kernel_rfl) (fun b225 => ?_))
     refine WD.b (H' := [kn M w.heap.size K0 X66.2.2, blk b225 [.int .i64 (now18_9 + (sel3 t.w0 t.w1 t.w2 x214)), .int .i64 (Int.tmod ((ele k_.ops i23_11).dest + (Int.tdiv now18_9 k_.pace)) t.regs), .int .i64 (ele v3_10 (Int.tmod ((ele k_.ops i23_11).a + (Int.tdiv now18_9 k_.pace)) t.regs))] 102, blk b88 (Opr.cells (ele k_.ops i23_11)) 45, grid X66.1 X66.2.1 28 2 (updG r67_11 ((ele k_.ops i23_11).ar) x205 (ele v3_10 (Int.tmod ((ele k_.ops i23_11).a + (Int.tdiv now18_9 k_.pace)) t.regs))), vec u6 2 1 (List.map icell v3_10), vec uv28_9 102 3 (List.map Due.cells v28_9), blk b2 [.int .i64 k_.pace, .int .i64 k_.stages, v_k__ops] 27, blk b1 t.cells 24]) (fun w hw => hw.pick [4, 0, 1, 2, 5, 6, 7, 8] (by decide)) (fun w hw => hw.pick [0, 2, 3, 4, 5, 6, 7] (by decide)) ?_
     refine WD.o 17 Z (by kernel_rfl) Z ?_
     obtain ⟨c226, hm227⟩ := cs hm224; clear hm224
     refine (EV.appendL (enc := Due.cells) (xs := v48_11) (ys := [(Due.mk (now18_9 + (sel3 t.w0 t.w1 t.w2 x214)) (Int.tmod ((ele k_.ops i23_11).dest + (Int.tdiv now18_9 k_.pace)) t.regs) (ele v3_10 (Int.tmod ((ele k_.ops i23_11).a + (Int.tdiv now18_9 k_.pace)) t.regs)))]) ((v48_11 ++ [(Due.mk (now18_9 + (sel3 t.w0 t.w1 t.w2 x214)) (Int.tmod ((ele k_.ops i23_11).dest + (Int.tdiv now18_9 k_.pace)) t.regs) (ele v3_10 (Int.tmod ((ele k_.ops i23_11).a + (Int.tdiv now18_9 k_.pace)) t.regs)))])) 3 (by decide) ve100 Z Z Z Z Z (Own.blkArr 0 (rows := [(Due.mk (now18_9 + (sel3 t.w0 t.w1 t.w2 x214)) (Int.tmod ((ele k_.ops i23_11).dest + (Int.tdiv now18_9 k_.pace)) t.regs) (ele v3_10 (Int.tmod ((ele k_.ops i23_11).a + (Int.tdiv now18_9 k_.pace)) t.regs)))].map Due.cells) Z Z (rows_len Due.cells_len)) Due.cells_len (Due.cells_one _) Z c226.1 c226.2 (fun u228 hu229 => ?_))
     refine WD.b (H' := [kn M w.heap.size K0 X66.2.2, blk b225 [.int .i64 (now18_9 + (sel3 t.w0 t.w1 t.w2 x214)), .int .i64 (Int.tmod ((ele k_.ops i23_11).dest + (Int.tdiv now18_9 k_.pace)) t.regs), .int .i64 (ele v3_10 (Int.tmod ((ele k_.ops i23_11).a + (Int.tdiv now18_9 k_.pace)) t.regs))] 102, blk b88 (Opr.cells (ele k_.ops i23_11)) 45, grid X66.1 X66.2.1 28 2 (updG r67_11 ((ele k_.ops i23_11).ar) x205 (ele v3_10 (Int.tmod ((ele k_.ops i23_11).a + (Int.tdiv now18_9 k_.pace)) t.regs))), vec u228 102 3 (List.map Due.cells (v48_11 ++ [(Due.mk (now18_9 + (sel3 t.w0 t.w1 t.w2 x214)) (Int.tmod ((ele k_.ops i23_11).dest + (Int.tdiv now18_9 k_.pace)) t.regs) (ele v3_10 (Int.tmod ((ele k_.ops i23_11).a + (Int.tdiv now18_9 k_.pace)) t.regs)))])), vec u6 2 1 (List.map icell v3_10), vec uv28_9 102 3 (List.map Due.cells v28_9), blk b2 [.int .i64 k_.pace, .int .i64 k_.stages, v_k__ops] 27, blk b1 t.cells 24]) (fun w hw => hw.pick [4, 0, 1, 2, 3, 5, 6, 7, 8] (by decide)) (fun w hw => hw.pick [0, 1, 2, 3, 5, 6, 7, 8] (by decide)) ?_
     refine wz 18 Z Z (QV.assign Z Z) ?_
     refine WD.e (by kernel_rfl) ?_
     refine WQ.block (WQ.then (WC.region ?_))
     refine wm Z ?_
     obtain ⟨c230, hm231⟩ := cs hm227; clear hm227
     refine wq Z (QV.add Z Z Z Z c230) ?_
     refine wa Z ?_
     refine WL.nil ?_
     exact WQ.again4 (v48_11 ++ [(Due.mk (now18_9 + (sel3 t.w0 t.w1 t.w2 x214)) (Int.tmod ((ele k_.ops i23_11).dest + (Int.tdiv now18_9 k_.pace)) t.regs) (ele v3_10 (Int.tmod ((ele k_.ops i23_11).a + (Int.tdiv now18_9 k_.pace)) t.regs)))]) (updG r67_11 ((ele k_.ops i23_11).ar) x205 (ele v3_10 (Int.tmod ((ele k_.ops i23_11).a + (Int.tdiv now18_9 k_.pace)) t.regs))) (i23_11 + 1) u228 m78 ⟨up_next hm231 hn81, hu229, hl212, hg213⟩ (Nat.lt_succ_self _) ⟨Z, Z, Z, Z, Z, Z, Z, Z, Z, Z, Z, Z, trivial⟩ (fun w hw => hw.pick [2, 3, 4, 5, 6, 7, 8] (by decide))
    have hm232 := br_f h195 hm194; clear hm194
    refine WC.region ?_
    refine wf fd45_2 Z ?_
    refine wl pl3 Z (Own.cell 0 Z Z) ?_
    obtain ⟨c233, hm234⟩ := cs hm232; clear hm232
    refine wq Z (QV.sub Z Z Z Z c233) ?_
    refine wm Z ?_
    refine wm Z ?_
    obtain ⟨x235, hx236, hm237⟩ := bd_some hm234; clear hm234
    refine wq Z (QV.call en60 (EvAll.cons Z Z (EvAll.cons Z Z (EvAll.cons Z Z EvAll.nil))) (fun w hw => have h := roundelayref1_Op_w w hx236 ; h)) ?_
    refine wa Z ?_
    refine WL.nil (WQ.block (WQ.then (sr ?_)))
    refine wf fd45_2 Z ?_
    refine wl pl3 Z (Own.cell 0 Z Z) ?_
    obtain ⟨x238, hx239, hm240⟩ := bd_some hm237; clear hm237
    refine wq Z (QV.call en52 (EvAll.cons Z Z EvAll.nil) (fun w hw => have h := roundelayref1_Class_w w hx239 ; h)) ?_
    refine wa Z ?_
    refine nt ?_
    refine WC.dr (m := 19) (S := Own M w [kn M w.heap.size K0 X66.2.2, blk b88 (Opr.cells (ele k_.ops i23_11)) 45, grid X66.1 X66.2.1 28 2 r67_11, vec u6 2 1 (List.map icell v3_10), vec uv28_9 102 3 (List.map Due.cells v28_9), blk b2 [.int .i64 k_.pace, .int .i64 k_.stages, v_k__ops] 27, blk b1 t.cells 24]) (by kernel_rfl) (by kernel_rfl) (fun w hw => hw.pick [3, 0, 1, 4, 5, 6, 7] (by decide)) ?_
    refine wz 0 Z Z (QV.move Z Z) ?_
    refine wz 1 Z Z (QV.move Z Z) ?_
    refine wz 2 Z Z (QV.move Z Z) ?_
    refine wz 3 Z Z (QV.fieldAddr fd24_1 Z Z) ?_
    obtain ⟨c241, hm242⟩ := cs hm240; clear hm240
    refine wz 4 Z Z (QV.indexArray ar22 Z Z Z Z c241.1 c241.2) ?_
    refine wz 5 Z Z (QV.load pl3 Z Z (Own.cellSym 6 Z (sel3_get (off := 3) (i := x238) c241.1 c241.2 Z Z Z) (addr_sym _ _ _))) ?_
    obtain ⟨c243, hm244⟩ := cs hm242; clear hm242
    refine wz 6 Z Z (QV.add Z Z Z Z c243) ?_
    refine wz 7 Z Z (QV.fieldAddr fd45_3 Z Z) ?_
    refine wz 8 Z Z (QV.load pl3 Z Z (Own.cell 1 Z Z)) ?_
    refine wz 9 Z Z (QV.move Z Z) ?_
    obtain ⟨c245, hm246⟩ := cs hm244; clear hm244
    refine wz 10 Z Z (QV.add Z Z Z Z c245) ?_
    refine wz 11 Z Z (QV.fieldAddr fd24_2 Z Z) ?_
    refine wz 12 Z Z (QV.load pl3 Z Z (Own.cell 6 Z Z)) ?_
    obtain ⟨c247, hm248⟩ := cs hm246; clear hm246
    refine wz 13 Z Z (QV.rem Z Z Z Z c247) ?_
    refine wz 14 Z Z (QV.move Z Z) ?_
    refine wz 15 Z Z (QV.build (ps := [(0, .tmp 218), (1, .tmp 225), (2, .tmp 226)]) (cells := [.int .i64 (now18_9 + (sel3 t.w0 t.w1 t.w2 x238)), .int .i64 (Int.tmod ((ele k_.ops i23_11).dest + (Int.tdiv now18_9 k_.pace)) t.regs), .int .i64 x235]) (EvAll.cons Z Z (EvAll.cons Z Z (EvAll.cons Z Z EvAll.nil))) (by kernel_rfl)) ?_
    refine WD.o 16 Z (by kernel_rfl) Z ?_
    refine (EV.buildSlice (by decide) sz_100 (by decide) (by decide) (ps := [(0, .tmp 227)]) (cells := [.int .i64 (now18_9 + (sel3 t.w0 t.w1 t.w2 x238)), .int .i64 (Int.tmod ((ele k_.ops i23_11).dest + (Int.tdiv now18_9 k_.pace)) t.regs), .int .i64 x235]) (EvAll.cons Z Z EvAll.nil) (by kernel_rfl) (fun b249 => ?_))
    refine WD.b (H' := [kn M w.heap.size K0 X66.2.2, blk b249 [.int .i64 (now18_9 + (sel3 t.w0 t.w1 t.w2 x238)), .int .i64 (Int.tmod ((ele k_.ops i23_11).dest + (Int.tdiv now18_9 k_.pace)) t.regs), .int .i64 x235] 102, blk b88 (Opr.cells (ele k_.ops i23_11)) 45, grid X66.1 X66.2.1 28 2 r67_11, vec u6 2 1 (List.map icell v3_10), vec uv28_9 102 3 (List.map Due.cells v28_9), blk b2 [.int .i64 k_.pace, .int .i64 k_.stages, v_k__ops] 27, blk b1 t.cells 24]) (fun w hw => hw.pick [4, 0, 1, 2, 5, 6, 7, 8] (by decide)) (fun w hw => hw.pick [0, 2, 3, 4, 5, 6, 7] (by decide)) ?_
    refine WD.o 17 Z (by kernel_rfl) Z ?_
    obtain ⟨c250, hm251⟩ := cs hm248; clear hm248
    refine (EV.appendL (enc := Due.cells) (xs := v48_11) (ys := [(Due.mk (now18_9 + (sel3 t.w0 t.w1 t.w2 x238)) (Int.tmod ((ele k_.ops i23_11).dest + (Int.tdiv now18_9 k_.pace)) t.regs) x235)]) ((v48_11 ++ [(Due.mk (now18_9 + (sel3 t.w0 t.w1 t.w2 x238)) (Int.tmod ((ele k_.ops i23_11).dest + (Int.tdiv now18_9 k_.pace)) t.regs) x235)])) 3 (by decide) ve100 Z Z Z Z Z (Own.blkArr 0 (rows := [(Due.mk (now18_9 + (sel3 t.w0 t.w1 t.w2 x238)) (Int.tmod ((ele k_.ops i23_11).dest + (Int.tdiv now18_9 k_.pace)) t.regs) x235)].map Due.cells) Z Z (rows_len Due.cells_len)) Due.cells_len (Due.cells_one _) Z c250.1 c250.2 (fun u252 hu253 => ?_))
    refine WD.b (H' := [kn M w.heap.size K0 X66.2.2, blk b249 [.int .i64 (now18_9 + (sel3 t.w0 t.w1 t.w2 x238)), .int .i64 (Int.tmod ((ele k_.ops i23_11).dest + (Int.tdiv now18_9 k_.pace)) t.regs), .int .i64 x235] 102, blk b88 (Opr.cells (ele k_.ops i23_11)) 45, grid X66.1 X66.2.1 28 2 r67_11, vec u252 102 3 (List.map Due.cells (v48_11 ++ [(Due.mk (now18_9 + (sel3 t.w0 t.w1 t.w2 x238)) (Int.tmod ((ele k_.ops i23_11).dest + (Int.tdiv now18_9 k_.pace)) t.regs) x235)])), vec u6 2 1 (List.map icell v3_10), vec uv28_9 102 3 (List.map Due.cells v28_9), blk b2 [.int .i64 k_.pace, .int .i64 k_.stages, v_k__ops] 27, blk b1 t.cells 24]) (fun w hw => hw.pick [4, 0, 1, 2, 3, 5, 6, 7, 8] (by decide)) (fun w hw => hw.pick [0, 1, 2, 3, 5, 6, 7, 8] (by decide)) ?_
    refine wz 18 Z Z (QV.assign Z Z) ?_
    refine WD.e (by kernel_rfl) ?_
    refine WQ.block (WQ.then (WC.region ?_))
    refine wm Z ?_
    obtain ⟨c254, hm255⟩ := cs hm251; clear hm251
    refine wq Z (QV.add Z Z Z Z c254) ?_
    refine wa Z ?_
    refine WL.nil ?_
    exact WQ.again4 (v48_11 ++ [(Due.mk (now18_9 + (sel3 t.w0 t.w1 t.w2 x238)) (Int.tmod ((ele k_.ops i23_11).dest + (Int.tdiv now18_9 k_.pace)) t.regs) x235)]) r67_11 (i23_11 + 1) u252 m78 ⟨up_next hm255 hn81, hu253, hlr67_11, hgr67_11⟩ (Nat.lt_succ_self _) ⟨Z, Z, Z, Z, Z, Z, Z, Z, Z, Z, Z, Z, trivial⟩ (fun w hw => hw.pick [2, 3, 4, 5, 6, 7, 8] (by decide))
   have hm256 := br_f h82 hm80; clear hm80
   refine WC.exit (te (te (WQ.block_exit ?_)))
   exact WQ.out4 v48_11 r67_11 i23_11 uv48_11 ⟨up_brk hm256 hn81, hlv48_11, hlr67_11, hgr67_11⟩ ⟨Z, Z, Z, Z, Z, Z, Z, Z, Z, Z, Z, Z, trivial⟩ (fun w hw => hw.pick [0, 1, 2, 3, 4, 5, 6] (by decide))
  rintro v3_10 v48_10 i20_10 uv48_10 m257 ⟨hI258, hlv3_10, hlv48_10⟩
  obtain ⟨m259, s260, rfl, hm261, hn262⟩ := iter_step hI258; clear hI258; unfold roundelayref5_Play_L2 at hm261; simp only at hm261
  refine WC.seq (sr ?_)
  refine wm Z ?_
  refine wm Z ?_
  refine wq Z (QV.lenS Try.underlying100 Z Z hlv28_9) ?_
  refine wq Z (QV.lss Z Z Z Z) ?_
  refine nt ?_
  refine WC.cond Z (fun h263 => ?_) (fun h263 => ?_)
  ·skip
   have hm264 := br_t h263 hm261; clear hm261
   refine sk (WQ.then (WC.seq (WC.block (sr ?_))))
   refine wm Z ?_
   refine wm Z ?_
   obtain ⟨c265, hm266⟩ := cs hm264; clear hm264
   obtain ⟨p267, hp268⟩ := hlv28_9.ix (sz := 3) ln_len c265
   refine wq Z (QV.indexSlice sl100 Z Z Z Z hp268) ?_
   refine wf fd102_0 Z ?_
   refine wl pl3 Z (fun w hw => CellsAt.one 0 (((Own.vecArr 3 Z) w hw).ele hp268 c265) Z) ?_
   refine wm Z ?_
   refine wq Z (QV.eql Z Z Z Z) ?_
   refine nt ?_
   refine WC.cond Z (fun h269 => ?_) (fun h269 => ?_)
   ·skip
    have hm270 := br_t h269 hm266; clear hm266
    refine WC.dr (m := 13) (S := Own M w [kn M w.heap.size K0 k_9, vec uv48_10 102 3 (List.map Due.cells v48_10), vec u6 2 1 (List.map icell v3_10), vec uv28_9 102 3 (List.map Due.cells v28_9), blk b2 [.int .i64 k_.pace, .int .i64 k_.stages, v_k__ops] 27, blk b1 t.cells 24]) (by kernel_rfl) (by kernel_rfl) (fun w hw => hw.pick [2, 0, 1, 3, 4, 5] (by decide)) ?_
    refine wz 0 Z Z (QV.move Z Z) ?_
    refine wz 1 Z Z (QV.move Z Z) ?_
    refine wz 2 Z Z (QV.move Z Z) ?_
    obtain ⟨c271, hm272⟩ := cs hm270; clear hm270
    obtain ⟨p273, hp274⟩ := hlv28_9.ix (sz := 3) ln_len c271
    refine wz 3 Z Z (QV.indexSlice sl100 Z Z Z Z hp274) ?_
    refine wz 4 Z Z (QV.fieldAddr fd102_1 Z Z) ?_
    refine wz 5 Z Z (QV.load pl3 Z Z (fun w hw => CellsAt.one 1 (((Own.vecArr 3 Z) w hw).ele hp274 c271) Z)) ?_
    refine wz 6 Z Z (QV.move Z Z) ?_
    refine wz 7 Z Z (QV.move Z Z) ?_
    obtain ⟨c275, hm276⟩ := cs hm272; clear hm272
    obtain ⟨p277, hp278⟩ := hlv28_9.ix (sz := 3) ln_len c275
    refine wz 8 Z Z (QV.indexSlice sl100 Z Z Z Z hp278) ?_
    refine wz 9 Z Z (QV.fieldAddr fd102_2 Z Z) ?_
    refine wz 10 Z Z (QV.load pl2 Z Z (fun w hw => CellsAt.one 2 (((Own.vecArr 3 Z) w hw).ele hp278 c275) Z)) ?_
    obtain ⟨c279, hm280⟩ := cs hm276; clear hm276
    obtain ⟨p281, hp282⟩ := hlv3_10.ix (sz := 1) ln_len c279
    refine wz 11 Z Z (QV.indexSlice sl28 Z Z Z Z hp282) ?_
    refine WD.l 12 Z (by kernel_rfl) Z ?_
    refine (EV.storeV 1 ((ele v28_9 i20_10).v) icell_eq Z Z Z Z Z hp282 Z Z sz2 ?_)
    have hl283 : SliceLen u6 (upd v3_10 ((ele v28_9 i20_10).reg) ((ele v28_9 i20_10).v)).length := slen_upd hlv3_10
    refine WQ.block (WQ.then (WC.region ?_))
    refine wm Z ?_
    obtain ⟨c284, hm285⟩ := cs hm280; clear hm280
    refine wq Z (QV.add Z Z Z Z c284) ?_
    refine wa Z ?_
    refine WL.nil ?_
    exact WQ.again4 (upd v3_10 ((ele v28_9 i20_10).reg) ((ele v28_9 i20_10).v)) v48_10 (i20_10 + 1) uv48_10 m259 ⟨up_next hm285 hn262, hl283, hlv48_10⟩ (Nat.lt_succ_self _) ⟨Z, Z, Z, Z, Z, Z, Z, Z, Z, Z, Z, trivial⟩ (fun w hw => hw.pick [0, 1, 2, 3, 4, 5] (by decide))
   have hm286 := br_f h269 hm266; clear hm266
   refine WC.region ?_
   refine wm Z ?_
   refine wm Z ?_
   refine wm Z ?_
   obtain ⟨c287, hm288⟩ := cs hm286; clear hm286
   obtain ⟨p289, hp290⟩ := hlv28_9.ix (sz := 3) ln_len c287
   refine wq Z (QV.indexSlice sl100 Z Z Z Z hp290) ?_
   refine wq Z (QV.loadAgg ag102 Z Z Z (fun w hw => ((Own.vecArr 3 Z) w hw).ele hp290 c287)) ?_
   refine WL.effect Z ?_
   refine (EV.buildSlice (by decide) sz_100 (by decide) (by decide) (ps := [(0, .tmp 88)]) (cells := [.int .i64 ((ele v28_9 i20_10).due), .int .i64 ((ele v28_9 i20_10).reg), .int .i64 ((ele v28_9 i20_10).v)]) (EvAll.cons Z Z EvAll.nil) (by kernel_rfl) (fun b291 => ?_))
   refine WL.effect Z ?_
   obtain ⟨c292, hm293⟩ := cs hm288; clear hm288
   refine (EV.appendL (enc := Due.cells) (xs := v48_10) (ys := [(ele v28_9 i20_10)]) ((v48_10 ++ [(ele v28_9 i20_10)])) 1 (by decide) ve100 Z Z Z Z Z (Own.blkArr 0 (rows := [(ele v28_9 i20_10)].map Due.cells) Z Z (rows_len Due.cells_len)) Due.cells_len (Due.cells_one _) Z c292.1 c292.2 (fun u294 hu295 => ?_))
   refine wa Z ?_
   refine WL.nil (WQ.block (WQ.then (WC.region ?_)))
   refine wm Z ?_
   obtain ⟨c296, hm297⟩ := cs hm293; clear hm293
   refine wq Z (QV.add Z Z Z Z c296) ?_
   refine wa Z ?_
   refine WL.nil ?_
   exact WQ.again4 v3_10 (v48_10 ++ [(ele v28_9 i20_10)]) (i20_10 + 1) u294 m259 ⟨up_next hm297 hn262, hlv3_10, hu295⟩ (Nat.lt_succ_self _) ⟨Z, Z, Z, Z, Z, Z, Z, Z, Z, Z, Z, trivial⟩ (fun w hw => hw.pick [1, 2, 3, 4, 5, 6] (by decide))
  have hm298 := br_f h263 hm261; clear hm261
  refine WC.exit (te (te (WQ.block_exit ?_)))
  exact WQ.out4 v3_10 v48_10 i20_10 uv48_10 ⟨up_brk hm298 hn262, hlv3_10, hlv48_10⟩ ⟨Z, Z, Z, Z, Z, Z, Z, Z, Z, Z, Z, trivial⟩ (fun w hw => hw.pick [0, 1, 2, 3, 4, 5] (by decide))
 have hm299 := br_f h46 hm45; clear hm45
 refine WC.exit (te (te (WQ.block_exit ?_)))
 exact WQ.out7 v28_9 v3_9 m13_9 now18_9 uv28_9 vm13_9 k_9 ⟨up_brk hm299 hn41, hlv28_9, hlv3_9, hAm13_9, hle_9⟩ ⟨Z, Z, Z, Z, Z, Z, Z, Z, Z, trivial⟩ (fun w hw => hw.pick [0, 1, 2, 3, 4] (by decide))
end Go.Proofs.Ytaimbkndebaaiab
end

section
namespace Go.Proofs.Ytaimbkndebaaiab
open Go.Rd
set_option linter.unusedVariables false
open TNum TLoop TKern TKeep TOrd TCpt TDep TSched1 TEmit TCheck TRDep TR10 TR10b TClone TNbr TSeq TR5b
namespace TDoes
theorem en20 : Go.Rd.Enters Try.prog 20 := ⟨Try.f20, Try.func20, by kernel_rfl, by kernel_rfl⟩
theorem en22 : Go.Rd.Enters Try.prog 22 := ⟨Try.f22, Try.func22, by kernel_rfl, by kernel_rfl⟩
theorem en87 : Go.Rd.Enters Try.prog 87 := ⟨Try.f87, Try.func87, by kernel_rfl, by kernel_rfl⟩
theorem en88 : Go.Rd.Enters Try.prog 88 := ⟨Try.f88, Try.func88, by kernel_rfl, by kernel_rfl⟩
theorem en89 : Go.Rd.Enters Try.prog 89 := ⟨Try.f89, Try.func89, by kernel_rfl, by kernel_rfl⟩
theorem fd137_1 : FieldT Try.prog 137 1 1 := ⟨_, _, 0, Try.underlying137, rfl, rfl, by kernel_rfl⟩
end TDoes
open TDoes
set_option maxRecDepth 8000 in
theorem roundelaylaw_work_w {v_k__ops : Value} {k_ : Krn} {turns : Int} {r : Bool} (w : World) (hm : roundelaylaw_work_m k_ turns = some r) (h_k__ops : Arr w v_k__ops 10 (k_.ops.map Opr.cells)) : Calls Try.prog 18 #[.agg #[.int .i64 k_.pace, .int .i64 k_.stages, v_k__ops], .int .i64 turns] w (fun e w' => e = .returned (.bool r) ∧ Grow w w') := by
 unfold roundelaylaw_work_m at hm
 have hk := Base.rfl (w := w)
 refine calls_of_WC (n := 27) (args := [.agg #[.int .i64 k_.pace, .int .i64 k_.stages, v_k__ops], .int .i64 turns]) Try.func18 Z Z (Nat.le_of_ble_eq_true Z) ?_ (Own.startK hk (Own.start w))
 refine sr ?_
 refine WL.effect Z ?_
 refine (EV.boxAgg (by decide) Z Z (fun b1 => ?_))
 refine wa Z ?_
 refine ns ?_
 refine wm Z ?_
 refine wq Z (QV.gtr Z Z Z Z) ?_
 refine wm Z ?_
 refine gn Z (fun hG => QV.fieldAddr fd27_1 Z Z) ?_
 refine gn Z (fun hG => QV.load pl3 Z hG (Own.cell 0 Z Z)) ?_
 refine gn Z (fun hG => QV.gtr Z hG Z Z) ?_
 refine wq Z (QV.pickOr Z Z Z (fun h => notF h)) ?_
 refine wm Z ?_
 refine gn Z (fun hG => QV.fieldAddr fd27_0 Z Z) ?_
 refine gn Z (fun hG => QV.load pl3 Z hG (Own.cell 0 Z Z)) ?_
 refine gn Z (fun hG => QV.gtr Z hG Z Z) ?_
 refine wq Z (QV.pickOr Z Z Z (fun h => notF h)) ?_
 refine wm Z ?_
 refine gn Z (fun hG => QV.move Z Z) ?_
 refine gn Z (fun hG => QV.fieldAddr fd27_1 Z Z) ?_
 refine gn Z (fun hG => QV.load pl3 Z hG (Own.cell 0 Z Z)) ?_
 obtain ⟨c2, hm3⟩ := cs hm; clear hm
 refine gn Z (fun hG => QV.add Z hG Z hG (c2 hG)) ?_
 refine gn Z (fun hG => QV.fieldAddr fd27_0 Z Z) ?_
 refine gn Z (fun hG => QV.load pl3 Z hG (Own.cell 0 Z Z)) ?_
 obtain ⟨c4, hm5⟩ := cs hm3; clear hm3
 refine gn Z (fun hG => QV.mul Z hG Z hG (c4 hG)) ?_
 refine gn Z (fun hG => QV.gtr Z hG Z Z) ?_
 refine wq Z (QV.pickOr Z Z Z (fun h => notF h)) ?_
 refine wa Z ?_
 refine nt (WC.ret ?_)
 obtain rfl := (eq_of_some hm5).symm
 refine WQ.ret1 Z Z (fun w hw => ?_)
 exact ⟨Z, Own.kgrow (fun _ x => x) hw⟩

set_option maxRecDepth 8000 in
theorem roundelaylaw_does_w {v_l_logs : Value} {v_l_body : Value} {v_l_outs : Value} {v_k__ops : Value} {v_order : Value} {v_s_bef : Value} {v_s_mem : Value} {l : Lp} {t : Tgt} {k_ : Krn} {order : List Int} {s : Sta} {turns : Int} {r : Bool} (w : World) (hm : roundelaylaw_does_m l t k_ order s turns = some r) (h_l_logs : Arr w v_l_logs 1 (l.logs.map icell)) (h_l_body : Arr w v_l_body 9 (l.body.map Stm.cells)) (h_l_outs : Arr w v_l_outs 1 (l.outs.map icell)) (h_k__ops : Arr w v_k__ops 10 (k_.ops.map Opr.cells)) (h_order : Arr w v_order 1 (order.map icell)) (h_s_bef : RowsA w v_s_bef s.bef) (h_s_mem : RowsA w v_s_mem s.mem) : Calls Try.prog 44 #[.agg #[v_l_logs, v_l_body, v_l_outs], .agg #[.int .i64 t.u0, .int .i64 t.u1, .int .i64 t.u2, .int .i64 t.w0, .int .i64 t.w1, .int .i64 t.w2, .int .i64 t.regs], .agg #[.int .i64 k_.pace, .int .i64 k_.stages, v_k__ops], v_order, .agg #[v_s_bef, v_s_mem], .int .i64 turns] w (fun e w' => e = .returned (.bool r) ∧ Grow w w') := by
 unfold roundelaylaw_does_m at hm
 have hk := Base.rfl (w := w)
 refine calls_of_WC (n := 58) (args := [.agg #[v_l_logs, v_l_body, v_l_outs], .agg #[.int .i64 t.u0, .int .i64 t.u1, .int .i64 t.u2, .int .i64 t.w0, .int .i64 t.w1, .int .i64 t.w2, .int .i64 t.regs], .agg #[.int .i64 k_.pace, .int .i64 k_.stages, v_k__ops], v_order, .agg #[v_s_bef, v_s_mem], .int .i64 turns]) Try.func44 Z Z (Nat.le_of_ble_eq_true Z) ?_ (Own.startK hk (Own.start w))
 refine sr ?_
 refine WL.effect Z ?_
 refine (EV.boxAgg (by decide) Z Z (fun b1 => ?_))
 refine WL.effect Z ?_
 refine (EV.boxAgg (by decide) Z Z (fun b2 => ?_))
 refine WL.effect Z ?_
 refine (EV.boxAgg (by decide) Z Z (fun b3 => ?_))
 refine WL.effect Z ?_
 refine (EV.boxAgg (by decide) Z Z (fun b4 => ?_))
 refine wa Z ?_
 refine ns ?_
 refine wq Z (QV.loadAgg ag49 Z Z Z (Own.cellsBlk 3 Z)) ?_
 refine wq Z (QV.loadAgg ag24 Z Z Z (Own.cellsBlk 2 Z)) ?_
 refine wq Z (QV.loadAgg ag27 Z Z Z (Own.cellsBlk 1 Z)) ?_
 refine wm Z ?_
 refine wf fd80_0 Z ?_
 refine wl pl29 Z (Own.cell 0 Z Z) ?_
 refine WL.effect Z ?_
 obtain ⟨x5, hx6, hm7⟩ := bd_some hm; clear hm
 refine EV.of (C' := Own noM w [kn noM w.heap.size w w, blk b4 [v_s_bef, v_s_mem] 80, blk b3 [.int .i64 k_.pace, .int .i64 k_.stages, v_k__ops] 27, blk b2 t.cells 24, blk b1 [v_l_logs, v_l_body, v_l_outs] 49]) (fun w hw => hw.pick [4, 0, 1, 2, 3] (by decide)) ?_
 refine (EV.callR (X := Value × World) (R := []) (fun X => X.1) (fun X => []) (fun X => X.2) (fun X => Arr X.2 X.1 1 (x5.map icell)) hk (fun _ h => by cases h; decide) en87 (EvAll.cons Z Z (EvAll.cons Z Z (EvAll.cons Z Z (EvAll.cons Z Z (EvAll.cons Z Z EvAll.nil))))) (fun M w h1 h2 => have h := roundelayref10_Enter_w hx6 h_l_logs h_l_body h_l_outs h_k__ops h_order h_s_bef M w h1 h2; h) (fun X8 hF8 hle8 => ?_))
 refine wa Z ?_
 refine ns ?_
 refine wq Z (QV.loadAgg ag24 Z Z Z (Own.cellsBlk 3 Z)) ?_
 refine wq Z (QV.loadAgg ag27 Z Z Z (Own.cellsBlk 2 Z)) ?_
 refine wm Z ?_
 refine wf fd80_1 Z ?_
 refine wl pl29 Z (Own.cell 1 Z Z) ?_
 refine wm Z ?_
 refine WL.effect Z ?_
 obtain ⟨x9, hx10, hm11⟩ := bd_some hm7; clear hm7
 refine (EV.callR (X := Value × Value × World) (R := []) (fun X => .tuple #[X.1, X.2.1]) (fun X => []) (fun X => X.2.2) (fun X => Arr X.2.2 X.1 1 (x9.1.map icell) ∧ RowsA X.2.2 X.2.1 x9.2) hk (fun _ h => by cases h; decide) en20 (EvAll.cons Z Z (EvAll.cons Z Z (EvAll.cons Z Z (EvAll.cons Z Z (EvAll.cons Z Z EvAll.nil))))) (fun M w h1 h2 => have h := roundelayref5_Play_w hx10 (h_k__ops.le hle8) hF8 (h_s_mem.le hle8) M w h1 h2; h) (fun X12 hF12 hle12 => ?_))
 refine wm Z ?_
 refine wq Z (QV.extract Z Z Z) ?_
 refine wq Z (QV.extract Z Z Z) ?_
 refine wa Z ?_
 refine wa Z ?_
 refine ns ?_
 refine wq Z (QV.loadAgg ag49 Z Z Z (Own.cellsBlk 4 Z)) ?_
 refine wq Z (QV.loadAgg ag24 Z Z Z (Own.cellsBlk 3 Z)) ?_
 refine wq Z (QV.loadAgg ag27 Z Z Z (Own.cellsBlk 2 Z)) ?_
 refine wm Z ?_
 refine wf fd80_0 Z ?_
 refine wl pl29 Z (Own.cell 1 Z Z) ?_
 refine wm Z ?_
 refine wm Z ?_
 refine WL.effect Z ?_
 obtain ⟨x13, hx14, hm15⟩ := bd_some hm11; clear hm11
 refine (EV.callR (X := Value × World) (R := []) (fun X => X.1) (fun X => []) (fun X => X.2) (fun X => Arr X.2 X.1 1 (x13.map icell)) hk (fun _ h => by cases h; decide) en88 (EvAll.cons Z Z (EvAll.cons Z Z (EvAll.cons Z Z (EvAll.cons Z Z (EvAll.cons Z Z (EvAll.cons Z Z (EvAll.cons Z Z EvAll.nil))))))) (fun M w h1 h2 => have h := roundelayref10_Leave_w hx14 (h_l_logs.le (hle8.trans hle12)) (h_l_body.le (hle8.trans hle12)) (h_l_outs.le (hle8.trans hle12)) (h_k__ops.le (hle8.trans hle12)) (h_order.le (hle8.trans hle12)) (h_s_bef.le (hle8.trans hle12)) hF12.1 M w h1 h2; h) (fun X16 hF16 hle16 => ?_))
 refine wa Z ?_
 refine ns ?_
 refine wq Z (QV.loadAgg ag49 Z Z Z (Own.cellsBlk 4 Z)) ?_
 refine wq Z (QV.loadAgg ag80 Z Z Z (Own.cellsBlk 1 Z)) ?_
 refine wm Z ?_
 refine WL.effect Z ?_
 obtain ⟨x17, hx18, hm19⟩ := bd_some hm15; clear hm15
 refine (EV.callR (X := Value × Value × World) (R := []) (fun X => .agg #[X.1, X.2.1]) (fun X => []) (fun X => X.2.2) (fun X => Arr X.2.2 X.1 1 (x17.outs.map icell) ∧ RowsA X.2.2 X.2.1 x17.mem) hk (fun _ h => by cases h; decide) en89 (EvAll.cons Z Z (EvAll.cons Z Z (EvAll.cons Z Z EvAll.nil))) (fun M w h1 h2 => have h := roundelayref3_Play_w hx18 (h_l_logs.le ((hle8.trans hle12).trans hle16)) (h_l_body.le ((hle8.trans hle12).trans hle16)) (h_l_outs.le ((hle8.trans hle12).trans hle16)) (h_s_bef.le ((hle8.trans hle12).trans hle16)) (h_s_mem.le ((hle8.trans hle12).trans hle16)) M w h1 h2; h) (fun X20 hF20 hle20 => ?_))
 refine WL.effect Z ?_
 refine (EV.alloc (by decide) ze137 (fun b21 => ?_))
 refine WL.effect Z ?_
 refine (EV.store 0 Z Z Z Z Z Z (vs := [X20.1, X20.2.1]) (show Value.cells _ = List.toArray _ from Z) sz137 (Nat.le_of_ble_eq_true Z) (one_cons (SliceLen.one hF20.1.lenMap) (one_cons (SliceLen.one hF20.2.slen) one_nil)) ?_)
 refine ns ?_
 refine wm Z ?_
 refine wf fd137_0 Z ?_
 refine wl pl28 Z (Own.cell 0 Z Z) ?_
 obtain ⟨x22, hx23, hm24⟩ := bd_some hm19; clear hm19
 refine wq Z (QV.call en21 (EvAll.cons Z Z (EvAll.cons Z Z EvAll.nil)) (fun w hw => have h := roundelayref3_Numbers_w w hx23 ((Own.karr 1 Z hk (hF16.le hle20)) w hw) ((Own.karr 1 Z hk hF20.1) w hw); h)) ?_
 refine wm Z ?_
 refine gp Z (fun hG => QV.move Z Z) ?_
 refine gp Z (fun hG => QV.fieldAddr fd137_1 Z Z) ?_
 refine gp Z (fun hG => QV.load pl29 Z hG (Own.cell 0 Z Z)) ?_
 obtain ⟨x25, hx26, hm27⟩ := bdG_some hm24; clear hm24
 refine gp Z (fun hG => QV.call en22 (EvAll.cons Z hG (EvAll.cons Z hG EvAll.nil)) (fun w hw => have h := roundelayref3_Words_w w (hx26 hG) (Own.krows 1 Z hk (hF12.2.le (hle16.trans hle20)) w hw) (Own.krows 1 Z hk hF20.2 w hw); h)) ?_
 refine wq Z (QV.pickAnd Z Z Z (fun h => h)) ?_
 refine wa Z ?_
 refine nt (WC.ret ?_)
 obtain rfl := (eq_of_some hm27).symm
 refine WQ.ret1 Z Z (fun w hw => ?_)
 exact ⟨Z, Own.kgrow (fun _ x => x) hw⟩
end Go.Proofs.Ytaimbkndebaaiab
end

section
namespace Go.Proofs.Ytaimbkndebaaiab
open Go.Rd
set_option linter.unusedVariables false
open TNum TLoop TKern TKeep TOrd TCpt TDep TSched1 TEmit TCheck TRDep TR10 TR10b TClone TNbr TSeq TR5b TDoes
namespace TLawSound
theorem en18 : Go.Rd.Enters Try.prog 18 := ⟨Try.f18, Try.func18, by kernel_rfl, by kernel_rfl⟩
theorem en41 : Go.Rd.Enters Try.prog 41 := ⟨Try.f41, Try.func41, by kernel_rfl, by kernel_rfl⟩
theorem en43 : Go.Rd.Enters Try.prog 43 := ⟨Try.f43, Try.func43, by kernel_rfl, by kernel_rfl⟩
theorem en44 : Go.Rd.Enters Try.prog 44 := ⟨Try.f44, Try.func44, by kernel_rfl, by kernel_rfl⟩
theorem sz24 : SizeT Try.prog 24 7 := by unfold SizeT; kernel_rfl
theorem ze24 : ZeroT Try.prog 24 [.int .i64 0, .int .i64 0, .int .i64 0, .int .i64 0, .int .i64 0, .int .i64 0, .int .i64 0] := by unfold ZeroT; kernel_rfl
end TLawSound
open TLawSound
set_option maxRecDepth 8000 in
theorem roundelaylaw_CheckSound_w {v_l_logs : Value} {v_l_body : Value} {v_l_outs : Value} {v_k__ops : Value} {v_order : Value} {v_s_bef : Value} {v_s_mem : Value} {l : Lp} {t : Tgt} {k_ : Krn} {order : List Int} {s : Sta} {turns : Int} {r : Bool} (w : World) (hm : roundelaylaw_CheckSound_m l t k_ order s turns = some r) (h_l_logs : Arr w v_l_logs 1 (l.logs.map icell)) (h_l_body : Arr w v_l_body 9 (l.body.map Stm.cells)) (h_l_outs : Arr w v_l_outs 1 (l.outs.map icell)) (h_k__ops : Arr w v_k__ops 10 (k_.ops.map Opr.cells)) (h_order : Arr w v_order 1 (order.map icell)) (h_s_bef : RowsA w v_s_bef s.bef) (h_s_mem : RowsA w v_s_mem s.mem) : Calls Try.prog 13 #[.agg #[v_l_logs, v_l_body, v_l_outs], .agg #[.int .i64 t.u0, .int .i64 t.u1, .int .i64 t.u2, .int .i64 t.w0, .int .i64 t.w1, .int .i64 t.w2, .int .i64 t.regs], .agg #[.int .i64 k_.pace, .int .i64 k_.stages, v_k__ops], v_order, .agg #[v_s_bef, v_s_mem], .int .i64 turns] w (fun e w' => e = .returned (.bool r) ∧ Grow w w') := by
 unfold roundelaylaw_CheckSound_m at hm
 have hk := Base.rfl (w := w)
 refine calls_of_WC (n := 71) (args := [.agg #[v_l_logs, v_l_body, v_l_outs], .agg #[.int .i64 t.u0, .int .i64 t.u1, .int .i64 t.u2, .int .i64 t.w0, .int .i64 t.w1, .int .i64 t.w2, .int .i64 t.regs], .agg #[.int .i64 k_.pace, .int .i64 k_.stages, v_k__ops], v_order, .agg #[v_s_bef, v_s_mem], .int .i64 turns]) Try.func13 Z Z (Nat.le_of_ble_eq_true Z) ?_ (Own.startK hk (Own.start w))
 refine sr ?_
 refine WL.effect Z ?_
 refine (EV.boxAgg (by decide) Z Z (fun b1 => ?_))
 refine WL.effect Z ?_
 refine (EV.boxAgg (by decide) Z Z (fun b2 => ?_))
 refine WL.effect Z ?_
 refine (EV.boxAgg (by decide) Z Z (fun b3 => ?_))
 refine WL.effect Z ?_
 refine (EV.boxAgg (by decide) Z Z (fun b4 => ?_))
 refine wa Z ?_
 refine nt (WC.seq (sr ?_))
 refine wq Z (QV.loadAgg ag49 Z Z Z (Own.cellsBlk 3 Z)) ?_
 refine wq Z (QV.loadAgg ag24 Z Z Z (Own.cellsBlk 2 Z)) ?_
 refine wq Z (QV.loadAgg ag27 Z Z Z (Own.cellsBlk 1 Z)) ?_
 refine wm Z ?_
 obtain ⟨x5, hx6, hm7⟩ := bd_some hm; clear hm
 refine wq Z (QV.call en41 (EvAll.cons Z Z (EvAll.cons Z Z (EvAll.cons Z Z (EvAll.cons Z Z EvAll.nil)))) (fun w hw => have h := check_Takes_w w hx6 ((Own.karr 4 Z hk h_l_logs) w hw) ((Own.karr 4 Z hk h_l_body) w hw) ((Own.karr 4 Z hk h_l_outs) w hw) ((Own.karr 4 Z hk h_k__ops) w hw) ((Own.karr 4 Z hk h_order) w hw); h)) ?_
 refine wq Z (QV.not Z Z) ?_
 refine nt ?_
 refine WC.cond Z (fun h8 => ?_) (fun h8 => ?_)
 ·skip
  have hm9 := br_t h8 hm7; clear hm7
  refine sr ?_
  refine wq Z (QV.build (ps := [(2, .const (.int .i64 2))]) (cells := [.int .i64 0, .int .i64 0, .int .i64 2, .int .i64 0, .int .i64 0, .int .i64 0, .int .i64 0, .int .i64 0, .int .i64 0, .int .i64 0]) (EvAll.cons Z Z EvAll.nil) (by kernel_rfl)) ?_
  refine WL.effect Z ?_
  refine (EV.buildSlice (by decide) sz_25 (by decide) (by decide) (ps := [(0, .tmp 23)]) (cells := [.int .i64 0, .int .i64 0, .int .i64 2, .int .i64 0, .int .i64 0, .int .i64 0, .int .i64 0, .int .i64 0, .int .i64 0, .int .i64 0]) (EvAll.cons Z Z EvAll.nil) (by kernel_rfl) (fun b10 => ?_))
  refine wq Z (QV.buildS (ps := [(0, .const (.int .i64 1)), (1, .const (.int .i64 1)), (2, .tmp 24)]) (cells := [.int .i64 1, .int .i64 1, (blkSlice b10 1 1)]) (css := [[.int .i64 1], [.int .i64 1], [(blkSlice b10 1 1)]]) (EvAll.cons Z Z (EvAll.cons Z Z (EvAll.cons Z Z EvAll.nil))) (CellsAll.cons Z (CellsAll.cons Z (CellsAll.cons (SliceLen.cells SliceLen.blk) CellsAll.nil))) (by kernel_rfl)) ?_
  refine WL.effect Z ?_
  refine (EV.alloc (by decide) ze27 (fun b11 => ?_))
  refine WL.effect Z ?_
  refine (EV.store 0 Z Z Z Z Z Z (vs := [.int .i64 1, .int .i64 1, (blkSlice b10 1 1)]) (show Value.cells _ = List.toArray _ from Z) sz27 (Nat.le_of_ble_eq_true Z) (one_cons Z (one_cons Z (one_cons (SliceLen.one SliceLen.blk) one_nil))) ?_)
  refine ns ?_
  refine wq Z (QV.build (ps := [(0, .const (.int .i64 1)), (1, .const (.int .i64 1)), (2, .const (.int .i64 1))]) (cells := [.int .i64 1, .int .i64 1, .int .i64 1]) (EvAll.cons Z Z (EvAll.cons Z Z (EvAll.cons Z Z EvAll.nil))) (by kernel_rfl)) ?_
  refine wq Z (QV.build (ps := [(0, .const (.int .i64 1)), (1, .const (.int .i64 1)), (2, .const (.int .i64 1))]) (cells := [.int .i64 1, .int .i64 1, .int .i64 1]) (EvAll.cons Z Z (EvAll.cons Z Z (EvAll.cons Z Z EvAll.nil))) (by kernel_rfl)) ?_
  refine wq Z (QV.build (ps := [(0, .tmp 26), (1, .tmp 27), (2, .const (.int .i64 2))]) (cells := [.int .i64 1, .int .i64 1, .int .i64 1, .int .i64 1, .int .i64 1, .int .i64 1, .int .i64 2]) (EvAll.cons Z Z (EvAll.cons Z Z (EvAll.cons Z Z EvAll.nil))) (by kernel_rfl)) ?_
  refine WL.effect Z ?_
  refine (EV.alloc (by decide) ze24 (fun b12 => ?_))
  refine WL.effect Z ?_
  refine (EV.store 0 Z Z Z Z Z Z (vs := [.int .i64 1, .int .i64 1, .int .i64 1, .int .i64 1, .int .i64 1, .int .i64 1, .int .i64 2]) (show Value.cells _ = List.toArray _ from Z) sz24 (Nat.le_of_ble_eq_true Z) (one_cons Z (one_cons Z (one_cons Z (one_cons Z (one_cons Z (one_cons Z (one_cons Z one_nil))))))) ?_)
  refine ns ?_
  refine wq Z (QV.build (ps := [(0, .const (.int .i64 2))]) (cells := [.int .i64 2, .int .i64 0, .int .i64 0, .int .i64 0, .int .i64 0, .int .i64 0, .int .i64 0, .int .i64 0, .int .i64 0]) (EvAll.cons Z Z EvAll.nil) (by kernel_rfl)) ?_
  refine WL.effect Z ?_
  refine (EV.buildSlice (by decide) sz_47 (by decide) (by decide) (ps := [(0, .tmp 29)]) (cells := [.int .i64 2, .int .i64 0, .int .i64 0, .int .i64 0, .int .i64 0, .int .i64 0, .int .i64 0, .int .i64 0, .int .i64 0]) (EvAll.cons Z Z EvAll.nil) (by kernel_rfl) (fun b13 => ?_))
  refine WL.effect Z ?_
  refine (EV.buildSlice (by decide) sz_30 (by decide) (by decide) (ps := [(0, .const (.int .i64 0))]) (cells := [.int .i64 0]) (EvAll.cons Z Z EvAll.nil) (by kernel_rfl) (fun b14 => ?_))
  refine wq Z (QV.buildS (ps := [(1, .tmp 30), (2, .tmp 31)]) (cells := [.slice none 0 0, (blkSlice b13 1 1), (blkSlice b14 1 1)]) (css := [[(blkSlice b13 1 1)], [(blkSlice b14 1 1)]]) (EvAll.cons Z Z (EvAll.cons Z Z EvAll.nil)) (CellsAll.cons (SliceLen.cells SliceLen.blk) (CellsAll.cons (SliceLen.cells SliceLen.blk) CellsAll.nil)) (by kernel_rfl)) ?_
  refine wq Z (QV.loadAgg ag24 Z Z Z (Own.cellsBlk 2 Z)) ?_
  refine wq Z (QV.loadAgg ag27 Z Z Z (Own.cellsBlk 3 Z)) ?_
  refine WL.effect Z ?_
  refine (EV.buildSlice (by decide) sz_30 (by decide) (by decide) (ps := [(0, .const (.int .i64 0))]) (cells := [.int .i64 0]) (EvAll.cons Z Z EvAll.nil) (by kernel_rfl) (fun b15 => ?_))
  obtain ⟨x16, hx17, hm18⟩ := bd_some hm9; clear hm9
  refine wq Z (QV.call en41 (EvAll.cons Z Z (EvAll.cons Z Z (EvAll.cons Z Z (EvAll.cons Z Z EvAll.nil)))) (fun w hw => have h := check_Takes_w w hx17 Arr.nil ((Own.blkArr 2 (rows := [(Stm.mk 2 (Rf.mk 0 0) (Rf.mk 0 0) 0 0 0 0)].map Stm.cells) Z Z (rows_len Stm.cells_len)) w hw) ((Own.blkArr 1 (rows := [0].map icell) Z Z (rows_len icell_len)) w hw) ((Own.blkArr 5 (rows := [(Opr.mk 0 0 2 0 0 0 0 0 0 0)].map Opr.cells) Z Z (rows_len Opr.cells_len)) w hw) ((Own.blkArr 0 (rows := [0].map icell) Z Z (rows_len icell_len)) w hw); h)) ?_
  refine wa Z ?_
  refine nt (WC.ret (tr ?_))
  obtain rfl := (eq_of_some hm18).symm
  refine WQ.ret1 Z Z (fun w hw => ?_)
  exact ⟨Z, Own.kgrow (fun _ x => x) hw⟩
 have hm19 := br_f h8 hm7; clear hm7
 refine sk (WQ.then (sr ?_))
 refine wq Z (QV.loadAgg ag49 Z Z Z (Own.cellsBlk 3 Z)) ?_
 refine wq Z (QV.loadAgg ag24 Z Z Z (Own.cellsBlk 2 Z)) ?_
 refine wq Z (QV.loadAgg ag27 Z Z Z (Own.cellsBlk 1 Z)) ?_
 refine wm Z ?_
 refine WL.effect Z ?_
 obtain ⟨x20, hx21, hm22⟩ := bd_some hm19; clear hm19
 refine EV.of (C' := Own noM w [kn noM w.heap.size w w, blk b4 [v_s_bef, v_s_mem] 80, blk b3 [.int .i64 k_.pace, .int .i64 k_.stages, v_k__ops] 27, blk b2 t.cells 24, blk b1 [v_l_logs, v_l_body, v_l_outs] 49]) (fun w hw => hw.pick [4, 0, 1, 2, 3] (by decide)) ?_
 refine (EV.callR (X := Value × World) (R := []) (fun X => .tuple #[X.1, .bool x20.2]) (fun X => []) (fun X => X.2) (fun X => Arr X.2 X.1 3 (x20.1.map Off.cells)) hk (fun _ h => by cases h; decide) en42 (EvAll.cons Z Z (EvAll.cons Z Z (EvAll.cons Z Z (EvAll.cons Z Z EvAll.nil)))) (fun M w h1 h2 => have h := roundelayref10_Layout_w hx21 h_l_logs h_l_body h_l_outs h_k__ops h_order M w h1 h2; h) (fun X23 hF23 hle23 => ?_))
 refine wm Z ?_
 refine wq Z (QV.extract Z Z Z) ?_
 refine wq Z (QV.extract Z Z Z) ?_
 refine wa Z ?_
 refine wa Z ?_
 refine nt (WC.seq (sr ?_))
 refine wm Z ?_
 refine wq Z (QV.not Z Z) ?_
 refine nt ?_
 refine WC.cond Z (fun h24 => ?_) (fun h24 => ?_)
 ·skip
  have hm25 := br_t h24 hm22; clear hm22
  refine sr ?_
  refine wa Z ?_
  refine nt (WC.ret (tr ?_))
  obtain rfl := (eq_of_some hm25).symm
  refine WQ.ret1 Z Z (fun w hw => ?_)
  exact ⟨Z, Own.kgrow (fun _ x => x) hw⟩
 have hm26 := br_f h24 hm22; clear hm22
 refine sk (WQ.then (WC.seq (sr ?_)))
 refine wm Z ?_
 refine wq Z (QV.lss Z Z Z Z) ?_
 refine wm Z ?_
 refine gn Z (fun hG => QV.move Z Z) ?_
 refine gn Z (fun hG => QV.gtr Z hG Z Z) ?_
 refine wq Z (QV.pickOr Z Z Z (fun h => notF h)) ?_
 refine wm Z ?_
 refine gn Z (fun hG => QV.loadAgg ag49 Z Z Z (Own.cellsBlk 4 Z)) ?_
 refine gn Z (fun hG => QV.loadAgg ag80 Z Z Z (Own.cellsBlk 1 Z)) ?_
 obtain ⟨x27, hx28, hm29⟩ := bdG_some hm26; clear hm26
 refine gn Z (fun hG => QV.call en43 (EvAll.cons Z hG (EvAll.cons Z hG EvAll.nil)) (fun w hw => have h := roundelayref2_Fits_w w (hx28 hG) ((Own.karr 0 Z hk (h_l_logs.le hle23)) w hw) ((Own.karr 0 Z hk (h_l_body.le hle23)) w hw) ((Own.karr 0 Z hk (h_l_outs.le hle23)) w hw) (Own.krows 0 Z hk (h_s_bef.le hle23) w hw) (Own.krows 0 Z hk (h_s_mem.le hle23) w hw); h)) ?_
 refine gn Z (fun hG => QV.not Z hG) ?_
 refine wq Z (QV.pickOr Z Z Z (fun h => notF h)) ?_
 refine wm Z ?_
 refine gn Z (fun hG => QV.loadAgg ag27 Z Z Z (Own.cellsBlk 2 Z)) ?_
 refine gn Z (fun hG => QV.move Z Z) ?_
 obtain ⟨x30, hx31, hm32⟩ := bdG_some hm29; clear hm29
 refine gn Z (fun hG => QV.call en18 (EvAll.cons Z hG (EvAll.cons Z hG EvAll.nil)) (fun w hw => have h := roundelaylaw_work_w w (hx31 hG) ((Own.karr 0 Z hk (h_k__ops.le hle23)) w hw); h)) ?_
 refine wq Z (QV.pickOr Z Z Z (fun h => notF h)) ?_
 refine nt ?_
 refine WC.cond Z (fun h33 => ?_) (fun h33 => ?_)
 ·skip
  have hm34 := br_t h33 hm32; clear hm32
  refine sr ?_
  refine wa Z ?_
  refine nt (WC.ret (tr ?_))
  obtain rfl := (eq_of_some hm34).symm
  refine WQ.ret1 Z Z (fun w hw => ?_)
  exact ⟨Z, Own.kgrow (fun _ x => x) hw⟩
 have hm35 := br_f h33 hm32; clear hm32
 refine sk (WQ.then (sr ?_))
 refine wq Z (QV.loadAgg ag49 Z Z Z (Own.cellsBlk 4 Z)) ?_
 refine wq Z (QV.loadAgg ag24 Z Z Z (Own.cellsBlk 3 Z)) ?_
 refine wq Z (QV.loadAgg ag27 Z Z Z (Own.cellsBlk 2 Z)) ?_
 refine wm Z ?_
 refine wq Z (QV.loadAgg ag80 Z Z Z (Own.cellsBlk 1 Z)) ?_
 refine wm Z ?_
 obtain ⟨x36, hx37, hm38⟩ := bd_some hm35; clear hm35
 refine wq Z (QV.call en44 (EvAll.cons Z Z (EvAll.cons Z Z (EvAll.cons Z Z (EvAll.cons Z Z (EvAll.cons Z Z (EvAll.cons Z Z EvAll.nil)))))) (fun w hw => have h := roundelaylaw_does_w w hx37 ((Own.karr 0 Z hk (h_l_logs.le hle23)) w hw) ((Own.karr 0 Z hk (h_l_body.le hle23)) w hw) ((Own.karr 0 Z hk (h_l_outs.le hle23)) w hw) ((Own.karr 0 Z hk (h_k__ops.le hle23)) w hw) ((Own.karr 0 Z hk (h_order.le hle23)) w hw) (Own.krows 0 Z hk (h_s_bef.le hle23) w hw) (Own.krows 0 Z hk (h_s_mem.le hle23) w hw); h)) ?_
 refine wa Z ?_
 refine nt (WC.ret ?_)
 obtain rfl := (eq_of_some hm38).symm
 refine WQ.ret1 Z Z (fun w hw => ?_)
 exact ⟨Z, Own.kgrow (fun _ x => x) hw⟩
end Go.Proofs.Ytaimbkndebaaiab
end
