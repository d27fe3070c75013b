/- Texts for the law, 7. -/
import Derived.Test.YtaimbkndebaaiacZLbuildSame6
import Derived.Test.YtaimbkndebaaiacProg
import Derived.KernelRfl
set_option linter.unusedVariables false
set_option linter.unusedSimpArgs false
set_option maxRecDepth 8000
section
namespace Go.Proofs.Ytaimbkndebaaiac
open Go.Rd
open TNum TLoop TKern TKeep TOrd TCpt TDep TSched1 TEmit TCheck TRegs TBound TMake TBuild TRDep
namespace TR10
theorem en112 : Go.Rd.Enters Try.prog 112 := eT Try.func112
theorem en16 : Go.Rd.Enters Try.prog 16 := eT Try.func16
theorem en22 : Go.Rd.Enters Try.prog 22 := eT Try.func22
theorem en33 : Go.Rd.Enters Try.prog 33 := eT Try.func33
theorem en49 : Go.Rd.Enters Try.prog 49 := eT Try.func49
theorem en78 : Go.Rd.Enters Try.prog 78 := eT Try.func78
theorem fd73_2 : FieldT Try.prog 73 2 2 := fT 0 Try.underlying73
theorem sl52 : SliceT Try.prog 52 73 3 := ⟨Try.underlying52, by kernel_rfl⟩
theorem sz_52 : SliceZ Try.prog 52 73 3 [.int .i64 0, .int .i64 0, .int .i64 0] := ⟨Try.underlying52, by kernel_rfl⟩
theorem ve52 : VecT Try.prog 52 73 3 24 := ⟨Try.underlying52, by kernel_rfl, by decide⟩
end TR10
open TR10
theorem R5_Uses_w {op r : Int} (w : World) (hm : R5_Uses_m op = some r)  : Calls Try.prog 112 #[.int .i64 op] w (fun e w' => e = .returned (.int .i64 r) ∧ Grow w w') := by
 unfold R5_Uses_m at hm
 have hk := Base.rfl (w := w)
 refine calls_of_WC (n := 7) (args := [i_ op]) Try.func112 Z Z (nl Z) ?_ (Own.startK hk (Own.start w))
 refine sr (wa Z (nt (WC.seq (sr (wm Z (wq Z (QV.eql Z Z Z Z) (nt ?_)))))))
 refine wc Z hm (fun h1 hm2 => ?_) (fun h1 hm3 => ?_) <;> clear hm
 ·skip
  refine sr (wa Z (nt (WC.ret (tr ?_))))
  obtain rfl := (eq_of_some hm2).symm
  exact WQ.ret1 Z Z fun w hw => kg hw
 refine sk (WQ.then (WC.seq (sr (wm Z (wq Z (QV.gtr Z Z Z Z) (nt ?_))))))
 refine wc Z hm3 (fun h4 hm5 => ?_) (fun h4 hm6 => ?_) <;> clear hm3
 ·skip
  refine sr (wa Z (nt (WC.ret (tr ?_))))
  obtain rfl := (eq_of_some hm5).symm
  exact WQ.ret1 Z Z fun w hw => kg hw
 refine sk (WQ.then (sr (wa Z (nt (WC.ret ?_)))))
 obtain rfl := (eq_of_some hm6).symm
 exact WQ.ret1 Z Z fun w hw => kg hw
theorem R5_one_w {v_k__ops v_logs : Value} {t : Tgt} {k_ : Krn} {o : Opr} {logs : List Int} {r : Bool} (w : World) (hm : R5_one_m t k_ o logs = some r) (h_k__ops : Arr w v_k__ops 10 (k_.ops.map Opr.cells)) (h_logs : Arr w v_logs 1 (logs.map icell)) : Calls Try.prog 78 #[.agg #[.int .i64 t.u0, .int .i64 t.u1, .int .i64 t.u2, .int .i64 t.w0, .int .i64 t.w1, .int .i64 t.w2, .int .i64 t.regs], .agg #[.int .i64 k_.pace, .int .i64 k_.stages, v_k__ops], .agg #[.int .i64 o.slot, .int .i64 o.stage, .int .i64 o.op, .int .i64 o.dest, .int .i64 o.a, .int .i64 o.b, .int .i64 o.ar, .int .i64 o.sp, .int .i64 o.pl, .int .i64 o.n], v_logs] w (fun e w' => e = .returned (.bool r) ∧ Grow w w') := by
 unfold R5_one_m at hm
 have hk := Base.rfl (w := w)
 refine calls_of_WC (n := 116) (args := [.agg #[i_ t.u0, i_ t.u1, i_ t.u2, i_ t.w0, i_ t.w1, i_ t.w2, i_ t.regs], .agg #[i_ k_.pace, i_ k_.stages, v_k__ops], .agg #[i_ o.slot, i_ o.stage, i_ o.op, i_ o.dest, i_ o.a, i_ o.b, i_ o.ar, i_ o.sp, i_ o.pl, i_ o.n], v_logs]) Try.func78 Z Z (nl Z) ?_ (Own.startK hk (Own.start w))
 refine sr (WL.effect Z ?_)
 refine (EV.boxAgg (by decide) Z Z (fun b1 => ?_))
 refine WL.effect Z ?_
 refine (EV.boxAgg (by decide) Z Z (fun b2 => ?_))
 refine WL.effect Z ?_
 refine (EV.boxAgg (by decide) Z Z (fun b3 => ?_))
 refine wa Z (nt (WC.seq (sr (wf fd75_0 Z (wl pl3 Z (Own.cell 0 Z Z) (wq Z (QV.lss Z Z Z Z) (wm Z (gn Z (fun hG => QV.fieldAddr fd75_0 Z Z) (gn Z (fun hG => QV.load pl3 Z hG (Own.cell 0 Z Z)) (gn Z (fun hG => QV.fieldAddr fd31_0 Z Z) (gn Z (fun hG => QV.load pl3 Z hG (Own.cell 1 Z Z)) ?_)))))))))))
 refine gn Z (fun hG => QV.geq Z hG Z hG) (wq Z (QV.pickOr Z Z Z (fun h => notF h)) (wm Z (gn Z (fun hG => QV.fieldAddr fd75_1 Z Z) (gn Z (fun hG => QV.load pl3 Z hG (Own.cell 0 Z Z)) (gn Z (fun hG => QV.lss Z hG Z Z) (wq Z (QV.pickOr Z Z Z (fun h => notF h)) (wm Z (gn Z (fun hG => QV.fieldAddr fd75_1 Z Z) (gn Z (fun hG => QV.load pl3 Z hG (Own.cell 0 Z Z)) ?_)))))))))
 refine gn Z (fun hG => QV.fieldAddr fd31_1 Z Z) (gn Z (fun hG => QV.load pl3 Z hG (Own.cell 1 Z Z)) (gn Z (fun hG => QV.geq Z hG Z hG) (wq Z (QV.pickOr Z Z Z (fun h => notF h)) (wm Z (gn Z (fun hG => QV.fieldAddr fd75_1 Z Z) (gn Z (fun hG => QV.load pl3 Z hG (Own.cell 0 Z Z)) (gn Z (fun hG => QV.fieldAddr fd31_0 Z Z) (gn Z (fun hG => QV.load pl3 Z hG (Own.cell 1 Z Z)) ?_))))))))
 obtain ⟨c4, c6, hm7⟩ := cs2 hm; clear hm
 refine gn Z (fun hG => QV.mul Z hG Z hG (c4 hG)) (gn Z (fun hG => QV.fieldAddr fd75_0 Z Z) (gn Z (fun hG => QV.load pl3 Z hG (Own.cell 0 Z Z)) (gn Z (fun hG => QV.add Z hG Z hG (c6 hG)) (gn Z (fun hG => QV.gtr Z hG Z Z) (wq Z (QV.pickOr Z Z Z (fun h => notF h)) (nt ?_))))))
 refine wc Z hm7 (fun h8 hm9 => ?_) (fun h8 hm10 => ?_) <;> clear hm7
 ·skip
  refine sr (wa Z (nt (WC.ret (tr ?_))))
  obtain rfl := (eq_of_some hm9).symm
  exact WQ.ret1 Z Z fun w hw => kg hw
 refine sk (WQ.then (sr (wf fd75_2 Z (wl pl3 Z (Own.cell 0 Z Z) ?_))))
 obtain ⟨x11, hx12, hm13⟩ := bd_some hm10; clear hm10
 refine wq Z (QV.call en112 (ec Z eN) (fun w hw => have h := R5_Uses_w w hx12 ; h)) (wa Z (nt (WC.seq (sr (wf fd75_3 Z (wl pl3 Z (Own.cell 0 Z Z) (wq Z (QV.lss Z Z Z Z) (wm Z (gn Z (fun hG => QV.fieldAddr fd75_3 Z Z) (gn Z (fun hG => QV.load pl3 Z hG (Own.cell 0 Z Z)) (gn Z (fun hG => QV.fieldAddr fd28_2 Z Z) ?_)))))))))))
 refine gn Z (fun hG => QV.load pl3 Z hG (Own.cell 2 Z Z)) (gn Z (fun hG => QV.geq Z hG Z hG) (wq Z (QV.pickOr Z Z Z (fun h => notF h)) (wm Z (gn Z (fun hG => QV.fieldAddr fd75_4 Z Z) (gn Z (fun hG => QV.load pl3 Z hG (Own.cell 0 Z Z)) (gn Z (fun hG => QV.lss Z hG Z Z) (wq Z (QV.pickOr Z Z Z (fun h => notF h)) (wm Z (gn Z (fun hG => QV.fieldAddr fd75_5 Z Z) ?_)))))))))
 refine gn Z (fun hG => QV.load pl3 Z hG (Own.cell 0 Z Z)) (gn Z (fun hG => QV.lss Z hG Z Z) (wq Z (QV.pickOr Z Z Z (fun h => notF h)) (wm Z (gn Z (fun hG => QV.fieldAddr fd75_4 Z Z) (gn Z (fun hG => QV.load pl3 Z hG (Own.cell 0 Z Z)) (gn Z (fun hG => QV.fieldAddr fd28_2 Z Z) (gn Z (fun hG => QV.load pl3 Z hG (Own.cell 2 Z Z)) (gn Z (fun hG => QV.geq Z hG Z hG) (wq Z (QV.pickOr Z Z Z (fun h => notF h)) ?_)))))))))
 refine wm Z (gn Z (fun hG => QV.fieldAddr fd75_5 Z Z) (gn Z (fun hG => QV.load pl3 Z hG (Own.cell 0 Z Z)) (gn Z (fun hG => QV.fieldAddr fd28_2 Z Z) (gn Z (fun hG => QV.load pl3 Z hG (Own.cell 2 Z Z)) (gn Z (fun hG => QV.geq Z hG Z hG) (wq Z (QV.pickOr Z Z Z (fun h => notF h)) (wm Z (gn Z (fun hG => QV.move Z Z) (gn Z (fun hG => QV.lss Z hG Z Z) ?_)))))))))
 refine gn Z (fun hG => QV.move Z hG) (gpC Z (fun hG => QV.fieldAddr fd75_4 Z Z) (gpC Z (fun hG => QV.load pl3 Z hG (Own.cell 0 Z Z)) (gpC Z (fun hG => QV.neq Z hG Z Z) (gn Z (fun hG => QV.pickAnd Z hG Z (fun h => andT hG h)) (wq Z (QV.pickOr Z Z Z (fun h => notF h)) (wm Z (gn Z (fun hG => QV.move Z Z) (gn Z (fun hG => QV.lss Z hG Z Z) (gn Z (fun hG => QV.move Z hG) ?_)))))))))
 refine gpC Z (fun hG => QV.fieldAddr fd75_5 Z Z) (gpC Z (fun hG => QV.load pl3 Z hG (Own.cell 0 Z Z)) (gpC Z (fun hG => QV.neq Z hG Z Z) (gn Z (fun hG => QV.pickAnd Z hG Z (fun h => andT hG h)) (wq Z (QV.pickOr Z Z Z (fun h => notF h)) (nt ?_)))))
 refine wc Z hm13 (fun h14 hm15 => ?_) (fun h14 hm16 => ?_) <;> clear hm13
 ·skip
  refine sr (wa Z (nt (WC.ret (tr ?_))))
  obtain rfl := (eq_of_some hm15).symm
  exact WQ.ret1 Z Z fun w hw => kg hw
 refine sk (WQ.then (sr (wf fd75_2 Z (wl pl3 Z (Own.cell 0 Z Z) (wf fd75_6 Z (wl pl3 Z (Own.cell 0 Z Z) (wf fd75_7 Z (wl pl3 Z (Own.cell 0 Z Z) (wf fd75_8 Z (wl pl3 Z (Own.cell 0 Z Z) (wf fd75_9 Z ?_)))))))))))
 refine wl pl2 Z (Own.cell 0 Z Z) (wq Z (QV.build (ps := [(0, .tmp 100), (3, .tmp 102), (4, .tmp 104), (5, .tmp 106), (6, .tmp 108)]) (cells := [i_ o.op, i_ 0, i_ 0, i_ 0, i_ 0, i_ o.ar, i_ o.sp, i_ o.pl, i_ o.n]) (ec Z (ec Z (ec Z (ec Z (ec Z eN))))) (by kernel_rfl)) (WL.effect Z ?_))
 refine (EV.alloc (by decide) ze81 (fun b17 => ?_))
 refine WL.effect Z ?_
 refine (EV.store 0 Z Z Z Z Z Z (vs := [i_ o.op, i_ 0, i_ 0, i_ 0, i_ 0, i_ o.ar, i_ o.sp, i_ o.pl, i_ o.n]) (show Value.cells _ = List.toArray _ from Z) sz81 (nl Z) (oc Z (oc Z (oc Z (oc Z (oc Z (oc Z (oc Z (oc Z (oc Z one_nil))))))))) ?_)
 refine ns (wm Z (wq Z (QV.build (ps := [(0, .const (i_ 2))]) (cells := [i_ 2, i_ 0, i_ 0, i_ 0, i_ 0, i_ 0, i_ 0, i_ 0, i_ 0]) (ec Z eN) (by kernel_rfl)) (wq Z (QV.loadAgg ag81 Z Z Z (Own.cellsBlk 0 Z)) (WL.effect Z ?_))))
 refine (EV.buildSlice (by decide) sz_23 (by decide) (by decide) (ps := [(0, .tmp 111), (1, .tmp 112)]) (cells := [i_ 2, i_ 0, i_ 0, i_ 0, i_ 0, i_ 0, i_ 0, i_ 0, i_ 0, i_ o.op, i_ 0, i_ 0, i_ 0, i_ 0, i_ o.ar, i_ o.sp, i_ o.pl, i_ o.n]) (ec Z (ec Z eN)) (by kernel_rfl) (fun b18 => ?_))
 refine wq Z (QV.buildS (ps := [(0, .tmp 110), (1, .tmp 113)]) (cells := [v_logs, (blkSlice b18 2 2), .slice none 0 0]) (css := [[v_logs], [(blkSlice b18 2 2)]]) (ec Z (ec Z eN)) (CellsAll.cons (SliceLen.cells h_logs.lenMap) (CellsAll.cons (SliceLen.cells SliceLen.blk) CellsAll.nil)) (by kernel_rfl)) ?_
 obtain ⟨x19, hx20, hm21⟩ := bd_some hm16; clear hm16
 refine wq Z (QV.call en43 (ec Z eN) (fun w hw => have h := R2_May_w w hx20 ((Own.karr 5 Z hk h_logs) w hw) ((Own.blkArr 0 (rows := [(Stm.mk 2 (Rf.mk 0 0) (Rf.mk 0 0) 0 0 0 0), (Stm.mk o.op (Rf.mk 0 0) (Rf.mk 0 0) o.ar o.sp o.pl o.n)].map Stm.cells) Z Z (rows_len Stm.cells_len)) w hw) Arr.nil; h)) (wa Z (nt (WC.ret ?_)))
 obtain rfl := (eq_of_some hm21).symm
 exact WQ.ret1 Z Z fun w hw => kg hw
theorem R5_May_w {v_k__ops v_logs : Value} {t : Tgt} {k_ : Krn} {logs : List Int} {r : Bool} (w : World) (hm : R5_May_m t k_ logs = some r) (h_k__ops : Arr w v_k__ops 10 (k_.ops.map Opr.cells)) (h_logs : Arr w v_logs 1 (logs.map icell)) : Calls Try.prog 49 #[.agg #[.int .i64 t.u0, .int .i64 t.u1, .int .i64 t.u2, .int .i64 t.w0, .int .i64 t.w1, .int .i64 t.w2, .int .i64 t.regs], .agg #[.int .i64 k_.pace, .int .i64 k_.stages, v_k__ops], v_logs] w (fun e w' => e = .returned (.bool r) ∧ Grow w w') := by
 unfold R5_May_m at hm
 have hk := Base.rfl (w := w)
 refine calls_of_WC (n := 96) (args := [.agg #[i_ t.u0, i_ t.u1, i_ t.u2, i_ t.w0, i_ t.w1, i_ t.w2, i_ t.regs], .agg #[i_ k_.pace, i_ k_.stages, v_k__ops], v_logs]) Try.func49 Z Z (nl Z) ?_ (Own.startK hk (Own.start w))
 refine sr (WL.effect Z ?_)
 refine (EV.boxAgg (by decide) Z Z (fun b1 => ?_))
 refine WL.effect Z ?_
 refine (EV.boxAgg (by decide) Z Z (fun b2 => ?_))
 refine wa Z (nt (WC.seq (sr (wq Z (QV.loadAgg ag28 Z Z Z (Own.cellsBlk 1 Z)) ?_))))
 obtain ⟨x3, hx4, hm5⟩ := bd_some hm; clear hm
 refine wq Z (QV.call en44 (ec Z eN) (fun w hw => have h := R4_May_w w hx4 ; h)) (wq Z (QV.not Z Z) (wm Z (gn Z (fun hG => QV.fieldAddr fd31_0 Z Z) (gn Z (fun hG => QV.load pl3 Z hG (Own.cell 0 Z Z)) ?_))))
 obtain ⟨x6, hx7, hm8⟩ := bdG_some hm5; clear hm5
 refine gn Z (fun hG => QV.call en76 (EvAll.cons Z hG (ec Z (ec Z eN))) (fun w hw => have h := R2_Within_w w (hx7 hG) ; h)) (gn Z (fun hG => QV.not Z hG) (wq Z (QV.pickOr Z Z Z (fun h => notF h)) (wm Z (gn Z (fun hG => QV.fieldAddr fd31_1 Z Z) (gn Z (fun hG => QV.load pl3 Z hG (Own.cell 0 Z Z)) ?_)))))
 obtain ⟨x9, hx10, hm11⟩ := bdG_some hm8; clear hm8
 refine gn Z (fun hG => QV.call en76 (EvAll.cons Z hG (ec Z (ec Z eN))) (fun w hw => have h := R2_Within_w w (hx10 hG) ; h)) (gn Z (fun hG => QV.not Z hG) (wq Z (QV.pickOr Z Z Z (fun h => notF h)) (wm Z (gn Z (fun hG => QV.fieldAddr fd31_2 Z Z) (gn Z (fun hG => QV.load pl29 Z hG (Own.cell 0 Z Z)) (gn Z (fun hG => QV.lenS Try.underlying29 Z hG h_k__ops.lenMap) ?_))))))
 obtain ⟨x12, hx13, hm14⟩ := bdG_some hm11; clear hm11
 refine gn Z (fun hG => QV.call en76 (EvAll.cons Z hG (ec Z (ec Z eN))) (fun w hw => have h := R2_Within_w w (hx13 hG) ; h)) (gn Z (fun hG => QV.not Z hG) (wq Z (QV.pickOr Z Z Z (fun h => notF h)) (nt ?_)))
 refine wc Z hm14 (fun h15 hm16 => ?_) (fun h15 hm17 => ?_) <;> clear hm14
 ·skip
  refine sr (wa Z (nt (WC.ret (tr ?_))))
  obtain rfl := (eq_of_some hm16).symm
  exact WQ.ret1 Z Z fun w hw => kg hw
 refine sk (WQ.then (WC.seq (sr (wa Z (nt ?_)))))
 obtain ⟨o18, ho19, hm20⟩ := bd_some hm17; clear hm17; obtain ⟨n21, ho22⟩ := lp_some ho19
 refine WC.bloop1 (H2 := [blk b2 [i_ k_.pace, i_ k_.stages, v_k__ops] 31, blk b1 t.cells 28, kn noM w.heap.size w w]) (τ := [u_ 2 _, u_ 3 _, u_ 4 _]) (fun (i7_2 : Int) => [(7, (true, i_ i7_2))]) (fun i7_2 => []) (fun i7_2 m => iter (R5_May_L0 t k_ logs) m i7_2 = some o18) (fun i7_2 => o18 = .go i7_2) 0 n21 ho22 ⟨Z, Z, Z, Z, trivial⟩ (pk [0, 1, 2]) ?_ ?_
 ·skip
  rintro i7_2 rfl
  refine WQ.then (sr (wa Z (nt (WC.ret ?_))))
  obtain rfl := (eq_of_some hm20).symm
  exact WQ.ret1 Z Z fun w hw => kg hw
 rintro i7_2 m23 hI24
 obtain ⟨m25, s26, rfl, hm27, hn28⟩ := iter_step hI24; clear hI24; unfold R5_May_L0 at hm27
 refine WC.seq (sr (wm Z (wf fd31_2 Z (wl pl29 Z (Own.cell 0 Z Z) (wq Z (QV.lenS Try.underlying29 Z Z h_k__ops.lenMap) (wq Z (QV.lss Z Z Z Z) (nt ?_)))))))
 refine wc Z hm27 (fun h29 hm30 => ?_) (fun h29 hm93 => ?_) <;> clear hm27
 ·skip
  refine sk (WQ.then (WC.seq (WC.block (WC.seq (WC.seq (WC.dr (m := 10) (S := Own noM w [kn noM w.heap.size w w, blk b2 [i_ k_.pace, i_ k_.stages, v_k__ops] 31, blk b1 t.cells 28]) (by kernel_rfl) (by kernel_rfl) (pk [2, 0, 1]) (wz 0 Z Z (QV.loadAgg ag28 Z Z Z (Own.cellsBlk 2 Z)) (wz 1 Z Z (QV.loadAgg ag31 Z Z Z (Own.cellsBlk 1 Z)) (zf 2 fd31_2 Z Z (zl 3 pl29 Z Z (Own.cell 1 Z Z) (zm 4 Z Z ?_)))))))))))
  obtain ⟨c31, hm32⟩ := cs hm30; clear hm30
  obtain ⟨p33, hp34⟩ := h_k__ops.lenMap.ix (sz := 10) ln_len c31
  refine wz 5 Z Z (QV.indexSlice sl29 Z Z Z Z hp34) (wz 6 Z Z (QV.loadAgg ag75 Z Z Z (fun w hw => ((Own.karr 0 Z hk h_k__ops) w hw).ele hp34 c31)) (zm 7 Z Z ?_))
  obtain ⟨x35, hx36, hm37⟩ := bd_some hm32; clear hm32
  refine wz 8 Z Z (QV.call en78 (ec Z (ec Z (ec Z (ec Z eN)))) (fun w hw => have h := R5_one_w w hx36 ((Own.karr 0 Z hk h_k__ops) w hw) ((Own.karr 0 Z hk h_logs) w hw); h)) (wz 9 Z Z (QV.not Z Z) ?_)
  refine WD.e (by kernel_rfl) ?_
  refine WQ.then ?_
  refine wc Z hm37 (fun h38 hm39 => ?_) (fun h38 hm40 => ?_) <;> clear hm37
  ·skip
   refine sr (wa Z (nt (WC.ret (tr (kr (tr (tr (kr (tr (tr ?_))))))))))
   obtain rfl := up_ret hm39 hn28
   obtain rfl := (eq_of_some hm20).symm
   exact WQ.ret1 Z Z fun w hw => kg hw
  refine sk (WQ.then (sr (wf fd31_2 Z (wl pl29 Z (Own.cell 0 Z Z) (wm Z ?_)))))
  obtain ⟨c41, hm42⟩ := cs hm40; clear hm40
  obtain ⟨p43, hp44⟩ := h_k__ops.lenMap.ix (sz := 10) ln_len c41
  refine wq Z (QV.indexSlice sl29 Z Z Z Z hp44) (wf fd75_2 Z (wl pl3 Z (fun w hw => CellsAt.one 2 (((Own.karr 2 Z hk h_k__ops) w hw).ele hp44 c41) Z) ?_))
  obtain ⟨x45, hx46, hm47⟩ := bd_some hm42; clear hm42
  refine wq Z (QV.call en45 (ec Z eN) (fun w hw => have h := R1_Class_w w hx46 ; h)) (wa Z (ns (wa Z (nt (WC.seq (sr (wa Z (nt ?_))))))))
  obtain ⟨o48, ho49, hm50⟩ := bd_some hm47; clear hm47; obtain ⟨n51, ho52⟩ := lp_some ho49
  refine WC.bloop2 (H2 := [blk b2 [i_ k_.pace, i_ k_.stages, v_k__ops] 31, blk b1 t.cells 28, kn noM w.heap.size w w]) (τ := [u_ 2 _, u_ 3 _, u_ 4 _, u_ 7 _, u_ 8 _]) (fun (many9_3 : Int) (j10_3 : Int) => [(9, (true, i_ many9_3)), (10, (true, i_ j10_3))]) (fun many9_3 j10_3 => []) (fun many9_3 j10_3 m => iter (R5_May_L2 k_ i7_2 x45) m (many9_3, j10_3) = some o48) (fun many9_3 j10_3 => o48 = .go (many9_3, j10_3)) 0 0 n51 ho52 ⟨Z, Z, Z, Z, Z, Z, Z, trivial⟩ (pk [0, 1, 2]) ?_ ?_
  ·skip
   rintro many9_3 j10_3 rfl
   refine WQ.then (sr (wm Z (wm Z (wf fd28_0 Z ?_))))
   obtain ⟨c53, hm54⟩ := cs hm50; clear hm50
   refine wq Z (QV.indexArray ar26 Z Z Z Z c53.1 c53.2) (wl pl3 Z (Own.cellSym 1 Z (sel3_get (off := 0) (i := x45) c53.1 c53.2 Z Z Z) (addr_sym _ _ _)) (wq Z (QV.gtr Z Z Z Z) (nt ?_)))
   refine wc Z hm54 (fun h55 hm56 => ?_) (fun h55 hm57 => ?_) <;> clear hm54
   ·skip
    refine sr (wa Z (nt (WC.ret (kr (tr (tr (kr (tr (tr ?_)))))))))
    obtain rfl := up_ret hm56 hn28
    obtain rfl := (eq_of_some hm20).symm
    exact WQ.ret1 Z Z fun w hw => kg hw
   refine sk (WQ.block (WQ.then (WC.region (wm Z ?_))))
   obtain ⟨c58, hm59⟩ := cs hm57; clear hm57
   refine wq Z (QV.add Z Z Z Z c58) (wa Z (WL.nil ?_))
   exact WQ.again1 (i7_2 + 1) m25 (up_next hm59 hn28) (Nat.lt_succ_self _) ⟨Z, Z, Z, Z, trivial⟩ (pk [0, 1, 2])
  rintro many9_3 j10_3 m60 hI61
  obtain ⟨m62, s63, rfl, hm64, hn65⟩ := iter_step hI61; clear hI61; unfold R5_May_L2 at hm64; simp only at hm64
  refine WC.seq (sr (wm Z (wf fd31_2 Z (wl pl29 Z (Own.cell 0 Z Z) (wq Z (QV.lenS Try.underlying29 Z Z h_k__ops.lenMap) (wq Z (QV.lss Z Z Z Z) (nt ?_)))))))
  refine wc Z hm64 (fun h66 hm67 => ?_) (fun h66 hm92 => ?_) <;> clear hm64
  ·skip
   refine sk (WQ.then (WC.seq (WC.block (WC.seq (WC.dr (m := 24) (S := Own noM w [kn noM w.heap.size w w, blk b2 [i_ k_.pace, i_ k_.stages, v_k__ops] 31, blk b1 t.cells 28]) (by kernel_rfl) (by kernel_rfl) (pk [2, 0, 1]) (zf 0 fd31_2 Z Z (zl 1 pl29 Z Z (Own.cell 1 Z Z) (zm 2 Z Z ?_))))))))
   obtain ⟨c68, hm69⟩ := cs hm67; clear hm67
   obtain ⟨p70, hp71⟩ := h_k__ops.lenMap.ix (sz := 10) ln_len c68
   refine wz 3 Z Z (QV.indexSlice sl29 Z Z Z Z hp71) (zf 4 fd75_0 Z Z (zl 5 pl3 Z Z (fun w hw => CellsAt.one 0 (((Own.karr 0 Z hk h_k__ops) w hw).ele hp71 c68) Z) (zf 6 fd31_2 Z Z (zl 7 pl29 Z Z (Own.cell 1 Z Z) (zm 8 Z Z ?_)))))
   obtain ⟨c72, hm73⟩ := cs hm69; clear hm69
   obtain ⟨p74, hp75⟩ := h_k__ops.lenMap.ix (sz := 10) ln_len c72
   refine wz 9 Z Z (QV.indexSlice sl29 Z Z Z Z hp75) (zf 10 fd75_0 Z Z (zl 11 pl3 Z Z (fun w hw => CellsAt.one 0 (((Own.karr 0 Z hk h_k__ops) w hw).ele hp75 c72) Z) (wz 12 Z Z (QV.eql Z Z Z Z) (zm 13 Z Z (zp 14 Z Z (fun hG => QV.fieldAddr fd31_2 Z Z) (zp 15 Z Z (fun hG => QV.load pl29 Z hG (Own.cell 1 Z Z)) (zp 16 Z Z (fun hG => QV.move Z Z) ?_)))))))
   obtain ⟨c76, hm77⟩ := cs hm73; clear hm73
   obtain ⟨p78, hp79⟩ := h_k__ops.lenMap.ixG (sz := 10) ln_len c76
   refine zp 17 Z Z (fun hG => QV.indexSlice sl29 Z hG Z hG (hp79 hG)) (zp 18 Z Z (fun hG => QV.fieldAddr fd75_2 Z hG) (zp 19 Z Z (fun hG => QV.load pl3 Z hG (fun w hw => CellsAt.one 2 (((Own.karr 0 Z hk h_k__ops) w hw).ele (hp79 hG) (c76 hG)) Z)) ?_))
   obtain ⟨x80, hx81, hm82⟩ := bdG_some hm77; clear hm77
   refine zp 20 Z Z (fun hG => QV.call en45 (EvAll.cons Z hG eN) (fun w hw => have h := R1_Class_w w (hx81 hG) ; h)) (zp 21 Z Z (fun hG => QV.move Z Z) (zp 22 Z Z (fun hG => QV.eql Z hG Z hG) (wz 23 Z Z (QV.pickAnd Z Z Z (fun h => h)) ?_)))
   refine WD.e (by kernel_rfl) ?_
   refine WQ.then ?_
   refine wc Z hm82 (fun h83 hm84 => ?_) (fun h83 hm89 => ?_) <;> clear hm82
   ·skip
    refine WC.region (wm Z ?_)
    obtain ⟨c85, c87, hm88⟩ := cs2 hm84; clear hm84
    refine wq Z (QV.add Z Z Z Z c85) (wa Z (WL.nil (WQ.block (WQ.then (WC.region (wm Z (wq Z (QV.add Z Z Z Z c87) (wa Z (WL.nil ?_)))))))))
    exact WQ.again2 (many9_3 + 1) (j10_3 + 1) m62 (up_next hm88 hn65) (Nat.lt_succ_self _) ⟨Z, Z, Z, Z, Z, Z, Z, trivial⟩ (pk [0, 1, 2])
   refine sk (WQ.block (WQ.then (WC.region (wm Z ?_))))
   obtain ⟨c90, hm91⟩ := cs hm89; clear hm89
   refine wq Z (QV.add Z Z Z Z c90) (wa Z (WL.nil ?_))
   exact WQ.again2 many9_3 (j10_3 + 1) m62 (up_next hm91 hn65) (Nat.lt_succ_self _) ⟨Z, Z, Z, Z, Z, Z, Z, trivial⟩ (pk [0, 1, 2])
  refine WC.exit (te (te (WQ.block_exit ?_)))
  exact WQ.out2 many9_3 j10_3 (up_brk hm92 hn65) ⟨Z, Z, Z, Z, Z, Z, Z, trivial⟩ (pk [0, 1, 2])
 refine WC.exit (te (te (WQ.block_exit ?_)))
 exact WQ.out1 i7_2 (up_brk hm93 hn28) ⟨Z, Z, Z, Z, trivial⟩ (pk [0, 1, 2])
theorem R10_Layout_w {v_l_logs v_l_body v_l_outs v_k__ops v_order : Value} {l : Lp} {t : Tgt} {k_ : Krn} {order : List Int} {r : List Off × Bool} {K0 : World} (hm : R10_Layout_m l t k_ order = some r) (h_l_logs : Arr K0 v_l_logs 1 (l.logs.map icell)) (h_l_body : Arr K0 v_l_body 9 (l.body.map Stm.cells)) (h_l_outs : Arr K0 v_l_outs 1 (l.outs.map icell)) (h_k__ops : Arr K0 v_k__ops 10 (k_.ops.map Opr.cells)) (h_order : Arr K0 v_order 1 (order.map icell)) (M : Nat → Prop) (w : World) (hk : Base M K0 w) (hw0 : Own M w [] w) : Calls Try.prog 22 #[.agg #[v_l_logs, v_l_body, v_l_outs], .agg #[.int .i64 t.u0, .int .i64 t.u1, .int .i64 t.u2, .int .i64 t.w0, .int .i64 t.w1, .int .i64 t.w2, .int .i64 t.regs], .agg #[.int .i64 k_.pace, .int .i64 k_.stages, v_k__ops], v_order] w (fun e w' => ∃ X : Value × World, e = .returned (.tuple #[X.1, .bool r.2]) ∧ Own M w (kn M w.heap.size K0 X.2 :: []) w' ∧ Arr X.2 X.1 3 (r.1.map Off.cells)) := by
 unfold R10_Layout_m at hm
 refine calls_of_WC (n := 150) (args := [.agg #[v_l_logs, v_l_body, v_l_outs], .agg #[i_ t.u0, i_ t.u1, i_ t.u2, i_ t.w0, i_ t.w1, i_ t.w2, i_ t.regs], .agg #[i_ k_.pace, i_ k_.stages, v_k__ops], v_order]) Try.func22 Z Z (nl Z) ?_ (Own.startK hk hw0)
 refine sr (WL.effect Z ?_)
 refine (EV.boxAgg (by decide) Z Z (fun b1 => ?_))
 refine WL.effect Z ?_
 refine (EV.boxAgg (by decide) Z Z (fun b2 => ?_))
 refine WL.effect Z ?_
 refine (EV.boxAgg (by decide) Z Z (fun b3 => ?_))
 refine wa Z (wa Z (ns (wf fd25_1 Z (wl pl23 Z (Own.cell 2 Z Z) (wq Z (QV.lenS Try.underlying23 Z Z h_l_body.lenMap) (wa Z (nt (WC.seq (sr (wq Z (QV.loadAgg ag25 Z Z Z (Own.cellsBlk 2 Z)) (wq Z (QV.loadAgg ag28 Z Z Z (Own.cellsBlk 1 Z)) ?_)))))))))))
 obtain ⟨x4, hx5, hm6⟩ := bd_some hm; clear hm
 refine wq Z (QV.call en16 (ec Z (ec Z eN)) (fun w hw => have h := R6_May_w w hx5 ((Own.karr 3 Z hk h_l_logs) w hw) ((Own.karr 3 Z hk h_l_body) w hw) ((Own.karr 3 Z hk h_l_outs) w hw); h)) (wq Z (QV.not Z Z) (wm Z (gn Z (fun hG => QV.loadAgg ag28 Z Z Z (Own.cellsBlk 1 Z)) (gn Z (fun hG => QV.loadAgg ag31 Z Z Z (Own.cellsBlk 0 Z)) (gn Z (fun hG => QV.fieldAddr fd25_0 Z Z) (gn Z (fun hG => QV.load pl22 Z hG (Own.cell 2 Z Z)) ?_))))))
 obtain ⟨x7, hx8, hm9⟩ := bdG_some hm6; clear hm6
 refine gn Z (fun hG => QV.call en49 (EvAll.cons Z hG (EvAll.cons Z hG (EvAll.cons Z hG eN))) (fun w hw => have h := R5_May_w w (hx8 hG) ((Own.karr 3 Z hk h_k__ops) w hw) ((Own.karr 3 Z hk h_l_logs) w hw); h)) (gn Z (fun hG => QV.not Z hG) (wq Z (QV.pickOr Z Z Z (fun h => notF h)) (wm Z (gn Z (fun hG => QV.fieldAddr fd31_2 Z Z) (gn Z (fun hG => QV.load pl29 Z hG (Own.cell 0 Z Z)) (gn Z (fun hG => QV.lenS Try.underlying29 Z hG h_k__ops.lenMap) (gn Z (fun hG => QV.move Z Z) (gn Z (fun hG => QV.neq Z hG Z hG) (wq Z (QV.pickOr Z Z Z (fun h => notF h)) ?_)))))))))
 refine wm Z (gn Z (fun hG => QV.move Z Z) (gn Z (fun hG => QV.lenS Try.underlying22 Z hG h_order.lenMap) (gn Z (fun hG => QV.move Z Z) (gn Z (fun hG => QV.neq Z hG Z hG) (wq Z (QV.pickOr Z Z Z (fun h => notF h)) (nt ?_))))))
 refine wc Z hm9 (fun h10 hm11 => ?_) (fun h10 hm12 => ?_) <;> clear hm9
 ·skip
  refine sr (wa Z (wa Z (nt (WC.ret (tr ?_)))))
  obtain rfl := (eq_of_some hm11).symm
  refine WQ.ret2 Z Z Z (fun w hw => ?_)
  exact ⟨(.slice none 0 0, K0), Z, hw.pick [3] (by decide), Arr.nil⟩
 refine sk (WQ.then (sr (wa Z (nt (WC.seq (sr (wa Z (nt ?_))))))))
 refine WK.of (fun w hw => hw.vecNil (E := 73) (sz := 3) (enc := Off.cells)) ?_
 obtain ⟨o14, ho15, hm16⟩ := bd_some hm12; clear hm12; obtain ⟨n17, ho18⟩ := lp_some ho15
 refine WC.bloop3 (H2 := [blk b3 [i_ k_.pace, i_ k_.stages, v_k__ops] 31, blk b2 t.cells 28, blk b1 [v_l_logs, v_l_body, v_l_outs] 25, kn M w.heap.size K0 K0]) (τ := [u_ 3 _, u_ 4 _, u_ 5 _, u_ 6 _, u_ 10 _]) (fun (v13_4 : List Off) (s12_4 : Int) (uv13_4 : Value) => [(11, (true, uv13_4)), (12, (true, i_ s12_4))]) (fun v13_4 s12_4 uv13_4 => [vec uv13_4 73 3 (List.map Off.cells v13_4)]) (fun v13_4 s12_4 uv13_4 m => iter (R10_Layout_L0 l t k_ order) m (v13_4, s12_4) = some o14 ∧ SliceLen uv13_4 v13_4.length) (fun v13_4 s12_4 uv13_4 => o14 = .go (v13_4, s12_4) ∧ SliceLen uv13_4 v13_4.length) [] 0 (.slice none 0 0) n17 ⟨ho18, SliceLen.nil⟩ ⟨Z, Z, Z, Z, Z, Z, Z, trivial⟩ (pk [0, 1, 2, 3, 4]) ?_ ?_
 ·skip
  rintro v13_4 s12_4 uv13_4 ⟨rfl, hlv13_4⟩
  refine WQ.then (sr (wm Z (wa Z (wa Z (nt (WC.ret ?_))))))
  obtain rfl := (eq_of_some hm16).symm
  refine WK.of (C' := Own M w [kn M w.heap.size K0 K0, vec uv13_4 73 3 (List.map Off.cells v13_4), blk b3 [i_ k_.pace, i_ k_.stages, v_k__ops] 31, blk b2 t.cells 28, blk b1 [v_l_logs, v_l_body, v_l_outs] 25]) (pk [4, 0, 1, 2, 3]) ?_
  refine WK.freeze hk (fun k19 hle19 hr19 => ?_)
  have hA19 := vec_arr hr19
  refine WQ.ret2 Z Z Z (fun w hw => ?_)
  exact ⟨(uv13_4, k19), Z, hw.pick [0] (by decide), hA19⟩
 rintro v13_4 s12_4 uv13_4 m20 ⟨hI21, hlv13_4⟩
 obtain ⟨m22, s23, rfl, hm24, hn25⟩ := iter_step hI21; clear hI21; unfold R10_Layout_L0 at hm24; simp only at hm24
 refine WC.seq (sr (wm Z (wm Z (wq Z (QV.lss Z Z Z Z) (nt ?_)))))
 refine wc Z hm24 (fun h26 hm27 => ?_) (fun h26 hm101 => ?_) <;> clear hm24
 ·skip
  refine sk (WQ.then (WC.seq (WC.block (WC.seq (sr (wm Z (wm Z ?_)))))))
  obtain ⟨c28, hm29⟩ := cs hm27; clear hm27
  obtain ⟨p30, hp31⟩ := h_order.lenMap.ix (sz := 1) ln_len c28
  refine wq Z (QV.indexSlice sl22 Z Z Z Z hp31) (wl pl3 Z (fun w hw => CellsAt.one 0 (((Own.karr 4 Z hk h_order) w hw).ele hp31 c28) Z) (wq Z (QV.lss Z Z Z Z) (wm Z (gn Z (fun hG => QV.move Z Z) (gn Z (fun hG => QV.move Z Z) ?_)))))
  obtain ⟨c32, hm33⟩ := cs hm29; clear hm29
  obtain ⟨p34, hp35⟩ := h_order.lenMap.ixG (sz := 1) ln_len c32
  refine gn Z (fun hG => QV.indexSlice sl22 Z hG Z hG (hp35 hG)) (gn Z (fun hG => QV.load pl3 Z hG (fun w hw => CellsAt.one 0 (((Own.karr 4 Z hk h_order) w hw).ele (hp35 hG) (c32 hG)) Z)) (gn Z (fun hG => QV.move Z Z) (gn Z (fun hG => QV.geq Z hG Z hG) (wq Z (QV.pickOr Z Z Z (fun h => notF h)) (nt ?_)))))
  refine wc Z hm33 (fun h36 hm37 => ?_) (fun h36 hm38 => ?_) <;> clear hm33
  ·skip
   refine sr (wa Z (wa Z (nt (WC.ret (tr (kr (tr (tr (kr (tr (tr ?_)))))))))))
   obtain rfl := up_ret hm37 hn25
   obtain rfl := (eq_of_some hm16).symm
   refine WQ.ret2 Z Z Z (fun w hw => ?_)
   exact ⟨(.slice none 0 0, K0), Z, hw.pick [4] (by decide), Arr.nil⟩
  refine sk (WQ.then (WC.seq (sr (wa Z (nt ?_)))))
  obtain ⟨o39, ho40, hm41⟩ := bd_some hm38; clear hm38; obtain ⟨n42, ho43⟩ := lp_some ho40
  refine WC.bloop1 (H2 := [vec uv13_4 73 3 (List.map Off.cells v13_4), blk b3 [i_ k_.pace, i_ k_.stages, v_k__ops] 31, blk b2 t.cells 28, blk b1 [v_l_logs, v_l_body, v_l_outs] 25, kn M w.heap.size K0 K0]) (τ := [u_ 3 _, u_ 4 _, u_ 5 _, u_ 6 _, u_ 10 _, u_ 11 _, u_ 12 _]) (fun (i13_5 : Int) => [(13, (true, i_ i13_5))]) (fun i13_5 => []) (fun i13_5 m => iter (R10_Layout_L2 order s12_4) m i13_5 = some o39) (fun i13_5 => o39 = .go i13_5) 0 n42 ho43 ⟨Z, Z, Z, Z, Z, Z, Z, Z, trivial⟩ (pk [0, 1, 2, 3, 4]) ?_ ?_
  ·skip
   rintro i13_5 rfl
   refine WQ.then (WC.seq (WC.dr (m := 10) (S := Own M w [kn M w.heap.size K0 K0, vec uv13_4 73 3 (List.map Off.cells v13_4), blk b3 [i_ k_.pace, i_ k_.stages, v_k__ops] 31, blk b2 t.cells 28, blk b1 [v_l_logs, v_l_body, v_l_outs] 25]) (by kernel_rfl) (by kernel_rfl) (pk [4, 0, 1, 2, 3]) (zf 0 fd31_2 Z Z (zl 1 pl29 Z Z (Own.cell 2 Z Z) (zm 2 Z Z (zm 3 Z Z ?_))))))
   obtain ⟨c44, hm45⟩ := cs hm41; clear hm41
   obtain ⟨p46, hp47⟩ := h_order.lenMap.ix (sz := 1) ln_len c44
   refine wz 4 Z Z (QV.indexSlice sl22 Z Z Z Z hp47) (zl 5 pl3 Z Z (fun w hw => CellsAt.one 0 (((Own.karr 0 Z hk h_order) w hw).ele hp47 c44) Z) ?_)
   obtain ⟨c48, hm49⟩ := cs hm45; clear hm45
   obtain ⟨p50, hp51⟩ := h_k__ops.lenMap.ix (sz := 10) ln_len c48
   refine wz 6 Z Z (QV.indexSlice sl29 Z Z Z Z hp51) (wz 7 Z Z (QV.loadAgg ag75 Z Z Z (fun w hw => ((Own.karr 0 Z hk h_k__ops) w hw).ele hp51 c48)) ?_)
   refine WD.o 8 Z (by kernel_rfl) Z ?_
   refine (EV.alloc (by decide) ze75 (fun b52 => ?_))
   refine WD.b (H' := [kn M w.heap.size K0 K0, blk b52 [i_ 0, i_ 0, i_ 0, i_ 0, i_ 0, i_ 0, i_ 0, i_ 0, i_ 0, i_ 0] 75, vec uv13_4 73 3 (List.map Off.cells v13_4), blk b3 [i_ k_.pace, i_ k_.stages, v_k__ops] 31, blk b2 t.cells 28, blk b1 [v_l_logs, v_l_body, v_l_outs] 25]) (pk [5, 0, 1, 2, 3, 4]) (pk [0, 2, 3, 4, 5]) ?_
   refine WD.l 9 Z (by kernel_rfl) Z ?_
   refine (EV.store 0 Z Z Z Z Z Z (vs := (Opr.cells (ele k_.ops (ele order s12_4)))) (show Value.cells _ = List.toArray _ from Z) sz75 (nl Z) (oc Z (oc Z (oc Z (oc Z (oc Z (oc Z (oc Z (oc Z (oc Z (oc Z one_nil)))))))))) ?_)
   refine WQ.then (sr (wf fd25_1 Z (wl pl23 Z (Own.cell 4 Z Z) (wm Z ?_))))
   obtain ⟨c53, hm54⟩ := cs hm49; clear hm49
   obtain ⟨p55, hp56⟩ := h_l_body.lenMap.ix (sz := 9) ln_len c53
   refine wq Z (QV.indexSlice sl23 Z Z Z Z hp56) (wq Z (QV.loadAgg ag81 Z Z Z (fun w hw => ((Own.karr 5 Z hk h_l_body) w hw).ele hp56 c53)) (WL.effect Z ?_))
   refine (EV.alloc (by decide) ze81 (fun b57 => ?_))
   refine WL.effect Z ?_
   refine (EV.store 0 Z Z Z Z Z Z (vs := (Stm.cells (ele l.body s12_4))) (show Value.cells _ = List.toArray _ from Z) sz81 (nl Z) (oc Z (oc Z (oc Z (oc Z (oc Z (oc Z (oc Z (oc Z (oc Z one_nil))))))))) ?_)
   refine nt (WC.seq (sr (wf fd75_2 Z (wl pl3 Z (Own.cell 1 Z Z) (wf fd81_0 Z (wl pl3 Z (Own.cell 0 Z Z) (wq Z (QV.neq Z Z Z Z) (wm Z (gn Z (fun hG => QV.fieldAddr fd75_6 Z Z) (gn Z (fun hG => QV.load pl3 Z hG (Own.cell 1 Z Z)) (gn Z (fun hG => QV.fieldAddr fd81_3 Z Z) ?_)))))))))))
   refine gn Z (fun hG => QV.load pl3 Z hG (Own.cell 0 Z Z)) (gn Z (fun hG => QV.neq Z hG Z hG) (wq Z (QV.pickOr Z Z Z (fun h => notF h)) (wm Z (gn Z (fun hG => QV.fieldAddr fd75_7 Z Z) (gn Z (fun hG => QV.load pl3 Z hG (Own.cell 1 Z Z)) (gn Z (fun hG => QV.fieldAddr fd81_4 Z Z) (gn Z (fun hG => QV.load pl3 Z hG (Own.cell 0 Z Z)) (gn Z (fun hG => QV.neq Z hG Z hG) (wq Z (QV.pickOr Z Z Z (fun h => notF h)) ?_)))))))))
   refine wm Z (gn Z (fun hG => QV.fieldAddr fd75_8 Z Z) (gn Z (fun hG => QV.load pl3 Z hG (Own.cell 1 Z Z)) (gn Z (fun hG => QV.fieldAddr fd81_5 Z Z) (gn Z (fun hG => QV.load pl3 Z hG (Own.cell 0 Z Z)) (gn Z (fun hG => QV.neq Z hG Z hG) (wq Z (QV.pickOr Z Z Z (fun h => notF h)) (wm Z (gn Z (fun hG => QV.fieldAddr fd75_9 Z Z) (gn Z (fun hG => QV.load pl2 Z hG (Own.cell 1 Z Z)) ?_)))))))))
   refine gn Z (fun hG => QV.fieldAddr fd81_6 Z Z) (gn Z (fun hG => QV.load pl2 Z hG (Own.cell 0 Z Z)) (gn Z (fun hG => QV.neq Z hG Z hG) (wq Z (QV.pickOr Z Z Z (fun h => notF h)) (nt ?_))))
   refine wc Z hm54 (fun h58 hm59 => ?_) (fun h58 hm60 => ?_) <;> clear hm54
   ·skip
    refine sr (wa Z (wa Z (nt (WC.ret (tr (kr (tr (tr (kr (tr (tr ?_)))))))))))
    obtain rfl := up_ret hm59 hn25
    obtain rfl := (eq_of_some hm16).symm
    refine WQ.ret2 Z Z Z (fun w hw => ?_)
    exact ⟨(.slice none 0 0, K0), Z, hw.pick [6] (by decide), Arr.nil⟩
   refine sk (WQ.then (sr (wf fd75_0 Z (wl pl3 Z (Own.cell 1 Z Z) (wf fd31_0 Z (wl pl3 Z (Own.cell 3 Z Z) (wf fd75_1 Z (wl pl3 Z (Own.cell 1 Z Z) ?_))))))))
   obtain ⟨c61, c63, hm64⟩ := cs2 hm60; clear hm60
   refine wq Z (QV.mul Z Z Z Z c61) (wq Z (QV.add Z Z Z Z c63) (wa Z (ns (wq Z (QV.loadAgg ag28 Z Z Z (Own.cellsBlk 4 Z)) (wf fd75_2 Z (wl pl3 Z (Own.cell 1 Z Z) ?_))))))
   obtain ⟨x65, hx66, hm67⟩ := bd_some hm64; clear hm64
   refine wq Z (QV.call en47 (ec Z (ec Z eN)) (fun w hw => have h := R4_Wait_w w hx66 ; h)) (wa Z (nr (wm Z (wm Z (wm Z (wm Z ?_))))))
   obtain ⟨c68, c70, c73, c77, hm78⟩ := cs4 hm67; clear hm67
   refine wq Z (QV.add Z Z Z Z c68) (wf fd75_3 Z (wl pl3 Z (Own.cell 1 Z Z) (wf fd75_1 Z (wl pl3 Z (Own.cell 1 Z Z) (wq Z (QV.add Z Z Z Z c70) (wq Z (QV.build (ps := [(0, .tmp 137), (1, .tmp 140), (2, .tmp 145)]) (cells := [i_ ((ele k_.ops (ele order s12_4)).slot + (k_.pace * (ele k_.ops (ele order s12_4)).stage)), i_ (((ele k_.ops (ele order s12_4)).slot + (k_.pace * (ele k_.ops (ele order s12_4)).stage)) + x65), i_ ((ele k_.ops (ele order s12_4)).dest + (ele k_.ops (ele order s12_4)).stage)]) (ec Z (ec Z (ec Z eN))) (by kernel_rfl)) (WL.effect Z ?_)))))))
   refine (EV.buildSlice (by decide) sz_52 (by decide) (by decide) (ps := [(0, .tmp 146)]) (cells := [i_ ((ele k_.ops (ele order s12_4)).slot + (k_.pace * (ele k_.ops (ele order s12_4)).stage)), i_ (((ele k_.ops (ele order s12_4)).slot + (k_.pace * (ele k_.ops (ele order s12_4)).stage)) + x65), i_ ((ele k_.ops (ele order s12_4)).dest + (ele k_.ops (ele order s12_4)).stage)]) (ec Z eN) (by kernel_rfl) (fun b72 => ?_))
   refine WL.effect Z ?_
   refine (EV.appendL (enc := Off.cells) (xs := v13_4) (ys := [(Off.mk ((ele k_.ops (ele order s12_4)).slot + (k_.pace * (ele k_.ops (ele order s12_4)).stage)) (((ele k_.ops (ele order s12_4)).slot + (k_.pace * (ele k_.ops (ele order s12_4)).stage)) + x65) ((ele k_.ops (ele order s12_4)).dest + (ele k_.ops (ele order s12_4)).stage))]) ((v13_4 ++ [(Off.mk ((ele k_.ops (ele order s12_4)).slot + (k_.pace * (ele k_.ops (ele order s12_4)).stage)) (((ele k_.ops (ele order s12_4)).slot + (k_.pace * (ele k_.ops (ele order s12_4)).stage)) + x65) ((ele k_.ops (ele order s12_4)).dest + (ele k_.ops (ele order s12_4)).stage))])) 3 (by decide) ve52 Z Z Z Z Z (Own.blkArr 0 (rows := [(Off.mk ((ele k_.ops (ele order s12_4)).slot + (k_.pace * (ele k_.ops (ele order s12_4)).stage)) (((ele k_.ops (ele order s12_4)).slot + (k_.pace * (ele k_.ops (ele order s12_4)).stage)) + x65) ((ele k_.ops (ele order s12_4)).dest + (ele k_.ops (ele order s12_4)).stage))].map Off.cells) Z Z (rows_len Off.cells_len)) Off.cells_len (Off.cells_one _) Z c73.1 c73.2 (fun u75 hu76 => ?_))
   refine wa Z (WL.nil (WQ.block (WQ.then (WC.region (wm Z (wq Z (QV.add Z Z Z Z c77) (wa Z (WL.nil ?_))))))))
   exact WQ.again3 (v13_4 ++ [(Off.mk ((ele k_.ops (ele order s12_4)).slot + (k_.pace * (ele k_.ops (ele order s12_4)).stage)) (((ele k_.ops (ele order s12_4)).slot + (k_.pace * (ele k_.ops (ele order s12_4)).stage)) + x65) ((ele k_.ops (ele order s12_4)).dest + (ele k_.ops (ele order s12_4)).stage))]) (s12_4 + 1) u75 m22 ⟨up_next hm78 hn25, hu76⟩ (Nat.lt_succ_self _) ⟨Z, Z, Z, Z, Z, Z, Z, trivial⟩ (pk [3, 4, 5, 6, 7])
  rintro i13_5 m79 hI80
  obtain ⟨m81, s82, rfl, hm83, hn84⟩ := iter_step hI80; clear hI80; unfold R10_Layout_L2 at hm83
  refine WC.seq (sr (wm Z (wm Z (wq Z (QV.lss Z Z Z Z) (nt ?_)))))
  refine wc Z hm83 (fun h85 hm86 => ?_) (fun h85 hm100 => ?_) <;> clear hm83
  ·skip
   refine sk (WQ.then (WC.seq (WC.block (WC.seq (WC.dr (m := 9) (S := Own M w [kn M w.heap.size K0 K0, vec uv13_4 73 3 (List.map Off.cells v13_4), blk b3 [i_ k_.pace, i_ k_.stages, v_k__ops] 31, blk b2 t.cells 28, blk b1 [v_l_logs, v_l_body, v_l_outs] 25]) (by kernel_rfl) (by kernel_rfl) (pk [4, 0, 1, 2, 3]) (zm 0 Z Z (zm 1 Z Z ?_)))))))
   obtain ⟨c87, hm88⟩ := cs hm86; clear hm86
   obtain ⟨p89, hp90⟩ := h_order.lenMap.ix (sz := 1) ln_len c87
   refine wz 2 Z Z (QV.indexSlice sl22 Z Z Z Z hp90) (zl 3 pl3 Z Z (fun w hw => CellsAt.one 0 (((Own.karr 0 Z hk h_order) w hw).ele hp90 c87) Z) (zm 4 Z Z (zm 5 Z Z ?_)))
   obtain ⟨c91, hm92⟩ := cs hm88; clear hm88
   obtain ⟨p93, hp94⟩ := h_order.lenMap.ix (sz := 1) ln_len c91
   refine wz 6 Z Z (QV.indexSlice sl22 Z Z Z Z hp94) (zl 7 pl3 Z Z (fun w hw => CellsAt.one 0 (((Own.karr 0 Z hk h_order) w hw).ele hp94 c91) Z) (wz 8 Z Z (QV.eql Z Z Z Z) ?_))
   refine WD.e (by kernel_rfl) ?_
   refine WQ.then ?_
   refine wc Z hm92 (fun h95 hm96 => ?_) (fun h95 hm97 => ?_) <;> clear hm92
   ·skip
    refine sr (wa Z (wa Z (nt (WC.ret (kr (tr (tr (kr (tr (tr (kr (tr (tr (kr (tr (tr ?_))))))))))))))))
    obtain rfl := up_ret hm96 hn84
    obtain rfl := up_ret hm41 hn25
    obtain rfl := (eq_of_some hm16).symm
    refine WQ.ret2 Z Z Z (fun w hw => ?_)
    exact ⟨(.slice none 0 0, K0), Z, hw.pick [4] (by decide), Arr.nil⟩
   refine sk (WQ.block (WQ.then (WC.region (wm Z ?_))))
   obtain ⟨c98, hm99⟩ := cs hm97; clear hm97
   refine wq Z (QV.add Z Z Z Z c98) (wa Z (WL.nil ?_))
   exact WQ.again1 (i13_5 + 1) m81 (up_next hm99 hn84) (Nat.lt_succ_self _) ⟨Z, Z, Z, Z, Z, Z, Z, Z, trivial⟩ (pk [0, 1, 2, 3, 4])
  refine WC.exit (te (te (WQ.block_exit ?_)))
  exact WQ.out1 i13_5 (up_brk hm100 hn84) ⟨Z, Z, Z, Z, Z, Z, Z, Z, trivial⟩ (pk [0, 1, 2, 3, 4])
 refine WC.exit (te (te (WQ.block_exit ?_)))
 exact WQ.out3 v13_4 s12_4 uv13_4 ⟨up_brk hm101 hn25, hlv13_4⟩ ⟨Z, Z, Z, Z, Z, Z, Z, trivial⟩ (pk [0, 1, 2, 3, 4])
theorem R10_Far_w {v_l_logs v_l_body v_l_outs : Value} {l : Lp} {a r : Int} (w : World) (hm : R10_Far_m l a = some r) (h_l_logs : Arr w v_l_logs 1 (l.logs.map icell)) (h_l_body : Arr w v_l_body 9 (l.body.map Stm.cells)) (h_l_outs : Arr w v_l_outs 1 (l.outs.map icell)) : Calls Try.prog 33 #[.agg #[v_l_logs, v_l_body, v_l_outs], .int .i64 a] w (fun e w' => e = .returned (.int .i64 r) ∧ Grow w w') := by
 unfold R10_Far_m at hm
 have hk := Base.rfl (w := w)
 refine calls_of_WC (n := 50) (args := [.agg #[v_l_logs, v_l_body, v_l_outs], i_ a]) Try.func33 Z Z (nl Z) ?_ (Own.startK hk (Own.start w))
 refine sr (WL.effect Z ?_)
 refine (EV.boxAgg (by decide) Z Z (fun b1 => ?_))
 refine wa Z (ns (wa Z (nt (WC.seq (sr (wa Z (nt ?_)))))))
 obtain ⟨o2, ho3, hm4⟩ := bd_some hm; clear hm; obtain ⟨n5, ho6⟩ := lp_some ho3
 refine WC.bloop3 (H2 := [blk b1 [v_l_logs, v_l_body, v_l_outs] 25]) (τ := [u_ 1 _, u_ 2 _]) (fun (far5_3 : Int) (i6_3 : Int) (k_3 : World) => [(5, (true, i_ far5_3)), (6, (true, i_ i6_3))]) (fun far5_3 i6_3 k_3 => [kn noM w.heap.size w k_3]) (fun far5_3 i6_3 k_3 m => iter (R10_Far_L0 l a) m (far5_3, i6_3) = some o2 ∧ Le w k_3) (fun far5_3 i6_3 k_3 => o2 = .go (far5_3, i6_3) ∧ Le w k_3) 0 0 w n5 ⟨ho6, (Le.refl _)⟩ ⟨Z, Z, Z, Z, trivial⟩ (pk [1, 0]) ?_ ?_
 ·skip
  rintro far5_3 i6_3 k_3 ⟨rfl, hle_3⟩
  refine WQ.then (sr (wm Z (wa Z (nt (WC.ret ?_)))))
  obtain rfl := (eq_of_some hm4).symm
  exact WQ.ret1 Z Z fun w hw => kg hw
 rintro far5_3 i6_3 k_3 m7 ⟨hI8, hle_3⟩
 obtain ⟨m9, s10, rfl, hm11, hn12⟩ := iter_step hI8; clear hI8; unfold R10_Far_L0 at hm11; simp only at hm11
 refine WC.seq (sr (wm Z (wf fd25_1 Z (wl pl23 Z (Own.cell 1 Z Z) (wq Z (QV.lenS Try.underlying23 Z Z (h_l_body.le hle_3).lenMap) (wq Z (QV.lss Z Z Z Z) (nt ?_)))))))
 refine wc Z hm11 (fun h13 hm14 => ?_) (fun h13 hm58 => ?_) <;> clear hm11
 ·skip
  refine sk (WQ.then (WC.seq (WC.block (sr (wf fd25_1 Z (wl pl23 Z (Own.cell 1 Z Z) (wm Z ?_)))))))
  obtain ⟨c15, hm16⟩ := cs hm14; clear hm14
  obtain ⟨p17, hp18⟩ := (h_l_body.le hle_3).lenMap.ix (sz := 9) ln_len c15
  refine wq Z (QV.indexSlice sl23 Z Z Z Z hp18) (wq Z (QV.loadAgg ag81 Z Z Z (fun w hw => ((Own.karr 0 Z hk (h_l_body.le hle_3)) w hw).ele hp18 c15)) (WL.effect Z ?_))
  obtain ⟨x19, hx20, hm21⟩ := bd_some hm16; clear hm16
  refine (EV.callR (X := Value × World) (R := []) (fun X => X.1) (fun X => []) (fun X => X.2) (fun X => Arr X.2 X.1 2 (x19.map Rf.cells)) hk (fun _ h => by cases h; decide) en30 (ec Z eN) (fun M w h1 h2 => have h := R2_Uses_w hx20  M w h1 h2; h) (fun X22 hF22 hle22 => ?_))
  refine wa Z (ns (wa Z (nt ?_)))
  obtain ⟨o23, ho24, hm25⟩ := bd_some hm21; clear hm21; obtain ⟨n26, ho27⟩ := lp_some ho24
  refine WC.bloop2 (H2 := [kn noM w.heap.size w X22.2, blk b1 [v_l_logs, v_l_body, v_l_outs] 25]) (τ := [u_ 1 _, u_ 2 _, u_ 6 _, u_ 7 _]) (fun (far5_4 : Int) (k8_4 : Int) => [(5, (true, i_ far5_4)), (8, (true, i_ k8_4))]) (fun far5_4 k8_4 => []) (fun far5_4 k8_4 m => iter (R10_Far_L2 a x19) m (far5_4, k8_4) = some o23) (fun far5_4 k8_4 => o23 = .go (far5_4, k8_4)) far5_3 0 n26 ho27 ⟨Z, Z, Z, Z, Z, Z, trivial⟩ (pk [0, 1]) ?_ ?_
  ·skip
   rintro far5_4 k8_4 rfl
   refine WQ.block (WQ.then (WC.region (wm Z ?_)))
   obtain ⟨c28, hm29⟩ := cs hm25; clear hm25
   refine wq Z (QV.add Z Z Z Z c28) (wa Z (WL.nil ?_))
   exact WQ.again3 far5_4 (i6_3 + 1) X22.2 m9 ⟨up_next hm29 hn12, (hle_3.trans hle22)⟩ (Nat.lt_succ_self _) ⟨Z, Z, Z, Z, trivial⟩ (pk [0, 1])
  rintro far5_4 k8_4 m30 hI31
  obtain ⟨m32, s33, rfl, hm34, hn35⟩ := iter_step hI31; clear hI31; unfold R10_Far_L2 at hm34; simp only at hm34
  refine WC.seq (sr (wm Z (wm Z (wq Z (QV.lenS Try.underlying76 Z Z hF22.lenMap) (wq Z (QV.lss Z Z Z Z) (nt ?_))))))
  refine wc Z hm34 (fun h36 hm37 => ?_) (fun h36 hm57 => ?_) <;> clear hm34
  ·skip
   refine sk (WQ.then (WC.seq (WC.block (sr (wm Z (wm Z ?_))))))
   obtain ⟨c38, hm39⟩ := cs hm37; clear hm37
   obtain ⟨p40, hp41⟩ := hF22.lenMap.ix (sz := 2) ln_len c38
   refine wq Z (QV.indexSlice sl76 Z Z Z Z hp41) (wf fd79_0 Z (wl pl3 Z (fun w hw => CellsAt.one 0 (((Own.karr 0 Z hk hF22) w hw).ele hp41 c38) Z) (wm Z (wq Z (QV.eql Z Z Z Z) (wm Z (gp Z (fun hG => QV.move Z Z) (gp Z (fun hG => QV.move Z Z) ?_)))))))
   obtain ⟨c42, hm43⟩ := cs hm39; clear hm39
   obtain ⟨p44, hp45⟩ := hF22.lenMap.ixG (sz := 2) ln_len c42
   refine gp Z (fun hG => QV.indexSlice sl76 Z hG Z hG (hp45 hG)) (gp Z (fun hG => QV.fieldAddr fd79_1 Z hG) (gp Z (fun hG => QV.load pl3 Z hG (fun w hw => CellsAt.one 1 (((Own.karr 0 Z hk hF22) w hw).ele (hp45 hG) (c42 hG)) Z)) (gp Z (fun hG => QV.move Z Z) (gp Z (fun hG => QV.gtr Z hG Z hG) (wq Z (QV.pickAnd Z Z Z (fun h => h)) (nt ?_))))))
   refine wc Z hm43 (fun h46 hm47 => ?_) (fun h46 hm54 => ?_) <;> clear hm43
   ·skip
    refine WC.region (wm Z (wm Z ?_))
    obtain ⟨c48, hm49⟩ := cs hm47; clear hm47
    obtain ⟨p50, hp51⟩ := hF22.lenMap.ix (sz := 2) ln_len c48
    refine wq Z (QV.indexSlice sl76 Z Z Z Z hp51) (wf fd79_1 Z (wl pl3 Z (fun w hw => CellsAt.one 1 (((Own.karr 0 Z hk hF22) w hw).ele hp51 c48) Z) (wa Z (WL.nil (WQ.block (WQ.then (WC.region (wm Z ?_))))))))
    obtain ⟨c52, hm53⟩ := cs hm49; clear hm49
    refine wq Z (QV.add Z Z Z Z c52) (wa Z (WL.nil ?_))
    exact WQ.again2 ((ele x19 k8_4).bk) (k8_4 + 1) m32 (up_next hm53 hn35) (Nat.lt_succ_self _) ⟨Z, Z, Z, Z, Z, Z, trivial⟩ (pk [0, 1])
   refine sk (WQ.block (WQ.then (WC.region (wm Z ?_))))
   obtain ⟨c55, hm56⟩ := cs hm54; clear hm54
   refine wq Z (QV.add Z Z Z Z c55) (wa Z (WL.nil ?_))
   exact WQ.again2 far5_4 (k8_4 + 1) m32 (up_next hm56 hn35) (Nat.lt_succ_self _) ⟨Z, Z, Z, Z, Z, Z, trivial⟩ (pk [0, 1])
  refine WC.exit (te (te (WQ.block_exit ?_)))
  exact WQ.out2 far5_4 k8_4 (up_brk hm57 hn35) ⟨Z, Z, Z, Z, Z, Z, trivial⟩ (pk [0, 1])
 refine WC.exit (te (te (WQ.block_exit ?_)))
 exact WQ.out3 far5_3 i6_3 k_3 ⟨up_brk hm58 hn12, hle_3⟩ ⟨Z, Z, Z, Z, trivial⟩ (pk [0, 1])
end Go.Proofs.Ytaimbkndebaaiac
end
section
namespace Go.Proofs.Ytaimbkndebaaiac
open Go.Rd
open TNum TLoop TKern TKeep TOrd TCpt TDep TSched1 TEmit TCheck TRegs TBound TMake TBuild TRDep TR10
namespace TR10b
theorem sl33 : SliceT Try.prog 33 2 1 := ⟨Try.underlying33, by kernel_rfl⟩
theorem sz2 : SizeT Try.prog 2 1 := by unfold SizeT; kernel_rfl
theorem sz_33 : SliceZ Try.prog 33 2 1 [.int .i64 0] := ⟨Try.underlying33, by kernel_rfl⟩
theorem ve33 : VecT Try.prog 33 2 1 8 := ⟨Try.underlying33, by kernel_rfl, by decide⟩
theorem ze2 : ZeroT Try.prog 2 [.int .i64 0] := by unfold ZeroT; kernel_rfl
end TR10b
open TR10b
theorem R10_Enter_w {v_l_logs v_l_body v_l_outs v_k__ops v_order v_before : Value} {l : Lp} {t : Tgt} {k_ : Krn} {order : List Int} {before : List (List Int)} {r : List Int} {K0 : World} (hm : R10_Enter_m l t k_ order before = some r) (h_l_logs : Arr K0 v_l_logs 1 (l.logs.map icell)) (h_l_body : Arr K0 v_l_body 9 (l.body.map Stm.cells)) (h_l_outs : Arr K0 v_l_outs 1 (l.outs.map icell)) (h_k__ops : Arr K0 v_k__ops 10 (k_.ops.map Opr.cells)) (h_order : Arr K0 v_order 1 (order.map icell)) (h_before : RowsA K0 v_before before) (M : Nat → Prop) (w : World) (hk : Base M K0 w) (hw0 : Own M w [] w) : Calls Try.prog 13 #[.agg #[v_l_logs, v_l_body, v_l_outs], .agg #[.int .i64 t.u0, .int .i64 t.u1, .int .i64 t.u2, .int .i64 t.w0, .int .i64 t.w1, .int .i64 t.w2, .int .i64 t.regs], .agg #[.int .i64 k_.pace, .int .i64 k_.stages, v_k__ops], v_order, v_before] w (fun e w' => ∃ X : Value × World, e = .returned (X.1) ∧ Own M w (kn M w.heap.size K0 X.2 :: []) w' ∧ Arr X.2 X.1 1 (r.map icell)) := by
 unfold R10_Enter_m at hm
 refine calls_of_WC (n := 61) (args := [.agg #[v_l_logs, v_l_body, v_l_outs], .agg #[i_ t.u0, i_ t.u1, i_ t.u2, i_ t.w0, i_ t.w1, i_ t.w2, i_ t.regs], .agg #[i_ k_.pace, i_ k_.stages, v_k__ops], v_order, v_before]) Try.func13 Z Z (nl Z) ?_ (Own.startK hk hw0)
 refine sr (WL.effect Z ?_)
 refine (EV.boxAgg (by decide) Z Z (fun b1 => ?_))
 refine WL.effect Z ?_
 refine (EV.boxAgg (by decide) Z Z (fun b2 => ?_))
 refine WL.effect Z ?_
 refine (EV.boxAgg (by decide) Z Z (fun b3 => ?_))
 refine wa Z (ns (wq Z (QV.loadAgg ag25 Z Z Z (Own.cellsBlk 2 Z)) (wq Z (QV.loadAgg ag28 Z Z Z (Own.cellsBlk 1 Z)) (wq Z (QV.loadAgg ag31 Z Z Z (Own.cellsBlk 0 Z)) (wm Z (WL.effect Z ?_))))))
 obtain ⟨x4, hx5, hm6⟩ := bd_some hm; clear hm
 refine EV.of (C' := Own M w [kn M w.heap.size K0 K0, blk b3 [i_ k_.pace, i_ k_.stages, v_k__ops] 31, blk b2 t.cells 28, blk b1 [v_l_logs, v_l_body, v_l_outs] 25]) (pk [3, 0, 1, 2]) ?_
 refine (EV.callR (X := Value × World) (R := []) (fun X => .tuple #[X.1, .bool x4.2]) (fun X => []) (fun X => X.2) (fun X => Arr X.2 X.1 3 (x4.1.map Off.cells)) hk (fun _ h => by cases h; decide) en22 (ec Z (ec Z (ec Z (ec Z eN)))) (fun M w h1 h2 => have h := R10_Layout_w hx5 h_l_logs h_l_body h_l_outs h_k__ops h_order M w h1 h2; h) (fun X7 hF7 hle7 => ?_))
 refine wm Z (wq Z (QV.extract Z Z Z) (wq Z (QV.extract Z Z Z) (wa Z (wa Z (ns (wf fd28_2 Z (wl pl3 Z (Own.cell 2 Z Z) (WL.effect Z ?_))))))))
 obtain ⟨c8, c10, hm11⟩ := cs2 hm6; clear hm6
 refine (EV.makeSlice (enc := icell) (0 : Int) (by decide) ve33 ze2 Z Z c8 Z c10 (fun u12 hu13 => ?_))
 refine wa Z (nt (WC.seq (sr (wa Z (nt ?_)))))
 obtain ⟨o15, ho16, hm17⟩ := bd_some hm11; clear hm11; obtain ⟨n18, ho19⟩ := lp_some ho16
 refine WC.bloop2 (H2 := [kn M w.heap.size K0 X7.2, blk b3 [i_ k_.pace, i_ k_.stages, v_k__ops] 31, blk b2 t.cells 28, blk b1 [v_l_logs, v_l_body, v_l_outs] 25]) (τ := [u_ 4 _, u_ 5 _, u_ 6 _, u_ 11 _, u_ 13 _]) (fun (v14_3 : List Int) (s14_3 : Int) => [(14, (true, i_ s14_3))]) (fun v14_3 s14_3 => [vec u12 2 1 (List.map icell v14_3)]) (fun v14_3 s14_3 m => iter (R10_Enter_L0 l t before x4) m (v14_3, s14_3) = some o15 ∧ SliceLen u12 v14_3.length) (fun v14_3 s14_3 => o15 = .go (v14_3, s14_3) ∧ SliceLen u12 v14_3.length) (List.replicate t.regs.toNat (0 : Int)) 0 n18 ⟨ho19, hu13⟩ ⟨Z, Z, Z, Z, Z, Z, trivial⟩ (pk [0, 1, 2, 3, 4]) ?_ ?_
 ·skip
  rintro v14_3 s14_3 ⟨rfl, hlv14_3⟩
  refine WQ.then (sr (wm Z (wa Z (nt (WC.ret ?_)))))
  obtain rfl := (eq_of_some hm17).symm
  refine WK.of (C' := Own M w [kn M w.heap.size K0 X7.2, vec u12 2 1 (List.map icell v14_3), blk b3 [i_ k_.pace, i_ k_.stages, v_k__ops] 31, blk b2 t.cells 28, blk b1 [v_l_logs, v_l_body, v_l_outs] 25]) (pk [1, 0, 2, 3, 4]) ?_
  refine WK.freeze hk (fun k20 hle20 hr20 => ?_)
  have hA20 := vec_arr hr20
  refine WQ.ret1 Z Z (fun w hw => ?_)
  exact ⟨(u12, k20), Z, hw.pick [0] (by decide), hA20⟩
 rintro v14_3 s14_3 m21 ⟨hI22, hlv14_3⟩
 obtain ⟨m23, s24, rfl, hm25, hn26⟩ := iter_step hI22; clear hI22; unfold R10_Enter_L0 at hm25; simp only at hm25
 refine WC.seq (sr (wm Z (wm Z (wq Z (QV.lenS Try.underlying52 Z Z hF7.lenMap) (wq Z (QV.lss Z Z Z Z) (nt ?_))))))
 refine wc Z hm25 (fun h27 hm28 => ?_) (fun h27 hm77 => ?_) <;> clear hm25
 ·skip
  refine sk (WQ.then (WC.seq (WC.block (sr (wa Z (nt ?_))))))
  obtain ⟨o29, ho30, hm31⟩ := bd_some hm28; clear hm28; obtain ⟨n32, ho33⟩ := lp_some ho30
  refine WC.bloop2 (H2 := [kn M w.heap.size K0 X7.2, blk b3 [i_ k_.pace, i_ k_.stages, v_k__ops] 31, blk b2 t.cells 28, blk b1 [v_l_logs, v_l_body, v_l_outs] 25]) (τ := [u_ 4 _, u_ 5 _, u_ 6 _, u_ 11 _, u_ 13 _, u_ 14 _]) (fun (v14_4 : List Int) (q15_4 : Int) => [(15, (true, i_ q15_4))]) (fun v14_4 q15_4 => [vec u12 2 1 (List.map icell v14_4)]) (fun v14_4 q15_4 m => iter (R10_Enter_L2 l t before x4 s14_3) m (v14_4, q15_4) = some o29 ∧ SliceLen u12 v14_4.length) (fun v14_4 q15_4 => o29 = .go (v14_4, q15_4) ∧ SliceLen u12 v14_4.length) v14_3 1 n32 ⟨ho33, hlv14_3⟩ ⟨Z, Z, Z, Z, Z, Z, Z, trivial⟩ (pk [0, 1, 2, 3, 4]) ?_ ?_
  ·skip
   rintro v14_4 q15_4 ⟨rfl, hlv14_4⟩
   refine WQ.block (WQ.then (WC.region (wm Z ?_)))
   obtain ⟨c34, hm35⟩ := cs hm31; clear hm31
   refine wq Z (QV.add Z Z Z Z c34) (wa Z (WL.nil ?_))
   exact WQ.again2 v14_4 (s14_3 + 1) m23 ⟨up_next hm35 hn26, hlv14_4⟩ (Nat.lt_succ_self _) ⟨Z, Z, Z, Z, Z, Z, trivial⟩ (pk [0, 1, 2, 3, 4])
  rintro v14_4 q15_4 m36 ⟨hI37, hlv14_4⟩
  obtain ⟨m38, s39, rfl, hm40, hn41⟩ := iter_step hI37; clear hI37; unfold R10_Enter_L2 at hm40; simp only at hm40
  refine WC.seq (sr (wm Z (wq Z (QV.loadAgg ag25 Z Z Z (Own.cellsBlk 4 Z)) (wm Z ?_))))
  obtain ⟨x42, hx43, hm44⟩ := bd_some hm40; clear hm40
  refine wq Z (QV.call en33 (ec Z (ec Z eN)) (fun w hw => have h := R10_Far_w w hx43 ((Own.karr 1 Z hk (h_l_logs.le hle7)) w hw) ((Own.karr 1 Z hk (h_l_body.le hle7)) w hw) ((Own.karr 1 Z hk (h_l_outs.le hle7)) w hw); h)) (wq Z (QV.leq Z Z Z Z) (nt ?_))
  refine wc Z hm44 (fun h45 hm46 => ?_) (fun h45 hm76 => ?_) <;> clear hm44
  ·skip
   refine sk (WQ.then (WC.seq (WC.block (WC.dr (m := 21) (S := Own M w [kn M w.heap.size K0 X7.2, vec u12 2 1 (List.map icell v14_4), blk b3 [i_ k_.pace, i_ k_.stages, v_k__ops] 31, blk b2 t.cells 28, blk b1 [v_l_logs, v_l_body, v_l_outs] 25]) (by kernel_rfl) (by kernel_rfl) (pk [1, 0, 2, 3, 4]) (zm 0 Z Z (zm 1 Z Z (zm 2 Z Z ?_)))))))
   obtain ⟨c47, hm48⟩ := cs hm46; clear hm46
   obtain ⟨p49, hp50⟩ := hF7.lenMap.ix (sz := 3) ln_len c47
   refine wz 3 Z Z (QV.indexSlice sl52 Z Z Z Z hp50) (zf 4 fd73_2 Z Z (zl 5 pl3 Z Z (fun w hw => CellsAt.one 2 (((Own.karr 0 Z hk hF7) w hw).ele hp50 c47) Z) (zm 6 Z Z ?_)))
   obtain ⟨c51, hm52⟩ := cs hm48; clear hm48
   refine wz 7 Z Z (QV.sub Z Z Z Z c51) (zf 8 fd28_2 Z Z (zl 9 pl3 Z Z (Own.cell 3 Z Z) ?_))
   obtain ⟨x53, hx54, hm55⟩ := bd_some hm52; clear hm52
   refine wz 10 Z Z (QV.call en31 (ec Z (ec Z eN)) (fun w hw => have h := R1_Rest_w w hx54 ; h)) (zm 11 Z Z (zm 12 Z Z ?_))
   obtain ⟨c56, hm57⟩ := cs hm55; clear hm55
   obtain ⟨p58, u60, hp59, hc61, hA62⟩ := (h_before.le hle7).ix c56
   refine wz 13 Z Z (QV.indexSlice sl32 Z Z Z Z hp59) (zl 14 pl33 Z Z (fun w hw => CellsAt.one 0 ((Own.kcells 0 Z hk hc61) w hw) Z) (zm 15 Z Z ?_))
   obtain ⟨c63, c65, hm66⟩ := cs2 hm57; clear hm57
   refine wz 16 Z Z (QV.sub Z Z Z Z c63) ?_
   obtain ⟨p67, hp68⟩ := hA62.lenMap.ix (sz := 1) ln_len c65
   refine wz 17 Z Z (QV.indexSlice sl33 Z Z Z Z hp68) (zl 18 pl2 Z Z (fun w hw => CellsAt.one 0 (((Own.karr 0 Z hk hA62) w hw).ele hp68 c65) Z) ?_)
   obtain ⟨c69, hm70⟩ := cs hm66; clear hm66
   obtain ⟨p71, hp72⟩ := hlv14_4.ix (sz := 1) ln_len c69
   refine wz 19 Z Z (QV.indexSlice sl33 Z Z Z Z hp72) ?_
   refine WD.l 20 Z (by kernel_rfl) Z ?_
   refine (EV.storeV 0 (ele (ele before s14_3) (q15_4 - 1)) icell_eq Z Z Z Z Z hp72 Z Z sz2 ?_)
   have hl73 : SliceLen u12 (upd v14_4 x53 (ele (ele before s14_3) (q15_4 - 1))).length := slen_upd hlv14_4
   refine WQ.block (WQ.then (WC.region (wm Z ?_)))
   obtain ⟨c74, hm75⟩ := cs hm70; clear hm70
   refine wq Z (QV.add Z Z Z Z c74) (wa Z (WL.nil ?_))
   exact WQ.again2 (upd v14_4 x53 (ele (ele before s14_3) (q15_4 - 1))) (q15_4 + 1) m38 ⟨up_next hm75 hn41, hl73⟩ (Nat.lt_succ_self _) ⟨Z, Z, Z, Z, Z, Z, Z, trivial⟩ (pk [0, 1, 2, 3, 4])
  refine WC.exit (te (te (WQ.block_exit ?_)))
  exact WQ.out2 v14_4 q15_4 ⟨up_brk hm76 hn41, hlv14_4⟩ ⟨Z, Z, Z, Z, Z, Z, Z, trivial⟩ (pk [0, 1, 2, 3, 4])
 refine WC.exit (te (te (WQ.block_exit ?_)))
 exact WQ.out2 v14_3 s14_3 ⟨up_brk hm77 hn26, hlv14_3⟩ ⟨Z, Z, Z, Z, Z, Z, trivial⟩ (pk [0, 1, 2, 3, 4])
theorem R10_Leave_w {v_l_logs v_l_body v_l_outs v_k__ops v_order v_before v_regs : Value} {l : Lp} {t : Tgt} {k_ : Krn} {order : List Int} {before : List (List Int)} {regs : List Int} {turns : Int} {r : List Int} {K0 : World} (hm : R10_Leave_m l t k_ order before regs turns = some r) (h_l_logs : Arr K0 v_l_logs 1 (l.logs.map icell)) (h_l_body : Arr K0 v_l_body 9 (l.body.map Stm.cells)) (h_l_outs : Arr K0 v_l_outs 1 (l.outs.map icell)) (h_k__ops : Arr K0 v_k__ops 10 (k_.ops.map Opr.cells)) (h_order : Arr K0 v_order 1 (order.map icell)) (h_before : RowsA K0 v_before before) (h_regs : Arr K0 v_regs 1 (regs.map icell)) (M : Nat → Prop) (w : World) (hk : Base M K0 w) (hw0 : Own M w [] w) : Calls Try.prog 14 #[.agg #[v_l_logs, v_l_body, v_l_outs], .agg #[.int .i64 t.u0, .int .i64 t.u1, .int .i64 t.u2, .int .i64 t.w0, .int .i64 t.w1, .int .i64 t.w2, .int .i64 t.regs], .agg #[.int .i64 k_.pace, .int .i64 k_.stages, v_k__ops], v_order, v_before, v_regs, .int .i64 turns] w (fun e w' => ∃ X : Value × World, e = .returned (X.1) ∧ Own M w (kn M w.heap.size K0 X.2 :: []) w' ∧ Arr X.2 X.1 1 (r.map icell)) := by
 unfold R10_Leave_m at hm
 refine calls_of_WC (n := 70) (args := [.agg #[v_l_logs, v_l_body, v_l_outs], .agg #[i_ t.u0, i_ t.u1, i_ t.u2, i_ t.w0, i_ t.w1, i_ t.w2, i_ t.regs], .agg #[i_ k_.pace, i_ k_.stages, v_k__ops], v_order, v_before, v_regs, i_ turns]) Try.func14 Z Z (nl Z) ?_ (Own.startK hk hw0)
 refine sr (WL.effect Z ?_)
 refine (EV.boxAgg (by decide) Z Z (fun b1 => ?_))
 refine WL.effect Z ?_
 refine (EV.boxAgg (by decide) Z Z (fun b2 => ?_))
 refine WL.effect Z ?_
 refine (EV.boxAgg (by decide) Z Z (fun b3 => ?_))
 refine wa Z (ns (wq Z (QV.loadAgg ag25 Z Z Z (Own.cellsBlk 2 Z)) (wq Z (QV.loadAgg ag28 Z Z Z (Own.cellsBlk 1 Z)) (wq Z (QV.loadAgg ag31 Z Z Z (Own.cellsBlk 0 Z)) (wm Z (WL.effect Z ?_))))))
 obtain ⟨x4, hx5, hm6⟩ := bd_some hm; clear hm
 refine EV.of (C' := Own M w [kn M w.heap.size K0 K0, blk b3 [i_ k_.pace, i_ k_.stages, v_k__ops] 31, blk b2 t.cells 28, blk b1 [v_l_logs, v_l_body, v_l_outs] 25]) (pk [3, 0, 1, 2]) ?_
 refine (EV.callR (X := Value × World) (R := []) (fun X => .tuple #[X.1, .bool x4.2]) (fun X => []) (fun X => X.2) (fun X => Arr X.2 X.1 3 (x4.1.map Off.cells)) hk (fun _ h => by cases h; decide) en22 (ec Z (ec Z (ec Z (ec Z eN)))) (fun M w h1 h2 => have h := R10_Layout_w hx5 h_l_logs h_l_body h_l_outs h_k__ops h_order M w h1 h2; h) (fun X7 hF7 hle7 => ?_))
 refine wm Z (wq Z (QV.extract Z Z Z) (wq Z (QV.extract Z Z Z) (wa Z (wa Z (ns (wa Z (nt (WC.seq (sr (wa Z (nt ?_)))))))))))
 refine WK.of (fun w hw => hw.vecNil (E := 2) (sz := 1) (enc := icell)) ?_
 obtain ⟨o9, ho10, hm11⟩ := bd_some hm6; clear hm6; obtain ⟨n12, ho13⟩ := lp_some ho10
 refine WC.bloop3 (H2 := [kn M w.heap.size K0 X7.2, blk b3 [i_ k_.pace, i_ k_.stages, v_k__ops] 31, blk b2 t.cells 28, blk b1 [v_l_logs, v_l_body, v_l_outs] 25]) (τ := [u_ 4 _, u_ 5 _, u_ 6 _, u_ 7 _, u_ 8 _, u_ 15 _]) (fun (v8_1 : List Int) (i18_1 : Int) (uv8_1 : Value) => [(17, (true, uv8_1)), (18, (true, i_ i18_1))]) (fun v8_1 i18_1 uv8_1 => [vec uv8_1 2 1 (List.map icell v8_1)]) (fun v8_1 i18_1 uv8_1 m => iter (R10_Leave_L0 l t before regs turns x4) m (v8_1, i18_1) = some o9 ∧ SliceLen uv8_1 v8_1.length) (fun v8_1 i18_1 uv8_1 => o9 = .go (v8_1, i18_1) ∧ SliceLen uv8_1 v8_1.length) [] 0 (.slice none 0 0) n12 ⟨ho13, SliceLen.nil⟩ ⟨Z, Z, Z, Z, Z, Z, Z, Z, trivial⟩ (pk [0, 1, 2, 3, 4]) ?_ ?_
 ·skip
  rintro v8_1 i18_1 uv8_1 ⟨rfl, hlv8_1⟩
  refine WQ.then (sr (wm Z (wa Z (nt (WC.ret ?_)))))
  obtain rfl := (eq_of_some hm11).symm
  refine WK.of (C' := Own M w [kn M w.heap.size K0 X7.2, vec uv8_1 2 1 (List.map icell v8_1), blk b3 [i_ k_.pace, i_ k_.stages, v_k__ops] 31, blk b2 t.cells 28, blk b1 [v_l_logs, v_l_body, v_l_outs] 25]) (pk [1, 0, 2, 3, 4]) ?_
  refine WK.freeze hk (fun k14 hle14 hr14 => ?_)
  have hA14 := vec_arr hr14
  refine WQ.ret1 Z Z (fun w hw => ?_)
  exact ⟨(uv8_1, k14), Z, hw.pick [0] (by decide), hA14⟩
 rintro v8_1 i18_1 uv8_1 m15 ⟨hI16, hlv8_1⟩
 obtain ⟨m17, s18, rfl, hm19, hn20⟩ := iter_step hI16; clear hI16; unfold R10_Leave_L0 at hm19; simp only at hm19
 refine WC.seq (sr (wm Z (wf fd25_2 Z (wl pl22 Z (Own.cell 4 Z Z) (wq Z (QV.lenS Try.underlying22 Z Z (h_l_outs.le hle7).lenMap) (wq Z (QV.lss Z Z Z Z) (nt ?_)))))))
 refine wc Z hm19 (fun h21 hm22 => ?_) (fun h21 hm74 => ?_) <;> clear hm19
 ·skip
  refine sk (WQ.then (WC.seq (WC.block (sr (wm Z (wf fd25_2 Z (wl pl22 Z (Own.cell 4 Z Z) (wm Z ?_))))))))
  obtain ⟨c23, hm24⟩ := cs hm22; clear hm22
  obtain ⟨p25, hp26⟩ := (h_l_outs.le hle7).lenMap.ix (sz := 1) ln_len c23
  refine wq Z (QV.indexSlice sl22 Z Z Z Z hp26) (wl pl3 Z (fun w hw => CellsAt.one 0 (((Own.karr 1 Z hk (h_l_outs.le hle7)) w hw).ele hp26 c23) Z) ?_)
  obtain ⟨c27, hm28⟩ := cs hm24; clear hm24
  obtain ⟨p29, u31, hp30, hc32, hA33⟩ := (h_before.le hle7).ix c27
  refine wq Z (QV.indexSlice sl32 Z Z Z Z hp30) (wl pl33 Z (fun w hw => CellsAt.one 0 ((Own.kcells 1 Z hk hc32) w hw) Z) ?_)
  obtain ⟨c34, hm35⟩ := cs hm28; clear hm28
  obtain ⟨p36, hp37⟩ := hA33.lenMap.ix (sz := 1) ln_len c34
  refine wq Z (QV.indexSlice sl33 Z Z Z Z hp37) (wl pl2 Z (fun w hw => CellsAt.one 0 (((Own.karr 1 Z hk hA33) w hw).ele hp37 c34) Z) (wa Z (nt (WC.seq (sr (wm Z (wq Z (QV.gtr Z Z Z Z) (nt ?_))))))))
  refine wc Z hm35 (fun h38 hm39 => ?_) (fun h38 hm66 => ?_) <;> clear hm35
  ·skip
   refine WC.dr (m := 19) (S := Own M w [kn M w.heap.size K0 X7.2, vec uv8_1 2 1 (List.map icell v8_1), blk b3 [i_ k_.pace, i_ k_.stages, v_k__ops] 31, blk b2 t.cells 28, blk b1 [v_l_logs, v_l_body, v_l_outs] 25]) (by kernel_rfl) (by kernel_rfl) (pk [1, 0, 2, 3, 4]) (zm 0 Z Z (zm 1 Z Z (zf 2 fd25_2 Z Z (zl 3 pl22 Z Z (Own.cell 4 Z Z) (zm 4 Z Z ?_)))))
   obtain ⟨c40, hm41⟩ := cs hm39; clear hm39
   obtain ⟨p42, hp43⟩ := (h_l_outs.le hle7).lenMap.ix (sz := 1) ln_len c40
   refine wz 5 Z Z (QV.indexSlice sl22 Z Z Z Z hp43) (zl 6 pl3 Z Z (fun w hw => CellsAt.one 0 (((Own.karr 0 Z hk (h_l_outs.le hle7)) w hw).ele hp43 c40) Z) ?_)
   obtain ⟨c44, hm45⟩ := cs hm41; clear hm41
   obtain ⟨p46, hp47⟩ := hF7.lenMap.ix (sz := 3) ln_len c44
   refine wz 7 Z Z (QV.indexSlice sl52 Z Z Z Z hp47) (zf 8 fd73_2 Z Z (zl 9 pl3 Z Z (fun w hw => CellsAt.one 2 (((Own.karr 0 Z hk hF7) w hw).ele hp47 c44) Z) (zm 10 Z Z ?_)))
   obtain ⟨c48, c50, hm51⟩ := cs2 hm45; clear hm45
   refine wz 11 Z Z (QV.add Z Z Z Z c48) (wz 12 Z Z (QV.sub Z Z Z Z c50) (zf 13 fd28_2 Z Z (zl 14 pl3 Z Z (Own.cell 3 Z Z) ?_)))
   obtain ⟨x52, hx53, hm54⟩ := bd_some hm51; clear hm51
   refine wz 15 Z Z (QV.call en31 (ec Z (ec Z eN)) (fun w hw => have h := R1_Rest_w w hx53 ; h)) ?_
   obtain ⟨c55, hm56⟩ := cs hm54; clear hm54
   obtain ⟨p57, hp58⟩ := (h_regs.le hle7).lenMap.ix (sz := 1) ln_len c55
   refine wz 16 Z Z (QV.indexSlice sl33 Z Z Z Z hp58) (zl 17 pl2 Z Z (fun w hw => CellsAt.one 0 (((Own.karr 0 Z hk (h_regs.le hle7)) w hw).ele hp58 c55) Z) (wz 18 Z Z (QV.assign Z Z) ?_))
   refine WD.e (by kernel_rfl) ?_
   refine WQ.then (WC.region (wm Z (wm Z (WL.effect Z ?_))))
   refine (EV.buildSlice (by decide) sz_33 (by decide) (by decide) (ps := [(0, .tmp 66)]) (cells := [i_ (ele regs x52)]) (ec Z eN) (by kernel_rfl) (fun b59 => ?_))
   refine WL.effect Z ?_
   obtain ⟨c60, c64, hm65⟩ := cs2 hm56; clear hm56
   refine (EV.appendL (enc := icell) (xs := v8_1) (ys := [(ele regs x52)]) ((v8_1 ++ [(ele regs x52)])) 1 (by decide) ve33 Z Z Z Z Z (Own.blkArr 0 (rows := [(ele regs x52)].map icell) Z Z (rows_len icell_len)) icell_len (icell_one _) Z c60.1 c60.2 (fun u62 hu63 => ?_))
   refine wa Z (WL.nil (WQ.block (WQ.then (WC.region (wm Z (wq Z (QV.add Z Z Z Z c64) (wa Z (WL.nil ?_))))))))
   exact WQ.again3 (v8_1 ++ [(ele regs x52)]) (i18_1 + 1) u62 m17 ⟨up_next hm65 hn20, hu63⟩ (Nat.lt_succ_self _) ⟨Z, Z, Z, Z, Z, Z, Z, Z, trivial⟩ (pk [1, 2, 3, 4, 5])
  refine sk (WQ.then (WC.region (wm Z (wm Z (WL.effect Z ?_)))))
  refine (EV.buildSlice (by decide) sz_33 (by decide) (by decide) (ps := [(0, .tmp 66)]) (cells := [i_ (ele (ele before (ele l.outs i18_1)) 0)]) (ec Z eN) (by kernel_rfl) (fun b67 => ?_))
  refine WL.effect Z ?_
  obtain ⟨c68, c72, hm73⟩ := cs2 hm66; clear hm66
  refine (EV.appendL (enc := icell) (xs := v8_1) (ys := [(ele (ele before (ele l.outs i18_1)) 0)]) ((v8_1 ++ [(ele (ele before (ele l.outs i18_1)) 0)])) 1 (by decide) ve33 Z Z Z Z Z (Own.blkArr 0 (rows := [(ele (ele before (ele l.outs i18_1)) 0)].map icell) Z Z (rows_len icell_len)) icell_len (icell_one _) Z c68.1 c68.2 (fun u70 hu71 => ?_))
  refine wa Z (WL.nil (WQ.block (WQ.then (WC.region (wm Z (wq Z (QV.add Z Z Z Z c72) (wa Z (WL.nil ?_))))))))
  exact WQ.again3 (v8_1 ++ [(ele (ele before (ele l.outs i18_1)) 0)]) (i18_1 + 1) u70 m17 ⟨up_next hm73 hn20, hu71⟩ (Nat.lt_succ_self _) ⟨Z, Z, Z, Z, Z, Z, Z, Z, trivial⟩ (pk [1, 2, 3, 4, 5])
 refine WC.exit (te (te (WQ.block_exit ?_)))
 exact WQ.out3 v8_1 i18_1 uv8_1 ⟨up_brk hm74 hn20, hlv8_1⟩ ⟨Z, Z, Z, Z, Z, Z, Z, Z, trivial⟩ (pk [0, 1, 2, 3, 4])
end Go.Proofs.Ytaimbkndebaaiac
end
section
namespace Go.Proofs.Ytaimbkndebaaiac
open Go.Rd
open TNum TLoop TKern TKeep TOrd TCpt TDep TSched1 TEmit TCheck TRegs TBound TMake TBuild TRDep TR10 TR10b
namespace TClone
end TClone
open TClone
end Go.Proofs.Ytaimbkndebaaiac
end
section
namespace Go.Proofs.Ytaimbkndebaaiac
open Go.Rd
open TNum TLoop TKern TKeep TOrd TCpt TDep TSched1 TEmit TCheck TRegs TBound TMake TBuild TRDep TR10 TR10b TClone
namespace TNbr
end TNbr
open TNbr
theorem R3_Numbers_w {v_a v_b : Value} {a b : List Int} {r : Bool} (w : World) (hm : R3_Numbers_m a b = some r) (h_a : Arr w v_a 1 (a.map icell)) (h_b : Arr w v_b 1 (b.map icell)) : Calls Try.prog 12 #[v_a, v_b] w (fun e w' => e = .returned (.bool r) ∧ Grow w w') := by
 unfold R3_Numbers_m at hm
 have hk := Base.rfl (w := w)
 refine calls_of_WC (n := 26) (args := [v_a, v_b]) Try.func12 Z Z (nl Z) ?_ (Own.startK hk (Own.start w))
 refine sr (wa Z (nt (WC.seq (sr (wm Z (wq Z (QV.lenS Try.underlying33 Z Z h_a.lenMap) (wm Z (wq Z (QV.lenS Try.underlying33 Z Z h_b.lenMap) (wq Z (QV.neq Z Z Z Z) (nt ?_))))))))))
 refine wc Z hm (fun h1 hm2 => ?_) (fun h1 hm3 => ?_) <;> clear hm
 ·skip
  refine sr (wa Z (nt (WC.ret (tr ?_))))
  obtain rfl := (eq_of_some hm2).symm
  exact WQ.ret1 Z Z fun w hw => kg hw
 refine sk (WQ.then (WC.seq (sr (wa Z (nt ?_)))))
 obtain ⟨o4, ho5, hm6⟩ := bd_some hm3; clear hm3; obtain ⟨n7, ho8⟩ := lp_some ho5
 refine WC.bloop1 (H2 := [kn noM w.heap.size w w]) (τ := [u_ 0 _, u_ 1 _]) (fun (i5_1 : Int) => [(5, (true, i_ i5_1))]) (fun i5_1 => []) (fun i5_1 m => iter (R3_Numbers_L0 a b) m i5_1 = some o4) (fun i5_1 => o4 = .go i5_1) 0 n7 ho8 ⟨Z, Z, Z, trivial⟩ (pk [0]) ?_ ?_
 ·skip
  rintro i5_1 rfl
  refine WQ.then (sr (wa Z (nt (WC.ret ?_))))
  obtain rfl := (eq_of_some hm6).symm
  exact WQ.ret1 Z Z fun w hw => kg hw
 rintro i5_1 m9 hI10
 obtain ⟨m11, s12, rfl, hm13, hn14⟩ := iter_step hI10; clear hI10; unfold R3_Numbers_L0 at hm13
 refine WC.seq (sr (wm Z (wm Z (wq Z (QV.lenS Try.underlying33 Z Z h_a.lenMap) (wq Z (QV.lss Z Z Z Z) (nt ?_))))))
 refine wc Z hm13 (fun h15 hm16 => ?_) (fun h15 hm30 => ?_) <;> clear hm13
 ·skip
  refine sk (WQ.then (WC.seq (WC.block (WC.seq (WC.dr (m := 9) (by kernel_rfl) (by kernel_rfl) (fun w hw => hw) (zm 0 Z Z (zm 1 Z Z ?_)))))))
  obtain ⟨c17, hm18⟩ := cs hm16; clear hm16
  obtain ⟨p19, hp20⟩ := h_a.lenMap.ix (sz := 1) ln_len c17
  refine wz 2 Z Z (QV.indexSlice sl33 Z Z Z Z hp20) (zl 3 pl2 Z Z (fun w hw => CellsAt.one 0 (((Own.karr 0 Z hk h_a) w hw).ele hp20 c17) Z) (zm 4 Z Z (zm 5 Z Z ?_)))
  obtain ⟨c21, hm22⟩ := cs hm18; clear hm18
  obtain ⟨p23, hp24⟩ := h_b.lenMap.ix (sz := 1) ln_len c21
  refine wz 6 Z Z (QV.indexSlice sl33 Z Z Z Z hp24) (zl 7 pl2 Z Z (fun w hw => CellsAt.one 0 (((Own.karr 0 Z hk h_b) w hw).ele hp24 c21) Z) (wz 8 Z Z (QV.neq Z Z Z Z) ?_))
  refine WD.e (by kernel_rfl) ?_
  refine WQ.then ?_
  refine wc Z hm22 (fun h25 hm26 => ?_) (fun h25 hm27 => ?_) <;> clear hm22
  ·skip
   refine sr (wa Z (nt (WC.ret (kr (tr (tr (kr (tr (tr ?_)))))))))
   obtain rfl := up_ret hm26 hn14
   obtain rfl := (eq_of_some hm6).symm
   exact WQ.ret1 Z Z fun w hw => kg hw
  refine sk (WQ.block (WQ.then (WC.region (wm Z ?_))))
  obtain ⟨c28, hm29⟩ := cs hm27; clear hm27
  refine wq Z (QV.add Z Z Z Z c28) (wa Z (WL.nil ?_))
  exact WQ.again1 (i5_1 + 1) m11 (up_next hm29 hn14) (Nat.lt_succ_self _) ⟨Z, Z, Z, trivial⟩ (pk [0])
 refine WC.exit (te (te (WQ.block_exit ?_)))
 exact WQ.out1 i5_1 (up_brk hm30 hn14) ⟨Z, Z, Z, trivial⟩ (pk [0])
end Go.Proofs.Ytaimbkndebaaiac
end
section
namespace Go.Proofs.Ytaimbkndebaaiac
open Go.Rd
open TNum TLoop TKern TKeep TOrd TCpt TDep TSched1 TEmit TCheck TRegs TBound TMake TBuild TRDep TR10 TR10b TClone TNbr
namespace TSeq
theorem ag50 : AggT Try.prog 50 2 := ⟨_, Try.underlying50, rfl, by kernel_rfl⟩
theorem ag59 : AggT Try.prog 59 2 := ⟨_, Try.underlying59, rfl, by kernel_rfl⟩
theorem en12 : Go.Rd.Enters Try.prog 12 := eT Try.func12
theorem en79 : Go.Rd.Enters Try.prog 79 := eT Try.func79
theorem en81 : Go.Rd.Enters Try.prog 81 := eT Try.func81
theorem en82 : Go.Rd.Enters Try.prog 82 := eT Try.func82
theorem en83 : Go.Rd.Enters Try.prog 83 := eT Try.func83
theorem fd59_0 : FieldT Try.prog 59 0 0 := fT 0 Try.underlying59
theorem sz33 : SizeT Try.prog 33 1 := by unfold SizeT; kernel_rfl
theorem sz59 : SizeT Try.prog 59 2 := by unfold SizeT; kernel_rfl
theorem sz_32 : SliceZ Try.prog 32 33 1 [.slice none 0 0] := ⟨Try.underlying32, by kernel_rfl⟩
theorem ve32 : VecT Try.prog 32 33 1 24 := ⟨Try.underlying32, by kernel_rfl, by decide⟩
theorem ze33 : ZeroT Try.prog 33 [.slice none 0 0] := by unfold ZeroT; kernel_rfl
theorem ze59 : ZeroT Try.prog 59 [.slice none 0 0, .slice none 0 0] := by unfold ZeroT; kernel_rfl
end TSeq
open TSeq
theorem R3_Words_w {v_a v_b : Value} {a b : List (List Int)} {r : Bool} (w : World) (hm : R3_Words_m a b = some r) (h_a : RowsA w v_a a) (h_b : RowsA w v_b b) : Calls Try.prog 27 #[v_a, v_b] w (fun e w' => e = .returned (.bool r) ∧ Grow w w') := by
 unfold R3_Words_m at hm
 have hk := Base.rfl (w := w)
 refine calls_of_WC (n := 27) (args := [v_a, v_b]) Try.func27 Z Z (nl Z) ?_ (Own.startK hk (Own.start w))
 refine sr (wa Z (nt (WC.seq (sr (wm Z (wq Z (QV.lenS Try.underlying32 Z Z h_a.slen) (wm Z (wq Z (QV.lenS Try.underlying32 Z Z h_b.slen) (wq Z (QV.neq Z Z Z Z) (nt ?_))))))))))
 refine wc Z hm (fun h1 hm2 => ?_) (fun h1 hm3 => ?_) <;> clear hm
 ·skip
  refine sr (wa Z (nt (WC.ret (tr ?_))))
  obtain rfl := (eq_of_some hm2).symm
  exact WQ.ret1 Z Z fun w hw => kg hw
 refine sk (WQ.then (WC.seq (sr (wa Z (nt ?_)))))
 obtain ⟨o4, ho5, hm6⟩ := bd_some hm3; clear hm3; obtain ⟨n7, ho8⟩ := lp_some ho5
 refine WC.bloop1 (H2 := [kn noM w.heap.size w w]) (τ := [u_ 0 _, u_ 1 _]) (fun (i5_1 : Int) => [(5, (true, i_ i5_1))]) (fun i5_1 => []) (fun i5_1 m => iter (R3_Words_L0 a b) m i5_1 = some o4) (fun i5_1 => o4 = .go i5_1) 0 n7 ho8 ⟨Z, Z, Z, trivial⟩ (pk [0]) ?_ ?_
 ·skip
  rintro i5_1 rfl
  refine WQ.then (sr (wa Z (nt (WC.ret ?_))))
  obtain rfl := (eq_of_some hm6).symm
  exact WQ.ret1 Z Z fun w hw => kg hw
 rintro i5_1 m9 hI10
 obtain ⟨m11, s12, rfl, hm13, hn14⟩ := iter_step hI10; clear hI10; unfold R3_Words_L0 at hm13
 refine WC.seq (sr (wm Z (wm Z (wq Z (QV.lenS Try.underlying32 Z Z h_a.slen) (wq Z (QV.lss Z Z Z Z) (nt ?_))))))
 refine wc Z hm13 (fun h15 hm16 => ?_) (fun h15 hm39 => ?_) <;> clear hm13
 ·skip
  refine sk (WQ.then (WC.seq (WC.block (WC.seq (WC.dr (m := 10) (by kernel_rfl) (by kernel_rfl) (fun w hw => hw) (zm 0 Z Z (zm 1 Z Z ?_)))))))
  obtain ⟨c17, hm18⟩ := cs hm16; clear hm16
  obtain ⟨p19, u21, hp20, hc22, hA23⟩ := h_a.ix c17
  refine wz 2 Z Z (QV.indexSlice sl32 Z Z Z Z hp20) (zl 3 pl33 Z Z (fun w hw => CellsAt.one 0 ((Own.kcells 0 Z hk hc22) w hw) Z) (zm 4 Z Z (zm 5 Z Z ?_)))
  obtain ⟨c24, hm25⟩ := cs hm18; clear hm18
  obtain ⟨p26, u28, hp27, hc29, hA30⟩ := h_b.ix c24
  refine wz 6 Z Z (QV.indexSlice sl32 Z Z Z Z hp27) (zl 7 pl33 Z Z (fun w hw => CellsAt.one 0 ((Own.kcells 0 Z hk hc29) w hw) Z) ?_)
  obtain ⟨x31, hx32, hm33⟩ := bd_some hm25; clear hm25
  refine wz 8 Z Z (QV.call en12 (ec Z (ec Z eN)) (fun w hw => have h := R3_Numbers_w w hx32 ((Own.karr 0 Z hk hA23) w hw) ((Own.karr 0 Z hk hA30) w hw); h)) (wz 9 Z Z (QV.not Z Z) ?_)
  refine WD.e (by kernel_rfl) ?_
  refine WQ.then ?_
  refine wc Z hm33 (fun h34 hm35 => ?_) (fun h34 hm36 => ?_) <;> clear hm33
  ·skip
   refine sr (wa Z (nt (WC.ret (kr (tr (tr (kr (tr (tr ?_)))))))))
   obtain rfl := up_ret hm35 hn14
   obtain rfl := (eq_of_some hm6).symm
   exact WQ.ret1 Z Z fun w hw => kg hw
  refine sk (WQ.block (WQ.then (WC.region (wm Z ?_))))
  obtain ⟨c37, hm38⟩ := cs hm36; clear hm36
  refine wq Z (QV.add Z Z Z Z c37) (wa Z (WL.nil ?_))
  exact WQ.again1 (i5_1 + 1) m11 (up_next hm38 hn14) (Nat.lt_succ_self _) ⟨Z, Z, Z, trivial⟩ (pk [0])
 refine WC.exit (te (te (WQ.block_exit ?_)))
 exact WQ.out1 i5_1 (up_brk hm39 hn14) ⟨Z, Z, Z, trivial⟩ (pk [0])
theorem R3_is_w {v_s_bef v_s_mem v_all : Value} {s : Sta} {all : List (List Int)} {r_ : Rf} {turn r : Int} (w : World) (hm : R3_is_m s all r_ turn = some r) (h_s_bef : RowsA w v_s_bef s.bef) (h_s_mem : RowsA w v_s_mem s.mem) (h_all : RowsA w v_all all) : Calls Try.prog 83 #[.agg #[v_s_bef, v_s_mem], v_all, .agg #[.int .i64 r_.st, .int .i64 r_.bk], .int .i64 turn] w (fun e w' => e = .returned (.int .i64 r) ∧ Grow w w') := by
 unfold R3_is_m at hm
 have hk := Base.rfl (w := w)
 refine calls_of_WC (n := 35) (args := [.agg #[v_s_bef, v_s_mem], v_all, .agg #[i_ r_.st, i_ r_.bk], i_ turn]) Try.func83 Z Z (nl Z) ?_ (Own.startK hk (Own.start w))
 refine sr (WL.effect Z ?_)
 refine (EV.boxAgg (by decide) Z Z (fun b1 => ?_))
 refine WL.effect Z ?_
 refine (EV.boxAgg (by decide) Z Z (fun b2 => ?_))
 refine wa Z (ns (wm Z (wf fd79_1 Z (wl pl3 Z (Own.cell 0 Z Z) ?_))))
 obtain ⟨c3, hm4⟩ := cs hm; clear hm
 refine wq Z (QV.sub Z Z Z Z c3) (wa Z (nt (WC.seq (sr (wm Z (wq Z (QV.geq Z Z Z Z) (nt ?_)))))))
 refine wc Z hm4 (fun h5 hm6 => ?_) (fun h5 hm18 => ?_) <;> clear hm4
 ·skip
  refine WC.seq (WC.dr (m := 9) (S := Own noM w [kn noM w.heap.size w w, blk b2 [i_ r_.st, i_ r_.bk] 79, blk b1 [v_s_bef, v_s_mem] 50]) (by kernel_rfl) (by kernel_rfl) (pk [2, 0, 1]) (zm 0 Z Z (zm 1 Z Z ?_)))
  obtain ⟨c7, hm8⟩ := cs hm6; clear hm6
  obtain ⟨p9, u11, hp10, hc12, hA13⟩ := h_all.ix c7
  refine wz 2 Z Z (QV.indexSlice sl32 Z Z Z Z hp10) (zl 3 pl33 Z Z (fun w hw => CellsAt.one 0 ((Own.kcells 0 Z hk hc12) w hw) Z) (zf 4 fd79_0 Z Z (zl 5 pl3 Z Z (Own.cell 1 Z Z) ?_)))
  obtain ⟨c14, hm15⟩ := cs hm8; clear hm8
  obtain ⟨p16, hp17⟩ := hA13.lenMap.ix (sz := 1) ln_len c14
  refine wz 6 Z Z (QV.indexSlice sl33 Z Z Z Z hp17) (zl 7 pl2 Z Z (fun w hw => CellsAt.one 0 (((Own.karr 0 Z hk hA13) w hw).ele hp17 c14) Z) (wz 8 Z Z (QV.assign Z Z) ?_))
  refine WD.e (by kernel_rfl) ?_
  refine WQ.then (WC.ret (tr ?_))
  obtain rfl := (eq_of_some hm15).symm
  exact WQ.ret1 Z Z fun w hw => kg hw
 refine sk (WQ.then (sr (wf fd50_0 Z (wl pl32 Z (Own.cell 1 Z Z) (wf fd79_0 Z (wl pl3 Z (Own.cell 0 Z Z) ?_))))))
 obtain ⟨c19, hm20⟩ := cs hm18; clear hm18
 obtain ⟨p21, u23, hp22, hc24, hA25⟩ := h_s_bef.ix c19
 refine wq Z (QV.indexSlice sl32 Z Z Z Z hp22) (wl pl33 Z (fun w hw => CellsAt.one 0 ((Own.kcells 2 Z hk hc24) w hw) Z) (wm Z ?_))
 obtain ⟨c26, c28, c30, hm31⟩ := cs3 hm20; clear hm20
 refine wq Z (QV.neg Z Z c26) (wq Z (QV.sub Z Z Z Z c28) ?_)
 obtain ⟨p32, hp33⟩ := hA25.lenMap.ix (sz := 1) ln_len c30
 refine wq Z (QV.indexSlice sl33 Z Z Z Z hp33) (wl pl2 Z (fun w hw => CellsAt.one 0 (((Own.karr 2 Z hk hA25) w hw).ele hp33 c30) Z) (wa Z (nt (WC.ret ?_))))
 obtain rfl := (eq_of_some hm31).symm
 exact WQ.ret1 Z Z fun w hw => kg hw
theorem R3_Copy_w {v_l : Value} {l r : List (List Int)} {K0 : World} (hm : R3_Copy_m l = some r) (h_l : RowsA K0 v_l l) (M : Nat → Prop) (w : World) (hk : Base M K0 w) (hw0 : Own M w [] w) : Calls Try.prog 79 #[v_l] w (fun e w' => ∃ X : Value × (List Value) × World, e = .returned (X.1) ∧ Own M w (kn M w.heap.size K0 X.2.2 :: [grid X.1 X.2.1 33 2 r]) w' ∧ SliceLen X.1 (r).length ∧ GL X.2.1 r) := by
 unfold R3_Copy_m at hm
 refine calls_of_WC (n := 21) (args := [v_l]) Try.func79 Z Z (nl Z) ?_ (Own.startK hk hw0)
 refine sr (wa Z (ns (wa Z (nt (WC.seq (sr (wa Z (nt ?_))))))))
 refine WK.of (fun w hw => hw.gridNil (E1 := 33) (E2 := 2)) ?_
 obtain ⟨o2, ho3, hm4⟩ := bd_some hm; clear hm; obtain ⟨n5, ho6⟩ := lp_some ho3
 refine WC.bloop4 (H2 := [kn M w.heap.size K0 K0]) (τ := [u_ 0 _]) (fun (v1_1 : List (List Int)) (i4_1 : Int) (uv1_1 : Value) (hsv1_1 : List Value) => [(3, (true, uv1_1)), (4, (true, i_ i4_1))]) (fun v1_1 i4_1 uv1_1 hsv1_1 => [grid uv1_1 hsv1_1 33 2 v1_1]) (fun v1_1 i4_1 uv1_1 hsv1_1 m => iter (R3_Copy_L0 l) m (v1_1, i4_1) = some o2 ∧ SliceLen uv1_1 v1_1.length ∧ GL hsv1_1 v1_1) (fun v1_1 i4_1 uv1_1 hsv1_1 => o2 = .go (v1_1, i4_1) ∧ SliceLen uv1_1 v1_1.length ∧ GL hsv1_1 v1_1) [] 0 nilS [] n5 ⟨ho6, SliceLen.nil, GL.nil⟩ ⟨Z, Z, Z, trivial⟩ (pk [0, 1]) ?_ ?_
 ·skip
  rintro v1_1 i4_1 uv1_1 hsv1_1 ⟨rfl, hlv1_1, hgv1_1⟩
  refine WQ.then (sr (wm Z (wa Z (nt (WC.ret ?_)))))
  obtain rfl := (eq_of_some hm4).symm
  refine WQ.ret1 Z Z (fun w hw => ?_)
  exact ⟨(uv1_1, hsv1_1, K0), Z, hw.pick [1, 0] (by decide), hlv1_1, hgv1_1⟩
 rintro v1_1 i4_1 uv1_1 hsv1_1 m7 ⟨hI8, hlv1_1, hgv1_1⟩
 obtain ⟨m9, s10, rfl, hm11, hn12⟩ := iter_step hI8; clear hI8; unfold R3_Copy_L0 at hm11; simp only at hm11
 refine WC.seq (sr (wm Z (wm Z (wq Z (QV.lenS Try.underlying32 Z Z h_l.slen) (wq Z (QV.lss Z Z Z Z) (nt ?_))))))
 refine wc Z hm11 (fun h13 hm14 => ?_) (fun h13 hm35 => ?_) <;> clear hm11
 ·skip
  refine sk (WQ.then (WC.seq (WC.block (WC.region (wm Z (WL.effect Z ?_))))))
  refine (EV.buildSlice0 (by decide) sz_33 (fun b15 => ?_))
  refine wm Z (wm Z ?_)
  obtain ⟨c16, hm17⟩ := cs hm14; clear hm14
  obtain ⟨p18, u20, hp19, hc21, hA22⟩ := h_l.ix c16
  refine wq Z (QV.indexSlice sl32 Z Z Z Z hp19) (wl pl33 Z (fun w hw => CellsAt.one 0 ((Own.kcells 2 Z hk hc21) w hw) Z) (WL.effect Z ?_))
  refine EV.of (fun w hw => hw.blkVec icell ([] : List Int) Z icell_len (nl Z)) ?_
  obtain ⟨c23, c28, c33, hm34⟩ := cs3 hm17; clear hm17
  refine (EV.appendL (enc := icell) (xs := []) (ys := (ele l i4_1)) (([] ++ (ele l i4_1))) 0 (by decide) ve33 Z Z Z Z Z (Own.karr 2 Z hk hA22) icell_len (icell_one _) Z c23.1 c23.2 (fun u25 hu26 => ?_))
  refine WL.effect Z ?_
  refine (EV.buildSlice (by decide) sz_32 (by decide) (by decide) (ps := [(0, .tmp 17)]) (cells := [u25]) (ec Z eN) (filled1 hu26) (fun b27 => ?_))
  refine WL.effect Z ?_
  refine EV.of (C' := Own M w [grid uv1_1 hsv1_1 33 2 v1_1, vec u25 2 1 (List.map icell ([] ++ (ele l i4_1))), blk b27 [u25] 33, kn M w.heap.size K0 K0]) (pk [2, 1, 0, 3]) ?_
  refine (EV.appendG (by decide) ve32 Z Z Z Z hu26 (Own.blkArr 2 (rows := [[u25]]) Z Z (rows_one)) c28 hgv1_1 (fun u30 hu31 => ?_))
  have hg32 := hgv1_1.snoc hu26
  refine wa Z (WL.nil (WQ.block (WQ.then (WC.region (wm Z (wq Z (QV.add Z Z Z Z c33) (wa Z (WL.nil ?_))))))))
  exact WQ.again4 (v1_1 ++ [([] ++ (ele l i4_1))]) (i4_1 + 1) u30 (hsv1_1 ++ [u25]) m9 ⟨up_next hm34 hn12, hu31, hg32⟩ (Nat.lt_succ_self _) ⟨Z, Z, Z, trivial⟩ (pk [0, 2])
 refine WC.exit (te (te (WQ.block_exit ?_)))
 exact WQ.out4 v1_1 i4_1 uv1_1 hsv1_1 ⟨up_brk hm35 hn12, hlv1_1, hgv1_1⟩ ⟨Z, Z, Z, trivial⟩ (pk [0, 1])
theorem R3_Play_w {v_l_logs v_l_body v_l_outs v_s_bef v_s_mem : Value} {l : Lp} {s : Sta} {turns : Int} {r : Rst} {K0 : World} (hm : R3_Play_m l s turns = some r) (h_l_logs : Arr K0 v_l_logs 1 (l.logs.map icell)) (h_l_body : Arr K0 v_l_body 9 (l.body.map Stm.cells)) (h_l_outs : Arr K0 v_l_outs 1 (l.outs.map icell)) (h_s_bef : RowsA K0 v_s_bef s.bef) (h_s_mem : RowsA K0 v_s_mem s.mem) (M : Nat → Prop) (w : World) (hk : Base M K0 w) (hw0 : Own M w [] w) : Calls Try.prog 51 #[.agg #[v_l_logs, v_l_body, v_l_outs], .agg #[v_s_bef, v_s_mem], .int .i64 turns] w (fun e w' => ∃ X : Value × Value × World, e = .returned (.agg #[X.1, X.2.1]) ∧ Own M w (kn M w.heap.size K0 X.2.2 :: []) w' ∧ Arr X.2.2 X.1 1 (r.outs.map icell) ∧ RowsA X.2.2 X.2.1 r.mem) := by
 unfold R3_Play_m at hm
 refine calls_of_WC (n := 198) (args := [.agg #[v_l_logs, v_l_body, v_l_outs], .agg #[v_s_bef, v_s_mem], i_ turns]) Try.func51 Z Z (nl Z) ?_ (Own.startK hk hw0)
 refine sr (WL.effect Z ?_)
 refine (EV.boxAgg (by decide) Z Z (fun b1 => ?_))
 refine WL.effect Z ?_
 refine (EV.boxAgg (by decide) Z Z (fun b2 => ?_))
 refine WL.effect Z ?_
 refine (EV.alloc (by decide) ze59 (fun b3 => ?_))
 refine ns (wf fd50_1 Z (wl pl32 Z (Own.cell 1 Z Z) (WL.effect Z ?_)))
 obtain ⟨x4, hx5, hm6⟩ := bd_some hm; clear hm
 refine EV.of (C' := Own M w [kn M w.heap.size K0 K0, blk b3 [.slice none 0 0, .slice none 0 0] 59, blk b2 [v_s_bef, v_s_mem] 50, blk b1 [v_l_logs, v_l_body, v_l_outs] 25]) (pk [3, 0, 1, 2]) ?_
 refine (EV.callR (X := Value × (List Value) × World) (R := []) (fun X => X.1) (fun X => [grid X.1 X.2.1 33 2 x4]) (fun X => X.2.2) (fun X => SliceLen X.1 (x4).length ∧ GL X.2.1 x4) hk (fun _ h => by cases h; decide) en79 (ec Z eN) (fun M w h1 h2 => have h := R3_Copy_w hx5 h_s_mem M w h1 h2; h) (fun X7 hF7 hle7 => ?_))
 refine wa Z (ns (wm Z (WL.effect Z ?_)))
 obtain ⟨c9, c11, hm12⟩ := cs2 hm6; clear hm6
 refine (EV.makeSlice (enc := hcell) nilS (by decide) ve32 ze33 Z Z c9 Z c11 (fun u13 hu14 => ?_))
 refine WK.of (fun w hw => hw.gridRep 2) ?_
 have hg16 := GL.rep turns.toNat
 have hl17 : SliceLen u13 (List.replicate turns.toNat ([] : List Int)).length := by rw [List.length_replicate]; simpa using hu14
 refine wa Z (nt (WC.seq (sr (wa Z (nt ?_)))))
 obtain ⟨o18, ho19, hm20⟩ := bd_some hm12; clear hm12; obtain ⟨n21, ho22⟩ := lp_some ho19
 refine WC.bloop4 (H2 := [kn M w.heap.size K0 X7.2.2, blk b3 [.slice none 0 0, .slice none 0 0] 59, blk b2 [v_s_bef, v_s_mem] 50, blk b1 [v_l_logs, v_l_body, v_l_outs] 25]) (τ := [u_ 2 _, u_ 3 _, u_ 4 _, u_ 6 _, u_ 7 _, u_ 8 _]) (fun (v15_3 : List (List Int)) (r8_3 : List (List Int)) (t9_3 : Int) (hsv15_3 : List Value) => [(9, (true, i_ t9_3))]) (fun v15_3 r8_3 t9_3 hsv15_3 => [grid u13 hsv15_3 33 2 v15_3, grid X7.1 X7.2.1 33 2 r8_3]) (fun v15_3 r8_3 t9_3 hsv15_3 m => iter (R3_Play_L0 l s turns) m (v15_3, r8_3, t9_3) = some o18 ∧ SliceLen u13 v15_3.length ∧ GL hsv15_3 v15_3 ∧ SliceLen X7.1 r8_3.length ∧ GL X7.2.1 r8_3) (fun v15_3 r8_3 t9_3 hsv15_3 => o18 = .go (v15_3, r8_3, t9_3) ∧ SliceLen u13 v15_3.length ∧ GL hsv15_3 v15_3 ∧ SliceLen X7.1 r8_3.length ∧ GL X7.2.1 r8_3) (List.replicate turns.toNat ([] : List Int)) x4 0 (List.replicate turns.toNat nilS) n21 ⟨ho22, hl17, hg16, hF7.1, hF7.2⟩ ⟨Z, Z, Z, Z, Z, Z, Z, trivial⟩ (pk [0, 2, 1, 3, 4, 5]) ?_ ?_
 ·skip
  rintro v15_3 r8_3 t9_3 hsv15_3 ⟨rfl, hlv15_3, hgv15_3, hlr8_3, hgr8_3⟩
  refine WQ.then (sr (wm Z (wq Z (QV.buildS (ps := [(1, .tmp 157)]) (cells := [.slice none 0 0, X7.1]) (css := [[X7.1]]) (ec Z eN) (CellsAll.cons (SliceLen.cells hlr8_3) CellsAll.nil) (by kernel_rfl)) (WL.effect Z ?_))))
  refine (EV.alloc (by decide) ze59 (fun b23 => ?_))
  refine WL.effect Z ?_
  refine (EV.store 0 Z Z Z Z Z Z (vs := [.slice none 0 0, X7.1]) (show Value.cells _ = List.toArray _ from Z) sz59 (nl Z) (oc Z (oc (SliceLen.one hlr8_3) one_nil)) ?_)
  refine nt (WC.seq (sr (wa Z (nt ?_))))
  refine WK.of (fun w hw => hw.vecNil (E := 2) (sz := 1) (enc := icell)) ?_
  obtain ⟨o25, ho26, hm27⟩ := bd_some hm20; clear hm20; obtain ⟨n28, ho29⟩ := lp_some ho26
  refine WC.bloop3 (H2 := [grid u13 hsv15_3 33 2 v15_3, grid X7.1 X7.2.1 33 2 r8_3, kn M w.heap.size K0 X7.2.2, blk b3 [.slice none 0 0, .slice none 0 0] 59, blk b2 [v_s_bef, v_s_mem] 50, blk b1 [v_l_logs, v_l_body, v_l_outs] 25]) (τ := [u_ 2 _, u_ 3 _, u_ 4 _, u_ 6 _, u_ 8 _, u_ 17 _]) (fun (v24_4 : List Int) (i18_4 : Int) (uv24_4 : Value) => [(18, (true, i_ i18_4))]) (fun v24_4 i18_4 uv24_4 => [vec uv24_4 2 1 (List.map icell v24_4), blk b23 [uv24_4, X7.1] 59]) (fun v24_4 i18_4 uv24_4 m => iter (R3_Play_L5 l s turns v15_3) m (v24_4, i18_4) = some o25 ∧ SliceLen uv24_4 v24_4.length) (fun v24_4 i18_4 uv24_4 => o25 = .go (v24_4, i18_4) ∧ SliceLen uv24_4 v24_4.length) [] 0 (.slice none 0 0) n28 ⟨ho29, SliceLen.nil⟩ ⟨Z, Z, Z, Z, Z, Z, Z, trivial⟩ (pk [0, 1, 2, 3, 4, 5, 6, 7]) ?_ ?_
  ·skip
   rintro v24_4 i18_4 uv24_4 ⟨rfl, hlv24_4⟩
   refine WQ.then (sr (wq Z (QV.loadAgg ag59 Z Z Z (Own.cellsBlk 1 Z)) (WL.effect Z ?_)))
   refine (EV.store 5 Z Z Z Z Z Z (vs := [uv24_4, X7.1]) (show Value.cells _ = List.toArray _ from Z) sz59 (nl Z) (oc (SliceLen.one hlv24_4) (oc (SliceLen.one hlr8_3) one_nil)) ?_)
   refine nt (WC.ret ?_)
   obtain rfl := (eq_of_some hm27).symm
   refine WK.of (C' := Own M w [kn M w.heap.size K0 X7.2.2, vec uv24_4 2 1 (List.map icell v24_4), blk b23 [uv24_4, X7.1] 59, grid u13 hsv15_3 33 2 v15_3, grid X7.1 X7.2.1 33 2 r8_3, blk b3 [uv24_4, X7.1] 59, blk b2 [v_s_bef, v_s_mem] 50, blk b1 [v_l_logs, v_l_body, v_l_outs] 25]) (pk [4, 0, 1, 2, 3, 5, 6, 7]) ?_
   refine WK.freeze hk (fun k30 hle30 hr30 => ?_)
   have hA30 := vec_arr hr30
   refine WK.of (C' := Own M w [kn M w.heap.size K0 k30, grid X7.1 X7.2.1 33 2 r8_3, blk b23 [uv24_4, X7.1] 59, grid u13 hsv15_3 33 2 v15_3, blk b3 [uv24_4, X7.1] 59, blk b2 [v_s_bef, v_s_mem] 50, blk b1 [v_l_logs, v_l_body, v_l_outs] 25]) (pk [0, 3, 1, 2, 4, 5, 6]) ?_
   refine WK.freeze hk (fun k31 hle31 hr31 => ?_)
   have hA31 := grid_rows hr31
   refine WQ.retCell Z ag59 Z Z (Own.cellsBlk 3 Z) (fun w hw => ?_)
   exact ⟨(uv24_4, X7.1, k31), Z, hw.pick [0] (by decide), (hA30.le hle31), hA31⟩
  rintro v24_4 i18_4 uv24_4 m32 ⟨hI33, hlv24_4⟩
  obtain ⟨m34, s35, rfl, hm36, hn37⟩ := iter_step hI33; clear hI33; unfold R3_Play_L5 at hm36; simp only at hm36
  refine WC.seq (sr (wm Z (wf fd25_2 Z (wl pl22 Z (Own.cell 7 Z Z) (wq Z (QV.lenS Try.underlying22 Z Z (h_l_outs.le hle7).lenMap) (wq Z (QV.lss Z Z Z Z) (nt ?_)))))))
  refine wc Z hm36 (fun h38 hm39 => ?_) (fun h38 hm86 => ?_) <;> clear hm36
  ·skip
   refine sk (WQ.then (WC.seq (WC.block (WC.seq (WC.dr (m := 12) (S := Own M w [kn M w.heap.size K0 X7.2.2, vec uv24_4 2 1 (List.map icell v24_4), blk b23 [uv24_4, X7.1] 59, grid u13 hsv15_3 33 2 v15_3, grid X7.1 X7.2.1 33 2 r8_3, blk b3 [.slice none 0 0, .slice none 0 0] 59, blk b2 [v_s_bef, v_s_mem] 50, blk b1 [v_l_logs, v_l_body, v_l_outs] 25]) (by kernel_rfl) (by kernel_rfl) (pk [4, 0, 1, 2, 3, 5, 6, 7]) (zf 0 fd50_0 Z Z (zl 1 pl32 Z Z (Own.cell 6 Z Z) (zf 2 fd25_2 Z Z (zl 3 pl22 Z Z (Own.cell 7 Z Z) (zm 4 Z Z ?_))))))))))
   obtain ⟨c40, hm41⟩ := cs hm39; clear hm39
   obtain ⟨p42, hp43⟩ := (h_l_outs.le hle7).lenMap.ix (sz := 1) ln_len c40
   refine wz 5 Z Z (QV.indexSlice sl22 Z Z Z Z hp43) (zl 6 pl3 Z Z (fun w hw => CellsAt.one 0 (((Own.karr 0 Z hk (h_l_outs.le hle7)) w hw).ele hp43 c40) Z) ?_)
   obtain ⟨c44, hm45⟩ := cs hm41; clear hm41
   obtain ⟨p46, u48, hp47, hc49, hA50⟩ := (h_s_bef.le hle7).ix c44
   refine wz 7 Z Z (QV.indexSlice sl32 Z Z Z Z hp47) (zl 8 pl33 Z Z (fun w hw => CellsAt.one 0 ((Own.kcells 0 Z hk hc49) w hw) Z) ?_)
   obtain ⟨c51, hm52⟩ := cs hm45; clear hm45
   obtain ⟨p53, hp54⟩ := hA50.lenMap.ix (sz := 1) ln_len c51
   refine wz 9 Z Z (QV.indexSlice sl33 Z Z Z Z hp54) (zl 10 pl2 Z Z (fun w hw => CellsAt.one 0 (((Own.karr 0 Z hk hA50) w hw).ele hp54 c51) Z) (wz 11 Z Z (QV.assign Z Z) ?_))
   refine WD.e (by kernel_rfl) ?_
   refine WQ.then (WC.seq (sr (wm Z (wq Z (QV.gtr Z Z Z Z) (nt ?_)))))
   refine wc Z hm52 (fun h55 hm56 => ?_) (fun h55 hm78 => ?_) <;> clear hm52
   ·skip
    refine WC.dr (m := 13) (S := Own M w [kn M w.heap.size K0 X7.2.2, vec uv24_4 2 1 (List.map icell v24_4), blk b23 [uv24_4, X7.1] 59, grid u13 hsv15_3 33 2 v15_3, grid X7.1 X7.2.1 33 2 r8_3, blk b3 [.slice none 0 0, .slice none 0 0] 59, blk b2 [v_s_bef, v_s_mem] 50, blk b1 [v_l_logs, v_l_body, v_l_outs] 25]) (by kernel_rfl) (by kernel_rfl) (pk [4, 0, 1, 2, 3, 5, 6, 7]) (zm 0 Z Z (zm 1 Z Z ?_))
    obtain ⟨c57, c59, hm60⟩ := cs2 hm56; clear hm56
    refine wz 2 Z Z (QV.sub Z Z Z Z c57) ?_
    obtain ⟨p61, hp62⟩ := hlv15_3.ix (sz := 1) ln_len c59
    refine wz 3 Z Z (QV.indexSlice sl32 Z Z Z Z hp62) (zl 4 pl33 Z Z (Own.gridHdr 3 Z hp62 c59) (zf 5 fd25_2 Z Z (zl 6 pl22 Z Z (Own.cell 7 Z Z) (zm 7 Z Z ?_))))
    obtain ⟨c63, hm64⟩ := cs hm60; clear hm60
    obtain ⟨p65, hp66⟩ := (h_l_outs.le hle7).lenMap.ix (sz := 1) ln_len c63
    refine wz 8 Z Z (QV.indexSlice sl22 Z Z Z Z hp66) (zl 9 pl3 Z Z (fun w hw => CellsAt.one 0 (((Own.karr 0 Z hk (h_l_outs.le hle7)) w hw).ele hp66 c63) Z) ?_)
    obtain ⟨c67, hm68⟩ := cs hm64; clear hm64
    obtain ⟨p69, hp70⟩ := (hgv15_3.ix (turns - 1)).ix (sz := 1) ln_len c67
    refine wz 10 Z Z (QV.indexSlice sl33 Z Z Z Z hp70) (zl 11 pl2 Z Z (fun w hw => CellsAt.one 0 (((Own.gridArr 3 Z c59) w hw).ele hp70 c67) Z) (wz 12 Z Z (QV.assign Z Z) ?_))
    refine WD.e (by kernel_rfl) ?_
    refine WQ.then (WC.region (wf fd59_0 Z (wl pl33 Z (Own.cell 1 Z Z) (wm Z (WL.effect Z ?_)))))
    refine (EV.buildSlice (by decide) sz_33 (by decide) (by decide) (ps := [(0, .tmp 193)]) (cells := [i_ (ele (ele v15_3 (turns - 1)) (ele l.outs i18_4))]) (ec Z eN) (by kernel_rfl) (fun b71 => ?_))
    refine WL.effect Z ?_
    obtain ⟨c72, c76, hm77⟩ := cs2 hm68; clear hm68
    refine (EV.appendL (enc := icell) (xs := v24_4) (ys := [(ele (ele v15_3 (turns - 1)) (ele l.outs i18_4))]) ((v24_4 ++ [(ele (ele v15_3 (turns - 1)) (ele l.outs i18_4))])) 1 (by decide) ve33 Z Z Z Z Z (Own.blkArr 0 (rows := [(ele (ele v15_3 (turns - 1)) (ele l.outs i18_4))].map icell) Z Z (rows_len icell_len)) icell_len (icell_one _) Z c72.1 c72.2 (fun u74 hu75 => ?_))
    refine wf fd59_0 Z (WL.effect Z ?_)
    refine (EV.store 2 Z Z Z Z Z Z (vs := [u74]) (SliceLen.cells hu75) sz33 (nl Z) (oc (SliceLen.one hu75) one_nil) ?_)
    refine WL.nil (WQ.block (WQ.then (WC.region (wm Z (wq Z (QV.add Z Z Z Z c76) (wa Z (WL.nil ?_)))))))
    exact WQ.again3 (v24_4 ++ [(ele (ele v15_3 (turns - 1)) (ele l.outs i18_4))]) (i18_4 + 1) u74 m34 ⟨up_next hm77 hn37, hu75⟩ (Nat.lt_succ_self _) ⟨Z, Z, Z, Z, Z, Z, Z, trivial⟩ (pk [1, 2, 3, 4, 5, 6, 7, 8])
   refine sk (WQ.then (WC.region (wf fd59_0 Z (wl pl33 Z (Own.cell 1 Z Z) (wm Z (WL.effect Z ?_))))))
   refine (EV.buildSlice (by decide) sz_33 (by decide) (by decide) (ps := [(0, .tmp 193)]) (cells := [i_ (ele (ele s.bef (ele l.outs i18_4)) 0)]) (ec Z eN) (by kernel_rfl) (fun b79 => ?_))
   refine WL.effect Z ?_
   obtain ⟨c80, c84, hm85⟩ := cs2 hm78; clear hm78
   refine (EV.appendL (enc := icell) (xs := v24_4) (ys := [(ele (ele s.bef (ele l.outs i18_4)) 0)]) ((v24_4 ++ [(ele (ele s.bef (ele l.outs i18_4)) 0)])) 1 (by decide) ve33 Z Z Z Z Z (Own.blkArr 0 (rows := [(ele (ele s.bef (ele l.outs i18_4)) 0)].map icell) Z Z (rows_len icell_len)) icell_len (icell_one _) Z c80.1 c80.2 (fun u82 hu83 => ?_))
   refine wf fd59_0 Z (WL.effect Z ?_)
   refine (EV.store 2 Z Z Z Z Z Z (vs := [u82]) (SliceLen.cells hu83) sz33 (nl Z) (oc (SliceLen.one hu83) one_nil) ?_)
   refine WL.nil (WQ.block (WQ.then (WC.region (wm Z (wq Z (QV.add Z Z Z Z c84) (wa Z (WL.nil ?_)))))))
   exact WQ.again3 (v24_4 ++ [(ele (ele s.bef (ele l.outs i18_4)) 0)]) (i18_4 + 1) u82 m34 ⟨up_next hm85 hn37, hu83⟩ (Nat.lt_succ_self _) ⟨Z, Z, Z, Z, Z, Z, Z, trivial⟩ (pk [1, 2, 3, 4, 5, 6, 7, 8])
  refine WC.exit (te (te (WQ.block_exit ?_)))
  exact WQ.out3 v24_4 i18_4 uv24_4 ⟨up_brk hm86 hn37, hlv24_4⟩ ⟨Z, Z, Z, Z, Z, Z, Z, trivial⟩ (pk [0, 1, 2, 3, 4, 5, 6, 7])
 rintro v15_3 r8_3 t9_3 hsv15_3 m87 ⟨hI88, hlv15_3, hgv15_3, hlr8_3, hgr8_3⟩
 obtain ⟨m89, s90, rfl, hm91, hn92⟩ := iter_step hI88; clear hI88; unfold R3_Play_L0 at hm91; simp only at hm91
 refine WC.seq (sr (wm Z (wm Z (wq Z (QV.lss Z Z Z Z) (nt ?_)))))
 refine wc Z hm91 (fun h93 hm94 => ?_) (fun h93 hm247 => ?_) <;> clear hm91
 ·skip
  refine sk (WQ.then (WC.seq (WC.block (sr (wm Z (wm Z (wf fd25_1 Z (wl pl23 Z (Own.cell 5 Z Z) (wq Z (QV.lenS Try.underlying23 Z Z (h_l_body.le hle7).lenMap) (WL.effect Z ?_))))))))))
  obtain ⟨c95, c97, c102, hm103⟩ := cs3 hm94; clear hm94
  refine (EV.makeSlice (enc := icell) (0 : Int) (by decide) ve33 ze2 Z Z c95 Z c97 (fun u99 hu100 => ?_))
  obtain ⟨p104, hp105⟩ := hlv15_3.ix (sz := 1) ln_len c102
  refine wq Z (QV.indexSlice sl32 Z Z Z Z hp105) (WL.effect Z ?_)
  refine EV.of (C' := Own M w [grid u13 hsv15_3 33 2 v15_3, vec u99 2 1 (List.map icell (List.replicate (ln l.body).toNat (0 : Int))), grid X7.1 X7.2.1 33 2 r8_3, kn M w.heap.size K0 X7.2.2, blk b3 [.slice none 0 0, .slice none 0 0] 59, blk b2 [v_s_bef, v_s_mem] 50, blk b1 [v_l_logs, v_l_body, v_l_outs] 25]) (pk [1, 0, 2, 3, 4, 5, 6]) ?_
  refine (EV.storeRow Z Z Z Z hp105 c102 hu100 sz33 ?_)
  have hg107 := GL.upd hgv15_3 hu100 t9_3
  have hl106 : SliceLen u13 (upd v15_3 t9_3 (List.replicate (ln l.body).toNat (0 : Int))).length := slen_upd hlv15_3
  refine ns (wa Z (nt ?_))
  obtain ⟨o108, ho109, hm110⟩ := bd_some hm103; clear hm103; obtain ⟨n111, ho112⟩ := lp_some ho109
  refine WC.bloop3 (H2 := [kn M w.heap.size K0 X7.2.2, blk b3 [.slice none 0 0, .slice none 0 0] 59, blk b2 [v_s_bef, v_s_mem] 50, blk b1 [v_l_logs, v_l_body, v_l_outs] 25]) (τ := [u_ 2 _, u_ 3 _, u_ 4 _, u_ 6 _, u_ 7 _, u_ 8 _, u_ 9 _]) (fun (v15_5 : List (List Int)) (r8_5 : List (List Int)) (k10_5 : Int) => [(10, (true, i_ k10_5))]) (fun v15_5 r8_5 k10_5 => [grid u13 (upd hsv15_3 t9_3 u99) 33 2 v15_5, grid X7.1 X7.2.1 33 2 r8_5]) (fun v15_5 r8_5 k10_5 m => iter (R3_Play_L2 l s t9_3) m (v15_5, r8_5, k10_5) = some o108 ∧ SliceLen u13 v15_5.length ∧ GL (upd hsv15_3 t9_3 u99) v15_5 ∧ SliceLen X7.1 r8_5.length ∧ GL X7.2.1 r8_5) (fun v15_5 r8_5 k10_5 => o108 = .go (v15_5, r8_5, k10_5) ∧ SliceLen u13 v15_5.length ∧ GL (upd hsv15_3 t9_3 u99) v15_5 ∧ SliceLen X7.1 r8_5.length ∧ GL X7.2.1 r8_5) (upd v15_3 t9_3 (List.replicate (ln l.body).toNat (0 : Int))) r8_3 0 n111 ⟨ho112, hl106, hg107, hlr8_3, hgr8_3⟩ ⟨Z, Z, Z, Z, Z, Z, Z, Z, trivial⟩ (pk [0, 1, 2, 3, 4, 5]) ?_ ?_
  ·skip
   rintro v15_5 r8_5 k10_5 ⟨rfl, hlv15_5, hgv15_5, hlr8_5, hgr8_5⟩
   refine WQ.block (WQ.then (WC.region (wm Z ?_)))
   obtain ⟨c113, hm114⟩ := cs hm110; clear hm110
   refine wq Z (QV.add Z Z Z Z c113) (wa Z (WL.nil ?_))
   exact WQ.again4 v15_5 r8_5 (t9_3 + 1) (upd hsv15_3 t9_3 u99) m89 ⟨up_next hm114 hn92, hlv15_5, hgv15_5, hlr8_5, hgr8_5⟩ (Nat.lt_succ_self _) ⟨Z, Z, Z, Z, Z, Z, Z, trivial⟩ (pk [0, 1, 2, 3, 4, 5])
  rintro v15_5 r8_5 k10_5 m115 ⟨hI116, hlv15_5, hgv15_5, hlr8_5, hgr8_5⟩
  obtain ⟨m117, s118, rfl, hm119, hn120⟩ := iter_step hI116; clear hI116; unfold R3_Play_L2 at hm119; simp only at hm119
  refine WC.seq (sr (wm Z (wf fd25_1 Z (wl pl23 Z (Own.cell 5 Z Z) (wq Z (QV.lenS Try.underlying23 Z Z (h_l_body.le hle7).lenMap) (wq Z (QV.lss Z Z Z Z) (nt ?_)))))))
  refine wc Z hm119 (fun h121 hm122 => ?_) (fun h121 hm246 => ?_) <;> clear hm119
  ·skip
   refine sk (WQ.then (WC.seq (WC.block (sr (wf fd25_1 Z (wl pl23 Z (Own.cell 5 Z Z) (wm Z ?_)))))))
   obtain ⟨c123, hm124⟩ := cs hm122; clear hm122
   obtain ⟨p125, hp126⟩ := (h_l_body.le hle7).lenMap.ix (sz := 9) ln_len c123
   refine wq Z (QV.indexSlice sl23 Z Z Z Z hp126) (wq Z (QV.loadAgg ag81 Z Z Z (fun w hw => ((Own.karr 2 Z hk (h_l_body.le hle7)) w hw).ele hp126 c123)) (WL.effect Z ?_))
   refine (EV.alloc (by decide) ze81 (fun b127 => ?_))
   refine WL.effect Z ?_
   refine (EV.store 0 Z Z Z Z Z Z (vs := (Stm.cells (ele l.body k10_5))) (show Value.cells _ = List.toArray _ from Z) sz81 (nl Z) (oc Z (oc Z (oc Z (oc Z (oc Z (oc Z (oc Z (oc Z (oc Z one_nil))))))))) ?_)
   refine ns (wf fd81_0 Z (wl pl3 Z (Own.cell 0 Z Z) (nt (WC.block (sr (wq Z (QV.eql Z Z Z Z) (wa Z (nt ?_))))))))
   refine wc Z hm124 (fun h128 hm129 => ?_) (fun h128 hm142 => ?_) <;> clear hm124
   ·skip
    refine WC.dr (m := 9) (S := Own M w [kn M w.heap.size K0 X7.2.2, blk b127 (Stm.cells (ele l.body k10_5)) 81, grid u13 (upd hsv15_3 t9_3 u99) 33 2 v15_5, grid X7.1 X7.2.1 33 2 r8_5, blk b3 [.slice none 0 0, .slice none 0 0] 59, blk b2 [v_s_bef, v_s_mem] 50, blk b1 [v_l_logs, v_l_body, v_l_outs] 25]) (by kernel_rfl) (by kernel_rfl) (pk [3, 0, 1, 2, 4, 5, 6]) (zm 0 Z Z (zm 1 Z Z ?_))
    obtain ⟨c130, hm131⟩ := cs hm129; clear hm129
    obtain ⟨p132, hp133⟩ := hlv15_5.ix (sz := 1) ln_len c130
    refine wz 2 Z Z (QV.indexSlice sl32 Z Z Z Z hp133) (zl 3 pl33 Z Z (Own.gridHdr 2 Z hp133 c130) (zm 4 Z Z (zf 5 fd81_6 Z Z (zl 6 pl2 Z Z (Own.cell 1 Z Z) ?_))))
    obtain ⟨c134, hm135⟩ := cs hm131; clear hm131
    obtain ⟨p136, hp137⟩ := (hgv15_5.ix t9_3).ix (sz := 1) ln_len c134
    refine wz 7 Z Z (QV.indexSlice sl33 Z Z Z Z hp137) ?_
    refine WD.l 8 Z (by kernel_rfl) Z ?_
    refine (EV.storeG 1 ((ele l.body k10_5).n) Z Z Z Z Z c130 hp137 sz2 ?_)
    have hg139 := hgv15_5.updG t9_3 k10_5 ((ele l.body k10_5).n)
    have hl138 : SliceLen u13 (updG v15_5 t9_3 k10_5 ((ele l.body k10_5).n)).length := slen_updG hlv15_5
    refine WQ.block (WQ.block (WQ.then (WC.region (wm Z ?_))))
    obtain ⟨c140, hm141⟩ := cs hm135; clear hm135
    refine wq Z (QV.add Z Z Z Z c140) (wa Z (WL.nil ?_))
    exact WQ.again3 (updG v15_5 t9_3 k10_5 ((ele l.body k10_5).n)) r8_5 (k10_5 + 1) m117 ⟨up_next hm141 hn120, hl138, hg139, hlr8_5, hgr8_5⟩ (Nat.lt_succ_self _) ⟨Z, Z, Z, Z, Z, Z, Z, Z, trivial⟩ (pk [1, 2, 3, 4, 5, 6])
   refine sr (wq Z (QV.eql Z Z Z Z) (wa Z (nt ?_)))
   refine wc Z hm142 (fun h143 hm144 => ?_) (fun h143 hm157 => ?_) <;> clear hm142
   ·skip
    refine WC.region (wm Z (wm Z ?_))
    obtain ⟨c145, hm146⟩ := cs hm144; clear hm144
    obtain ⟨p147, hp148⟩ := hlv15_5.ix (sz := 1) ln_len c145
    refine wq Z (QV.indexSlice sl32 Z Z Z Z hp148) (wl pl33 Z (Own.gridHdr 1 Z hp148 c145) (wm Z (wm Z ?_)))
    obtain ⟨c149, hm150⟩ := cs hm146; clear hm146
    obtain ⟨p151, hp152⟩ := (hgv15_5.ix t9_3).ix (sz := 1) ln_len c149
    refine wq Z (QV.indexSlice sl33 Z Z Z Z hp152) (WL.effect Z ?_)
    refine (EV.storeG 1 t9_3 Z Z Z Z Z c145 hp152 sz2 ?_)
    have hg154 := hgv15_5.updG t9_3 k10_5 t9_3
    have hl153 : SliceLen u13 (updG v15_5 t9_3 k10_5 t9_3).length := slen_updG hlv15_5
    refine WL.nil (WQ.block (WQ.block (WQ.then (WC.region (wm Z ?_)))))
    obtain ⟨c155, hm156⟩ := cs hm150; clear hm150
    refine wq Z (QV.add Z Z Z Z c155) (wa Z (WL.nil ?_))
    exact WQ.again3 (updG v15_5 t9_3 k10_5 t9_3) r8_5 (k10_5 + 1) m117 ⟨up_next hm156 hn120, hl153, hg154, hlr8_5, hgr8_5⟩ (Nat.lt_succ_self _) ⟨Z, Z, Z, Z, Z, Z, Z, Z, trivial⟩ (pk [1, 2, 3, 4, 5, 6])
   refine sr (wq Z (QV.eql Z Z Z Z) (wa Z (nt ?_)))
   refine wc Z hm157 (fun h158 hm159 => ?_) (fun h158 hm187 => ?_) <;> clear hm157
   ·skip
    refine WC.seq (WC.dr (m := 13) (S := Own M w [kn M w.heap.size K0 X7.2.2, blk b127 (Stm.cells (ele l.body k10_5)) 81, grid u13 (upd hsv15_3 t9_3 u99) 33 2 v15_5, grid X7.1 X7.2.1 33 2 r8_5, blk b3 [.slice none 0 0, .slice none 0 0] 59, blk b2 [v_s_bef, v_s_mem] 50, blk b1 [v_l_logs, v_l_body, v_l_outs] 25]) (by kernel_rfl) (by kernel_rfl) (pk [3, 0, 1, 2, 4, 5, 6]) (zf 0 fd81_4 Z Z (zl 1 pl3 Z Z (Own.cell 1 Z Z) (zf 2 fd81_5 Z Z (zl 3 pl3 Z Z (Own.cell 1 Z Z) (zm 4 Z Z (zf 5 fd25_0 Z Z (zl 6 pl22 Z Z (Own.cell 6 Z Z) (zf 7 fd81_3 Z Z ?_)))))))))
    refine zl 8 pl3 Z Z (Own.cell 1 Z Z) ?_
    obtain ⟨c160, hm161⟩ := cs hm159; clear hm159
    obtain ⟨p162, hp163⟩ := (h_l_logs.le hle7).lenMap.ix (sz := 1) ln_len c160
    refine wz 9 Z Z (QV.indexSlice sl22 Z Z Z Z hp163) (zl 10 pl3 Z Z (fun w hw => CellsAt.one 0 (((Own.karr 0 Z hk (h_l_logs.le hle7)) w hw).ele hp163 c160) Z) ?_)
    obtain ⟨x164, hx165, hm166⟩ := bd_some hm161; clear hm161
    refine wz 11 Z Z (QV.call en81 (ec Z (ec Z (ec Z (ec Z eN)))) (fun w hw => have h := R1_Index_w w hx165 ; h)) (wz 12 Z Z (QV.assign Z Z) ?_)
    refine WD.e (by kernel_rfl) ?_
    refine WQ.then (WC.dr (m := 15) (S := Own M w [kn M w.heap.size K0 X7.2.2, blk b127 (Stm.cells (ele l.body k10_5)) 81, grid u13 (upd hsv15_3 t9_3 u99) 33 2 v15_5, grid X7.1 X7.2.1 33 2 r8_5, blk b3 [.slice none 0 0, .slice none 0 0] 59, blk b2 [v_s_bef, v_s_mem] 50, blk b1 [v_l_logs, v_l_body, v_l_outs] 25]) (by kernel_rfl) (by kernel_rfl) (pk [3, 0, 1, 2, 4, 5, 6]) (zm 0 Z Z (zm 1 Z Z ?_)))
    obtain ⟨c167, hm168⟩ := cs hm166; clear hm166
    obtain ⟨p169, hp170⟩ := hlv15_5.ix (sz := 1) ln_len c167
    refine wz 2 Z Z (QV.indexSlice sl32 Z Z Z Z hp170) (zl 3 pl33 Z Z (Own.gridHdr 2 Z hp170 c167) (zm 4 Z Z (zm 5 Z Z (zf 6 fd81_3 Z Z (zl 7 pl3 Z Z (Own.cell 1 Z Z) ?_)))))
    obtain ⟨c171, hm172⟩ := cs hm168; clear hm168
    obtain ⟨p173, hp174⟩ := hlr8_5.ix (sz := 1) ln_len c171
    refine wz 8 Z Z (QV.indexSlice sl32 Z Z Z Z hp174) (zl 9 pl33 Z Z (Own.gridHdr 3 Z hp174 c171) (zm 10 Z Z ?_))
    obtain ⟨c175, hm176⟩ := cs hm172; clear hm172
    obtain ⟨p177, hp178⟩ := (hgr8_5.ix ((ele l.body k10_5).ar)).ix (sz := 1) ln_len c175
    refine wz 11 Z Z (QV.indexSlice sl33 Z Z Z Z hp178) (zl 12 pl2 Z Z (fun w hw => CellsAt.one 0 (((Own.gridArr 3 Z c171) w hw).ele hp178 c175) Z) ?_)
    obtain ⟨c179, hm180⟩ := cs hm176; clear hm176
    obtain ⟨p181, hp182⟩ := (hgv15_5.ix t9_3).ix (sz := 1) ln_len c179
    refine wz 13 Z Z (QV.indexSlice sl33 Z Z Z Z hp182) ?_
    refine WD.l 14 Z (by kernel_rfl) Z ?_
    refine (EV.storeG 1 (ele (ele r8_5 ((ele l.body k10_5).ar)) x164) Z Z Z Z Z c167 hp182 sz2 ?_)
    have hg184 := hgv15_5.updG t9_3 k10_5 (ele (ele r8_5 ((ele l.body k10_5).ar)) x164)
    have hl183 : SliceLen u13 (updG v15_5 t9_3 k10_5 (ele (ele r8_5 ((ele l.body k10_5).ar)) x164)).length := slen_updG hlv15_5
    refine WQ.block (WQ.block (WQ.then (WC.region (wm Z ?_))))
    obtain ⟨c185, hm186⟩ := cs hm180; clear hm180
    refine wq Z (QV.add Z Z Z Z c185) (wa Z (WL.nil ?_))
    exact WQ.again3 (updG v15_5 t9_3 k10_5 (ele (ele r8_5 ((ele l.body k10_5).ar)) x164)) r8_5 (k10_5 + 1) m117 ⟨up_next hm186 hn120, hl183, hg184, hlr8_5, hgr8_5⟩ (Nat.lt_succ_self _) ⟨Z, Z, Z, Z, Z, Z, Z, Z, trivial⟩ (pk [1, 2, 3, 4, 5, 6])
   refine sr (wq Z (QV.eql Z Z Z Z) (wa Z (nt ?_)))
   refine wc Z hm187 (fun h188 hm189 => ?_) (fun h188 hm222 => ?_) <;> clear hm187
   ·skip
    refine WC.seq (WC.dr (m := 13) (S := Own M w [kn M w.heap.size K0 X7.2.2, blk b127 (Stm.cells (ele l.body k10_5)) 81, grid u13 (upd hsv15_3 t9_3 u99) 33 2 v15_5, grid X7.1 X7.2.1 33 2 r8_5, blk b3 [.slice none 0 0, .slice none 0 0] 59, blk b2 [v_s_bef, v_s_mem] 50, blk b1 [v_l_logs, v_l_body, v_l_outs] 25]) (by kernel_rfl) (by kernel_rfl) (pk [3, 0, 1, 2, 4, 5, 6]) (zf 0 fd81_4 Z Z (zl 1 pl3 Z Z (Own.cell 1 Z Z) (zf 2 fd81_5 Z Z (zl 3 pl3 Z Z (Own.cell 1 Z Z) (zm 4 Z Z (zf 5 fd25_0 Z Z (zl 6 pl22 Z Z (Own.cell 6 Z Z) (zf 7 fd81_3 Z Z ?_)))))))))
    refine zl 8 pl3 Z Z (Own.cell 1 Z Z) ?_
    obtain ⟨c190, hm191⟩ := cs hm189; clear hm189
    obtain ⟨p192, hp193⟩ := (h_l_logs.le hle7).lenMap.ix (sz := 1) ln_len c190
    refine wz 9 Z Z (QV.indexSlice sl22 Z Z Z Z hp193) (zl 10 pl3 Z Z (fun w hw => CellsAt.one 0 (((Own.karr 0 Z hk (h_l_logs.le hle7)) w hw).ele hp193 c190) Z) ?_)
    obtain ⟨x194, hx195, hm196⟩ := bd_some hm191; clear hm191
    refine wz 11 Z Z (QV.call en81 (ec Z (ec Z (ec Z (ec Z eN)))) (fun w hw => have h := R1_Index_w w hx195 ; h)) (wz 12 Z Z (QV.assign Z Z) ?_)
    refine WD.e (by kernel_rfl) ?_
    refine WQ.then (sr (wq Z (QV.loadAgg ag50 Z Z Z (Own.cellsBlk 5 Z)) (wm Z (wf fd81_1 Z (wq Z (QV.loadAgg ag79 Z Z Z (fun w hw => (Own.cellsBlk 0 Z w hw).sub 1 2 Z)) (wm Z ?_))))))
    obtain ⟨x197, hx198, hm199⟩ := bd_some hm196; clear hm196
    refine wq Z (QV.call en83 (ec Z (ec Z (ec Z (ec Z eN)))) (fun w hw => have h := R3_is_w w hx198 (Own.krows 3 Z hk (h_s_bef.le hle7) w hw) (Own.krows 3 Z hk (h_s_mem.le hle7) w hw) (Own.gridRows 1 Z w hw); h)) (wa Z (ns (wm Z (wf fd81_3 Z (wl pl3 Z (Own.cell 0 Z Z) ?_)))))
    obtain ⟨c200, hm201⟩ := cs hm199; clear hm199
    obtain ⟨p202, hp203⟩ := hlr8_5.ix (sz := 1) ln_len c200
    refine wq Z (QV.indexSlice sl32 Z Z Z Z hp203) (wl pl33 Z (Own.gridHdr 2 Z hp203 c200) (wm Z (wm Z ?_)))
    obtain ⟨c204, hm205⟩ := cs hm201; clear hm201
    obtain ⟨p206, hp207⟩ := (hgr8_5.ix ((ele l.body k10_5).ar)).ix (sz := 1) ln_len c204
    refine wq Z (QV.indexSlice sl33 Z Z Z Z hp207) (WL.effect Z ?_)
    refine (EV.storeG 2 x197 Z Z Z Z Z c200 hp207 sz2 ?_)
    have hg209 := hgr8_5.updG ((ele l.body k10_5).ar) x194 x197
    have hl208 : SliceLen X7.1 (updG r8_5 ((ele l.body k10_5).ar) x194 x197).length := slen_updG hlr8_5
    refine nr (wm Z (wm Z ?_))
    obtain ⟨c210, hm211⟩ := cs hm205; clear hm205
    obtain ⟨p212, hp213⟩ := hlv15_5.ix (sz := 1) ln_len c210
    refine wq Z (QV.indexSlice sl32 Z Z Z Z hp213) (wl pl33 Z (Own.gridHdr 1 Z hp213 c210) (wm Z (wm Z ?_)))
    obtain ⟨c214, hm215⟩ := cs hm211; clear hm211
    obtain ⟨p216, hp217⟩ := (hgv15_5.ix t9_3).ix (sz := 1) ln_len c214
    refine wq Z (QV.indexSlice sl33 Z Z Z Z hp217) (WL.effect Z ?_)
    refine (EV.storeG 1 x197 Z Z Z Z Z c210 hp217 sz2 ?_)
    have hg219 := hgv15_5.updG t9_3 k10_5 x197
    have hl218 : SliceLen u13 (updG v15_5 t9_3 k10_5 x197).length := slen_updG hlv15_5
    refine WL.nil (WQ.block (WQ.block (WQ.then (WC.region (wm Z ?_)))))
    obtain ⟨c220, hm221⟩ := cs hm215; clear hm215
    refine wq Z (QV.add Z Z Z Z c220) (wa Z (WL.nil ?_))
    exact WQ.again3 (updG v15_5 t9_3 k10_5 x197) (updG r8_5 ((ele l.body k10_5).ar) x194 x197) (k10_5 + 1) m117 ⟨up_next hm221 hn120, hl218, hg219, hl208, hg209⟩ (Nat.lt_succ_self _) ⟨Z, Z, Z, Z, Z, Z, Z, Z, trivial⟩ (pk [1, 2, 3, 4, 5, 6])
   refine sr (wq Z (QV.loadAgg ag50 Z Z Z (Own.cellsBlk 5 Z)) (wm Z (wf fd81_1 Z (wq Z (QV.loadAgg ag79 Z Z Z (fun w hw => (Own.cellsBlk 0 Z w hw).sub 1 2 Z)) (wm Z ?_)))))
   obtain ⟨x223, hx224, hm225⟩ := bd_some hm222; clear hm222
   refine wq Z (QV.call en83 (ec Z (ec Z (ec Z (ec Z eN)))) (fun w hw => have h := R3_is_w w hx224 (Own.krows 3 Z hk (h_s_bef.le hle7) w hw) (Own.krows 3 Z hk (h_s_mem.le hle7) w hw) (Own.gridRows 1 Z w hw); h)) (wa Z (ns (wq Z (QV.loadAgg ag50 Z Z Z (Own.cellsBlk 5 Z)) (wm Z (wf fd81_2 Z (wq Z (QV.loadAgg ag79 Z Z Z (fun w hw => (Own.cellsBlk 0 Z w hw).sub 3 2 Z)) (wm Z ?_)))))))
   obtain ⟨x226, hx227, hm228⟩ := bd_some hm225; clear hm225
   refine wq Z (QV.call en83 (ec Z (ec Z (ec Z (ec Z eN)))) (fun w hw => have h := R3_is_w w hx227 (Own.krows 3 Z hk (h_s_bef.le hle7) w hw) (Own.krows 3 Z hk (h_s_mem.le hle7) w hw) (Own.gridRows 1 Z w hw); h)) (wa Z (nt (WC.dr (m := 13) (S := Own M w [kn M w.heap.size K0 X7.2.2, blk b127 (Stm.cells (ele l.body k10_5)) 81, grid u13 (upd hsv15_3 t9_3 u99) 33 2 v15_5, grid X7.1 X7.2.1 33 2 r8_5, blk b3 [.slice none 0 0, .slice none 0 0] 59, blk b2 [v_s_bef, v_s_mem] 50, blk b1 [v_l_logs, v_l_body, v_l_outs] 25]) (by kernel_rfl) (by kernel_rfl) (pk [3, 0, 1, 2, 4, 5, 6]) (zm 0 Z Z (zm 1 Z Z ?_)))))
   obtain ⟨c229, hm230⟩ := cs hm228; clear hm228
   obtain ⟨p231, hp232⟩ := hlv15_5.ix (sz := 1) ln_len c229
   refine wz 2 Z Z (QV.indexSlice sl32 Z Z Z Z hp232) (zl 3 pl33 Z Z (Own.gridHdr 2 Z hp232 c229) (zm 4 Z Z (zf 5 fd81_0 Z Z (zl 6 pl3 Z Z (Own.cell 1 Z Z) ?_))))
   obtain ⟨c233, hm234⟩ := cs hm230; clear hm230
   refine wz 7 Z Z (QV.sub Z Z Z Z c233) (zm 8 Z Z (zm 9 Z Z ?_))
   obtain ⟨x235, hx236, hm237⟩ := bd_some hm234; clear hm234
   refine wz 10 Z Z (QV.call en82 (ec Z (ec Z (ec Z eN))) (fun w hw => have h := R1_Op_w w hx236 ; h)) ?_
   obtain ⟨c238, hm239⟩ := cs hm237; clear hm237
   obtain ⟨p240, hp241⟩ := (hgv15_5.ix t9_3).ix (sz := 1) ln_len c238
   refine wz 11 Z Z (QV.indexSlice sl33 Z Z Z Z hp241) ?_
   refine WD.l 12 Z (by kernel_rfl) Z ?_
   refine (EV.storeG 1 x235 Z Z Z Z Z c229 hp241 sz2 ?_)
   have hg243 := hgv15_5.updG t9_3 k10_5 x235
   have hl242 : SliceLen u13 (updG v15_5 t9_3 k10_5 x235).length := slen_updG hlv15_5
   refine WQ.block (WQ.block (WQ.then (WC.region (wm Z ?_))))
   obtain ⟨c244, hm245⟩ := cs hm239; clear hm239
   refine wq Z (QV.add Z Z Z Z c244) (wa Z (WL.nil ?_))
   exact WQ.again3 (updG v15_5 t9_3 k10_5 x235) r8_5 (k10_5 + 1) m117 ⟨up_next hm245 hn120, hl242, hg243, hlr8_5, hgr8_5⟩ (Nat.lt_succ_self _) ⟨Z, Z, Z, Z, Z, Z, Z, Z, trivial⟩ (pk [1, 2, 3, 4, 5, 6])
  refine WC.exit (te (te (WQ.block_exit ?_)))
  exact WQ.out3 v15_5 r8_5 k10_5 ⟨up_brk hm246 hn120, hlv15_5, hgv15_5, hlr8_5, hgr8_5⟩ ⟨Z, Z, Z, Z, Z, Z, Z, Z, trivial⟩ (pk [0, 1, 2, 3, 4, 5])
 refine WC.exit (te (te (WQ.block_exit ?_)))
 exact WQ.out4 v15_3 r8_3 t9_3 hsv15_3 ⟨up_brk hm247 hn92, hlv15_3, hgv15_3, hlr8_3, hgr8_3⟩ ⟨Z, Z, Z, Z, Z, Z, Z, trivial⟩ (pk [0, 1, 2, 3, 4, 5])
end Go.Proofs.Ytaimbkndebaaiac
end
section
namespace Go.Proofs.Ytaimbkndebaaiac
open Go.Rd
open TNum TLoop TKern TKeep TOrd TCpt TDep TSched1 TEmit TCheck TRegs TBound TMake TBuild TRDep TR10 TR10b TClone TNbr TSeq
namespace TR5b
theorem ag138 : AggT Try.prog 138 3 := ⟨_, Try.underlying138, rfl, by kernel_rfl⟩
theorem en80 : Go.Rd.Enters Try.prog 80 := eT Try.func80
theorem fd138_0 : FieldT Try.prog 138 0 0 := fT 0 Try.underlying138
theorem fd138_1 : FieldT Try.prog 138 1 1 := fT 0 Try.underlying138
theorem fd138_2 : FieldT Try.prog 138 2 2 := fT 0 Try.underlying138
theorem sl136 : SliceT Try.prog 136 138 3 := ⟨Try.underlying136, by kernel_rfl⟩
theorem sz_136 : SliceZ Try.prog 136 138 3 [.int .i64 0, .int .i64 0, .int .i64 0] := ⟨Try.underlying136, by kernel_rfl⟩
theorem ve136 : VecT Try.prog 136 138 3 24 := ⟨Try.underlying136, by kernel_rfl, by decide⟩
end TR5b
open TR5b
theorem R5_Logs_w {v_m_ : Value} {m_ : List (List Int)} {r : List Int × Bool} {K0 : World} (hm : R5_Logs_m m_ = some r) (h_m_ : RowsA K0 v_m_ m_) (M : Nat → Prop) (w : World) (hk : Base M K0 w) (hw0 : Own M w [] w) : Calls Try.prog 80 #[v_m_] w (fun e w' => ∃ X : Value × World, e = .returned (.tuple #[X.1, .bool r.2]) ∧ Own M w (kn M w.heap.size K0 X.2 :: []) w' ∧ Arr X.2 X.1 1 (r.1.map icell)) := by
 unfold R5_Logs_m at hm
 refine calls_of_WC (n := 34) (args := [v_m_]) Try.func80 Z Z (nl Z) ?_ (Own.startK hk hw0)
 refine sr (wa Z (wa Z (ns (wa Z (nt (WC.seq (sr (wa Z (nt ?_)))))))))
 refine WK.of (fun w hw => hw.vecNil (E := 3) (sz := 1) (enc := icell)) ?_
 obtain ⟨o2, ho3, hm4⟩ := bd_some hm; clear hm; obtain ⟨n5, ho6⟩ := lp_some ho3
 refine WC.bloop3 (H2 := [kn M w.heap.size K0 K0]) (τ := [u_ 0 _]) (fun (v1_4 : List Int) (i5_4 : Int) (uv1_4 : Value) => [(4, (true, uv1_4)), (5, (true, i_ i5_4))]) (fun v1_4 i5_4 uv1_4 => [vec uv1_4 3 1 (List.map icell v1_4)]) (fun v1_4 i5_4 uv1_4 m => iter (R5_Logs_L0 m_) m (v1_4, i5_4) = some o2 ∧ SliceLen uv1_4 v1_4.length) (fun v1_4 i5_4 uv1_4 => o2 = .go (v1_4, i5_4) ∧ SliceLen uv1_4 v1_4.length) [] 0 (.slice none 0 0) n5 ⟨ho6, SliceLen.nil⟩ ⟨Z, Z, Z, trivial⟩ (pk [0, 1]) ?_ ?_
 ·skip
  rintro v1_4 i5_4 uv1_4 ⟨rfl, hlv1_4⟩
  refine WQ.then (sr (wm Z (wa Z (wa Z (nt (WC.ret ?_))))))
  obtain rfl := (eq_of_some hm4).symm
  refine WK.of (C' := Own M w [kn M w.heap.size K0 K0, vec uv1_4 3 1 (List.map icell v1_4)]) (pk [1, 0]) ?_
  refine WK.freeze hk (fun k7 hle7 hr7 => ?_)
  have hA7 := vec_arr hr7
  refine WQ.ret2 Z Z Z (fun w hw => ?_)
  exact ⟨(uv1_4, k7), Z, hw.pick [0] (by decide), hA7⟩
 rintro v1_4 i5_4 uv1_4 m8 ⟨hI9, hlv1_4⟩
 obtain ⟨m10, s11, rfl, hm12, hn13⟩ := iter_step hI9; clear hI9; unfold R5_Logs_L0 at hm12; simp only at hm12
 refine WC.seq (sr (wm Z (wm Z (wq Z (QV.lenS Try.underlying32 Z Z h_m_.slen) (wq Z (QV.lss Z Z Z Z) (nt ?_))))))
 refine wc Z hm12 (fun h14 hm15 => ?_) (fun h14 hm52 => ?_) <;> clear hm12
 ·skip
  refine sk (WQ.then (WC.seq (WC.block (sr (wa Z (nt (WC.seq ?_)))))))
  obtain ⟨o16, ho17, hm18⟩ := bd_some hm15; clear hm15; obtain ⟨n19, ho20⟩ := lp_some ho17
  refine WC.bloop1 (H2 := [vec uv1_4 3 1 (List.map icell v1_4), kn M w.heap.size K0 K0]) (τ := [u_ 0 _, u_ 4 _, u_ 5 _]) (fun (log6_5 : Int) => [(6, (true, i_ log6_5))]) (fun log6_5 => []) (fun log6_5 m => iter (R5_Logs_L2 m_ i5_4) m log6_5 = some o16) (fun log6_5 => o16 = .go log6_5) 0 n19 ho20 ⟨Z, Z, Z, Z, trivial⟩ (pk [0, 1]) ?_ ?_
  ·skip
   rintro log6_5 rfl
   refine WQ.then (WC.seq (sr (wm Z (wq Z (QV.gtr Z Z Z Z) (nt ?_)))))
   refine wc Z hm18 (fun h21 hm22 => ?_) (fun h21 hm23 => ?_) <;> clear hm18
   ·skip
    refine sr (wa Z (wa Z (nt (WC.ret (tr (kr (tr (tr (kr (tr (tr ?_)))))))))))
    obtain rfl := up_ret hm22 hn13
    obtain rfl := (eq_of_some hm4).symm
    refine WQ.ret2 Z Z Z (fun w hw => ?_)
    exact ⟨(.slice none 0 0, K0), Z, hw.pick [1] (by decide), Arr.nil⟩
   refine sk (WQ.then (WC.region (wm Z (wm Z (WL.effect Z ?_)))))
   refine (EV.buildSlice (by decide) sz_22 (by decide) (by decide) (ps := [(0, .tmp 30)]) (cells := [i_ log6_5]) (ec Z eN) (by kernel_rfl) (fun b24 => ?_))
   refine WL.effect Z ?_
   obtain ⟨c25, c29, hm30⟩ := cs2 hm23; clear hm23
   refine (EV.appendL (enc := icell) (xs := v1_4) (ys := [log6_5]) ((v1_4 ++ [log6_5])) 1 (by decide) ve22 Z Z Z Z Z (Own.blkArr 0 (rows := [log6_5].map icell) Z Z (rows_len icell_len)) icell_len (icell_one _) Z c25.1 c25.2 (fun u27 hu28 => ?_))
   refine wa Z (WL.nil (WQ.block (WQ.then (WC.region (wm Z (wq Z (QV.add Z Z Z Z c29) (wa Z (WL.nil ?_))))))))
   exact WQ.again3 (v1_4 ++ [log6_5]) (i5_4 + 1) u27 m10 ⟨up_next hm30 hn13, hu28⟩ (Nat.lt_succ_self _) ⟨Z, Z, Z, trivial⟩ (pk [1, 2])
  rintro log6_5 m31 hI32
  obtain ⟨m33, s34, rfl, hm35, hn36⟩ := iter_step hI32; clear hI32; unfold R5_Logs_L2 at hm35
  refine WC.seq (WC.seq (WC.dr (m := 12) (S := Own M w [kn M w.heap.size K0 K0, vec uv1_4 3 1 (List.map icell v1_4)]) (by kernel_rfl) (by kernel_rfl) (pk [1, 0]) (zm 0 Z Z (wz 1 Z Z (QV.leq Z Z Z Z) (zm 2 Z Z (zp 3 Z Z (fun hG => QV.move Z Z) ?_))))))
  obtain ⟨x37, hx38, hm39⟩ := bdG_some hm35; clear hm35
  refine zp 4 Z Z (fun hG => QV.call en48 (EvAll.cons Z hG eN) (fun w hw => have h := R1_Size_w w (hx38 hG) ; h)) (zp 5 Z Z (fun hG => QV.move Z Z) (zp 6 Z Z (fun hG => QV.move Z Z) ?_))
  obtain ⟨c40, hm41⟩ := cs hm39; clear hm39
  obtain ⟨p42, u44, hp43, hc45, hA46⟩ := h_m_.ixG c40
  refine zp 7 Z Z (fun hG => QV.indexSlice sl32 Z hG Z hG (hp43 hG)) (zp 8 Z Z (fun hG => QV.load pl33 Z hG (fun w hw => CellsAt.one 0 ((Own.kcells 0 Z hk (hc45 hG)) w hw) Z)) (zp 9 Z Z (fun hG => QV.lenS Try.underlying33 Z hG hA46.lenMap) (zp 10 Z Z (fun hG => QV.neq Z hG Z hG) (wz 11 Z Z (QV.pickAnd Z Z Z (fun h => h)) ?_))))
  refine WD.e (by kernel_rfl) ?_
  refine WQ.then ?_
  refine wc Z hm41 (fun h47 hm48 => ?_) (fun h47 hm51 => ?_) <;> clear hm41
  ·skip
   refine sk (WQ.then (WC.block (WC.region (wm Z ?_))))
   obtain ⟨c49, hm50⟩ := cs hm48; clear hm48
   refine wq Z (QV.add Z Z Z Z c49) (wa Z (WL.nil (WQ.block ?_)))
   exact WQ.again1 (log6_5 + 1) m33 (up_next hm50 hn36) (Nat.lt_succ_self _) ⟨Z, Z, Z, Z, trivial⟩ (pk [0, 1])
  refine WC.exit (te (te (WQ.block_exit ?_)))
  exact WQ.out1 log6_5 (up_brk hm51 hn36) ⟨Z, Z, Z, Z, trivial⟩ (pk [0, 1])
 refine WC.exit (te (te (WQ.block_exit ?_)))
 exact WQ.out3 v1_4 i5_4 uv1_4 ⟨up_brk hm52 hn13, hlv1_4⟩ ⟨Z, Z, Z, trivial⟩ (pk [0, 1])
theorem R5_Play_w {v_k__ops v_regs v_memory : Value} {t : Tgt} {k_ : Krn} {regs : List Int} {memory : List (List Int)} {turns : Int} {r : List Int × List (List Int)} {K0 : World} (hm : R5_Play_m t k_ regs memory turns = some r) (h_k__ops : Arr K0 v_k__ops 10 (k_.ops.map Opr.cells)) (h_regs : Arr K0 v_regs 1 (regs.map icell)) (h_memory : RowsA K0 v_memory memory) (M : Nat → Prop) (w : World) (hk : Base M K0 w) (hw0 : Own M w [] w) : Calls Try.prog 50 #[.agg #[.int .i64 t.u0, .int .i64 t.u1, .int .i64 t.u2, .int .i64 t.w0, .int .i64 t.w1, .int .i64 t.w2, .int .i64 t.regs], .agg #[.int .i64 k_.pace, .int .i64 k_.stages, v_k__ops], v_regs, v_memory, .int .i64 turns] w (fun e w' => ∃ X : Value × Value × World, e = .returned (.tuple #[X.1, X.2.1]) ∧ Own M w (kn M w.heap.size K0 X.2.2 :: []) w' ∧ Arr X.2.2 X.1 1 (r.1.map icell) ∧ RowsA X.2.2 X.2.1 r.2) := by
 unfold R5_Play_m at hm
 refine calls_of_WC (n := 233) (args := [.agg #[i_ t.u0, i_ t.u1, i_ t.u2, i_ t.w0, i_ t.w1, i_ t.w2, i_ t.regs], .agg #[i_ k_.pace, i_ k_.stages, v_k__ops], v_regs, v_memory, i_ turns]) Try.func50 Z Z (nl Z) ?_ (Own.startK hk hw0)
 refine sr (WL.effect Z ?_)
 refine (EV.boxAgg (by decide) Z Z (fun b1 => ?_))
 refine WL.effect Z ?_
 refine (EV.boxAgg (by decide) Z Z (fun b2 => ?_))
 refine wa Z (wa Z (ns (WL.effect Z ?_)))
 refine (EV.buildSlice0 (by decide) sz_33 (fun b3 => ?_))
 refine wm Z (WL.effect Z ?_)
 refine EV.of (fun w hw => hw.blkVec icell ([] : List Int) Z icell_len (nl Z)) ?_
 obtain ⟨c4, hm5⟩ := cs hm; clear hm
 refine (EV.appendL (enc := icell) (xs := []) (ys := regs) (([] ++ regs)) 0 (by decide) ve33 Z Z Z Z Z (Own.karr 3 Z hk h_regs) icell_len (icell_one _) Z c4.1 c4.2 (fun u6 hu7 => ?_))
 refine wa Z (ns (wm Z (WL.effect Z ?_)))
 obtain ⟨x8, hx9, hm10⟩ := bd_some hm5; clear hm5
 refine EV.of (C' := Own M w [kn M w.heap.size K0 K0, vec u6 2 1 (List.map icell ([] ++ regs)), blk b2 [i_ k_.pace, i_ k_.stages, v_k__ops] 31, blk b1 t.cells 28]) (pk [3, 0, 1, 2]) ?_
 refine (EV.callR (X := Value × (List Value) × World) (R := []) (fun X => X.1) (fun X => [grid X.1 X.2.1 33 2 x8]) (fun X => X.2.2) (fun X => SliceLen X.1 (x8).length ∧ GL X.2.1 x8) hk (fun _ h => by cases h; decide) en79 (ec Z eN) (fun M w h1 h2 => have h := R3_Copy_w hx9 h_memory M w h1 h2; h) (fun X11 hF11 hle11 => ?_))
 refine wa Z (ns (wm Z (WL.effect Z ?_)))
 obtain ⟨x13, hx14, hm15⟩ := bd_some hm10; clear hm10
 refine (EV.callR (X := Value × World) (R := []) (fun X => .tuple #[X.1, .bool x13.2]) (fun X => []) (fun X => X.2) (fun X => Arr X.2 X.1 1 (x13.1.map icell)) hk (fun _ h => by cases h; decide) en80 (ec Z eN) (fun M w h1 h2 => have h := R5_Logs_w hx14 (h_memory.le hle11) M w h1 h2; h) (fun X16 hF16 hle16 => ?_))
 refine wm Z (wq Z (QV.extract Z Z Z) (wq Z (QV.extract Z Z Z) (wa Z (wa Z (nt (WC.seq (sr (wm Z (wq Z (QV.eql Z Z Z Z) (nt ?_))))))))))
 refine wc Z hm15 (fun h17 hm18 => ?_) (fun h17 hm21 => ?_) <;> clear hm15
 ·skip
  refine sr (wm Z (wm Z (wa Z (wa Z (nt (WC.ret (tr ?_)))))))
  obtain rfl := (eq_of_some hm18).symm
  refine WK.of (C' := Own M w [kn M w.heap.size K0 X16.2, vec u6 2 1 (List.map icell ([] ++ regs)), grid X11.1 X11.2.1 33 2 x8, blk b2 [i_ k_.pace, i_ k_.stages, v_k__ops] 31, blk b1 t.cells 28]) (pk [0, 2, 1, 3, 4]) ?_
  refine WK.freeze hk (fun k19 hle19 hr19 => ?_)
  have hA19 := vec_arr hr19
  refine WK.freeze hk (fun k20 hle20 hr20 => ?_)
  have hA20 := grid_rows hr20
  refine WQ.ret2 Z Z Z (fun w hw => ?_)
  exact ⟨(u6, X11.1, k20), Z, hw.pick [0] (by decide), (hA19.le hle20), hA20⟩
 refine sk (WQ.then (sr (wa Z (ns (wm Z (wf fd31_1 Z (wl pl3 Z (Own.cell 3 Z Z) ?_)))))))
 obtain ⟨c22, c24, c26, hm27⟩ := cs3 hm21; clear hm21
 refine wq Z (QV.add Z Z Z Z c22) (wq Z (QV.sub Z Z Z Z c24) (wf fd31_0 Z (wl pl3 Z (Own.cell 3 Z Z) (wq Z (QV.mul Z Z Z Z c26) (wa Z (nt (WC.seq (sr (wa Z (nt ?_))))))))))
 refine WK.of (fun w hw => hw.vecNil (E := 138) (sz := 3) (enc := Due.cells)) ?_
 refine WK.of (C' := Own M w [kn M w.heap.size K0 X16.2, grid X11.1 X11.2.1 33 2 x8, vec (.slice none 0 0) 138 3 (List.map Due.cells []), vec u6 2 1 (List.map icell ([] ++ regs)), blk b2 [i_ k_.pace, i_ k_.stages, v_k__ops] 31, blk b1 t.cells 28]) (pk [1, 2, 0, 3, 4, 5]) ?_
 refine WK.freeze hk (fun k29 hle29 hr29 => ?_)
 have hA29 := grid_rows hr29
 obtain ⟨o30, ho31, hm32⟩ := bd_some hm27; clear hm27; obtain ⟨n33, ho34⟩ := lp_some ho31
 refine WC.bloop7 (H2 := [blk b2 [i_ k_.pace, i_ k_.stages, v_k__ops] 31, blk b1 t.cells 28]) (τ := [u_ 4 _, u_ 5 _, u_ 6 _, u_ 12 _, u_ 14 _, u_ 17 _]) (fun (v28_9 : List Due) (v3_9 : List Int) (m13_9 : List (List Int)) (now18_9 : Int) (uv28_9 : Value) (vm13_9 : Value) (k_9 : World) => [(13, (true, vm13_9)), (16, (true, uv28_9)), (18, (true, i_ now18_9))]) (fun v28_9 v3_9 m13_9 now18_9 uv28_9 vm13_9 k_9 => [kn M w.heap.size K0 k_9, vec uv28_9 138 3 (List.map Due.cells v28_9), vec u6 2 1 (List.map icell v3_9)]) (fun v28_9 v3_9 m13_9 now18_9 uv28_9 vm13_9 k_9 m => iter (R5_Play_L0 t k_ regs turns x13) m (v28_9, v3_9, m13_9, now18_9) = some o30 ∧ SliceLen uv28_9 v28_9.length ∧ SliceLen u6 v3_9.length ∧ RowsA k_9 vm13_9 m13_9 ∧ Le k29 k_9) (fun v28_9 v3_9 m13_9 now18_9 uv28_9 vm13_9 k_9 => o30 = .go (v28_9, v3_9, m13_9, now18_9) ∧ SliceLen uv28_9 v28_9.length ∧ SliceLen u6 v3_9.length ∧ RowsA k_9 vm13_9 m13_9 ∧ Le k29 k_9) [] ([] ++ regs) x8 0 (.slice none 0 0) X11.1 k29 n33 ⟨ho34, SliceLen.nil, hu7, hA29, (Le.refl _)⟩ ⟨Z, Z, Z, Z, Z, Z, Z, Z, Z, trivial⟩ (pk [0, 1, 2, 3, 4]) ?_ ?_
 ·skip
  rintro v28_9 v3_9 m13_9 now18_9 uv28_9 vm13_9 k_9 ⟨rfl, hlv28_9, hlv3_9, hAm13_9, hle_9⟩
  refine WQ.then (sr (wm Z (wm Z (wa Z (wa Z (nt (WC.ret ?_)))))))
  obtain rfl := (eq_of_some hm32).symm
  refine WK.of (C' := Own M w [kn M w.heap.size K0 k_9, vec u6 2 1 (List.map icell v3_9), vec uv28_9 138 3 (List.map Due.cells v28_9), blk b2 [i_ k_.pace, i_ k_.stages, v_k__ops] 31, blk b1 t.cells 28]) (pk [0, 2, 1, 3, 4]) ?_
  refine WK.freeze hk (fun k35 hle35 hr35 => ?_)
  have hA35 := vec_arr hr35
  refine WQ.ret2 Z Z Z (fun w hw => ?_)
  exact ⟨(u6, vm13_9, k35), Z, hw.pick [0] (by decide), hA35, (hAm13_9.le hle35)⟩
 rintro v28_9 v3_9 m13_9 now18_9 uv28_9 vm13_9 k_9 m36 ⟨hI37, hlv28_9, hlv3_9, hAm13_9, hle_9⟩
 obtain ⟨m38, s39, rfl, hm40, hn41⟩ := iter_step hI37; clear hI37; unfold R5_Play_L0 at hm40; simp only at hm40
 refine WC.seq (sr (wm Z (wm Z ?_)))
 obtain ⟨c42, c44, hm45⟩ := cs2 hm40; clear hm40
 refine wq Z (QV.add Z Z Z Z c42) (wq Z (QV.add Z Z Z Z c44) (wq Z (QV.lss Z Z Z Z) (nt ?_)))
 refine wc Z hm45 (fun h46 hm47 => ?_) (fun h46 hm299 => ?_) <;> clear hm45
 ·skip
  refine sk (WQ.then (WC.seq (WC.block (sr (wa Z (nt (WC.seq (sr (wa Z (nt ?_))))))))))
  refine WK.of (fun w hw => hw.vecNil (E := 138) (sz := 3) (enc := Due.cells)) ?_
  obtain ⟨o49, ho50, hm51⟩ := bd_some hm47; clear hm47; obtain ⟨n52, ho53⟩ := lp_some ho50
  refine WC.bloop4 (H2 := [kn M w.heap.size K0 k_9, vec uv28_9 138 3 (List.map Due.cells v28_9), blk b2 [i_ k_.pace, i_ k_.stages, v_k__ops] 31, blk b1 t.cells 28]) (τ := [u_ 4 _, u_ 5 _, u_ 6 _, u_ 12 _, u_ 13 _, u_ 14 _, u_ 16 _, u_ 17 _, u_ 18 _]) (fun (v3_10 : List Int) (v48_10 : List Due) (i20_10 : Int) (uv48_10 : Value) => [(19, (true, uv48_10)), (20, (true, i_ i20_10))]) (fun v3_10 v48_10 i20_10 uv48_10 => [vec uv48_10 138 3 (List.map Due.cells v48_10), vec u6 2 1 (List.map icell v3_10)]) (fun v3_10 v48_10 i20_10 uv48_10 m => iter (R5_Play_L2 v28_9 now18_9) m (v3_10, v48_10, i20_10) = some o49 ∧ SliceLen u6 v3_10.length ∧ SliceLen uv48_10 v48_10.length) (fun v3_10 v48_10 i20_10 uv48_10 => o49 = .go (v3_10, v48_10, i20_10) ∧ SliceLen u6 v3_10.length ∧ SliceLen uv48_10 v48_10.length) v3_9 [] 0 (.slice none 0 0) n52 ⟨ho53, hlv3_9, SliceLen.nil⟩ ⟨Z, Z, Z, Z, Z, Z, Z, Z, Z, Z, Z, trivial⟩ (pk [0, 3, 1, 2, 4, 5]) ?_ ?_
  ·skip
   rintro v3_10 v48_10 i20_10 uv48_10 ⟨rfl, hlv3_10, hlv48_10⟩
   refine WQ.then (sr (wm Z (wa Z (nt (WC.seq (sr (wm Z (wm Z (wq Z (QV.geq Z Z Z Z) (nt ?_))))))))))
   refine wc Z hm51 (fun h54 hm55 => ?_) (fun h54 hm58 => ?_) <;> clear hm51
   ·skip
    refine WC.exit (te (WQ.block_exit (WQ.then (WC.region (wm Z ?_)))))
    obtain ⟨c56, hm57⟩ := cs hm55; clear hm55
    refine wq Z (QV.add Z Z Z Z c56) (wa Z (WL.nil ?_))
    exact WQ.again7 v48_10 v3_10 m13_9 (now18_9 + 1) uv48_10 vm13_9 k_9 m38 ⟨up_next hm57 hn41, hlv48_10, hlv3_10, hAm13_9, hle_9⟩ (Nat.lt_succ_self _) ⟨Z, Z, Z, Z, Z, Z, Z, Z, Z, trivial⟩ (pk [2, 0, 1, 4, 5])
   refine sk (WQ.then (sr (wm Z (wf fd31_0 Z (wl pl3 Z (Own.cell 4 Z Z) ?_)))))
   obtain ⟨c59, c61, hm62⟩ := cs2 hm58; clear hm58
   refine wq Z (QV.quo Z Z Z Z c59 c61) (wa Z (ns (wm Z (WL.effect Z ?_))))
   obtain ⟨x63, hx64, hm65⟩ := bd_some hm62; clear hm62
   refine EV.of (C' := Own M w [kn M w.heap.size K0 k_9, vec uv48_10 138 3 (List.map Due.cells v48_10), vec u6 2 1 (List.map icell v3_10), vec uv28_9 138 3 (List.map Due.cells v28_9), blk b2 [i_ k_.pace, i_ k_.stages, v_k__ops] 31, blk b1 t.cells 28]) (pk [2, 0, 1, 3, 4, 5]) ?_
   refine (EV.callR (X := Value × (List Value) × World) (R := []) (fun X => X.1) (fun X => [grid X.1 X.2.1 33 2 x63]) (fun X => X.2.2) (fun X => SliceLen X.1 (x63).length ∧ GL X.2.1 x63) hk (fun _ h => by cases h; decide) en79 (ec Z eN) (fun M w h1 h2 => have h := R3_Copy_w hx64 hAm13_9 M w h1 h2; h) (fun X66 hF66 hle66 => ?_))
   refine wa Z (nt (WC.seq (sr (wa Z (nt ?_)))))
   obtain ⟨o68, ho69, hm70⟩ := bd_some hm65; clear hm65; obtain ⟨n71, ho72⟩ := lp_some ho69
   refine WC.bloop4 (H2 := [kn M w.heap.size K0 X66.2.2, vec u6 2 1 (List.map icell v3_10), vec uv28_9 138 3 (List.map Due.cells v28_9), blk b2 [i_ k_.pace, i_ k_.stages, v_k__ops] 31, blk b1 t.cells 28]) (τ := [u_ 4 _, u_ 5 _, u_ 6 _, u_ 12 _, u_ 13 _, u_ 14 _, u_ 17 _, u_ 18 _, u_ 21 _, u_ 22 _]) (fun (v48_11 : List Due) (r67_11 : List (List Int)) (i23_11 : Int) (uv48_11 : Value) => [(16, (true, uv48_11)), (23, (true, i_ i23_11))]) (fun v48_11 r67_11 i23_11 uv48_11 => [grid X66.1 X66.2.1 33 2 r67_11, vec uv48_11 138 3 (List.map Due.cells v48_11)]) (fun v48_11 r67_11 i23_11 uv48_11 m => iter (R5_Play_L4 t k_ regs turns x13 m13_9 now18_9 v3_10) m (v48_11, r67_11, i23_11) = some o68 ∧ SliceLen uv48_11 v48_11.length ∧ SliceLen X66.1 r67_11.length ∧ GL X66.2.1 r67_11) (fun v48_11 r67_11 i23_11 uv48_11 => o68 = .go (v48_11, r67_11, i23_11) ∧ SliceLen uv48_11 v48_11.length ∧ SliceLen X66.1 r67_11.length ∧ GL X66.2.1 r67_11) v48_10 x63 0 uv48_10 n71 ⟨ho72, hlv48_10, hF66.1, hF66.2⟩ ⟨Z, Z, Z, Z, Z, Z, Z, Z, Z, Z, Z, Z, trivial⟩ (pk [1, 2, 0, 3, 4, 5, 6]) ?_ ?_
   ·skip
    rintro v48_11 r67_11 i23_11 uv48_11 ⟨rfl, hlv48_11, hlr67_11, hgr67_11⟩
    refine WQ.then (WC.region (wm Z (wa Z (WL.nil (WQ.block (WQ.then (WC.region (wm Z ?_))))))))
    obtain ⟨c73, hm74⟩ := cs hm70; clear hm70
    refine wq Z (QV.add Z Z Z Z c73) (wa Z (WL.nil ?_))
    refine WK.of (C' := Own M w [kn M w.heap.size K0 X66.2.2, grid X66.1 X66.2.1 33 2 r67_11, vec uv48_11 138 3 (List.map Due.cells v48_11), vec u6 2 1 (List.map icell v3_10), vec uv28_9 138 3 (List.map Due.cells v28_9), blk b2 [i_ k_.pace, i_ k_.stages, v_k__ops] 31, blk b1 t.cells 28]) (pk [2, 0, 1, 3, 4, 5, 6]) ?_
    refine WK.freeze hk (fun k75 hle75 hr75 => ?_)
    have hA75 := grid_rows hr75
    exact WQ.again7 v48_11 v3_10 r67_11 (now18_9 + 1) uv48_11 X66.1 k75 m38 ⟨up_next hm74 hn41, hlv48_11, hlv3_10, hA75, ((hle_9.trans hle66).trans hle75)⟩ (Nat.lt_succ_self _) ⟨Z, Z, Z, Z, Z, Z, Z, Z, Z, trivial⟩ (pk [0, 1, 2, 4, 5])
   rintro v48_11 r67_11 i23_11 uv48_11 m76 ⟨hI77, hlv48_11, hlr67_11, hgr67_11⟩
   obtain ⟨m78, s79, rfl, hm80, hn81⟩ := iter_step hI77; clear hI77; unfold R5_Play_L4 at hm80; simp only at hm80
   refine WC.seq (sr (wm Z (wf fd31_2 Z (wl pl29 Z (Own.cell 5 Z Z) (wq Z (QV.lenS Try.underlying29 Z Z (h_k__ops.le ((((hle11.trans hle16).trans hle29).trans hle_9).trans hle66)).lenMap) (wq Z (QV.lss Z Z Z Z) (nt ?_)))))))
   refine wc Z hm80 (fun h82 hm83 => ?_) (fun h82 hm256 => ?_) <;> clear hm80
   ·skip
    refine sk (WQ.then (WC.seq (WC.block (sr (wf fd31_2 Z (wl pl29 Z (Own.cell 5 Z Z) (wm Z ?_)))))))
    obtain ⟨c84, hm85⟩ := cs hm83; clear hm83
    obtain ⟨p86, hp87⟩ := (h_k__ops.le ((((hle11.trans hle16).trans hle29).trans hle_9).trans hle66)).lenMap.ix (sz := 10) ln_len c84
    refine wq Z (QV.indexSlice sl29 Z Z Z Z hp87) (wq Z (QV.loadAgg ag75 Z Z Z (fun w hw => ((Own.karr 2 Z hk (h_k__ops.le ((((hle11.trans hle16).trans hle29).trans hle_9).trans hle66))) w hw).ele hp87 c84)) (WL.effect Z ?_))
    refine (EV.alloc (by decide) ze75 (fun b88 => ?_))
    refine WL.effect Z ?_
    refine (EV.store 0 Z Z Z Z Z Z (vs := (Opr.cells (ele k_.ops i23_11))) (show Value.cells _ = List.toArray _ from Z) sz75 (nl Z) (oc Z (oc Z (oc Z (oc Z (oc Z (oc Z (oc Z (oc Z (oc Z (oc Z one_nil)))))))))) ?_)
    refine ns (wm Z (wf fd75_1 Z (wl pl3 Z (Own.cell 0 Z Z) ?_)))
    obtain ⟨c89, c91, hm92⟩ := cs2 hm85; clear hm85
    refine wq Z (QV.sub Z Z Z Z c89) (wa Z (nt (WC.seq (WC.seq (WC.dr (m := 16) (S := Own M w [kn M w.heap.size K0 X66.2.2, blk b88 (Opr.cells (ele k_.ops i23_11)) 75, grid X66.1 X66.2.1 33 2 r67_11, vec uv48_11 138 3 (List.map Due.cells v48_11), vec u6 2 1 (List.map icell v3_10), vec uv28_9 138 3 (List.map Due.cells v28_9), blk b2 [i_ k_.pace, i_ k_.stages, v_k__ops] 31, blk b1 t.cells 28]) (by kernel_rfl) (by kernel_rfl) (pk [3, 0, 1, 2, 4, 5, 6, 7]) (zf 0 fd75_0 Z Z (zl 1 pl3 Z Z (Own.cell 1 Z Z) (zm 2 Z Z (zf 3 fd31_0 Z Z (zl 4 pl3 Z Z (Own.cell 6 Z Z) (wz 5 Z Z (QV.rem Z Z Z Z c91) ?_)))))))))))
    refine wz 6 Z Z (QV.neq Z Z Z Z) (zm 7 Z Z (zn 8 Z Z (fun hG => QV.move Z Z) (zn 9 Z Z (fun hG => QV.lss Z hG Z Z) (wz 10 Z Z (QV.pickOr Z Z Z (fun h => notF h)) (zm 11 Z Z (zn 12 Z Z (fun hG => QV.move Z Z) (zn 13 Z Z (fun hG => QV.move Z Z) (zn 14 Z Z (fun hG => QV.geq Z hG Z hG) (wz 15 Z Z (QV.pickOr Z Z Z (fun h => notF h)) ?_)))))))))
    refine WD.e (by kernel_rfl) ?_
    refine WQ.then ?_
    refine wc Z hm92 (fun h93 hm94 => ?_) (fun h93 hm97 => ?_) <;> clear hm92
    ·skip
     refine WC.exit (te (WQ.block_exit (WQ.then (WC.region (wm Z ?_)))))
     obtain ⟨c95, hm96⟩ := cs hm94; clear hm94
     refine wq Z (QV.add Z Z Z Z c95) (wa Z (WL.nil ?_))
     exact WQ.again4 v48_11 r67_11 (i23_11 + 1) uv48_11 m78 ⟨up_next hm96 hn81, hlv48_11, hlr67_11, hgr67_11⟩ (Nat.lt_succ_self _) ⟨Z, Z, Z, Z, Z, Z, Z, Z, Z, Z, Z, Z, trivial⟩ (pk [1, 2, 3, 4, 5, 6, 7])
    refine sk (WQ.then (sr (wm Z (wf fd75_4 Z (wl pl3 Z (Own.cell 0 Z Z) (wm Z ?_))))))
    obtain ⟨c98, c100, c102, hm103⟩ := cs3 hm97; clear hm97
    refine wq Z (QV.add Z Z Z Z c98) (wf fd28_2 Z (wl pl3 Z (Own.cell 7 Z Z) (wq Z (QV.rem Z Z Z Z c100) ?_)))
    obtain ⟨p104, hp105⟩ := hlv3_10.ix (sz := 1) ln_len c102
    refine wq Z (QV.indexSlice sl33 Z Z Z Z hp105) (wl pl2 Z (fun w hw => CellsAt.one 0 (((Own.vecArr 4 Z) w hw).ele hp105 c102) Z) (wa Z (ns (wm Z (wf fd75_5 Z (wl pl3 Z (Own.cell 0 Z Z) (wm Z ?_)))))))
    obtain ⟨c106, c108, c110, hm111⟩ := cs3 hm103; clear hm103
    refine wq Z (QV.add Z Z Z Z c106) (wf fd28_2 Z (wl pl3 Z (Own.cell 7 Z Z) (wq Z (QV.rem Z Z Z Z c108) ?_)))
    obtain ⟨p112, hp113⟩ := hlv3_10.ix (sz := 1) ln_len c110
    refine wq Z (QV.indexSlice sl33 Z Z Z Z hp113) (wl pl2 Z (fun w hw => CellsAt.one 0 (((Own.vecArr 4 Z) w hw).ele hp113 c110) Z) (wa Z (ns (wm Z (wa Z (nt (WC.seq (sr (wf fd75_2 Z (wl pl3 Z (Own.cell 0 Z Z) (nt (WC.block (sr ?_)))))))))))))
    refine wq Z (QV.eql Z Z Z Z) (wa Z (nt ?_))
    refine wc Z hm111 (fun h114 hm115 => ?_) (fun h114 hm134 => ?_) <;> clear hm111
    ·skip
     refine WC.region (wf fd75_9 Z (wl pl2 Z (Own.cell 0 Z Z) (wa Z (WL.nil (WQ.block (WQ.then (sr (wf fd75_2 Z (wl pl3 Z (Own.cell 0 Z Z) ?_)))))))))
     obtain ⟨x116, hx117, hm118⟩ := bd_some hm115; clear hm115
     refine wq Z (QV.call en45 (ec Z eN) (fun w hw => have h := R1_Class_w w hx117 ; h)) (wa Z (nt (WC.dr (m := 19) (S := Own M w [kn M w.heap.size K0 X66.2.2, blk b88 (Opr.cells (ele k_.ops i23_11)) 75, grid X66.1 X66.2.1 33 2 r67_11, vec u6 2 1 (List.map icell v3_10), vec uv28_9 138 3 (List.map Due.cells v28_9), blk b2 [i_ k_.pace, i_ k_.stages, v_k__ops] 31, blk b1 t.cells 28]) (by kernel_rfl) (by kernel_rfl) (pk [3, 0, 1, 4, 5, 6, 7]) (zm 0 Z Z (zm 1 Z Z (zm 2 Z Z (zf 3 fd28_1 Z Z ?_)))))))
     obtain ⟨c119, c121, c123, c125, c128, c132, hm133⟩ := cs6 hm118; clear hm118
     refine wz 4 Z Z (QV.indexArray ar26 Z Z Z Z c119.1 c119.2) (zl 5 pl3 Z Z (Own.cellSym 6 Z (sel3_get (off := 3) (i := x116) c119.1 c119.2 Z Z Z) (addr_sym _ _ _)) (wz 6 Z Z (QV.add Z Z Z Z c121) (zf 7 fd75_3 Z Z (zl 8 pl3 Z Z (Own.cell 1 Z Z) (zm 9 Z Z (wz 10 Z Z (QV.add Z Z Z Z c123) (zf 11 fd28_2 Z Z (zl 12 pl3 Z Z (Own.cell 6 Z Z) (wz 13 Z Z (QV.rem Z Z Z Z c125) ?_)))))))))
     refine zm 14 Z Z (wz 15 Z Z (QV.build (ps := [(0, .tmp 218), (1, .tmp 225), (2, .tmp 226)]) (cells := [i_ (now18_9 + (sel3 t.w0 t.w1 t.w2 x116)), i_ (Int.tmod ((ele k_.ops i23_11).dest + (Int.tdiv now18_9 k_.pace)) t.regs), i_ ((ele k_.ops i23_11).n)]) (ec Z (ec Z (ec Z eN))) (by kernel_rfl)) ?_)
     refine WD.o 16 Z (by kernel_rfl) Z ?_
     refine (EV.buildSlice (by decide) sz_136 (by decide) (by decide) (ps := [(0, .tmp 227)]) (cells := [i_ (now18_9 + (sel3 t.w0 t.w1 t.w2 x116)), i_ (Int.tmod ((ele k_.ops i23_11).dest + (Int.tdiv now18_9 k_.pace)) t.regs), i_ ((ele k_.ops i23_11).n)]) (ec Z eN) (by kernel_rfl) (fun b127 => ?_))
     refine WD.b (H' := [kn M w.heap.size K0 X66.2.2, blk b127 [i_ (now18_9 + (sel3 t.w0 t.w1 t.w2 x116)), i_ (Int.tmod ((ele k_.ops i23_11).dest + (Int.tdiv now18_9 k_.pace)) t.regs), i_ ((ele k_.ops i23_11).n)] 138, blk b88 (Opr.cells (ele k_.ops i23_11)) 75, grid X66.1 X66.2.1 33 2 r67_11, vec u6 2 1 (List.map icell v3_10), vec uv28_9 138 3 (List.map Due.cells v28_9), blk b2 [i_ k_.pace, i_ k_.stages, v_k__ops] 31, blk b1 t.cells 28]) (pk [4, 0, 1, 2, 5, 6, 7, 8]) (pk [0, 2, 3, 4, 5, 6, 7]) ?_
     refine WD.o 17 Z (by kernel_rfl) Z ?_
     refine (EV.appendL (enc := Due.cells) (xs := v48_11) (ys := [(Due.mk (now18_9 + (sel3 t.w0 t.w1 t.w2 x116)) (Int.tmod ((ele k_.ops i23_11).dest + (Int.tdiv now18_9 k_.pace)) t.regs) ((ele k_.ops i23_11).n))]) ((v48_11 ++ [(Due.mk (now18_9 + (sel3 t.w0 t.w1 t.w2 x116)) (Int.tmod ((ele k_.ops i23_11).dest + (Int.tdiv now18_9 k_.pace)) t.regs) ((ele k_.ops i23_11).n))])) 3 (by decide) ve136 Z Z Z Z Z (Own.blkArr 0 (rows := [(Due.mk (now18_9 + (sel3 t.w0 t.w1 t.w2 x116)) (Int.tmod ((ele k_.ops i23_11).dest + (Int.tdiv now18_9 k_.pace)) t.regs) ((ele k_.ops i23_11).n))].map Due.cells) Z Z (rows_len Due.cells_len)) Due.cells_len (Due.cells_one _) Z c128.1 c128.2 (fun u130 hu131 => ?_))
     refine WD.b (H' := [kn M w.heap.size K0 X66.2.2, blk b127 [i_ (now18_9 + (sel3 t.w0 t.w1 t.w2 x116)), i_ (Int.tmod ((ele k_.ops i23_11).dest + (Int.tdiv now18_9 k_.pace)) t.regs), i_ ((ele k_.ops i23_11).n)] 138, blk b88 (Opr.cells (ele k_.ops i23_11)) 75, grid X66.1 X66.2.1 33 2 r67_11, vec u130 138 3 (List.map Due.cells (v48_11 ++ [(Due.mk (now18_9 + (sel3 t.w0 t.w1 t.w2 x116)) (Int.tmod ((ele k_.ops i23_11).dest + (Int.tdiv now18_9 k_.pace)) t.regs) ((ele k_.ops i23_11).n))])), vec u6 2 1 (List.map icell v3_10), vec uv28_9 138 3 (List.map Due.cells v28_9), blk b2 [i_ k_.pace, i_ k_.stages, v_k__ops] 31, blk b1 t.cells 28]) (pk [4, 0, 1, 2, 3, 5, 6, 7, 8]) (pk [0, 1, 2, 3, 5, 6, 7, 8]) ?_
     refine wz 18 Z Z (QV.assign Z Z) ?_
     refine WD.e (by kernel_rfl) ?_
     refine WQ.block (WQ.then (WC.region (wm Z (wq Z (QV.add Z Z Z Z c132) (wa Z (WL.nil ?_))))))
     exact WQ.again4 (v48_11 ++ [(Due.mk (now18_9 + (sel3 t.w0 t.w1 t.w2 x116)) (Int.tmod ((ele k_.ops i23_11).dest + (Int.tdiv now18_9 k_.pace)) t.regs) ((ele k_.ops i23_11).n))]) r67_11 (i23_11 + 1) u130 m78 ⟨up_next hm133 hn81, hu131, hlr67_11, hgr67_11⟩ (Nat.lt_succ_self _) ⟨Z, Z, Z, Z, Z, Z, Z, Z, Z, Z, Z, Z, trivial⟩ (pk [2, 3, 4, 5, 6, 7, 8])
    refine sr (wq Z (QV.eql Z Z Z Z) (wa Z (nt ?_)))
    refine wc Z hm134 (fun h135 hm136 => ?_) (fun h135 hm155 => ?_) <;> clear hm134
    ·skip
     refine WC.region (wm Z (wa Z (WL.nil (WQ.block (WQ.then (sr (wf fd75_2 Z (wl pl3 Z (Own.cell 0 Z Z) ?_))))))))
     obtain ⟨x137, hx138, hm139⟩ := bd_some hm136; clear hm136
     refine wq Z (QV.call en45 (ec Z eN) (fun w hw => have h := R1_Class_w w hx138 ; h)) (wa Z (nt (WC.dr (m := 19) (S := Own M w [kn M w.heap.size K0 X66.2.2, blk b88 (Opr.cells (ele k_.ops i23_11)) 75, grid X66.1 X66.2.1 33 2 r67_11, vec u6 2 1 (List.map icell v3_10), vec uv28_9 138 3 (List.map Due.cells v28_9), blk b2 [i_ k_.pace, i_ k_.stages, v_k__ops] 31, blk b1 t.cells 28]) (by kernel_rfl) (by kernel_rfl) (pk [3, 0, 1, 4, 5, 6, 7]) (zm 0 Z Z (zm 1 Z Z (zm 2 Z Z (zf 3 fd28_1 Z Z ?_)))))))
     obtain ⟨c140, c142, c144, c146, c149, c153, hm154⟩ := cs6 hm139; clear hm139
     refine wz 4 Z Z (QV.indexArray ar26 Z Z Z Z c140.1 c140.2) (zl 5 pl3 Z Z (Own.cellSym 6 Z (sel3_get (off := 3) (i := x137) c140.1 c140.2 Z Z Z) (addr_sym _ _ _)) (wz 6 Z Z (QV.add Z Z Z Z c142) (zf 7 fd75_3 Z Z (zl 8 pl3 Z Z (Own.cell 1 Z Z) (zm 9 Z Z (wz 10 Z Z (QV.add Z Z Z Z c144) (zf 11 fd28_2 Z Z (zl 12 pl3 Z Z (Own.cell 6 Z Z) (wz 13 Z Z (QV.rem Z Z Z Z c146) ?_)))))))))
     refine zm 14 Z Z (wz 15 Z Z (QV.build (ps := [(0, .tmp 218), (1, .tmp 225), (2, .tmp 226)]) (cells := [i_ (now18_9 + (sel3 t.w0 t.w1 t.w2 x137)), i_ (Int.tmod ((ele k_.ops i23_11).dest + (Int.tdiv now18_9 k_.pace)) t.regs), i_ ((Int.tdiv now18_9 k_.pace) - (ele k_.ops i23_11).stage)]) (ec Z (ec Z (ec Z eN))) (by kernel_rfl)) ?_)
     refine WD.o 16 Z (by kernel_rfl) Z ?_
     refine (EV.buildSlice (by decide) sz_136 (by decide) (by decide) (ps := [(0, .tmp 227)]) (cells := [i_ (now18_9 + (sel3 t.w0 t.w1 t.w2 x137)), i_ (Int.tmod ((ele k_.ops i23_11).dest + (Int.tdiv now18_9 k_.pace)) t.regs), i_ ((Int.tdiv now18_9 k_.pace) - (ele k_.ops i23_11).stage)]) (ec Z eN) (by kernel_rfl) (fun b148 => ?_))
     refine WD.b (H' := [kn M w.heap.size K0 X66.2.2, blk b148 [i_ (now18_9 + (sel3 t.w0 t.w1 t.w2 x137)), i_ (Int.tmod ((ele k_.ops i23_11).dest + (Int.tdiv now18_9 k_.pace)) t.regs), i_ ((Int.tdiv now18_9 k_.pace) - (ele k_.ops i23_11).stage)] 138, blk b88 (Opr.cells (ele k_.ops i23_11)) 75, grid X66.1 X66.2.1 33 2 r67_11, vec u6 2 1 (List.map icell v3_10), vec uv28_9 138 3 (List.map Due.cells v28_9), blk b2 [i_ k_.pace, i_ k_.stages, v_k__ops] 31, blk b1 t.cells 28]) (pk [4, 0, 1, 2, 5, 6, 7, 8]) (pk [0, 2, 3, 4, 5, 6, 7]) ?_
     refine WD.o 17 Z (by kernel_rfl) Z ?_
     refine (EV.appendL (enc := Due.cells) (xs := v48_11) (ys := [(Due.mk (now18_9 + (sel3 t.w0 t.w1 t.w2 x137)) (Int.tmod ((ele k_.ops i23_11).dest + (Int.tdiv now18_9 k_.pace)) t.regs) ((Int.tdiv now18_9 k_.pace) - (ele k_.ops i23_11).stage))]) ((v48_11 ++ [(Due.mk (now18_9 + (sel3 t.w0 t.w1 t.w2 x137)) (Int.tmod ((ele k_.ops i23_11).dest + (Int.tdiv now18_9 k_.pace)) t.regs) ((Int.tdiv now18_9 k_.pace) - (ele k_.ops i23_11).stage))])) 3 (by decide) ve136 Z Z Z Z Z (Own.blkArr 0 (rows := [(Due.mk (now18_9 + (sel3 t.w0 t.w1 t.w2 x137)) (Int.tmod ((ele k_.ops i23_11).dest + (Int.tdiv now18_9 k_.pace)) t.regs) ((Int.tdiv now18_9 k_.pace) - (ele k_.ops i23_11).stage))].map Due.cells) Z Z (rows_len Due.cells_len)) Due.cells_len (Due.cells_one _) Z c149.1 c149.2 (fun u151 hu152 => ?_))
     refine WD.b (H' := [kn M w.heap.size K0 X66.2.2, blk b148 [i_ (now18_9 + (sel3 t.w0 t.w1 t.w2 x137)), i_ (Int.tmod ((ele k_.ops i23_11).dest + (Int.tdiv now18_9 k_.pace)) t.regs), i_ ((Int.tdiv now18_9 k_.pace) - (ele k_.ops i23_11).stage)] 138, blk b88 (Opr.cells (ele k_.ops i23_11)) 75, grid X66.1 X66.2.1 33 2 r67_11, vec u151 138 3 (List.map Due.cells (v48_11 ++ [(Due.mk (now18_9 + (sel3 t.w0 t.w1 t.w2 x137)) (Int.tmod ((ele k_.ops i23_11).dest + (Int.tdiv now18_9 k_.pace)) t.regs) ((Int.tdiv now18_9 k_.pace) - (ele k_.ops i23_11).stage))])), vec u6 2 1 (List.map icell v3_10), vec uv28_9 138 3 (List.map Due.cells v28_9), blk b2 [i_ k_.pace, i_ k_.stages, v_k__ops] 31, blk b1 t.cells 28]) (pk [4, 0, 1, 2, 3, 5, 6, 7, 8]) (pk [0, 1, 2, 3, 5, 6, 7, 8]) ?_
     refine wz 18 Z Z (QV.assign Z Z) ?_
     refine WD.e (by kernel_rfl) ?_
     refine WQ.block (WQ.then (WC.region (wm Z (wq Z (QV.add Z Z Z Z c153) (wa Z (WL.nil ?_))))))
     exact WQ.again4 (v48_11 ++ [(Due.mk (now18_9 + (sel3 t.w0 t.w1 t.w2 x137)) (Int.tmod ((ele k_.ops i23_11).dest + (Int.tdiv now18_9 k_.pace)) t.regs) ((Int.tdiv now18_9 k_.pace) - (ele k_.ops i23_11).stage))]) r67_11 (i23_11 + 1) u151 m78 ⟨up_next hm154 hn81, hu152, hlr67_11, hgr67_11⟩ (Nat.lt_succ_self _) ⟨Z, Z, Z, Z, Z, Z, Z, Z, Z, Z, Z, Z, trivial⟩ (pk [2, 3, 4, 5, 6, 7, 8])
    refine sr (wq Z (QV.eql Z Z Z Z) (wa Z (nt ?_)))
    refine wc Z hm155 (fun h156 hm157 => ?_) (fun h156 hm194 => ?_) <;> clear hm155
    ·skip
     refine WC.dr (m := 19) (S := Own M w [kn M w.heap.size K0 X66.2.2, blk b88 (Opr.cells (ele k_.ops i23_11)) 75, grid X66.1 X66.2.1 33 2 r67_11, vec uv48_11 138 3 (List.map Due.cells v48_11), vec u6 2 1 (List.map icell v3_10), vec uv28_9 138 3 (List.map Due.cells v28_9), blk b2 [i_ k_.pace, i_ k_.stages, v_k__ops] 31, blk b1 t.cells 28]) (by kernel_rfl) (by kernel_rfl) (pk [3, 0, 1, 2, 4, 5, 6, 7]) (zm 0 Z Z (zf 1 fd75_6 Z Z (zl 2 pl3 Z Z (Own.cell 1 Z Z) ?_)))
     obtain ⟨c158, hm159⟩ := cs hm157; clear hm157
     obtain ⟨p160, u162, hp161, hc163, hA164⟩ := (hAm13_9.le hle66).ix c158
     refine wz 3 Z Z (QV.indexSlice sl32 Z Z Z Z hp161) (zl 4 pl33 Z Z (fun w hw => CellsAt.one 0 ((Own.kcells 0 Z hk hc163) w hw) Z) (zf 5 fd75_7 Z Z (zl 6 pl3 Z Z (Own.cell 1 Z Z) (zf 7 fd75_8 Z Z (zl 8 pl3 Z Z (Own.cell 1 Z Z) (zm 9 Z Z (zm 10 Z Z (zf 11 fd75_6 Z Z (zl 12 pl3 Z Z (Own.cell 1 Z Z) ?_)))))))))
     obtain ⟨c165, hm166⟩ := cs hm159; clear hm159
     obtain ⟨p167, hp168⟩ := (hF16.le ((hle29.trans hle_9).trans hle66)).lenMap.ix (sz := 1) ln_len c165
     refine wz 13 Z Z (QV.indexSlice sl22 Z Z Z Z hp168) (zl 14 pl3 Z Z (fun w hw => CellsAt.one 0 (((Own.karr 0 Z hk (hF16.le ((hle29.trans hle_9).trans hle66))) w hw).ele hp168 c165) Z) ?_)
     obtain ⟨x169, hx170, hm171⟩ := bd_some hm166; clear hm166
     refine wz 15 Z Z (QV.call en81 (ec Z (ec Z (ec Z (ec Z eN)))) (fun w hw => have h := R1_Index_w w hx170 ; h)) ?_
     obtain ⟨c172, hm173⟩ := cs hm171; clear hm171
     obtain ⟨p174, hp175⟩ := hA164.lenMap.ix (sz := 1) ln_len c172
     refine wz 16 Z Z (QV.indexSlice sl33 Z Z Z Z hp175) (zl 17 pl2 Z Z (fun w hw => CellsAt.one 0 (((Own.karr 0 Z hk hA164) w hw).ele hp175 c172) Z) (wz 18 Z Z (QV.assign Z Z) ?_))
     refine WD.e (by kernel_rfl) ?_
     refine WQ.block (WQ.then (sr (wf fd75_2 Z (wl pl3 Z (Own.cell 0 Z Z) ?_))))
     obtain ⟨x176, hx177, hm178⟩ := bd_some hm173; clear hm173
     refine wq Z (QV.call en45 (ec Z eN) (fun w hw => have h := R1_Class_w w hx177 ; h)) (wa Z (nt (WC.dr (m := 19) (S := Own M w [kn M w.heap.size K0 X66.2.2, blk b88 (Opr.cells (ele k_.ops i23_11)) 75, grid X66.1 X66.2.1 33 2 r67_11, vec u6 2 1 (List.map icell v3_10), vec uv28_9 138 3 (List.map Due.cells v28_9), blk b2 [i_ k_.pace, i_ k_.stages, v_k__ops] 31, blk b1 t.cells 28]) (by kernel_rfl) (by kernel_rfl) (pk [3, 0, 1, 4, 5, 6, 7]) (zm 0 Z Z (zm 1 Z Z (zm 2 Z Z (zf 3 fd28_1 Z Z ?_)))))))
     obtain ⟨c179, c181, c183, c185, c188, c192, hm193⟩ := cs6 hm178; clear hm178
     refine wz 4 Z Z (QV.indexArray ar26 Z Z Z Z c179.1 c179.2) (zl 5 pl3 Z Z (Own.cellSym 6 Z (sel3_get (off := 3) (i := x176) c179.1 c179.2 Z Z Z) (addr_sym _ _ _)) (wz 6 Z Z (QV.add Z Z Z Z c181) (zf 7 fd75_3 Z Z (zl 8 pl3 Z Z (Own.cell 1 Z Z) (zm 9 Z Z (wz 10 Z Z (QV.add Z Z Z Z c183) (zf 11 fd28_2 Z Z (zl 12 pl3 Z Z (Own.cell 6 Z Z) (wz 13 Z Z (QV.rem Z Z Z Z c185) ?_)))))))))
     refine zm 14 Z Z (wz 15 Z Z (QV.build (ps := [(0, .tmp 218), (1, .tmp 225), (2, .tmp 226)]) (cells := [i_ (now18_9 + (sel3 t.w0 t.w1 t.w2 x176)), i_ (Int.tmod ((ele k_.ops i23_11).dest + (Int.tdiv now18_9 k_.pace)) t.regs), i_ (ele (ele m13_9 ((ele k_.ops i23_11).ar)) x169)]) (ec Z (ec Z (ec Z eN))) (by kernel_rfl)) ?_)
     refine WD.o 16 Z (by kernel_rfl) Z ?_
     refine (EV.buildSlice (by decide) sz_136 (by decide) (by decide) (ps := [(0, .tmp 227)]) (cells := [i_ (now18_9 + (sel3 t.w0 t.w1 t.w2 x176)), i_ (Int.tmod ((ele k_.ops i23_11).dest + (Int.tdiv now18_9 k_.pace)) t.regs), i_ (ele (ele m13_9 ((ele k_.ops i23_11).ar)) x169)]) (ec Z eN) (by kernel_rfl) (fun b187 => ?_))
     refine WD.b (H' := [kn M w.heap.size K0 X66.2.2, blk b187 [i_ (now18_9 + (sel3 t.w0 t.w1 t.w2 x176)), i_ (Int.tmod ((ele k_.ops i23_11).dest + (Int.tdiv now18_9 k_.pace)) t.regs), i_ (ele (ele m13_9 ((ele k_.ops i23_11).ar)) x169)] 138, blk b88 (Opr.cells (ele k_.ops i23_11)) 75, grid X66.1 X66.2.1 33 2 r67_11, vec u6 2 1 (List.map icell v3_10), vec uv28_9 138 3 (List.map Due.cells v28_9), blk b2 [i_ k_.pace, i_ k_.stages, v_k__ops] 31, blk b1 t.cells 28]) (pk [4, 0, 1, 2, 5, 6, 7, 8]) (pk [0, 2, 3, 4, 5, 6, 7]) ?_
     refine WD.o 17 Z (by kernel_rfl) Z ?_
     refine (EV.appendL (enc := Due.cells) (xs := v48_11) (ys := [(Due.mk (now18_9 + (sel3 t.w0 t.w1 t.w2 x176)) (Int.tmod ((ele k_.ops i23_11).dest + (Int.tdiv now18_9 k_.pace)) t.regs) (ele (ele m13_9 ((ele k_.ops i23_11).ar)) x169))]) ((v48_11 ++ [(Due.mk (now18_9 + (sel3 t.w0 t.w1 t.w2 x176)) (Int.tmod ((ele k_.ops i23_11).dest + (Int.tdiv now18_9 k_.pace)) t.regs) (ele (ele m13_9 ((ele k_.ops i23_11).ar)) x169))])) 3 (by decide) ve136 Z Z Z Z Z (Own.blkArr 0 (rows := [(Due.mk (now18_9 + (sel3 t.w0 t.w1 t.w2 x176)) (Int.tmod ((ele k_.ops i23_11).dest + (Int.tdiv now18_9 k_.pace)) t.regs) (ele (ele m13_9 ((ele k_.ops i23_11).ar)) x169))].map Due.cells) Z Z (rows_len Due.cells_len)) Due.cells_len (Due.cells_one _) Z c188.1 c188.2 (fun u190 hu191 => ?_))
     refine WD.b (H' := [kn M w.heap.size K0 X66.2.2, blk b187 [i_ (now18_9 + (sel3 t.w0 t.w1 t.w2 x176)), i_ (Int.tmod ((ele k_.ops i23_11).dest + (Int.tdiv now18_9 k_.pace)) t.regs), i_ (ele (ele m13_9 ((ele k_.ops i23_11).ar)) x169)] 138, blk b88 (Opr.cells (ele k_.ops i23_11)) 75, grid X66.1 X66.2.1 33 2 r67_11, vec u190 138 3 (List.map Due.cells (v48_11 ++ [(Due.mk (now18_9 + (sel3 t.w0 t.w1 t.w2 x176)) (Int.tmod ((ele k_.ops i23_11).dest + (Int.tdiv now18_9 k_.pace)) t.regs) (ele (ele m13_9 ((ele k_.ops i23_11).ar)) x169))])), vec u6 2 1 (List.map icell v3_10), vec uv28_9 138 3 (List.map Due.cells v28_9), blk b2 [i_ k_.pace, i_ k_.stages, v_k__ops] 31, blk b1 t.cells 28]) (pk [4, 0, 1, 2, 3, 5, 6, 7, 8]) (pk [0, 1, 2, 3, 5, 6, 7, 8]) ?_
     refine wz 18 Z Z (QV.assign Z Z) ?_
     refine WD.e (by kernel_rfl) ?_
     refine WQ.block (WQ.then (WC.region (wm Z (wq Z (QV.add Z Z Z Z c192) (wa Z (WL.nil ?_))))))
     exact WQ.again4 (v48_11 ++ [(Due.mk (now18_9 + (sel3 t.w0 t.w1 t.w2 x176)) (Int.tmod ((ele k_.ops i23_11).dest + (Int.tdiv now18_9 k_.pace)) t.regs) (ele (ele m13_9 ((ele k_.ops i23_11).ar)) x169))]) r67_11 (i23_11 + 1) u190 m78 ⟨up_next hm193 hn81, hu191, hlr67_11, hgr67_11⟩ (Nat.lt_succ_self _) ⟨Z, Z, Z, Z, Z, Z, Z, Z, Z, Z, Z, Z, trivial⟩ (pk [2, 3, 4, 5, 6, 7, 8])
    refine sr (wq Z (QV.eql Z Z Z Z) (wa Z (nt ?_)))
    refine wc Z hm194 (fun h195 hm196 => ?_) (fun h195 hm232 => ?_) <;> clear hm194
    ·skip
     refine WC.dr (m := 19) (S := Own M w [kn M w.heap.size K0 X66.2.2, blk b88 (Opr.cells (ele k_.ops i23_11)) 75, grid X66.1 X66.2.1 33 2 r67_11, vec uv48_11 138 3 (List.map Due.cells v48_11), vec u6 2 1 (List.map icell v3_10), vec uv28_9 138 3 (List.map Due.cells v28_9), blk b2 [i_ k_.pace, i_ k_.stages, v_k__ops] 31, blk b1 t.cells 28]) (by kernel_rfl) (by kernel_rfl) (pk [3, 0, 1, 2, 4, 5, 6, 7]) (zm 0 Z Z (zf 1 fd75_6 Z Z (zl 2 pl3 Z Z (Own.cell 1 Z Z) ?_)))
     obtain ⟨c197, hm198⟩ := cs hm196; clear hm196
     obtain ⟨p199, hp200⟩ := hlr67_11.ix (sz := 1) ln_len c197
     refine wz 3 Z Z (QV.indexSlice sl32 Z Z Z Z hp200) (zl 4 pl33 Z Z (Own.gridHdr 2 Z hp200 c197) (zf 5 fd75_7 Z Z (zl 6 pl3 Z Z (Own.cell 1 Z Z) (zf 7 fd75_8 Z Z (zl 8 pl3 Z Z (Own.cell 1 Z Z) (zm 9 Z Z (zm 10 Z Z (zf 11 fd75_6 Z Z (zl 12 pl3 Z Z (Own.cell 1 Z Z) ?_)))))))))
     obtain ⟨c201, hm202⟩ := cs hm198; clear hm198
     obtain ⟨p203, hp204⟩ := (hF16.le ((hle29.trans hle_9).trans hle66)).lenMap.ix (sz := 1) ln_len c201
     refine wz 13 Z Z (QV.indexSlice sl22 Z Z Z Z hp204) (zl 14 pl3 Z Z (fun w hw => CellsAt.one 0 (((Own.karr 0 Z hk (hF16.le ((hle29.trans hle_9).trans hle66))) w hw).ele hp204 c201) Z) ?_)
     obtain ⟨x205, hx206, hm207⟩ := bd_some hm202; clear hm202
     refine wz 15 Z Z (QV.call en81 (ec Z (ec Z (ec Z (ec Z eN)))) (fun w hw => have h := R1_Index_w w hx206 ; h)) (zm 16 Z Z ?_)
     obtain ⟨c208, hm209⟩ := cs hm207; clear hm207
     obtain ⟨p210, hp211⟩ := (hgr67_11.ix ((ele k_.ops i23_11).ar)).ix (sz := 1) ln_len c208
     refine wz 17 Z Z (QV.indexSlice sl33 Z Z Z Z hp211) ?_
     refine WD.l 18 Z (by kernel_rfl) Z ?_
     refine (EV.storeG 1 (ele v3_10 (Int.tmod ((ele k_.ops i23_11).a + (Int.tdiv now18_9 k_.pace)) t.regs)) Z Z Z Z Z c197 hp211 sz2 ?_)
     have hg213 := hgr67_11.updG ((ele k_.ops i23_11).ar) x205 (ele v3_10 (Int.tmod ((ele k_.ops i23_11).a + (Int.tdiv now18_9 k_.pace)) t.regs))
     have hl212 : SliceLen X66.1 (updG r67_11 ((ele k_.ops i23_11).ar) x205 (ele v3_10 (Int.tmod ((ele k_.ops i23_11).a + (Int.tdiv now18_9 k_.pace)) t.regs))).length := slen_updG hlr67_11
     refine WQ.block (WQ.then (sr (wf fd75_2 Z (wl pl3 Z (Own.cell 0 Z Z) ?_))))
     obtain ⟨x214, hx215, hm216⟩ := bd_some hm209; clear hm209
     refine wq Z (QV.call en45 (ec Z eN) (fun w hw => have h := R1_Class_w w hx215 ; h)) (wa Z (nt (WC.dr (m := 19) (S := Own M w [kn M w.heap.size K0 X66.2.2, blk b88 (Opr.cells (ele k_.ops i23_11)) 75, grid X66.1 X66.2.1 33 2 (updG r67_11 ((ele k_.ops i23_11).ar) x205 (ele v3_10 (Int.tmod ((ele k_.ops i23_11).a + (Int.tdiv now18_9 k_.pace)) t.regs))), vec u6 2 1 (List.map icell v3_10), vec uv28_9 138 3 (List.map Due.cells v28_9), blk b2 [i_ k_.pace, i_ k_.stages, v_k__ops] 31, blk b1 t.cells 28]) (by kernel_rfl) (by kernel_rfl) (pk [3, 0, 1, 4, 5, 6, 7]) (zm 0 Z Z (zm 1 Z Z (zm 2 Z Z (zf 3 fd28_1 Z Z ?_)))))))
     obtain ⟨c217, c219, c221, c223, c226, c230, hm231⟩ := cs6 hm216; clear hm216
     refine wz 4 Z Z (QV.indexArray ar26 Z Z Z Z c217.1 c217.2) (zl 5 pl3 Z Z (Own.cellSym 6 Z (sel3_get (off := 3) (i := x214) c217.1 c217.2 Z Z Z) (addr_sym _ _ _)) (wz 6 Z Z (QV.add Z Z Z Z c219) (zf 7 fd75_3 Z Z (zl 8 pl3 Z Z (Own.cell 1 Z Z) (zm 9 Z Z (wz 10 Z Z (QV.add Z Z Z Z c221) (zf 11 fd28_2 Z Z (zl 12 pl3 Z Z (Own.cell 6 Z Z) (wz 13 Z Z (QV.rem Z Z Z Z c223) ?_)))))))))
     refine zm 14 Z Z (wz 15 Z Z (QV.build (ps := [(0, .tmp 218), (1, .tmp 225), (2, .tmp 226)]) (cells := [i_ (now18_9 + (sel3 t.w0 t.w1 t.w2 x214)), i_ (Int.tmod ((ele k_.ops i23_11).dest + (Int.tdiv now18_9 k_.pace)) t.regs), i_ (ele v3_10 (Int.tmod ((ele k_.ops i23_11).a + (Int.tdiv now18_9 k_.pace)) t.regs))]) (ec Z (ec Z (ec Z eN))) (by kernel_rfl)) ?_)
     refine WD.o 16 Z (by kernel_rfl) Z ?_
     refine (EV.buildSlice (by decide) sz_136 (by decide) (by decide) (ps := [(0, .tmp 227)]) (cells := [i_ (now18_9 + (sel3 t.w0 t.w1 t.w2 x214)), i_ (Int.tmod ((ele k_.ops i23_11).dest + (Int.tdiv now18_9 k_.pace)) t.regs), i_ (ele v3_10 (Int.tmod ((ele k_.ops i23_11).a + (Int.tdiv now18_9 k_.pace)) t.regs))]) (ec Z eN) (by kernel_rfl) (fun b225 => ?_))
     refine WD.b (H' := [kn M w.heap.size K0 X66.2.2, blk b225 [i_ (now18_9 + (sel3 t.w0 t.w1 t.w2 x214)), i_ (Int.tmod ((ele k_.ops i23_11).dest + (Int.tdiv now18_9 k_.pace)) t.regs), i_ (ele v3_10 (Int.tmod ((ele k_.ops i23_11).a + (Int.tdiv now18_9 k_.pace)) t.regs))] 138, blk b88 (Opr.cells (ele k_.ops i23_11)) 75, grid X66.1 X66.2.1 33 2 (updG r67_11 ((ele k_.ops i23_11).ar) x205 (ele v3_10 (Int.tmod ((ele k_.ops i23_11).a + (Int.tdiv now18_9 k_.pace)) t.regs))), vec u6 2 1 (List.map icell v3_10), vec uv28_9 138 3 (List.map Due.cells v28_9), blk b2 [i_ k_.pace, i_ k_.stages, v_k__ops] 31, blk b1 t.cells 28]) (pk [4, 0, 1, 2, 5, 6, 7, 8]) (pk [0, 2, 3, 4, 5, 6, 7]) ?_
     refine WD.o 17 Z (by kernel_rfl) Z ?_
     refine (EV.appendL (enc := Due.cells) (xs := v48_11) (ys := [(Due.mk (now18_9 + (sel3 t.w0 t.w1 t.w2 x214)) (Int.tmod ((ele k_.ops i23_11).dest + (Int.tdiv now18_9 k_.pace)) t.regs) (ele v3_10 (Int.tmod ((ele k_.ops i23_11).a + (Int.tdiv now18_9 k_.pace)) t.regs)))]) ((v48_11 ++ [(Due.mk (now18_9 + (sel3 t.w0 t.w1 t.w2 x214)) (Int.tmod ((ele k_.ops i23_11).dest + (Int.tdiv now18_9 k_.pace)) t.regs) (ele v3_10 (Int.tmod ((ele k_.ops i23_11).a + (Int.tdiv now18_9 k_.pace)) t.regs)))])) 3 (by decide) ve136 Z Z Z Z Z (Own.blkArr 0 (rows := [(Due.mk (now18_9 + (sel3 t.w0 t.w1 t.w2 x214)) (Int.tmod ((ele k_.ops i23_11).dest + (Int.tdiv now18_9 k_.pace)) t.regs) (ele v3_10 (Int.tmod ((ele k_.ops i23_11).a + (Int.tdiv now18_9 k_.pace)) t.regs)))].map Due.cells) Z Z (rows_len Due.cells_len)) Due.cells_len (Due.cells_one _) Z c226.1 c226.2 (fun u228 hu229 => ?_))
     refine WD.b (H' := [kn M w.heap.size K0 X66.2.2, blk b225 [i_ (now18_9 + (sel3 t.w0 t.w1 t.w2 x214)), i_ (Int.tmod ((ele k_.ops i23_11).dest + (Int.tdiv now18_9 k_.pace)) t.regs), i_ (ele v3_10 (Int.tmod ((ele k_.ops i23_11).a + (Int.tdiv now18_9 k_.pace)) t.regs))] 138, blk b88 (Opr.cells (ele k_.ops i23_11)) 75, grid X66.1 X66.2.1 33 2 (updG r67_11 ((ele k_.ops i23_11).ar) x205 (ele v3_10 (Int.tmod ((ele k_.ops i23_11).a + (Int.tdiv now18_9 k_.pace)) t.regs))), vec u228 138 3 (List.map Due.cells (v48_11 ++ [(Due.mk (now18_9 + (sel3 t.w0 t.w1 t.w2 x214)) (Int.tmod ((ele k_.ops i23_11).dest + (Int.tdiv now18_9 k_.pace)) t.regs) (ele v3_10 (Int.tmod ((ele k_.ops i23_11).a + (Int.tdiv now18_9 k_.pace)) t.regs)))])), vec u6 2 1 (List.map icell v3_10), vec uv28_9 138 3 (List.map Due.cells v28_9), blk b2 [i_ k_.pace, i_ k_.stages, v_k__ops] 31, blk b1 t.cells 28]) (pk [4, 0, 1, 2, 3, 5, 6, 7, 8]) (pk [0, 1, 2, 3, 5, 6, 7, 8]) ?_
     refine wz 18 Z Z (QV.assign Z Z) ?_
     refine WD.e (by kernel_rfl) ?_
     refine WQ.block (WQ.then (WC.region (wm Z (wq Z (QV.add Z Z Z Z c230) (wa Z (WL.nil ?_))))))
     exact WQ.again4 (v48_11 ++ [(Due.mk (now18_9 + (sel3 t.w0 t.w1 t.w2 x214)) (Int.tmod ((ele k_.ops i23_11).dest + (Int.tdiv now18_9 k_.pace)) t.regs) (ele v3_10 (Int.tmod ((ele k_.ops i23_11).a + (Int.tdiv now18_9 k_.pace)) t.regs)))]) (updG r67_11 ((ele k_.ops i23_11).ar) x205 (ele v3_10 (Int.tmod ((ele k_.ops i23_11).a + (Int.tdiv now18_9 k_.pace)) t.regs))) (i23_11 + 1) u228 m78 ⟨up_next hm231 hn81, hu229, hl212, hg213⟩ (Nat.lt_succ_self _) ⟨Z, Z, Z, Z, Z, Z, Z, Z, Z, Z, Z, Z, trivial⟩ (pk [2, 3, 4, 5, 6, 7, 8])
    refine WC.region (wf fd75_2 Z (wl pl3 Z (Own.cell 0 Z Z) ?_))
    obtain ⟨c233, hm234⟩ := cs hm232; clear hm232
    refine wq Z (QV.sub Z Z Z Z c233) (wm Z (wm Z ?_))
    obtain ⟨x235, hx236, hm237⟩ := bd_some hm234; clear hm234
    refine wq Z (QV.call en82 (ec Z (ec Z (ec Z eN))) (fun w hw => have h := R1_Op_w w hx236 ; h)) (wa Z (WL.nil (WQ.block (WQ.then (sr (wf fd75_2 Z (wl pl3 Z (Own.cell 0 Z Z) ?_)))))))
    obtain ⟨x238, hx239, hm240⟩ := bd_some hm237; clear hm237
    refine wq Z (QV.call en45 (ec Z eN) (fun w hw => have h := R1_Class_w w hx239 ; h)) (wa Z (nt (WC.dr (m := 19) (S := Own M w [kn M w.heap.size K0 X66.2.2, blk b88 (Opr.cells (ele k_.ops i23_11)) 75, grid X66.1 X66.2.1 33 2 r67_11, vec u6 2 1 (List.map icell v3_10), vec uv28_9 138 3 (List.map Due.cells v28_9), blk b2 [i_ k_.pace, i_ k_.stages, v_k__ops] 31, blk b1 t.cells 28]) (by kernel_rfl) (by kernel_rfl) (pk [3, 0, 1, 4, 5, 6, 7]) (zm 0 Z Z (zm 1 Z Z (zm 2 Z Z (zf 3 fd28_1 Z Z ?_)))))))
    obtain ⟨c241, c243, c245, c247, c250, c254, hm255⟩ := cs6 hm240; clear hm240
    refine wz 4 Z Z (QV.indexArray ar26 Z Z Z Z c241.1 c241.2) (zl 5 pl3 Z Z (Own.cellSym 6 Z (sel3_get (off := 3) (i := x238) c241.1 c241.2 Z Z Z) (addr_sym _ _ _)) (wz 6 Z Z (QV.add Z Z Z Z c243) (zf 7 fd75_3 Z Z (zl 8 pl3 Z Z (Own.cell 1 Z Z) (zm 9 Z Z (wz 10 Z Z (QV.add Z Z Z Z c245) (zf 11 fd28_2 Z Z (zl 12 pl3 Z Z (Own.cell 6 Z Z) (wz 13 Z Z (QV.rem Z Z Z Z c247) ?_)))))))))
    refine zm 14 Z Z (wz 15 Z Z (QV.build (ps := [(0, .tmp 218), (1, .tmp 225), (2, .tmp 226)]) (cells := [i_ (now18_9 + (sel3 t.w0 t.w1 t.w2 x238)), i_ (Int.tmod ((ele k_.ops i23_11).dest + (Int.tdiv now18_9 k_.pace)) t.regs), i_ x235]) (ec Z (ec Z (ec Z eN))) (by kernel_rfl)) ?_)
    refine WD.o 16 Z (by kernel_rfl) Z ?_
    refine (EV.buildSlice (by decide) sz_136 (by decide) (by decide) (ps := [(0, .tmp 227)]) (cells := [i_ (now18_9 + (sel3 t.w0 t.w1 t.w2 x238)), i_ (Int.tmod ((ele k_.ops i23_11).dest + (Int.tdiv now18_9 k_.pace)) t.regs), i_ x235]) (ec Z eN) (by kernel_rfl) (fun b249 => ?_))
    refine WD.b (H' := [kn M w.heap.size K0 X66.2.2, blk b249 [i_ (now18_9 + (sel3 t.w0 t.w1 t.w2 x238)), i_ (Int.tmod ((ele k_.ops i23_11).dest + (Int.tdiv now18_9 k_.pace)) t.regs), i_ x235] 138, blk b88 (Opr.cells (ele k_.ops i23_11)) 75, grid X66.1 X66.2.1 33 2 r67_11, vec u6 2 1 (List.map icell v3_10), vec uv28_9 138 3 (List.map Due.cells v28_9), blk b2 [i_ k_.pace, i_ k_.stages, v_k__ops] 31, blk b1 t.cells 28]) (pk [4, 0, 1, 2, 5, 6, 7, 8]) (pk [0, 2, 3, 4, 5, 6, 7]) ?_
    refine WD.o 17 Z (by kernel_rfl) Z ?_
    refine (EV.appendL (enc := Due.cells) (xs := v48_11) (ys := [(Due.mk (now18_9 + (sel3 t.w0 t.w1 t.w2 x238)) (Int.tmod ((ele k_.ops i23_11).dest + (Int.tdiv now18_9 k_.pace)) t.regs) x235)]) ((v48_11 ++ [(Due.mk (now18_9 + (sel3 t.w0 t.w1 t.w2 x238)) (Int.tmod ((ele k_.ops i23_11).dest + (Int.tdiv now18_9 k_.pace)) t.regs) x235)])) 3 (by decide) ve136 Z Z Z Z Z (Own.blkArr 0 (rows := [(Due.mk (now18_9 + (sel3 t.w0 t.w1 t.w2 x238)) (Int.tmod ((ele k_.ops i23_11).dest + (Int.tdiv now18_9 k_.pace)) t.regs) x235)].map Due.cells) Z Z (rows_len Due.cells_len)) Due.cells_len (Due.cells_one _) Z c250.1 c250.2 (fun u252 hu253 => ?_))
    refine WD.b (H' := [kn M w.heap.size K0 X66.2.2, blk b249 [i_ (now18_9 + (sel3 t.w0 t.w1 t.w2 x238)), i_ (Int.tmod ((ele k_.ops i23_11).dest + (Int.tdiv now18_9 k_.pace)) t.regs), i_ x235] 138, blk b88 (Opr.cells (ele k_.ops i23_11)) 75, grid X66.1 X66.2.1 33 2 r67_11, vec u252 138 3 (List.map Due.cells (v48_11 ++ [(Due.mk (now18_9 + (sel3 t.w0 t.w1 t.w2 x238)) (Int.tmod ((ele k_.ops i23_11).dest + (Int.tdiv now18_9 k_.pace)) t.regs) x235)])), vec u6 2 1 (List.map icell v3_10), vec uv28_9 138 3 (List.map Due.cells v28_9), blk b2 [i_ k_.pace, i_ k_.stages, v_k__ops] 31, blk b1 t.cells 28]) (pk [4, 0, 1, 2, 3, 5, 6, 7, 8]) (pk [0, 1, 2, 3, 5, 6, 7, 8]) ?_
    refine wz 18 Z Z (QV.assign Z Z) ?_
    refine WD.e (by kernel_rfl) ?_
    refine WQ.block (WQ.then (WC.region (wm Z (wq Z (QV.add Z Z Z Z c254) (wa Z (WL.nil ?_))))))
    exact WQ.again4 (v48_11 ++ [(Due.mk (now18_9 + (sel3 t.w0 t.w1 t.w2 x238)) (Int.tmod ((ele k_.ops i23_11).dest + (Int.tdiv now18_9 k_.pace)) t.regs) x235)]) r67_11 (i23_11 + 1) u252 m78 ⟨up_next hm255 hn81, hu253, hlr67_11, hgr67_11⟩ (Nat.lt_succ_self _) ⟨Z, Z, Z, Z, Z, Z, Z, Z, Z, Z, Z, Z, trivial⟩ (pk [2, 3, 4, 5, 6, 7, 8])
   refine WC.exit (te (te (WQ.block_exit ?_)))
   exact WQ.out4 v48_11 r67_11 i23_11 uv48_11 ⟨up_brk hm256 hn81, hlv48_11, hlr67_11, hgr67_11⟩ ⟨Z, Z, Z, Z, Z, Z, Z, Z, Z, Z, Z, Z, trivial⟩ (pk [0, 1, 2, 3, 4, 5, 6])
  rintro v3_10 v48_10 i20_10 uv48_10 m257 ⟨hI258, hlv3_10, hlv48_10⟩
  obtain ⟨m259, s260, rfl, hm261, hn262⟩ := iter_step hI258; clear hI258; unfold R5_Play_L2 at hm261; simp only at hm261
  refine WC.seq (sr (wm Z (wm Z (wq Z (QV.lenS Try.underlying136 Z Z hlv28_9) (wq Z (QV.lss Z Z Z Z) (nt ?_))))))
  refine wc Z hm261 (fun h263 hm264 => ?_) (fun h263 hm298 => ?_) <;> clear hm261
  ·skip
   refine sk (WQ.then (WC.seq (WC.block (sr (wm Z (wm Z ?_))))))
   obtain ⟨c265, hm266⟩ := cs hm264; clear hm264
   obtain ⟨p267, hp268⟩ := hlv28_9.ix (sz := 3) ln_len c265
   refine wq Z (QV.indexSlice sl136 Z Z Z Z hp268) (wf fd138_0 Z (wl pl3 Z (fun w hw => CellsAt.one 0 (((Own.vecArr 3 Z) w hw).ele hp268 c265) Z) (wm Z (wq Z (QV.eql Z Z Z Z) (nt ?_)))))
   refine wc Z hm266 (fun h269 hm270 => ?_) (fun h269 hm286 => ?_) <;> clear hm266
   ·skip
    refine WC.dr (m := 13) (S := Own M w [kn M w.heap.size K0 k_9, vec uv48_10 138 3 (List.map Due.cells v48_10), vec u6 2 1 (List.map icell v3_10), vec uv28_9 138 3 (List.map Due.cells v28_9), blk b2 [i_ k_.pace, i_ k_.stages, v_k__ops] 31, blk b1 t.cells 28]) (by kernel_rfl) (by kernel_rfl) (pk [2, 0, 1, 3, 4, 5]) (zm 0 Z Z (zm 1 Z Z (zm 2 Z Z ?_)))
    obtain ⟨c271, hm272⟩ := cs hm270; clear hm270
    obtain ⟨p273, hp274⟩ := hlv28_9.ix (sz := 3) ln_len c271
    refine wz 3 Z Z (QV.indexSlice sl136 Z Z Z Z hp274) (zf 4 fd138_1 Z Z (zl 5 pl3 Z Z (fun w hw => CellsAt.one 1 (((Own.vecArr 3 Z) w hw).ele hp274 c271) Z) (zm 6 Z Z (zm 7 Z Z ?_))))
    obtain ⟨c275, hm276⟩ := cs hm272; clear hm272
    obtain ⟨p277, hp278⟩ := hlv28_9.ix (sz := 3) ln_len c275
    refine wz 8 Z Z (QV.indexSlice sl136 Z Z Z Z hp278) (zf 9 fd138_2 Z Z (zl 10 pl2 Z Z (fun w hw => CellsAt.one 2 (((Own.vecArr 3 Z) w hw).ele hp278 c275) Z) ?_))
    obtain ⟨c279, hm280⟩ := cs hm276; clear hm276
    obtain ⟨p281, hp282⟩ := hlv3_10.ix (sz := 1) ln_len c279
    refine wz 11 Z Z (QV.indexSlice sl33 Z Z Z Z hp282) ?_
    refine WD.l 12 Z (by kernel_rfl) Z ?_
    refine (EV.storeV 1 ((ele v28_9 i20_10).v) icell_eq Z Z Z Z Z hp282 Z Z sz2 ?_)
    have hl283 : SliceLen u6 (upd v3_10 ((ele v28_9 i20_10).reg) ((ele v28_9 i20_10).v)).length := slen_upd hlv3_10
    refine WQ.block (WQ.then (WC.region (wm Z ?_)))
    obtain ⟨c284, hm285⟩ := cs hm280; clear hm280
    refine wq Z (QV.add Z Z Z Z c284) (wa Z (WL.nil ?_))
    exact WQ.again4 (upd v3_10 ((ele v28_9 i20_10).reg) ((ele v28_9 i20_10).v)) v48_10 (i20_10 + 1) uv48_10 m259 ⟨up_next hm285 hn262, hl283, hlv48_10⟩ (Nat.lt_succ_self _) ⟨Z, Z, Z, Z, Z, Z, Z, Z, Z, Z, Z, trivial⟩ (pk [0, 1, 2, 3, 4, 5])
   refine WC.region (wm Z (wm Z (wm Z ?_)))
   obtain ⟨c287, hm288⟩ := cs hm286; clear hm286
   obtain ⟨p289, hp290⟩ := hlv28_9.ix (sz := 3) ln_len c287
   refine wq Z (QV.indexSlice sl136 Z Z Z Z hp290) (wq Z (QV.loadAgg ag138 Z Z Z (fun w hw => ((Own.vecArr 3 Z) w hw).ele hp290 c287)) (WL.effect Z ?_))
   refine (EV.buildSlice (by decide) sz_136 (by decide) (by decide) (ps := [(0, .tmp 88)]) (cells := [i_ ((ele v28_9 i20_10).due), i_ ((ele v28_9 i20_10).reg), i_ ((ele v28_9 i20_10).v)]) (ec Z eN) (by kernel_rfl) (fun b291 => ?_))
   refine WL.effect Z ?_
   obtain ⟨c292, c296, hm297⟩ := cs2 hm288; clear hm288
   refine (EV.appendL (enc := Due.cells) (xs := v48_10) (ys := [(ele v28_9 i20_10)]) ((v48_10 ++ [(ele v28_9 i20_10)])) 1 (by decide) ve136 Z Z Z Z Z (Own.blkArr 0 (rows := [(ele v28_9 i20_10)].map Due.cells) Z Z (rows_len Due.cells_len)) Due.cells_len (Due.cells_one _) Z c292.1 c292.2 (fun u294 hu295 => ?_))
   refine wa Z (WL.nil (WQ.block (WQ.then (WC.region (wm Z (wq Z (QV.add Z Z Z Z c296) (wa Z (WL.nil ?_))))))))
   exact WQ.again4 v3_10 (v48_10 ++ [(ele v28_9 i20_10)]) (i20_10 + 1) u294 m259 ⟨up_next hm297 hn262, hlv3_10, hu295⟩ (Nat.lt_succ_self _) ⟨Z, Z, Z, Z, Z, Z, Z, Z, Z, Z, Z, trivial⟩ (pk [1, 2, 3, 4, 5, 6])
  refine WC.exit (te (te (WQ.block_exit ?_)))
  exact WQ.out4 v3_10 v48_10 i20_10 uv48_10 ⟨up_brk hm298 hn262, hlv3_10, hlv48_10⟩ ⟨Z, Z, Z, Z, Z, Z, Z, Z, Z, Z, Z, trivial⟩ (pk [0, 1, 2, 3, 4, 5])
 refine WC.exit (te (te (WQ.block_exit ?_)))
 exact WQ.out7 v28_9 v3_9 m13_9 now18_9 uv28_9 vm13_9 k_9 ⟨up_brk hm299 hn41, hlv28_9, hlv3_9, hAm13_9, hle_9⟩ ⟨Z, Z, Z, Z, Z, Z, Z, Z, Z, trivial⟩ (pk [0, 1, 2, 3, 4])
end Go.Proofs.Ytaimbkndebaaiac
end
section
namespace Go.Proofs.Ytaimbkndebaaiac
open Go.Rd
open TNum TLoop TKern TKeep TOrd TCpt TDep TSched1 TEmit TCheck TRegs TBound TMake TBuild TRDep TR10 TR10b TClone TNbr TSeq TR5b
namespace TDoes
theorem en13 : Go.Rd.Enters Try.prog 13 := eT Try.func13
theorem en14 : Go.Rd.Enters Try.prog 14 := eT Try.func14
theorem en27 : Go.Rd.Enters Try.prog 27 := eT Try.func27
theorem en50 : Go.Rd.Enters Try.prog 50 := eT Try.func50
theorem en51 : Go.Rd.Enters Try.prog 51 := eT Try.func51
theorem fd59_1 : FieldT Try.prog 59 1 1 := fT 0 Try.underlying59
end TDoes
open TDoes
theorem roundelaylaw_work_w {v_k__ops : Value} {k_ : Krn} {turns : Int} {r : Bool} (w : World) (hm : roundelaylaw_work_m k_ turns = some r) (h_k__ops : Arr w v_k__ops 10 (k_.ops.map Opr.cells)) : Calls Try.prog 23 #[.agg #[.int .i64 k_.pace, .int .i64 k_.stages, v_k__ops], .int .i64 turns] w (fun e w' => e = .returned (.bool r) ∧ Grow w w') := by
 unfold roundelaylaw_work_m at hm
 have hk := Base.rfl (w := w)
 refine calls_of_WC (n := 27) (args := [.agg #[i_ k_.pace, i_ k_.stages, v_k__ops], i_ turns]) Try.func23 Z Z (nl Z) ?_ (Own.startK hk (Own.start w))
 refine sr (WL.effect Z ?_)
 refine (EV.boxAgg (by decide) Z Z (fun b1 => ?_))
 refine wa Z (ns (wm Z (wq Z (QV.gtr Z Z Z Z) (wm Z (gn Z (fun hG => QV.fieldAddr fd31_1 Z Z) (gn Z (fun hG => QV.load pl3 Z hG (Own.cell 0 Z Z)) (gn Z (fun hG => QV.gtr Z hG Z Z) (wq Z (QV.pickOr Z Z Z (fun h => notF h)) (wm Z ?_)))))))))
 refine gn Z (fun hG => QV.fieldAddr fd31_0 Z Z) (gn Z (fun hG => QV.load pl3 Z hG (Own.cell 0 Z Z)) (gn Z (fun hG => QV.gtr Z hG Z Z) (wq Z (QV.pickOr Z Z Z (fun h => notF h)) (wm Z (gn Z (fun hG => QV.move Z Z) (gn Z (fun hG => QV.fieldAddr fd31_1 Z Z) (gn Z (fun hG => QV.load pl3 Z hG (Own.cell 0 Z Z)) ?_)))))))
 obtain ⟨c2, c4, hm5⟩ := cs2 hm; clear hm
 refine gn Z (fun hG => QV.add Z hG Z hG (c2 hG)) (gn Z (fun hG => QV.fieldAddr fd31_0 Z Z) (gn Z (fun hG => QV.load pl3 Z hG (Own.cell 0 Z Z)) (gn Z (fun hG => QV.mul Z hG Z hG (c4 hG)) (gn Z (fun hG => QV.gtr Z hG Z Z) (wq Z (QV.pickOr Z Z Z (fun h => notF h)) (wa Z (nt (WC.ret ?_))))))))
 obtain rfl := (eq_of_some hm5).symm
 exact WQ.ret1 Z Z fun w hw => kg hw
theorem roundelaylaw_does_w {v_l_logs v_l_body v_l_outs v_k__ops v_order v_s_bef v_s_mem : Value} {l : Lp} {t : Tgt} {k_ : Krn} {order : List Int} {s : Sta} {turns : Int} {r : Bool} (w : World) (hm : roundelaylaw_does_m l t k_ order s turns = some r) (h_l_logs : Arr w v_l_logs 1 (l.logs.map icell)) (h_l_body : Arr w v_l_body 9 (l.body.map Stm.cells)) (h_l_outs : Arr w v_l_outs 1 (l.outs.map icell)) (h_k__ops : Arr w v_k__ops 10 (k_.ops.map Opr.cells)) (h_order : Arr w v_order 1 (order.map icell)) (h_s_bef : RowsA w v_s_bef s.bef) (h_s_mem : RowsA w v_s_mem s.mem) : Calls Try.prog 24 #[.agg #[v_l_logs, v_l_body, v_l_outs], .agg #[.int .i64 t.u0, .int .i64 t.u1, .int .i64 t.u2, .int .i64 t.w0, .int .i64 t.w1, .int .i64 t.w2, .int .i64 t.regs], .agg #[.int .i64 k_.pace, .int .i64 k_.stages, v_k__ops], v_order, .agg #[v_s_bef, v_s_mem], .int .i64 turns] w (fun e w' => e = .returned (.bool r) ∧ Grow w w') := by
 unfold roundelaylaw_does_m at hm
 have hk := Base.rfl (w := w)
 refine calls_of_WC (n := 58) (args := [.agg #[v_l_logs, v_l_body, v_l_outs], .agg #[i_ t.u0, i_ t.u1, i_ t.u2, i_ t.w0, i_ t.w1, i_ t.w2, i_ t.regs], .agg #[i_ k_.pace, i_ k_.stages, v_k__ops], v_order, .agg #[v_s_bef, v_s_mem], i_ turns]) Try.func24 Z Z (nl Z) ?_ (Own.startK hk (Own.start w))
 refine sr (WL.effect Z ?_)
 refine (EV.boxAgg (by decide) Z Z (fun b1 => ?_))
 refine WL.effect Z ?_
 refine (EV.boxAgg (by decide) Z Z (fun b2 => ?_))
 refine WL.effect Z ?_
 refine (EV.boxAgg (by decide) Z Z (fun b3 => ?_))
 refine WL.effect Z ?_
 refine (EV.boxAgg (by decide) Z Z (fun b4 => ?_))
 refine wa Z (ns (wq Z (QV.loadAgg ag25 Z Z Z (Own.cellsBlk 3 Z)) (wq Z (QV.loadAgg ag28 Z Z Z (Own.cellsBlk 2 Z)) (wq Z (QV.loadAgg ag31 Z Z Z (Own.cellsBlk 1 Z)) (wm Z (wf fd50_0 Z (wl pl32 Z (Own.cell 0 Z Z) (WL.effect Z ?_))))))))
 obtain ⟨x5, hx6, hm7⟩ := bd_some hm; clear hm
 refine EV.of (C' := Own noM w [kn noM w.heap.size w w, blk b4 [v_s_bef, v_s_mem] 50, blk b3 [i_ k_.pace, i_ k_.stages, v_k__ops] 31, blk b2 t.cells 28, blk b1 [v_l_logs, v_l_body, v_l_outs] 25]) (pk [4, 0, 1, 2, 3]) ?_
 refine (EV.callR (X := Value × World) (R := []) (fun X => X.1) (fun X => []) (fun X => X.2) (fun X => Arr X.2 X.1 1 (x5.map icell)) hk (fun _ h => by cases h; decide) en13 (ec Z (ec Z (ec Z (ec Z (ec Z eN))))) (fun M w h1 h2 => have h := R10_Enter_w hx6 h_l_logs h_l_body h_l_outs h_k__ops h_order h_s_bef M w h1 h2; h) (fun X8 hF8 hle8 => ?_))
 refine wa Z (ns (wq Z (QV.loadAgg ag28 Z Z Z (Own.cellsBlk 3 Z)) (wq Z (QV.loadAgg ag31 Z Z Z (Own.cellsBlk 2 Z)) (wm Z (wf fd50_1 Z (wl pl32 Z (Own.cell 1 Z Z) (wm Z (WL.effect Z ?_))))))))
 obtain ⟨x9, hx10, hm11⟩ := bd_some hm7; clear hm7
 refine (EV.callR (X := Value × Value × World) (R := []) (fun X => .tuple #[X.1, X.2.1]) (fun X => []) (fun X => X.2.2) (fun X => Arr X.2.2 X.1 1 (x9.1.map icell) ∧ RowsA X.2.2 X.2.1 x9.2) hk (fun _ h => by cases h; decide) en50 (ec Z (ec Z (ec Z (ec Z (ec Z eN))))) (fun M w h1 h2 => have h := R5_Play_w hx10 (h_k__ops.le hle8) hF8 (h_s_mem.le hle8) M w h1 h2; h) (fun X12 hF12 hle12 => ?_))
 refine wm Z (wq Z (QV.extract Z Z Z) (wq Z (QV.extract Z Z Z) (wa Z (wa Z (ns (wq Z (QV.loadAgg ag25 Z Z Z (Own.cellsBlk 4 Z)) (wq Z (QV.loadAgg ag28 Z Z Z (Own.cellsBlk 3 Z)) (wq Z (QV.loadAgg ag31 Z Z Z (Own.cellsBlk 2 Z)) (wm Z ?_)))))))))
 refine wf fd50_0 Z (wl pl32 Z (Own.cell 1 Z Z) (wm Z (wm Z (WL.effect Z ?_))))
 obtain ⟨x13, hx14, hm15⟩ := bd_some hm11; clear hm11
 refine (EV.callR (X := Value × World) (R := []) (fun X => X.1) (fun X => []) (fun X => X.2) (fun X => Arr X.2 X.1 1 (x13.map icell)) hk (fun _ h => by cases h; decide) en14 (ec Z (ec Z (ec Z (ec Z (ec Z (ec Z (ec Z eN))))))) (fun M w h1 h2 => have h := R10_Leave_w hx14 (h_l_logs.le (hle8.trans hle12)) (h_l_body.le (hle8.trans hle12)) (h_l_outs.le (hle8.trans hle12)) (h_k__ops.le (hle8.trans hle12)) (h_order.le (hle8.trans hle12)) (h_s_bef.le (hle8.trans hle12)) hF12.1 M w h1 h2; h) (fun X16 hF16 hle16 => ?_))
 refine wa Z (ns (wq Z (QV.loadAgg ag25 Z Z Z (Own.cellsBlk 4 Z)) (wq Z (QV.loadAgg ag50 Z Z Z (Own.cellsBlk 1 Z)) (wm Z (WL.effect Z ?_)))))
 obtain ⟨x17, hx18, hm19⟩ := bd_some hm15; clear hm15
 refine (EV.callR (X := Value × Value × World) (R := []) (fun X => .agg #[X.1, X.2.1]) (fun X => []) (fun X => X.2.2) (fun X => Arr X.2.2 X.1 1 (x17.outs.map icell) ∧ RowsA X.2.2 X.2.1 x17.mem) hk (fun _ h => by cases h; decide) en51 (ec Z (ec Z (ec Z eN))) (fun M w h1 h2 => have h := R3_Play_w hx18 (h_l_logs.le ((hle8.trans hle12).trans hle16)) (h_l_body.le ((hle8.trans hle12).trans hle16)) (h_l_outs.le ((hle8.trans hle12).trans hle16)) (h_s_bef.le ((hle8.trans hle12).trans hle16)) (h_s_mem.le ((hle8.trans hle12).trans hle16)) M w h1 h2; h) (fun X20 hF20 hle20 => ?_))
 refine WL.effect Z ?_
 refine (EV.alloc (by decide) ze59 (fun b21 => ?_))
 refine WL.effect Z ?_
 refine (EV.store 0 Z Z Z Z Z Z (vs := [X20.1, X20.2.1]) (show Value.cells _ = List.toArray _ from Z) sz59 (nl Z) (oc (SliceLen.one hF20.1.lenMap) (oc (SliceLen.one hF20.2.slen) one_nil)) ?_)
 refine ns (wm Z (wf fd59_0 Z (wl pl33 Z (Own.cell 0 Z Z) ?_)))
 obtain ⟨x22, hx23, hm24⟩ := bd_some hm19; clear hm19
 refine wq Z (QV.call en12 (ec Z (ec Z eN)) (fun w hw => have h := R3_Numbers_w w hx23 ((Own.karr 1 Z hk (hF16.le hle20)) w hw) ((Own.karr 1 Z hk hF20.1) w hw); h)) (wm Z (gp Z (fun hG => QV.move Z Z) (gp Z (fun hG => QV.fieldAddr fd59_1 Z Z) (gp Z (fun hG => QV.load pl32 Z hG (Own.cell 0 Z Z)) ?_))))
 obtain ⟨x25, hx26, hm27⟩ := bdG_some hm24; clear hm24
 refine gp Z (fun hG => QV.call en27 (EvAll.cons Z hG (EvAll.cons Z hG eN)) (fun w hw => have h := R3_Words_w w (hx26 hG) (Own.krows 1 Z hk (hF12.2.le (hle16.trans hle20)) w hw) (Own.krows 1 Z hk hF20.2 w hw); h)) (wq Z (QV.pickAnd Z Z Z (fun h => h)) (wa Z (nt (WC.ret ?_))))
 obtain rfl := (eq_of_some hm27).symm
 exact WQ.ret1 Z Z fun w hw => kg hw
end Go.Proofs.Ytaimbkndebaaiac
end
section
namespace Go.Proofs.Ytaimbkndebaaiac
open Go.Rd
open TNum TLoop TKern TKeep TOrd TCpt TDep TSched1 TEmit TCheck TRegs TBound TMake TBuild TRDep TR10 TR10b TClone TNbr TSeq TR5b TDoes
namespace TLawSame
theorem en15 : Go.Rd.Enters Try.prog 15 := eT Try.func15
theorem en21 : Go.Rd.Enters Try.prog 21 := eT Try.func21
theorem en23 : Go.Rd.Enters Try.prog 23 := eT Try.func23
theorem en24 : Go.Rd.Enters Try.prog 24 := eT Try.func24
end TLawSame
open TLawSame
theorem roundelaylaw_BuildSame_w {v_l_logs v_l_body v_l_outs v_s_bef v_s_mem : Value} {l : Lp} {t : Tgt} {s : Sta} {turns : Int} {r : Bool} (w : World) (hm : roundelaylaw_BuildSame_m l t s turns = some r) (h_l_logs : Arr w v_l_logs 1 (l.logs.map icell)) (h_l_body : Arr w v_l_body 9 (l.body.map Stm.cells)) (h_l_outs : Arr w v_l_outs 1 (l.outs.map icell)) (h_s_bef : RowsA w v_s_bef s.bef) (h_s_mem : RowsA w v_s_mem s.mem) : Calls Try.prog 5 #[.agg #[v_l_logs, v_l_body, v_l_outs], .agg #[.int .i64 t.u0, .int .i64 t.u1, .int .i64 t.u2, .int .i64 t.w0, .int .i64 t.w1, .int .i64 t.w2, .int .i64 t.regs], .agg #[v_s_bef, v_s_mem], .int .i64 turns] w (fun e w' => e = .returned (.bool r) ∧ Grow w w') := by
 unfold roundelaylaw_BuildSame_m at hm
 have hk := Base.rfl (w := w)
 refine calls_of_WC (n := 74) (args := [.agg #[v_l_logs, v_l_body, v_l_outs], .agg #[i_ t.u0, i_ t.u1, i_ t.u2, i_ t.w0, i_ t.w1, i_ t.w2, i_ t.regs], .agg #[v_s_bef, v_s_mem], i_ turns]) Try.func5 Z Z (nl Z) ?_ (Own.startK hk (Own.start w))
 refine sr (WL.effect Z ?_)
 refine (EV.boxAgg (by decide) Z Z (fun b1 => ?_))
 refine WL.effect Z ?_
 refine (EV.boxAgg (by decide) Z Z (fun b2 => ?_))
 refine WL.effect Z ?_
 refine (EV.boxAgg (by decide) Z Z (fun b3 => ?_))
 refine wa Z (nt (WC.seq (sr (wq Z (QV.loadAgg ag25 Z Z Z (Own.cellsBlk 2 Z)) (wq Z (QV.loadAgg ag28 Z Z Z (Own.cellsBlk 1 Z)) ?_)))))
 obtain ⟨x4, hx5, hm6⟩ := bd_some hm; clear hm
 refine wq Z (QV.call en16 (ec Z (ec Z eN)) (fun w hw => have h := R6_May_w w hx5 ((Own.karr 3 Z hk h_l_logs) w hw) ((Own.karr 3 Z hk h_l_body) w hw) ((Own.karr 3 Z hk h_l_outs) w hw); h)) (wq Z (QV.not Z Z) (wm Z (gn Z (fun hG => QV.loadAgg ag25 Z Z Z (Own.cellsBlk 2 Z)) (gn Z (fun hG => QV.loadAgg ag50 Z Z Z (Own.cellsBlk 0 Z)) ?_))))
 obtain ⟨x7, hx8, hm9⟩ := bdG_some hm6; clear hm6
 refine gn Z (fun hG => QV.call en21 (EvAll.cons Z hG (EvAll.cons Z hG eN)) (fun w hw => have h := R2_Fits_w w (hx8 hG) ((Own.karr 3 Z hk h_l_logs) w hw) ((Own.karr 3 Z hk h_l_body) w hw) ((Own.karr 3 Z hk h_l_outs) w hw) (Own.krows 3 Z hk h_s_bef w hw) (Own.krows 3 Z hk h_s_mem w hw); h)) (gn Z (fun hG => QV.not Z hG) (wq Z (QV.pickOr Z Z Z (fun h => notF h)) (wm Z (gn Z (fun hG => QV.move Z Z) (gn Z (fun hG => QV.lss Z hG Z Z) (wq Z (QV.pickOr Z Z Z (fun h => notF h)) (wm Z (gn Z (fun hG => QV.move Z Z) (gn Z (fun hG => QV.gtr Z hG Z Z) ?_)))))))))
 refine wq Z (QV.pickOr Z Z Z (fun h => notF h)) (nt ?_)
 refine wc Z hm9 (fun h10 hm11 => ?_) (fun h10 hm12 => ?_) <;> clear hm9
 ·skip
  refine sr (wa Z (nt (WC.ret (tr ?_))))
  obtain rfl := (eq_of_some hm11).symm
  exact WQ.ret1 Z Z fun w hw => kg hw
 refine sk (WQ.then (sr (wq Z (QV.loadAgg ag25 Z Z Z (Own.cellsBlk 2 Z)) (wq Z (QV.loadAgg ag28 Z Z Z (Own.cellsBlk 1 Z)) (WL.effect Z ?_)))))
 obtain ⟨x13, hx14, hm15⟩ := bd_some hm12; clear hm12
 refine EV.of (C' := Own noM w [kn noM w.heap.size w w, blk b3 [v_s_bef, v_s_mem] 50, blk b2 t.cells 28, blk b1 [v_l_logs, v_l_body, v_l_outs] 25]) (pk [3, 0, 1, 2]) ?_
 refine (EV.callR (X := Value × Value × World) (R := []) (fun X => .tuple #[.agg #[i_ x13.1.pace, i_ x13.1.stages, X.1], X.2.1, i_ x13.2.2]) (fun X => []) (fun X => X.2.2) (fun X => Arr X.2.2 X.1 10 (x13.1.ops.map Opr.cells) ∧ Arr X.2.2 X.2.1 1 (x13.2.1.map icell)) hk (fun _ h => by cases h; decide) en15 (ec Z (ec Z eN)) (fun M w h1 h2 => have h := build_Build_w hx14 h_l_logs h_l_body h_l_outs M w h1 h2; h) (fun X16 hF16 hle16 => ?_))
 refine wm Z (wq Z (QV.extract Z Z Z) (wq Z (QV.extract Z Z Z) (wq Z (QV.extract Z Z Z) (WL.effect Z ?_))))
 refine (EV.alloc (by decide) ze31 (fun b17 => ?_))
 refine WL.effect Z ?_
 refine (EV.store 0 Z Z Z Z Z Z (vs := [i_ x13.1.pace, i_ x13.1.stages, X16.1]) (show Value.cells _ = List.toArray _ from Z) sz31 (nl Z) (oc Z (oc Z (oc (SliceLen.one hF16.1.lenMap) one_nil))) ?_)
 refine wa Z (wa Z (nt (WC.seq (sr (wm Z (wq Z (QV.eql Z Z Z Z) (nt ?_)))))))
 refine wc Z hm15 (fun h18 hm19 => ?_) (fun h18 hm22 => ?_) <;> clear hm15
 ·skip
  refine sr (wf fd28_2 Z (wl pl3 Z (Own.cell 3 Z Z) (wf fd25_1 Z (wl pl23 Z (Own.cell 4 Z Z) (wq Z (QV.lenS Try.underlying23 Z Z (h_l_body.le hle16).lenMap) ?_)))))
  obtain ⟨c20, hm21⟩ := cs hm19; clear hm19
  refine wq Z (QV.mul Z Z Z Z c20) (wq Z (QV.lss Z Z Z Z) (wa Z (nt (WC.ret (tr ?_)))))
  obtain rfl := (eq_of_some hm21).symm
  exact WQ.ret1 Z Z fun w hw => kg hw
 refine sk (WQ.then (sr (wq Z (QV.loadAgg ag25 Z Z Z (Own.cellsBlk 4 Z)) (wq Z (QV.loadAgg ag28 Z Z Z (Own.cellsBlk 3 Z)) (wq Z (QV.loadAgg ag31 Z Z Z (Own.cellsBlk 0 Z)) (wm Z (WL.effect Z ?_)))))))
 obtain ⟨x23, hx24, hm25⟩ := bd_some hm22; clear hm22
 refine EV.of (C' := Own noM w [kn noM w.heap.size w X16.2.2, blk b17 [i_ x13.1.pace, i_ x13.1.stages, X16.1] 31, blk b3 [v_s_bef, v_s_mem] 50, blk b2 t.cells 28, blk b1 [v_l_logs, v_l_body, v_l_outs] 25]) (pk [1, 0, 2, 3, 4]) ?_
 refine (EV.callR (X := Value × World) (R := []) (fun X => .tuple #[X.1, .bool x23.2]) (fun X => []) (fun X => X.2) (fun X => Arr X.2 X.1 3 (x23.1.map Off.cells)) hk (fun _ h => by cases h; decide) en22 (ec Z (ec Z (ec Z (ec Z eN)))) (fun M w h1 h2 => have h := R10_Layout_w hx24 (h_l_logs.le hle16) (h_l_body.le hle16) (h_l_outs.le hle16) hF16.1 hF16.2 M w h1 h2; h) (fun X26 hF26 hle26 => ?_))
 refine wm Z (wq Z (QV.extract Z Z Z) (wq Z (QV.extract Z Z Z) (wa Z (wa Z (nt (WC.seq (sr (wm Z (wq Z (QV.neq Z Z Z Z) (wm Z (gn Z (fun hG => QV.move Z Z) ?_)))))))))))
 refine gn Z (fun hG => QV.not Z hG) (wq Z (QV.pickOr Z Z Z (fun h => notF h)) (nt ?_))
 refine wc Z hm25 (fun h27 hm28 => ?_) (fun h27 hm29 => ?_) <;> clear hm25
 ·skip
  refine sr (wa Z (nt (WC.ret (tr ?_))))
  obtain rfl := (eq_of_some hm28).symm
  exact WQ.ret1 Z Z fun w hw => kg hw
 refine sk (WQ.then (sr (wq Z (QV.loadAgg ag31 Z Z Z (Own.cellsBlk 1 Z)) (wm Z ?_))))
 obtain ⟨x30, hx31, hm32⟩ := bd_some hm29; clear hm29
 refine wq Z (QV.call en23 (ec Z (ec Z eN)) (fun w hw => have h := roundelaylaw_work_w w hx31 ((Own.karr 0 Z hk (hF16.1.le hle26)) w hw); h)) (wm Z (gn Z (fun hG => QV.loadAgg ag25 Z Z Z (Own.cellsBlk 4 Z)) (gn Z (fun hG => QV.loadAgg ag28 Z Z Z (Own.cellsBlk 3 Z)) (gn Z (fun hG => QV.loadAgg ag31 Z Z Z (Own.cellsBlk 1 Z)) (gn Z (fun hG => QV.move Z Z) (gn Z (fun hG => QV.loadAgg ag50 Z Z Z (Own.cellsBlk 2 Z)) (gn Z (fun hG => QV.move Z Z) ?_)))))))
 obtain ⟨x33, hx34, hm35⟩ := bdG_some hm32; clear hm32
 refine gn Z (fun hG => QV.call en24 (EvAll.cons Z hG (EvAll.cons Z hG (EvAll.cons Z hG (EvAll.cons Z hG (EvAll.cons Z hG (EvAll.cons Z hG eN)))))) (fun w hw => have h := roundelaylaw_does_w w (hx34 hG) ((Own.karr 0 Z hk (h_l_logs.le (hle16.trans hle26))) w hw) ((Own.karr 0 Z hk (h_l_body.le (hle16.trans hle26))) w hw) ((Own.karr 0 Z hk (h_l_outs.le (hle16.trans hle26))) w hw) ((Own.karr 0 Z hk (hF16.1.le hle26)) w hw) ((Own.karr 0 Z hk (hF16.2.le hle26)) w hw) (Own.krows 0 Z hk (h_s_bef.le (hle16.trans hle26)) w hw) (Own.krows 0 Z hk (h_s_mem.le (hle16.trans hle26)) w hw); h)) (wq Z (QV.pickOr Z Z Z (fun h => notF h)) (wa Z (nt (WC.ret ?_))))
 obtain rfl := (eq_of_some hm35).symm
 exact WQ.ret1 Z Z fun w hw => kg hw
end Go.Proofs.Ytaimbkndebaaiac
end