/- Texts for the law, 5. -/
import Derived.Test.YtaimbkndebaaiabZLkernelRuns4
import Derived.Test.YtaimbkndebaaiabProg
import Derived.KernelRfl
import Derived.SizedLaws
set_option linter.unusedVariables false
set_option linter.unusedSimpArgs false
set_option maxRecDepth 8000
section
namespace Go.Proofs.Ytaimbkndebaaiab
open Go.Rd
open TNum TLoop TStable TMach TMach2
namespace TKern
theorem ag27 : AggT Try.prog 27 3 := ⟨_, Try.underlying27, rfl, by kernel_rfl⟩
theorem ag90 : AggT Try.prog 90 2 := ⟨_, Try.underlying90, rfl, by kernel_rfl⟩
theorem ar90 : ArrayT Try.prog 90 2 1 := ⟨_, Try.underlying90, by kernel_rfl⟩
theorem en47 : Go.Rd.Enters Try.prog 47 := eT Try.func47
theorem en61 : Go.Rd.Enters Try.prog 61 := eT Try.func61
theorem en90 : Go.Rd.Enters Try.prog 90 := eT Try.func90
theorem en91 : Go.Rd.Enters Try.prog 91 := eT Try.func91
theorem en92 : Go.Rd.Enters Try.prog 92 := eT Try.func92
theorem fd27_1 : FieldT Try.prog 27 1 1 := fT 0 Try.underlying27
theorem kt90 : KeyT Try.prog 90 kP := KeyT.pair Try.underlying90 Try.underlying3 (by kernel_rfl)
theorem mt88 : MapT Try.prog 88 90 3 := Try.underlying88
theorem sz49 : SizeT Try.prog 49 3 := by unfold SizeT; kernel_rfl
theorem sz90 : SizeT Try.prog 90 2 := by unfold SizeT; kernel_rfl
theorem sz_47 : SliceZ Try.prog 47 59 9 [.int .i64 0, .int .i64 0, .int .i64 0, .int .i64 0, .int .i64 0, .int .i64 0, .int .i64 0, .int .i64 0, .int .i64 0] := ⟨Try.underlying47, by kernel_rfl⟩
theorem ze49 : ZeroT Try.prog 49 [.slice none 0 0, .slice none 0 0, .slice none 0 0] := by unfold ZeroT; kernel_rfl
theorem ze90 : ZeroT Try.prog 90 [.int .i64 0, .int .i64 0] := by unfold ZeroT; kernel_rfl
theorem zv3i64v : ZVal Try.prog 3 (i64v 0) := by unfold ZVal; kernel_rfl
end TKern
open TKern
theorem kernel_Stmt_w {o : Opr} {r : Stm} (w : World) (hm : kernel_Stmt_m o = some r)  : Calls Try.prog 90 #[.agg #[.int .i64 o.slot, .int .i64 o.stage, .int .i64 o.op, .int .i64 o.dest, .int .i64 o.a, .int .i64 o.b, .int .i64 o.ar, .int .i64 o.sp, .int .i64 o.pl, .int .i64 o.n]] w (fun e w' => e = .returned (.agg #[.int .i64 r.op, .int .i64 r.a.st, .int .i64 r.a.bk, .int .i64 r.b.st, .int .i64 r.b.bk, .int .i64 r.ar, .int .i64 r.sp, .int .i64 r.pl, .int .i64 r.n]) ∧ Grow w w') := by
 unfold kernel_Stmt_m at hm
 have hk := Base.rfl (w := w)
 refine calls_of_WC (n := 14) (args := [.agg #[i_ o.slot, i_ o.stage, i_ o.op, i_ o.dest, i_ o.a, i_ o.b, i_ o.ar, i_ o.sp, i_ o.pl, i_ o.n]]) Try.func90 Z Z (nl Z) ?_ (Own.startK hk (Own.start w))
 refine sr (WL.effect Z ?_)
 refine (EV.boxAgg (by decide) Z Z (fun b1 => ?_))
 refine WL.effect Z ?_
 refine (EV.alloc (by decide) ze59 (fun b2 => ?_))
 refine ns (wf fd45_2 Z (wl pl3 Z (Own.cell 1 Z Z) (wf fd45_6 Z (wl pl3 Z (Own.cell 1 Z Z) (wf fd45_7 Z (wl pl3 Z (Own.cell 1 Z Z) (wf fd45_8 Z (wl pl3 Z (Own.cell 1 Z Z) (wf fd45_9 Z ?_)))))))))
 refine wl pl2 Z (Own.cell 1 Z Z) (wq Z (QV.build (ps := [(0, .tmp 4), (3, .tmp 6), (4, .tmp 8), (5, .tmp 10), (6, .tmp 12)]) (cells := [i_ o.op, i_ 0, i_ 0, i_ 0, i_ 0, i_ o.ar, i_ o.sp, i_ o.pl, i_ o.n]) (ec Z (ec Z (ec Z (ec Z (ec Z eN))))) (by kernel_rfl)) (WL.effect Z ?_))
 refine (EV.store 0 Z Z Z Z Z Z (vs := [i_ o.op, i_ 0, i_ 0, i_ 0, i_ 0, i_ o.ar, i_ o.sp, i_ o.pl, i_ o.n]) (show Value.cells _ = List.toArray _ from Z) sz59 (nl Z) (oc Z (oc Z (oc Z (oc Z (oc Z (oc Z (oc Z (oc Z (oc Z one_nil))))))))) ?_)
 refine nt (WC.ret ?_)
 obtain rfl := (eq_of_some hm).symm
 exact WQ.retCell Z ag59 Z Z (Own.cellsBlk 0 Z) fun w hw => kg hw
theorem kernel_Time_w {v_k__ops : Value} {k_ : Krn} {o : Opr} {r : Int} (w : World) (hm : kernel_Time_m k_ o = some r) (h_k__ops : Arr w v_k__ops 10 (k_.ops.map Opr.cells)) : Calls Try.prog 92 #[.agg #[.int .i64 k_.pace, .int .i64 k_.stages, v_k__ops], .agg #[.int .i64 o.slot, .int .i64 o.stage, .int .i64 o.op, .int .i64 o.dest, .int .i64 o.a, .int .i64 o.b, .int .i64 o.ar, .int .i64 o.sp, .int .i64 o.pl, .int .i64 o.n]] w (fun e w' => e = .returned (.int .i64 r) ∧ Grow w w') := by
 unfold kernel_Time_m at hm
 have hk := Base.rfl (w := w)
 refine calls_of_WC (n := 13) (args := [.agg #[i_ k_.pace, i_ k_.stages, v_k__ops], .agg #[i_ o.slot, i_ o.stage, i_ o.op, i_ o.dest, i_ o.a, i_ o.b, i_ o.ar, i_ o.sp, i_ o.pl, i_ o.n]]) Try.func92 Z Z (nl Z) ?_ (Own.startK hk (Own.start w))
 refine sr (WL.effect Z ?_)
 refine (EV.boxAgg (by decide) Z Z (fun b1 => ?_))
 refine WL.effect Z ?_
 refine (EV.boxAgg (by decide) Z Z (fun b2 => ?_))
 refine wa Z (ns (wf fd45_1 Z (wl pl3 Z (Own.cell 0 Z Z) (wf fd27_0 Z (wl pl3 Z (Own.cell 1 Z Z) ?_)))))
 obtain ⟨c3, c5, hm6⟩ := cs2 hm; clear hm
 refine wq Z (QV.mul Z Z Z Z c3) (wf fd45_0 Z (wl pl3 Z (Own.cell 0 Z Z) (wq Z (QV.add Z Z Z Z c5) (wa Z (nt (WC.ret ?_))))))
 obtain rfl := (eq_of_some hm6).symm
 exact WQ.ret1 Z Z fun w hw => kg hw
theorem kernel_op_c1_w {p_n p_t : Addr} {r_ from_ n : Int} {t : Tgt} {r : Bool} (w : World) (hm : kernel_op_c1_m r_ from_ n t = some r) (hp_n : CellsAt w p_n [.int .i64 n] 0) (hp_t : CellsAt w p_t [.int .i64 t.u0, .int .i64 t.u1, .int .i64 t.u2, .int .i64 t.w0, .int .i64 t.w1, .int .i64 t.w2, .int .i64 t.regs] 0) : Calls Try.prog 91 #[.int .i64 r_, .int .i64 from_, .pointer (some p_n), .pointer (some p_t)] w (fun e w' => e = .returned (.bool r) ∧ Grow w w') := by
 unfold kernel_op_c1_m at hm
 have hk := Base.rfl (w := w)
 refine calls_of_WC (n := 24) (args := [i_ r_, i_ from_, .pointer (some p_n), .pointer (some p_t)]) Try.func91 Z Z (nl Z) ?_ (Own.startK hk (Own.start w))
 refine sr (wa Z (ns (wm Z (wq Z (QV.eql Z Z Z Z) (wm Z (gn Z (fun hG => QV.load pl3 Z Z (fun w hw => CellsAt.one 0 ((Own.kcells 0 Z hk hp_n) w hw) Z)) (gn Z (fun hG => QV.move Z Z) (gn Z (fun hG => QV.gtr Z hG Z hG) (gn Z (fun hG => QV.move Z hG) ?_)))))))))
 refine gpC Z (fun hG => QV.move Z Z) (gpC Z (fun hG => QV.gtr Z hG Z Z) (gn Z (fun hG => QV.pickAnd Z hG Z (fun h => andT hG h)) (gn Z (fun hG => QV.move Z hG) (gpC Z (fun hG => QV.move Z Z) (gpC Z (fun hG => QV.fieldAddr fd24_2 Z Z) (gpC Z (fun hG => QV.load pl3 Z hG (fun w hw => CellsAt.one 6 ((Own.kcells 0 Z hk hp_t) w hw) Z)) (gpC Z (fun hG => QV.lss Z hG Z hG) (gn Z (fun hG => QV.pickAnd Z hG Z (fun h => andT hG h)) (wq Z (QV.pickOr Z Z Z (fun h => notF h)) ?_)))))))))
 refine wa Z (nt (WC.ret ?_))
 obtain rfl := (eq_of_some hm).symm
 exact WQ.ret1 Z Z fun w hw => kg hw
theorem kernel_op_w {v_k__ops v_logs : Value} {t : Tgt} {k_ : Krn} {o : Opr} {logs : List Int} {r : Bool} (w : World) (hm : kernel_op_m t k_ o logs = some r) (h_k__ops : Arr w v_k__ops 10 (k_.ops.map Opr.cells)) (h_logs : Arr w v_logs 1 (logs.map icell)) : Calls Try.prog 47 #[.agg #[.int .i64 t.u0, .int .i64 t.u1, .int .i64 t.u2, .int .i64 t.w0, .int .i64 t.w1, .int .i64 t.w2, .int .i64 t.regs], .agg #[.int .i64 k_.pace, .int .i64 k_.stages, v_k__ops], .agg #[.int .i64 o.slot, .int .i64 o.stage, .int .i64 o.op, .int .i64 o.dest, .int .i64 o.a, .int .i64 o.b, .int .i64 o.ar, .int .i64 o.sp, .int .i64 o.pl, .int .i64 o.n], v_logs] w (fun e w' => e = .returned (.bool r) ∧ Grow w w') := by
 unfold kernel_op_m at hm
 have hk := Base.rfl (w := w)
 refine calls_of_WC (n := 88) (args := [.agg #[i_ t.u0, i_ t.u1, i_ t.u2, i_ t.w0, i_ t.w1, i_ t.w2, i_ t.regs], .agg #[i_ k_.pace, i_ k_.stages, v_k__ops], .agg #[i_ o.slot, i_ o.stage, i_ o.op, i_ o.dest, i_ o.a, i_ o.b, i_ o.ar, i_ o.sp, i_ o.pl, i_ o.n], v_logs]) Try.func47 Z Z (nl Z) ?_ (Own.startK hk (Own.start w))
 refine sr (WL.effect Z ?_)
 refine (EV.boxAgg (by decide) Z Z (fun b1 => ?_))
 refine WL.effect Z ?_
 refine (EV.boxAgg (by decide) Z Z (fun b2 => ?_))
 refine WL.effect Z ?_
 refine (EV.boxAgg (by decide) Z Z (fun b3 => ?_))
 refine wa Z (ns (wq Z (QV.loadAgg ag45 Z Z Z (Own.cellsBlk 0 Z)) ?_))
 obtain ⟨x4, hx5, hm6⟩ := bd_some hm; clear hm
 refine wq Z (QV.call en90 (ec Z eN) (fun w hw => have h := kernel_Stmt_w w hx5 ; h)) (WL.effect Z ?_)
 refine (EV.alloc (by decide) ze59 (fun b7 => ?_))
 refine WL.effect Z ?_
 refine (EV.store 0 Z Z Z Z Z Z (vs := x4.cells) (show Value.cells _ = List.toArray _ from Z) sz59 (nl Z) (oc Z (oc Z (oc Z (oc Z (oc Z (oc Z (oc Z (oc Z (oc Z one_nil))))))))) ?_)
 refine ns (wq Z (QV.loadAgg ag59 Z Z Z (Own.cellsBlk 0 Z)) (WL.effect Z ?_))
 obtain ⟨x8, hx9, hm10⟩ := bd_some hm6; clear hm6
 refine EV.of (C' := Own noM w [kn noM w.heap.size w w, blk b7 x4.cells 59, blk b3 o.cells 45, blk b2 [i_ k_.pace, i_ k_.stages, v_k__ops] 27, blk b1 t.cells 24]) (pk [4, 0, 1, 2, 3]) ?_
 refine (EV.callR (X := Value × World) (R := []) (fun X => X.1) (fun X => []) (fun X => X.2) (fun X => Arr X.2 X.1 2 (x8.map Rf.cells)) hk (fun _ h => by cases h; decide) en62 (ec Z eN) (fun M w h1 h2 => have h := loop_Uses_w hx9  M w h1 h2; h) (fun X11 hF11 hle11 => ?_))
 refine wq Z (QV.lenS Try.underlying106 Z Z hF11.lenMap) (WL.effect Z ?_)
 refine (EV.alloc (by decide) ze3 (fun b12 => ?_))
 refine WL.effect Z ?_
 refine (EV.store 0 Z Z Z Z Z Z (vs := [i_ (ln x8)]) (show Value.cells _ = List.toArray _ from Z) sz3 (nl Z) (oc Z one_nil) ?_)
 refine ns (wq Z (QV.makeFunc (ec Z (ec Z eN))) (wa Z (nt (WC.seq (sr (wl pl3 Z (Own.cell 0 Z Z) (wq Z (QV.gtr Z Z Z Z) (nt ?_))))))))
 obtain ⟨o13, hj14, hm15⟩ := bd_some hm10; clear hm10
 refine WC.joint4 (H2 := [blk b12 [i_ (ln x8)] 3, kn noM w.heap.size w X11.2, blk b3 o.cells 45, blk b2 [i_ k_.pace, i_ k_.stages, v_k__ops] 27, blk b1 t.cells 24]) (τ := [u_ 3 _, u_ 4 _, u_ 5 _, u_ 6 _, u_ 9 _, u_ 11 _]) (fun (b7c1_1 : Int) (b7c2_1 : Int) (b7c3_1 : Int) (b7c4_1 : Int) => []) (fun b7c1_1 b7c2_1 b7c3_1 b7c4_1 => [blk b7 [i_ x4.op, i_ b7c1_1, i_ b7c2_1, i_ b7c3_1, i_ b7c4_1, i_ x4.ar, i_ x4.sp, i_ x4.pl, i_ x4.n] 59]) (fun b7c1_1 b7c2_1 b7c3_1 b7c4_1 => o13 = .go (b7c1_1, b7c2_1, b7c3_1, b7c4_1)) ⟨Z, Z, Z, Z, Z, Z, trivial⟩ (pk [0, 1, 3, 4, 5]) ?_ ?_
 ·skip
  rintro b7c1_1 b7c2_1 b7c3_1 b7c4_1 rfl
  refine sr (wm Z (wq Z (QV.build (ps := [(0, .const (i_ 1))]) (cells := [i_ 1, i_ 0, i_ 0, i_ 0, i_ 0, i_ 0, i_ 0, i_ 0, i_ 0]) (ec Z eN) (by kernel_rfl)) (wq Z (QV.loadAgg ag59 Z Z Z (Own.cellsBlk 0 Z)) (WL.effect Z ?_))))
  refine (EV.buildSlice (by decide) sz_47 (by decide) (by decide) (ps := [(0, .tmp 27), (1, .tmp 28)]) (cells := [i_ 1, i_ 0, i_ 0, i_ 0, i_ 0, i_ 0, i_ 0, i_ 0, i_ 0, i_ x4.op, i_ b7c1_1, i_ b7c2_1, i_ b7c3_1, i_ b7c4_1, i_ x4.ar, i_ x4.sp, i_ x4.pl, i_ x4.n]) (ec Z (ec Z eN)) (by kernel_rfl) (fun b16 => ?_))
  refine wq Z (QV.buildS (ps := [(0, .tmp 26), (1, .tmp 29)]) (cells := [v_logs, (blkSlice b16 2 2), .slice none 0 0]) (css := [[v_logs], [(blkSlice b16 2 2)]]) (ec Z (ec Z eN)) (CellsAll.cons (SliceLen.cells (h_logs.le hle11).lenMap) (CellsAll.cons (SliceLen.cells SliceLen.blk) CellsAll.nil)) (by kernel_rfl)) (WL.effect Z ?_)
  refine (EV.alloc (by decide) ze49 (fun b17 => ?_))
  refine WL.effect Z ?_
  refine (EV.store 0 Z Z Z Z Z Z (vs := [v_logs, (blkSlice b16 2 2), .slice none 0 0]) (show Value.cells _ = List.toArray _ from Z) sz49 (nl Z) (oc (SliceLen.one (h_logs.le hle11).lenMap) (oc (SliceLen.one SliceLen.blk) (oc Z one_nil))) ?_)
  refine ns (wf fd45_0 Z (wl pl3 Z (Own.cell 5 Z Z) (wq Z (QV.geq Z Z Z Z) (wm Z (gp Z (fun hG => QV.fieldAddr fd45_0 Z Z) (gp Z (fun hG => QV.load pl3 Z hG (Own.cell 5 Z Z)) (gp Z (fun hG => QV.fieldAddr fd27_0 Z Z) (gp Z (fun hG => QV.load pl3 Z hG (Own.cell 6 Z Z)) (gp Z (fun hG => QV.lss Z hG Z hG) ?_)))))))))
  refine wq Z (QV.pickAnd Z Z Z (fun h => h)) (wm Z (gp Z (fun hG => QV.fieldAddr fd45_1 Z Z) (gp Z (fun hG => QV.load pl3 Z hG (Own.cell 5 Z Z)) (gp Z (fun hG => QV.geq Z hG Z Z) (wq Z (QV.pickAnd Z Z Z (fun h => h)) (wm Z (gp Z (fun hG => QV.fieldAddr fd45_1 Z Z) (gp Z (fun hG => QV.load pl3 Z hG (Own.cell 5 Z Z)) (gp Z (fun hG => QV.fieldAddr fd27_1 Z Z) ?_)))))))))
  refine gp Z (fun hG => QV.load pl3 Z hG (Own.cell 6 Z Z)) (gp Z (fun hG => QV.lss Z hG Z hG) (wq Z (QV.pickAnd Z Z Z (fun h => h)) (wm Z (gp Z (fun hG => QV.loadAgg ag27 Z Z Z (Own.cellsBlk 6 Z)) (gp Z (fun hG => QV.loadAgg ag45 Z Z Z (Own.cellsBlk 5 Z)) ?_)))))
  obtain ⟨x18, hx19, hm20⟩ := bdG_some hm15; clear hm15
  refine gp Z (fun hG => QV.call en92 (EvAll.cons Z hG (EvAll.cons Z hG eN)) (fun w hw => have h := kernel_Time_w w (hx19 hG) ((Own.karr 4 Z hk (h_k__ops.le hle11)) w hw); h)) (gp Z (fun hG => QV.leq Z hG Z Z) (wq Z (QV.pickAnd Z Z Z (fun h => h)) (wa Z (ns (wm Z (wm Z (gp Z (fun hG => QV.loadAgg ag49 Z Z Z (Own.cellsBlk 0 Z)) ?_)))))))
  obtain ⟨x21, hx22, hm23⟩ := bdG_some hm20; clear hm20
  refine gp Z (fun hG => QV.call en61 (EvAll.cons Z hG eN) (fun w hw => have h := loop_May_w w (hx22 hG) ((Own.karr 4 Z hk (h_logs.le hle11)) w hw) ((Own.blkArr 1 (rows := [(Stm.mk 1 (Rf.mk 0 0) (Rf.mk 0 0) 0 0 0 0), (Stm.mk x4.op (Rf.mk b7c1_1 b7c2_1) (Rf.mk b7c3_1 b7c4_1) x4.ar x4.sp x4.pl x4.n)].map Stm.cells) Z Z (rows_len Stm.cells_len)) w hw) Arr.nil; h)) (wq Z (QV.pickAnd Z Z Z (fun h => h)) (wm Z (gp Z (fun hG => QV.fieldAddr fd45_3 Z Z) (gp Z (fun hG => QV.load pl3 Z hG (Own.cell 5 Z Z)) (gp Z (fun hG => QV.geq Z hG Z Z) (wq Z (QV.pickAnd Z Z Z (fun h => h)) (wm Z (gp Z (fun hG => QV.fieldAddr fd45_3 Z Z) (gp Z (fun hG => QV.load pl3 Z hG (Own.cell 5 Z Z)) ?_)))))))))
  refine gp Z (fun hG => QV.fieldAddr fd24_2 Z Z) (gp Z (fun hG => QV.load pl3 Z hG (Own.cell 7 Z Z)) (gp Z (fun hG => QV.lss Z hG Z hG) (wq Z (QV.pickAnd Z Z Z (fun h => h)) (wm Z (gp Z (fun hG => QV.move Z Z) (gp Z (fun hG => QV.fieldAddr fd45_4 Z Z) (gp Z (fun hG => QV.load pl3 Z hG (Own.cell 5 Z Z)) ?_)))))))
  obtain ⟨x24, hx25, hm26⟩ := bdG_some hm23; clear hm23
  refine gp Z (fun hG => QV.callV en91 Z hG (EvAll.cons Z hG (ec Z eN)) (fun w hw => have h := kernel_op_c1_w w (hx25 hG) (Own.cellsBlk 3 Z w hw) (Own.cellsBlk 7 Z w hw); h)) (wq Z (QV.pickAnd Z Z Z (fun h => h)) (wm Z (gp Z (fun hG => QV.move Z Z) (gp Z (fun hG => QV.fieldAddr fd45_5 Z Z) (gp Z (fun hG => QV.load pl3 Z hG (Own.cell 5 Z Z)) ?_)))))
  obtain ⟨x27, hx28, hm29⟩ := bdG_some hm26; clear hm26
  refine gp Z (fun hG => QV.callV en91 Z hG (EvAll.cons Z hG (ec Z eN)) (fun w hw => have h := kernel_op_c1_w w (hx28 hG) (Own.cellsBlk 3 Z w hw) (Own.cellsBlk 7 Z w hw); h)) (wq Z (QV.pickAnd Z Z Z (fun h => h)) (wa Z (nt (WC.ret ?_))))
  obtain rfl := (eq_of_some hm29).symm
  exact WQ.ret1 Z Z fun w hw => kg hw
 refine WC.cond Z (fun h30 => ?_) (fun h30 => ?_)
 ·skip
  have hm31 := br_t h30 hj14; clear hj14
  refine WC.region (wq Z (QV.build (ps := []) (cells := [i_ 0, i_ 0]) eN (by kernel_rfl)) (wq Z (QV.build (ps := []) (cells := [i_ 0, i_ 0]) eN (by kernel_rfl)) (wf fd59_1 Z (WL.effect Z ?_))))
  refine (EV.store 2 Z Z Z Z Z Z (vs := [i_ 0, i_ 0]) (show Value.cells _ = List.toArray _ from Z) sz57 (nl Z) (oc Z (oc Z one_nil)) ?_)
  refine wf fd59_2 Z (WL.effect Z ?_)
  refine (EV.store 2 Z Z Z Z Z Z (vs := [i_ 0, i_ 0]) (show Value.cells _ = List.toArray _ from Z) sz57 (nl Z) (oc Z (oc Z one_nil)) ?_)
  refine WL.nil ?_
  exact WQ.out4 0 0 0 0 (eq_of_some hm31) ⟨Z, Z, Z, Z, Z, Z, trivial⟩ (pk [2, 0, 1, 3, 4, 5])
 have hm32 := br_f h30 hj14; clear hj14
 refine sk ?_
 exact WQ.out4 x4.a.st x4.a.bk x4.b.st x4.b.bk (eq_of_some hm32) ⟨Z, Z, Z, Z, Z, Z, trivial⟩ (pk [2, 0, 1, 3, 4, 5])
theorem kernel_May_w {v_k__ops v_logs : Value} {t : Tgt} {k_ : Krn} {logs : List Int} {r : Bool} (w : World) (hm : kernel_May_m t k_ logs = some r) (h_k__ops : Arr w v_k__ops 10 (k_.ops.map Opr.cells)) (h_logs : Arr w v_logs 1 (logs.map icell)) : Calls Try.prog 15 #[.agg #[.int .i64 t.u0, .int .i64 t.u1, .int .i64 t.u2, .int .i64 t.w0, .int .i64 t.w1, .int .i64 t.w2, .int .i64 t.regs], .agg #[.int .i64 k_.pace, .int .i64 k_.stages, v_k__ops], v_logs] w (fun e w' => e = .returned (.bool r) ∧ Grow w w') := by
 unfold kernel_May_m at hm
 have hk := Base.rfl (w := w)
 refine calls_of_WC (n := 82) (args := [.agg #[i_ t.u0, i_ t.u1, i_ t.u2, i_ t.w0, i_ t.w1, i_ t.w2, i_ t.regs], .agg #[i_ k_.pace, i_ k_.stages, v_k__ops], v_logs]) Try.func15 Z Z (nl Z) ?_ (Own.startK hk (Own.start w))
 refine sr (WL.effect Z ?_)
 refine (EV.boxAgg (by decide) Z Z (fun b1 => ?_))
 refine WL.effect Z ?_
 refine (EV.boxAgg (by decide) Z Z (fun b2 => ?_))
 refine wa Z (nt (WC.seq (sr (wq Z (QV.loadAgg ag24 Z Z Z (Own.cellsBlk 1 Z)) ?_))))
 obtain ⟨x3, hx4, hm5⟩ := bd_some hm; clear hm
 refine wq Z (QV.call en46 (ec Z eN) (fun w hw => have h := target_May_w w hx4 ; h)) (wq Z (QV.not Z Z) (wm Z (gn Z (fun hG => QV.fieldAddr fd27_0 Z Z) (gn Z (fun hG => QV.load pl3 Z hG (Own.cell 0 Z Z)) (gn Z (fun hG => QV.lss Z hG Z Z) (wq Z (QV.pickOr Z Z Z (fun h => notF h)) (wm Z (gn Z (fun hG => QV.fieldAddr fd27_0 Z Z) (gn Z (fun hG => QV.load pl3 Z hG (Own.cell 0 Z Z)) ?_)))))))))
 refine gn Z (fun hG => QV.gtr Z hG Z Z) (wq Z (QV.pickOr Z Z Z (fun h => notF h)) (wm Z (gn Z (fun hG => QV.fieldAddr fd27_1 Z Z) (gn Z (fun hG => QV.load pl3 Z hG (Own.cell 0 Z Z)) (gn Z (fun hG => QV.lss Z hG Z Z) (wq Z (QV.pickOr Z Z Z (fun h => notF h)) (wm Z (gn Z (fun hG => QV.fieldAddr fd27_1 Z Z) (gn Z (fun hG => QV.load pl3 Z hG (Own.cell 0 Z Z)) ?_)))))))))
 refine gn Z (fun hG => QV.gtr Z hG Z Z) (wq Z (QV.pickOr Z Z Z (fun h => notF h)) (wm Z (gn Z (fun hG => QV.fieldAddr fd27_2 Z Z) (gn Z (fun hG => QV.load pl25 Z hG (Own.cell 0 Z Z)) (gn Z (fun hG => QV.lenS Try.underlying25 Z hG h_k__ops.lenMap) (gn Z (fun hG => QV.lss Z hG Z Z) (wq Z (QV.pickOr Z Z Z (fun h => notF h)) (wm Z (gn Z (fun hG => QV.fieldAddr fd27_2 Z Z) ?_)))))))))
 refine gn Z (fun hG => QV.load pl25 Z hG (Own.cell 0 Z Z)) (gn Z (fun hG => QV.lenS Try.underlying25 Z hG h_k__ops.lenMap) (gn Z (fun hG => QV.gtr Z hG Z Z) (wq Z (QV.pickOr Z Z Z (fun h => notF h)) (nt ?_))))
 refine wc Z hm5 (fun h6 hm7 => ?_) (fun h6 hm8 => ?_) <;> clear hm5
 ·skip
  refine sr (wa Z (nt (WC.ret (tr ?_))))
  obtain rfl := (eq_of_some hm7).symm
  exact WQ.ret1 Z Z fun w hw => kg hw
 refine sk (WQ.then (sr (WL.effect Z ?_)))
 refine (EV.makeMap (ke := kP) (ve := i64v) (by decide) (fun b9 => ?_))
 refine wa Z (nt (WC.seq (sr (wf fd27_2 Z (wl pl25 Z (Own.cell 1 Z Z) (wq Z (QV.lenS Try.underlying25 Z Z h_k__ops.lenMap) (wm Z (nt ?_))))))))
 obtain ⟨o10, ho11, hm12⟩ := bd_some hm8; clear hm8; obtain ⟨n13, ho14⟩ := lp_some ho11
 refine WC.bloop2 (H2 := [blk b2 [i_ k_.pace, i_ k_.stages, v_k__ops] 27, blk b1 t.cells 24, kn noM w.heap.size w w]) (τ := [u_ 2 _, u_ 3 _, u_ 4 _, u_ 7 _, u_ 48 _, u_ 49 _]) (fun (m9n_1 : List ((Int × Int) × Int)) (x50_1 : Int) => [(50, (true, i_ x50_1))]) (fun m9n_1 x50_1 => [mapR b9 kP i64v m9n_1]) (fun m9n_1 x50_1 m => iter (kernel_May_L0 t k_ logs) m (m9n_1, x50_1) = some o10) (fun m9n_1 x50_1 => o10 = .go (m9n_1, x50_1)) ([] : List ((Int × Int) × Int)) 0 n13 ho14 ⟨Z, Z, Z, Z, Z, Z, Z, trivial⟩ (pk [0, 1, 2, 3]) ?_ ?_
 ·skip
  rintro m9n_1 x50_1 rfl
  refine WQ.then (sr (wa Z (nt (WC.ret ?_))))
  obtain rfl := (eq_of_some hm12).symm
  exact WQ.ret1 Z Z fun w hw => kg hw
 rintro m9n_1 x50_1 m15 hI16
 obtain ⟨m17, s18, rfl, hm19, hn20⟩ := iter_step hI16; clear hI16; unfold kernel_May_L0 at hm19; simp only at hm19
 refine sr (wq Z (QV.lss Z Z Z Z) (nt (WC.seq ?_)))
 refine wc Z hm19 (fun h21 hm22 => ?_) (fun h21 hm48 => ?_) <;> clear hm19
 ·skip
  refine sk (WQ.then (WC.seq (WC.block (sr ?_))))
  obtain ⟨c23, hm24⟩ := cs hm22; clear hm22
  obtain ⟨p25, hp26⟩ := h_k__ops.lenMap.ix (sz := 10) ln_len c23
  refine wq Z (QV.indexSlice sl25 Z Z Z Z hp26) (wq Z (QV.loadAgg ag45 Z Z Z (fun w hw => ((Own.karr 3 Z hk h_k__ops) w hw).ele hp26 c23)) (WL.effect Z ?_))
  refine (EV.alloc (by decide) ze45 (fun b27 => ?_))
  refine WL.effect Z ?_
  refine (EV.store 0 Z Z Z Z Z Z (vs := (Opr.cells (ele k_.ops x50_1))) (show Value.cells _ = List.toArray _ from Z) sz45 (nl Z) (oc Z (oc Z (oc Z (oc Z (oc Z (oc Z (oc Z (oc Z (oc Z (oc Z one_nil)))))))))) ?_)
  refine nt (WC.seq (sr (wq Z (QV.loadAgg ag24 Z Z Z (Own.cellsBlk 3 Z)) (wq Z (QV.loadAgg ag27 Z Z Z (Own.cellsBlk 2 Z)) (wq Z (QV.loadAgg ag45 Z Z Z (Own.cellsBlk 0 Z)) (wm Z ?_))))))
  obtain ⟨x28, hx29, hm30⟩ := bd_some hm24; clear hm24
  refine wq Z (QV.call en47 (ec Z (ec Z (ec Z (ec Z eN)))) (fun w hw => have h := kernel_op_w w hx29 ((Own.karr 4 Z hk h_k__ops) w hw) ((Own.karr 4 Z hk h_logs) w hw); h)) (wq Z (QV.not Z Z) (nt ?_))
  refine wc Z hm30 (fun h31 hm32 => ?_) (fun h31 hm33 => ?_) <;> clear hm30
  ·skip
   refine sr (wa Z (nt (WC.ret (tr (kr (tr (tr (kr (tr (tr ?_))))))))))
   obtain rfl := up_ret hm32 hn20
   obtain rfl := (eq_of_some hm12).symm
   exact WQ.ret1 Z Z fun w hw => kg hw
  refine sk (WQ.then (WC.seq (WC.dr (m := 8) (S := Own noM w [kn noM w.heap.size w w, blk b27 (Opr.cells (ele k_.ops x50_1)) 45, mapR b9 kP i64v m9n_1, blk b2 [i_ k_.pace, i_ k_.stages, v_k__ops] 27, blk b1 t.cells 24]) (by kernel_rfl) (by kernel_rfl) (pk [4, 0, 1, 2, 3]) (zf 0 fd45_0 Z Z (zl 1 pl3 Z Z (Own.cell 1 Z Z) (zf 2 fd45_2 Z Z (zl 3 pl3 Z Z (Own.cell 1 Z Z) ?_)))))))
  obtain ⟨x34, hx35, hm36⟩ := bd_some hm33; clear hm33
  refine wz 4 Z Z (QV.call en48 (ec Z eN) (fun w hw => have h := num_Class_w w hx35 ; h)) (wz 5 Z Z (QV.build (ps := [(0, .tmp 61), (1, .tmp 64)]) (cells := [i_ ((ele k_.ops x50_1).slot), i_ x34]) (ec Z (ec Z eN)) (by kernel_rfl)) ?_)
  refine WD.o 6 Z (by kernel_rfl) Z ?_
  refine (EV.alloc (by decide) ze90 (fun b37 => ?_))
  refine WD.b (H' := [kn noM w.heap.size w w, blk b37 [i_ 0, i_ 0] 90, blk b27 (Opr.cells (ele k_.ops x50_1)) 45, mapR b9 kP i64v m9n_1, blk b2 [i_ k_.pace, i_ k_.stages, v_k__ops] 27, blk b1 t.cells 24]) (pk [5, 0, 1, 2, 3, 4]) (pk [0, 2, 3, 4, 5]) ?_
  refine WD.l 7 Z (by kernel_rfl) Z ?_
  refine (EV.store 0 Z Z Z Z Z Z (vs := [i_ ((ele k_.ops x50_1).slot), i_ x34]) (show Value.cells _ = List.toArray _ from Z) sz90 (nl Z) (oc Z (oc Z one_nil)) ?_)
  refine WQ.then (WC.seq (WC.dr (m := 7) (S := Own noM w [kn noM w.heap.size w w, blk b37 [i_ ((ele k_.ops x50_1).slot), i_ x34] 90, blk b27 (Opr.cells (ele k_.ops x50_1)) 45, mapW b9 kP i64v 0 m9n_1, blk b2 [i_ k_.pace, i_ k_.stages, v_k__ops] 27, blk b1 t.cells 24]) (by kernel_rfl) (by kernel_rfl) (fun w hw => Own.mapWeak 3 0 Z (hw.pick [5, 0, 1, 2, 3, 4] (by decide))) (zm 0 Z Z (wz 1 Z Z (QV.loadAgg ag90 Z Z Z (Own.cellsBlk 1 Z)) (wz 2 Z Z (QV.lookupW (k := ((ele k_.ops x50_1).slot, x34)) 3 0 mt88 kt90 zv3i64v Z Z Z Z Z) ?_)))))
  obtain ⟨c38, c41, hm42⟩ := cs2 hm36; clear hm36
  refine wz 3 Z Z (QV.add Z Z Z Z c38) ?_
  refine WD.o 4 Z (by kernel_rfl) Z ?_
  refine (EV.mapEntry (by decide) ((ele k_.ops x50_1).slot, x34) 2 0 mt88 kt90 zv3i64v Z Z Z Z Z (fun s40 => ?_))
  refine WD.b (H' := [kn noM w.heap.size w w, blk b37 [i_ ((ele k_.ops x50_1).slot), i_ x34] 90, blk b27 (Opr.cells (ele k_.ops x50_1)) 45, mapW b9 kP i64v 0 m9n_1, blk b2 [i_ k_.pace, i_ k_.stages, v_k__ops] 27, blk b1 t.cells 24]) (fun w hw => Own.midWeak 3 Z (hw.pick [5, 0, 1, 2, 3, 4] (by decide))) (pk [0, 1, 2, 3, 4, 5]) ?_
  refine wz 5 Z Z (QV.extract Z Z Z) ?_
  refine WD.l 6 Z (by kernel_rfl) Z ?_
  refine (EV.entryStore (ke := kP) (ve := i64v) ((ele k_.ops x50_1).slot, x34) 2 ((mget m9n_1 ((ele k_.ops x50_1).slot, x34) 0) + 1) s40 Z Z Z Z Z Z Z ?_)
  refine WQ.then (WC.seq (WC.dr (m := 9) (S := Own noM w [kn noM w.heap.size w w, blk b37 [i_ ((ele k_.ops x50_1).slot), i_ x34] 90, blk b27 (Opr.cells (ele k_.ops x50_1)) 45, mapR b9 kP i64v (mput m9n_1 ((ele k_.ops x50_1).slot, x34) ((mget m9n_1 ((ele k_.ops x50_1).slot, x34) 0) + 1)), blk b2 [i_ k_.pace, i_ k_.stages, v_k__ops] 27, blk b1 t.cells 24]) (by kernel_rfl) (by kernel_rfl) (pk [5, 0, 1, 2, 3, 4]) (zm 0 Z Z (wz 1 Z Z (QV.loadAgg ag90 Z Z Z (Own.cellsBlk 1 Z)) (wz 2 Z Z (QV.lookup (k := ((ele k_.ops x50_1).slot, x34)) 3 0 mt88 kt90 zv3i64v Z Z Z Z Z) (wz 3 Z Z (QV.indexArray ar90 Z Z Z Z (by decide) (by decide)) (zl 4 pl3 Z Z (Own.cell 1 Z Z) (zf 5 fd24_0 Z Z (wz 6 Z Z (QV.indexArray ar22 Z Z Z Z c41.1 c41.2) ?_)))))))))
  refine zl 7 pl3 Z Z (Own.cellSym 5 Z (sel3_get (off := 0) (i := x34) c41.1 c41.2 Z Z Z) (addr_sym _ _ _)) (wz 8 Z Z (QV.gtr Z Z Z Z) ?_)
  refine WD.e (by kernel_rfl) ?_
  refine WQ.then ?_
  refine wc Z hm42 (fun h43 hm44 => ?_) (fun h43 hm45 => ?_) <;> clear hm42
  ·skip
   refine sr (wa Z (nt (WC.ret (kr (tr (tr (kr (tr (tr ?_)))))))))
   obtain rfl := up_ret hm44 hn20
   obtain rfl := (eq_of_some hm12).symm
   exact WQ.ret1 Z Z fun w hw => kg hw
  refine sk (WQ.block (WQ.then (WC.region ?_)))
  obtain ⟨c46, hm47⟩ := cs hm45; clear hm45
  refine wq Z (QV.add Z Z Z Z c46) (wm Z (WL.nil ?_))
  exact WQ.again2 (mput m9n_1 ((ele k_.ops x50_1).slot, x34) ((mget m9n_1 ((ele k_.ops x50_1).slot, x34) 0) + 1)) (x50_1 + 1) m17 (up_next hm47 hn20) (Nat.lt_succ_self _) ⟨Z, Z, Z, Z, Z, Z, Z, trivial⟩ (pk [2, 3, 4, 5])
 refine WC.exit (te (te (WQ.block_exit ?_)))
 exact WQ.out2 m9n_1 x50_1 (up_brk hm48 hn20) ⟨Z, Z, Z, Z, Z, Z, Z, trivial⟩ (pk [0, 1, 2, 3])
end Go.Proofs.Ytaimbkndebaaiab
end
section
namespace Go.Proofs.Ytaimbkndebaaiab
open Go.Rd
open TNum TLoop TStable TMach TMach2 TKern
namespace TClone
theorem sz_28 : SliceZ Try.prog 28 2 1 [.int .i64 0] := ⟨Try.underlying28, by kernel_rfl⟩
theorem ve28 : VecT Try.prog 28 2 1 8 := ⟨Try.underlying28, by kernel_rfl, by decide⟩
end TClone
open TClone
theorem slClw {v_s : Value} {s r : List Int} {K0 : World} (hm : slClm v_s s = some r) (h_s : Arr K0 v_s 1 (s.map icell)) (M : Nat → Prop) (w : World) (hk : Base M K0 w) (hw0 : Own M w [] w) : Calls Try.prog 54 #[v_s] w (fun e w' => ∃ X : Value × World, e = .returned (X.1) ∧ Own M w (kn M w.heap.size K0 X.2 :: [vec X.1 2 1 (List.map icell r)]) w' ∧ SliceLen X.1 (r).length) := by
 unfold slClm at hm
 refine calls_of_WC (n := 8) (args := [v_s]) Try.func54 Z Z (nl Z) ?_ (Own.startK hk hw0)
 refine sr (wa Z (nt (WC.seq (sr (wm Z (wq Z (QV.eqlNil Try.underlying28 Z Z h_s.lenMap) (nt ?_)))))))
 refine wc Z hm (fun h1 hm2 => ?_) (fun h1 hm4 => ?_) <;> clear hm
 ·skip
  refine sr (wa Z (nt (WC.ret (tr ?_))))
  obtain rfl := (eq_of_some hm2).symm
  refine WK.of (fun w hw => hw.vecNil (E := 2) (sz := 1) (enc := icell)) ?_
  refine WQ.ret1 Z Z (fun w hw => ?_)
  exact ⟨(.slice none 0 0, K0), Z, hw.pick [1, 0] (by decide), SliceLen.nil⟩
 refine sk (WQ.then (sr (WL.effect Z ?_)))
 refine (EV.buildSlice0 (by decide) sz_28 (fun b5 => ?_))
 refine wm Z (WL.effect Z ?_)
 refine EV.of (fun w hw => hw.blkVec icell ([] : List Int) Z icell_len (nl Z)) ?_
 obtain ⟨c6, hm7⟩ := cs hm4; clear hm4
 refine (EV.appendL (enc := icell) (xs := []) (ys := s) (([] ++ s)) 0 (by decide) ve28 Z Z Z Z Z (Own.karr 1 Z hk h_s) icell_len (icell_one _) Z c6.1 c6.2 (fun u8 hu9 => ?_))
 refine wa Z (nt (WC.ret ?_))
 obtain rfl := (eq_of_some hm7).symm
 refine WQ.ret1 Z Z (fun w hw => ?_)
 exact ⟨(u8, K0), Z, hw.pick [1, 0] (by decide), hu9⟩
theorem Clone_w {v_s : Value} {s r : List Int} {K0 : World} (hm : Clone_m s = some r) (h_s : Arr K0 v_s 1 (s.map icell)) (M : Nat → Prop) (w : World) (hk : Base M K0 w) (hw0 : Own M w [] w) : Calls Try.prog 54 #[v_s] w (fun e w' => ∃ X : Value × World, e = .returned (X.1) ∧ Own M w (kn M w.heap.size K0 X.2 :: [vec X.1 2 1 (r.map icell)]) w' ∧ SliceLen X.1 (r).length) := by
  obtain ⟨h1, h2⟩ := ck_some hm
  obtain rfl := eq_of_some h2
  refine slClw ?_ h_s M w hk hw0
  unfold slClm
  cases hn : isNilS v_s with
  | true =>
    have := isNilS_len h_s.lenMap hn
    rw [List.length_eq_zero_iff.1 this]; rfl
  | false => simp [br, ck_yes h1]
end Go.Proofs.Ytaimbkndebaaiab
end
section
namespace Go.Proofs.Ytaimbkndebaaiab
open Go.Rd
open TNum TLoop TStable TMach TMach2 TKern TClone
namespace TNbr
end TNbr
open TNbr
theorem R3_Numbers_w {v_a v_b : Value} {a b : List Int} {r : Bool} (w : World) (hm : R3_Numbers_m a b = some r) (h_a : Arr w v_a 1 (a.map icell)) (h_b : Arr w v_b 1 (b.map icell)) : Calls Try.prog 21 #[v_a, v_b] w (fun e w' => e = .returned (.bool r) ∧ Grow w w') := by
 unfold R3_Numbers_m at hm
 have hk := Base.rfl (w := w)
 refine calls_of_WC (n := 26) (args := [v_a, v_b]) Try.func21 Z Z (nl Z) ?_ (Own.startK hk (Own.start w))
 refine sr (wa Z (nt (WC.seq (sr (wm Z (wq Z (QV.lenS Try.underlying28 Z Z h_a.lenMap) (wm Z (wq Z (QV.lenS Try.underlying28 Z Z h_b.lenMap) (wq Z (QV.neq Z Z Z Z) (nt ?_))))))))))
 refine wc Z hm (fun h1 hm2 => ?_) (fun h1 hm3 => ?_) <;> clear hm
 ·skip
  refine sr (wa Z (nt (WC.ret (tr ?_))))
  obtain rfl := (eq_of_some hm2).symm
  exact WQ.ret1 Z Z fun w hw => kg hw
 refine sk (WQ.then (WC.seq (sr (wa Z (nt ?_)))))
 obtain ⟨o4, ho5, hm6⟩ := bd_some hm3; clear hm3; obtain ⟨n7, ho8⟩ := lp_some ho5
 refine WC.bloop1 (H2 := [kn noM w.heap.size w w]) (τ := [u_ 0 _, u_ 1 _]) (fun (i5_1 : Int) => [(5, (true, i_ i5_1))]) (fun i5_1 => []) (fun i5_1 m => iter (R3_Numbers_L0 a b) m i5_1 = some o4) (fun i5_1 => o4 = .go i5_1) 0 n7 ho8 ⟨Z, Z, Z, trivial⟩ (pk [0]) ?_ ?_
 ·skip
  rintro i5_1 rfl
  refine WQ.then (sr (wa Z (nt (WC.ret ?_))))
  obtain rfl := (eq_of_some hm6).symm
  exact WQ.ret1 Z Z fun w hw => kg hw
 rintro i5_1 m9 hI10
 obtain ⟨m11, s12, rfl, hm13, hn14⟩ := iter_step hI10; clear hI10; unfold R3_Numbers_L0 at hm13
 refine WC.seq (sr (wm Z (wm Z (wq Z (QV.lenS Try.underlying28 Z Z h_a.lenMap) (wq Z (QV.lss Z Z Z Z) (nt ?_))))))
 refine wc Z hm13 (fun h15 hm16 => ?_) (fun h15 hm30 => ?_) <;> clear hm13
 ·skip
  refine sk (WQ.then (WC.seq (WC.block (WC.seq (WC.dr (m := 9) (by kernel_rfl) (by kernel_rfl) (fun w hw => hw) (zm 0 Z Z (zm 1 Z Z ?_)))))))
  obtain ⟨c17, hm18⟩ := cs hm16; clear hm16
  obtain ⟨p19, hp20⟩ := h_a.lenMap.ix (sz := 1) ln_len c17
  refine wz 2 Z Z (QV.indexSlice sl28 Z Z Z Z hp20) (zl 3 pl2 Z Z (fun w hw => CellsAt.one 0 (((Own.karr 0 Z hk h_a) w hw).ele hp20 c17) Z) (zm 4 Z Z (zm 5 Z Z ?_)))
  obtain ⟨c21, hm22⟩ := cs hm18; clear hm18
  obtain ⟨p23, hp24⟩ := h_b.lenMap.ix (sz := 1) ln_len c21
  refine wz 6 Z Z (QV.indexSlice sl28 Z Z Z Z hp24) (zl 7 pl2 Z Z (fun w hw => CellsAt.one 0 (((Own.karr 0 Z hk h_b) w hw).ele hp24 c21) Z) (wz 8 Z Z (QV.neq Z Z Z Z) ?_))
  refine WD.e (by kernel_rfl) ?_
  refine WQ.then ?_
  refine wc Z hm22 (fun h25 hm26 => ?_) (fun h25 hm27 => ?_) <;> clear hm22
  ·skip
   refine sr (wa Z (nt (WC.ret (kr (tr (tr (kr (tr (tr ?_)))))))))
   obtain rfl := up_ret hm26 hn14
   obtain rfl := (eq_of_some hm6).symm
   exact WQ.ret1 Z Z fun w hw => kg hw
  refine sk (WQ.block (WQ.then (WC.region (wm Z ?_))))
  obtain ⟨c28, hm29⟩ := cs hm27; clear hm27
  refine wq Z (QV.add Z Z Z Z c28) (wa Z (WL.nil ?_))
  exact WQ.again1 (i5_1 + 1) m11 (up_next hm29 hn14) (Nat.lt_succ_self _) ⟨Z, Z, Z, trivial⟩ (pk [0])
 refine WC.exit (te (te (WQ.block_exit ?_)))
 exact WQ.out1 i5_1 (up_brk hm30 hn14) ⟨Z, Z, Z, trivial⟩ (pk [0])
end Go.Proofs.Ytaimbkndebaaiab
end
section
namespace Go.Proofs.Ytaimbkndebaaiab
open Go.Rd
open TNum TLoop TStable TMach TMach2 TKern TClone TNbr
namespace TSeq
theorem en21 : Go.Rd.Enters Try.prog 21 := eT Try.func21
theorem en54 : Go.Rd.Enters Try.prog 54 := eT Try.func54
theorem en58 : Go.Rd.Enters Try.prog 58 := eT Try.func58
theorem en59 : Go.Rd.Enters Try.prog 59 := eT Try.func59
theorem en60 : Go.Rd.Enters Try.prog 60 := eT Try.func60
theorem sz_29 : SliceZ Try.prog 29 28 1 [.slice none 0 0] := ⟨Try.underlying29, by kernel_rfl⟩
theorem ve29 : VecT Try.prog 29 28 1 24 := ⟨Try.underlying29, by kernel_rfl, by decide⟩
end TSeq
open TSeq
theorem seq_Copy_w {v_l : Value} {l r : List (List Int)} {K0 : World} (hm : seq_Copy_m l = some r) (h_l : RowsA K0 v_l l) (M : Nat → Prop) (w : World) (hk : Base M K0 w) (hw0 : Own M w [] w) : Calls Try.prog 55 #[v_l] w (fun e w' => ∃ X : Value × (List Value) × World, e = .returned (X.1) ∧ Own M w (kn M w.heap.size K0 X.2.2 :: [grid X.1 X.2.1 28 2 r]) w' ∧ SliceLen X.1 (r).length ∧ GL X.2.1 r) := by
 unfold seq_Copy_m at hm
 refine calls_of_WC (n := 19) (args := [v_l]) Try.func55 Z Z (nl Z) ?_ (Own.startK hk hw0)
 refine sr (wa Z (ns (wa Z (nt (WC.seq (sr (wm Z (wq Z (QV.lenS Try.underlying29 Z Z h_l.slen) (wm Z (nt ?_))))))))))
 refine WK.of (fun w hw => hw.gridNil (E1 := 28) (E2 := 2)) ?_
 obtain ⟨o2, ho3, hm4⟩ := bd_some hm; clear hm; obtain ⟨n5, ho6⟩ := lp_some ho3
 refine WC.bloop5 (H2 := []) (τ := [u_ 6 _, u_ 7 _]) (fun (v1_1 : List (List Int)) (x8_1 : Int) (uv1_1 : Value) (hsv1_1 : List Value) (k_1 : World) => [(3, (true, uv1_1)), (8, (true, i_ x8_1))]) (fun v1_1 x8_1 uv1_1 hsv1_1 k_1 => [grid uv1_1 hsv1_1 28 2 v1_1, kn M w.heap.size K0 k_1]) (fun v1_1 x8_1 uv1_1 hsv1_1 k_1 m => iter (seq_Copy_L0 l) m (v1_1, x8_1) = some o2 ∧ SliceLen uv1_1 v1_1.length ∧ GL hsv1_1 v1_1 ∧ Le K0 k_1) (fun v1_1 x8_1 uv1_1 hsv1_1 k_1 => o2 = .go (v1_1, x8_1) ∧ SliceLen uv1_1 v1_1.length ∧ GL hsv1_1 v1_1 ∧ Le K0 k_1) [] 0 nilS [] K0 n5 ⟨ho6, SliceLen.nil, GL.nil, (Le.refl _)⟩ ⟨Z, Z, Z, Z, trivial⟩ (pk [0, 1]) ?_ ?_
 ·skip
  rintro v1_1 x8_1 uv1_1 hsv1_1 k_1 ⟨rfl, hlv1_1, hgv1_1, hle_1⟩
  refine WQ.then (sr (wm Z (wa Z (nt (WC.ret ?_)))))
  obtain rfl := (eq_of_some hm4).symm
  refine WQ.ret1 Z Z (fun w hw => ?_)
  exact ⟨(uv1_1, hsv1_1, k_1), Z, hw.pick [1, 0] (by decide), hlv1_1, hgv1_1⟩
 rintro v1_1 x8_1 uv1_1 hsv1_1 k_1 m7 ⟨hI8, hlv1_1, hgv1_1, hle_1⟩
 obtain ⟨m9, s10, rfl, hm11, hn12⟩ := iter_step hI8; clear hI8; unfold seq_Copy_L0 at hm11; simp only at hm11
 refine sr (wq Z (QV.lss Z Z Z Z) (nt (WC.seq ?_)))
 refine wc Z hm11 (fun h13 hm14 => ?_) (fun h13 hm35 => ?_) <;> clear hm11
 ·skip
  refine sk (WQ.then (WC.seq (WC.block (sr ?_))))
  obtain ⟨c15, hm16⟩ := cs hm14; clear hm14
  obtain ⟨p17, u19, hp18, hc20, hA21⟩ := (h_l.le hle_1).ix c15
  refine wq Z (QV.indexSlice sl29 Z Z Z Z hp18) (wl pl28 Z (fun w hw => CellsAt.one 0 ((Own.kcells 1 Z hk hc20) w hw) Z) (wa Z (nr (wm Z (wm Z (WL.effect Z ?_))))))
  obtain ⟨x22, hx23, hm24⟩ := bd_some hm16; clear hm16
  refine EV.of (C' := Own M w [kn M w.heap.size K0 k_1, grid uv1_1 hsv1_1 28 2 v1_1]) (pk [1, 0]) ?_
  refine (EV.callR (X := Value × World) (R := []) (fun X => X.1) (fun X => [vec X.1 2 1 (List.map icell x22)]) (fun X => X.2) (fun X => SliceLen X.1 (x22).length) hk (fun _ h => by cases h; decide) en54 (ec Z eN) (fun M w h1 h2 => have h := Clone_w hx23 hA21 M w h1 h2; h) (fun X25 hF25 hle25 => ?_))
  refine WL.effect Z ?_
  refine (EV.buildSlice (by decide) sz_29 (by decide) (by decide) (ps := [(0, .tmp 14)]) (cells := [X25.1]) (ec Z eN) (filled1 hF25) (fun b27 => ?_))
  refine WL.effect Z ?_
  obtain ⟨c28, c33, hm34⟩ := cs2 hm24; clear hm24
  refine EV.of (C' := Own M w [grid uv1_1 hsv1_1 28 2 v1_1, vec X25.1 2 1 (List.map icell x22), blk b27 [X25.1] 28, kn M w.heap.size K0 X25.2]) (pk [3, 2, 0, 1]) ?_
  refine (EV.appendG (by decide) ve29 Z Z Z Z hF25 (Own.blkArr 2 (rows := [[X25.1]]) Z Z (rows_one)) c28 hgv1_1 (fun u30 hu31 => ?_))
  have hg32 := hgv1_1.snoc hF25
  refine wa Z (WL.nil (WQ.block (WQ.then (WC.region (wq Z (QV.add Z Z Z Z c33) (wm Z (WL.nil ?_)))))))
  exact WQ.again5 (v1_1 ++ [x22]) (x8_1 + 1) u30 (hsv1_1 ++ [X25.1]) X25.2 m9 ⟨up_next hm34 hn12, hu31, hg32, (hle_1.trans hle25)⟩ (Nat.lt_succ_self _) ⟨Z, Z, Z, Z, trivial⟩ (pk [0, 2])
 refine WC.exit (te (te (WQ.block_exit ?_)))
 exact WQ.out5 v1_1 x8_1 uv1_1 hsv1_1 k_1 ⟨up_brk hm35 hn12, hlv1_1, hgv1_1, hle_1⟩ ⟨Z, Z, Z, Z, trivial⟩ (pk [0, 1])
theorem R3_Words_w {v_a v_b : Value} {a b : List (List Int)} {r : Bool} (w : World) (hm : R3_Words_m a b = some r) (h_a : RowsA w v_a a) (h_b : RowsA w v_b b) : Calls Try.prog 22 #[v_a, v_b] w (fun e w' => e = .returned (.bool r) ∧ Grow w w') := by
 unfold R3_Words_m at hm
 have hk := Base.rfl (w := w)
 refine calls_of_WC (n := 27) (args := [v_a, v_b]) Try.func22 Z Z (nl Z) ?_ (Own.startK hk (Own.start w))
 refine sr (wa Z (nt (WC.seq (sr (wm Z (wq Z (QV.lenS Try.underlying29 Z Z h_a.slen) (wm Z (wq Z (QV.lenS Try.underlying29 Z Z h_b.slen) (wq Z (QV.neq Z Z Z Z) (nt ?_))))))))))
 refine wc Z hm (fun h1 hm2 => ?_) (fun h1 hm3 => ?_) <;> clear hm
 ·skip
  refine sr (wa Z (nt (WC.ret (tr ?_))))
  obtain rfl := (eq_of_some hm2).symm
  exact WQ.ret1 Z Z fun w hw => kg hw
 refine sk (WQ.then (WC.seq (sr (wa Z (nt ?_)))))
 obtain ⟨o4, ho5, hm6⟩ := bd_some hm3; clear hm3; obtain ⟨n7, ho8⟩ := lp_some ho5
 refine WC.bloop1 (H2 := [kn noM w.heap.size w w]) (τ := [u_ 0 _, u_ 1 _]) (fun (i5_1 : Int) => [(5, (true, i_ i5_1))]) (fun i5_1 => []) (fun i5_1 m => iter (R3_Words_L0 a b) m i5_1 = some o4) (fun i5_1 => o4 = .go i5_1) 0 n7 ho8 ⟨Z, Z, Z, trivial⟩ (pk [0]) ?_ ?_
 ·skip
  rintro i5_1 rfl
  refine WQ.then (sr (wa Z (nt (WC.ret ?_))))
  obtain rfl := (eq_of_some hm6).symm
  exact WQ.ret1 Z Z fun w hw => kg hw
 rintro i5_1 m9 hI10
 obtain ⟨m11, s12, rfl, hm13, hn14⟩ := iter_step hI10; clear hI10; unfold R3_Words_L0 at hm13
 refine WC.seq (sr (wm Z (wm Z (wq Z (QV.lenS Try.underlying29 Z Z h_a.slen) (wq Z (QV.lss Z Z Z Z) (nt ?_))))))
 refine wc Z hm13 (fun h15 hm16 => ?_) (fun h15 hm39 => ?_) <;> clear hm13
 ·skip
  refine sk (WQ.then (WC.seq (WC.block (WC.seq (WC.dr (m := 10) (by kernel_rfl) (by kernel_rfl) (fun w hw => hw) (zm 0 Z Z (zm 1 Z Z ?_)))))))
  obtain ⟨c17, hm18⟩ := cs hm16; clear hm16
  obtain ⟨p19, u21, hp20, hc22, hA23⟩ := h_a.ix c17
  refine wz 2 Z Z (QV.indexSlice sl29 Z Z Z Z hp20) (zl 3 pl28 Z Z (fun w hw => CellsAt.one 0 ((Own.kcells 0 Z hk hc22) w hw) Z) (zm 4 Z Z (zm 5 Z Z ?_)))
  obtain ⟨c24, hm25⟩ := cs hm18; clear hm18
  obtain ⟨p26, u28, hp27, hc29, hA30⟩ := h_b.ix c24
  refine wz 6 Z Z (QV.indexSlice sl29 Z Z Z Z hp27) (zl 7 pl28 Z Z (fun w hw => CellsAt.one 0 ((Own.kcells 0 Z hk hc29) w hw) Z) ?_)
  obtain ⟨x31, hx32, hm33⟩ := bd_some hm25; clear hm25
  refine wz 8 Z Z (QV.call en21 (ec Z (ec Z eN)) (fun w hw => have h := R3_Numbers_w w hx32 ((Own.karr 0 Z hk hA23) w hw) ((Own.karr 0 Z hk hA30) w hw); h)) (wz 9 Z Z (QV.not Z Z) ?_)
  refine WD.e (by kernel_rfl) ?_
  refine WQ.then ?_
  refine wc Z hm33 (fun h34 hm35 => ?_) (fun h34 hm36 => ?_) <;> clear hm33
  ·skip
   refine sr (wa Z (nt (WC.ret (kr (tr (tr (kr (tr (tr ?_)))))))))
   obtain rfl := up_ret hm35 hn14
   obtain rfl := (eq_of_some hm6).symm
   exact WQ.ret1 Z Z fun w hw => kg hw
  refine sk (WQ.block (WQ.then (WC.region (wm Z ?_))))
  obtain ⟨c37, hm38⟩ := cs hm36; clear hm36
  refine wq Z (QV.add Z Z Z Z c37) (wa Z (WL.nil ?_))
  exact WQ.again1 (i5_1 + 1) m11 (up_next hm38 hn14) (Nat.lt_succ_self _) ⟨Z, Z, Z, trivial⟩ (pk [0])
 refine WC.exit (te (te (WQ.block_exit ?_)))
 exact WQ.out1 i5_1 (up_brk hm39 hn14) ⟨Z, Z, Z, trivial⟩ (pk [0])
theorem R3_Copy_w {v_l : Value} {l r : List (List Int)} {K0 : World} (hm : R3_Copy_m l = some r) (h_l : RowsA K0 v_l l) (M : Nat → Prop) (w : World) (hk : Base M K0 w) (hw0 : Own M w [] w) : Calls Try.prog 58 #[v_l] w (fun e w' => ∃ X : Value × (List Value) × World, e = .returned (X.1) ∧ Own M w (kn M w.heap.size K0 X.2.2 :: [grid X.1 X.2.1 28 2 r]) w' ∧ SliceLen X.1 (r).length ∧ GL X.2.1 r) := by
 unfold R3_Copy_m at hm
 refine calls_of_WC (n := 21) (args := [v_l]) Try.func58 Z Z (nl Z) ?_ (Own.startK hk hw0)
 refine sr (wa Z (ns (wa Z (nt (WC.seq (sr (wa Z (nt ?_))))))))
 refine WK.of (fun w hw => hw.gridNil (E1 := 28) (E2 := 2)) ?_
 obtain ⟨o2, ho3, hm4⟩ := bd_some hm; clear hm; obtain ⟨n5, ho6⟩ := lp_some ho3
 refine WC.bloop4 (H2 := [kn M w.heap.size K0 K0]) (τ := [u_ 0 _]) (fun (v1_1 : List (List Int)) (i4_1 : Int) (uv1_1 : Value) (hsv1_1 : List Value) => [(3, (true, uv1_1)), (4, (true, i_ i4_1))]) (fun v1_1 i4_1 uv1_1 hsv1_1 => [grid uv1_1 hsv1_1 28 2 v1_1]) (fun v1_1 i4_1 uv1_1 hsv1_1 m => iter (R3_Copy_L0 l) m (v1_1, i4_1) = some o2 ∧ SliceLen uv1_1 v1_1.length ∧ GL hsv1_1 v1_1) (fun v1_1 i4_1 uv1_1 hsv1_1 => o2 = .go (v1_1, i4_1) ∧ SliceLen uv1_1 v1_1.length ∧ GL hsv1_1 v1_1) [] 0 nilS [] n5 ⟨ho6, SliceLen.nil, GL.nil⟩ ⟨Z, Z, Z, trivial⟩ (pk [0, 1]) ?_ ?_
 ·skip
  rintro v1_1 i4_1 uv1_1 hsv1_1 ⟨rfl, hlv1_1, hgv1_1⟩
  refine WQ.then (sr (wm Z (wa Z (nt (WC.ret ?_)))))
  obtain rfl := (eq_of_some hm4).symm
  refine WQ.ret1 Z Z (fun w hw => ?_)
  exact ⟨(uv1_1, hsv1_1, K0), Z, hw.pick [1, 0] (by decide), hlv1_1, hgv1_1⟩
 rintro v1_1 i4_1 uv1_1 hsv1_1 m7 ⟨hI8, hlv1_1, hgv1_1⟩
 obtain ⟨m9, s10, rfl, hm11, hn12⟩ := iter_step hI8; clear hI8; unfold R3_Copy_L0 at hm11; simp only at hm11
 refine WC.seq (sr (wm Z (wm Z (wq Z (QV.lenS Try.underlying29 Z Z h_l.slen) (wq Z (QV.lss Z Z Z Z) (nt ?_))))))
 refine wc Z hm11 (fun h13 hm14 => ?_) (fun h13 hm35 => ?_) <;> clear hm11
 ·skip
  refine sk (WQ.then (WC.seq (WC.block (WC.region (wm Z (WL.effect Z ?_))))))
  refine (EV.buildSlice0 (by decide) sz_28 (fun b15 => ?_))
  refine wm Z (wm Z ?_)
  obtain ⟨c16, hm17⟩ := cs hm14; clear hm14
  obtain ⟨p18, u20, hp19, hc21, hA22⟩ := h_l.ix c16
  refine wq Z (QV.indexSlice sl29 Z Z Z Z hp19) (wl pl28 Z (fun w hw => CellsAt.one 0 ((Own.kcells 2 Z hk hc21) w hw) Z) (WL.effect Z ?_))
  refine EV.of (fun w hw => hw.blkVec icell ([] : List Int) Z icell_len (nl Z)) ?_
  obtain ⟨c23, c28, c33, hm34⟩ := cs3 hm17; clear hm17
  refine (EV.appendL (enc := icell) (xs := []) (ys := (ele l i4_1)) (([] ++ (ele l i4_1))) 0 (by decide) ve28 Z Z Z Z Z (Own.karr 2 Z hk hA22) icell_len (icell_one _) Z c23.1 c23.2 (fun u25 hu26 => ?_))
  refine WL.effect Z ?_
  refine (EV.buildSlice (by decide) sz_29 (by decide) (by decide) (ps := [(0, .tmp 17)]) (cells := [u25]) (ec Z eN) (filled1 hu26) (fun b27 => ?_))
  refine WL.effect Z ?_
  refine EV.of (C' := Own M w [grid uv1_1 hsv1_1 28 2 v1_1, vec u25 2 1 (List.map icell ([] ++ (ele l i4_1))), blk b27 [u25] 28, kn M w.heap.size K0 K0]) (pk [2, 1, 0, 3]) ?_
  refine (EV.appendG (by decide) ve29 Z Z Z Z hu26 (Own.blkArr 2 (rows := [[u25]]) Z Z (rows_one)) c28 hgv1_1 (fun u30 hu31 => ?_))
  have hg32 := hgv1_1.snoc hu26
  refine wa Z (WL.nil (WQ.block (WQ.then (WC.region (wm Z (wq Z (QV.add Z Z Z Z c33) (wa Z (WL.nil ?_))))))))
  exact WQ.again4 (v1_1 ++ [([] ++ (ele l i4_1))]) (i4_1 + 1) u30 (hsv1_1 ++ [u25]) m9 ⟨up_next hm34 hn12, hu31, hg32⟩ (Nat.lt_succ_self _) ⟨Z, Z, Z, trivial⟩ (pk [0, 2])
 refine WC.exit (te (te (WQ.block_exit ?_)))
 exact WQ.out4 v1_1 i4_1 uv1_1 hsv1_1 ⟨up_brk hm35 hn12, hlv1_1, hgv1_1⟩ ⟨Z, Z, Z, trivial⟩ (pk [0, 1])
end Go.Proofs.Ytaimbkndebaaiab
end
section
namespace Go.Proofs.Ytaimbkndebaaiab
open Go.Rd
open TNum TLoop TStable TMach TMach2 TKern TClone TNbr TSeq
namespace TKRun
theorem en15 : Go.Rd.Enters Try.prog 15 := eT Try.func15
theorem en53 : Go.Rd.Enters Try.prog 53 := eT Try.func53
theorem en55 : Go.Rd.Enters Try.prog 55 := eT Try.func55
theorem en56 : Go.Rd.Enters Try.prog 56 := eT Try.func56
end TKRun
open TKRun
theorem kernel_Run_w {v_k__ops v_regs v_memory : Value} {t : Tgt} {k_ : Krn} {regs : List Int} {memory : List (List Int)} {turns : Int} {r : List Int × List (List Int) × Int} {K0 : World} (hm : kernel_Run_m t k_ regs memory turns = some r) (h_k__ops : Arr K0 v_k__ops 10 (k_.ops.map Opr.cells)) (h_regs : Arr K0 v_regs 1 (regs.map icell)) (h_memory : RowsA K0 v_memory memory) (M : Nat → Prop) (w : World) (hk : Base M K0 w) (hw0 : Own M w [] w) : Calls Try.prog 19 #[.agg #[.int .i64 t.u0, .int .i64 t.u1, .int .i64 t.u2, .int .i64 t.w0, .int .i64 t.w1, .int .i64 t.w2, .int .i64 t.regs], .agg #[.int .i64 k_.pace, .int .i64 k_.stages, v_k__ops], v_regs, v_memory, .int .i64 turns] w (fun e w' => ∃ X : Value × Value × World, e = .returned (.tuple #[X.1, X.2.1, .int .i64 r.2.2]) ∧ Own M w (kn M w.heap.size K0 X.2.2 :: []) w' ∧ Arr X.2.2 X.1 1 (r.1.map icell) ∧ RowsA X.2.2 X.2.1 r.2.1) := by
 unfold kernel_Run_m at hm
 refine calls_of_WC (n := 87) (args := [.agg #[i_ t.u0, i_ t.u1, i_ t.u2, i_ t.w0, i_ t.w1, i_ t.w2, i_ t.regs], .agg #[i_ k_.pace, i_ k_.stages, v_k__ops], v_regs, v_memory, i_ turns]) Try.func19 Z Z (nl Z) ?_ (Own.startK hk hw0)
 refine sr (WL.effect Z ?_)
 refine (EV.boxAgg (by decide) Z Z (fun b1 => ?_))
 refine WL.effect Z ?_
 refine (EV.boxAgg (by decide) Z Z (fun b2 => ?_))
 refine wa Z (wa Z (wa Z (ns (wm Z (WL.effect Z ?_)))))
 obtain ⟨x3, hx4, hm5⟩ := bd_some hm; clear hm
 refine EV.of (C' := Own M w [kn M w.heap.size K0 K0, blk b2 [i_ k_.pace, i_ k_.stages, v_k__ops] 27, blk b1 t.cells 24]) (pk [2, 0, 1]) ?_
 refine (EV.callR (X := Value × World) (R := []) (fun X => .tuple #[X.1, .bool x3.2]) (fun X => []) (fun X => X.2) (fun X => Arr X.2 X.1 1 (x3.1.map icell)) hk (fun _ h => by cases h; decide) en53 (ec Z eN) (fun M w h1 h2 => have h := kernel_Logs_w hx4 h_memory M w h1 h2; h) (fun X6 hF6 hle6 => ?_))
 refine wm Z (wq Z (QV.extract Z Z Z) (wq Z (QV.extract Z Z Z) (wa Z (wa Z (nt (WC.seq (WC.block (sr (wm Z (wq Z (QV.not Z Z) (wm Z (gn Z (fun hG => QV.loadAgg ag24 Z Z Z (Own.cellsBlk 2 Z)) ?_))))))))))))
 refine gn Z (fun hG => QV.loadAgg ag27 Z Z Z (Own.cellsBlk 1 Z)) (gn Z (fun hG => QV.move Z Z) ?_)
 obtain ⟨x7, hx8, hm9⟩ := bdG_some hm5; clear hm5
 refine gn Z (fun hG => QV.call en15 (EvAll.cons Z hG (EvAll.cons Z hG (EvAll.cons Z hG eN))) (fun w hw => have h := kernel_May_w w (hx8 hG) ((Own.karr 0 Z hk (h_k__ops.le hle6)) w hw) ((Own.karr 0 Z hk hF6) w hw); h)) (gn Z (fun hG => QV.not Z hG) (wq Z (QV.pickOr Z Z Z (fun h => notF h)) (wm Z (gn Z (fun hG => QV.move Z Z) (gn Z (fun hG => QV.lenS Try.underlying28 Z hG (h_regs.le hle6).lenMap) (gn Z (fun hG => QV.fieldAddr fd24_2 Z Z) (gn Z (fun hG => QV.load pl3 Z hG (Own.cell 2 Z Z)) (gn Z (fun hG => QV.neq Z hG Z hG) (wq Z (QV.pickOr Z Z Z (fun h => notF h)) ?_)))))))))
 refine wa Z (nt ?_)
 refine wc Z hm9 (fun h10 hm11 => ?_) (fun h10 hm12 => ?_) <;> clear hm9
 ·skip
  refine sr (wa Z (wa Z (wa Z (nt (WC.ret (kr (tr ?_)))))))
  obtain rfl := (eq_of_some hm11).symm
  refine WQ.ret3 Z Z Z Z (fun w hw => ?_)
  exact ⟨(.slice none 0 0, .slice none 0 0, X6.2), Z, hw.pick [0] (by decide), Arr.nil, RowsA.nil⟩
 refine sr (wm Z (wq Z (QV.lss Z Z Z Z) (wm Z (gn Z (fun hG => QV.move Z Z) (gn Z (fun hG => QV.gtr Z hG Z Z) (wq Z (QV.pickOr Z Z Z (fun h => notF h)) (wa Z (nt ?_))))))))
 refine wc Z hm12 (fun h13 hm14 => ?_) (fun h13 hm15 => ?_) <;> clear hm12
 ·skip
  refine sr (wa Z (wa Z (wa Z (nt (WC.ret (kr (tr ?_)))))))
  obtain rfl := (eq_of_some hm14).symm
  refine WQ.ret3 Z Z Z Z (fun w hw => ?_)
  exact ⟨(.slice none 0 0, .slice none 0 0, X6.2), Z, hw.pick [0] (by decide), Arr.nil, RowsA.nil⟩
 refine sk (WQ.block (WQ.then (WC.seq (WC.dr (m := 10) (by kernel_rfl) (by kernel_rfl) (fun w hw => hw) (wz 0 Z Z (QV.loadAgg ag24 Z Z Z (Own.cellsBlk 2 Z)) (wz 1 Z Z (QV.loadAgg ag27 Z Z Z (Own.cellsBlk 1 Z)) (zm 2 Z Z ?_)))))))
 refine WD.toL 7 (by kernel_rfl) ?_
 refine WD.qL 4 7 23 Z (by kernel_rfl) Z Z Z (QV.move Z Z) ?_
 refine WD.qL 6 23 87 Z (by kernel_rfl) Z Z Z (QV.move Z Z) ?_
 refine WD.oL 3 87 95 Z (by kernel_rfl) Z ?_
 obtain ⟨x16, hx17, hm18⟩ := bd_some hm15; clear hm15
 refine (EV.callR (X := Value × World) (R := []) (fun X => X.1) (fun X => [vec X.1 2 1 (List.map icell x16)]) (fun X => X.2) (fun X => SliceLen X.1 (x16).length) hk (fun _ h => by cases h; decide) en54 (ec Z eN) (fun M w h1 h2 => have h := Clone_w hx17 (h_regs.le hle6) M w h1 h2; h) (fun X19 hF19 hle19 => ?_))
 refine WD.b (H' := [kn M w.heap.size K0 X19.2, vec X19.1 2 1 (List.map icell x16), blk b2 [i_ k_.pace, i_ k_.stages, v_k__ops] 27, blk b1 t.cells 24]) (pk [0, 1, 2, 3]) (fun w hw => Own.forget hle19 hle6 (hw.pick [0, 2, 3] (by decide))) ?_
 refine WD.oL 5 95 127 Z (by kernel_rfl) Z ?_
 obtain ⟨x21, hx22, hm23⟩ := bd_some hm18; clear hm18
 refine (EV.callR (X := Value × (List Value) × World) (R := []) (fun X => X.1) (fun X => [grid X.1 X.2.1 28 2 x21]) (fun X => X.2.2) (fun X => SliceLen X.1 (x21).length ∧ GL X.2.1 x21) hk (fun _ h => by cases h; decide) en55 (ec Z eN) (fun M w h1 h2 => have h := seq_Copy_w hx22 (h_memory.le (hle6.trans hle19)) M w h1 h2; h) (fun X24 hF24 hle24 => ?_))
 refine WD.b (H' := [kn M w.heap.size K0 X24.2.2, grid X24.1 X24.2.1 28 2 x21, vec X19.1 2 1 (List.map icell x16), blk b2 [i_ k_.pace, i_ k_.stages, v_k__ops] 27, blk b1 t.cells 24]) (pk [0, 1, 2, 3, 4]) (fun w hw => Own.forget hle24 (hle6.trans hle19) (hw.pick [0, 2, 3, 4] (by decide))) ?_
 refine WD.qL 7 127 255 Z (by kernel_rfl) Z Z Z (QV.buildS (ps := [(0, .tmp 47), (1, .tmp 48), (2, .tmp 50), (3, .tmp 52), (4, .tmp 53)]) (cells := [i_ t.u0, i_ t.u1, i_ t.u2, i_ t.w0, i_ t.w1, i_ t.w2, i_ t.regs, i_ k_.pace, i_ k_.stages, v_k__ops, X19.1, X24.1, i_ turns, .slice none 0 0]) (css := [t.cells, [i_ k_.pace, i_ k_.stages, v_k__ops], [X19.1], [X24.1], [i_ turns]]) (ec Z (ec Z (ec Z (ec Z (ec Z eN))))) (CellsAll.cons Z (CellsAll.cons Z (CellsAll.cons (SliceLen.cells hF19) (CellsAll.cons (SliceLen.cells hF24.1) (CellsAll.cons Z CellsAll.nil))))) (by kernel_rfl)) ?_
 refine WD.oL 8 255 511 Z (by kernel_rfl) Z ?_
 refine (EV.boxAgg (by decide) Z Z (fun b26 => ?_))
 refine WD.b (H' := [kn M w.heap.size K0 X24.2.2, blk b26 [i_ t.u0, i_ t.u1, i_ t.u2, i_ t.w0, i_ t.w1, i_ t.w2, i_ t.regs, i_ k_.pace, i_ k_.stages, v_k__ops, X19.1, X24.1, i_ turns, .slice none 0 0] 97, grid X24.1 X24.2.1 28 2 x21, vec X19.1 2 1 (List.map icell x16), blk b2 [i_ k_.pace, i_ k_.stages, v_k__ops] 27, blk b1 t.cells 24]) (pk [1, 0, 2, 3, 4, 5]) (pk [0, 2, 3, 4, 5]) ?_
 refine WD.qL 9 511 1023 Z (by kernel_rfl) Z Z Z (QV.assign Z Z) ?_
 refine WD.eL (by kernel_rfl) ?_
 refine WQ.then (WC.seq (sr (wm Z (wq Z (QV.gtr Z Z Z Z) (nt ?_)))))
 refine wc Z hm23 (fun h27 hm28 => ?_) (fun h27 hm76 => ?_) <;> clear hm23
 ·skip
  refine WC.seq (sr (wm Z (wf fd27_1 Z (wl pl3 Z (Own.cell 4 Z Z) ?_))))
  obtain ⟨c29, c31, hm32⟩ := cs2 hm28; clear hm28
  refine wq Z (QV.add Z Z Z Z c29) (wq Z (QV.sub Z Z Z Z c31) (wm Z (nt ?_)))
  refine WK.of (fun w hw => hw.ovecNil (E := 148) (sz := 3) (enc := Due.cells)) ?_
  obtain ⟨o34, ho35, hm36⟩ := bd_some hm32; clear hm32; obtain ⟨n37, ho38⟩ := lp_some ho35
  refine WC.bloop9 (H2 := [blk b2 [i_ k_.pace, i_ k_.stages, v_k__ops] 27, blk b1 t.cells 24]) (τ := [u_ 6 _, u_ 15 _, u_ 62 _]) (fun (v33_9 : List Due) (r25_9 : List (List Int)) (r20_9 : List Int) (x63_9 : Int) (uv33_9 : Value) (ur25_9 : Value) (hsr25_9 : List Value) (ur20_9 : Value) (k_9 : World) => [(63, (true, i_ x63_9))]) (fun v33_9 r25_9 r20_9 x63_9 uv33_9 ur25_9 hsr25_9 ur20_9 k_9 => [ovec uv33_9 148 3 (List.map Due.cells v33_9), blk b26 [i_ t.u0, i_ t.u1, i_ t.u2, i_ t.w0, i_ t.w1, i_ t.w2, i_ t.regs, i_ k_.pace, i_ k_.stages, v_k__ops, ur20_9, ur25_9, i_ turns, uv33_9] 97, kn M w.heap.size K0 k_9, grid ur25_9 hsr25_9 28 2 r25_9, vec ur20_9 2 1 (List.map icell r20_9)]) (fun v33_9 r25_9 r20_9 x63_9 uv33_9 ur25_9 hsr25_9 ur20_9 k_9 m => iter (kernel_Run_L1 t k_ turns) m (v33_9, r25_9, r20_9, x63_9) = some o34 ∧ SliceLen uv33_9 v33_9.length ∧ SliceLen ur25_9 r25_9.length ∧ GL hsr25_9 r25_9 ∧ SliceLen ur20_9 r20_9.length ∧ Le X24.2.2 k_9) (fun v33_9 r25_9 r20_9 x63_9 uv33_9 ur25_9 hsr25_9 ur20_9 k_9 => o34 = .go (v33_9, r25_9, r20_9, x63_9) ∧ SliceLen uv33_9 v33_9.length ∧ SliceLen ur25_9 r25_9.length ∧ GL hsr25_9 r25_9 ∧ SliceLen ur20_9 r20_9.length ∧ Le X24.2.2 k_9) [] x21 x16 0 (.slice none 0 0) X24.1 X24.2.1 X19.1 X24.2.2 n37 ⟨ho38, SliceLen.nil, hF24.1, hF24.2, hF19, (Le.refl _)⟩ ⟨Z, Z, Z, Z, trivial⟩ (pk [0, 1, 2, 3, 4, 5, 6]) ?_ ?_
  ·skip
   rintro v33_9 r25_9 r20_9 x63_9 uv33_9 ur25_9 hsr25_9 ur20_9 k_9 ⟨rfl, hlv33_9, hlr25_9, hgr25_9, hlr20_9, hle_9⟩
   refine WQ.then (WC.region (wm Z (WL.effect Z ?_)))
   obtain ⟨x39, hx40, hm41⟩ := bd_some hm36; clear hm36
   refine EV.of (C' := Own M w [kn M w.heap.size K0 k_9, blk b26 [i_ t.u0, i_ t.u1, i_ t.u2, i_ t.w0, i_ t.w1, i_ t.w2, i_ t.regs, i_ k_.pace, i_ k_.stages, v_k__ops, ur20_9, ur25_9, i_ turns, uv33_9] 97, vec ur20_9 2 1 (List.map icell r20_9), grid ur25_9 hsr25_9 28 2 r25_9, ovec uv33_9 148 3 (List.map Due.cells v33_9), blk b2 [i_ k_.pace, i_ k_.stages, v_k__ops] 27, blk b1 t.cells 24]) (pk [2, 1, 4, 3, 0, 5, 6]) ?_
   refine (EV.callR (X := Value × Value × World) (R := [blk b26 [i_ t.u0, i_ t.u1, i_ t.u2, i_ t.w0, i_ t.w1, i_ t.w2, i_ t.regs, i_ k_.pace, i_ k_.stages, v_k__ops, ur20_9, ur25_9, i_ turns, uv33_9] 97, vec ur20_9 2 1 (List.map icell r20_9), grid ur25_9 hsr25_9 28 2 r25_9, ovec uv33_9 148 3 (List.map Due.cells v33_9)]) (fun X => .tuple #[]) (fun X => [blk b26 [i_ t.u0, i_ t.u1, i_ t.u2, i_ t.w0, i_ t.w1, i_ t.w2, i_ t.regs, i_ k_.pace, i_ k_.stages, v_k__ops, X.1, ur25_9, i_ turns, X.2.1] 97, grid ur25_9 hsr25_9 28 2 r25_9, vec X.1 2 1 (List.map icell x39.1), ovec X.2.1 148 3 (List.map Due.cells x39.2)]) (fun X => X.2.2) (fun X => SliceLen X.1 (x39.1).length ∧ SliceLen X.2.1 (x39.2).length) hk (fun _ h => by cases h; decide) en57 (ec Z (ec Z eN)) (fun M w h1 h2 => have h := kernel_machine_land_w hx40 (h_k__ops.le (((hle6.trans hle19).trans hle24).trans hle_9)) hlr20_9 hlr25_9 hgr25_9 hlv33_9 M w h1 h2; h) (fun X42 hF42 hle42 => ?_))
   refine nt (WC.seq (WC.dr (m := 11) (by kernel_rfl) (by kernel_rfl) (fun w hw => hw) (zm 0 Z Z (wz 1 Z Z (QV.nilCheck Z Z) (zf 2 fd97_2 Z Z (zl 3 pl28 Z Z (Own.cell 1 Z Z) (zm 4 Z Z (wz 5 Z Z (QV.nilCheck Z Z) (zf 6 fd97_3 Z Z (zl 7 pl29 Z Z (Own.cell 1 Z Z) ?_))))))))))
   refine wz 8 Z Z (QV.assign Z Z) (wz 9 Z Z (QV.assign Z Z) (wz 10 Z Z (QV.assign Z Z) ?_))
   refine WD.e (by kernel_rfl) ?_
   refine WQ.then (WC.ret ?_)
   obtain rfl := (eq_of_some hm41).symm
   refine WK.of (C' := Own M w [kn M w.heap.size K0 X42.2.2, vec X42.1 2 1 (List.map icell x39.1), blk b26 [i_ t.u0, i_ t.u1, i_ t.u2, i_ t.w0, i_ t.w1, i_ t.w2, i_ t.regs, i_ k_.pace, i_ k_.stages, v_k__ops, X42.1, ur25_9, i_ turns, X42.2.1] 97, grid ur25_9 hsr25_9 28 2 r25_9, ovec X42.2.1 148 3 (List.map Due.cells x39.2), blk b2 [i_ k_.pace, i_ k_.stages, v_k__ops] 27, blk b1 t.cells 24]) (pk [0, 3, 1, 2, 4, 5, 6]) ?_
   refine WK.freeze hk (fun k43 hle43 hr43 => ?_)
   have hA43 := vec_arr hr43
   refine WK.of (C' := Own M w [kn M w.heap.size K0 k43, grid ur25_9 hsr25_9 28 2 r25_9, blk b26 [i_ t.u0, i_ t.u1, i_ t.u2, i_ t.w0, i_ t.w1, i_ t.w2, i_ t.regs, i_ k_.pace, i_ k_.stages, v_k__ops, X42.1, ur25_9, i_ turns, X42.2.1] 97, ovec X42.2.1 148 3 (List.map Due.cells x39.2), blk b2 [i_ k_.pace, i_ k_.stages, v_k__ops] 27, blk b1 t.cells 24]) (pk [0, 2, 1, 3, 4, 5]) ?_
   refine WK.freeze hk (fun k44 hle44 hr44 => ?_)
   have hA44 := grid_rows hr44
   refine WQ.ret3 Z Z Z Z (fun w hw => ?_)
   exact ⟨(X42.1, ur25_9, k44), Z, hw.pick [0] (by decide), (hA43.le hle44), hA44⟩
  rintro v33_9 r25_9 r20_9 x63_9 uv33_9 ur25_9 hsr25_9 ur20_9 k_9 m45 ⟨hI46, hlv33_9, hlr25_9, hgr25_9, hlr20_9, hle_9⟩
  obtain ⟨m47, s48, rfl, hm49, hn50⟩ := iter_step hI46; clear hI46; unfold kernel_Run_L1 at hm49; simp only at hm49
  refine sr (wq Z (QV.lss Z Z Z Z) (nt (WC.seq ?_)))
  refine wc Z hm49 (fun h51 hm52 => ?_) (fun h51 hm75 => ?_) <;> clear hm49
  ·skip
   refine sk (WQ.then (WC.seq (WC.block (sr (wm Z (wa Z (ns (wf fd27_0 Z (wl pl3 Z (Own.cell 5 Z Z) (wm Z (nt ?_)))))))))))
   obtain ⟨o53, ho54, hm55⟩ := bd_some hm52; clear hm52; obtain ⟨n56, ho57⟩ := lp_some ho54
   refine WC.bloop9 (H2 := [blk b2 [i_ k_.pace, i_ k_.stages, v_k__ops] 27, blk b1 t.cells 24]) (τ := [u_ 6 _, u_ 15 _, u_ 16 _, u_ 62 _, u_ 63 _, u_ 67 _]) (fun (v33_10 : List Due) (r25_10 : List (List Int)) (r20_10 : List Int) (x68_10 : Int) (uv33_10 : Value) (ur25_10 : Value) (hsr25_10 : List Value) (ur20_10 : Value) (k_10 : World) => [(68, (true, i_ x68_10))]) (fun v33_10 r25_10 r20_10 x68_10 uv33_10 ur25_10 hsr25_10 ur20_10 k_10 => [ovec uv33_10 148 3 (List.map Due.cells v33_10), blk b26 [i_ t.u0, i_ t.u1, i_ t.u2, i_ t.w0, i_ t.w1, i_ t.w2, i_ t.regs, i_ k_.pace, i_ k_.stages, v_k__ops, ur20_10, ur25_10, i_ turns, uv33_10] 97, kn M w.heap.size K0 k_10, grid ur25_10 hsr25_10 28 2 r25_10, vec ur20_10 2 1 (List.map icell r20_10)]) (fun v33_10 r25_10 r20_10 x68_10 uv33_10 ur25_10 hsr25_10 ur20_10 k_10 m => iter (kernel_Run_L3 t k_ turns x63_9) m (v33_10, r25_10, r20_10, x68_10) = some o53 ∧ SliceLen uv33_10 v33_10.length ∧ SliceLen ur25_10 r25_10.length ∧ GL hsr25_10 r25_10 ∧ SliceLen ur20_10 r20_10.length ∧ Le k_9 k_10) (fun v33_10 r25_10 r20_10 x68_10 uv33_10 ur25_10 hsr25_10 ur20_10 k_10 => o53 = .go (v33_10, r25_10, r20_10, x68_10) ∧ SliceLen uv33_10 v33_10.length ∧ SliceLen ur25_10 r25_10.length ∧ GL hsr25_10 r25_10 ∧ SliceLen ur20_10 r20_10.length ∧ Le k_9 k_10) v33_9 r25_9 r20_9 0 uv33_9 ur25_9 hsr25_9 ur20_9 k_9 n56 ⟨ho57, hlv33_9, hlr25_9, hgr25_9, hlr20_9, (Le.refl _)⟩ ⟨Z, Z, Z, Z, Z, Z, Z, trivial⟩ (pk [0, 1, 2, 3, 4, 5, 6]) ?_ ?_
   ·skip
    rintro v33_10 r25_10 r20_10 x68_10 uv33_10 ur25_10 hsr25_10 ur20_10 k_10 ⟨rfl, hlv33_10, hlr25_10, hgr25_10, hlr20_10, hle_10⟩
    refine WQ.block (WQ.then (WC.region ?_))
    obtain ⟨c58, hm59⟩ := cs hm55; clear hm55
    refine wq Z (QV.add Z Z Z Z c58) (wm Z (WL.nil ?_))
    exact WQ.again9 v33_10 r25_10 r20_10 (x63_9 + 1) uv33_10 ur25_10 hsr25_10 ur20_10 k_10 m47 ⟨up_next hm59 hn50, hlv33_10, hlr25_10, hgr25_10, hlr20_10, (hle_9.trans hle_10)⟩ (Nat.lt_succ_self _) ⟨Z, Z, Z, Z, trivial⟩ (pk [0, 1, 2, 3, 4, 5, 6])
   rintro v33_10 r25_10 r20_10 x68_10 uv33_10 ur25_10 hsr25_10 ur20_10 k_10 m60 ⟨hI61, hlv33_10, hlr25_10, hgr25_10, hlr20_10, hle_10⟩
   obtain ⟨m62, s63, rfl, hm64, hn65⟩ := iter_step hI61; clear hI61; unfold kernel_Run_L3 at hm64; simp only at hm64
   refine sr (wq Z (QV.lss Z Z Z Z) (nt (WC.seq ?_)))
   refine wc Z hm64 (fun h66 hm67 => ?_) (fun h66 hm74 => ?_) <;> clear hm64
   ·skip
    refine sk (WQ.then (WC.seq (WC.block (sr (wm Z (wa Z (nr (wm Z (wm Z (wm Z (WL.effect Z ?_)))))))))))
    obtain ⟨x68, hx69, hm70⟩ := bd_some hm67; clear hm67
    refine EV.of (C' := Own M w [kn M w.heap.size K0 k_10, blk b26 [i_ t.u0, i_ t.u1, i_ t.u2, i_ t.w0, i_ t.w1, i_ t.w2, i_ t.regs, i_ k_.pace, i_ k_.stages, v_k__ops, ur20_10, ur25_10, i_ turns, uv33_10] 97, vec ur20_10 2 1 (List.map icell r20_10), grid ur25_10 hsr25_10 28 2 r25_10, ovec uv33_10 148 3 (List.map Due.cells v33_10), blk b2 [i_ k_.pace, i_ k_.stages, v_k__ops] 27, blk b1 t.cells 24]) (pk [2, 1, 4, 3, 0, 5, 6]) ?_
    refine (EV.callR (X := Value × Value × (List Value) × Value × World) (R := [blk b26 [i_ t.u0, i_ t.u1, i_ t.u2, i_ t.w0, i_ t.w1, i_ t.w2, i_ t.regs, i_ k_.pace, i_ k_.stages, v_k__ops, ur20_10, ur25_10, i_ turns, uv33_10] 97, vec ur20_10 2 1 (List.map icell r20_10), grid ur25_10 hsr25_10 28 2 r25_10, ovec uv33_10 148 3 (List.map Due.cells v33_10)]) (fun X => .tuple #[]) (fun X => [blk b26 [i_ t.u0, i_ t.u1, i_ t.u2, i_ t.w0, i_ t.w1, i_ t.w2, i_ t.regs, i_ k_.pace, i_ k_.stages, v_k__ops, X.1, X.2.1, i_ turns, X.2.2.2.1] 97, vec X.1 2 1 (List.map icell x68.1), grid X.2.1 X.2.2.1 28 2 x68.2.1, ovec X.2.2.2.1 148 3 (List.map Due.cells x68.2.2)]) (fun X => X.2.2.2.2) (fun X => SliceLen X.1 (x68.1).length ∧ SliceLen X.2.1 (x68.2.1).length ∧ GL X.2.2.1 x68.2.1 ∧ SliceLen X.2.2.2.1 (x68.2.2).length) hk (fun _ h => by cases h; decide) en56 (ec Z (ec Z (ec Z eN))) (fun M w h1 h2 => have h := kernel_machine_cycle_w hx69 (h_k__ops.le ((((hle6.trans hle19).trans hle24).trans hle_9).trans hle_10)) hlr20_10 hlr25_10 hgr25_10 hlv33_10 M w h1 h2; h) (fun X71 hF71 hle71 => ?_))
    refine WL.nil (WQ.block (WQ.then (WC.region ?_)))
    obtain ⟨c72, hm73⟩ := cs hm70; clear hm70
    refine wq Z (QV.add Z Z Z Z c72) (wm Z (WL.nil ?_))
    exact WQ.again9 x68.2.2 x68.2.1 x68.1 (x68_10 + 1) X71.2.2.2.1 X71.2.1 X71.2.2.1 X71.1 X71.2.2.2.2 m62 ⟨up_next hm73 hn65, hF71.2.2.2, hF71.2.1, hF71.2.2.1, hF71.1, (hle_10.trans hle71)⟩ (Nat.lt_succ_self _) ⟨Z, Z, Z, Z, Z, Z, Z, trivial⟩ (pk [4, 1, 0, 3, 2, 5, 6])
   refine WC.exit (te (te (WQ.block_exit ?_)))
   exact WQ.out9 v33_10 r25_10 r20_10 x68_10 uv33_10 ur25_10 hsr25_10 ur20_10 k_10 ⟨up_brk hm74 hn65, hlv33_10, hlr25_10, hgr25_10, hlr20_10, hle_10⟩ ⟨Z, Z, Z, Z, Z, Z, Z, trivial⟩ (pk [0, 1, 2, 3, 4, 5, 6])
  refine WC.exit (te (te (WQ.block_exit ?_)))
  exact WQ.out9 v33_9 r25_9 r20_9 x63_9 uv33_9 ur25_9 hsr25_9 ur20_9 k_9 ⟨up_brk hm75 hn50, hlv33_9, hlr25_9, hgr25_9, hlr20_9, hle_9⟩ ⟨Z, Z, Z, Z, trivial⟩ (pk [0, 1, 2, 3, 4, 5, 6])
 refine sk (WQ.then (WC.seq (WC.dr (m := 11) (S := Own M w [kn M w.heap.size K0 X24.2.2, blk b26 [i_ t.u0, i_ t.u1, i_ t.u2, i_ t.w0, i_ t.w1, i_ t.w2, i_ t.regs, i_ k_.pace, i_ k_.stages, v_k__ops, X19.1, X24.1, i_ turns, .slice none 0 0] 97, grid X24.1 X24.2.1 28 2 x21, vec X19.1 2 1 (List.map icell x16), blk b2 [i_ k_.pace, i_ k_.stages, v_k__ops] 27, blk b1 t.cells 24]) (by kernel_rfl) (by kernel_rfl) (pk [1, 0, 2, 3, 4, 5]) (zm 0 Z Z (wz 1 Z Z (QV.nilCheck Z Z) (zf 2 fd97_2 Z Z (zl 3 pl28 Z Z (Own.cell 1 Z Z) (zm 4 Z Z (wz 5 Z Z (QV.nilCheck Z Z) (zf 6 fd97_3 Z Z (zl 7 pl29 Z Z (Own.cell 1 Z Z) ?_)))))))))))
 refine wz 8 Z Z (QV.assign Z Z) (wz 9 Z Z (QV.assign Z Z) (wz 10 Z Z (QV.assign Z Z) ?_))
 refine WD.e (by kernel_rfl) ?_
 refine WQ.then (WC.ret ?_)
 obtain rfl := (eq_of_some hm76).symm
 refine WK.of (C' := Own M w [kn M w.heap.size K0 X24.2.2, vec X19.1 2 1 (List.map icell x16), blk b26 [i_ t.u0, i_ t.u1, i_ t.u2, i_ t.w0, i_ t.w1, i_ t.w2, i_ t.regs, i_ k_.pace, i_ k_.stages, v_k__ops, X19.1, X24.1, i_ turns, .slice none 0 0] 97, grid X24.1 X24.2.1 28 2 x21, blk b2 [i_ k_.pace, i_ k_.stages, v_k__ops] 27, blk b1 t.cells 24]) (pk [1, 3, 0, 2, 4, 5]) ?_
 refine WK.freeze hk (fun k77 hle77 hr77 => ?_)
 have hA77 := vec_arr hr77
 refine WK.of (C' := Own M w [kn M w.heap.size K0 k77, grid X24.1 X24.2.1 28 2 x21, blk b26 [i_ t.u0, i_ t.u1, i_ t.u2, i_ t.w0, i_ t.w1, i_ t.w2, i_ t.regs, i_ k_.pace, i_ k_.stages, v_k__ops, X19.1, X24.1, i_ turns, .slice none 0 0] 97, blk b2 [i_ k_.pace, i_ k_.stages, v_k__ops] 27, blk b1 t.cells 24]) (pk [0, 2, 1, 3, 4]) ?_
 refine WK.freeze hk (fun k78 hle78 hr78 => ?_)
 have hA78 := grid_rows hr78
 refine WQ.ret3 Z Z Z Z (fun w hw => ?_)
 exact ⟨(X19.1, X24.1, k78), Z, hw.pick [0] (by decide), (hA77.le hle78), hA78⟩
end Go.Proofs.Ytaimbkndebaaiab
end
section
namespace Go.Proofs.Ytaimbkndebaaiab
open Go.Rd
open TNum TLoop TStable TMach TMach2 TKern TClone TNbr TSeq TKRun
namespace TRDep
end TRDep
open TRDep
end Go.Proofs.Ytaimbkndebaaiab
end
section
namespace Go.Proofs.Ytaimbkndebaaiab
open Go.Rd
open TNum TLoop TStable TMach TMach2 TKern TClone TNbr TSeq TKRun TRDep
namespace TR10
theorem en16 : Go.Rd.Enters Try.prog 16 := eT Try.func16
theorem en51 : Go.Rd.Enters Try.prog 51 := eT Try.func51
theorem en93 : Go.Rd.Enters Try.prog 93 := eT Try.func93
end TR10
open TR10
theorem R5_Uses_w {op r : Int} (w : World) (hm : R5_Uses_m op = some r)  : Calls Try.prog 93 #[.int .i64 op] w (fun e w' => e = .returned (.int .i64 r) ∧ Grow w w') := by
 unfold R5_Uses_m at hm
 have hk := Base.rfl (w := w)
 refine calls_of_WC (n := 7) (args := [i_ op]) Try.func93 Z Z (nl Z) ?_ (Own.startK hk (Own.start w))
 refine sr (wa Z (nt (WC.seq (sr (wm Z (wq Z (QV.eql Z Z Z Z) (nt ?_)))))))
 refine wc Z hm (fun h1 hm2 => ?_) (fun h1 hm3 => ?_) <;> clear hm
 ·skip
  refine sr (wa Z (nt (WC.ret (tr ?_))))
  obtain rfl := (eq_of_some hm2).symm
  exact WQ.ret1 Z Z fun w hw => kg hw
 refine sk (WQ.then (WC.seq (sr (wm Z (wq Z (QV.gtr Z Z Z Z) (nt ?_))))))
 refine wc Z hm3 (fun h4 hm5 => ?_) (fun h4 hm6 => ?_) <;> clear hm3
 ·skip
  refine sr (wa Z (nt (WC.ret (tr ?_))))
  obtain rfl := (eq_of_some hm5).symm
  exact WQ.ret1 Z Z fun w hw => kg hw
 refine sk (WQ.then (sr (wa Z (nt (WC.ret ?_)))))
 obtain rfl := (eq_of_some hm6).symm
 exact WQ.ret1 Z Z fun w hw => kg hw
theorem R5_one_w {v_k__ops v_logs : Value} {t : Tgt} {k_ : Krn} {o : Opr} {logs : List Int} {r : Bool} (w : World) (hm : R5_one_m t k_ o logs = some r) (h_k__ops : Arr w v_k__ops 10 (k_.ops.map Opr.cells)) (h_logs : Arr w v_logs 1 (logs.map icell)) : Calls Try.prog 51 #[.agg #[.int .i64 t.u0, .int .i64 t.u1, .int .i64 t.u2, .int .i64 t.w0, .int .i64 t.w1, .int .i64 t.w2, .int .i64 t.regs], .agg #[.int .i64 k_.pace, .int .i64 k_.stages, v_k__ops], .agg #[.int .i64 o.slot, .int .i64 o.stage, .int .i64 o.op, .int .i64 o.dest, .int .i64 o.a, .int .i64 o.b, .int .i64 o.ar, .int .i64 o.sp, .int .i64 o.pl, .int .i64 o.n], v_logs] w (fun e w' => e = .returned (.bool r) ∧ Grow w w') := by
 unfold R5_one_m at hm
 have hk := Base.rfl (w := w)
 refine calls_of_WC (n := 116) (args := [.agg #[i_ t.u0, i_ t.u1, i_ t.u2, i_ t.w0, i_ t.w1, i_ t.w2, i_ t.regs], .agg #[i_ k_.pace, i_ k_.stages, v_k__ops], .agg #[i_ o.slot, i_ o.stage, i_ o.op, i_ o.dest, i_ o.a, i_ o.b, i_ o.ar, i_ o.sp, i_ o.pl, i_ o.n], v_logs]) Try.func51 Z Z (nl Z) ?_ (Own.startK hk (Own.start w))
 refine sr (WL.effect Z ?_)
 refine (EV.boxAgg (by decide) Z Z (fun b1 => ?_))
 refine WL.effect Z ?_
 refine (EV.boxAgg (by decide) Z Z (fun b2 => ?_))
 refine WL.effect Z ?_
 refine (EV.boxAgg (by decide) Z Z (fun b3 => ?_))
 refine wa Z (nt (WC.seq (sr (wf fd45_0 Z (wl pl3 Z (Own.cell 0 Z Z) (wq Z (QV.lss Z Z Z Z) (wm Z (gn Z (fun hG => QV.fieldAddr fd45_0 Z Z) (gn Z (fun hG => QV.load pl3 Z hG (Own.cell 0 Z Z)) (gn Z (fun hG => QV.fieldAddr fd27_0 Z Z) (gn Z (fun hG => QV.load pl3 Z hG (Own.cell 1 Z Z)) ?_)))))))))))
 refine gn Z (fun hG => QV.geq Z hG Z hG) (wq Z (QV.pickOr Z Z Z (fun h => notF h)) (wm Z (gn Z (fun hG => QV.fieldAddr fd45_1 Z Z) (gn Z (fun hG => QV.load pl3 Z hG (Own.cell 0 Z Z)) (gn Z (fun hG => QV.lss Z hG Z Z) (wq Z (QV.pickOr Z Z Z (fun h => notF h)) (wm Z (gn Z (fun hG => QV.fieldAddr fd45_1 Z Z) (gn Z (fun hG => QV.load pl3 Z hG (Own.cell 0 Z Z)) ?_)))))))))
 refine gn Z (fun hG => QV.fieldAddr fd27_1 Z Z) (gn Z (fun hG => QV.load pl3 Z hG (Own.cell 1 Z Z)) (gn Z (fun hG => QV.geq Z hG Z hG) (wq Z (QV.pickOr Z Z Z (fun h => notF h)) (wm Z (gn Z (fun hG => QV.fieldAddr fd45_1 Z Z) (gn Z (fun hG => QV.load pl3 Z hG (Own.cell 0 Z Z)) (gn Z (fun hG => QV.fieldAddr fd27_0 Z Z) (gn Z (fun hG => QV.load pl3 Z hG (Own.cell 1 Z Z)) ?_))))))))
 obtain ⟨c4, c6, hm7⟩ := cs2 hm; clear hm
 refine gn Z (fun hG => QV.mul Z hG Z hG (c4 hG)) (gn Z (fun hG => QV.fieldAddr fd45_0 Z Z) (gn Z (fun hG => QV.load pl3 Z hG (Own.cell 0 Z Z)) (gn Z (fun hG => QV.add Z hG Z hG (c6 hG)) (gn Z (fun hG => QV.gtr Z hG Z Z) (wq Z (QV.pickOr Z Z Z (fun h => notF h)) (nt ?_))))))
 refine wc Z hm7 (fun h8 hm9 => ?_) (fun h8 hm10 => ?_) <;> clear hm7
 ·skip
  refine sr (wa Z (nt (WC.ret (tr ?_))))
  obtain rfl := (eq_of_some hm9).symm
  exact WQ.ret1 Z Z fun w hw => kg hw
 refine sk (WQ.then (sr (wf fd45_2 Z (wl pl3 Z (Own.cell 0 Z Z) ?_))))
 obtain ⟨x11, hx12, hm13⟩ := bd_some hm10; clear hm10
 refine wq Z (QV.call en93 (ec Z eN) (fun w hw => have h := R5_Uses_w w hx12 ; h)) (wa Z (nt (WC.seq (sr (wf fd45_3 Z (wl pl3 Z (Own.cell 0 Z Z) (wq Z (QV.lss Z Z Z Z) (wm Z (gn Z (fun hG => QV.fieldAddr fd45_3 Z Z) (gn Z (fun hG => QV.load pl3 Z hG (Own.cell 0 Z Z)) (gn Z (fun hG => QV.fieldAddr fd24_2 Z Z) ?_)))))))))))
 refine gn Z (fun hG => QV.load pl3 Z hG (Own.cell 2 Z Z)) (gn Z (fun hG => QV.geq Z hG Z hG) (wq Z (QV.pickOr Z Z Z (fun h => notF h)) (wm Z (gn Z (fun hG => QV.fieldAddr fd45_4 Z Z) (gn Z (fun hG => QV.load pl3 Z hG (Own.cell 0 Z Z)) (gn Z (fun hG => QV.lss Z hG Z Z) (wq Z (QV.pickOr Z Z Z (fun h => notF h)) (wm Z (gn Z (fun hG => QV.fieldAddr fd45_5 Z Z) ?_)))))))))
 refine gn Z (fun hG => QV.load pl3 Z hG (Own.cell 0 Z Z)) (gn Z (fun hG => QV.lss Z hG Z Z) (wq Z (QV.pickOr Z Z Z (fun h => notF h)) (wm Z (gn Z (fun hG => QV.fieldAddr fd45_4 Z Z) (gn Z (fun hG => QV.load pl3 Z hG (Own.cell 0 Z Z)) (gn Z (fun hG => QV.fieldAddr fd24_2 Z Z) (gn Z (fun hG => QV.load pl3 Z hG (Own.cell 2 Z Z)) (gn Z (fun hG => QV.geq Z hG Z hG) (wq Z (QV.pickOr Z Z Z (fun h => notF h)) ?_)))))))))
 refine wm Z (gn Z (fun hG => QV.fieldAddr fd45_5 Z Z) (gn Z (fun hG => QV.load pl3 Z hG (Own.cell 0 Z Z)) (gn Z (fun hG => QV.fieldAddr fd24_2 Z Z) (gn Z (fun hG => QV.load pl3 Z hG (Own.cell 2 Z Z)) (gn Z (fun hG => QV.geq Z hG Z hG) (wq Z (QV.pickOr Z Z Z (fun h => notF h)) (wm Z (gn Z (fun hG => QV.move Z Z) (gn Z (fun hG => QV.lss Z hG Z Z) ?_)))))))))
 refine gn Z (fun hG => QV.move Z hG) (gpC Z (fun hG => QV.fieldAddr fd45_4 Z Z) (gpC Z (fun hG => QV.load pl3 Z hG (Own.cell 0 Z Z)) (gpC Z (fun hG => QV.neq Z hG Z Z) (gn Z (fun hG => QV.pickAnd Z hG Z (fun h => andT hG h)) (wq Z (QV.pickOr Z Z Z (fun h => notF h)) (wm Z (gn Z (fun hG => QV.move Z Z) (gn Z (fun hG => QV.lss Z hG Z Z) (gn Z (fun hG => QV.move Z hG) ?_)))))))))
 refine gpC Z (fun hG => QV.fieldAddr fd45_5 Z Z) (gpC Z (fun hG => QV.load pl3 Z hG (Own.cell 0 Z Z)) (gpC Z (fun hG => QV.neq Z hG Z Z) (gn Z (fun hG => QV.pickAnd Z hG Z (fun h => andT hG h)) (wq Z (QV.pickOr Z Z Z (fun h => notF h)) (nt ?_)))))
 refine wc Z hm13 (fun h14 hm15 => ?_) (fun h14 hm16 => ?_) <;> clear hm13
 ·skip
  refine sr (wa Z (nt (WC.ret (tr ?_))))
  obtain rfl := (eq_of_some hm15).symm
  exact WQ.ret1 Z Z fun w hw => kg hw
 refine sk (WQ.then (sr (wf fd45_2 Z (wl pl3 Z (Own.cell 0 Z Z) (wf fd45_6 Z (wl pl3 Z (Own.cell 0 Z Z) (wf fd45_7 Z (wl pl3 Z (Own.cell 0 Z Z) (wf fd45_8 Z (wl pl3 Z (Own.cell 0 Z Z) (wf fd45_9 Z ?_)))))))))))
 refine wl pl2 Z (Own.cell 0 Z Z) (wq Z (QV.build (ps := [(0, .tmp 100), (3, .tmp 102), (4, .tmp 104), (5, .tmp 106), (6, .tmp 108)]) (cells := [i_ o.op, i_ 0, i_ 0, i_ 0, i_ 0, i_ o.ar, i_ o.sp, i_ o.pl, i_ o.n]) (ec Z (ec Z (ec Z (ec Z (ec Z eN))))) (by kernel_rfl)) (WL.effect Z ?_))
 refine (EV.alloc (by decide) ze59 (fun b17 => ?_))
 refine WL.effect Z ?_
 refine (EV.store 0 Z Z Z Z Z Z (vs := [i_ o.op, i_ 0, i_ 0, i_ 0, i_ 0, i_ o.ar, i_ o.sp, i_ o.pl, i_ o.n]) (show Value.cells _ = List.toArray _ from Z) sz59 (nl Z) (oc Z (oc Z (oc Z (oc Z (oc Z (oc Z (oc Z (oc Z (oc Z one_nil))))))))) ?_)
 refine ns (wm Z (wq Z (QV.build (ps := [(0, .const (i_ 2))]) (cells := [i_ 2, i_ 0, i_ 0, i_ 0, i_ 0, i_ 0, i_ 0, i_ 0, i_ 0]) (ec Z eN) (by kernel_rfl)) (wq Z (QV.loadAgg ag59 Z Z Z (Own.cellsBlk 0 Z)) (WL.effect Z ?_))))
 refine (EV.buildSlice (by decide) sz_47 (by decide) (by decide) (ps := [(0, .tmp 111), (1, .tmp 112)]) (cells := [i_ 2, i_ 0, i_ 0, i_ 0, i_ 0, i_ 0, i_ 0, i_ 0, i_ 0, i_ o.op, i_ 0, i_ 0, i_ 0, i_ 0, i_ o.ar, i_ o.sp, i_ o.pl, i_ o.n]) (ec Z (ec Z eN)) (by kernel_rfl) (fun b18 => ?_))
 refine wq Z (QV.buildS (ps := [(0, .tmp 110), (1, .tmp 113)]) (cells := [v_logs, (blkSlice b18 2 2), .slice none 0 0]) (css := [[v_logs], [(blkSlice b18 2 2)]]) (ec Z (ec Z eN)) (CellsAll.cons (SliceLen.cells h_logs.lenMap) (CellsAll.cons (SliceLen.cells SliceLen.blk) CellsAll.nil)) (by kernel_rfl)) ?_
 obtain ⟨x19, hx20, hm21⟩ := bd_some hm16; clear hm16
 refine wq Z (QV.call en68 (ec Z eN) (fun w hw => have h := R2_May_w w hx20 ((Own.karr 5 Z hk h_logs) w hw) ((Own.blkArr 0 (rows := [(Stm.mk 2 (Rf.mk 0 0) (Rf.mk 0 0) 0 0 0 0), (Stm.mk o.op (Rf.mk 0 0) (Rf.mk 0 0) o.ar o.sp o.pl o.n)].map Stm.cells) Z Z (rows_len Stm.cells_len)) w hw) Arr.nil; h)) (wa Z (nt (WC.ret ?_)))
 obtain rfl := (eq_of_some hm21).symm
 exact WQ.ret1 Z Z fun w hw => kg hw
theorem R5_May_w {v_k__ops v_logs : Value} {t : Tgt} {k_ : Krn} {logs : List Int} {r : Bool} (w : World) (hm : R5_May_m t k_ logs = some r) (h_k__ops : Arr w v_k__ops 10 (k_.ops.map Opr.cells)) (h_logs : Arr w v_logs 1 (logs.map icell)) : Calls Try.prog 16 #[.agg #[.int .i64 t.u0, .int .i64 t.u1, .int .i64 t.u2, .int .i64 t.w0, .int .i64 t.w1, .int .i64 t.w2, .int .i64 t.regs], .agg #[.int .i64 k_.pace, .int .i64 k_.stages, v_k__ops], v_logs] w (fun e w' => e = .returned (.bool r) ∧ Grow w w') := by
 unfold R5_May_m at hm
 have hk := Base.rfl (w := w)
 refine calls_of_WC (n := 96) (args := [.agg #[i_ t.u0, i_ t.u1, i_ t.u2, i_ t.w0, i_ t.w1, i_ t.w2, i_ t.regs], .agg #[i_ k_.pace, i_ k_.stages, v_k__ops], v_logs]) Try.func16 Z Z (nl Z) ?_ (Own.startK hk (Own.start w))
 refine sr (WL.effect Z ?_)
 refine (EV.boxAgg (by decide) Z Z (fun b1 => ?_))
 refine WL.effect Z ?_
 refine (EV.boxAgg (by decide) Z Z (fun b2 => ?_))
 refine wa Z (nt (WC.seq (sr (wq Z (QV.loadAgg ag24 Z Z Z (Own.cellsBlk 1 Z)) ?_))))
 obtain ⟨x3, hx4, hm5⟩ := bd_some hm; clear hm
 refine wq Z (QV.call en49 (ec Z eN) (fun w hw => have h := R4_May_w w hx4 ; h)) (wq Z (QV.not Z Z) (wm Z (gn Z (fun hG => QV.fieldAddr fd27_0 Z Z) (gn Z (fun hG => QV.load pl3 Z hG (Own.cell 0 Z Z)) ?_))))
 obtain ⟨x6, hx7, hm8⟩ := bdG_some hm5; clear hm5
 refine gn Z (fun hG => QV.call en50 (EvAll.cons Z hG (ec Z (ec Z eN))) (fun w hw => have h := R2_Within_w w (hx7 hG) ; h)) (gn Z (fun hG => QV.not Z hG) (wq Z (QV.pickOr Z Z Z (fun h => notF h)) (wm Z (gn Z (fun hG => QV.fieldAddr fd27_1 Z Z) (gn Z (fun hG => QV.load pl3 Z hG (Own.cell 0 Z Z)) ?_)))))
 obtain ⟨x9, hx10, hm11⟩ := bdG_some hm8; clear hm8
 refine gn Z (fun hG => QV.call en50 (EvAll.cons Z hG (ec Z (ec Z eN))) (fun w hw => have h := R2_Within_w w (hx10 hG) ; h)) (gn Z (fun hG => QV.not Z hG) (wq Z (QV.pickOr Z Z Z (fun h => notF h)) (wm Z (gn Z (fun hG => QV.fieldAddr fd27_2 Z Z) (gn Z (fun hG => QV.load pl25 Z hG (Own.cell 0 Z Z)) (gn Z (fun hG => QV.lenS Try.underlying25 Z hG h_k__ops.lenMap) ?_))))))
 obtain ⟨x12, hx13, hm14⟩ := bdG_some hm11; clear hm11
 refine gn Z (fun hG => QV.call en50 (EvAll.cons Z hG (ec Z (ec Z eN))) (fun w hw => have h := R2_Within_w w (hx13 hG) ; h)) (gn Z (fun hG => QV.not Z hG) (wq Z (QV.pickOr Z Z Z (fun h => notF h)) (nt ?_)))
 refine wc Z hm14 (fun h15 hm16 => ?_) (fun h15 hm17 => ?_) <;> clear hm14
 ·skip
  refine sr (wa Z (nt (WC.ret (tr ?_))))
  obtain rfl := (eq_of_some hm16).symm
  exact WQ.ret1 Z Z fun w hw => kg hw
 refine sk (WQ.then (WC.seq (sr (wa Z (nt ?_)))))
 obtain ⟨o18, ho19, hm20⟩ := bd_some hm17; clear hm17; obtain ⟨n21, ho22⟩ := lp_some ho19
 refine WC.bloop1 (H2 := [blk b2 [i_ k_.pace, i_ k_.stages, v_k__ops] 27, blk b1 t.cells 24, kn noM w.heap.size w w]) (τ := [u_ 2 _, u_ 3 _, u_ 4 _]) (fun (i7_2 : Int) => [(7, (true, i_ i7_2))]) (fun i7_2 => []) (fun i7_2 m => iter (R5_May_L0 t k_ logs) m i7_2 = some o18) (fun i7_2 => o18 = .go i7_2) 0 n21 ho22 ⟨Z, Z, Z, Z, trivial⟩ (pk [0, 1, 2]) ?_ ?_
 ·skip
  rintro i7_2 rfl
  refine WQ.then (sr (wa Z (nt (WC.ret ?_))))
  obtain rfl := (eq_of_some hm20).symm
  exact WQ.ret1 Z Z fun w hw => kg hw
 rintro i7_2 m23 hI24
 obtain ⟨m25, s26, rfl, hm27, hn28⟩ := iter_step hI24; clear hI24; unfold R5_May_L0 at hm27
 refine WC.seq (sr (wm Z (wf fd27_2 Z (wl pl25 Z (Own.cell 0 Z Z) (wq Z (QV.lenS Try.underlying25 Z Z h_k__ops.lenMap) (wq Z (QV.lss Z Z Z Z) (nt ?_)))))))
 refine wc Z hm27 (fun h29 hm30 => ?_) (fun h29 hm93 => ?_) <;> clear hm27
 ·skip
  refine sk (WQ.then (WC.seq (WC.block (WC.seq (WC.seq (WC.dr (m := 10) (S := Own noM w [kn noM w.heap.size w w, blk b2 [i_ k_.pace, i_ k_.stages, v_k__ops] 27, blk b1 t.cells 24]) (by kernel_rfl) (by kernel_rfl) (pk [2, 0, 1]) (wz 0 Z Z (QV.loadAgg ag24 Z Z Z (Own.cellsBlk 2 Z)) (wz 1 Z Z (QV.loadAgg ag27 Z Z Z (Own.cellsBlk 1 Z)) (zf 2 fd27_2 Z Z (zl 3 pl25 Z Z (Own.cell 1 Z Z) (zm 4 Z Z ?_)))))))))))
  obtain ⟨c31, hm32⟩ := cs hm30; clear hm30
  obtain ⟨p33, hp34⟩ := h_k__ops.lenMap.ix (sz := 10) ln_len c31
  refine wz 5 Z Z (QV.indexSlice sl25 Z Z Z Z hp34) (wz 6 Z Z (QV.loadAgg ag45 Z Z Z (fun w hw => ((Own.karr 0 Z hk h_k__ops) w hw).ele hp34 c31)) (zm 7 Z Z ?_))
  obtain ⟨x35, hx36, hm37⟩ := bd_some hm32; clear hm32
  refine wz 8 Z Z (QV.call en51 (ec Z (ec Z (ec Z (ec Z eN)))) (fun w hw => have h := R5_one_w w hx36 ((Own.karr 0 Z hk h_k__ops) w hw) ((Own.karr 0 Z hk h_logs) w hw); h)) (wz 9 Z Z (QV.not Z Z) ?_)
  refine WD.e (by kernel_rfl) ?_
  refine WQ.then ?_
  refine wc Z hm37 (fun h38 hm39 => ?_) (fun h38 hm40 => ?_) <;> clear hm37
  ·skip
   refine sr (wa Z (nt (WC.ret (tr (kr (tr (tr (kr (tr (tr ?_))))))))))
   obtain rfl := up_ret hm39 hn28
   obtain rfl := (eq_of_some hm20).symm
   exact WQ.ret1 Z Z fun w hw => kg hw
  refine sk (WQ.then (sr (wf fd27_2 Z (wl pl25 Z (Own.cell 0 Z Z) (wm Z ?_)))))
  obtain ⟨c41, hm42⟩ := cs hm40; clear hm40
  obtain ⟨p43, hp44⟩ := h_k__ops.lenMap.ix (sz := 10) ln_len c41
  refine wq Z (QV.indexSlice sl25 Z Z Z Z hp44) (wf fd45_2 Z (wl pl3 Z (fun w hw => CellsAt.one 2 (((Own.karr 2 Z hk h_k__ops) w hw).ele hp44 c41) Z) ?_))
  obtain ⟨x45, hx46, hm47⟩ := bd_some hm42; clear hm42
  refine wq Z (QV.call en52 (ec Z eN) (fun w hw => have h := R1_Class_w w hx46 ; h)) (wa Z (ns (wa Z (nt (WC.seq (sr (wa Z (nt ?_))))))))
  obtain ⟨o48, ho49, hm50⟩ := bd_some hm47; clear hm47; obtain ⟨n51, ho52⟩ := lp_some ho49
  refine WC.bloop2 (H2 := [blk b2 [i_ k_.pace, i_ k_.stages, v_k__ops] 27, blk b1 t.cells 24, kn noM w.heap.size w w]) (τ := [u_ 2 _, u_ 3 _, u_ 4 _, u_ 7 _, u_ 8 _]) (fun (many9_3 : Int) (j10_3 : Int) => [(9, (true, i_ many9_3)), (10, (true, i_ j10_3))]) (fun many9_3 j10_3 => []) (fun many9_3 j10_3 m => iter (R5_May_L2 k_ i7_2 x45) m (many9_3, j10_3) = some o48) (fun many9_3 j10_3 => o48 = .go (many9_3, j10_3)) 0 0 n51 ho52 ⟨Z, Z, Z, Z, Z, Z, Z, trivial⟩ (pk [0, 1, 2]) ?_ ?_
  ·skip
   rintro many9_3 j10_3 rfl
   refine WQ.then (sr (wm Z (wm Z (wf fd24_0 Z ?_))))
   obtain ⟨c53, hm54⟩ := cs hm50; clear hm50
   refine wq Z (QV.indexArray ar22 Z Z Z Z c53.1 c53.2) (wl pl3 Z (Own.cellSym 1 Z (sel3_get (off := 0) (i := x45) c53.1 c53.2 Z Z Z) (addr_sym _ _ _)) (wq Z (QV.gtr Z Z Z Z) (nt ?_)))
   refine wc Z hm54 (fun h55 hm56 => ?_) (fun h55 hm57 => ?_) <;> clear hm54
   ·skip
    refine sr (wa Z (nt (WC.ret (kr (tr (tr (kr (tr (tr ?_)))))))))
    obtain rfl := up_ret hm56 hn28
    obtain rfl := (eq_of_some hm20).symm
    exact WQ.ret1 Z Z fun w hw => kg hw
   refine sk (WQ.block (WQ.then (WC.region (wm Z ?_))))
   obtain ⟨c58, hm59⟩ := cs hm57; clear hm57
   refine wq Z (QV.add Z Z Z Z c58) (wa Z (WL.nil ?_))
   exact WQ.again1 (i7_2 + 1) m25 (up_next hm59 hn28) (Nat.lt_succ_self _) ⟨Z, Z, Z, Z, trivial⟩ (pk [0, 1, 2])
  rintro many9_3 j10_3 m60 hI61
  obtain ⟨m62, s63, rfl, hm64, hn65⟩ := iter_step hI61; clear hI61; unfold R5_May_L2 at hm64; simp only at hm64
  refine WC.seq (sr (wm Z (wf fd27_2 Z (wl pl25 Z (Own.cell 0 Z Z) (wq Z (QV.lenS Try.underlying25 Z Z h_k__ops.lenMap) (wq Z (QV.lss Z Z Z Z) (nt ?_)))))))
  refine wc Z hm64 (fun h66 hm67 => ?_) (fun h66 hm92 => ?_) <;> clear hm64
  ·skip
   refine sk (WQ.then (WC.seq (WC.block (WC.seq (WC.dr (m := 24) (S := Own noM w [kn noM w.heap.size w w, blk b2 [i_ k_.pace, i_ k_.stages, v_k__ops] 27, blk b1 t.cells 24]) (by kernel_rfl) (by kernel_rfl) (pk [2, 0, 1]) (zf 0 fd27_2 Z Z (zl 1 pl25 Z Z (Own.cell 1 Z Z) (zm 2 Z Z ?_))))))))
   obtain ⟨c68, hm69⟩ := cs hm67; clear hm67
   obtain ⟨p70, hp71⟩ := h_k__ops.lenMap.ix (sz := 10) ln_len c68
   refine wz 3 Z Z (QV.indexSlice sl25 Z Z Z Z hp71) (zf 4 fd45_0 Z Z (zl 5 pl3 Z Z (fun w hw => CellsAt.one 0 (((Own.karr 0 Z hk h_k__ops) w hw).ele hp71 c68) Z) (zf 6 fd27_2 Z Z (zl 7 pl25 Z Z (Own.cell 1 Z Z) (zm 8 Z Z ?_)))))
   obtain ⟨c72, hm73⟩ := cs hm69; clear hm69
   obtain ⟨p74, hp75⟩ := h_k__ops.lenMap.ix (sz := 10) ln_len c72
   refine wz 9 Z Z (QV.indexSlice sl25 Z Z Z Z hp75) (zf 10 fd45_0 Z Z (zl 11 pl3 Z Z (fun w hw => CellsAt.one 0 (((Own.karr 0 Z hk h_k__ops) w hw).ele hp75 c72) Z) (wz 12 Z Z (QV.eql Z Z Z Z) (zm 13 Z Z (zp 14 Z Z (fun hG => QV.fieldAddr fd27_2 Z Z) (zp 15 Z Z (fun hG => QV.load pl25 Z hG (Own.cell 1 Z Z)) (zp 16 Z Z (fun hG => QV.move Z Z) ?_)))))))
   obtain ⟨c76, hm77⟩ := cs hm73; clear hm73
   obtain ⟨p78, hp79⟩ := h_k__ops.lenMap.ixG (sz := 10) ln_len c76
   refine zp 17 Z Z (fun hG => QV.indexSlice sl25 Z hG Z hG (hp79 hG)) (zp 18 Z Z (fun hG => QV.fieldAddr fd45_2 Z hG) (zp 19 Z Z (fun hG => QV.load pl3 Z hG (fun w hw => CellsAt.one 2 (((Own.karr 0 Z hk h_k__ops) w hw).ele (hp79 hG) (c76 hG)) Z)) ?_))
   obtain ⟨x80, hx81, hm82⟩ := bdG_some hm77; clear hm77
   refine zp 20 Z Z (fun hG => QV.call en52 (EvAll.cons Z hG eN) (fun w hw => have h := R1_Class_w w (hx81 hG) ; h)) (zp 21 Z Z (fun hG => QV.move Z Z) (zp 22 Z Z (fun hG => QV.eql Z hG Z hG) (wz 23 Z Z (QV.pickAnd Z Z Z (fun h => h)) ?_)))
   refine WD.e (by kernel_rfl) ?_
   refine WQ.then ?_
   refine wc Z hm82 (fun h83 hm84 => ?_) (fun h83 hm89 => ?_) <;> clear hm82
   ·skip
    refine WC.region (wm Z ?_)
    obtain ⟨c85, c87, hm88⟩ := cs2 hm84; clear hm84
    refine wq Z (QV.add Z Z Z Z c85) (wa Z (WL.nil (WQ.block (WQ.then (WC.region (wm Z (wq Z (QV.add Z Z Z Z c87) (wa Z (WL.nil ?_)))))))))
    exact WQ.again2 (many9_3 + 1) (j10_3 + 1) m62 (up_next hm88 hn65) (Nat.lt_succ_self _) ⟨Z, Z, Z, Z, Z, Z, Z, trivial⟩ (pk [0, 1, 2])
   refine sk (WQ.block (WQ.then (WC.region (wm Z ?_))))
   obtain ⟨c90, hm91⟩ := cs hm89; clear hm89
   refine wq Z (QV.add Z Z Z Z c90) (wa Z (WL.nil ?_))
   exact WQ.again2 many9_3 (j10_3 + 1) m62 (up_next hm91 hn65) (Nat.lt_succ_self _) ⟨Z, Z, Z, Z, Z, Z, Z, trivial⟩ (pk [0, 1, 2])
  refine WC.exit (te (te (WQ.block_exit ?_)))
  exact WQ.out2 many9_3 j10_3 (up_brk hm92 hn65) ⟨Z, Z, Z, Z, Z, Z, Z, trivial⟩ (pk [0, 1, 2])
 refine WC.exit (te (te (WQ.block_exit ?_)))
 exact WQ.out1 i7_2 (up_brk hm93 hn28) ⟨Z, Z, Z, Z, trivial⟩ (pk [0, 1, 2])
end Go.Proofs.Ytaimbkndebaaiab
end
section
namespace Go.Proofs.Ytaimbkndebaaiab
open Go.Rd
open TNum TLoop TStable TMach TMach2 TKern TClone TNbr TSeq TKRun TRDep TR10
namespace TR5b
theorem ag102 : AggT Try.prog 102 3 := ⟨_, Try.underlying102, rfl, by kernel_rfl⟩
theorem en14 : Go.Rd.Enters Try.prog 14 := eT Try.func14
theorem fd102_0 : FieldT Try.prog 102 0 0 := fT 0 Try.underlying102
theorem fd102_1 : FieldT Try.prog 102 1 1 := fT 0 Try.underlying102
theorem fd102_2 : FieldT Try.prog 102 2 2 := fT 0 Try.underlying102
theorem sl100 : SliceT Try.prog 100 102 3 := ⟨Try.underlying100, by kernel_rfl⟩
theorem sz_100 : SliceZ Try.prog 100 102 3 [.int .i64 0, .int .i64 0, .int .i64 0] := ⟨Try.underlying100, by kernel_rfl⟩
theorem ve100 : VecT Try.prog 100 102 3 24 := ⟨Try.underlying100, by kernel_rfl, by decide⟩
end TR5b
open TR5b
theorem R5_Logs_w {v_m_ : Value} {m_ : List (List Int)} {r : List Int × Bool} {K0 : World} (hm : R5_Logs_m m_ = some r) (h_m_ : RowsA K0 v_m_ m_) (M : Nat → Prop) (w : World) (hk : Base M K0 w) (hw0 : Own M w [] w) : Calls Try.prog 14 #[v_m_] w (fun e w' => ∃ X : Value × World, e = .returned (.tuple #[X.1, .bool r.2]) ∧ Own M w (kn M w.heap.size K0 X.2 :: []) w' ∧ Arr X.2 X.1 1 (r.1.map icell)) := by
 unfold R5_Logs_m at hm
 refine calls_of_WC (n := 34) (args := [v_m_]) Try.func14 Z Z (nl Z) ?_ (Own.startK hk hw0)
 refine sr (wa Z (wa Z (ns (wa Z (nt (WC.seq (sr (wa Z (nt ?_)))))))))
 refine WK.of (fun w hw => hw.vecNil (E := 3) (sz := 1) (enc := icell)) ?_
 obtain ⟨o2, ho3, hm4⟩ := bd_some hm; clear hm; obtain ⟨n5, ho6⟩ := lp_some ho3
 refine WC.bloop3 (H2 := [kn M w.heap.size K0 K0]) (τ := [u_ 0 _]) (fun (v1_4 : List Int) (i5_4 : Int) (uv1_4 : Value) => [(4, (true, uv1_4)), (5, (true, i_ i5_4))]) (fun v1_4 i5_4 uv1_4 => [vec uv1_4 3 1 (List.map icell v1_4)]) (fun v1_4 i5_4 uv1_4 m => iter (R5_Logs_L0 m_) m (v1_4, i5_4) = some o2 ∧ SliceLen uv1_4 v1_4.length) (fun v1_4 i5_4 uv1_4 => o2 = .go (v1_4, i5_4) ∧ SliceLen uv1_4 v1_4.length) [] 0 (.slice none 0 0) n5 ⟨ho6, SliceLen.nil⟩ ⟨Z, Z, Z, trivial⟩ (pk [0, 1]) ?_ ?_
 ·skip
  rintro v1_4 i5_4 uv1_4 ⟨rfl, hlv1_4⟩
  refine WQ.then (sr (wm Z (wa Z (wa Z (nt (WC.ret ?_))))))
  obtain rfl := (eq_of_some hm4).symm
  refine WK.of (C' := Own M w [kn M w.heap.size K0 K0, vec uv1_4 3 1 (List.map icell v1_4)]) (pk [1, 0]) ?_
  refine WK.freeze hk (fun k7 hle7 hr7 => ?_)
  have hA7 := vec_arr hr7
  refine WQ.ret2 Z Z Z (fun w hw => ?_)
  exact ⟨(uv1_4, k7), Z, hw.pick [0] (by decide), hA7⟩
 rintro v1_4 i5_4 uv1_4 m8 ⟨hI9, hlv1_4⟩
 obtain ⟨m10, s11, rfl, hm12, hn13⟩ := iter_step hI9; clear hI9; unfold R5_Logs_L0 at hm12; simp only at hm12
 refine WC.seq (sr (wm Z (wm Z (wq Z (QV.lenS Try.underlying29 Z Z h_m_.slen) (wq Z (QV.lss Z Z Z Z) (nt ?_))))))
 refine wc Z hm12 (fun h14 hm15 => ?_) (fun h14 hm52 => ?_) <;> clear hm12
 ·skip
  refine sk (WQ.then (WC.seq (WC.block (sr (wa Z (nt (WC.seq ?_)))))))
  obtain ⟨o16, ho17, hm18⟩ := bd_some hm15; clear hm15; obtain ⟨n19, ho20⟩ := lp_some ho17
  refine WC.bloop1 (H2 := [vec uv1_4 3 1 (List.map icell v1_4), kn M w.heap.size K0 K0]) (τ := [u_ 0 _, u_ 4 _, u_ 5 _]) (fun (log6_5 : Int) => [(6, (true, i_ log6_5))]) (fun log6_5 => []) (fun log6_5 m => iter (R5_Logs_L2 m_ i5_4) m log6_5 = some o16) (fun log6_5 => o16 = .go log6_5) 0 n19 ho20 ⟨Z, Z, Z, Z, trivial⟩ (pk [0, 1]) ?_ ?_
  ·skip
   rintro log6_5 rfl
   refine WQ.then (WC.seq (sr (wm Z (wq Z (QV.gtr Z Z Z Z) (nt ?_)))))
   refine wc Z hm18 (fun h21 hm22 => ?_) (fun h21 hm23 => ?_) <;> clear hm18
   ·skip
    refine sr (wa Z (wa Z (nt (WC.ret (tr (kr (tr (tr (kr (tr (tr ?_)))))))))))
    obtain rfl := up_ret hm22 hn13
    obtain rfl := (eq_of_some hm4).symm
    refine WQ.ret2 Z Z Z (fun w hw => ?_)
    exact ⟨(.slice none 0 0, K0), Z, hw.pick [1] (by decide), Arr.nil⟩
   refine sk (WQ.then (WC.region (wm Z (wm Z (WL.effect Z ?_)))))
   refine (EV.buildSlice (by decide) sz_30 (by decide) (by decide) (ps := [(0, .tmp 30)]) (cells := [i_ log6_5]) (ec Z eN) (by kernel_rfl) (fun b24 => ?_))
   refine WL.effect Z ?_
   obtain ⟨c25, c29, hm30⟩ := cs2 hm23; clear hm23
   refine (EV.appendL (enc := icell) (xs := v1_4) (ys := [log6_5]) ((v1_4 ++ [log6_5])) 1 (by decide) ve30 Z Z Z Z Z (Own.blkArr 0 (rows := [log6_5].map icell) Z Z (rows_len icell_len)) icell_len (icell_one _) Z c25.1 c25.2 (fun u27 hu28 => ?_))
   refine wa Z (WL.nil (WQ.block (WQ.then (WC.region (wm Z (wq Z (QV.add Z Z Z Z c29) (wa Z (WL.nil ?_))))))))
   exact WQ.again3 (v1_4 ++ [log6_5]) (i5_4 + 1) u27 m10 ⟨up_next hm30 hn13, hu28⟩ (Nat.lt_succ_self _) ⟨Z, Z, Z, trivial⟩ (pk [1, 2])
  rintro log6_5 m31 hI32
  obtain ⟨m33, s34, rfl, hm35, hn36⟩ := iter_step hI32; clear hI32; unfold R5_Logs_L2 at hm35
  refine WC.seq (WC.seq (WC.dr (m := 12) (S := Own M w [kn M w.heap.size K0 K0, vec uv1_4 3 1 (List.map icell v1_4)]) (by kernel_rfl) (by kernel_rfl) (pk [1, 0]) (zm 0 Z Z (wz 1 Z Z (QV.leq Z Z Z Z) (zm 2 Z Z (zp 3 Z Z (fun hG => QV.move Z Z) ?_))))))
  obtain ⟨x37, hx38, hm39⟩ := bdG_some hm35; clear hm35
  refine zp 4 Z Z (fun hG => QV.call en45 (EvAll.cons Z hG eN) (fun w hw => have h := R1_Size_w w (hx38 hG) ; h)) (zp 5 Z Z (fun hG => QV.move Z Z) (zp 6 Z Z (fun hG => QV.move Z Z) ?_))
  obtain ⟨c40, hm41⟩ := cs hm39; clear hm39
  obtain ⟨p42, u44, hp43, hc45, hA46⟩ := h_m_.ixG c40
  refine zp 7 Z Z (fun hG => QV.indexSlice sl29 Z hG Z hG (hp43 hG)) (zp 8 Z Z (fun hG => QV.load pl28 Z hG (fun w hw => CellsAt.one 0 ((Own.kcells 0 Z hk (hc45 hG)) w hw) Z)) (zp 9 Z Z (fun hG => QV.lenS Try.underlying28 Z hG hA46.lenMap) (zp 10 Z Z (fun hG => QV.neq Z hG Z hG) (wz 11 Z Z (QV.pickAnd Z Z Z (fun h => h)) ?_))))
  refine WD.e (by kernel_rfl) ?_
  refine WQ.then ?_
  refine wc Z hm41 (fun h47 hm48 => ?_) (fun h47 hm51 => ?_) <;> clear hm41
  ·skip
   refine sk (WQ.then (WC.block (WC.region (wm Z ?_))))
   obtain ⟨c49, hm50⟩ := cs hm48; clear hm48
   refine wq Z (QV.add Z Z Z Z c49) (wa Z (WL.nil (WQ.block ?_)))
   exact WQ.again1 (log6_5 + 1) m33 (up_next hm50 hn36) (Nat.lt_succ_self _) ⟨Z, Z, Z, Z, trivial⟩ (pk [0, 1])
  refine WC.exit (te (te (WQ.block_exit ?_)))
  exact WQ.out1 log6_5 (up_brk hm51 hn36) ⟨Z, Z, Z, Z, trivial⟩ (pk [0, 1])
 refine WC.exit (te (te (WQ.block_exit ?_)))
 exact WQ.out3 v1_4 i5_4 uv1_4 ⟨up_brk hm52 hn13, hlv1_4⟩ ⟨Z, Z, Z, trivial⟩ (pk [0, 1])
theorem R5_Play_w {v_k__ops v_regs v_memory : Value} {t : Tgt} {k_ : Krn} {regs : List Int} {memory : List (List Int)} {turns : Int} {r : List Int × List (List Int)} {K0 : World} (hm : R5_Play_m t k_ regs memory turns = some r) (h_k__ops : Arr K0 v_k__ops 10 (k_.ops.map Opr.cells)) (h_regs : Arr K0 v_regs 1 (regs.map icell)) (h_memory : RowsA K0 v_memory memory) (M : Nat → Prop) (w : World) (hk : Base M K0 w) (hw0 : Own M w [] w) : Calls Try.prog 20 #[.agg #[.int .i64 t.u0, .int .i64 t.u1, .int .i64 t.u2, .int .i64 t.w0, .int .i64 t.w1, .int .i64 t.w2, .int .i64 t.regs], .agg #[.int .i64 k_.pace, .int .i64 k_.stages, v_k__ops], v_regs, v_memory, .int .i64 turns] w (fun e w' => ∃ X : Value × Value × World, e = .returned (.tuple #[X.1, X.2.1]) ∧ Own M w (kn M w.heap.size K0 X.2.2 :: []) w' ∧ Arr X.2.2 X.1 1 (r.1.map icell) ∧ RowsA X.2.2 X.2.1 r.2) := by
 unfold R5_Play_m at hm
 refine calls_of_WC (n := 233) (args := [.agg #[i_ t.u0, i_ t.u1, i_ t.u2, i_ t.w0, i_ t.w1, i_ t.w2, i_ t.regs], .agg #[i_ k_.pace, i_ k_.stages, v_k__ops], v_regs, v_memory, i_ turns]) Try.func20 Z Z (nl Z) ?_ (Own.startK hk hw0)
 refine sr (WL.effect Z ?_)
 refine (EV.boxAgg (by decide) Z Z (fun b1 => ?_))
 refine WL.effect Z ?_
 refine (EV.boxAgg (by decide) Z Z (fun b2 => ?_))
 refine wa Z (wa Z (ns (WL.effect Z ?_)))
 refine (EV.buildSlice0 (by decide) sz_28 (fun b3 => ?_))
 refine wm Z (WL.effect Z ?_)
 refine EV.of (fun w hw => hw.blkVec icell ([] : List Int) Z icell_len (nl Z)) ?_
 obtain ⟨c4, hm5⟩ := cs hm; clear hm
 refine (EV.appendL (enc := icell) (xs := []) (ys := regs) (([] ++ regs)) 0 (by decide) ve28 Z Z Z Z Z (Own.karr 3 Z hk h_regs) icell_len (icell_one _) Z c4.1 c4.2 (fun u6 hu7 => ?_))
 refine wa Z (ns (wm Z (WL.effect Z ?_)))
 obtain ⟨x8, hx9, hm10⟩ := bd_some hm5; clear hm5
 refine EV.of (C' := Own M w [kn M w.heap.size K0 K0, vec u6 2 1 (List.map icell ([] ++ regs)), blk b2 [i_ k_.pace, i_ k_.stages, v_k__ops] 27, blk b1 t.cells 24]) (pk [3, 0, 1, 2]) ?_
 refine (EV.callR (X := Value × (List Value) × World) (R := []) (fun X => X.1) (fun X => [grid X.1 X.2.1 28 2 x8]) (fun X => X.2.2) (fun X => SliceLen X.1 (x8).length ∧ GL X.2.1 x8) hk (fun _ h => by cases h; decide) en58 (ec Z eN) (fun M w h1 h2 => have h := R3_Copy_w hx9 h_memory M w h1 h2; h) (fun X11 hF11 hle11 => ?_))
 refine wa Z (ns (wm Z (WL.effect Z ?_)))
 obtain ⟨x13, hx14, hm15⟩ := bd_some hm10; clear hm10
 refine (EV.callR (X := Value × World) (R := []) (fun X => .tuple #[X.1, .bool x13.2]) (fun X => []) (fun X => X.2) (fun X => Arr X.2 X.1 1 (x13.1.map icell)) hk (fun _ h => by cases h; decide) en14 (ec Z eN) (fun M w h1 h2 => have h := R5_Logs_w hx14 (h_memory.le hle11) M w h1 h2; h) (fun X16 hF16 hle16 => ?_))
 refine wm Z (wq Z (QV.extract Z Z Z) (wq Z (QV.extract Z Z Z) (wa Z (wa Z (nt (WC.seq (sr (wm Z (wq Z (QV.eql Z Z Z Z) (nt ?_))))))))))
 refine wc Z hm15 (fun h17 hm18 => ?_) (fun h17 hm21 => ?_) <;> clear hm15
 ·skip
  refine sr (wm Z (wm Z (wa Z (wa Z (nt (WC.ret (tr ?_)))))))
  obtain rfl := (eq_of_some hm18).symm
  refine WK.of (C' := Own M w [kn M w.heap.size K0 X16.2, vec u6 2 1 (List.map icell ([] ++ regs)), grid X11.1 X11.2.1 28 2 x8, blk b2 [i_ k_.pace, i_ k_.stages, v_k__ops] 27, blk b1 t.cells 24]) (pk [0, 2, 1, 3, 4]) ?_
  refine WK.freeze hk (fun k19 hle19 hr19 => ?_)
  have hA19 := vec_arr hr19
  refine WK.freeze hk (fun k20 hle20 hr20 => ?_)
  have hA20 := grid_rows hr20
  refine WQ.ret2 Z Z Z (fun w hw => ?_)
  exact ⟨(u6, X11.1, k20), Z, hw.pick [0] (by decide), (hA19.le hle20), hA20⟩
 refine sk (WQ.then (sr (wa Z (ns (wm Z (wf fd27_1 Z (wl pl3 Z (Own.cell 3 Z Z) ?_)))))))
 obtain ⟨c22, c24, c26, hm27⟩ := cs3 hm21; clear hm21
 refine wq Z (QV.add Z Z Z Z c22) (wq Z (QV.sub Z Z Z Z c24) (wf fd27_0 Z (wl pl3 Z (Own.cell 3 Z Z) (wq Z (QV.mul Z Z Z Z c26) (wa Z (nt (WC.seq (sr (wa Z (nt ?_))))))))))
 refine WK.of (fun w hw => hw.vecNil (E := 102) (sz := 3) (enc := Due.cells)) ?_
 refine WK.of (C' := Own M w [kn M w.heap.size K0 X16.2, grid X11.1 X11.2.1 28 2 x8, vec (.slice none 0 0) 102 3 (List.map Due.cells []), vec u6 2 1 (List.map icell ([] ++ regs)), blk b2 [i_ k_.pace, i_ k_.stages, v_k__ops] 27, blk b1 t.cells 24]) (pk [1, 2, 0, 3, 4, 5]) ?_
 refine WK.freeze hk (fun k29 hle29 hr29 => ?_)
 have hA29 := grid_rows hr29
 obtain ⟨o30, ho31, hm32⟩ := bd_some hm27; clear hm27; obtain ⟨n33, ho34⟩ := lp_some ho31
 refine WC.bloop7 (H2 := [blk b2 [i_ k_.pace, i_ k_.stages, v_k__ops] 27, blk b1 t.cells 24]) (τ := [u_ 4 _, u_ 5 _, u_ 6 _, u_ 12 _, u_ 14 _, u_ 17 _]) (fun (v28_9 : List Due) (v3_9 : List Int) (m13_9 : List (List Int)) (now18_9 : Int) (uv28_9 : Value) (vm13_9 : Value) (k_9 : World) => [(13, (true, vm13_9)), (16, (true, uv28_9)), (18, (true, i_ now18_9))]) (fun v28_9 v3_9 m13_9 now18_9 uv28_9 vm13_9 k_9 => [kn M w.heap.size K0 k_9, vec uv28_9 102 3 (List.map Due.cells v28_9), vec u6 2 1 (List.map icell v3_9)]) (fun v28_9 v3_9 m13_9 now18_9 uv28_9 vm13_9 k_9 m => iter (R5_Play_L0 t k_ regs turns x13) m (v28_9, v3_9, m13_9, now18_9) = some o30 ∧ SliceLen uv28_9 v28_9.length ∧ SliceLen u6 v3_9.length ∧ RowsA k_9 vm13_9 m13_9 ∧ Le k29 k_9) (fun v28_9 v3_9 m13_9 now18_9 uv28_9 vm13_9 k_9 => o30 = .go (v28_9, v3_9, m13_9, now18_9) ∧ SliceLen uv28_9 v28_9.length ∧ SliceLen u6 v3_9.length ∧ RowsA k_9 vm13_9 m13_9 ∧ Le k29 k_9) [] ([] ++ regs) x8 0 (.slice none 0 0) X11.1 k29 n33 ⟨ho34, SliceLen.nil, hu7, hA29, (Le.refl _)⟩ ⟨Z, Z, Z, Z, Z, Z, Z, Z, Z, trivial⟩ (pk [0, 1, 2, 3, 4]) ?_ ?_
 ·skip
  rintro v28_9 v3_9 m13_9 now18_9 uv28_9 vm13_9 k_9 ⟨rfl, hlv28_9, hlv3_9, hAm13_9, hle_9⟩
  refine WQ.then (sr (wm Z (wm Z (wa Z (wa Z (nt (WC.ret ?_)))))))
  obtain rfl := (eq_of_some hm32).symm
  refine WK.of (C' := Own M w [kn M w.heap.size K0 k_9, vec u6 2 1 (List.map icell v3_9), vec uv28_9 102 3 (List.map Due.cells v28_9), blk b2 [i_ k_.pace, i_ k_.stages, v_k__ops] 27, blk b1 t.cells 24]) (pk [0, 2, 1, 3, 4]) ?_
  refine WK.freeze hk (fun k35 hle35 hr35 => ?_)
  have hA35 := vec_arr hr35
  refine WQ.ret2 Z Z Z (fun w hw => ?_)
  exact ⟨(u6, vm13_9, k35), Z, hw.pick [0] (by decide), hA35, (hAm13_9.le hle35)⟩
 rintro v28_9 v3_9 m13_9 now18_9 uv28_9 vm13_9 k_9 m36 ⟨hI37, hlv28_9, hlv3_9, hAm13_9, hle_9⟩
 obtain ⟨m38, s39, rfl, hm40, hn41⟩ := iter_step hI37; clear hI37; unfold R5_Play_L0 at hm40; simp only at hm40
 refine WC.seq (sr (wm Z (wm Z ?_)))
 obtain ⟨c42, c44, hm45⟩ := cs2 hm40; clear hm40
 refine wq Z (QV.add Z Z Z Z c42) (wq Z (QV.add Z Z Z Z c44) (wq Z (QV.lss Z Z Z Z) (nt ?_)))
 refine wc Z hm45 (fun h46 hm47 => ?_) (fun h46 hm299 => ?_) <;> clear hm45
 ·skip
  refine sk (WQ.then (WC.seq (WC.block (sr (wa Z (nt (WC.seq (sr (wa Z (nt ?_))))))))))
  refine WK.of (fun w hw => hw.vecNil (E := 102) (sz := 3) (enc := Due.cells)) ?_
  obtain ⟨o49, ho50, hm51⟩ := bd_some hm47; clear hm47; obtain ⟨n52, ho53⟩ := lp_some ho50
  refine WC.bloop4 (H2 := [kn M w.heap.size K0 k_9, vec uv28_9 102 3 (List.map Due.cells v28_9), blk b2 [i_ k_.pace, i_ k_.stages, v_k__ops] 27, blk b1 t.cells 24]) (τ := [u_ 4 _, u_ 5 _, u_ 6 _, u_ 12 _, u_ 13 _, u_ 14 _, u_ 16 _, u_ 17 _, u_ 18 _]) (fun (v3_10 : List Int) (v48_10 : List Due) (i20_10 : Int) (uv48_10 : Value) => [(19, (true, uv48_10)), (20, (true, i_ i20_10))]) (fun v3_10 v48_10 i20_10 uv48_10 => [vec uv48_10 102 3 (List.map Due.cells v48_10), vec u6 2 1 (List.map icell v3_10)]) (fun v3_10 v48_10 i20_10 uv48_10 m => iter (R5_Play_L2 v28_9 now18_9) m (v3_10, v48_10, i20_10) = some o49 ∧ SliceLen u6 v3_10.length ∧ SliceLen uv48_10 v48_10.length) (fun v3_10 v48_10 i20_10 uv48_10 => o49 = .go (v3_10, v48_10, i20_10) ∧ SliceLen u6 v3_10.length ∧ SliceLen uv48_10 v48_10.length) v3_9 [] 0 (.slice none 0 0) n52 ⟨ho53, hlv3_9, SliceLen.nil⟩ ⟨Z, Z, Z, Z, Z, Z, Z, Z, Z, Z, Z, trivial⟩ (pk [0, 3, 1, 2, 4, 5]) ?_ ?_
  ·skip
   rintro v3_10 v48_10 i20_10 uv48_10 ⟨rfl, hlv3_10, hlv48_10⟩
   refine WQ.then (sr (wm Z (wa Z (nt (WC.seq (sr (wm Z (wm Z (wq Z (QV.geq Z Z Z Z) (nt ?_))))))))))
   refine wc Z hm51 (fun h54 hm55 => ?_) (fun h54 hm58 => ?_) <;> clear hm51
   ·skip
    refine WC.exit (te (WQ.block_exit (WQ.then (WC.region (wm Z ?_)))))
    obtain ⟨c56, hm57⟩ := cs hm55; clear hm55
    refine wq Z (QV.add Z Z Z Z c56) (wa Z (WL.nil ?_))
    exact WQ.again7 v48_10 v3_10 m13_9 (now18_9 + 1) uv48_10 vm13_9 k_9 m38 ⟨up_next hm57 hn41, hlv48_10, hlv3_10, hAm13_9, hle_9⟩ (Nat.lt_succ_self _) ⟨Z, Z, Z, Z, Z, Z, Z, Z, Z, trivial⟩ (pk [2, 0, 1, 4, 5])
   refine sk (WQ.then (sr (wm Z (wf fd27_0 Z (wl pl3 Z (Own.cell 4 Z Z) ?_)))))
   obtain ⟨c59, c61, hm62⟩ := cs2 hm58; clear hm58
   refine wq Z (QV.quo Z Z Z Z c59 c61) (wa Z (ns (wm Z (WL.effect Z ?_))))
   obtain ⟨x63, hx64, hm65⟩ := bd_some hm62; clear hm62
   refine EV.of (C' := Own M w [kn M w.heap.size K0 k_9, vec uv48_10 102 3 (List.map Due.cells v48_10), vec u6 2 1 (List.map icell v3_10), vec uv28_9 102 3 (List.map Due.cells v28_9), blk b2 [i_ k_.pace, i_ k_.stages, v_k__ops] 27, blk b1 t.cells 24]) (pk [2, 0, 1, 3, 4, 5]) ?_
   refine (EV.callR (X := Value × (List Value) × World) (R := []) (fun X => X.1) (fun X => [grid X.1 X.2.1 28 2 x63]) (fun X => X.2.2) (fun X => SliceLen X.1 (x63).length ∧ GL X.2.1 x63) hk (fun _ h => by cases h; decide) en58 (ec Z eN) (fun M w h1 h2 => have h := R3_Copy_w hx64 hAm13_9 M w h1 h2; h) (fun X66 hF66 hle66 => ?_))
   refine wa Z (nt (WC.seq (sr (wa Z (nt ?_)))))
   obtain ⟨o68, ho69, hm70⟩ := bd_some hm65; clear hm65; obtain ⟨n71, ho72⟩ := lp_some ho69
   refine WC.bloop4 (H2 := [kn M w.heap.size K0 X66.2.2, vec u6 2 1 (List.map icell v3_10), vec uv28_9 102 3 (List.map Due.cells v28_9), blk b2 [i_ k_.pace, i_ k_.stages, v_k__ops] 27, blk b1 t.cells 24]) (τ := [u_ 4 _, u_ 5 _, u_ 6 _, u_ 12 _, u_ 13 _, u_ 14 _, u_ 17 _, u_ 18 _, u_ 21 _, u_ 22 _]) (fun (v48_11 : List Due) (r67_11 : List (List Int)) (i23_11 : Int) (uv48_11 : Value) => [(16, (true, uv48_11)), (23, (true, i_ i23_11))]) (fun v48_11 r67_11 i23_11 uv48_11 => [grid X66.1 X66.2.1 28 2 r67_11, vec uv48_11 102 3 (List.map Due.cells v48_11)]) (fun v48_11 r67_11 i23_11 uv48_11 m => iter (R5_Play_L4 t k_ regs turns x13 m13_9 now18_9 v3_10) m (v48_11, r67_11, i23_11) = some o68 ∧ SliceLen uv48_11 v48_11.length ∧ SliceLen X66.1 r67_11.length ∧ GL X66.2.1 r67_11) (fun v48_11 r67_11 i23_11 uv48_11 => o68 = .go (v48_11, r67_11, i23_11) ∧ SliceLen uv48_11 v48_11.length ∧ SliceLen X66.1 r67_11.length ∧ GL X66.2.1 r67_11) v48_10 x63 0 uv48_10 n71 ⟨ho72, hlv48_10, hF66.1, hF66.2⟩ ⟨Z, Z, Z, Z, Z, Z, Z, Z, Z, Z, Z, Z, trivial⟩ (pk [1, 2, 0, 3, 4, 5, 6]) ?_ ?_
   ·skip
    rintro v48_11 r67_11 i23_11 uv48_11 ⟨rfl, hlv48_11, hlr67_11, hgr67_11⟩
    refine WQ.then (WC.region (wm Z (wa Z (WL.nil (WQ.block (WQ.then (WC.region (wm Z ?_))))))))
    obtain ⟨c73, hm74⟩ := cs hm70; clear hm70
    refine wq Z (QV.add Z Z Z Z c73) (wa Z (WL.nil ?_))
    refine WK.of (C' := Own M w [kn M w.heap.size K0 X66.2.2, grid X66.1 X66.2.1 28 2 r67_11, vec uv48_11 102 3 (List.map Due.cells v48_11), vec u6 2 1 (List.map icell v3_10), vec uv28_9 102 3 (List.map Due.cells v28_9), blk b2 [i_ k_.pace, i_ k_.stages, v_k__ops] 27, blk b1 t.cells 24]) (pk [2, 0, 1, 3, 4, 5, 6]) ?_
    refine WK.freeze hk (fun k75 hle75 hr75 => ?_)
    have hA75 := grid_rows hr75
    exact WQ.again7 v48_11 v3_10 r67_11 (now18_9 + 1) uv48_11 X66.1 k75 m38 ⟨up_next hm74 hn41, hlv48_11, hlv3_10, hA75, ((hle_9.trans hle66).trans hle75)⟩ (Nat.lt_succ_self _) ⟨Z, Z, Z, Z, Z, Z, Z, Z, Z, trivial⟩ (pk [0, 1, 2, 4, 5])
   rintro v48_11 r67_11 i23_11 uv48_11 m76 ⟨hI77, hlv48_11, hlr67_11, hgr67_11⟩
   obtain ⟨m78, s79, rfl, hm80, hn81⟩ := iter_step hI77; clear hI77; unfold R5_Play_L4 at hm80; simp only at hm80
   refine WC.seq (sr (wm Z (wf fd27_2 Z (wl pl25 Z (Own.cell 5 Z Z) (wq Z (QV.lenS Try.underlying25 Z Z (h_k__ops.le ((((hle11.trans hle16).trans hle29).trans hle_9).trans hle66)).lenMap) (wq Z (QV.lss Z Z Z Z) (nt ?_)))))))
   refine wc Z hm80 (fun h82 hm83 => ?_) (fun h82 hm256 => ?_) <;> clear hm80
   ·skip
    refine sk (WQ.then (WC.seq (WC.block (sr (wf fd27_2 Z (wl pl25 Z (Own.cell 5 Z Z) (wm Z ?_)))))))
    obtain ⟨c84, hm85⟩ := cs hm83; clear hm83
    obtain ⟨p86, hp87⟩ := (h_k__ops.le ((((hle11.trans hle16).trans hle29).trans hle_9).trans hle66)).lenMap.ix (sz := 10) ln_len c84
    refine wq Z (QV.indexSlice sl25 Z Z Z Z hp87) (wq Z (QV.loadAgg ag45 Z Z Z (fun w hw => ((Own.karr 2 Z hk (h_k__ops.le ((((hle11.trans hle16).trans hle29).trans hle_9).trans hle66))) w hw).ele hp87 c84)) (WL.effect Z ?_))
    refine (EV.alloc (by decide) ze45 (fun b88 => ?_))
    refine WL.effect Z ?_
    refine (EV.store 0 Z Z Z Z Z Z (vs := (Opr.cells (ele k_.ops i23_11))) (show Value.cells _ = List.toArray _ from Z) sz45 (nl Z) (oc Z (oc Z (oc Z (oc Z (oc Z (oc Z (oc Z (oc Z (oc Z (oc Z one_nil)))))))))) ?_)
    refine ns (wm Z (wf fd45_1 Z (wl pl3 Z (Own.cell 0 Z Z) ?_)))
    obtain ⟨c89, c91, hm92⟩ := cs2 hm85; clear hm85
    refine wq Z (QV.sub Z Z Z Z c89) (wa Z (nt (WC.seq (WC.seq (WC.dr (m := 16) (S := Own M w [kn M w.heap.size K0 X66.2.2, blk b88 (Opr.cells (ele k_.ops i23_11)) 45, grid X66.1 X66.2.1 28 2 r67_11, vec uv48_11 102 3 (List.map Due.cells v48_11), vec u6 2 1 (List.map icell v3_10), vec uv28_9 102 3 (List.map Due.cells v28_9), blk b2 [i_ k_.pace, i_ k_.stages, v_k__ops] 27, blk b1 t.cells 24]) (by kernel_rfl) (by kernel_rfl) (pk [3, 0, 1, 2, 4, 5, 6, 7]) (zf 0 fd45_0 Z Z (zl 1 pl3 Z Z (Own.cell 1 Z Z) (zm 2 Z Z (zf 3 fd27_0 Z Z (zl 4 pl3 Z Z (Own.cell 6 Z Z) (wz 5 Z Z (QV.rem Z Z Z Z c91) ?_)))))))))))
    refine wz 6 Z Z (QV.neq Z Z Z Z) (zm 7 Z Z (zn 8 Z Z (fun hG => QV.move Z Z) (zn 9 Z Z (fun hG => QV.lss Z hG Z Z) (wz 10 Z Z (QV.pickOr Z Z Z (fun h => notF h)) (zm 11 Z Z (zn 12 Z Z (fun hG => QV.move Z Z) (zn 13 Z Z (fun hG => QV.move Z Z) (zn 14 Z Z (fun hG => QV.geq Z hG Z hG) (wz 15 Z Z (QV.pickOr Z Z Z (fun h => notF h)) ?_)))))))))
    refine WD.e (by kernel_rfl) ?_
    refine WQ.then ?_
    refine wc Z hm92 (fun h93 hm94 => ?_) (fun h93 hm97 => ?_) <;> clear hm92
    ·skip
     refine WC.exit (te (WQ.block_exit (WQ.then (WC.region (wm Z ?_)))))
     obtain ⟨c95, hm96⟩ := cs hm94; clear hm94
     refine wq Z (QV.add Z Z Z Z c95) (wa Z (WL.nil ?_))
     exact WQ.again4 v48_11 r67_11 (i23_11 + 1) uv48_11 m78 ⟨up_next hm96 hn81, hlv48_11, hlr67_11, hgr67_11⟩ (Nat.lt_succ_self _) ⟨Z, Z, Z, Z, Z, Z, Z, Z, Z, Z, Z, Z, trivial⟩ (pk [1, 2, 3, 4, 5, 6, 7])
    refine sk (WQ.then (sr (wm Z (wf fd45_4 Z (wl pl3 Z (Own.cell 0 Z Z) (wm Z ?_))))))
    obtain ⟨c98, c100, c102, hm103⟩ := cs3 hm97; clear hm97
    refine wq Z (QV.add Z Z Z Z c98) (wf fd24_2 Z (wl pl3 Z (Own.cell 7 Z Z) (wq Z (QV.rem Z Z Z Z c100) ?_)))
    obtain ⟨p104, hp105⟩ := hlv3_10.ix (sz := 1) ln_len c102
    refine wq Z (QV.indexSlice sl28 Z Z Z Z hp105) (wl pl2 Z (fun w hw => CellsAt.one 0 (((Own.vecArr 4 Z) w hw).ele hp105 c102) Z) (wa Z (ns (wm Z (wf fd45_5 Z (wl pl3 Z (Own.cell 0 Z Z) (wm Z ?_)))))))
    obtain ⟨c106, c108, c110, hm111⟩ := cs3 hm103; clear hm103
    refine wq Z (QV.add Z Z Z Z c106) (wf fd24_2 Z (wl pl3 Z (Own.cell 7 Z Z) (wq Z (QV.rem Z Z Z Z c108) ?_)))
    obtain ⟨p112, hp113⟩ := hlv3_10.ix (sz := 1) ln_len c110
    refine wq Z (QV.indexSlice sl28 Z Z Z Z hp113) (wl pl2 Z (fun w hw => CellsAt.one 0 (((Own.vecArr 4 Z) w hw).ele hp113 c110) Z) (wa Z (ns (wm Z (wa Z (nt (WC.seq (sr (wf fd45_2 Z (wl pl3 Z (Own.cell 0 Z Z) (nt (WC.block (sr ?_)))))))))))))
    refine wq Z (QV.eql Z Z Z Z) (wa Z (nt ?_))
    refine wc Z hm111 (fun h114 hm115 => ?_) (fun h114 hm134 => ?_) <;> clear hm111
    ·skip
     refine WC.region (wf fd45_9 Z (wl pl2 Z (Own.cell 0 Z Z) (wa Z (WL.nil (WQ.block (WQ.then (sr (wf fd45_2 Z (wl pl3 Z (Own.cell 0 Z Z) ?_)))))))))
     obtain ⟨x116, hx117, hm118⟩ := bd_some hm115; clear hm115
     refine wq Z (QV.call en52 (ec Z eN) (fun w hw => have h := R1_Class_w w hx117 ; h)) (wa Z (nt (WC.dr (m := 19) (S := Own M w [kn M w.heap.size K0 X66.2.2, blk b88 (Opr.cells (ele k_.ops i23_11)) 45, grid X66.1 X66.2.1 28 2 r67_11, vec u6 2 1 (List.map icell v3_10), vec uv28_9 102 3 (List.map Due.cells v28_9), blk b2 [i_ k_.pace, i_ k_.stages, v_k__ops] 27, blk b1 t.cells 24]) (by kernel_rfl) (by kernel_rfl) (pk [3, 0, 1, 4, 5, 6, 7]) (zm 0 Z Z (zm 1 Z Z (zm 2 Z Z (zf 3 fd24_1 Z Z ?_)))))))
     obtain ⟨c119, c121, c123, c125, c128, c132, hm133⟩ := cs6 hm118; clear hm118
     refine wz 4 Z Z (QV.indexArray ar22 Z Z Z Z c119.1 c119.2) (zl 5 pl3 Z Z (Own.cellSym 6 Z (sel3_get (off := 3) (i := x116) c119.1 c119.2 Z Z Z) (addr_sym _ _ _)) (wz 6 Z Z (QV.add Z Z Z Z c121) (zf 7 fd45_3 Z Z (zl 8 pl3 Z Z (Own.cell 1 Z Z) (zm 9 Z Z (wz 10 Z Z (QV.add Z Z Z Z c123) (zf 11 fd24_2 Z Z (zl 12 pl3 Z Z (Own.cell 6 Z Z) (wz 13 Z Z (QV.rem Z Z Z Z c125) ?_)))))))))
     refine zm 14 Z Z (wz 15 Z Z (QV.build (ps := [(0, .tmp 218), (1, .tmp 225), (2, .tmp 226)]) (cells := [i_ (now18_9 + (sel3 t.w0 t.w1 t.w2 x116)), i_ (Int.tmod ((ele k_.ops i23_11).dest + (Int.tdiv now18_9 k_.pace)) t.regs), i_ ((ele k_.ops i23_11).n)]) (ec Z (ec Z (ec Z eN))) (by kernel_rfl)) ?_)
     refine WD.o 16 Z (by kernel_rfl) Z ?_
     refine (EV.buildSlice (by decide) sz_100 (by decide) (by decide) (ps := [(0, .tmp 227)]) (cells := [i_ (now18_9 + (sel3 t.w0 t.w1 t.w2 x116)), i_ (Int.tmod ((ele k_.ops i23_11).dest + (Int.tdiv now18_9 k_.pace)) t.regs), i_ ((ele k_.ops i23_11).n)]) (ec Z eN) (by kernel_rfl) (fun b127 => ?_))
     refine WD.b (H' := [kn M w.heap.size K0 X66.2.2, blk b127 [i_ (now18_9 + (sel3 t.w0 t.w1 t.w2 x116)), i_ (Int.tmod ((ele k_.ops i23_11).dest + (Int.tdiv now18_9 k_.pace)) t.regs), i_ ((ele k_.ops i23_11).n)] 102, blk b88 (Opr.cells (ele k_.ops i23_11)) 45, grid X66.1 X66.2.1 28 2 r67_11, vec u6 2 1 (List.map icell v3_10), vec uv28_9 102 3 (List.map Due.cells v28_9), blk b2 [i_ k_.pace, i_ k_.stages, v_k__ops] 27, blk b1 t.cells 24]) (pk [4, 0, 1, 2, 5, 6, 7, 8]) (pk [0, 2, 3, 4, 5, 6, 7]) ?_
     refine WD.o 17 Z (by kernel_rfl) Z ?_
     refine (EV.appendL (enc := Due.cells) (xs := v48_11) (ys := [(Due.mk (now18_9 + (sel3 t.w0 t.w1 t.w2 x116)) (Int.tmod ((ele k_.ops i23_11).dest + (Int.tdiv now18_9 k_.pace)) t.regs) ((ele k_.ops i23_11).n))]) ((v48_11 ++ [(Due.mk (now18_9 + (sel3 t.w0 t.w1 t.w2 x116)) (Int.tmod ((ele k_.ops i23_11).dest + (Int.tdiv now18_9 k_.pace)) t.regs) ((ele k_.ops i23_11).n))])) 3 (by decide) ve100 Z Z Z Z Z (Own.blkArr 0 (rows := [(Due.mk (now18_9 + (sel3 t.w0 t.w1 t.w2 x116)) (Int.tmod ((ele k_.ops i23_11).dest + (Int.tdiv now18_9 k_.pace)) t.regs) ((ele k_.ops i23_11).n))].map Due.cells) Z Z (rows_len Due.cells_len)) Due.cells_len (Due.cells_one _) Z c128.1 c128.2 (fun u130 hu131 => ?_))
     refine WD.b (H' := [kn M w.heap.size K0 X66.2.2, blk b127 [i_ (now18_9 + (sel3 t.w0 t.w1 t.w2 x116)), i_ (Int.tmod ((ele k_.ops i23_11).dest + (Int.tdiv now18_9 k_.pace)) t.regs), i_ ((ele k_.ops i23_11).n)] 102, blk b88 (Opr.cells (ele k_.ops i23_11)) 45, grid X66.1 X66.2.1 28 2 r67_11, vec u130 102 3 (List.map Due.cells (v48_11 ++ [(Due.mk (now18_9 + (sel3 t.w0 t.w1 t.w2 x116)) (Int.tmod ((ele k_.ops i23_11).dest + (Int.tdiv now18_9 k_.pace)) t.regs) ((ele k_.ops i23_11).n))])), vec u6 2 1 (List.map icell v3_10), vec uv28_9 102 3 (List.map Due.cells v28_9), blk b2 [i_ k_.pace, i_ k_.stages, v_k__ops] 27, blk b1 t.cells 24]) (pk [4, 0, 1, 2, 3, 5, 6, 7, 8]) (pk [0, 1, 2, 3, 5, 6, 7, 8]) ?_
     refine wz 18 Z Z (QV.assign Z Z) ?_
     refine WD.e (by kernel_rfl) ?_
     refine WQ.block (WQ.then (WC.region (wm Z (wq Z (QV.add Z Z Z Z c132) (wa Z (WL.nil ?_))))))
     exact WQ.again4 (v48_11 ++ [(Due.mk (now18_9 + (sel3 t.w0 t.w1 t.w2 x116)) (Int.tmod ((ele k_.ops i23_11).dest + (Int.tdiv now18_9 k_.pace)) t.regs) ((ele k_.ops i23_11).n))]) r67_11 (i23_11 + 1) u130 m78 ⟨up_next hm133 hn81, hu131, hlr67_11, hgr67_11⟩ (Nat.lt_succ_self _) ⟨Z, Z, Z, Z, Z, Z, Z, Z, Z, Z, Z, Z, trivial⟩ (pk [2, 3, 4, 5, 6, 7, 8])
    refine sr (wq Z (QV.eql Z Z Z Z) (wa Z (nt ?_)))
    refine wc Z hm134 (fun h135 hm136 => ?_) (fun h135 hm155 => ?_) <;> clear hm134
    ·skip
     refine WC.region (wm Z (wa Z (WL.nil (WQ.block (WQ.then (sr (wf fd45_2 Z (wl pl3 Z (Own.cell 0 Z Z) ?_))))))))
     obtain ⟨x137, hx138, hm139⟩ := bd_some hm136; clear hm136
     refine wq Z (QV.call en52 (ec Z eN) (fun w hw => have h := R1_Class_w w hx138 ; h)) (wa Z (nt (WC.dr (m := 19) (S := Own M w [kn M w.heap.size K0 X66.2.2, blk b88 (Opr.cells (ele k_.ops i23_11)) 45, grid X66.1 X66.2.1 28 2 r67_11, vec u6 2 1 (List.map icell v3_10), vec uv28_9 102 3 (List.map Due.cells v28_9), blk b2 [i_ k_.pace, i_ k_.stages, v_k__ops] 27, blk b1 t.cells 24]) (by kernel_rfl) (by kernel_rfl) (pk [3, 0, 1, 4, 5, 6, 7]) (zm 0 Z Z (zm 1 Z Z (zm 2 Z Z (zf 3 fd24_1 Z Z ?_)))))))
     obtain ⟨c140, c142, c144, c146, c149, c153, hm154⟩ := cs6 hm139; clear hm139
     refine wz 4 Z Z (QV.indexArray ar22 Z Z Z Z c140.1 c140.2) (zl 5 pl3 Z Z (Own.cellSym 6 Z (sel3_get (off := 3) (i := x137) c140.1 c140.2 Z Z Z) (addr_sym _ _ _)) (wz 6 Z Z (QV.add Z Z Z Z c142) (zf 7 fd45_3 Z Z (zl 8 pl3 Z Z (Own.cell 1 Z Z) (zm 9 Z Z (wz 10 Z Z (QV.add Z Z Z Z c144) (zf 11 fd24_2 Z Z (zl 12 pl3 Z Z (Own.cell 6 Z Z) (wz 13 Z Z (QV.rem Z Z Z Z c146) ?_)))))))))
     refine zm 14 Z Z (wz 15 Z Z (QV.build (ps := [(0, .tmp 218), (1, .tmp 225), (2, .tmp 226)]) (cells := [i_ (now18_9 + (sel3 t.w0 t.w1 t.w2 x137)), i_ (Int.tmod ((ele k_.ops i23_11).dest + (Int.tdiv now18_9 k_.pace)) t.regs), i_ ((Int.tdiv now18_9 k_.pace) - (ele k_.ops i23_11).stage)]) (ec Z (ec Z (ec Z eN))) (by kernel_rfl)) ?_)
     refine WD.o 16 Z (by kernel_rfl) Z ?_
     refine (EV.buildSlice (by decide) sz_100 (by decide) (by decide) (ps := [(0, .tmp 227)]) (cells := [i_ (now18_9 + (sel3 t.w0 t.w1 t.w2 x137)), i_ (Int.tmod ((ele k_.ops i23_11).dest + (Int.tdiv now18_9 k_.pace)) t.regs), i_ ((Int.tdiv now18_9 k_.pace) - (ele k_.ops i23_11).stage)]) (ec Z eN) (by kernel_rfl) (fun b148 => ?_))
     refine WD.b (H' := [kn M w.heap.size K0 X66.2.2, blk b148 [i_ (now18_9 + (sel3 t.w0 t.w1 t.w2 x137)), i_ (Int.tmod ((ele k_.ops i23_11).dest + (Int.tdiv now18_9 k_.pace)) t.regs), i_ ((Int.tdiv now18_9 k_.pace) - (ele k_.ops i23_11).stage)] 102, blk b88 (Opr.cells (ele k_.ops i23_11)) 45, grid X66.1 X66.2.1 28 2 r67_11, vec u6 2 1 (List.map icell v3_10), vec uv28_9 102 3 (List.map Due.cells v28_9), blk b2 [i_ k_.pace, i_ k_.stages, v_k__ops] 27, blk b1 t.cells 24]) (pk [4, 0, 1, 2, 5, 6, 7, 8]) (pk [0, 2, 3, 4, 5, 6, 7]) ?_
     refine WD.o 17 Z (by kernel_rfl) Z ?_
     refine (EV.appendL (enc := Due.cells) (xs := v48_11) (ys := [(Due.mk (now18_9 + (sel3 t.w0 t.w1 t.w2 x137)) (Int.tmod ((ele k_.ops i23_11).dest + (Int.tdiv now18_9 k_.pace)) t.regs) ((Int.tdiv now18_9 k_.pace) - (ele k_.ops i23_11).stage))]) ((v48_11 ++ [(Due.mk (now18_9 + (sel3 t.w0 t.w1 t.w2 x137)) (Int.tmod ((ele k_.ops i23_11).dest + (Int.tdiv now18_9 k_.pace)) t.regs) ((Int.tdiv now18_9 k_.pace) - (ele k_.ops i23_11).stage))])) 3 (by decide) ve100 Z Z Z Z Z (Own.blkArr 0 (rows := [(Due.mk (now18_9 + (sel3 t.w0 t.w1 t.w2 x137)) (Int.tmod ((ele k_.ops i23_11).dest + (Int.tdiv now18_9 k_.pace)) t.regs) ((Int.tdiv now18_9 k_.pace) - (ele k_.ops i23_11).stage))].map Due.cells) Z Z (rows_len Due.cells_len)) Due.cells_len (Due.cells_one _) Z c149.1 c149.2 (fun u151 hu152 => ?_))
     refine WD.b (H' := [kn M w.heap.size K0 X66.2.2, blk b148 [i_ (now18_9 + (sel3 t.w0 t.w1 t.w2 x137)), i_ (Int.tmod ((ele k_.ops i23_11).dest + (Int.tdiv now18_9 k_.pace)) t.regs), i_ ((Int.tdiv now18_9 k_.pace) - (ele k_.ops i23_11).stage)] 102, blk b88 (Opr.cells (ele k_.ops i23_11)) 45, grid X66.1 X66.2.1 28 2 r67_11, vec u151 102 3 (List.map Due.cells (v48_11 ++ [(Due.mk (now18_9 + (sel3 t.w0 t.w1 t.w2 x137)) (Int.tmod ((ele k_.ops i23_11).dest + (Int.tdiv now18_9 k_.pace)) t.regs) ((Int.tdiv now18_9 k_.pace) - (ele k_.ops i23_11).stage))])), vec u6 2 1 (List.map icell v3_10), vec uv28_9 102 3 (List.map Due.cells v28_9), blk b2 [i_ k_.pace, i_ k_.stages, v_k__ops] 27, blk b1 t.cells 24]) (pk [4, 0, 1, 2, 3, 5, 6, 7, 8]) (pk [0, 1, 2, 3, 5, 6, 7, 8]) ?_
     refine wz 18 Z Z (QV.assign Z Z) ?_
     refine WD.e (by kernel_rfl) ?_
     refine WQ.block (WQ.then (WC.region (wm Z (wq Z (QV.add Z Z Z Z c153) (wa Z (WL.nil ?_))))))
     exact WQ.again4 (v48_11 ++ [(Due.mk (now18_9 + (sel3 t.w0 t.w1 t.w2 x137)) (Int.tmod ((ele k_.ops i23_11).dest + (Int.tdiv now18_9 k_.pace)) t.regs) ((Int.tdiv now18_9 k_.pace) - (ele k_.ops i23_11).stage))]) r67_11 (i23_11 + 1) u151 m78 ⟨up_next hm154 hn81, hu152, hlr67_11, hgr67_11⟩ (Nat.lt_succ_self _) ⟨Z, Z, Z, Z, Z, Z, Z, Z, Z, Z, Z, Z, trivial⟩ (pk [2, 3, 4, 5, 6, 7, 8])
    refine sr (wq Z (QV.eql Z Z Z Z) (wa Z (nt ?_)))
    refine wc Z hm155 (fun h156 hm157 => ?_) (fun h156 hm194 => ?_) <;> clear hm155
    ·skip
     refine WC.dr (m := 19) (S := Own M w [kn M w.heap.size K0 X66.2.2, blk b88 (Opr.cells (ele k_.ops i23_11)) 45, grid X66.1 X66.2.1 28 2 r67_11, vec uv48_11 102 3 (List.map Due.cells v48_11), vec u6 2 1 (List.map icell v3_10), vec uv28_9 102 3 (List.map Due.cells v28_9), blk b2 [i_ k_.pace, i_ k_.stages, v_k__ops] 27, blk b1 t.cells 24]) (by kernel_rfl) (by kernel_rfl) (pk [3, 0, 1, 2, 4, 5, 6, 7]) (zm 0 Z Z (zf 1 fd45_6 Z Z (zl 2 pl3 Z Z (Own.cell 1 Z Z) ?_)))
     obtain ⟨c158, hm159⟩ := cs hm157; clear hm157
     obtain ⟨p160, u162, hp161, hc163, hA164⟩ := (hAm13_9.le hle66).ix c158
     refine wz 3 Z Z (QV.indexSlice sl29 Z Z Z Z hp161) (zl 4 pl28 Z Z (fun w hw => CellsAt.one 0 ((Own.kcells 0 Z hk hc163) w hw) Z) (zf 5 fd45_7 Z Z (zl 6 pl3 Z Z (Own.cell 1 Z Z) (zf 7 fd45_8 Z Z (zl 8 pl3 Z Z (Own.cell 1 Z Z) (zm 9 Z Z (zm 10 Z Z (zf 11 fd45_6 Z Z (zl 12 pl3 Z Z (Own.cell 1 Z Z) ?_)))))))))
     obtain ⟨c165, hm166⟩ := cs hm159; clear hm159
     obtain ⟨p167, hp168⟩ := (hF16.le ((hle29.trans hle_9).trans hle66)).lenMap.ix (sz := 1) ln_len c165
     refine wz 13 Z Z (QV.indexSlice sl30 Z Z Z Z hp168) (zl 14 pl3 Z Z (fun w hw => CellsAt.one 0 (((Own.karr 0 Z hk (hF16.le ((hle29.trans hle_9).trans hle66))) w hw).ele hp168 c165) Z) ?_)
     obtain ⟨x169, hx170, hm171⟩ := bd_some hm166; clear hm166
     refine wz 15 Z Z (QV.call en59 (ec Z (ec Z (ec Z (ec Z eN)))) (fun w hw => have h := R1_Index_w w hx170 ; h)) ?_
     obtain ⟨c172, hm173⟩ := cs hm171; clear hm171
     obtain ⟨p174, hp175⟩ := hA164.lenMap.ix (sz := 1) ln_len c172
     refine wz 16 Z Z (QV.indexSlice sl28 Z Z Z Z hp175) (zl 17 pl2 Z Z (fun w hw => CellsAt.one 0 (((Own.karr 0 Z hk hA164) w hw).ele hp175 c172) Z) (wz 18 Z Z (QV.assign Z Z) ?_))
     refine WD.e (by kernel_rfl) ?_
     refine WQ.block (WQ.then (sr (wf fd45_2 Z (wl pl3 Z (Own.cell 0 Z Z) ?_))))
     obtain ⟨x176, hx177, hm178⟩ := bd_some hm173; clear hm173
     refine wq Z (QV.call en52 (ec Z eN) (fun w hw => have h := R1_Class_w w hx177 ; h)) (wa Z (nt (WC.dr (m := 19) (S := Own M w [kn M w.heap.size K0 X66.2.2, blk b88 (Opr.cells (ele k_.ops i23_11)) 45, grid X66.1 X66.2.1 28 2 r67_11, vec u6 2 1 (List.map icell v3_10), vec uv28_9 102 3 (List.map Due.cells v28_9), blk b2 [i_ k_.pace, i_ k_.stages, v_k__ops] 27, blk b1 t.cells 24]) (by kernel_rfl) (by kernel_rfl) (pk [3, 0, 1, 4, 5, 6, 7]) (zm 0 Z Z (zm 1 Z Z (zm 2 Z Z (zf 3 fd24_1 Z Z ?_)))))))
     obtain ⟨c179, c181, c183, c185, c188, c192, hm193⟩ := cs6 hm178; clear hm178
     refine wz 4 Z Z (QV.indexArray ar22 Z Z Z Z c179.1 c179.2) (zl 5 pl3 Z Z (Own.cellSym 6 Z (sel3_get (off := 3) (i := x176) c179.1 c179.2 Z Z Z) (addr_sym _ _ _)) (wz 6 Z Z (QV.add Z Z Z Z c181) (zf 7 fd45_3 Z Z (zl 8 pl3 Z Z (Own.cell 1 Z Z) (zm 9 Z Z (wz 10 Z Z (QV.add Z Z Z Z c183) (zf 11 fd24_2 Z Z (zl 12 pl3 Z Z (Own.cell 6 Z Z) (wz 13 Z Z (QV.rem Z Z Z Z c185) ?_)))))))))
     refine zm 14 Z Z (wz 15 Z Z (QV.build (ps := [(0, .tmp 218), (1, .tmp 225), (2, .tmp 226)]) (cells := [i_ (now18_9 + (sel3 t.w0 t.w1 t.w2 x176)), i_ (Int.tmod ((ele k_.ops i23_11).dest + (Int.tdiv now18_9 k_.pace)) t.regs), i_ (ele (ele m13_9 ((ele k_.ops i23_11).ar)) x169)]) (ec Z (ec Z (ec Z eN))) (by kernel_rfl)) ?_)
     refine WD.o 16 Z (by kernel_rfl) Z ?_
     refine (EV.buildSlice (by decide) sz_100 (by decide) (by decide) (ps := [(0, .tmp 227)]) (cells := [i_ (now18_9 + (sel3 t.w0 t.w1 t.w2 x176)), i_ (Int.tmod ((ele k_.ops i23_11).dest + (Int.tdiv now18_9 k_.pace)) t.regs), i_ (ele (ele m13_9 ((ele k_.ops i23_11).ar)) x169)]) (ec Z eN) (by kernel_rfl) (fun b187 => ?_))
     refine WD.b (H' := [kn M w.heap.size K0 X66.2.2, blk b187 [i_ (now18_9 + (sel3 t.w0 t.w1 t.w2 x176)), i_ (Int.tmod ((ele k_.ops i23_11).dest + (Int.tdiv now18_9 k_.pace)) t.regs), i_ (ele (ele m13_9 ((ele k_.ops i23_11).ar)) x169)] 102, blk b88 (Opr.cells (ele k_.ops i23_11)) 45, grid X66.1 X66.2.1 28 2 r67_11, vec u6 2 1 (List.map icell v3_10), vec uv28_9 102 3 (List.map Due.cells v28_9), blk b2 [i_ k_.pace, i_ k_.stages, v_k__ops] 27, blk b1 t.cells 24]) (pk [4, 0, 1, 2, 5, 6, 7, 8]) (pk [0, 2, 3, 4, 5, 6, 7]) ?_
     refine WD.o 17 Z (by kernel_rfl) Z ?_
     refine (EV.appendL (enc := Due.cells) (xs := v48_11) (ys := [(Due.mk (now18_9 + (sel3 t.w0 t.w1 t.w2 x176)) (Int.tmod ((ele k_.ops i23_11).dest + (Int.tdiv now18_9 k_.pace)) t.regs) (ele (ele m13_9 ((ele k_.ops i23_11).ar)) x169))]) ((v48_11 ++ [(Due.mk (now18_9 + (sel3 t.w0 t.w1 t.w2 x176)) (Int.tmod ((ele k_.ops i23_11).dest + (Int.tdiv now18_9 k_.pace)) t.regs) (ele (ele m13_9 ((ele k_.ops i23_11).ar)) x169))])) 3 (by decide) ve100 Z Z Z Z Z (Own.blkArr 0 (rows := [(Due.mk (now18_9 + (sel3 t.w0 t.w1 t.w2 x176)) (Int.tmod ((ele k_.ops i23_11).dest + (Int.tdiv now18_9 k_.pace)) t.regs) (ele (ele m13_9 ((ele k_.ops i23_11).ar)) x169))].map Due.cells) Z Z (rows_len Due.cells_len)) Due.cells_len (Due.cells_one _) Z c188.1 c188.2 (fun u190 hu191 => ?_))
     refine WD.b (H' := [kn M w.heap.size K0 X66.2.2, blk b187 [i_ (now18_9 + (sel3 t.w0 t.w1 t.w2 x176)), i_ (Int.tmod ((ele k_.ops i23_11).dest + (Int.tdiv now18_9 k_.pace)) t.regs), i_ (ele (ele m13_9 ((ele k_.ops i23_11).ar)) x169)] 102, blk b88 (Opr.cells (ele k_.ops i23_11)) 45, grid X66.1 X66.2.1 28 2 r67_11, vec u190 102 3 (List.map Due.cells (v48_11 ++ [(Due.mk (now18_9 + (sel3 t.w0 t.w1 t.w2 x176)) (Int.tmod ((ele k_.ops i23_11).dest + (Int.tdiv now18_9 k_.pace)) t.regs) (ele (ele m13_9 ((ele k_.ops i23_11).ar)) x169))])), vec u6 2 1 (List.map icell v3_10), vec uv28_9 102 3 (List.map Due.cells v28_9), blk b2 [i_ k_.pace, i_ k_.stages, v_k__ops] 27, blk b1 t.cells 24]) (pk [4, 0, 1, 2, 3, 5, 6, 7, 8]) (pk [0, 1, 2, 3, 5, 6, 7, 8]) ?_
     refine wz 18 Z Z (QV.assign Z Z) ?_
     refine WD.e (by kernel_rfl) ?_
     refine WQ.block (WQ.then (WC.region (wm Z (wq Z (QV.add Z Z Z Z c192) (wa Z (WL.nil ?_))))))
     exact WQ.again4 (v48_11 ++ [(Due.mk (now18_9 + (sel3 t.w0 t.w1 t.w2 x176)) (Int.tmod ((ele k_.ops i23_11).dest + (Int.tdiv now18_9 k_.pace)) t.regs) (ele (ele m13_9 ((ele k_.ops i23_11).ar)) x169))]) r67_11 (i23_11 + 1) u190 m78 ⟨up_next hm193 hn81, hu191, hlr67_11, hgr67_11⟩ (Nat.lt_succ_self _) ⟨Z, Z, Z, Z, Z, Z, Z, Z, Z, Z, Z, Z, trivial⟩ (pk [2, 3, 4, 5, 6, 7, 8])
    refine sr (wq Z (QV.eql Z Z Z Z) (wa Z (nt ?_)))
    refine wc Z hm194 (fun h195 hm196 => ?_) (fun h195 hm232 => ?_) <;> clear hm194
    ·skip
     refine WC.dr (m := 19) (S := Own M w [kn M w.heap.size K0 X66.2.2, blk b88 (Opr.cells (ele k_.ops i23_11)) 45, grid X66.1 X66.2.1 28 2 r67_11, vec uv48_11 102 3 (List.map Due.cells v48_11), vec u6 2 1 (List.map icell v3_10), vec uv28_9 102 3 (List.map Due.cells v28_9), blk b2 [i_ k_.pace, i_ k_.stages, v_k__ops] 27, blk b1 t.cells 24]) (by kernel_rfl) (by kernel_rfl) (pk [3, 0, 1, 2, 4, 5, 6, 7]) (zm 0 Z Z (zf 1 fd45_6 Z Z (zl 2 pl3 Z Z (Own.cell 1 Z Z) ?_)))
     obtain ⟨c197, hm198⟩ := cs hm196; clear hm196
     obtain ⟨p199, hp200⟩ := hlr67_11.ix (sz := 1) ln_len c197
     refine wz 3 Z Z (QV.indexSlice sl29 Z Z Z Z hp200) (zl 4 pl28 Z Z (Own.gridHdr 2 Z hp200 c197) (zf 5 fd45_7 Z Z (zl 6 pl3 Z Z (Own.cell 1 Z Z) (zf 7 fd45_8 Z Z (zl 8 pl3 Z Z (Own.cell 1 Z Z) (zm 9 Z Z (zm 10 Z Z (zf 11 fd45_6 Z Z (zl 12 pl3 Z Z (Own.cell 1 Z Z) ?_)))))))))
     obtain ⟨c201, hm202⟩ := cs hm198; clear hm198
     obtain ⟨p203, hp204⟩ := (hF16.le ((hle29.trans hle_9).trans hle66)).lenMap.ix (sz := 1) ln_len c201
     refine wz 13 Z Z (QV.indexSlice sl30 Z Z Z Z hp204) (zl 14 pl3 Z Z (fun w hw => CellsAt.one 0 (((Own.karr 0 Z hk (hF16.le ((hle29.trans hle_9).trans hle66))) w hw).ele hp204 c201) Z) ?_)
     obtain ⟨x205, hx206, hm207⟩ := bd_some hm202; clear hm202
     refine wz 15 Z Z (QV.call en59 (ec Z (ec Z (ec Z (ec Z eN)))) (fun w hw => have h := R1_Index_w w hx206 ; h)) (zm 16 Z Z ?_)
     obtain ⟨c208, hm209⟩ := cs hm207; clear hm207
     obtain ⟨p210, hp211⟩ := (hgr67_11.ix ((ele k_.ops i23_11).ar)).ix (sz := 1) ln_len c208
     refine wz 17 Z Z (QV.indexSlice sl28 Z Z Z Z hp211) ?_
     refine WD.l 18 Z (by kernel_rfl) Z ?_
     refine (EV.storeG 1 (ele v3_10 (Int.tmod ((ele k_.ops i23_11).a + (Int.tdiv now18_9 k_.pace)) t.regs)) Z Z Z Z Z c197 hp211 sz2 ?_)
     have hg213 := hgr67_11.updG ((ele k_.ops i23_11).ar) x205 (ele v3_10 (Int.tmod ((ele k_.ops i23_11).a + (Int.tdiv now18_9 k_.pace)) t.regs))
     have hl212 : SliceLen X66.1 (updG r67_11 ((ele k_.ops i23_11).ar) x205 (ele v3_10 (Int.tmod ((ele k_.ops i23_11).a + (Int.tdiv now18_9 k_.pace)) t.regs))).length := slen_updG hlr67_11
     refine WQ.block (WQ.then (sr (wf fd45_2 Z (wl pl3 Z (Own.cell 0 Z Z) ?_))))
     obtain ⟨x214, hx215, hm216⟩ := bd_some hm209; clear hm209
     refine wq Z (QV.call en52 (ec Z eN) (fun w hw => have h := R1_Class_w w hx215 ; h)) (wa Z (nt (WC.dr (m := 19) (S := Own M w [kn M w.heap.size K0 X66.2.2, blk b88 (Opr.cells (ele k_.ops i23_11)) 45, grid X66.1 X66.2.1 28 2 (updG r67_11 ((ele k_.ops i23_11).ar) x205 (ele v3_10 (Int.tmod ((ele k_.ops i23_11).a + (Int.tdiv now18_9 k_.pace)) t.regs))), vec u6 2 1 (List.map icell v3_10), vec uv28_9 102 3 (List.map Due.cells v28_9), blk b2 [i_ k_.pace, i_ k_.stages, v_k__ops] 27, blk b1 t.cells 24]) (by kernel_rfl) (by kernel_rfl) (pk [3, 0, 1, 4, 5, 6, 7]) (zm 0 Z Z (zm 1 Z Z (zm 2 Z Z (zf 3 fd24_1 Z Z ?_)))))))
     obtain ⟨c217, c219, c221, c223, c226, c230, hm231⟩ := cs6 hm216; clear hm216
     refine wz 4 Z Z (QV.indexArray ar22 Z Z Z Z c217.1 c217.2) (zl 5 pl3 Z Z (Own.cellSym 6 Z (sel3_get (off := 3) (i := x214) c217.1 c217.2 Z Z Z) (addr_sym _ _ _)) (wz 6 Z Z (QV.add Z Z Z Z c219) (zf 7 fd45_3 Z Z (zl 8 pl3 Z Z (Own.cell 1 Z Z) (zm 9 Z Z (wz 10 Z Z (QV.add Z Z Z Z c221) (zf 11 fd24_2 Z Z (zl 12 pl3 Z Z (Own.cell 6 Z Z) (wz 13 Z Z (QV.rem Z Z Z Z c223) ?_)))))))))
     refine zm 14 Z Z (wz 15 Z Z (QV.build (ps := [(0, .tmp 218), (1, .tmp 225), (2, .tmp 226)]) (cells := [i_ (now18_9 + (sel3 t.w0 t.w1 t.w2 x214)), i_ (Int.tmod ((ele k_.ops i23_11).dest + (Int.tdiv now18_9 k_.pace)) t.regs), i_ (ele v3_10 (Int.tmod ((ele k_.ops i23_11).a + (Int.tdiv now18_9 k_.pace)) t.regs))]) (ec Z (ec Z (ec Z eN))) (by kernel_rfl)) ?_)
     refine WD.o 16 Z (by kernel_rfl) Z ?_
     refine (EV.buildSlice (by decide) sz_100 (by decide) (by decide) (ps := [(0, .tmp 227)]) (cells := [i_ (now18_9 + (sel3 t.w0 t.w1 t.w2 x214)), i_ (Int.tmod ((ele k_.ops i23_11).dest + (Int.tdiv now18_9 k_.pace)) t.regs), i_ (ele v3_10 (Int.tmod ((ele k_.ops i23_11).a + (Int.tdiv now18_9 k_.pace)) t.regs))]) (ec Z eN) (by kernel_rfl) (fun b225 => ?_))
     refine WD.b (H' := [kn M w.heap.size K0 X66.2.2, blk b225 [i_ (now18_9 + (sel3 t.w0 t.w1 t.w2 x214)), i_ (Int.tmod ((ele k_.ops i23_11).dest + (Int.tdiv now18_9 k_.pace)) t.regs), i_ (ele v3_10 (Int.tmod ((ele k_.ops i23_11).a + (Int.tdiv now18_9 k_.pace)) t.regs))] 102, blk b88 (Opr.cells (ele k_.ops i23_11)) 45, grid X66.1 X66.2.1 28 2 (updG r67_11 ((ele k_.ops i23_11).ar) x205 (ele v3_10 (Int.tmod ((ele k_.ops i23_11).a + (Int.tdiv now18_9 k_.pace)) t.regs))), vec u6 2 1 (List.map icell v3_10), vec uv28_9 102 3 (List.map Due.cells v28_9), blk b2 [i_ k_.pace, i_ k_.stages, v_k__ops] 27, blk b1 t.cells 24]) (pk [4, 0, 1, 2, 5, 6, 7, 8]) (pk [0, 2, 3, 4, 5, 6, 7]) ?_
     refine WD.o 17 Z (by kernel_rfl) Z ?_
     refine (EV.appendL (enc := Due.cells) (xs := v48_11) (ys := [(Due.mk (now18_9 + (sel3 t.w0 t.w1 t.w2 x214)) (Int.tmod ((ele k_.ops i23_11).dest + (Int.tdiv now18_9 k_.pace)) t.regs) (ele v3_10 (Int.tmod ((ele k_.ops i23_11).a + (Int.tdiv now18_9 k_.pace)) t.regs)))]) ((v48_11 ++ [(Due.mk (now18_9 + (sel3 t.w0 t.w1 t.w2 x214)) (Int.tmod ((ele k_.ops i23_11).dest + (Int.tdiv now18_9 k_.pace)) t.regs) (ele v3_10 (Int.tmod ((ele k_.ops i23_11).a + (Int.tdiv now18_9 k_.pace)) t.regs)))])) 3 (by decide) ve100 Z Z Z Z Z (Own.blkArr 0 (rows := [(Due.mk (now18_9 + (sel3 t.w0 t.w1 t.w2 x214)) (Int.tmod ((ele k_.ops i23_11).dest + (Int.tdiv now18_9 k_.pace)) t.regs) (ele v3_10 (Int.tmod ((ele k_.ops i23_11).a + (Int.tdiv now18_9 k_.pace)) t.regs)))].map Due.cells) Z Z (rows_len Due.cells_len)) Due.cells_len (Due.cells_one _) Z c226.1 c226.2 (fun u228 hu229 => ?_))
     refine WD.b (H' := [kn M w.heap.size K0 X66.2.2, blk b225 [i_ (now18_9 + (sel3 t.w0 t.w1 t.w2 x214)), i_ (Int.tmod ((ele k_.ops i23_11).dest + (Int.tdiv now18_9 k_.pace)) t.regs), i_ (ele v3_10 (Int.tmod ((ele k_.ops i23_11).a + (Int.tdiv now18_9 k_.pace)) t.regs))] 102, blk b88 (Opr.cells (ele k_.ops i23_11)) 45, grid X66.1 X66.2.1 28 2 (updG r67_11 ((ele k_.ops i23_11).ar) x205 (ele v3_10 (Int.tmod ((ele k_.ops i23_11).a + (Int.tdiv now18_9 k_.pace)) t.regs))), vec u228 102 3 (List.map Due.cells (v48_11 ++ [(Due.mk (now18_9 + (sel3 t.w0 t.w1 t.w2 x214)) (Int.tmod ((ele k_.ops i23_11).dest + (Int.tdiv now18_9 k_.pace)) t.regs) (ele v3_10 (Int.tmod ((ele k_.ops i23_11).a + (Int.tdiv now18_9 k_.pace)) t.regs)))])), vec u6 2 1 (List.map icell v3_10), vec uv28_9 102 3 (List.map Due.cells v28_9), blk b2 [i_ k_.pace, i_ k_.stages, v_k__ops] 27, blk b1 t.cells 24]) (pk [4, 0, 1, 2, 3, 5, 6, 7, 8]) (pk [0, 1, 2, 3, 5, 6, 7, 8]) ?_
     refine wz 18 Z Z (QV.assign Z Z) ?_
     refine WD.e (by kernel_rfl) ?_
     refine WQ.block (WQ.then (WC.region (wm Z (wq Z (QV.add Z Z Z Z c230) (wa Z (WL.nil ?_))))))
     exact WQ.again4 (v48_11 ++ [(Due.mk (now18_9 + (sel3 t.w0 t.w1 t.w2 x214)) (Int.tmod ((ele k_.ops i23_11).dest + (Int.tdiv now18_9 k_.pace)) t.regs) (ele v3_10 (Int.tmod ((ele k_.ops i23_11).a + (Int.tdiv now18_9 k_.pace)) t.regs)))]) (updG r67_11 ((ele k_.ops i23_11).ar) x205 (ele v3_10 (Int.tmod ((ele k_.ops i23_11).a + (Int.tdiv now18_9 k_.pace)) t.regs))) (i23_11 + 1) u228 m78 ⟨up_next hm231 hn81, hu229, hl212, hg213⟩ (Nat.lt_succ_self _) ⟨Z, Z, Z, Z, Z, Z, Z, Z, Z, Z, Z, Z, trivial⟩ (pk [2, 3, 4, 5, 6, 7, 8])
    refine WC.region (wf fd45_2 Z (wl pl3 Z (Own.cell 0 Z Z) ?_))
    obtain ⟨c233, hm234⟩ := cs hm232; clear hm232
    refine wq Z (QV.sub Z Z Z Z c233) (wm Z (wm Z ?_))
    obtain ⟨x235, hx236, hm237⟩ := bd_some hm234; clear hm234
    refine wq Z (QV.call en60 (ec Z (ec Z (ec Z eN))) (fun w hw => have h := R1_Op_w w hx236 ; h)) (wa Z (WL.nil (WQ.block (WQ.then (sr (wf fd45_2 Z (wl pl3 Z (Own.cell 0 Z Z) ?_)))))))
    obtain ⟨x238, hx239, hm240⟩ := bd_some hm237; clear hm237
    refine wq Z (QV.call en52 (ec Z eN) (fun w hw => have h := R1_Class_w w hx239 ; h)) (wa Z (nt (WC.dr (m := 19) (S := Own M w [kn M w.heap.size K0 X66.2.2, blk b88 (Opr.cells (ele k_.ops i23_11)) 45, grid X66.1 X66.2.1 28 2 r67_11, vec u6 2 1 (List.map icell v3_10), vec uv28_9 102 3 (List.map Due.cells v28_9), blk b2 [i_ k_.pace, i_ k_.stages, v_k__ops] 27, blk b1 t.cells 24]) (by kernel_rfl) (by kernel_rfl) (pk [3, 0, 1, 4, 5, 6, 7]) (zm 0 Z Z (zm 1 Z Z (zm 2 Z Z (zf 3 fd24_1 Z Z ?_)))))))
    obtain ⟨c241, c243, c245, c247, c250, c254, hm255⟩ := cs6 hm240; clear hm240
    refine wz 4 Z Z (QV.indexArray ar22 Z Z Z Z c241.1 c241.2) (zl 5 pl3 Z Z (Own.cellSym 6 Z (sel3_get (off := 3) (i := x238) c241.1 c241.2 Z Z Z) (addr_sym _ _ _)) (wz 6 Z Z (QV.add Z Z Z Z c243) (zf 7 fd45_3 Z Z (zl 8 pl3 Z Z (Own.cell 1 Z Z) (zm 9 Z Z (wz 10 Z Z (QV.add Z Z Z Z c245) (zf 11 fd24_2 Z Z (zl 12 pl3 Z Z (Own.cell 6 Z Z) (wz 13 Z Z (QV.rem Z Z Z Z c247) ?_)))))))))
    refine zm 14 Z Z (wz 15 Z Z (QV.build (ps := [(0, .tmp 218), (1, .tmp 225), (2, .tmp 226)]) (cells := [i_ (now18_9 + (sel3 t.w0 t.w1 t.w2 x238)), i_ (Int.tmod ((ele k_.ops i23_11).dest + (Int.tdiv now18_9 k_.pace)) t.regs), i_ x235]) (ec Z (ec Z (ec Z eN))) (by kernel_rfl)) ?_)
    refine WD.o 16 Z (by kernel_rfl) Z ?_
    refine (EV.buildSlice (by decide) sz_100 (by decide) (by decide) (ps := [(0, .tmp 227)]) (cells := [i_ (now18_9 + (sel3 t.w0 t.w1 t.w2 x238)), i_ (Int.tmod ((ele k_.ops i23_11).dest + (Int.tdiv now18_9 k_.pace)) t.regs), i_ x235]) (ec Z eN) (by kernel_rfl) (fun b249 => ?_))
    refine WD.b (H' := [kn M w.heap.size K0 X66.2.2, blk b249 [i_ (now18_9 + (sel3 t.w0 t.w1 t.w2 x238)), i_ (Int.tmod ((ele k_.ops i23_11).dest + (Int.tdiv now18_9 k_.pace)) t.regs), i_ x235] 102, blk b88 (Opr.cells (ele k_.ops i23_11)) 45, grid X66.1 X66.2.1 28 2 r67_11, vec u6 2 1 (List.map icell v3_10), vec uv28_9 102 3 (List.map Due.cells v28_9), blk b2 [i_ k_.pace, i_ k_.stages, v_k__ops] 27, blk b1 t.cells 24]) (pk [4, 0, 1, 2, 5, 6, 7, 8]) (pk [0, 2, 3, 4, 5, 6, 7]) ?_
    refine WD.o 17 Z (by kernel_rfl) Z ?_
    refine (EV.appendL (enc := Due.cells) (xs := v48_11) (ys := [(Due.mk (now18_9 + (sel3 t.w0 t.w1 t.w2 x238)) (Int.tmod ((ele k_.ops i23_11).dest + (Int.tdiv now18_9 k_.pace)) t.regs) x235)]) ((v48_11 ++ [(Due.mk (now18_9 + (sel3 t.w0 t.w1 t.w2 x238)) (Int.tmod ((ele k_.ops i23_11).dest + (Int.tdiv now18_9 k_.pace)) t.regs) x235)])) 3 (by decide) ve100 Z Z Z Z Z (Own.blkArr 0 (rows := [(Due.mk (now18_9 + (sel3 t.w0 t.w1 t.w2 x238)) (Int.tmod ((ele k_.ops i23_11).dest + (Int.tdiv now18_9 k_.pace)) t.regs) x235)].map Due.cells) Z Z (rows_len Due.cells_len)) Due.cells_len (Due.cells_one _) Z c250.1 c250.2 (fun u252 hu253 => ?_))
    refine WD.b (H' := [kn M w.heap.size K0 X66.2.2, blk b249 [i_ (now18_9 + (sel3 t.w0 t.w1 t.w2 x238)), i_ (Int.tmod ((ele k_.ops i23_11).dest + (Int.tdiv now18_9 k_.pace)) t.regs), i_ x235] 102, blk b88 (Opr.cells (ele k_.ops i23_11)) 45, grid X66.1 X66.2.1 28 2 r67_11, vec u252 102 3 (List.map Due.cells (v48_11 ++ [(Due.mk (now18_9 + (sel3 t.w0 t.w1 t.w2 x238)) (Int.tmod ((ele k_.ops i23_11).dest + (Int.tdiv now18_9 k_.pace)) t.regs) x235)])), vec u6 2 1 (List.map icell v3_10), vec uv28_9 102 3 (List.map Due.cells v28_9), blk b2 [i_ k_.pace, i_ k_.stages, v_k__ops] 27, blk b1 t.cells 24]) (pk [4, 0, 1, 2, 3, 5, 6, 7, 8]) (pk [0, 1, 2, 3, 5, 6, 7, 8]) ?_
    refine wz 18 Z Z (QV.assign Z Z) ?_
    refine WD.e (by kernel_rfl) ?_
    refine WQ.block (WQ.then (WC.region (wm Z (wq Z (QV.add Z Z Z Z c254) (wa Z (WL.nil ?_))))))
    exact WQ.again4 (v48_11 ++ [(Due.mk (now18_9 + (sel3 t.w0 t.w1 t.w2 x238)) (Int.tmod ((ele k_.ops i23_11).dest + (Int.tdiv now18_9 k_.pace)) t.regs) x235)]) r67_11 (i23_11 + 1) u252 m78 ⟨up_next hm255 hn81, hu253, hlr67_11, hgr67_11⟩ (Nat.lt_succ_self _) ⟨Z, Z, Z, Z, Z, Z, Z, Z, Z, Z, Z, Z, trivial⟩ (pk [2, 3, 4, 5, 6, 7, 8])
   refine WC.exit (te (te (WQ.block_exit ?_)))
   exact WQ.out4 v48_11 r67_11 i23_11 uv48_11 ⟨up_brk hm256 hn81, hlv48_11, hlr67_11, hgr67_11⟩ ⟨Z, Z, Z, Z, Z, Z, Z, Z, Z, Z, Z, Z, trivial⟩ (pk [0, 1, 2, 3, 4, 5, 6])
  rintro v3_10 v48_10 i20_10 uv48_10 m257 ⟨hI258, hlv3_10, hlv48_10⟩
  obtain ⟨m259, s260, rfl, hm261, hn262⟩ := iter_step hI258; clear hI258; unfold R5_Play_L2 at hm261; simp only at hm261
  refine WC.seq (sr (wm Z (wm Z (wq Z (QV.lenS Try.underlying100 Z Z hlv28_9) (wq Z (QV.lss Z Z Z Z) (nt ?_))))))
  refine wc Z hm261 (fun h263 hm264 => ?_) (fun h263 hm298 => ?_) <;> clear hm261
  ·skip
   refine sk (WQ.then (WC.seq (WC.block (sr (wm Z (wm Z ?_))))))
   obtain ⟨c265, hm266⟩ := cs hm264; clear hm264
   obtain ⟨p267, hp268⟩ := hlv28_9.ix (sz := 3) ln_len c265
   refine wq Z (QV.indexSlice sl100 Z Z Z Z hp268) (wf fd102_0 Z (wl pl3 Z (fun w hw => CellsAt.one 0 (((Own.vecArr 3 Z) w hw).ele hp268 c265) Z) (wm Z (wq Z (QV.eql Z Z Z Z) (nt ?_)))))
   refine wc Z hm266 (fun h269 hm270 => ?_) (fun h269 hm286 => ?_) <;> clear hm266
   ·skip
    refine WC.dr (m := 13) (S := Own M w [kn M w.heap.size K0 k_9, vec uv48_10 102 3 (List.map Due.cells v48_10), vec u6 2 1 (List.map icell v3_10), vec uv28_9 102 3 (List.map Due.cells v28_9), blk b2 [i_ k_.pace, i_ k_.stages, v_k__ops] 27, blk b1 t.cells 24]) (by kernel_rfl) (by kernel_rfl) (pk [2, 0, 1, 3, 4, 5]) (zm 0 Z Z (zm 1 Z Z (zm 2 Z Z ?_)))
    obtain ⟨c271, hm272⟩ := cs hm270; clear hm270
    obtain ⟨p273, hp274⟩ := hlv28_9.ix (sz := 3) ln_len c271
    refine wz 3 Z Z (QV.indexSlice sl100 Z Z Z Z hp274) (zf 4 fd102_1 Z Z (zl 5 pl3 Z Z (fun w hw => CellsAt.one 1 (((Own.vecArr 3 Z) w hw).ele hp274 c271) Z) (zm 6 Z Z (zm 7 Z Z ?_))))
    obtain ⟨c275, hm276⟩ := cs hm272; clear hm272
    obtain ⟨p277, hp278⟩ := hlv28_9.ix (sz := 3) ln_len c275
    refine wz 8 Z Z (QV.indexSlice sl100 Z Z Z Z hp278) (zf 9 fd102_2 Z Z (zl 10 pl2 Z Z (fun w hw => CellsAt.one 2 (((Own.vecArr 3 Z) w hw).ele hp278 c275) Z) ?_))
    obtain ⟨c279, hm280⟩ := cs hm276; clear hm276
    obtain ⟨p281, hp282⟩ := hlv3_10.ix (sz := 1) ln_len c279
    refine wz 11 Z Z (QV.indexSlice sl28 Z Z Z Z hp282) ?_
    refine WD.l 12 Z (by kernel_rfl) Z ?_
    refine (EV.storeV 1 ((ele v28_9 i20_10).v) icell_eq Z Z Z Z Z hp282 Z Z sz2 ?_)
    have hl283 : SliceLen u6 (upd v3_10 ((ele v28_9 i20_10).reg) ((ele v28_9 i20_10).v)).length := slen_upd hlv3_10
    refine WQ.block (WQ.then (WC.region (wm Z ?_)))
    obtain ⟨c284, hm285⟩ := cs hm280; clear hm280
    refine wq Z (QV.add Z Z Z Z c284) (wa Z (WL.nil ?_))
    exact WQ.again4 (upd v3_10 ((ele v28_9 i20_10).reg) ((ele v28_9 i20_10).v)) v48_10 (i20_10 + 1) uv48_10 m259 ⟨up_next hm285 hn262, hl283, hlv48_10⟩ (Nat.lt_succ_self _) ⟨Z, Z, Z, Z, Z, Z, Z, Z, Z, Z, Z, trivial⟩ (pk [0, 1, 2, 3, 4, 5])
   refine WC.region (wm Z (wm Z (wm Z ?_)))
   obtain ⟨c287, hm288⟩ := cs hm286; clear hm286
   obtain ⟨p289, hp290⟩ := hlv28_9.ix (sz := 3) ln_len c287
   refine wq Z (QV.indexSlice sl100 Z Z Z Z hp290) (wq Z (QV.loadAgg ag102 Z Z Z (fun w hw => ((Own.vecArr 3 Z) w hw).ele hp290 c287)) (WL.effect Z ?_))
   refine (EV.buildSlice (by decide) sz_100 (by decide) (by decide) (ps := [(0, .tmp 88)]) (cells := [i_ ((ele v28_9 i20_10).due), i_ ((ele v28_9 i20_10).reg), i_ ((ele v28_9 i20_10).v)]) (ec Z eN) (by kernel_rfl) (fun b291 => ?_))
   refine WL.effect Z ?_
   obtain ⟨c292, c296, hm297⟩ := cs2 hm288; clear hm288
   refine (EV.appendL (enc := Due.cells) (xs := v48_10) (ys := [(ele v28_9 i20_10)]) ((v48_10 ++ [(ele v28_9 i20_10)])) 1 (by decide) ve100 Z Z Z Z Z (Own.blkArr 0 (rows := [(ele v28_9 i20_10)].map Due.cells) Z Z (rows_len Due.cells_len)) Due.cells_len (Due.cells_one _) Z c292.1 c292.2 (fun u294 hu295 => ?_))
   refine wa Z (WL.nil (WQ.block (WQ.then (WC.region (wm Z (wq Z (QV.add Z Z Z Z c296) (wa Z (WL.nil ?_))))))))
   exact WQ.again4 v3_10 (v48_10 ++ [(ele v28_9 i20_10)]) (i20_10 + 1) u294 m259 ⟨up_next hm297 hn262, hlv3_10, hu295⟩ (Nat.lt_succ_self _) ⟨Z, Z, Z, Z, Z, Z, Z, Z, Z, Z, Z, trivial⟩ (pk [1, 2, 3, 4, 5, 6])
  refine WC.exit (te (te (WQ.block_exit ?_)))
  exact WQ.out4 v3_10 v48_10 i20_10 uv48_10 ⟨up_brk hm298 hn262, hlv3_10, hlv48_10⟩ ⟨Z, Z, Z, Z, Z, Z, Z, Z, Z, Z, Z, trivial⟩ (pk [0, 1, 2, 3, 4, 5])
 refine WC.exit (te (te (WQ.block_exit ?_)))
 exact WQ.out7 v28_9 v3_9 m13_9 now18_9 uv28_9 vm13_9 k_9 ⟨up_brk hm299 hn41, hlv28_9, hlv3_9, hAm13_9, hle_9⟩ ⟨Z, Z, Z, Z, Z, Z, Z, Z, Z, trivial⟩ (pk [0, 1, 2, 3, 4])
end Go.Proofs.Ytaimbkndebaaiab
end
section
namespace Go.Proofs.Ytaimbkndebaaiab
open Go.Rd
open TNum TLoop TStable TMach TMach2 TKern TClone TNbr TSeq TKRun TRDep TR10 TR5b
namespace TR5c
end TR5c
open TR5c
theorem R5_Wrong_w {v_k__ops v_regs v_memory : Value} {t : Tgt} {k_ : Krn} {regs : List Int} {memory : List (List Int)} {turns r : Int} (w : World) (hm : R5_Wrong_m t k_ regs memory turns = some r) (h_k__ops : Arr w v_k__ops 10 (k_.ops.map Opr.cells)) (h_regs : Arr w v_regs 1 (regs.map icell)) (h_memory : RowsA w v_memory memory) : Calls Try.prog 17 #[.agg #[.int .i64 t.u0, .int .i64 t.u1, .int .i64 t.u2, .int .i64 t.w0, .int .i64 t.w1, .int .i64 t.w2, .int .i64 t.regs], .agg #[.int .i64 k_.pace, .int .i64 k_.stages, v_k__ops], v_regs, v_memory, .int .i64 turns] w (fun e w' => e = .returned (.int .i64 r) ∧ Grow w w') := by
 unfold R5_Wrong_m at hm
 have hk := Base.rfl (w := w)
 refine calls_of_WC (n := 40) (args := [.agg #[i_ t.u0, i_ t.u1, i_ t.u2, i_ t.w0, i_ t.w1, i_ t.w2, i_ t.regs], .agg #[i_ k_.pace, i_ k_.stages, v_k__ops], v_regs, v_memory, i_ turns]) Try.func17 Z Z (nl Z) ?_ (Own.startK hk (Own.start w))
 refine sr (WL.effect Z ?_)
 refine (EV.boxAgg (by decide) Z Z (fun b1 => ?_))
 refine WL.effect Z ?_
 refine (EV.boxAgg (by decide) Z Z (fun b2 => ?_))
 refine wa Z (ns (wm Z (WL.effect Z ?_)))
 obtain ⟨x3, hx4, hm5⟩ := bd_some hm; clear hm
 refine EV.of (C' := Own noM w [kn noM w.heap.size w w, blk b2 [i_ k_.pace, i_ k_.stages, v_k__ops] 27, blk b1 t.cells 24]) (pk [2, 0, 1]) ?_
 refine (EV.callR (X := Value × World) (R := []) (fun X => .tuple #[X.1, .bool x3.2]) (fun X => []) (fun X => X.2) (fun X => Arr X.2 X.1 1 (x3.1.map icell)) hk (fun _ h => by cases h; decide) en14 (ec Z eN) (fun M w h1 h2 => have h := R5_Logs_w hx4 h_memory M w h1 h2; h) (fun X6 hF6 hle6 => ?_))
 refine wm Z (wq Z (QV.extract Z Z Z) (wq Z (QV.extract Z Z Z) (wa Z (wa Z (nt (WC.seq (sr (wm Z (wq Z (QV.not Z Z) (wm Z (gn Z (fun hG => QV.loadAgg ag24 Z Z Z (Own.cellsBlk 2 Z)) ?_)))))))))))
 refine gn Z (fun hG => QV.loadAgg ag27 Z Z Z (Own.cellsBlk 1 Z)) (gn Z (fun hG => QV.move Z Z) ?_)
 obtain ⟨x7, hx8, hm9⟩ := bdG_some hm5; clear hm5
 refine gn Z (fun hG => QV.call en16 (EvAll.cons Z hG (EvAll.cons Z hG (EvAll.cons Z hG eN))) (fun w hw => have h := R5_May_w w (hx8 hG) ((Own.karr 0 Z hk (h_k__ops.le hle6)) w hw) ((Own.karr 0 Z hk hF6) w hw); h)) (gn Z (fun hG => QV.not Z hG) (wq Z (QV.pickOr Z Z Z (fun h => notF h)) (wm Z (gn Z (fun hG => QV.move Z Z) (gn Z (fun hG => QV.lenS Try.underlying28 Z hG (h_regs.le hle6).lenMap) (gn Z (fun hG => QV.fieldAddr fd24_2 Z Z) (gn Z (fun hG => QV.load pl3 Z hG (Own.cell 2 Z Z)) (gn Z (fun hG => QV.neq Z hG Z hG) (wq Z (QV.pickOr Z Z Z (fun h => notF h)) ?_)))))))))
 refine nt ?_
 refine wc Z hm9 (fun h10 hm11 => ?_) (fun h10 hm12 => ?_) <;> clear hm9
 ·skip
  refine sr (wa Z (nt (WC.ret (tr ?_))))
  obtain rfl := (eq_of_some hm11).symm
  exact WQ.ret1 Z Z fun w hw => kg hw
 refine sk (WQ.then (WC.seq (sr (wm Z (wq Z (QV.lss Z Z Z Z) (wm Z (gn Z (fun hG => QV.move Z Z) (gn Z (fun hG => QV.gtr Z hG Z Z) (wq Z (QV.pickOr Z Z Z (fun h => notF h)) (nt ?_))))))))))
 refine wc Z hm12 (fun h13 hm14 => ?_) (fun h13 hm15 => ?_) <;> clear hm12
 ·skip
  refine sr (wa Z (nt (WC.ret (tr ?_))))
  obtain rfl := (eq_of_some hm14).symm
  exact WQ.ret1 Z Z fun w hw => kg hw
 refine sk (WQ.then (sr (wa Z (nt (WC.ret ?_)))))
 obtain rfl := (eq_of_some hm15).symm
 exact WQ.ret1 Z Z fun w hw => kg hw
end Go.Proofs.Ytaimbkndebaaiab
end
section
namespace Go.Proofs.Ytaimbkndebaaiab
open Go.Rd
open TNum TLoop TStable TMach TMach2 TKern TClone TNbr TSeq TKRun TRDep TR10 TR5b TR5c
namespace TLawKern
theorem en17 : Go.Rd.Enters Try.prog 17 := eT Try.func17
theorem en18 : Go.Rd.Enters Try.prog 18 := eT Try.func18
theorem en19 : Go.Rd.Enters Try.prog 19 := eT Try.func19
theorem en20 : Go.Rd.Enters Try.prog 20 := eT Try.func20
theorem en22 : Go.Rd.Enters Try.prog 22 := eT Try.func22
end TLawKern
open TLawKern
theorem roundelaylaw_work_w {v_k__ops : Value} {k_ : Krn} {turns : Int} {r : Bool} (w : World) (hm : roundelaylaw_work_m k_ turns = some r) (h_k__ops : Arr w v_k__ops 10 (k_.ops.map Opr.cells)) : Calls Try.prog 18 #[.agg #[.int .i64 k_.pace, .int .i64 k_.stages, v_k__ops], .int .i64 turns] w (fun e w' => e = .returned (.bool r) ∧ Grow w w') := by
 unfold roundelaylaw_work_m at hm
 have hk := Base.rfl (w := w)
 refine calls_of_WC (n := 27) (args := [.agg #[i_ k_.pace, i_ k_.stages, v_k__ops], i_ turns]) Try.func18 Z Z (nl Z) ?_ (Own.startK hk (Own.start w))
 refine sr (WL.effect Z ?_)
 refine (EV.boxAgg (by decide) Z Z (fun b1 => ?_))
 refine wa Z (ns (wm Z (wq Z (QV.gtr Z Z Z Z) (wm Z (gn Z (fun hG => QV.fieldAddr fd27_1 Z Z) (gn Z (fun hG => QV.load pl3 Z hG (Own.cell 0 Z Z)) (gn Z (fun hG => QV.gtr Z hG Z Z) (wq Z (QV.pickOr Z Z Z (fun h => notF h)) (wm Z ?_)))))))))
 refine gn Z (fun hG => QV.fieldAddr fd27_0 Z Z) (gn Z (fun hG => QV.load pl3 Z hG (Own.cell 0 Z Z)) (gn Z (fun hG => QV.gtr Z hG Z Z) (wq Z (QV.pickOr Z Z Z (fun h => notF h)) (wm Z (gn Z (fun hG => QV.move Z Z) (gn Z (fun hG => QV.fieldAddr fd27_1 Z Z) (gn Z (fun hG => QV.load pl3 Z hG (Own.cell 0 Z Z)) ?_)))))))
 obtain ⟨c2, c4, hm5⟩ := cs2 hm; clear hm
 refine gn Z (fun hG => QV.add Z hG Z hG (c2 hG)) (gn Z (fun hG => QV.fieldAddr fd27_0 Z Z) (gn Z (fun hG => QV.load pl3 Z hG (Own.cell 0 Z Z)) (gn Z (fun hG => QV.mul Z hG Z hG (c4 hG)) (gn Z (fun hG => QV.gtr Z hG Z Z) (wq Z (QV.pickOr Z Z Z (fun h => notF h)) (wa Z (nt (WC.ret ?_))))))))
 obtain rfl := (eq_of_some hm5).symm
 exact WQ.ret1 Z Z fun w hw => kg hw
theorem roundelaylaw_KernelRuns_w {v_k__ops v_regs v_memory : Value} {t : Tgt} {k_ : Krn} {regs : List Int} {memory : List (List Int)} {turns : Int} {r : Bool} (w : World) (hm : roundelaylaw_KernelRuns_m t k_ regs memory turns = some r) (h_k__ops : Arr w v_k__ops 10 (k_.ops.map Opr.cells)) (h_regs : Arr w v_regs 1 (regs.map icell)) (h_memory : RowsA w v_memory memory) : Calls Try.prog 3 #[.agg #[.int .i64 t.u0, .int .i64 t.u1, .int .i64 t.u2, .int .i64 t.w0, .int .i64 t.w1, .int .i64 t.w2, .int .i64 t.regs], .agg #[.int .i64 k_.pace, .int .i64 k_.stages, v_k__ops], v_regs, v_memory, .int .i64 turns] w (fun e w' => e = .returned (.bool r) ∧ Grow w w') := by
 unfold roundelaylaw_KernelRuns_m at hm
 have hk := Base.rfl (w := w)
 refine calls_of_WC (n := 93) (args := [.agg #[i_ t.u0, i_ t.u1, i_ t.u2, i_ t.w0, i_ t.w1, i_ t.w2, i_ t.regs], .agg #[i_ k_.pace, i_ k_.stages, v_k__ops], v_regs, v_memory, i_ turns]) Try.func3 Z Z (nl Z) ?_ (Own.startK hk (Own.start w))
 refine sr (WL.effect Z ?_)
 refine (EV.boxAgg (by decide) Z Z (fun b1 => ?_))
 refine WL.effect Z ?_
 refine (EV.boxAgg (by decide) Z Z (fun b2 => ?_))
 refine wa Z (ns (wm Z (WL.effect Z ?_)))
 obtain ⟨x3, hx4, hm5⟩ := bd_some hm; clear hm
 refine EV.of (C' := Own noM w [kn noM w.heap.size w w, blk b2 [i_ k_.pace, i_ k_.stages, v_k__ops] 27, blk b1 t.cells 24]) (pk [2, 0, 1]) ?_
 refine (EV.callR (X := Value × World) (R := []) (fun X => .tuple #[X.1, .bool x3.2]) (fun X => []) (fun X => X.2) (fun X => Arr X.2 X.1 1 (x3.1.map icell)) hk (fun _ h => by cases h; decide) en14 (ec Z eN) (fun M w h1 h2 => have h := R5_Logs_w hx4 h_memory M w h1 h2; h) (fun X6 hF6 hle6 => ?_))
 refine wm Z (wq Z (QV.extract Z Z Z) (wq Z (QV.extract Z Z Z) (wa Z (wa Z (nt (WC.seq (WC.seq (WC.dr (m := 12) (by kernel_rfl) (by kernel_rfl) (fun w hw => hw) (zm 0 Z Z (zm 1 Z Z (zp 2 Z Z (fun hG => QV.loadAgg ag24 Z Z Z (Own.cellsBlk 2 Z)) ?_)))))))))))
 refine zp 3 Z Z (fun hG => QV.loadAgg ag27 Z Z Z (Own.cellsBlk 1 Z)) (zp 4 Z Z (fun hG => QV.move Z Z) ?_)
 obtain ⟨x7, hx8, hm9⟩ := bdG_some hm5; clear hm5
 refine zp 5 Z Z (fun hG => QV.call en15 (EvAll.cons Z hG (EvAll.cons Z hG (EvAll.cons Z hG eN))) (fun w hw => have h := kernel_May_w w (hx8 hG) ((Own.karr 0 Z hk (h_k__ops.le hle6)) w hw) ((Own.karr 0 Z hk hF6) w hw); h)) (zp 6 Z Z (fun hG => QV.loadAgg ag24 Z Z Z (Own.cellsBlk 2 Z)) (zp 7 Z Z (fun hG => QV.loadAgg ag27 Z Z Z (Own.cellsBlk 1 Z)) (zp 8 Z Z (fun hG => QV.move Z Z) ?_)))
 obtain ⟨x10, hx11, hm12⟩ := bdG_some hm9; clear hm9
 refine zp 9 Z Z (fun hG => QV.call en16 (EvAll.cons Z hG (EvAll.cons Z hG (EvAll.cons Z hG eN))) (fun w hw => have h := R5_May_w w (hx11 hG) ((Own.karr 0 Z hk (h_k__ops.le hle6)) w hw) ((Own.karr 0 Z hk hF6) w hw); h)) (zp 10 Z Z (fun hG => QV.neqB Try.underlying4 Z hG Z hG) (wz 11 Z Z (QV.pickAnd Z Z Z (fun h => h)) ?_))
 refine WD.e (by kernel_rfl) ?_
 refine WQ.then ?_
 refine wc Z hm12 (fun h13 hm14 => ?_) (fun h13 hm15 => ?_) <;> clear hm12
 ·skip
  refine sr (wa Z (nt (WC.ret (tr ?_))))
  obtain rfl := (eq_of_some hm14).symm
  exact WQ.ret1 Z Z fun w hw => kg hw
 refine sk (WQ.then (sr (wq Z (QV.loadAgg ag24 Z Z Z (Own.cellsBlk 2 Z)) (wq Z (QV.loadAgg ag27 Z Z Z (Own.cellsBlk 1 Z)) (wm Z (wm Z (wm Z ?_)))))))
 obtain ⟨x16, hx17, hm18⟩ := bd_some hm15; clear hm15
 refine wq Z (QV.call en17 (ec Z (ec Z (ec Z (ec Z (ec Z eN))))) (fun w hw => have h := R5_Wrong_w w hx17 ((Own.karr 0 Z hk (h_k__ops.le hle6)) w hw) ((Own.karr 0 Z hk (h_regs.le hle6)) w hw) (Own.krows 0 Z hk (h_memory.le hle6) w hw); h)) (wa Z (nt (WC.seq (sr (wm Z (wq Z (QV.eql Z Z Z Z) (wm Z (gp Z (fun hG => QV.loadAgg ag27 Z Z Z (Own.cellsBlk 1 Z)) (gp Z (fun hG => QV.move Z Z) ?_)))))))))
 obtain ⟨x19, hx20, hm21⟩ := bdG_some hm18; clear hm18
 refine gp Z (fun hG => QV.call en18 (EvAll.cons Z hG (EvAll.cons Z hG eN)) (fun w hw => have h := roundelaylaw_work_w w (hx20 hG) ((Own.karr 0 Z hk (h_k__ops.le hle6)) w hw); h)) (wq Z (QV.pickAnd Z Z Z (fun h => h)) (nt ?_))
 refine wc Z hm21 (fun h22 hm23 => ?_) (fun h22 hm24 => ?_) <;> clear hm21
 ·skip
  refine sr (wa Z (nt (WC.ret (tr ?_))))
  obtain rfl := (eq_of_some hm23).symm
  exact WQ.ret1 Z Z fun w hw => kg hw
 refine sk (WQ.then (sr (wq Z (QV.loadAgg ag24 Z Z Z (Own.cellsBlk 2 Z)) (wq Z (QV.loadAgg ag27 Z Z Z (Own.cellsBlk 1 Z)) (wm Z (wm Z (wm Z (WL.effect Z ?_))))))))
 obtain ⟨x25, hx26, hm27⟩ := bd_some hm24; clear hm24
 refine (EV.callR (X := Value × Value × World) (R := []) (fun X => .tuple #[X.1, X.2.1, i_ x25.2.2]) (fun X => []) (fun X => X.2.2) (fun X => Arr X.2.2 X.1 1 (x25.1.map icell) ∧ RowsA X.2.2 X.2.1 x25.2.1) hk (fun _ h => by cases h; decide) en19 (ec Z (ec Z (ec Z (ec Z (ec Z eN))))) (fun M w h1 h2 => have h := kernel_Run_w hx26 (h_k__ops.le hle6) (h_regs.le hle6) (h_memory.le hle6) M w h1 h2; h) (fun X28 hF28 hle28 => ?_))
 refine wm Z (wq Z (QV.extract Z Z Z) (wq Z (QV.extract Z Z Z) (wq Z (QV.extract Z Z Z) (wa Z (wa Z (wa Z (nt (WC.seq (sr (wm Z (wq Z (QV.neq Z Z Z Z) ?_)))))))))))
 refine nt ?_
 refine wc Z hm27 (fun h29 hm30 => ?_) (fun h29 hm33 => ?_) <;> clear hm27
 ·skip
  refine sr (wm Z (wm Z (wq Z (QV.eql Z Z Z Z) (wm Z (gp Z (fun hG => QV.move Z Z) (gp Z (fun hG => QV.lenS Try.underlying28 Z hG hF28.1.lenMap) (gp Z (fun hG => QV.move Z Z) (gp Z (fun hG => QV.lenS Try.underlying29 Z hG hF28.2.slen) ?_))))))))
  obtain ⟨c31, hm32⟩ := cs hm30; clear hm30
  refine gp Z (fun hG => QV.add Z hG Z hG (c31 hG)) (gp Z (fun hG => QV.eql Z hG Z Z) (wq Z (QV.pickAnd Z Z Z (fun h => h)) (wa Z (nt (WC.ret (tr ?_))))))
  obtain rfl := (eq_of_some hm32).symm
  exact WQ.ret1 Z Z fun w hw => kg hw
 refine sk (WQ.then (sr (wq Z (QV.loadAgg ag24 Z Z Z (Own.cellsBlk 2 Z)) (wq Z (QV.loadAgg ag27 Z Z Z (Own.cellsBlk 1 Z)) (wm Z (wm Z (wm Z (WL.effect Z ?_))))))))
 obtain ⟨x34, hx35, hm36⟩ := bd_some hm33; clear hm33
 refine (EV.callR (X := Value × Value × World) (R := []) (fun X => .tuple #[X.1, X.2.1]) (fun X => []) (fun X => X.2.2) (fun X => Arr X.2.2 X.1 1 (x34.1.map icell) ∧ RowsA X.2.2 X.2.1 x34.2) hk (fun _ h => by cases h; decide) en20 (ec Z (ec Z (ec Z (ec Z (ec Z eN))))) (fun M w h1 h2 => have h := R5_Play_w hx35 (h_k__ops.le (hle6.trans hle28)) (h_regs.le (hle6.trans hle28)) (h_memory.le (hle6.trans hle28)) M w h1 h2; h) (fun X37 hF37 hle37 => ?_))
 refine wm Z (wq Z (QV.extract Z Z Z) (wq Z (QV.extract Z Z Z) (wa Z (wa Z (ns (wm Z (wq Z (QV.eql Z Z Z Z) (wm Z (gp Z (fun hG => QV.move Z Z) ?_)))))))))
 refine gp Z (fun hG => QV.move Z Z) ?_
 obtain ⟨x38, hx39, hm40⟩ := bdG_some hm36; clear hm36
 refine gp Z (fun hG => QV.call en21 (EvAll.cons Z hG (EvAll.cons Z hG eN)) (fun w hw => have h := R3_Numbers_w w (hx39 hG) ((Own.karr 0 Z hk (hF28.1.le hle37)) w hw) ((Own.karr 0 Z hk hF37.1) w hw); h)) (wq Z (QV.pickAnd Z Z Z (fun h => h)) (wm Z (gp Z (fun hG => QV.move Z Z) (gp Z (fun hG => QV.move Z Z) ?_))))
 obtain ⟨x41, hx42, hm43⟩ := bdG_some hm40; clear hm40
 refine gp Z (fun hG => QV.call en22 (EvAll.cons Z hG (EvAll.cons Z hG eN)) (fun w hw => have h := R3_Words_w w (hx42 hG) (Own.krows 0 Z hk (hF28.2.le hle37) w hw) (Own.krows 0 Z hk hF37.2 w hw); h)) (wq Z (QV.pickAnd Z Z Z (fun h => h)) (wa Z (nt (WC.ret ?_))))
 obtain rfl := (eq_of_some hm43).symm
 exact WQ.ret1 Z Z fun w hw => kg hw
end Go.Proofs.Ytaimbkndebaaiab
end
section
namespace Go.Rd
open Go.RowKit
theorem mapM_len {α β : Type} {f : α → Option β} : ∀ {l : List α} {r : List β}, l.mapM f = some r → r.length = l.length
 | [], r, h => by simp at h; subst h; rfl
 | x :: l, r, h => by
  rw [List.mapM_cons] at h
  obtain ⟨b, hb, h⟩ := Option.bind_eq_some_iff.1 h
  obtain ⟨r', hr, h⟩ := Option.bind_eq_some_iff.1 h
  have h : some (b :: r') = some r := h
  cases h
  rw [List.length_cons, List.length_cons, mapM_len hr]
section
variable {H : Type} {enc : TypeId × Value → H} {P : Program} {w : World} {base : Nat} {spare : Nat → Bool} {held : Bool}
theorem slice_reach {fuel : Nat} {t e : TypeId} {sa : Option Addr} {sl sc : Nat} {d : DataW H} {p : List MemPlace} {ts : List TypeId} {ds : List (DataW H)} {j : Nat} (ht : P.underlying t = some (.slice e))
  (hf : DataW.trod enc P w base spare held fuel t [.slice sa sl sc] = some (d, p)) (hsz : (DataW.weightsEach P ts ds).all (· ≤ reachBytes) = true) (hts : ts[j]? = some t) (hds : ds[j]? = some d) : sl * P.bytesOf e ≤ reachBytes := by
 cases fuel with
 | zero => simp [DataW.trod] at hf
 | succ fuel =>
  unfold DataW.trod at hf
  rw [ht] at hf
  cases sa with
  | none =>
   split at hf <;> simp_all
   all_goals (first | (obtain ⟨rfl, rfl⟩ := ‹_ ∧ _›; simp) | simp_all)
  | some a =>
   simp only at hf
   split at hf
   ·obtain ⟨r, hr, hf⟩ := Option.bind_eq_some_iff.1 hf
    obtain ⟨q, hq, hf⟩ := Option.map_eq_some_iff.1 hf
    have hl := mapM_len hr
    rw [List.length_range] at hl
    simp only [Prod.mk.injEq] at hf
    obtain ⟨rfl, _⟩ := hf
    have := sized_slice hsz hts hds ht
    rw [List.length_map, hl] at this
    exact Nat.le_trans (Nat.mul_le_mul_right _ (by omega)) this
   ·cases hf
theorem slen_at {sa : Option Addr} {sl sc n : Nat} (h : SliceLen (.slice sa sl sc) n) : sl = n := by
 obtain ⟨a, c, e, _⟩ := h
 simp only [Value.slice.injEq] at e
 exact e.2.1
theorem rows_reach {sa : Option Addr} {sl sc : Nat} {B : List (Value × List Int)} {b : Nat} (h : RowsRep w (.slice sa sl sc) B) (hb : b = 24) (hr : sl * b ≤ reachBytes) : (B.map (·.2)).length ≤ 5864062014634 := by
 have := slen_at h.rows.len
 rw [List.length_map] at this
 rw [List.length_map]
 subst hb this
 unfold reachBytes at hr
 omega
end
end Go.Rd
end