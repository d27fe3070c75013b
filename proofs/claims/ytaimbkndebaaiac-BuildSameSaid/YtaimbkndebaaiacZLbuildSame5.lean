/- Texts for the law, 5. -/
import Derived.Test.YtaimbkndebaaiacZLbuildSame4
import Derived.Test.YtaimbkndebaaiacProg
import Derived.KernelRfl
import Derived.Shelf.SlSortCmp.NoneTotal
set_option linter.unusedVariables false
set_option linter.unusedSimpArgs false
set_option maxRecDepth 8000
section
namespace Go.Proofs.Ytaimbkndebaaiac
open Go.Rd
open TNum
namespace TLoop
theorem ag25 : AggT Try.prog 25 3 := ⟨_, Try.underlying25, rfl, by kernel_rfl⟩
theorem ag28 : AggT Try.prog 28 7 := ⟨_, Try.underlying28, rfl, by kernel_rfl⟩
theorem ag79 : AggT Try.prog 79 2 := ⟨_, Try.underlying79, rfl, by kernel_rfl⟩
theorem ag81 : AggT Try.prog 81 9 := ⟨_, Try.underlying81, rfl, by kernel_rfl⟩
theorem ar26 : ArrayT Try.prog 26 3 1 := ⟨_, Try.underlying26, by kernel_rfl⟩
theorem en105 : Go.Rd.Enters Try.prog 105 := eT Try.func105
theorem en30 : Go.Rd.Enters Try.prog 30 := eT Try.func30
theorem en38 : Go.Rd.Enters Try.prog 38 := eT Try.func38
theorem en39 : Go.Rd.Enters Try.prog 39 := eT Try.func39
theorem en43 : Go.Rd.Enters Try.prog 43 := eT Try.func43
theorem en44 : Go.Rd.Enters Try.prog 44 := eT Try.func44
theorem en45 : Go.Rd.Enters Try.prog 45 := eT Try.func45
theorem en66 : Go.Rd.Enters Try.prog 66 := eT Try.func66
theorem en67 : Go.Rd.Enters Try.prog 67 := eT Try.func67
theorem en68 : Go.Rd.Enters Try.prog 68 := eT Try.func68
theorem en76 : Go.Rd.Enters Try.prog 76 := eT Try.func76
theorem en77 : Go.Rd.Enters Try.prog 77 := eT Try.func77
theorem en89 : Go.Rd.Enters Try.prog 89 := eT Try.func89
theorem eq79 : EqT Try.prog 79 2 := ⟨by kernel_rfl, ⟨_, Try.underlying79⟩, by kernel_rfl, by kernel_rfl⟩
theorem fd25_0 : FieldT Try.prog 25 0 0 := fT 0 Try.underlying25
theorem fd25_1 : FieldT Try.prog 25 1 1 := fT 0 Try.underlying25
theorem fd25_2 : FieldT Try.prog 25 2 2 := fT 0 Try.underlying25
theorem fd28_0 : FieldT Try.prog 28 0 0 := fT 2 Try.underlying28
theorem fd28_1 : FieldT Try.prog 28 1 3 := fT 2 Try.underlying28
theorem fd28_2 : FieldT Try.prog 28 2 6 := fT 0 Try.underlying28
theorem fd50_0 : FieldT Try.prog 50 0 0 := fT 0 Try.underlying50
theorem fd50_1 : FieldT Try.prog 50 1 1 := fT 0 Try.underlying50
theorem fd79_0 : FieldT Try.prog 79 0 0 := fT 0 Try.underlying79
theorem fd79_1 : FieldT Try.prog 79 1 1 := fT 0 Try.underlying79
theorem fd81_0 : FieldT Try.prog 81 0 0 := fT 0 Try.underlying81
theorem fd81_1 : FieldT Try.prog 81 1 1 := fT 1 Try.underlying81
theorem fd81_2 : FieldT Try.prog 81 2 3 := fT 1 Try.underlying81
theorem fd81_3 : FieldT Try.prog 81 3 5 := fT 0 Try.underlying81
theorem fd81_4 : FieldT Try.prog 81 4 6 := fT 0 Try.underlying81
theorem fd81_5 : FieldT Try.prog 81 5 7 := fT 0 Try.underlying81
theorem fd81_6 : FieldT Try.prog 81 6 8 := fT 0 Try.underlying81
theorem pl2 : Plain Try.prog 2 := ⟨_, Try.underlying2, rfl⟩
theorem pl22 : Plain Try.prog 22 := ⟨_, Try.underlying22, rfl⟩
theorem pl23 : Plain Try.prog 23 := ⟨_, Try.underlying23, rfl⟩
theorem pl3 : Plain Try.prog 3 := ⟨_, Try.underlying3, rfl⟩
theorem pl32 : Plain Try.prog 32 := ⟨_, Try.underlying32, rfl⟩
theorem pl33 : Plain Try.prog 33 := ⟨_, Try.underlying33, rfl⟩
theorem sl22 : SliceT Try.prog 22 3 1 := ⟨Try.underlying22, by kernel_rfl⟩
theorem sl23 : SliceT Try.prog 23 81 9 := ⟨Try.underlying23, by kernel_rfl⟩
theorem sl32 : SliceT Try.prog 32 33 1 := ⟨Try.underlying32, by kernel_rfl⟩
theorem sl76 : SliceT Try.prog 76 79 2 := ⟨Try.underlying76, by kernel_rfl⟩
theorem sz79 : SizeT Try.prog 79 2 := by unfold SizeT; kernel_rfl
theorem sz81 : SizeT Try.prog 81 9 := by unfold SizeT; kernel_rfl
theorem sz_76 : SliceZ Try.prog 76 79 2 [.int .i64 0, .int .i64 0] := ⟨Try.underlying76, by kernel_rfl⟩
theorem ze79 : ZeroT Try.prog 79 [.int .i64 0, .int .i64 0] := by unfold ZeroT; kernel_rfl
theorem ze81 : ZeroT Try.prog 81 [.int .i64 0, .int .i64 0, .int .i64 0, .int .i64 0, .int .i64 0, .int .i64 0, .int .i64 0, .int .i64 0, .int .i64 0] := by unfold ZeroT; kernel_rfl
end TLoop
open TLoop
theorem target_May_w {t : Tgt} {r : Bool} (w : World) (hm : target_May_m t = some r)  : Calls Try.prog 39 #[.agg #[.int .i64 t.u0, .int .i64 t.u1, .int .i64 t.u2, .int .i64 t.w0, .int .i64 t.w1, .int .i64 t.w2, .int .i64 t.regs]] w (fun e w' => e = .returned (.bool r) ∧ Grow w w') := by
 unfold target_May_m at hm
 have hk := Base.rfl (w := w)
 refine calls_of_WC (n := 42) (args := [.agg #[i_ t.u0, i_ t.u1, i_ t.u2, i_ t.w0, i_ t.w1, i_ t.w2, i_ t.regs]]) Try.func39 Z Z (nl Z) ?_ (Own.startK hk (Own.start w))
 refine sr (WL.effect Z ?_)
 refine (EV.boxAgg (by decide) Z Z (fun b1 => ?_))
 refine wa Z (nt (WC.seq (sr (wm Z (nt ?_)))))
 obtain ⟨o2, ho3, hm4⟩ := bd_some hm; clear hm; obtain ⟨n5, ho6⟩ := lp_some ho3
 refine WC.bloop1 (H2 := [blk b1 t.cells 28, kn noM w.heap.size w w]) (τ := [u_ 1 _]) (fun (x4_1 : Int) => [(4, (true, i_ x4_1))]) (fun x4_1 => []) (fun x4_1 m => iter (target_May_L0 t) m x4_1 = some o2) (fun x4_1 => o2 = .go x4_1) 0 n5 ho6 ⟨Z, Z, trivial⟩ (pk [0, 1]) ?_ ?_
 ·skip
  rintro x4_1 rfl
  refine WQ.then (sr (wf fd28_2 Z (wl pl3 Z (Own.cell 0 Z Z) (wq Z (QV.geq Z Z Z Z) (wm Z (gp Z (fun hG => QV.fieldAddr fd28_2 Z Z) (gp Z (fun hG => QV.load pl3 Z hG (Own.cell 0 Z Z)) (gp Z (fun hG => QV.leq Z hG Z Z) (wq Z (QV.pickAnd Z Z Z (fun h => h)) (wa Z ?_))))))))))
  refine nt (WC.ret ?_)
  obtain rfl := (eq_of_some hm4).symm
  exact WQ.ret1 Z Z fun w hw => kg hw
 rintro x4_1 m7 hI8
 obtain ⟨m9, s10, rfl, hm11, hn12⟩ := iter_step hI8; clear hI8; unfold target_May_L0 at hm11
 refine sr (wq Z (QV.lss Z Z Z Z) (nt (WC.seq ?_)))
 refine wc Z hm11 (fun h13 hm14 => ?_) (fun h13 hm28 => ?_) <;> clear hm11
 ·skip
  refine sk (WQ.then (WC.seq (WC.block (sr (wm Z (wa Z (ns (wm Z (wf fd28_0 Z ?_)))))))))
  obtain ⟨c15, c17, c19, c21, hm22⟩ := cs4 hm14; clear hm14
  refine wq Z (QV.indexArray ar26 Z Z Z Z c15.1 c15.2) (wl pl3 Z (Own.cellSym 0 Z (sel3_get (off := 0) (i := x4_1) c15.1 c15.2 Z Z Z) (addr_sym _ _ _)) (wq Z (QV.lss Z Z Z Z) (wm Z (gn Z (fun hG => QV.move Z Z) (gn Z (fun hG => QV.fieldAddr fd28_0 Z Z) (gn Z (fun hG => QV.indexArray ar26 Z hG Z hG (c17 hG).1 (c17 hG).2) (gn Z (fun hG => QV.load pl3 Z hG (Own.cellSym 0 Z (sel3_get (off := 0) (i := x4_1) (c17 hG).1 (c17 hG).2 Z Z Z) (addr_sym _ _ _))) (gn Z (fun hG => QV.gtr Z hG Z Z) (wq Z (QV.pickOr Z Z Z (fun h => notF h)) ?_)))))))))
  refine wm Z (gn Z (fun hG => QV.move Z Z) (gn Z (fun hG => QV.fieldAddr fd28_1 Z Z) (gn Z (fun hG => QV.indexArray ar26 Z hG Z hG (c19 hG).1 (c19 hG).2) (gn Z (fun hG => QV.load pl3 Z hG (Own.cellSym 0 Z (sel3_get (off := 3) (i := x4_1) (c19 hG).1 (c19 hG).2 Z Z Z) (addr_sym _ _ _))) (gn Z (fun hG => QV.lss Z hG Z Z) (wq Z (QV.pickOr Z Z Z (fun h => notF h)) (wm Z (gn Z (fun hG => QV.move Z Z) (gn Z (fun hG => QV.fieldAddr fd28_1 Z Z) ?_)))))))))
  refine gn Z (fun hG => QV.indexArray ar26 Z hG Z hG (c21 hG).1 (c21 hG).2) (gn Z (fun hG => QV.load pl3 Z hG (Own.cellSym 0 Z (sel3_get (off := 3) (i := x4_1) (c21 hG).1 (c21 hG).2 Z Z Z) (addr_sym _ _ _))) (gn Z (fun hG => QV.gtr Z hG Z Z) (wq Z (QV.pickOr Z Z Z (fun h => notF h)) (nt ?_))))
  refine wc Z hm22 (fun h23 hm24 => ?_) (fun h23 hm25 => ?_) <;> clear hm22
  ·skip
   refine sr (wa Z (nt (WC.ret (kr (tr (tr (kr (tr (tr ?_)))))))))
   obtain rfl := up_ret hm24 hn12
   obtain rfl := (eq_of_some hm4).symm
   exact WQ.ret1 Z Z fun w hw => kg hw
  refine sk (WQ.block (WQ.then (WC.region ?_)))
  obtain ⟨c26, hm27⟩ := cs hm25; clear hm25
  refine wq Z (QV.add Z Z Z Z c26) (wm Z (WL.nil ?_))
  exact WQ.again1 (x4_1 + 1) m9 (up_next hm27 hn12) (Nat.lt_succ_self _) ⟨Z, Z, trivial⟩ (pk [0, 1])
 refine WC.exit (te (te (WQ.block_exit ?_)))
 exact WQ.out1 x4_1 (up_brk hm28 hn12) ⟨Z, Z, trivial⟩ (pk [0, 1])
theorem target_Wait_w {t : Tgt} {op r : Int} (w : World) (hm : target_Wait_m t op = some r)  : Calls Try.prog 69 #[.agg #[.int .i64 t.u0, .int .i64 t.u1, .int .i64 t.u2, .int .i64 t.w0, .int .i64 t.w1, .int .i64 t.w2, .int .i64 t.regs], .int .i64 op] w (fun e w' => e = .returned (.int .i64 r) ∧ Grow w w') := by
 unfold target_Wait_m at hm
 have hk := Base.rfl (w := w)
 refine calls_of_WC (n := 13) (args := [.agg #[i_ t.u0, i_ t.u1, i_ t.u2, i_ t.w0, i_ t.w1, i_ t.w2, i_ t.regs], i_ op]) Try.func69 Z Z (nl Z) ?_ (Own.startK hk (Own.start w))
 refine sr (WL.effect Z ?_)
 refine (EV.boxAgg (by decide) Z Z (fun b1 => ?_))
 refine wa Z (nt (WC.seq (sr (wq Z (QV.loadAgg ag28 Z Z Z (Own.cellsBlk 0 Z)) ?_))))
 obtain ⟨x2, hx3, hm4⟩ := bd_some hm; clear hm
 refine wq Z (QV.call en39 (ec Z eN) (fun w hw => have h := target_May_w w hx3 ; h)) (wq Z (QV.not Z Z) (nt ?_))
 refine wc Z hm4 (fun h5 hm6 => ?_) (fun h5 hm7 => ?_) <;> clear hm4
 ·skip
  refine sr (wa Z (nt (WC.ret (tr ?_))))
  obtain rfl := (eq_of_some hm6).symm
  exact WQ.ret1 Z Z fun w hw => kg hw
 refine sk (WQ.then (sr (wm Z ?_)))
 obtain ⟨x8, hx9, hm10⟩ := bd_some hm7; clear hm7
 refine wq Z (QV.call en89 (ec Z eN) (fun w hw => have h := num_Class_w w hx9 ; h)) (wf fd28_1 Z ?_)
 obtain ⟨c11, hm12⟩ := cs hm10; clear hm10
 refine wq Z (QV.indexArray ar26 Z Z Z Z c11.1 c11.2) (wl pl3 Z (Own.cellSym 0 Z (sel3_get (off := 3) (i := x8) c11.1 c11.2 Z Z Z) (addr_sym _ _ _)) (wa Z (nt (WC.ret ?_))))
 obtain rfl := (eq_of_some hm12).symm
 exact WQ.ret1 Z Z fun w hw => kg hw
theorem R4_May_w {t : Tgt} {r : Bool} (w : World) (hm : R4_May_m t = some r)  : Calls Try.prog 44 #[.agg #[.int .i64 t.u0, .int .i64 t.u1, .int .i64 t.u2, .int .i64 t.w0, .int .i64 t.w1, .int .i64 t.w2, .int .i64 t.regs]] w (fun e w' => e = .returned (.bool r) ∧ Grow w w') := by
 unfold R4_May_m at hm
 have hk := Base.rfl (w := w)
 refine calls_of_WC (n := 42) (args := [.agg #[i_ t.u0, i_ t.u1, i_ t.u2, i_ t.w0, i_ t.w1, i_ t.w2, i_ t.regs]]) Try.func44 Z Z (nl Z) ?_ (Own.startK hk (Own.start w))
 refine sr (WL.effect Z ?_)
 refine (EV.boxAgg (by decide) Z Z (fun b1 => ?_))
 refine wa Z (nt (WC.seq (sr (wa Z (nt ?_)))))
 obtain ⟨o2, ho3, hm4⟩ := bd_some hm; clear hm; obtain ⟨n5, ho6⟩ := lp_some ho3
 refine WC.bloop1 (H2 := [blk b1 t.cells 28, kn noM w.heap.size w w]) (τ := [u_ 1 _]) (fun (k3_1 : Int) => [(3, (true, i_ k3_1))]) (fun k3_1 => []) (fun k3_1 m => iter (R4_May_L0 t) m k3_1 = some o2) (fun k3_1 => o2 = .go k3_1) 0 n5 ho6 ⟨Z, Z, trivial⟩ (pk [0, 1]) ?_ ?_
 ·skip
  rintro k3_1 rfl
  refine WQ.then (sr (wf fd28_2 Z (wl pl3 Z (Own.cell 0 Z Z) (wq Z (QV.gtr Z Z Z Z) (wm Z (gp Z (fun hG => QV.fieldAddr fd28_2 Z Z) (gp Z (fun hG => QV.load pl3 Z hG (Own.cell 0 Z Z)) (gp Z (fun hG => QV.leq Z hG Z Z) (wq Z (QV.pickAnd Z Z Z (fun h => h)) (wa Z ?_))))))))))
  refine nt (WC.ret ?_)
  obtain rfl := (eq_of_some hm4).symm
  exact WQ.ret1 Z Z fun w hw => kg hw
 rintro k3_1 m7 hI8
 obtain ⟨m9, s10, rfl, hm11, hn12⟩ := iter_step hI8; clear hI8; unfold R4_May_L0 at hm11
 refine WC.seq (sr (wm Z (wq Z (QV.lss Z Z Z Z) (nt ?_))))
 refine wc Z hm11 (fun h13 hm14 => ?_) (fun h13 hm28 => ?_) <;> clear hm11
 ·skip
  refine sk (WQ.then (WC.seq (WC.block (sr (wm Z (wf fd28_0 Z ?_))))))
  obtain ⟨c15, c17, c19, c21, hm22⟩ := cs4 hm14; clear hm14
  refine wq Z (QV.indexArray ar26 Z Z Z Z c15.1 c15.2) (wl pl3 Z (Own.cellSym 0 Z (sel3_get (off := 0) (i := k3_1) c15.1 c15.2 Z Z Z) (addr_sym _ _ _)) (wq Z (QV.lss Z Z Z Z) (wm Z (gn Z (fun hG => QV.move Z Z) (gn Z (fun hG => QV.fieldAddr fd28_0 Z Z) (gn Z (fun hG => QV.indexArray ar26 Z hG Z hG (c17 hG).1 (c17 hG).2) (gn Z (fun hG => QV.load pl3 Z hG (Own.cellSym 0 Z (sel3_get (off := 0) (i := k3_1) (c17 hG).1 (c17 hG).2 Z Z Z) (addr_sym _ _ _))) (gn Z (fun hG => QV.gtr Z hG Z Z) (wq Z (QV.pickOr Z Z Z (fun h => notF h)) ?_)))))))))
  refine wm Z (gn Z (fun hG => QV.move Z Z) (gn Z (fun hG => QV.fieldAddr fd28_1 Z Z) (gn Z (fun hG => QV.indexArray ar26 Z hG Z hG (c19 hG).1 (c19 hG).2) (gn Z (fun hG => QV.load pl3 Z hG (Own.cellSym 0 Z (sel3_get (off := 3) (i := k3_1) (c19 hG).1 (c19 hG).2 Z Z Z) (addr_sym _ _ _))) (gn Z (fun hG => QV.lss Z hG Z Z) (wq Z (QV.pickOr Z Z Z (fun h => notF h)) (wm Z (gn Z (fun hG => QV.move Z Z) (gn Z (fun hG => QV.fieldAddr fd28_1 Z Z) ?_)))))))))
  refine gn Z (fun hG => QV.indexArray ar26 Z hG Z hG (c21 hG).1 (c21 hG).2) (gn Z (fun hG => QV.load pl3 Z hG (Own.cellSym 0 Z (sel3_get (off := 3) (i := k3_1) (c21 hG).1 (c21 hG).2 Z Z Z) (addr_sym _ _ _))) (gn Z (fun hG => QV.gtr Z hG Z Z) (wq Z (QV.pickOr Z Z Z (fun h => notF h)) (nt ?_))))
  refine wc Z hm22 (fun h23 hm24 => ?_) (fun h23 hm25 => ?_) <;> clear hm22
  ·skip
   refine sr (wa Z (nt (WC.ret (kr (tr (tr (kr (tr (tr ?_)))))))))
   obtain rfl := up_ret hm24 hn12
   obtain rfl := (eq_of_some hm4).symm
   exact WQ.ret1 Z Z fun w hw => kg hw
  refine sk (WQ.block (WQ.then (WC.region (wm Z ?_))))
  obtain ⟨c26, hm27⟩ := cs hm25; clear hm25
  refine wq Z (QV.add Z Z Z Z c26) (wa Z (WL.nil ?_))
  exact WQ.again1 (k3_1 + 1) m9 (up_next hm27 hn12) (Nat.lt_succ_self _) ⟨Z, Z, trivial⟩ (pk [0, 1])
 refine WC.exit (te (te (WQ.block_exit ?_)))
 exact WQ.out1 k3_1 (up_brk hm28 hn12) ⟨Z, Z, trivial⟩ (pk [0, 1])
theorem R4_Wait_w {t : Tgt} {op r : Int} (w : World) (hm : R4_Wait_m t op = some r)  : Calls Try.prog 47 #[.agg #[.int .i64 t.u0, .int .i64 t.u1, .int .i64 t.u2, .int .i64 t.w0, .int .i64 t.w1, .int .i64 t.w2, .int .i64 t.regs], .int .i64 op] w (fun e w' => e = .returned (.int .i64 r) ∧ Grow w w') := by
 unfold R4_Wait_m at hm
 have hk := Base.rfl (w := w)
 refine calls_of_WC (n := 15) (args := [.agg #[i_ t.u0, i_ t.u1, i_ t.u2, i_ t.w0, i_ t.w1, i_ t.w2, i_ t.regs], i_ op]) Try.func47 Z Z (nl Z) ?_ (Own.startK hk (Own.start w))
 refine sr (WL.effect Z ?_)
 refine (EV.boxAgg (by decide) Z Z (fun b1 => ?_))
 refine wa Z (nt (WC.seq (sr (wq Z (QV.loadAgg ag28 Z Z Z (Own.cellsBlk 0 Z)) ?_))))
 obtain ⟨x2, hx3, hm4⟩ := bd_some hm; clear hm
 refine wq Z (QV.call en44 (ec Z eN) (fun w hw => have h := R4_May_w w hx3 ; h)) (wq Z (QV.not Z Z) (nt ?_))
 refine wc Z hm4 (fun h5 hm6 => ?_) (fun h5 hm7 => ?_) <;> clear hm4
 ·skip
  refine sr (wa Z (nt (WC.ret (tr ?_))))
  obtain rfl := (eq_of_some hm6).symm
  exact WQ.ret1 Z Z fun w hw => kg hw
 refine sk (WQ.then (sr (wm Z ?_)))
 obtain ⟨x8, hx9, hm10⟩ := bd_some hm7; clear hm7
 refine wq Z (QV.call en45 (ec Z eN) (fun w hw => have h := R1_Class_w w hx9 ; h)) (wa Z (ns (wm Z (wf fd28_1 Z ?_))))
 obtain ⟨c11, hm12⟩ := cs hm10; clear hm10
 refine wq Z (QV.indexArray ar26 Z Z Z Z c11.1 c11.2) (wl pl3 Z (Own.cellSym 0 Z (sel3_get (off := 3) (i := x8) c11.1 c11.2 Z Z Z) (addr_sym _ _ _)) (wa Z (nt (WC.ret ?_))))
 obtain rfl := (eq_of_some hm12).symm
 exact WQ.ret1 Z Z fun w hw => kg hw
theorem loop_in_w {n_ from_ below : Int} {r : Bool} (w : World) (hm : loop_in_m n_ from_ below = some r)  : Calls Try.prog 67 #[.int .i64 n_, .int .i64 from_, .int .i64 below] w (fun e w' => e = .returned (.bool r) ∧ Grow w w') := by
 unfold loop_in_m at hm
 have hk := Base.rfl (w := w)
 refine calls_of_WC (n := 15) (args := [i_ n_, i_ from_, i_ below]) Try.func67 Z Z (nl Z) ?_ (Own.startK hk (Own.start w))
 refine sr (wa Z (ns (wm Z (wm Z (wq Z (QV.geq Z Z Z Z) (wm Z (gp Z (fun hG => QV.move Z Z) (gp Z (fun hG => QV.move Z Z) (gp Z (fun hG => QV.lss Z hG Z hG) ?_)))))))))
 refine wq Z (QV.pickAnd Z Z Z (fun h => h)) (wa Z (nt (WC.ret ?_)))
 obtain rfl := (eq_of_some hm).symm
 exact WQ.ret1 Z Z fun w hw => kg hw
theorem loop_Uses_w {s : Stm} {r : List Rf} {K0 : World} (hm : loop_Uses_m s = some r)  (M : Nat → Prop) (w : World) (hk : Base M K0 w) (hw0 : Own M w [] w) : Calls Try.prog 66 #[.agg #[.int .i64 s.op, .int .i64 s.a.st, .int .i64 s.a.bk, .int .i64 s.b.st, .int .i64 s.b.bk, .int .i64 s.ar, .int .i64 s.sp, .int .i64 s.pl, .int .i64 s.n]] w (fun e w' => ∃ X : Value × World, e = .returned (X.1) ∧ Own M w (kn M w.heap.size K0 X.2 :: []) w' ∧ Arr X.2 X.1 2 (r.map Rf.cells)) := by
 unfold loop_Uses_m at hm
 refine calls_of_WC (n := 19) (args := [.agg #[i_ s.op, i_ s.a.st, i_ s.a.bk, i_ s.b.st, i_ s.b.bk, i_ s.ar, i_ s.sp, i_ s.pl, i_ s.n]]) Try.func66 Z Z (nl Z) ?_ (Own.startK hk hw0)
 refine sr (WL.effect Z ?_)
 refine (EV.boxAgg (by decide) Z Z (fun b1 => ?_))
 refine wa Z (nt (WC.seq (WC.block (sr (wf fd81_0 Z (wl pl3 Z (Own.cell 0 Z Z) (wq Z (QV.eql Z Z Z Z) (wa Z (nt ?_)))))))))
 refine wc Z hm (fun h2 hm3 => ?_) (fun h2 hm6 => ?_) <;> clear hm
 ·skip
  refine sr (wf fd81_1 Z (wq Z (QV.loadAgg ag79 Z Z Z (fun w hw => (Own.cellsBlk 0 Z w hw).sub 1 2 Z)) (WL.effect Z ?_)))
  refine (EV.buildSlice (by decide) sz_76 (by decide) (by decide) (ps := [(0, .tmp 8)]) (cells := [i_ s.a.st, i_ s.a.bk]) (ec Z eN) (by kernel_rfl) (fun b4 => ?_))
  refine wa Z (nt (WC.ret (kr (tr ?_))))
  obtain rfl := (eq_of_some hm3).symm
  refine WK.of (fun w hw => hw.blkVec Rf.cells ([s.a] : List Rf) Z Rf.cells_len (nl Z)) ?_
  refine WK.of (C' := Own M w [kn M w.heap.size K0 K0, vec (blkSlice b4 1 1) 79 2 (List.map Rf.cells [s.a]), blk b1 s.cells 81]) (pk [2, 0, 1]) ?_
  refine WK.freeze hk (fun k5 hle5 hr5 => ?_)
  have hA5 := vec_arr hr5
  refine WQ.ret1 Z Z (fun w hw => ?_)
  exact ⟨((blkSlice b4 1 1), k5), Z, hw.pick [0] (by decide), hA5⟩
 refine sr (wf fd81_0 Z (wl pl3 Z (Own.cell 0 Z Z) (wq Z (QV.gtr Z Z Z Z) (wa Z (nt ?_)))))
 refine wc Z hm6 (fun h7 hm8 => ?_) (fun h7 hm11 => ?_) <;> clear hm6
 ·skip
  refine sr (wf fd81_1 Z (wq Z (QV.loadAgg ag79 Z Z Z (fun w hw => (Own.cellsBlk 0 Z w hw).sub 1 2 Z)) (wf fd81_2 Z (wq Z (QV.loadAgg ag79 Z Z Z (fun w hw => (Own.cellsBlk 0 Z w hw).sub 3 2 Z)) (WL.effect Z ?_)))))
  refine (EV.buildSlice (by decide) sz_76 (by decide) (by decide) (ps := [(0, .tmp 15), (1, .tmp 17)]) (cells := [i_ s.a.st, i_ s.a.bk, i_ s.b.st, i_ s.b.bk]) (ec Z (ec Z eN)) (by kernel_rfl) (fun b9 => ?_))
  refine wa Z (nt (WC.ret (kr (tr ?_))))
  obtain rfl := (eq_of_some hm8).symm
  refine WK.of (fun w hw => hw.blkVec Rf.cells ([s.a, s.b] : List Rf) Z Rf.cells_len (nl Z)) ?_
  refine WK.of (C' := Own M w [kn M w.heap.size K0 K0, vec (blkSlice b9 2 2) 79 2 (List.map Rf.cells [s.a, s.b]), blk b1 s.cells 81]) (pk [2, 0, 1]) ?_
  refine WK.freeze hk (fun k10 hle10 hr10 => ?_)
  have hA10 := vec_arr hr10
  refine WQ.ret1 Z Z (fun w hw => ?_)
  exact ⟨((blkSlice b9 2 2), k10), Z, hw.pick [0] (by decide), hA10⟩
 refine sk (WQ.block (WQ.then (sr (wa Z (nt (WC.ret ?_))))))
 obtain rfl := (eq_of_some hm11).symm
 refine WQ.ret1 Z Z (fun w hw => ?_)
 exact ⟨(.slice none 0 0, K0), Z, hw.pick [1] (by decide), Arr.nil⟩
theorem loop_ref_w {v_l_logs v_l_body v_l_outs : Value} {l : Lp} {k_ : Int} {r_ : Rf} {r : Bool} (w : World) (hm : loop_ref_m l k_ r_ = some r) (h_l_logs : Arr w v_l_logs 1 (l.logs.map icell)) (h_l_body : Arr w v_l_body 9 (l.body.map Stm.cells)) (h_l_outs : Arr w v_l_outs 1 (l.outs.map icell)) : Calls Try.prog 105 #[.agg #[v_l_logs, v_l_body, v_l_outs], .int .i64 k_, .agg #[.int .i64 r_.st, .int .i64 r_.bk]] w (fun e w' => e = .returned (.bool r) ∧ Grow w w') := by
 unfold loop_ref_m at hm
 have hk := Base.rfl (w := w)
 refine calls_of_WC (n := 24) (args := [.agg #[v_l_logs, v_l_body, v_l_outs], i_ k_, .agg #[i_ r_.st, i_ r_.bk]]) Try.func105 Z Z (nl Z) ?_ (Own.startK hk (Own.start w))
 refine sr (WL.effect Z ?_)
 refine (EV.boxAgg (by decide) Z Z (fun b1 => ?_))
 refine WL.effect Z ?_
 refine (EV.boxAgg (by decide) Z Z (fun b2 => ?_))
 refine wa Z (ns (wf fd25_1 Z (wl pl23 Z (Own.cell 1 Z Z) (wq Z (QV.lenS Try.underlying23 Z Z h_l_body.lenMap) (wa Z (nt (WC.seq (sr (wf fd79_1 Z (wl pl3 Z (Own.cell 0 Z Z) (wq Z (QV.eql Z Z Z Z) ?_)))))))))))
 refine nt ?_
 refine wc Z hm (fun h3 hm4 => ?_) (fun h3 hm11 => ?_) <;> clear hm
 ·skip
  refine WC.region (wm Z (wa Z (ns (wf fd79_1 Z (wl pl3 Z (Own.cell 0 Z Z) ?_)))))
  obtain ⟨x5, hx6, hm7⟩ := bd_some hm4; clear hm4
  refine wq Z (QV.call en67 (ec Z (ec Z (ec Z eN))) (fun w hw => have h := loop_in_w w hx6 ; h)) (wm Z (gp Z (fun hG => QV.fieldAddr fd79_0 Z Z) (gp Z (fun hG => QV.load pl3 Z hG (Own.cell 0 Z Z)) (gp Z (fun hG => QV.move Z Z) ?_))))
  obtain ⟨x8, hx9, hm10⟩ := bdG_some hm7; clear hm7
  refine gp Z (fun hG => QV.call en67 (EvAll.cons Z hG (ec Z (EvAll.cons Z hG eN))) (fun w hw => have h := loop_in_w w (hx9 hG) ; h)) (wq Z (QV.pickAnd Z Z Z (fun h => h)) (wa Z (nt (WC.ret ?_))))
  obtain rfl := (eq_of_some hm10).symm
  exact WQ.ret1 Z Z fun w hw => kg hw
 refine sk (WQ.then (sr (wf fd79_1 Z (wl pl3 Z (Own.cell 0 Z Z) ?_))))
 obtain ⟨x12, hx13, hm14⟩ := bd_some hm11; clear hm11
 refine wq Z (QV.call en67 (ec Z (ec Z (ec Z eN))) (fun w hw => have h := loop_in_w w hx13 ; h)) (wm Z (gp Z (fun hG => QV.fieldAddr fd79_0 Z Z) (gp Z (fun hG => QV.load pl3 Z hG (Own.cell 0 Z Z)) (gp Z (fun hG => QV.move Z Z) ?_))))
 obtain ⟨x15, hx16, hm17⟩ := bdG_some hm14; clear hm14
 refine gp Z (fun hG => QV.call en67 (EvAll.cons Z hG (ec Z (EvAll.cons Z hG eN))) (fun w hw => have h := loop_in_w w (hx16 hG) ; h)) (wq Z (QV.pickAnd Z Z Z (fun h => h)) (wa Z (nt (WC.ret ?_))))
 obtain rfl := (eq_of_some hm17).symm
 exact WQ.ret1 Z Z fun w hw => kg hw
theorem loop_stmt_w {v_l_logs v_l_body v_l_outs : Value} {l : Lp} {k_ : Int} {r : Bool} (w : World) (hm : loop_stmt_m l k_ = some r) (h_l_logs : Arr w v_l_logs 1 (l.logs.map icell)) (h_l_body : Arr w v_l_body 9 (l.body.map Stm.cells)) (h_l_outs : Arr w v_l_outs 1 (l.outs.map icell)) : Calls Try.prog 68 #[.agg #[v_l_logs, v_l_body, v_l_outs], .int .i64 k_] w (fun e w' => e = .returned (.bool r) ∧ Grow w w') := by
 unfold loop_stmt_m at hm
 have hk := Base.rfl (w := w)
 refine calls_of_WC (n := 132) (args := [.agg #[v_l_logs, v_l_body, v_l_outs], i_ k_]) Try.func68 Z Z (nl Z) ?_ (Own.startK hk (Own.start w))
 refine sr (WL.effect Z ?_)
 refine (EV.boxAgg (by decide) Z Z (fun b1 => ?_))
 refine wa Z (ns (wf fd25_1 Z (wl pl23 Z (Own.cell 0 Z Z) (wm Z ?_))))
 obtain ⟨c2, hm3⟩ := cs hm; clear hm
 obtain ⟨p4, hp5⟩ := h_l_body.lenMap.ix (sz := 9) ln_len c2
 refine wq Z (QV.indexSlice sl23 Z Z Z Z hp5) (wq Z (QV.loadAgg ag81 Z Z Z (fun w hw => ((Own.karr 1 Z hk h_l_body) w hw).ele hp5 c2)) (WL.effect Z ?_))
 refine (EV.alloc (by decide) ze81 (fun b6 => ?_))
 refine WL.effect Z ?_
 refine (EV.store 0 Z Z Z Z Z Z (vs := (Stm.cells (ele l.body k_))) (show Value.cells _ = List.toArray _ from Z) sz81 (nl Z) (oc Z (oc Z (oc Z (oc Z (oc Z (oc Z (oc Z (oc Z (oc Z one_nil))))))))) ?_)
 refine ns (wq Z (QV.build (ps := []) (cells := [i_ 0, i_ 0]) eN (by kernel_rfl)) (WL.effect Z ?_))
 refine (EV.alloc (by decide) ze79 (fun b7 => ?_))
 refine WL.effect Z ?_
 refine (EV.store 0 Z Z Z Z Z Z (vs := [i_ 0, i_ 0]) (show Value.cells _ = List.toArray _ from Z) sz79 (nl Z) (oc Z (oc Z one_nil)) ?_)
 refine ns (wf fd81_3 Z (wl pl3 Z (Own.cell 1 Z Z) (wf fd25_0 Z (wl pl22 Z (Own.cell 2 Z Z) (wq Z (QV.lenS Try.underlying22 Z Z h_l_logs.lenMap) ?_)))))
 obtain ⟨x8, hx9, hm10⟩ := bd_some hm3; clear hm3
 refine wq Z (QV.call en67 (ec Z (ec Z (ec Z eN))) (fun w hw => have h := loop_in_w w hx9 ; h)) (wm Z (gp Z (fun hG => QV.fieldAddr fd81_4 Z Z) (gp Z (fun hG => QV.load pl3 Z hG (Own.cell 1 Z Z)) ?_)))
 obtain ⟨x11, hx12, hm13⟩ := bdG_some hm10; clear hm10
 refine gp Z (fun hG => QV.call en67 (EvAll.cons Z hG (ec Z (ec Z eN))) (fun w hw => have h := loop_in_w w (hx12 hG) ; h)) (wq Z (QV.pickAnd Z Z Z (fun h => h)) (wm Z (gp Z (fun hG => QV.fieldAddr fd81_5 Z Z) (gp Z (fun hG => QV.load pl3 Z hG (Own.cell 1 Z Z)) ?_))))
 obtain ⟨x14, hx15, hm16⟩ := bdG_some hm13; clear hm13
 refine gp Z (fun hG => QV.call en67 (EvAll.cons Z hG (ec Z (ec Z eN))) (fun w hw => have h := loop_in_w w (hx15 hG) ; h)) (wq Z (QV.pickAnd Z Z Z (fun h => h)) (wa Z (ns (wf fd81_3 Z (wl pl3 Z (Own.cell 1 Z Z) (wq Z (QV.eql Z Z Z Z) (wm Z (gp Z (fun hG => QV.fieldAddr fd81_4 Z Z) (gp Z (fun hG => QV.load pl3 Z hG (Own.cell 1 Z Z)) ?_)))))))))
 refine gp Z (fun hG => QV.eql Z hG Z Z) (wq Z (QV.pickAnd Z Z Z (fun h => h)) (wm Z (gp Z (fun hG => QV.fieldAddr fd81_5 Z Z) (gp Z (fun hG => QV.load pl3 Z hG (Own.cell 1 Z Z)) (gp Z (fun hG => QV.eql Z hG Z Z) (wq Z (QV.pickAnd Z Z Z (fun h => h)) (wa Z (nt (WC.seq (sr (wq Z (QV.loadAgg ag81 Z Z Z (Own.cellsBlk 1 Z)) ?_)))))))))))
 refine WL.effect Z ?_
 obtain ⟨x17, hx18, hm19⟩ := bd_some hm16; clear hm16
 refine EV.of (C' := Own noM w [kn noM w.heap.size w w, blk b7 [i_ 0, i_ 0] 79, blk b6 (Stm.cells (ele l.body k_)) 81, blk b1 [v_l_logs, v_l_body, v_l_outs] 25]) (pk [3, 0, 1, 2]) ?_
 refine (EV.callR (X := Value × World) (R := []) (fun X => X.1) (fun X => []) (fun X => X.2) (fun X => Arr X.2 X.1 2 (x17.map Rf.cells)) hk (fun _ h => by cases h; decide) en66 (ec Z eN) (fun M w h1 h2 => have h := loop_Uses_w hx18  M w h1 h2; h) (fun X20 hF20 hle20 => ?_))
 refine wq Z (QV.lenS Try.underlying76 Z Z hF20.lenMap) (wm Z (nt ?_))
 obtain ⟨o21, ho22, hm23⟩ := bd_some hm19; clear hm19; obtain ⟨n24, ho25⟩ := lp_some ho22
 refine WC.bloop1 (H2 := [kn noM w.heap.size w X20.2, blk b7 [i_ 0, i_ 0] 79, blk b6 (Stm.cells (ele l.body k_)) 81, blk b1 [v_l_logs, v_l_body, v_l_outs] 25]) (τ := [u_ 1 _, u_ 2 _, u_ 5 _, u_ 6 _, u_ 7 _, u_ 8 _, u_ 47 _, u_ 48 _]) (fun (x49_1 : Int) => [(49, (true, i_ x49_1))]) (fun x49_1 => []) (fun x49_1 m => iter (loop_stmt_L0 l k_ x17) m x49_1 = some o21) (fun x49_1 => o21 = .go x49_1) 0 n24 ho25 ⟨Z, Z, Z, Z, Z, Z, Z, Z, Z, trivial⟩ (pk [0, 1, 2, 3]) ?_ ?_
 ·skip
  rintro x49_1 rfl
  refine WQ.then (WC.seq (WC.block (sr (wf fd81_0 Z (wl pl3 Z (Own.cell 2 Z Z) (wq Z (QV.eql Z Z Z Z) (wa Z (nt ?_))))))))
  refine wc Z hm23 (fun h26 hm27 => ?_) (fun h26 hm28 => ?_) <;> clear hm23
  ·skip
   refine sr (wm Z (wm Z (gp Z (fun hG => QV.fieldAddr fd81_1 Z Z) (gp Z (fun hG => QV.loadAgg ag79 Z Z hG (fun w hw => (Own.cellsBlk 2 Z w hw).sub 1 2 Z)) (gp Z (fun hG => QV.loadAgg ag79 Z Z Z (Own.cellsBlk 1 Z)) (gp Z (fun hG => QV.eqlF eq79 (ns := [((ele l.body k_).a).st, ((ele l.body k_).a).bk]) (ms := [0, 0]) Z hG Z hG Z Z) (wq Z (QV.pickAnd Z Z Z (fun h => h)) (wm Z (gp Z (fun hG => QV.fieldAddr fd81_2 Z Z) ?_)))))))))
   refine gp Z (fun hG => QV.loadAgg ag79 Z Z hG (fun w hw => (Own.cellsBlk 2 Z w hw).sub 3 2 Z)) (gp Z (fun hG => QV.loadAgg ag79 Z Z Z (Own.cellsBlk 1 Z)) (gp Z (fun hG => QV.eqlF eq79 (ns := [((ele l.body k_).b).st, ((ele l.body k_).b).bk]) (ms := [0, 0]) Z hG Z hG Z Z) (wq Z (QV.pickAnd Z Z Z (fun h => h)) (wa Z (nt (WC.ret (kr (tr ?_))))))))
   obtain rfl := (eq_of_some hm27).symm
   exact WQ.ret1 Z Z fun w hw => kg hw
  refine sr (wf fd81_6 Z (wl pl2 Z (Own.cell 2 Z Z) (wq Z (QV.neq Z Z Z Z) (wa Z (nt ?_)))))
  refine wc Z hm28 (fun h29 hm30 => ?_) (fun h29 hm31 => ?_) <;> clear hm28
  ·skip
   refine sr (wa Z (nt (WC.ret (kr (tr ?_)))))
   obtain rfl := (eq_of_some hm30).symm
   exact WQ.ret1 Z Z fun w hw => kg hw
  refine sr (wf fd81_0 Z (wl pl3 Z (Own.cell 2 Z Z) (wq Z (QV.eql Z Z Z Z) (wa Z (nt ?_)))))
  refine wc Z hm31 (fun h32 hm33 => ?_) (fun h32 hm34 => ?_) <;> clear hm31
  ·skip
   refine sr (wm Z (wm Z (gp Z (fun hG => QV.fieldAddr fd81_1 Z Z) (gp Z (fun hG => QV.loadAgg ag79 Z Z hG (fun w hw => (Own.cellsBlk 2 Z w hw).sub 1 2 Z)) (gp Z (fun hG => QV.loadAgg ag79 Z Z Z (Own.cellsBlk 1 Z)) (gp Z (fun hG => QV.eqlF eq79 (ns := [((ele l.body k_).a).st, ((ele l.body k_).a).bk]) (ms := [0, 0]) Z hG Z hG Z Z) (wq Z (QV.pickAnd Z Z Z (fun h => h)) (wm Z (gp Z (fun hG => QV.fieldAddr fd81_2 Z Z) ?_)))))))))
   refine gp Z (fun hG => QV.loadAgg ag79 Z Z hG (fun w hw => (Own.cellsBlk 2 Z w hw).sub 3 2 Z)) (gp Z (fun hG => QV.loadAgg ag79 Z Z Z (Own.cellsBlk 1 Z)) (gp Z (fun hG => QV.eqlF eq79 (ns := [((ele l.body k_).b).st, ((ele l.body k_).b).bk]) (ms := [0, 0]) Z hG Z hG Z Z) (wq Z (QV.pickAnd Z Z Z (fun h => h)) (wa Z (nt (WC.ret (kr (tr ?_))))))))
   obtain rfl := (eq_of_some hm33).symm
   exact WQ.ret1 Z Z fun w hw => kg hw
  refine sr (wf fd81_0 Z (wl pl3 Z (Own.cell 2 Z Z) (wq Z (QV.eql Z Z Z Z) (wa Z (nt ?_)))))
  refine wc Z hm34 (fun h35 hm36 => ?_) (fun h35 hm37 => ?_) <;> clear hm34
  ·skip
   refine sr (wm Z (wm Z (gp Z (fun hG => QV.fieldAddr fd81_1 Z Z) (gp Z (fun hG => QV.loadAgg ag79 Z Z hG (fun w hw => (Own.cellsBlk 2 Z w hw).sub 1 2 Z)) (gp Z (fun hG => QV.loadAgg ag79 Z Z Z (Own.cellsBlk 1 Z)) (gp Z (fun hG => QV.eqlF eq79 (ns := [((ele l.body k_).a).st, ((ele l.body k_).a).bk]) (ms := [0, 0]) Z hG Z hG Z Z) (wq Z (QV.pickAnd Z Z Z (fun h => h)) (wm Z (gp Z (fun hG => QV.fieldAddr fd81_2 Z Z) ?_)))))))))
   refine gp Z (fun hG => QV.loadAgg ag79 Z Z hG (fun w hw => (Own.cellsBlk 2 Z w hw).sub 3 2 Z)) (gp Z (fun hG => QV.loadAgg ag79 Z Z Z (Own.cellsBlk 1 Z)) (gp Z (fun hG => QV.eqlF eq79 (ns := [((ele l.body k_).b).st, ((ele l.body k_).b).bk]) (ms := [0, 0]) Z hG Z hG Z Z) (wq Z (QV.pickAnd Z Z Z (fun h => h)) (wa Z (nt (WC.ret (kr (tr ?_))))))))
   obtain rfl := (eq_of_some hm36).symm
   exact WQ.ret1 Z Z fun w hw => kg hw
  refine sr (wf fd81_0 Z (wl pl3 Z (Own.cell 2 Z Z) (wq Z (QV.eql Z Z Z Z) (wa Z (nt ?_)))))
  refine wc Z hm37 (fun h38 hm39 => ?_) (fun h38 hm40 => ?_) <;> clear hm37
  ·skip
   refine sr (wm Z (wm Z (gp Z (fun hG => QV.fieldAddr fd81_2 Z Z) (gp Z (fun hG => QV.loadAgg ag79 Z Z hG (fun w hw => (Own.cellsBlk 2 Z w hw).sub 3 2 Z)) (gp Z (fun hG => QV.loadAgg ag79 Z Z Z (Own.cellsBlk 1 Z)) (gp Z (fun hG => QV.eqlF eq79 (ns := [((ele l.body k_).b).st, ((ele l.body k_).b).bk]) (ms := [0, 0]) Z hG Z hG Z Z) (wq Z (QV.pickAnd Z Z Z (fun h => h)) (wa Z (nt (WC.ret (kr (tr ?_))))))))))))
   obtain rfl := (eq_of_some hm39).symm
   exact WQ.ret1 Z Z fun w hw => kg hw
  refine sk (WQ.block (WQ.then (sr (wm Z (wm Z (gp Z (fun hG => QV.fieldAddr fd81_0 Z Z) (gp Z (fun hG => QV.load pl3 Z hG (Own.cell 2 Z Z)) (gp Z (fun hG => QV.subW Z hG Z Z) ?_))))))))
  obtain ⟨x41, hx42, hm43⟩ := bdG_some hm40; clear hm40
  refine gp Z (fun hG => QV.call en67 (EvAll.cons Z hG (ec Z (ec Z eN))) (fun w hw => have h := loop_in_w w (hx42 hG) ; h)) (wq Z (QV.pickAnd Z Z Z (fun h => h)) (wa Z (nt (WC.ret ?_))))
  obtain rfl := (eq_of_some hm43).symm
  exact WQ.ret1 Z Z fun w hw => kg hw
 rintro x49_1 m44 hI45
 obtain ⟨m46, s47, rfl, hm48, hn49⟩ := iter_step hI45; clear hI45; unfold loop_stmt_L0 at hm48
 refine sr (wq Z (QV.lss Z Z Z Z) (nt (WC.seq ?_)))
 refine wc Z hm48 (fun h50 hm51 => ?_) (fun h50 hm65 => ?_) <;> clear hm48
 ·skip
  refine sk (WQ.then (WC.seq (WC.block (sr ?_))))
  obtain ⟨c52, hm53⟩ := cs hm51; clear hm51
  obtain ⟨p54, hp55⟩ := hF20.lenMap.ix (sz := 2) ln_len c52
  refine wq Z (QV.indexSlice sl76 Z Z Z Z hp55) (wq Z (QV.loadAgg ag79 Z Z Z (fun w hw => ((Own.karr 0 Z hk hF20) w hw).ele hp55 c52)) (WL.effect Z ?_))
  refine (EV.alloc (by decide) ze79 (fun b56 => ?_))
  refine WL.effect Z ?_
  refine (EV.store 0 Z Z Z Z Z Z (vs := [i_ ((ele x17 x49_1).st), i_ ((ele x17 x49_1).bk)]) (show Value.cells _ = List.toArray _ from Z) sz79 (nl Z) (oc Z (oc Z one_nil)) ?_)
  refine ns (wq Z (QV.loadAgg ag25 Z Z Z (Own.cellsBlk 4 Z)) (wm Z (wq Z (QV.loadAgg ag79 Z Z Z (Own.cellsBlk 0 Z)) ?_)))
  obtain ⟨x57, hx58, hm59⟩ := bd_some hm53; clear hm53
  refine wq Z (QV.call en105 (ec Z (ec Z (ec Z eN))) (fun w hw => have h := loop_ref_w w hx58 ((Own.karr 1 Z hk (h_l_logs.le hle20)) w hw) ((Own.karr 1 Z hk (h_l_body.le hle20)) w hw) ((Own.karr 1 Z hk (h_l_outs.le hle20)) w hw); h)) (wq Z (QV.not Z Z) (nt ?_))
  refine wc Z hm59 (fun h60 hm61 => ?_) (fun h60 hm62 => ?_) <;> clear hm59
  ·skip
   refine sr (wa Z (nt (WC.ret (kr (tr (tr (kr (tr (tr ?_)))))))))
   obtain rfl := up_ret hm61 hn49
   obtain rfl := (eq_of_some hm23).symm
   exact WQ.ret1 Z Z fun w hw => kg hw
  refine sk (WQ.block (WQ.then (WC.region ?_)))
  obtain ⟨c63, hm64⟩ := cs hm62; clear hm62
  refine wq Z (QV.add Z Z Z Z c63) (wm Z (WL.nil ?_))
  exact WQ.again1 (x49_1 + 1) m46 (up_next hm64 hn49) (Nat.lt_succ_self _) ⟨Z, Z, Z, Z, Z, Z, Z, Z, Z, trivial⟩ (pk [1, 2, 3, 4])
 refine WC.exit (te (te (WQ.block_exit ?_)))
 exact WQ.out1 x49_1 (up_brk hm65 hn49) ⟨Z, Z, Z, Z, Z, Z, Z, Z, Z, trivial⟩ (pk [0, 1, 2, 3])
theorem loop_May_w {v_l_logs v_l_body v_l_outs : Value} {l : Lp} {r : Bool} (w : World) (hm : loop_May_m l = some r) (h_l_logs : Arr w v_l_logs 1 (l.logs.map icell)) (h_l_body : Arr w v_l_body 9 (l.body.map Stm.cells)) (h_l_outs : Arr w v_l_outs 1 (l.outs.map icell)) : Calls Try.prog 38 #[.agg #[v_l_logs, v_l_body, v_l_outs]] w (fun e w' => e = .returned (.bool r) ∧ Grow w w') := by
 unfold loop_May_m at hm
 have hk := Base.rfl (w := w)
 refine calls_of_WC (n := 64) (args := [.agg #[v_l_logs, v_l_body, v_l_outs]]) Try.func38 Z Z (nl Z) ?_ (Own.startK hk (Own.start w))
 refine sr (WL.effect Z ?_)
 refine (EV.boxAgg (by decide) Z Z (fun b1 => ?_))
 refine wa Z (nt (WC.seq (sr (wf fd25_0 Z (wl pl22 Z (Own.cell 0 Z Z) (wq Z (QV.lenS Try.underlying22 Z Z h_l_logs.lenMap) (wm Z (nt ?_))))))))
 obtain ⟨o2, ho3, hm4⟩ := bd_some hm; clear hm; obtain ⟨n5, ho6⟩ := lp_some ho3
 refine WC.bloop1 (H2 := [blk b1 [v_l_logs, v_l_body, v_l_outs] 25, kn noM w.heap.size w w]) (τ := [u_ 1 _, u_ 10 _, u_ 11 _]) (fun (x12_1 : Int) => [(12, (true, i_ x12_1))]) (fun x12_1 => []) (fun x12_1 m => iter (loop_May_L0 l) m x12_1 = some o2) (fun x12_1 => o2 = .go x12_1) 0 n5 ho6 ⟨Z, Z, Z, Z, trivial⟩ (pk [0, 1]) ?_ ?_
 ·skip
  rintro x12_1 rfl
  refine WQ.then (sr (wa Z (nt (WC.seq (sr (wf fd25_2 Z (wl pl22 Z (Own.cell 0 Z Z) (wq Z (QV.lenS Try.underlying22 Z Z h_l_outs.lenMap) (wm Z (nt ?_))))))))))
  obtain ⟨o7, ho8, hm9⟩ := bd_some hm4; clear hm4; obtain ⟨n10, ho11⟩ := lp_some ho8
  refine WC.bloop2 (H2 := [blk b1 [v_l_logs, v_l_body, v_l_outs] 25, kn noM w.heap.size w w]) (τ := [u_ 1 _, u_ 21 _, u_ 22 _]) (fun (last5_2 : Int) (x23_2 : Int) => [(5, (true, i_ last5_2)), (23, (true, i_ x23_2))]) (fun last5_2 x23_2 => []) (fun last5_2 x23_2 m => iter (loop_May_L2 l) m (last5_2, x23_2) = some o7) (fun last5_2 x23_2 => o7 = .go (last5_2, x23_2)) (-1) 0 n10 ho11 ⟨Z, Z, Z, Z, Z, trivial⟩ (pk [0, 1]) ?_ ?_
  ·skip
   rintro last5_2 x23_2 rfl
   refine WQ.then (WC.seq (sr (wf fd25_1 Z (wl pl23 Z (Own.cell 0 Z Z) (wq Z (QV.lenS Try.underlying23 Z Z h_l_body.lenMap) (wm Z (nt ?_)))))))
   obtain ⟨o12, ho13, hm14⟩ := bd_some hm9; clear hm9; obtain ⟨n15, ho16⟩ := lp_some ho13
   refine WC.bloop1 (H2 := [blk b1 [v_l_logs, v_l_body, v_l_outs] 25, kn noM w.heap.size w w]) (τ := [u_ 1 _, u_ 39 _]) (fun (x40_3 : Int) => [(40, (true, i_ x40_3))]) (fun x40_3 => []) (fun x40_3 m => iter (loop_May_L4 l) m x40_3 = some o12) (fun x40_3 => o12 = .go x40_3) 0 n15 ho16 ⟨Z, Z, Z, trivial⟩ (pk [0, 1]) ?_ ?_
   ·skip
    rintro x40_3 rfl
    refine WQ.then (sr (wf fd25_0 Z (wl pl22 Z (Own.cell 0 Z Z) (wq Z (QV.lenS Try.underlying22 Z Z h_l_logs.lenMap) (wq Z (QV.leq Z Z Z Z) (wm Z (gp Z (fun hG => QV.fieldAddr fd25_1 Z Z) (gp Z (fun hG => QV.load pl23 Z hG (Own.cell 0 Z Z)) (gp Z (fun hG => QV.lenS Try.underlying23 Z hG h_l_body.lenMap) (gp Z (fun hG => QV.gtr Z hG Z Z) ?_))))))))))
    refine wq Z (QV.pickAnd Z Z Z (fun h => h)) (wa Z (nt (WC.ret ?_)))
    obtain rfl := (eq_of_some hm14).symm
    exact WQ.ret1 Z Z fun w hw => kg hw
   rintro x40_3 m17 hI18
   obtain ⟨m19, s20, rfl, hm21, hn22⟩ := iter_step hI18; clear hI18; unfold loop_May_L4 at hm21
   refine sr (wq Z (QV.lss Z Z Z Z) (nt (WC.seq ?_)))
   refine wc Z hm21 (fun h23 hm24 => ?_) (fun h23 hm33 => ?_) <;> clear hm21
   ·skip
    refine sk (WQ.then (WC.seq (WC.block (sr (wm Z (wa Z (ns (wf fd25_1 Z (wl pl23 Z (Own.cell 0 Z Z) (wq Z (QV.lenS Try.underlying23 Z Z h_l_body.lenMap) (wq Z (QV.gtr Z Z Z Z) (wm Z (gn Z (fun hG => QV.loadAgg ag25 Z Z Z (Own.cellsBlk 0 Z)) ?_)))))))))))))
    refine gn Z (fun hG => QV.move Z Z) ?_
    obtain ⟨x25, hx26, hm27⟩ := bdG_some hm24; clear hm24
    refine gn Z (fun hG => QV.call en68 (EvAll.cons Z hG (EvAll.cons Z hG eN)) (fun w hw => have h := loop_stmt_w w (hx26 hG) ((Own.karr 1 Z hk h_l_logs) w hw) ((Own.karr 1 Z hk h_l_body) w hw) ((Own.karr 1 Z hk h_l_outs) w hw); h)) (gn Z (fun hG => QV.not Z hG) (wq Z (QV.pickOr Z Z Z (fun h => notF h)) (nt ?_)))
    refine wc Z hm27 (fun h28 hm29 => ?_) (fun h28 hm30 => ?_) <;> clear hm27
    ·skip
     refine sr (wa Z (nt (WC.ret (kr (tr (tr (kr (tr (tr ?_)))))))))
     obtain rfl := up_ret hm29 hn22
     obtain rfl := (eq_of_some hm14).symm
     exact WQ.ret1 Z Z fun w hw => kg hw
    refine sk (WQ.block (WQ.then (WC.region ?_)))
    obtain ⟨c31, hm32⟩ := cs hm30; clear hm30
    refine wq Z (QV.add Z Z Z Z c31) (wm Z (WL.nil ?_))
    exact WQ.again1 (x40_3 + 1) m19 (up_next hm32 hn22) (Nat.lt_succ_self _) ⟨Z, Z, Z, trivial⟩ (pk [0, 1])
   refine WC.exit (te (te (WQ.block_exit ?_)))
   exact WQ.out1 x40_3 (up_brk hm33 hn22) ⟨Z, Z, Z, trivial⟩ (pk [0, 1])
  rintro last5_2 x23_2 m34 hI35
  obtain ⟨m36, s37, rfl, hm38, hn39⟩ := iter_step hI35; clear hI35; unfold loop_May_L2 at hm38; simp only at hm38
  refine sr (wq Z (QV.lss Z Z Z Z) (nt (WC.seq ?_)))
  refine wc Z hm38 (fun h40 hm41 => ?_) (fun h40 hm56 => ?_) <;> clear hm38
  ·skip
   refine sk (WQ.then (WC.seq (WC.block (sr ?_))))
   obtain ⟨c42, hm43⟩ := cs hm41; clear hm41
   obtain ⟨p44, hp45⟩ := h_l_outs.lenMap.ix (sz := 1) ln_len c42
   refine wq Z (QV.indexSlice sl22 Z Z Z Z hp45) (wl pl3 Z (fun w hw => CellsAt.one 0 (((Own.karr 1 Z hk h_l_outs) w hw).ele hp45 c42) Z) (wa Z (nt (WC.seq (sr (wm Z (wm Z ?_)))))))
   obtain ⟨c46, hm47⟩ := cs hm43; clear hm43
   refine wq Z (QV.add Z Z Z Z c46) (wf fd25_1 Z (wl pl23 Z (Own.cell 0 Z Z) (wq Z (QV.lenS Try.underlying23 Z Z h_l_body.lenMap) ?_)))
   obtain ⟨x48, hx49, hm50⟩ := bd_some hm47; clear hm47
   refine wq Z (QV.call en67 (ec Z (ec Z (ec Z eN))) (fun w hw => have h := loop_in_w w hx49 ; h)) (wq Z (QV.not Z Z) (nt ?_))
   refine wc Z hm50 (fun h51 hm52 => ?_) (fun h51 hm53 => ?_) <;> clear hm50
   ·skip
    refine sr (wa Z (nt (WC.ret (tr (kr (tr (tr (kr (tr (tr ?_))))))))))
    obtain rfl := up_ret hm52 hn39
    obtain rfl := (eq_of_some hm9).symm
    exact WQ.ret1 Z Z fun w hw => kg hw
   refine sk (WQ.then (WC.region (wm Z (wa Z (WL.nil (WQ.block (WQ.then (WC.region ?_))))))))
   obtain ⟨c54, hm55⟩ := cs hm53; clear hm53
   refine wq Z (QV.add Z Z Z Z c54) (wm Z (WL.nil ?_))
   exact WQ.again2 (ele l.outs x23_2) (x23_2 + 1) m36 (up_next hm55 hn39) (Nat.lt_succ_self _) ⟨Z, Z, Z, Z, Z, trivial⟩ (pk [0, 1])
  refine WC.exit (te (te (WQ.block_exit ?_)))
  exact WQ.out2 last5_2 x23_2 (up_brk hm56 hn39) ⟨Z, Z, Z, Z, Z, trivial⟩ (pk [0, 1])
 rintro x12_1 m57 hI58
 obtain ⟨m59, s60, rfl, hm61, hn62⟩ := iter_step hI58; clear hI58; unfold loop_May_L0 at hm61
 refine sr (wq Z (QV.lss Z Z Z Z) (nt (WC.seq ?_)))
 refine wc Z hm61 (fun h63 hm64 => ?_) (fun h63 hm77 => ?_) <;> clear hm61
 ·skip
  refine sk (WQ.then (WC.seq (WC.block (sr ?_))))
  obtain ⟨c65, hm66⟩ := cs hm64; clear hm64
  obtain ⟨p67, hp68⟩ := h_l_logs.lenMap.ix (sz := 1) ln_len c65
  refine wq Z (QV.indexSlice sl22 Z Z Z Z hp68) (wl pl3 Z (fun w hw => CellsAt.one 0 (((Own.karr 1 Z hk h_l_logs) w hw).ele hp68 c65) Z) (wa Z (ns (wm Z ?_))))
  obtain ⟨x69, hx70, hm71⟩ := bd_some hm66; clear hm66
  refine wq Z (QV.call en67 (ec Z (ec Z (ec Z eN))) (fun w hw => have h := loop_in_w w hx70 ; h)) (wq Z (QV.not Z Z) (nt ?_))
  refine wc Z hm71 (fun h72 hm73 => ?_) (fun h72 hm74 => ?_) <;> clear hm71
  ·skip
   refine sr (wa Z (nt (WC.ret (kr (tr (tr (kr (tr (tr ?_)))))))))
   obtain rfl := up_ret hm73 hn62
   obtain rfl := (eq_of_some hm4).symm
   exact WQ.ret1 Z Z fun w hw => kg hw
  refine sk (WQ.block (WQ.then (WC.region ?_)))
  obtain ⟨c75, hm76⟩ := cs hm74; clear hm74
  refine wq Z (QV.add Z Z Z Z c75) (wm Z (WL.nil ?_))
  exact WQ.again1 (x12_1 + 1) m59 (up_next hm76 hn62) (Nat.lt_succ_self _) ⟨Z, Z, Z, Z, trivial⟩ (pk [0, 1])
 refine WC.exit (te (te (WQ.block_exit ?_)))
 exact WQ.out1 x12_1 (up_brk hm77 hn62) ⟨Z, Z, Z, Z, trivial⟩ (pk [0, 1])
theorem R2_Within_w {n_ least most : Int} {r : Bool} (w : World) (hm : R2_Within_m n_ least most = some r)  : Calls Try.prog 76 #[.int .i64 n_, .int .i64 least, .int .i64 most] w (fun e w' => e = .returned (.bool r) ∧ Grow w w') := by
 unfold R2_Within_m at hm
 have hk := Base.rfl (w := w)
 refine calls_of_WC (n := 15) (args := [i_ n_, i_ least, i_ most]) Try.func76 Z Z (nl Z) ?_ (Own.startK hk (Own.start w))
 refine sr (wa Z (ns (wm Z (wm Z (wq Z (QV.geq Z Z Z Z) (wm Z (gp Z (fun hG => QV.move Z Z) (gp Z (fun hG => QV.move Z Z) (gp Z (fun hG => QV.leq Z hG Z hG) ?_)))))))))
 refine wq Z (QV.pickAnd Z Z Z (fun h => h)) (wa Z (nt (WC.ret ?_)))
 obtain rfl := (eq_of_some hm).symm
 exact WQ.ret1 Z Z fun w hw => kg hw
theorem R2_Uses_w {s : Stm} {r : List Rf} {K0 : World} (hm : R2_Uses_m s = some r)  (M : Nat → Prop) (w : World) (hk : Base M K0 w) (hw0 : Own M w [] w) : Calls Try.prog 30 #[.agg #[.int .i64 s.op, .int .i64 s.a.st, .int .i64 s.a.bk, .int .i64 s.b.st, .int .i64 s.b.bk, .int .i64 s.ar, .int .i64 s.sp, .int .i64 s.pl, .int .i64 s.n]] w (fun e w' => ∃ X : Value × World, e = .returned (X.1) ∧ Own M w (kn M w.heap.size K0 X.2 :: []) w' ∧ Arr X.2 X.1 2 (r.map Rf.cells)) := by
 unfold R2_Uses_m at hm
 refine calls_of_WC (n := 17) (args := [.agg #[i_ s.op, i_ s.a.st, i_ s.a.bk, i_ s.b.st, i_ s.b.bk, i_ s.ar, i_ s.sp, i_ s.pl, i_ s.n]]) Try.func30 Z Z (nl Z) ?_ (Own.startK hk hw0)
 refine sr (WL.effect Z ?_)
 refine (EV.boxAgg (by decide) Z Z (fun b1 => ?_))
 refine wa Z (nt (WC.seq (sr (wf fd81_0 Z (wl pl3 Z (Own.cell 0 Z Z) (wq Z (QV.eql Z Z Z Z) (nt ?_)))))))
 refine wc Z hm (fun h2 hm3 => ?_) (fun h2 hm6 => ?_) <;> clear hm
 ·skip
  refine sr (wf fd81_1 Z (wq Z (QV.loadAgg ag79 Z Z Z (fun w hw => (Own.cellsBlk 0 Z w hw).sub 1 2 Z)) (WL.effect Z ?_)))
  refine (EV.buildSlice (by decide) sz_76 (by decide) (by decide) (ps := [(0, .tmp 7)]) (cells := [i_ s.a.st, i_ s.a.bk]) (ec Z eN) (by kernel_rfl) (fun b4 => ?_))
  refine wa Z (nt (WC.ret (tr ?_)))
  obtain rfl := (eq_of_some hm3).symm
  refine WK.of (fun w hw => hw.blkVec Rf.cells ([s.a] : List Rf) Z Rf.cells_len (nl Z)) ?_
  refine WK.of (C' := Own M w [kn M w.heap.size K0 K0, vec (blkSlice b4 1 1) 79 2 (List.map Rf.cells [s.a]), blk b1 s.cells 81]) (pk [2, 0, 1]) ?_
  refine WK.freeze hk (fun k5 hle5 hr5 => ?_)
  have hA5 := vec_arr hr5
  refine WQ.ret1 Z Z (fun w hw => ?_)
  exact ⟨((blkSlice b4 1 1), k5), Z, hw.pick [0] (by decide), hA5⟩
 refine sk (WQ.then (WC.seq (sr (wf fd81_0 Z (wl pl3 Z (Own.cell 0 Z Z) (wq Z (QV.gtr Z Z Z Z) (nt ?_)))))))
 refine wc Z hm6 (fun h7 hm8 => ?_) (fun h7 hm11 => ?_) <;> clear hm6
 ·skip
  refine sr (wf fd81_1 Z (wq Z (QV.loadAgg ag79 Z Z Z (fun w hw => (Own.cellsBlk 0 Z w hw).sub 1 2 Z)) (wf fd81_2 Z (wq Z (QV.loadAgg ag79 Z Z Z (fun w hw => (Own.cellsBlk 0 Z w hw).sub 3 2 Z)) (WL.effect Z ?_)))))
  refine (EV.buildSlice (by decide) sz_76 (by decide) (by decide) (ps := [(0, .tmp 13), (1, .tmp 15)]) (cells := [i_ s.a.st, i_ s.a.bk, i_ s.b.st, i_ s.b.bk]) (ec Z (ec Z eN)) (by kernel_rfl) (fun b9 => ?_))
  refine wa Z (nt (WC.ret (tr ?_)))
  obtain rfl := (eq_of_some hm8).symm
  refine WK.of (fun w hw => hw.blkVec Rf.cells ([s.a, s.b] : List Rf) Z Rf.cells_len (nl Z)) ?_
  refine WK.of (C' := Own M w [kn M w.heap.size K0 K0, vec (blkSlice b9 2 2) 79 2 (List.map Rf.cells [s.a, s.b]), blk b1 s.cells 81]) (pk [2, 0, 1]) ?_
  refine WK.freeze hk (fun k10 hle10 hr10 => ?_)
  have hA10 := vec_arr hr10
  refine WQ.ret1 Z Z (fun w hw => ?_)
  exact ⟨((blkSlice b9 2 2), k10), Z, hw.pick [0] (by decide), hA10⟩
 refine sk (WQ.then (sr (wa Z (nt (WC.ret ?_)))))
 obtain rfl := (eq_of_some hm11).symm
 refine WQ.ret1 Z Z (fun w hw => ?_)
 exact ⟨(.slice none 0 0, K0), Z, hw.pick [1] (by decide), Arr.nil⟩
theorem R2_stmt_w {v_l_logs v_l_body v_l_outs : Value} {l : Lp} {k_ : Int} {r : Bool} (w : World) (hm : R2_stmt_m l k_ = some r) (h_l_logs : Arr w v_l_logs 1 (l.logs.map icell)) (h_l_body : Arr w v_l_body 9 (l.body.map Stm.cells)) (h_l_outs : Arr w v_l_outs 1 (l.outs.map icell)) : Calls Try.prog 77 #[.agg #[v_l_logs, v_l_body, v_l_outs], .int .i64 k_] w (fun e w' => e = .returned (.bool r) ∧ Grow w w') := by
 unfold R2_stmt_m at hm
 have hk := Base.rfl (w := w)
 refine calls_of_WC (n := 142) (args := [.agg #[v_l_logs, v_l_body, v_l_outs], i_ k_]) Try.func77 Z Z (nl Z) ?_ (Own.startK hk (Own.start w))
 refine sr (WL.effect Z ?_)
 refine (EV.boxAgg (by decide) Z Z (fun b1 => ?_))
 refine wa Z (ns (wf fd25_1 Z (wl pl23 Z (Own.cell 0 Z Z) (wm Z ?_))))
 obtain ⟨c2, hm3⟩ := cs hm; clear hm
 obtain ⟨p4, hp5⟩ := h_l_body.lenMap.ix (sz := 9) ln_len c2
 refine wq Z (QV.indexSlice sl23 Z Z Z Z hp5) (wq Z (QV.loadAgg ag81 Z Z Z (fun w hw => ((Own.karr 1 Z hk h_l_body) w hw).ele hp5 c2)) (WL.effect Z ?_))
 refine (EV.alloc (by decide) ze81 (fun b6 => ?_))
 refine WL.effect Z ?_
 refine (EV.store 0 Z Z Z Z Z Z (vs := (Stm.cells (ele l.body k_))) (show Value.cells _ = List.toArray _ from Z) sz81 (nl Z) (oc Z (oc Z (oc Z (oc Z (oc Z (oc Z (oc Z (oc Z (oc Z one_nil))))))))) ?_)
 refine ns (wq Z (QV.loadAgg ag81 Z Z Z (Own.cellsBlk 0 Z)) (WL.effect Z ?_))
 obtain ⟨x7, hx8, hm9⟩ := bd_some hm3; clear hm3
 refine EV.of (C' := Own noM w [kn noM w.heap.size w w, blk b6 (Stm.cells (ele l.body k_)) 81, blk b1 [v_l_logs, v_l_body, v_l_outs] 25]) (pk [2, 0, 1]) ?_
 refine (EV.callR (X := Value × World) (R := []) (fun X => X.1) (fun X => []) (fun X => X.2) (fun X => Arr X.2 X.1 2 (x7.map Rf.cells)) hk (fun _ h => by cases h; decide) en30 (ec Z eN) (fun M w h1 h2 => have h := R2_Uses_w hx8  M w h1 h2; h) (fun X10 hF10 hle10 => ?_))
 refine wa Z (nt (WC.seq (sr (wa Z (nt ?_)))))
 obtain ⟨o11, ho12, hm13⟩ := bd_some hm9; clear hm9; obtain ⟨n14, ho15⟩ := lp_some ho12
 refine WC.bloop1 (H2 := [kn noM w.heap.size w X10.2, blk b6 (Stm.cells (ele l.body k_)) 81, blk b1 [v_l_logs, v_l_body, v_l_outs] 25]) (τ := [u_ 1 _, u_ 2 _, u_ 5 _, u_ 6 _]) (fun (i7_1 : Int) => [(7, (true, i_ i7_1))]) (fun i7_1 => []) (fun i7_1 m => iter (R2_stmt_L0 l k_ x7) m i7_1 = some o11) (fun i7_1 => o11 = .go i7_1) 0 n14 ho15 ⟨Z, Z, Z, Z, Z, trivial⟩ (pk [0, 1, 2]) ?_ ?_
 ·skip
  rintro i7_1 rfl
  refine WQ.then (WC.seq (sr (wm Z (wq Z (QV.lenS Try.underlying76 Z Z hF10.lenMap) (wq Z (QV.lss Z Z Z Z) (wm Z (gp Z (fun hG => QV.fieldAddr fd81_2 Z Z) (gp Z (fun hG => QV.fieldAddr fd79_0 Z hG) (gp Z (fun hG => QV.load pl3 Z hG (Own.cell 1 Z Z)) (gp Z (fun hG => QV.neq Z hG Z Z) (gp Z (fun hG => QV.move Z hG) ?_)))))))))))
  refine gnC Z (fun hG => QV.fieldAddr fd81_2 Z Z) (gnC Z (fun hG => QV.fieldAddr fd79_1 Z hG) (gnC Z (fun hG => QV.load pl3 Z hG (Own.cell 1 Z Z)) (gnC Z (fun hG => QV.neq Z hG Z Z) (gp Z (fun hG => QV.pickOr Z hG Z (fun h => andN hG h)) (wq Z (QV.pickAnd Z Z Z (fun h => h)) (wm Z (gn Z (fun hG => QV.move Z Z) (gn Z (fun hG => QV.lenS Try.underlying76 Z hG hF10.lenMap) (gn Z (fun hG => QV.lss Z hG Z Z) ?_)))))))))
  refine gn Z (fun hG => QV.move Z hG) (gpC Z (fun hG => QV.fieldAddr fd81_1 Z Z) (gpC Z (fun hG => QV.fieldAddr fd79_0 Z hG) (gpC Z (fun hG => QV.load pl3 Z hG (Own.cell 1 Z Z)) (gpC Z (fun hG => QV.neq Z hG Z Z) (gpC Z (fun hG => QV.move Z hG) (gnC Z (fun hG => QV.fieldAddr fd81_1 Z Z) (gnC Z (fun hG => QV.fieldAddr fd79_1 Z hG) (gnC Z (fun hG => QV.load pl3 Z hG (Own.cell 1 Z Z)) (gnC Z (fun hG => QV.neq Z hG Z Z) ?_)))))))))
  refine gpC Z (fun hG => QV.pickOr Z hG Z (fun h => andN hG h)) (gn Z (fun hG => QV.pickAnd Z hG Z (fun h => andT hG h)) (wq Z (QV.pickOr Z Z Z (fun h => notF h)) (nt ?_)))
  refine wc Z hm13 (fun h16 hm17 => ?_) (fun h16 hm18 => ?_) <;> clear hm13
  ·skip
   refine sr (wa Z (nt (WC.ret (tr ?_))))
   obtain rfl := (eq_of_some hm17).symm
   exact WQ.ret1 Z Z fun w hw => kg hw
  refine sk (WQ.then (WC.seq (sr (wf fd81_0 Z (wl pl3 Z (Own.cell 1 Z Z) (wq Z (QV.neq Z Z Z Z) (wm Z (gp Z (fun hG => QV.fieldAddr fd81_6 Z Z) (gp Z (fun hG => QV.load pl2 Z hG (Own.cell 1 Z Z)) (gp Z (fun hG => QV.neq Z hG Z Z) (wq Z (QV.pickAnd Z Z Z (fun h => h)) (nt ?_))))))))))))
  refine wc Z hm18 (fun h19 hm20 => ?_) (fun h19 hm21 => ?_) <;> clear hm18
  ·skip
   refine sr (wa Z (nt (WC.ret (tr ?_))))
   obtain rfl := (eq_of_some hm20).symm
   exact WQ.ret1 Z Z fun w hw => kg hw
  refine sk (WQ.then (WC.seq (sr (wf fd81_0 Z (wl pl3 Z (Own.cell 1 Z Z) (wq Z (QV.eql Z Z Z Z) (wm Z (gn Z (fun hG => QV.fieldAddr fd81_0 Z Z) (gn Z (fun hG => QV.load pl3 Z hG (Own.cell 1 Z Z)) (gn Z (fun hG => QV.eql Z hG Z Z) (wq Z (QV.pickOr Z Z Z (fun h => notF h)) (nt ?_))))))))))))
  refine wc Z hm21 (fun h22 hm23 => ?_) (fun h22 hm35 => ?_) <;> clear hm21
  ·skip
   refine sr (wf fd81_3 Z (wl pl3 Z (Own.cell 1 Z Z) (wf fd25_0 Z (wl pl22 Z (Own.cell 2 Z Z) (wq Z (QV.lenS Try.underlying22 Z Z (h_l_logs.le hle10).lenMap) ?_)))))
   obtain ⟨c24, hm25⟩ := cs hm23; clear hm23
   refine wq Z (QV.sub Z Z Z Z c24) ?_
   obtain ⟨x26, hx27, hm28⟩ := bd_some hm25; clear hm25
   refine wq Z (QV.call en76 (ec Z (ec Z (ec Z eN))) (fun w hw => have h := R2_Within_w w hx27 ; h)) (wm Z (gp Z (fun hG => QV.fieldAddr fd81_4 Z Z) (gp Z (fun hG => QV.load pl3 Z hG (Own.cell 1 Z Z)) ?_)))
   obtain ⟨x29, hx30, hm31⟩ := bdG_some hm28; clear hm28
   refine gp Z (fun hG => QV.call en76 (EvAll.cons Z hG (ec Z (ec Z eN))) (fun w hw => have h := R2_Within_w w (hx30 hG) ; h)) (wq Z (QV.pickAnd Z Z Z (fun h => h)) (wm Z (gp Z (fun hG => QV.fieldAddr fd81_5 Z Z) (gp Z (fun hG => QV.load pl3 Z hG (Own.cell 1 Z Z)) ?_))))
   obtain ⟨x32, hx33, hm34⟩ := bdG_some hm31; clear hm31
   refine gp Z (fun hG => QV.call en76 (EvAll.cons Z hG (ec Z (ec Z eN))) (fun w hw => have h := R2_Within_w w (hx33 hG) ; h)) (wq Z (QV.pickAnd Z Z Z (fun h => h)) (wa Z (nt (WC.ret (tr ?_)))))
   obtain rfl := (eq_of_some hm34).symm
   exact WQ.ret1 Z Z fun w hw => kg hw
  refine sk (WQ.then (WC.seq (sr (wf fd81_3 Z (wl pl3 Z (Own.cell 1 Z Z) (wq Z (QV.neq Z Z Z Z) (wm Z (gn Z (fun hG => QV.fieldAddr fd81_4 Z Z) (gn Z (fun hG => QV.load pl3 Z hG (Own.cell 1 Z Z)) (gn Z (fun hG => QV.neq Z hG Z Z) (wq Z (QV.pickOr Z Z Z (fun h => notF h)) (wm Z ?_))))))))))))
  refine gn Z (fun hG => QV.fieldAddr fd81_5 Z Z) (gn Z (fun hG => QV.load pl3 Z hG (Own.cell 1 Z Z)) (gn Z (fun hG => QV.neq Z hG Z Z) (wq Z (QV.pickOr Z Z Z (fun h => notF h)) (nt ?_))))
  refine wc Z hm35 (fun h36 hm37 => ?_) (fun h36 hm38 => ?_) <;> clear hm35
  ·skip
   refine sr (wa Z (nt (WC.ret (tr ?_))))
   obtain rfl := (eq_of_some hm37).symm
   exact WQ.ret1 Z Z fun w hw => kg hw
  refine sk (WQ.then (sr (wf fd81_0 Z (wl pl3 Z (Own.cell 1 Z Z) (wq Z (QV.eql Z Z Z Z) (wm Z (gn Z (fun hG => QV.fieldAddr fd81_0 Z Z) (gn Z (fun hG => QV.load pl3 Z hG (Own.cell 1 Z Z)) (gn Z (fun hG => QV.eql Z hG Z Z) (wq Z (QV.pickOr Z Z Z (fun h => notF h)) (wm Z ?_)))))))))))
  refine gn Z (fun hG => QV.fieldAddr fd81_0 Z Z) (gn Z (fun hG => QV.load pl3 Z hG (Own.cell 1 Z Z)) ?_)
  obtain ⟨x39, hx40, hm41⟩ := bdG_some hm38; clear hm38
  refine gn Z (fun hG => QV.call en76 (EvAll.cons Z hG (ec Z (ec Z eN))) (fun w hw => have h := R2_Within_w w (hx40 hG) ; h)) (wq Z (QV.pickOr Z Z Z (fun h => notF h)) (wa Z (nt (WC.ret ?_))))
  obtain rfl := (eq_of_some hm41).symm
  exact WQ.ret1 Z Z fun w hw => kg hw
 rintro i7_1 m42 hI43
 obtain ⟨m44, s45, rfl, hm46, hn47⟩ := iter_step hI43; clear hI43; unfold R2_stmt_L0 at hm46
 refine WC.seq (sr (wm Z (wm Z (wq Z (QV.lenS Try.underlying76 Z Z hF10.lenMap) (wq Z (QV.lss Z Z Z Z) (nt ?_))))))
 refine wc Z hm46 (fun h48 hm49 => ?_) (fun h48 hm99 => ?_) <;> clear hm46
 ·skip
  refine sk (WQ.then (WC.seq (WC.block (sr (wf fd25_1 Z (wl pl23 Z (Own.cell 2 Z Z) (wq Z (QV.lenS Try.underlying23 Z Z (h_l_body.le hle10).lenMap) ?_)))))))
  obtain ⟨c50, c52, hm53⟩ := cs2 hm49; clear hm49
  refine wq Z (QV.sub Z Z Z Z c50) (wa Z (nt (WC.seq (sr (wm Z (wm Z ?_))))))
  obtain ⟨p54, hp55⟩ := hF10.lenMap.ix (sz := 2) ln_len c52
  refine wq Z (QV.indexSlice sl76 Z Z Z Z hp55) (wf fd79_1 Z (wl pl3 Z (fun w hw => CellsAt.one 1 (((Own.karr 0 Z hk hF10) w hw).ele hp55 c52) Z) (wq Z (QV.eql Z Z Z Z) (nt ?_))))
  refine wc Z hm53 (fun h56 hm57 => ?_) (fun h56 hm79 => ?_) <;> clear hm53
  ·skip
   refine WC.region (wm Z ?_)
   obtain ⟨c58, c60, hm61⟩ := cs2 hm57; clear hm57
   refine wq Z (QV.sub Z Z Z Z c58) (wa Z (ns (wm Z (wm Z ?_))))
   obtain ⟨p62, hp63⟩ := hF10.lenMap.ix (sz := 2) ln_len c60
   refine wq Z (QV.indexSlice sl76 Z Z Z Z hp63) (wf fd79_1 Z (wl pl3 Z (fun w hw => CellsAt.one 1 (((Own.karr 0 Z hk hF10) w hw).ele hp63 c60) Z) ?_))
   obtain ⟨x64, hx65, hm66⟩ := bd_some hm61; clear hm61
   refine wq Z (QV.call en76 (ec Z (ec Z (ec Z eN))) (fun w hw => have h := R2_Within_w w hx65 ; h)) (wq Z (QV.not Z Z) (wm Z (gn Z (fun hG => QV.move Z Z) (gn Z (fun hG => QV.move Z Z) ?_))))
   obtain ⟨c67, hm68⟩ := cs hm66; clear hm66
   obtain ⟨p69, hp70⟩ := hF10.lenMap.ixG (sz := 2) ln_len c67
   refine gn Z (fun hG => QV.indexSlice sl76 Z hG Z hG (hp70 hG)) (gn Z (fun hG => QV.fieldAddr fd79_0 Z hG) (gn Z (fun hG => QV.load pl3 Z hG (fun w hw => CellsAt.one 0 (((Own.karr 0 Z hk hF10) w hw).ele (hp70 hG) (c67 hG)) Z)) (gn Z (fun hG => QV.move Z Z) ?_)))
   obtain ⟨x71, hx72, hm73⟩ := bdG_some hm68; clear hm68
   refine gn Z (fun hG => QV.call en76 (EvAll.cons Z hG (ec Z (EvAll.cons Z hG eN))) (fun w hw => have h := R2_Within_w w (hx72 hG) ; h)) (gn Z (fun hG => QV.not Z hG) (wq Z (QV.pickOr Z Z Z (fun h => notF h)) (nt ?_)))
   refine wc Z hm73 (fun h74 hm75 => ?_) (fun h74 hm76 => ?_) <;> clear hm73
   ·skip
    refine sr (wa Z (nt (WC.ret (kr (tr (tr (kr (tr (tr ?_)))))))))
    obtain rfl := up_ret hm75 hn47
    obtain rfl := (eq_of_some hm13).symm
    exact WQ.ret1 Z Z fun w hw => kg hw
   refine sk (WQ.block (WQ.then (WC.region (wm Z ?_))))
   obtain ⟨c77, hm78⟩ := cs hm76; clear hm76
   refine wq Z (QV.add Z Z Z Z c77) (wa Z (WL.nil ?_))
   exact WQ.again1 (i7_1 + 1) m44 (up_next hm78 hn47) (Nat.lt_succ_self _) ⟨Z, Z, Z, Z, Z, trivial⟩ (pk [0, 1, 2])
  refine sk (WQ.then (sr (wm Z (wm Z ?_))))
  obtain ⟨c80, hm81⟩ := cs hm79; clear hm79
  obtain ⟨p82, hp83⟩ := hF10.lenMap.ix (sz := 2) ln_len c80
  refine wq Z (QV.indexSlice sl76 Z Z Z Z hp83) (wf fd79_1 Z (wl pl3 Z (fun w hw => CellsAt.one 1 (((Own.karr 0 Z hk hF10) w hw).ele hp83 c80) Z) ?_))
  obtain ⟨x84, hx85, hm86⟩ := bd_some hm81; clear hm81
  refine wq Z (QV.call en76 (ec Z (ec Z (ec Z eN))) (fun w hw => have h := R2_Within_w w hx85 ; h)) (wq Z (QV.not Z Z) (wm Z (gn Z (fun hG => QV.move Z Z) (gn Z (fun hG => QV.move Z Z) ?_))))
  obtain ⟨c87, hm88⟩ := cs hm86; clear hm86
  obtain ⟨p89, hp90⟩ := hF10.lenMap.ixG (sz := 2) ln_len c87
  refine gn Z (fun hG => QV.indexSlice sl76 Z hG Z hG (hp90 hG)) (gn Z (fun hG => QV.fieldAddr fd79_0 Z hG) (gn Z (fun hG => QV.load pl3 Z hG (fun w hw => CellsAt.one 0 (((Own.karr 0 Z hk hF10) w hw).ele (hp90 hG) (c87 hG)) Z)) (gn Z (fun hG => QV.move Z Z) ?_)))
  obtain ⟨x91, hx92, hm93⟩ := bdG_some hm88; clear hm88
  refine gn Z (fun hG => QV.call en76 (EvAll.cons Z hG (ec Z (EvAll.cons Z hG eN))) (fun w hw => have h := R2_Within_w w (hx92 hG) ; h)) (gn Z (fun hG => QV.not Z hG) (wq Z (QV.pickOr Z Z Z (fun h => notF h)) (nt ?_)))
  refine wc Z hm93 (fun h94 hm95 => ?_) (fun h94 hm96 => ?_) <;> clear hm93
  ·skip
   refine sr (wa Z (nt (WC.ret (kr (tr (tr (kr (tr (tr ?_)))))))))
   obtain rfl := up_ret hm95 hn47
   obtain rfl := (eq_of_some hm13).symm
   exact WQ.ret1 Z Z fun w hw => kg hw
  refine sk (WQ.block (WQ.then (WC.region (wm Z ?_))))
  obtain ⟨c97, hm98⟩ := cs hm96; clear hm96
  refine wq Z (QV.add Z Z Z Z c97) (wa Z (WL.nil ?_))
  exact WQ.again1 (i7_1 + 1) m44 (up_next hm98 hn47) (Nat.lt_succ_self _) ⟨Z, Z, Z, Z, Z, trivial⟩ (pk [0, 1, 2])
 refine WC.exit (te (te (WQ.block_exit ?_)))
 exact WQ.out1 i7_1 (up_brk hm99 hn47) ⟨Z, Z, Z, Z, Z, trivial⟩ (pk [0, 1, 2])
theorem R2_May_w {v_l_logs v_l_body v_l_outs : Value} {l : Lp} {r : Bool} (w : World) (hm : R2_May_m l = some r) (h_l_logs : Arr w v_l_logs 1 (l.logs.map icell)) (h_l_body : Arr w v_l_body 9 (l.body.map Stm.cells)) (h_l_outs : Arr w v_l_outs 1 (l.outs.map icell)) : Calls Try.prog 43 #[.agg #[v_l_logs, v_l_body, v_l_outs]] w (fun e w' => e = .returned (.bool r) ∧ Grow w w') := by
 unfold R2_May_m at hm
 have hk := Base.rfl (w := w)
 refine calls_of_WC (n := 79) (args := [.agg #[v_l_logs, v_l_body, v_l_outs]]) Try.func43 Z Z (nl Z) ?_ (Own.startK hk (Own.start w))
 refine sr (WL.effect Z ?_)
 refine (EV.boxAgg (by decide) Z Z (fun b1 => ?_))
 refine wa Z (ns (wf fd25_1 Z (wl pl23 Z (Own.cell 0 Z Z) (wq Z (QV.lenS Try.underlying23 Z Z h_l_body.lenMap) (wa Z (nt (WC.seq (sr (wf fd25_0 Z (wl pl22 Z (Own.cell 0 Z Z) (wq Z (QV.lenS Try.underlying22 Z Z h_l_logs.lenMap) ?_)))))))))))
 refine wq Z (QV.gtr Z Z Z Z) (wm Z (gn Z (fun hG => QV.move Z Z) (gn Z (fun hG => QV.lss Z hG Z Z) (wq Z (QV.pickOr Z Z Z (fun h => notF h)) (wm Z (gn Z (fun hG => QV.move Z Z) (gn Z (fun hG => QV.gtr Z hG Z Z) (wq Z (QV.pickOr Z Z Z (fun h => notF h)) (nt ?_)))))))))
 refine wc Z hm (fun h2 hm3 => ?_) (fun h2 hm4 => ?_) <;> clear hm
 ·skip
  refine sr (wa Z (nt (WC.ret (tr ?_))))
  obtain rfl := (eq_of_some hm3).symm
  exact WQ.ret1 Z Z fun w hw => kg hw
 refine sk (WQ.then (WC.seq (sr (wa Z (nt ?_)))))
 obtain ⟨o5, ho6, hm7⟩ := bd_some hm4; clear hm4; obtain ⟨n8, ho9⟩ := lp_some ho6
 refine WC.bloop1 (H2 := [blk b1 [v_l_logs, v_l_body, v_l_outs] 25, kn noM w.heap.size w w]) (τ := [u_ 1 _, u_ 3 _]) (fun (i4_1 : Int) => [(4, (true, i_ i4_1))]) (fun i4_1 => []) (fun i4_1 m => iter (R2_May_L0 l) m i4_1 = some o5) (fun i4_1 => o5 = .go i4_1) 0 n8 ho9 ⟨Z, Z, Z, trivial⟩ (pk [0, 1]) ?_ ?_
 ·skip
  rintro i4_1 rfl
  refine WQ.then (WC.seq (sr (wa Z (nt ?_))))
  obtain ⟨o10, ho11, hm12⟩ := bd_some hm7; clear hm7; obtain ⟨n13, ho14⟩ := lp_some ho11
  refine WC.bloop1 (H2 := [blk b1 [v_l_logs, v_l_body, v_l_outs] 25, kn noM w.heap.size w w]) (τ := [u_ 1 _, u_ 3 _]) (fun (i5_2 : Int) => [(5, (true, i_ i5_2))]) (fun i5_2 => []) (fun i5_2 m => iter (R2_May_L2 l) m i5_2 = some o10) (fun i5_2 => o10 = .go i5_2) 0 n13 ho14 ⟨Z, Z, Z, trivial⟩ (pk [0, 1]) ?_ ?_
  ·skip
   rintro i5_2 rfl
   refine WQ.then (WC.seq (sr (wa Z (nt ?_))))
   obtain ⟨o15, ho16, hm17⟩ := bd_some hm12; clear hm12; obtain ⟨n18, ho19⟩ := lp_some ho16
   refine WC.bloop1 (H2 := [blk b1 [v_l_logs, v_l_body, v_l_outs] 25, kn noM w.heap.size w w]) (τ := [u_ 1 _, u_ 3 _]) (fun (k6_3 : Int) => [(6, (true, i_ k6_3))]) (fun k6_3 => []) (fun k6_3 m => iter (R2_May_L4 l) m k6_3 = some o15) (fun k6_3 => o15 = .go k6_3) 0 n18 ho19 ⟨Z, Z, Z, trivial⟩ (pk [0, 1]) ?_ ?_
   ·skip
    rintro k6_3 rfl
    refine WQ.then (sr (wa Z (nt (WC.ret ?_))))
    obtain rfl := (eq_of_some hm17).symm
    exact WQ.ret1 Z Z fun w hw => kg hw
   rintro k6_3 m20 hI21
   obtain ⟨m22, s23, rfl, hm24, hn25⟩ := iter_step hI21; clear hI21; unfold R2_May_L4 at hm24
   refine WC.seq (sr (wm Z (wm Z (wq Z (QV.lss Z Z Z Z) (nt ?_)))))
   refine wc Z hm24 (fun h26 hm27 => ?_) (fun h26 hm36 => ?_) <;> clear hm24
   ·skip
    refine sk (WQ.then (WC.seq (WC.block (sr (wq Z (QV.loadAgg ag25 Z Z Z (Own.cellsBlk 0 Z)) (wm Z ?_))))))
    obtain ⟨x28, hx29, hm30⟩ := bd_some hm27; clear hm27
    refine wq Z (QV.call en77 (ec Z (ec Z eN)) (fun w hw => have h := R2_stmt_w w hx29 ((Own.karr 1 Z hk h_l_logs) w hw) ((Own.karr 1 Z hk h_l_body) w hw) ((Own.karr 1 Z hk h_l_outs) w hw); h)) (wq Z (QV.not Z Z) (nt ?_))
    refine wc Z hm30 (fun h31 hm32 => ?_) (fun h31 hm33 => ?_) <;> clear hm30
    ·skip
     refine sr (wa Z (nt (WC.ret (kr (tr (tr (kr (tr (tr ?_)))))))))
     obtain rfl := up_ret hm32 hn25
     obtain rfl := (eq_of_some hm17).symm
     exact WQ.ret1 Z Z fun w hw => kg hw
    refine sk (WQ.block (WQ.then (WC.region (wm Z ?_))))
    obtain ⟨c34, hm35⟩ := cs hm33; clear hm33
    refine wq Z (QV.add Z Z Z Z c34) (wa Z (WL.nil ?_))
    exact WQ.again1 (k6_3 + 1) m22 (up_next hm35 hn25) (Nat.lt_succ_self _) ⟨Z, Z, Z, trivial⟩ (pk [0, 1])
   refine WC.exit (te (te (WQ.block_exit ?_)))
   exact WQ.out1 k6_3 (up_brk hm36 hn25) ⟨Z, Z, Z, trivial⟩ (pk [0, 1])
  rintro i5_2 m37 hI38
  obtain ⟨m39, s40, rfl, hm41, hn42⟩ := iter_step hI38; clear hI38; unfold R2_May_L2 at hm41
  refine WC.seq (sr (wm Z (wf fd25_2 Z (wl pl22 Z (Own.cell 0 Z Z) (wq Z (QV.lenS Try.underlying22 Z Z h_l_outs.lenMap) (wq Z (QV.lss Z Z Z Z) (nt ?_)))))))
  refine wc Z hm41 (fun h43 hm44 => ?_) (fun h43 hm69 => ?_) <;> clear hm41
  ·skip
   refine sk (WQ.then (WC.seq (WC.block (WC.seq (WC.dr (m := 27) (S := Own noM w [kn noM w.heap.size w w, blk b1 [v_l_logs, v_l_body, v_l_outs] 25]) (by kernel_rfl) (by kernel_rfl) (pk [1, 0]) (zf 0 fd25_2 Z Z (zl 1 pl22 Z Z (Own.cell 1 Z Z) (zm 2 Z Z ?_))))))))
   obtain ⟨c45, hm46⟩ := cs hm44; clear hm44
   obtain ⟨p47, hp48⟩ := h_l_outs.lenMap.ix (sz := 1) ln_len c45
   refine wz 3 Z Z (QV.indexSlice sl22 Z Z Z Z hp48) (zl 4 pl3 Z Z (fun w hw => CellsAt.one 0 (((Own.karr 0 Z hk h_l_outs) w hw).ele hp48 c45) Z) (zm 5 Z Z ?_))
   obtain ⟨c49, hm50⟩ := cs hm46; clear hm46
   refine wz 6 Z Z (QV.sub Z Z Z Z c49) ?_
   obtain ⟨x51, hx52, hm53⟩ := bd_some hm50; clear hm50
   refine wz 7 Z Z (QV.call en76 (ec Z (ec Z (ec Z eN))) (fun w hw => have h := R2_Within_w w hx52 ; h)) (wz 8 Z Z (QV.not Z Z) (zm 9 Z Z (zn 10 Z Z (fun hG => QV.move Z Z) (zn 11 Z Z (fun hG => QV.gtr Z hG Z Z) (zn 12 Z Z (fun hG => QV.move Z hG) ?_)))))
   refine WD.g 13 Z (by kernel_rfl) Z Z (GuardIs.posC Z Z) (fun hG => QV.fieldAddr fd25_2 Z Z) ?_
   refine WD.g 14 Z (by kernel_rfl) Z Z (GuardIs.posC Z Z) (fun hG => QV.load pl22 Z hG (Own.cell 1 Z Z)) ?_
   refine WD.g 15 Z (by kernel_rfl) Z Z (GuardIs.posC Z Z) (fun hG => QV.move Z Z) ?_
   obtain ⟨c54, hm55⟩ := cs hm53; clear hm53
   obtain ⟨p56, hp57⟩ := h_l_outs.lenMap.ixG (sz := 1) ln_len c54
   refine WD.g 16 Z (by kernel_rfl) Z Z (GuardIs.posC Z Z) (fun hG => QV.indexSlice sl22 Z hG Z hG (hp57 hG)) ?_
   refine WD.g 17 Z (by kernel_rfl) Z Z (GuardIs.posC Z Z) (fun hG => QV.load pl3 Z hG (fun w hw => CellsAt.one 0 (((Own.karr 0 Z hk h_l_outs) w hw).ele (hp57 hG) (c54 hG)) Z)) ?_
   refine WD.g 18 Z (by kernel_rfl) Z Z (GuardIs.posC Z Z) (fun hG => QV.fieldAddr fd25_2 Z Z) ?_
   refine WD.g 19 Z (by kernel_rfl) Z Z (GuardIs.posC Z Z) (fun hG => QV.load pl22 Z hG (Own.cell 1 Z Z)) ?_
   refine WD.g 20 Z (by kernel_rfl) Z Z (GuardIs.posC Z Z) (fun hG => QV.move Z Z) ?_
   obtain ⟨c58, c60, hm61⟩ := cs2 hm55; clear hm55
   refine WD.g 21 Z (by kernel_rfl) Z Z (GuardIs.posC Z Z) (fun hG => QV.sub Z hG Z Z (c58 hG)) ?_
   obtain ⟨p62, hp63⟩ := h_l_outs.lenMap.ixG (sz := 1) ln_len c60
   refine WD.g 22 Z (by kernel_rfl) Z Z (GuardIs.posC Z Z) (fun hG => QV.indexSlice sl22 Z hG Z hG (hp63 hG)) ?_
   refine WD.g 23 Z (by kernel_rfl) Z Z (GuardIs.posC Z Z) (fun hG => QV.load pl3 Z hG (fun w hw => CellsAt.one 0 (((Own.karr 0 Z hk h_l_outs) w hw).ele (hp63 hG) (c60 hG)) Z)) ?_
   refine WD.g 24 Z (by kernel_rfl) Z Z (GuardIs.posC Z Z) (fun hG => QV.leq Z hG Z hG) ?_
   refine zn 25 Z Z (fun hG => QV.pickAnd Z hG Z (fun h => andT hG h)) (wz 26 Z Z (QV.pickOr Z Z Z (fun h => notF h)) ?_)
   refine WD.e (by kernel_rfl) ?_
   refine WQ.then ?_
   refine wc Z hm61 (fun h64 hm65 => ?_) (fun h64 hm66 => ?_) <;> clear hm61
   ·skip
    refine sr (wa Z (nt (WC.ret (kr (tr (tr (kr (tr (tr ?_)))))))))
    obtain rfl := up_ret hm65 hn42
    obtain rfl := (eq_of_some hm12).symm
    exact WQ.ret1 Z Z fun w hw => kg hw
   refine sk (WQ.block (WQ.then (WC.region (wm Z ?_))))
   obtain ⟨c67, hm68⟩ := cs hm66; clear hm66
   refine wq Z (QV.add Z Z Z Z c67) (wa Z (WL.nil ?_))
   exact WQ.again1 (i5_2 + 1) m39 (up_next hm68 hn42) (Nat.lt_succ_self _) ⟨Z, Z, Z, trivial⟩ (pk [0, 1])
  refine WC.exit (te (te (WQ.block_exit ?_)))
  exact WQ.out1 i5_2 (up_brk hm69 hn42) ⟨Z, Z, Z, trivial⟩ (pk [0, 1])
 rintro i4_1 m70 hI71
 obtain ⟨m72, s73, rfl, hm74, hn75⟩ := iter_step hI71; clear hI71; unfold R2_May_L0 at hm74
 refine WC.seq (sr (wm Z (wf fd25_0 Z (wl pl22 Z (Own.cell 0 Z Z) (wq Z (QV.lenS Try.underlying22 Z Z h_l_logs.lenMap) (wq Z (QV.lss Z Z Z Z) (nt ?_)))))))
 refine wc Z hm74 (fun h76 hm77 => ?_) (fun h76 hm90 => ?_) <;> clear hm74
 ·skip
  refine sk (WQ.then (WC.seq (WC.block (sr (wf fd25_0 Z (wl pl22 Z (Own.cell 0 Z Z) (wm Z ?_)))))))
  obtain ⟨c78, hm79⟩ := cs hm77; clear hm77
  obtain ⟨p80, hp81⟩ := h_l_logs.lenMap.ix (sz := 1) ln_len c78
  refine wq Z (QV.indexSlice sl22 Z Z Z Z hp81) (wl pl3 Z (fun w hw => CellsAt.one 0 (((Own.karr 1 Z hk h_l_logs) w hw).ele hp81 c78) Z) ?_)
  obtain ⟨x82, hx83, hm84⟩ := bd_some hm79; clear hm79
  refine wq Z (QV.call en76 (ec Z (ec Z (ec Z eN))) (fun w hw => have h := R2_Within_w w hx83 ; h)) (wq Z (QV.not Z Z) (nt ?_))
  refine wc Z hm84 (fun h85 hm86 => ?_) (fun h85 hm87 => ?_) <;> clear hm84
  ·skip
   refine sr (wa Z (nt (WC.ret (kr (tr (tr (kr (tr (tr ?_)))))))))
   obtain rfl := up_ret hm86 hn75
   obtain rfl := (eq_of_some hm7).symm
   exact WQ.ret1 Z Z fun w hw => kg hw
  refine sk (WQ.block (WQ.then (WC.region (wm Z ?_))))
  obtain ⟨c88, hm89⟩ := cs hm87; clear hm87
  refine wq Z (QV.add Z Z Z Z c88) (wa Z (WL.nil ?_))
  exact WQ.again1 (i4_1 + 1) m72 (up_next hm89 hn75) (Nat.lt_succ_self _) ⟨Z, Z, Z, trivial⟩ (pk [0, 1])
 refine WC.exit (te (te (WQ.block_exit ?_)))
 exact WQ.out1 i4_1 (up_brk hm90 hn75) ⟨Z, Z, Z, trivial⟩ (pk [0, 1])
theorem R2_Fits_w {v_l_logs v_l_body v_l_outs v_s_bef v_s_mem : Value} {l : Lp} {s : Sta} {r : Bool} (w : World) (hm : R2_Fits_m l s = some r) (h_l_logs : Arr w v_l_logs 1 (l.logs.map icell)) (h_l_body : Arr w v_l_body 9 (l.body.map Stm.cells)) (h_l_outs : Arr w v_l_outs 1 (l.outs.map icell)) (h_s_bef : RowsA w v_s_bef s.bef) (h_s_mem : RowsA w v_s_mem s.mem) : Calls Try.prog 21 #[.agg #[v_l_logs, v_l_body, v_l_outs], .agg #[v_s_bef, v_s_mem]] w (fun e w' => e = .returned (.bool r) ∧ Grow w w') := by
 unfold R2_Fits_m at hm
 have hk := Base.rfl (w := w)
 refine calls_of_WC (n := 64) (args := [.agg #[v_l_logs, v_l_body, v_l_outs], .agg #[v_s_bef, v_s_mem]]) Try.func21 Z Z (nl Z) ?_ (Own.startK hk (Own.start w))
 refine sr (WL.effect Z ?_)
 refine (EV.boxAgg (by decide) Z Z (fun b1 => ?_))
 refine WL.effect Z ?_
 refine (EV.boxAgg (by decide) Z Z (fun b2 => ?_))
 refine wa Z (nt (WC.seq (sr (wq Z (QV.loadAgg ag25 Z Z Z (Own.cellsBlk 1 Z)) ?_))))
 obtain ⟨x3, hx4, hm5⟩ := bd_some hm; clear hm
 refine wq Z (QV.call en43 (ec Z eN) (fun w hw => have h := R2_May_w w hx4 ((Own.karr 2 Z hk h_l_logs) w hw) ((Own.karr 2 Z hk h_l_body) w hw) ((Own.karr 2 Z hk h_l_outs) w hw); h)) (wq Z (QV.not Z Z) (wm Z (gn Z (fun hG => QV.fieldAddr fd50_0 Z Z) (gn Z (fun hG => QV.load pl32 Z hG (Own.cell 0 Z Z)) (gn Z (fun hG => QV.lenS Try.underlying32 Z hG h_s_bef.slen) (gn Z (fun hG => QV.fieldAddr fd25_1 Z Z) (gn Z (fun hG => QV.load pl23 Z hG (Own.cell 1 Z Z)) (gn Z (fun hG => QV.lenS Try.underlying23 Z hG h_l_body.lenMap) (gn Z (fun hG => QV.neq Z hG Z hG) ?_)))))))))
 refine wq Z (QV.pickOr Z Z Z (fun h => notF h)) (wm Z (gn Z (fun hG => QV.fieldAddr fd50_1 Z Z) (gn Z (fun hG => QV.load pl32 Z hG (Own.cell 0 Z Z)) (gn Z (fun hG => QV.lenS Try.underlying32 Z hG h_s_mem.slen) (gn Z (fun hG => QV.fieldAddr fd25_0 Z Z) (gn Z (fun hG => QV.load pl22 Z hG (Own.cell 1 Z Z)) (gn Z (fun hG => QV.lenS Try.underlying22 Z hG h_l_logs.lenMap) (gn Z (fun hG => QV.neq Z hG Z hG) (wq Z (QV.pickOr Z Z Z (fun h => notF h)) ?_)))))))))
 refine nt ?_
 refine wc Z hm5 (fun h6 hm7 => ?_) (fun h6 hm8 => ?_) <;> clear hm5
 ·skip
  refine sr (wa Z (nt (WC.ret (tr ?_))))
  obtain rfl := (eq_of_some hm7).symm
  exact WQ.ret1 Z Z fun w hw => kg hw
 refine sk (WQ.then (WC.seq (sr (wa Z (nt ?_)))))
 obtain ⟨o9, ho10, hm11⟩ := bd_some hm8; clear hm8; obtain ⟨n12, ho13⟩ := lp_some ho10
 refine WC.bloop1 (H2 := [blk b2 [v_s_bef, v_s_mem] 50, blk b1 [v_l_logs, v_l_body, v_l_outs] 25, kn noM w.heap.size w w]) (τ := [u_ 2 _, u_ 3 _]) (fun (i5_1 : Int) => [(5, (true, i_ i5_1))]) (fun i5_1 => []) (fun i5_1 m => iter (R2_Fits_L0 s) m i5_1 = some o9) (fun i5_1 => o9 = .go i5_1) 0 n12 ho13 ⟨Z, Z, Z, trivial⟩ (pk [0, 1, 2]) ?_ ?_
 ·skip
  rintro i5_1 rfl
  refine WQ.then (WC.seq (sr (wa Z (nt ?_))))
  obtain ⟨o14, ho15, hm16⟩ := bd_some hm11; clear hm11; obtain ⟨n17, ho18⟩ := lp_some ho15
  refine WC.bloop1 (H2 := [blk b2 [v_s_bef, v_s_mem] 50, blk b1 [v_l_logs, v_l_body, v_l_outs] 25, kn noM w.heap.size w w]) (τ := [u_ 2 _, u_ 3 _]) (fun (i6_2 : Int) => [(6, (true, i_ i6_2))]) (fun i6_2 => []) (fun i6_2 m => iter (R2_Fits_L2 l s) m i6_2 = some o14) (fun i6_2 => o14 = .go i6_2) 0 n17 ho18 ⟨Z, Z, Z, trivial⟩ (pk [0, 1, 2]) ?_ ?_
  ·skip
   rintro i6_2 rfl
   refine WQ.then (sr (wa Z (nt (WC.ret ?_))))
   obtain rfl := (eq_of_some hm16).symm
   exact WQ.ret1 Z Z fun w hw => kg hw
  rintro i6_2 m19 hI20
  obtain ⟨m21, s22, rfl, hm23, hn24⟩ := iter_step hI20; clear hI20; unfold R2_Fits_L2 at hm23
  refine WC.seq (sr (wm Z (wf fd50_1 Z (wl pl32 Z (Own.cell 0 Z Z) (wq Z (QV.lenS Try.underlying32 Z Z h_s_mem.slen) (wq Z (QV.lss Z Z Z Z) (nt ?_)))))))
  refine wc Z hm23 (fun h25 hm26 => ?_) (fun h25 hm46 => ?_) <;> clear hm23
  ·skip
   refine sk (WQ.then (WC.seq (WC.block (sr (wf fd25_0 Z (wl pl22 Z (Own.cell 1 Z Z) (wm Z ?_)))))))
   obtain ⟨c27, hm28⟩ := cs hm26; clear hm26
   obtain ⟨p29, hp30⟩ := h_l_logs.lenMap.ix (sz := 1) ln_len c27
   refine wq Z (QV.indexSlice sl22 Z Z Z Z hp30) (wl pl3 Z (fun w hw => CellsAt.one 0 (((Own.karr 2 Z hk h_l_logs) w hw).ele hp30 c27) Z) ?_)
   obtain ⟨x31, hx32, hm33⟩ := bd_some hm28; clear hm28
   refine wq Z (QV.call en48 (ec Z eN) (fun w hw => have h := R1_Size_w w hx32 ; h)) (wa Z (ns (wf fd50_1 Z (wl pl32 Z (Own.cell 0 Z Z) (wm Z ?_)))))
   obtain ⟨c34, hm35⟩ := cs hm33; clear hm33
   obtain ⟨p36, u38, hp37, hc39, hA40⟩ := h_s_mem.ix c34
   refine wq Z (QV.indexSlice sl32 Z Z Z Z hp37) (wl pl33 Z (fun w hw => CellsAt.one 0 ((Own.kcells 2 Z hk hc39) w hw) Z) (wq Z (QV.lenS Try.underlying33 Z Z hA40.lenMap) (wm Z (wq Z (QV.neq Z Z Z Z) (nt ?_)))))
   refine wc Z hm35 (fun h41 hm42 => ?_) (fun h41 hm43 => ?_) <;> clear hm35
   ·skip
    refine sr (wa Z (nt (WC.ret (kr (tr (tr (kr (tr (tr ?_)))))))))
    obtain rfl := up_ret hm42 hn24
    obtain rfl := (eq_of_some hm16).symm
    exact WQ.ret1 Z Z fun w hw => kg hw
   refine sk (WQ.block (WQ.then (WC.region (wm Z ?_))))
   obtain ⟨c44, hm45⟩ := cs hm43; clear hm43
   refine wq Z (QV.add Z Z Z Z c44) (wa Z (WL.nil ?_))
   exact WQ.again1 (i6_2 + 1) m21 (up_next hm45 hn24) (Nat.lt_succ_self _) ⟨Z, Z, Z, trivial⟩ (pk [0, 1, 2])
  refine WC.exit (te (te (WQ.block_exit ?_)))
  exact WQ.out1 i6_2 (up_brk hm46 hn24) ⟨Z, Z, Z, trivial⟩ (pk [0, 1, 2])
 rintro i5_1 m47 hI48
 obtain ⟨m49, s50, rfl, hm51, hn52⟩ := iter_step hI48; clear hI48; unfold R2_Fits_L0 at hm51
 refine WC.seq (sr (wm Z (wf fd50_0 Z (wl pl32 Z (Own.cell 0 Z Z) (wq Z (QV.lenS Try.underlying32 Z Z h_s_bef.slen) (wq Z (QV.lss Z Z Z Z) (nt ?_)))))))
 refine wc Z hm51 (fun h53 hm54 => ?_) (fun h53 hm67 => ?_) <;> clear hm51
 ·skip
  refine sk (WQ.then (WC.seq (WC.block (sr (wf fd50_0 Z (wl pl32 Z (Own.cell 0 Z Z) (wm Z ?_)))))))
  obtain ⟨c55, hm56⟩ := cs hm54; clear hm54
  obtain ⟨p57, u59, hp58, hc60, hA61⟩ := h_s_bef.ix c55
  refine wq Z (QV.indexSlice sl32 Z Z Z Z hp58) (wl pl33 Z (fun w hw => CellsAt.one 0 ((Own.kcells 2 Z hk hc60) w hw) Z) (wq Z (QV.lenS Try.underlying33 Z Z hA61.lenMap) (wq Z (QV.neq Z Z Z Z) (nt ?_))))
  refine wc Z hm56 (fun h62 hm63 => ?_) (fun h62 hm64 => ?_) <;> clear hm56
  ·skip
   refine sr (wa Z (nt (WC.ret (kr (tr (tr (kr (tr (tr ?_)))))))))
   obtain rfl := up_ret hm63 hn52
   obtain rfl := (eq_of_some hm11).symm
   exact WQ.ret1 Z Z fun w hw => kg hw
  refine sk (WQ.block (WQ.then (WC.region (wm Z ?_))))
  obtain ⟨c65, hm66⟩ := cs hm64; clear hm64
  refine wq Z (QV.add Z Z Z Z c65) (wa Z (WL.nil ?_))
  exact WQ.again1 (i5_1 + 1) m49 (up_next hm66 hn52) (Nat.lt_succ_self _) ⟨Z, Z, Z, trivial⟩ (pk [0, 1, 2])
 refine WC.exit (te (te (WQ.block_exit ?_)))
 exact WQ.out1 i5_1 (up_brk hm67 hn52) ⟨Z, Z, Z, trivial⟩ (pk [0, 1, 2])
end Go.Proofs.Ytaimbkndebaaiac
end
section
namespace Go.Proofs.Ytaimbkndebaaiac
open Go.Rd
open TNum TLoop
namespace TKern
theorem ag146 : AggT Try.prog 146 2 := ⟨_, Try.underlying146, rfl, by kernel_rfl⟩
theorem ag31 : AggT Try.prog 31 3 := ⟨_, Try.underlying31, rfl, by kernel_rfl⟩
theorem ag75 : AggT Try.prog 75 10 := ⟨_, Try.underlying75, rfl, by kernel_rfl⟩
theorem ar146 : ArrayT Try.prog 146 2 1 := ⟨_, Try.underlying146, by kernel_rfl⟩
theorem en118 : Go.Rd.Enters Try.prog 118 := eT Try.func118
theorem en88 : Go.Rd.Enters Try.prog 88 := eT Try.func88
theorem en95 : Go.Rd.Enters Try.prog 95 := eT Try.func95
theorem en96 : Go.Rd.Enters Try.prog 96 := eT Try.func96
theorem fd31_0 : FieldT Try.prog 31 0 0 := fT 0 Try.underlying31
theorem fd31_1 : FieldT Try.prog 31 1 1 := fT 0 Try.underlying31
theorem fd31_2 : FieldT Try.prog 31 2 2 := fT 0 Try.underlying31
theorem fd75_0 : FieldT Try.prog 75 0 0 := fT 0 Try.underlying75
theorem fd75_1 : FieldT Try.prog 75 1 1 := fT 0 Try.underlying75
theorem fd75_2 : FieldT Try.prog 75 2 2 := fT 0 Try.underlying75
theorem fd75_3 : FieldT Try.prog 75 3 3 := fT 0 Try.underlying75
theorem fd75_4 : FieldT Try.prog 75 4 4 := fT 0 Try.underlying75
theorem fd75_5 : FieldT Try.prog 75 5 5 := fT 0 Try.underlying75
theorem fd75_6 : FieldT Try.prog 75 6 6 := fT 0 Try.underlying75
theorem fd75_7 : FieldT Try.prog 75 7 7 := fT 0 Try.underlying75
theorem fd75_8 : FieldT Try.prog 75 8 8 := fT 0 Try.underlying75
theorem fd75_9 : FieldT Try.prog 75 9 9 := fT 0 Try.underlying75
theorem kt146 : KeyT Try.prog 146 kP := KeyT.pair Try.underlying146 Try.underlying3 (by kernel_rfl)
theorem mt145 : MapT Try.prog 145 146 3 := Try.underlying145
theorem pl29 : Plain Try.prog 29 := ⟨_, Try.underlying29, rfl⟩
theorem sl29 : SliceT Try.prog 29 75 10 := ⟨Try.underlying29, by kernel_rfl⟩
theorem sz146 : SizeT Try.prog 146 2 := by unfold SizeT; kernel_rfl
theorem sz25 : SizeT Try.prog 25 3 := by unfold SizeT; kernel_rfl
theorem sz3 : SizeT Try.prog 3 1 := by unfold SizeT; kernel_rfl
theorem sz75 : SizeT Try.prog 75 10 := by unfold SizeT; kernel_rfl
theorem sz_23 : SliceZ Try.prog 23 81 9 [.int .i64 0, .int .i64 0, .int .i64 0, .int .i64 0, .int .i64 0, .int .i64 0, .int .i64 0, .int .i64 0, .int .i64 0] := ⟨Try.underlying23, by kernel_rfl⟩
theorem ze146 : ZeroT Try.prog 146 [.int .i64 0, .int .i64 0] := by unfold ZeroT; kernel_rfl
theorem ze25 : ZeroT Try.prog 25 [.slice none 0 0, .slice none 0 0, .slice none 0 0] := by unfold ZeroT; kernel_rfl
theorem ze3 : ZeroT Try.prog 3 [.int .i64 0] := by unfold ZeroT; kernel_rfl
theorem ze75 : ZeroT Try.prog 75 [.int .i64 0, .int .i64 0, .int .i64 0, .int .i64 0, .int .i64 0, .int .i64 0, .int .i64 0, .int .i64 0, .int .i64 0, .int .i64 0] := by unfold ZeroT; kernel_rfl
theorem zv3i64v : ZVal Try.prog 3 (i64v 0) := by unfold ZVal; kernel_rfl
end TKern
open TKern
theorem kernel_Stmt_w {o : Opr} {r : Stm} (w : World) (hm : kernel_Stmt_m o = some r)  : Calls Try.prog 95 #[.agg #[.int .i64 o.slot, .int .i64 o.stage, .int .i64 o.op, .int .i64 o.dest, .int .i64 o.a, .int .i64 o.b, .int .i64 o.ar, .int .i64 o.sp, .int .i64 o.pl, .int .i64 o.n]] w (fun e w' => e = .returned (.agg #[.int .i64 r.op, .int .i64 r.a.st, .int .i64 r.a.bk, .int .i64 r.b.st, .int .i64 r.b.bk, .int .i64 r.ar, .int .i64 r.sp, .int .i64 r.pl, .int .i64 r.n]) ∧ Grow w w') := by
 unfold kernel_Stmt_m at hm
 have hk := Base.rfl (w := w)
 refine calls_of_WC (n := 14) (args := [.agg #[i_ o.slot, i_ o.stage, i_ o.op, i_ o.dest, i_ o.a, i_ o.b, i_ o.ar, i_ o.sp, i_ o.pl, i_ o.n]]) Try.func95 Z Z (nl Z) ?_ (Own.startK hk (Own.start w))
 refine sr (WL.effect Z ?_)
 refine (EV.boxAgg (by decide) Z Z (fun b1 => ?_))
 refine WL.effect Z ?_
 refine (EV.alloc (by decide) ze81 (fun b2 => ?_))
 refine ns (wf fd75_2 Z (wl pl3 Z (Own.cell 1 Z Z) (wf fd75_6 Z (wl pl3 Z (Own.cell 1 Z Z) (wf fd75_7 Z (wl pl3 Z (Own.cell 1 Z Z) (wf fd75_8 Z (wl pl3 Z (Own.cell 1 Z Z) (wf fd75_9 Z ?_)))))))))
 refine wl pl2 Z (Own.cell 1 Z Z) (wq Z (QV.build (ps := [(0, .tmp 4), (3, .tmp 6), (4, .tmp 8), (5, .tmp 10), (6, .tmp 12)]) (cells := [i_ o.op, i_ 0, i_ 0, i_ 0, i_ 0, i_ o.ar, i_ o.sp, i_ o.pl, i_ o.n]) (ec Z (ec Z (ec Z (ec Z (ec Z eN))))) (by kernel_rfl)) (WL.effect Z ?_))
 refine (EV.store 0 Z Z Z Z Z Z (vs := [i_ o.op, i_ 0, i_ 0, i_ 0, i_ 0, i_ o.ar, i_ o.sp, i_ o.pl, i_ o.n]) (show Value.cells _ = List.toArray _ from Z) sz81 (nl Z) (oc Z (oc Z (oc Z (oc Z (oc Z (oc Z (oc Z (oc Z (oc Z one_nil))))))))) ?_)
 refine nt (WC.ret ?_)
 obtain rfl := (eq_of_some hm).symm
 exact WQ.retCell Z ag81 Z Z (Own.cellsBlk 0 Z) fun w hw => kg hw
theorem kernel_Time_w {v_k__ops : Value} {k_ : Krn} {o : Opr} {r : Int} (w : World) (hm : kernel_Time_m k_ o = some r) (h_k__ops : Arr w v_k__ops 10 (k_.ops.map Opr.cells)) : Calls Try.prog 96 #[.agg #[.int .i64 k_.pace, .int .i64 k_.stages, v_k__ops], .agg #[.int .i64 o.slot, .int .i64 o.stage, .int .i64 o.op, .int .i64 o.dest, .int .i64 o.a, .int .i64 o.b, .int .i64 o.ar, .int .i64 o.sp, .int .i64 o.pl, .int .i64 o.n]] w (fun e w' => e = .returned (.int .i64 r) ∧ Grow w w') := by
 unfold kernel_Time_m at hm
 have hk := Base.rfl (w := w)
 refine calls_of_WC (n := 13) (args := [.agg #[i_ k_.pace, i_ k_.stages, v_k__ops], .agg #[i_ o.slot, i_ o.stage, i_ o.op, i_ o.dest, i_ o.a, i_ o.b, i_ o.ar, i_ o.sp, i_ o.pl, i_ o.n]]) Try.func96 Z Z (nl Z) ?_ (Own.startK hk (Own.start w))
 refine sr (WL.effect Z ?_)
 refine (EV.boxAgg (by decide) Z Z (fun b1 => ?_))
 refine WL.effect Z ?_
 refine (EV.boxAgg (by decide) Z Z (fun b2 => ?_))
 refine wa Z (ns (wf fd75_1 Z (wl pl3 Z (Own.cell 0 Z Z) (wf fd31_0 Z (wl pl3 Z (Own.cell 1 Z Z) ?_)))))
 obtain ⟨c3, c5, hm6⟩ := cs2 hm; clear hm
 refine wq Z (QV.mul Z Z Z Z c3) (wf fd75_0 Z (wl pl3 Z (Own.cell 0 Z Z) (wq Z (QV.add Z Z Z Z c5) (wa Z (nt (WC.ret ?_))))))
 obtain rfl := (eq_of_some hm6).symm
 exact WQ.ret1 Z Z fun w hw => kg hw
theorem kernel_op_c1_w {p_n p_t : Addr} {r_ from_ n : Int} {t : Tgt} {r : Bool} (w : World) (hm : kernel_op_c1_m r_ from_ n t = some r) (hp_n : CellsAt w p_n [.int .i64 n] 0) (hp_t : CellsAt w p_t [.int .i64 t.u0, .int .i64 t.u1, .int .i64 t.u2, .int .i64 t.w0, .int .i64 t.w1, .int .i64 t.w2, .int .i64 t.regs] 0) : Calls Try.prog 118 #[.int .i64 r_, .int .i64 from_, .pointer (some p_n), .pointer (some p_t)] w (fun e w' => e = .returned (.bool r) ∧ Grow w w') := by
 unfold kernel_op_c1_m at hm
 have hk := Base.rfl (w := w)
 refine calls_of_WC (n := 24) (args := [i_ r_, i_ from_, .pointer (some p_n), .pointer (some p_t)]) Try.func118 Z Z (nl Z) ?_ (Own.startK hk (Own.start w))
 refine sr (wa Z (ns (wm Z (wq Z (QV.eql Z Z Z Z) (wm Z (gn Z (fun hG => QV.load pl3 Z Z (fun w hw => CellsAt.one 0 ((Own.kcells 0 Z hk hp_n) w hw) Z)) (gn Z (fun hG => QV.move Z Z) (gn Z (fun hG => QV.gtr Z hG Z hG) (gn Z (fun hG => QV.move Z hG) ?_)))))))))
 refine gpC Z (fun hG => QV.move Z Z) (gpC Z (fun hG => QV.gtr Z hG Z Z) (gn Z (fun hG => QV.pickAnd Z hG Z (fun h => andT hG h)) (gn Z (fun hG => QV.move Z hG) (gpC Z (fun hG => QV.move Z Z) (gpC Z (fun hG => QV.fieldAddr fd28_2 Z Z) (gpC Z (fun hG => QV.load pl3 Z hG (fun w hw => CellsAt.one 6 ((Own.kcells 0 Z hk hp_t) w hw) Z)) (gpC Z (fun hG => QV.lss Z hG Z hG) (gn Z (fun hG => QV.pickAnd Z hG Z (fun h => andT hG h)) (wq Z (QV.pickOr Z Z Z (fun h => notF h)) ?_)))))))))
 refine wa Z (nt (WC.ret ?_))
 obtain rfl := (eq_of_some hm).symm
 exact WQ.ret1 Z Z fun w hw => kg hw
theorem kernel_op_w {v_k__ops v_logs : Value} {t : Tgt} {k_ : Krn} {o : Opr} {logs : List Int} {r : Bool} (w : World) (hm : kernel_op_m t k_ o logs = some r) (h_k__ops : Arr w v_k__ops 10 (k_.ops.map Opr.cells)) (h_logs : Arr w v_logs 1 (logs.map icell)) : Calls Try.prog 88 #[.agg #[.int .i64 t.u0, .int .i64 t.u1, .int .i64 t.u2, .int .i64 t.w0, .int .i64 t.w1, .int .i64 t.w2, .int .i64 t.regs], .agg #[.int .i64 k_.pace, .int .i64 k_.stages, v_k__ops], .agg #[.int .i64 o.slot, .int .i64 o.stage, .int .i64 o.op, .int .i64 o.dest, .int .i64 o.a, .int .i64 o.b, .int .i64 o.ar, .int .i64 o.sp, .int .i64 o.pl, .int .i64 o.n], v_logs] w (fun e w' => e = .returned (.bool r) ∧ Grow w w') := by
 unfold kernel_op_m at hm
 have hk := Base.rfl (w := w)
 refine calls_of_WC (n := 88) (args := [.agg #[i_ t.u0, i_ t.u1, i_ t.u2, i_ t.w0, i_ t.w1, i_ t.w2, i_ t.regs], .agg #[i_ k_.pace, i_ k_.stages, v_k__ops], .agg #[i_ o.slot, i_ o.stage, i_ o.op, i_ o.dest, i_ o.a, i_ o.b, i_ o.ar, i_ o.sp, i_ o.pl, i_ o.n], v_logs]) Try.func88 Z Z (nl Z) ?_ (Own.startK hk (Own.start w))
 refine sr (WL.effect Z ?_)
 refine (EV.boxAgg (by decide) Z Z (fun b1 => ?_))
 refine WL.effect Z ?_
 refine (EV.boxAgg (by decide) Z Z (fun b2 => ?_))
 refine WL.effect Z ?_
 refine (EV.boxAgg (by decide) Z Z (fun b3 => ?_))
 refine wa Z (ns (wq Z (QV.loadAgg ag75 Z Z Z (Own.cellsBlk 0 Z)) ?_))
 obtain ⟨x4, hx5, hm6⟩ := bd_some hm; clear hm
 refine wq Z (QV.call en95 (ec Z eN) (fun w hw => have h := kernel_Stmt_w w hx5 ; h)) (WL.effect Z ?_)
 refine (EV.alloc (by decide) ze81 (fun b7 => ?_))
 refine WL.effect Z ?_
 refine (EV.store 0 Z Z Z Z Z Z (vs := x4.cells) (show Value.cells _ = List.toArray _ from Z) sz81 (nl Z) (oc Z (oc Z (oc Z (oc Z (oc Z (oc Z (oc Z (oc Z (oc Z one_nil))))))))) ?_)
 refine ns (wq Z (QV.loadAgg ag81 Z Z Z (Own.cellsBlk 0 Z)) (WL.effect Z ?_))
 obtain ⟨x8, hx9, hm10⟩ := bd_some hm6; clear hm6
 refine EV.of (C' := Own noM w [kn noM w.heap.size w w, blk b7 x4.cells 81, blk b3 o.cells 75, blk b2 [i_ k_.pace, i_ k_.stages, v_k__ops] 31, blk b1 t.cells 28]) (pk [4, 0, 1, 2, 3]) ?_
 refine (EV.callR (X := Value × World) (R := []) (fun X => X.1) (fun X => []) (fun X => X.2) (fun X => Arr X.2 X.1 2 (x8.map Rf.cells)) hk (fun _ h => by cases h; decide) en66 (ec Z eN) (fun M w h1 h2 => have h := loop_Uses_w hx9  M w h1 h2; h) (fun X11 hF11 hle11 => ?_))
 refine wq Z (QV.lenS Try.underlying76 Z Z hF11.lenMap) (WL.effect Z ?_)
 refine (EV.alloc (by decide) ze3 (fun b12 => ?_))
 refine WL.effect Z ?_
 refine (EV.store 0 Z Z Z Z Z Z (vs := [i_ (ln x8)]) (show Value.cells _ = List.toArray _ from Z) sz3 (nl Z) (oc Z one_nil) ?_)
 refine ns (wq Z (QV.makeFunc (ec Z (ec Z eN))) (wa Z (nt (WC.seq (sr (wl pl3 Z (Own.cell 0 Z Z) (wq Z (QV.gtr Z Z Z Z) (nt ?_))))))))
 obtain ⟨o13, hj14, hm15⟩ := bd_some hm10; clear hm10
 refine WC.joint4 (H2 := [blk b12 [i_ (ln x8)] 3, kn noM w.heap.size w X11.2, blk b3 o.cells 75, blk b2 [i_ k_.pace, i_ k_.stages, v_k__ops] 31, blk b1 t.cells 28]) (τ := [u_ 3 _, u_ 4 _, u_ 5 _, u_ 6 _, u_ 9 _, u_ 11 _]) (fun (b7c1_1 : Int) (b7c2_1 : Int) (b7c3_1 : Int) (b7c4_1 : Int) => []) (fun b7c1_1 b7c2_1 b7c3_1 b7c4_1 => [blk b7 [i_ x4.op, i_ b7c1_1, i_ b7c2_1, i_ b7c3_1, i_ b7c4_1, i_ x4.ar, i_ x4.sp, i_ x4.pl, i_ x4.n] 81]) (fun b7c1_1 b7c2_1 b7c3_1 b7c4_1 => o13 = .go (b7c1_1, b7c2_1, b7c3_1, b7c4_1)) ⟨Z, Z, Z, Z, Z, Z, trivial⟩ (pk [0, 1, 3, 4, 5]) ?_ ?_
 ·skip
  rintro b7c1_1 b7c2_1 b7c3_1 b7c4_1 rfl
  refine sr (wm Z (wq Z (QV.build (ps := [(0, .const (i_ 1))]) (cells := [i_ 1, i_ 0, i_ 0, i_ 0, i_ 0, i_ 0, i_ 0, i_ 0, i_ 0]) (ec Z eN) (by kernel_rfl)) (wq Z (QV.loadAgg ag81 Z Z Z (Own.cellsBlk 0 Z)) (WL.effect Z ?_))))
  refine (EV.buildSlice (by decide) sz_23 (by decide) (by decide) (ps := [(0, .tmp 27), (1, .tmp 28)]) (cells := [i_ 1, i_ 0, i_ 0, i_ 0, i_ 0, i_ 0, i_ 0, i_ 0, i_ 0, i_ x4.op, i_ b7c1_1, i_ b7c2_1, i_ b7c3_1, i_ b7c4_1, i_ x4.ar, i_ x4.sp, i_ x4.pl, i_ x4.n]) (ec Z (ec Z eN)) (by kernel_rfl) (fun b16 => ?_))
  refine wq Z (QV.buildS (ps := [(0, .tmp 26), (1, .tmp 29)]) (cells := [v_logs, (blkSlice b16 2 2), .slice none 0 0]) (css := [[v_logs], [(blkSlice b16 2 2)]]) (ec Z (ec Z eN)) (CellsAll.cons (SliceLen.cells (h_logs.le hle11).lenMap) (CellsAll.cons (SliceLen.cells SliceLen.blk) CellsAll.nil)) (by kernel_rfl)) (WL.effect Z ?_)
  refine (EV.alloc (by decide) ze25 (fun b17 => ?_))
  refine WL.effect Z ?_
  refine (EV.store 0 Z Z Z Z Z Z (vs := [v_logs, (blkSlice b16 2 2), .slice none 0 0]) (show Value.cells _ = List.toArray _ from Z) sz25 (nl Z) (oc (SliceLen.one (h_logs.le hle11).lenMap) (oc (SliceLen.one SliceLen.blk) (oc Z one_nil))) ?_)
  refine ns (wf fd75_0 Z (wl pl3 Z (Own.cell 5 Z Z) (wq Z (QV.geq Z Z Z Z) (wm Z (gp Z (fun hG => QV.fieldAddr fd75_0 Z Z) (gp Z (fun hG => QV.load pl3 Z hG (Own.cell 5 Z Z)) (gp Z (fun hG => QV.fieldAddr fd31_0 Z Z) (gp Z (fun hG => QV.load pl3 Z hG (Own.cell 6 Z Z)) (gp Z (fun hG => QV.lss Z hG Z hG) ?_)))))))))
  refine wq Z (QV.pickAnd Z Z Z (fun h => h)) (wm Z (gp Z (fun hG => QV.fieldAddr fd75_1 Z Z) (gp Z (fun hG => QV.load pl3 Z hG (Own.cell 5 Z Z)) (gp Z (fun hG => QV.geq Z hG Z Z) (wq Z (QV.pickAnd Z Z Z (fun h => h)) (wm Z (gp Z (fun hG => QV.fieldAddr fd75_1 Z Z) (gp Z (fun hG => QV.load pl3 Z hG (Own.cell 5 Z Z)) (gp Z (fun hG => QV.fieldAddr fd31_1 Z Z) ?_)))))))))
  refine gp Z (fun hG => QV.load pl3 Z hG (Own.cell 6 Z Z)) (gp Z (fun hG => QV.lss Z hG Z hG) (wq Z (QV.pickAnd Z Z Z (fun h => h)) (wm Z (gp Z (fun hG => QV.loadAgg ag31 Z Z Z (Own.cellsBlk 6 Z)) (gp Z (fun hG => QV.loadAgg ag75 Z Z Z (Own.cellsBlk 5 Z)) ?_)))))
  obtain ⟨x18, hx19, hm20⟩ := bdG_some hm15; clear hm15
  refine gp Z (fun hG => QV.call en96 (EvAll.cons Z hG (EvAll.cons Z hG eN)) (fun w hw => have h := kernel_Time_w w (hx19 hG) ((Own.karr 4 Z hk (h_k__ops.le hle11)) w hw); h)) (gp Z (fun hG => QV.leq Z hG Z Z) (wq Z (QV.pickAnd Z Z Z (fun h => h)) (wa Z (ns (wm Z (wm Z (gp Z (fun hG => QV.loadAgg ag25 Z Z Z (Own.cellsBlk 0 Z)) ?_)))))))
  obtain ⟨x21, hx22, hm23⟩ := bdG_some hm20; clear hm20
  refine gp Z (fun hG => QV.call en38 (EvAll.cons Z hG eN) (fun w hw => have h := loop_May_w w (hx22 hG) ((Own.karr 4 Z hk (h_logs.le hle11)) w hw) ((Own.blkArr 1 (rows := [(Stm.mk 1 (Rf.mk 0 0) (Rf.mk 0 0) 0 0 0 0), (Stm.mk x4.op (Rf.mk b7c1_1 b7c2_1) (Rf.mk b7c3_1 b7c4_1) x4.ar x4.sp x4.pl x4.n)].map Stm.cells) Z Z (rows_len Stm.cells_len)) w hw) Arr.nil; h)) (wq Z (QV.pickAnd Z Z Z (fun h => h)) (wm Z (gp Z (fun hG => QV.fieldAddr fd75_3 Z Z) (gp Z (fun hG => QV.load pl3 Z hG (Own.cell 5 Z Z)) (gp Z (fun hG => QV.geq Z hG Z Z) (wq Z (QV.pickAnd Z Z Z (fun h => h)) (wm Z (gp Z (fun hG => QV.fieldAddr fd75_3 Z Z) (gp Z (fun hG => QV.load pl3 Z hG (Own.cell 5 Z Z)) ?_)))))))))
  refine gp Z (fun hG => QV.fieldAddr fd28_2 Z Z) (gp Z (fun hG => QV.load pl3 Z hG (Own.cell 7 Z Z)) (gp Z (fun hG => QV.lss Z hG Z hG) (wq Z (QV.pickAnd Z Z Z (fun h => h)) (wm Z (gp Z (fun hG => QV.move Z Z) (gp Z (fun hG => QV.fieldAddr fd75_4 Z Z) (gp Z (fun hG => QV.load pl3 Z hG (Own.cell 5 Z Z)) ?_)))))))
  obtain ⟨x24, hx25, hm26⟩ := bdG_some hm23; clear hm23
  refine gp Z (fun hG => QV.callV en118 Z hG (EvAll.cons Z hG (ec Z eN)) (fun w hw => have h := kernel_op_c1_w w (hx25 hG) (Own.cellsBlk 3 Z w hw) (Own.cellsBlk 7 Z w hw); h)) (wq Z (QV.pickAnd Z Z Z (fun h => h)) (wm Z (gp Z (fun hG => QV.move Z Z) (gp Z (fun hG => QV.fieldAddr fd75_5 Z Z) (gp Z (fun hG => QV.load pl3 Z hG (Own.cell 5 Z Z)) ?_)))))
  obtain ⟨x27, hx28, hm29⟩ := bdG_some hm26; clear hm26
  refine gp Z (fun hG => QV.callV en118 Z hG (EvAll.cons Z hG (ec Z eN)) (fun w hw => have h := kernel_op_c1_w w (hx28 hG) (Own.cellsBlk 3 Z w hw) (Own.cellsBlk 7 Z w hw); h)) (wq Z (QV.pickAnd Z Z Z (fun h => h)) (wa Z (nt (WC.ret ?_))))
  obtain rfl := (eq_of_some hm29).symm
  exact WQ.ret1 Z Z fun w hw => kg hw
 refine WC.cond Z (fun h30 => ?_) (fun h30 => ?_)
 ·skip
  have hm31 := br_t h30 hj14; clear hj14
  refine WC.region (wq Z (QV.build (ps := []) (cells := [i_ 0, i_ 0]) eN (by kernel_rfl)) (wq Z (QV.build (ps := []) (cells := [i_ 0, i_ 0]) eN (by kernel_rfl)) (wf fd81_1 Z (WL.effect Z ?_))))
  refine (EV.store 2 Z Z Z Z Z Z (vs := [i_ 0, i_ 0]) (show Value.cells _ = List.toArray _ from Z) sz79 (nl Z) (oc Z (oc Z one_nil)) ?_)
  refine wf fd81_2 Z (WL.effect Z ?_)
  refine (EV.store 2 Z Z Z Z Z Z (vs := [i_ 0, i_ 0]) (show Value.cells _ = List.toArray _ from Z) sz79 (nl Z) (oc Z (oc Z one_nil)) ?_)
  refine WL.nil ?_
  exact WQ.out4 0 0 0 0 (eq_of_some hm31) ⟨Z, Z, Z, Z, Z, Z, trivial⟩ (pk [2, 0, 1, 3, 4, 5])
 have hm32 := br_f h30 hj14; clear hj14
 refine sk ?_
 exact WQ.out4 x4.a.st x4.a.bk x4.b.st x4.b.bk (eq_of_some hm32) ⟨Z, Z, Z, Z, Z, Z, trivial⟩ (pk [2, 0, 1, 3, 4, 5])
theorem kernel_May_w {v_k__ops v_logs : Value} {t : Tgt} {k_ : Krn} {logs : List Int} {r : Bool} (w : World) (hm : kernel_May_m t k_ logs = some r) (h_k__ops : Arr w v_k__ops 10 (k_.ops.map Opr.cells)) (h_logs : Arr w v_logs 1 (logs.map icell)) : Calls Try.prog 56 #[.agg #[.int .i64 t.u0, .int .i64 t.u1, .int .i64 t.u2, .int .i64 t.w0, .int .i64 t.w1, .int .i64 t.w2, .int .i64 t.regs], .agg #[.int .i64 k_.pace, .int .i64 k_.stages, v_k__ops], v_logs] w (fun e w' => e = .returned (.bool r) ∧ Grow w w') := by
 unfold kernel_May_m at hm
 have hk := Base.rfl (w := w)
 refine calls_of_WC (n := 82) (args := [.agg #[i_ t.u0, i_ t.u1, i_ t.u2, i_ t.w0, i_ t.w1, i_ t.w2, i_ t.regs], .agg #[i_ k_.pace, i_ k_.stages, v_k__ops], v_logs]) Try.func56 Z Z (nl Z) ?_ (Own.startK hk (Own.start w))
 refine sr (WL.effect Z ?_)
 refine (EV.boxAgg (by decide) Z Z (fun b1 => ?_))
 refine WL.effect Z ?_
 refine (EV.boxAgg (by decide) Z Z (fun b2 => ?_))
 refine wa Z (nt (WC.seq (sr (wq Z (QV.loadAgg ag28 Z Z Z (Own.cellsBlk 1 Z)) ?_))))
 obtain ⟨x3, hx4, hm5⟩ := bd_some hm; clear hm
 refine wq Z (QV.call en39 (ec Z eN) (fun w hw => have h := target_May_w w hx4 ; h)) (wq Z (QV.not Z Z) (wm Z (gn Z (fun hG => QV.fieldAddr fd31_0 Z Z) (gn Z (fun hG => QV.load pl3 Z hG (Own.cell 0 Z Z)) (gn Z (fun hG => QV.lss Z hG Z Z) (wq Z (QV.pickOr Z Z Z (fun h => notF h)) (wm Z (gn Z (fun hG => QV.fieldAddr fd31_0 Z Z) (gn Z (fun hG => QV.load pl3 Z hG (Own.cell 0 Z Z)) ?_)))))))))
 refine gn Z (fun hG => QV.gtr Z hG Z Z) (wq Z (QV.pickOr Z Z Z (fun h => notF h)) (wm Z (gn Z (fun hG => QV.fieldAddr fd31_1 Z Z) (gn Z (fun hG => QV.load pl3 Z hG (Own.cell 0 Z Z)) (gn Z (fun hG => QV.lss Z hG Z Z) (wq Z (QV.pickOr Z Z Z (fun h => notF h)) (wm Z (gn Z (fun hG => QV.fieldAddr fd31_1 Z Z) (gn Z (fun hG => QV.load pl3 Z hG (Own.cell 0 Z Z)) ?_)))))))))
 refine gn Z (fun hG => QV.gtr Z hG Z Z) (wq Z (QV.pickOr Z Z Z (fun h => notF h)) (wm Z (gn Z (fun hG => QV.fieldAddr fd31_2 Z Z) (gn Z (fun hG => QV.load pl29 Z hG (Own.cell 0 Z Z)) (gn Z (fun hG => QV.lenS Try.underlying29 Z hG h_k__ops.lenMap) (gn Z (fun hG => QV.lss Z hG Z Z) (wq Z (QV.pickOr Z Z Z (fun h => notF h)) (wm Z (gn Z (fun hG => QV.fieldAddr fd31_2 Z Z) ?_)))))))))
 refine gn Z (fun hG => QV.load pl29 Z hG (Own.cell 0 Z Z)) (gn Z (fun hG => QV.lenS Try.underlying29 Z hG h_k__ops.lenMap) (gn Z (fun hG => QV.gtr Z hG Z Z) (wq Z (QV.pickOr Z Z Z (fun h => notF h)) (nt ?_))))
 refine wc Z hm5 (fun h6 hm7 => ?_) (fun h6 hm8 => ?_) <;> clear hm5
 ·skip
  refine sr (wa Z (nt (WC.ret (tr ?_))))
  obtain rfl := (eq_of_some hm7).symm
  exact WQ.ret1 Z Z fun w hw => kg hw
 refine sk (WQ.then (sr (WL.effect Z ?_)))
 refine (EV.makeMap (ke := kP) (ve := i64v) (by decide) (fun b9 => ?_))
 refine wa Z (nt (WC.seq (sr (wf fd31_2 Z (wl pl29 Z (Own.cell 1 Z Z) (wq Z (QV.lenS Try.underlying29 Z Z h_k__ops.lenMap) (wm Z (nt ?_))))))))
 obtain ⟨o10, ho11, hm12⟩ := bd_some hm8; clear hm8; obtain ⟨n13, ho14⟩ := lp_some ho11
 refine WC.bloop2 (H2 := [blk b2 [i_ k_.pace, i_ k_.stages, v_k__ops] 31, blk b1 t.cells 28, kn noM w.heap.size w w]) (τ := [u_ 2 _, u_ 3 _, u_ 4 _, u_ 7 _, u_ 48 _, u_ 49 _]) (fun (m9n_1 : List ((Int × Int) × Int)) (x50_1 : Int) => [(50, (true, i_ x50_1))]) (fun m9n_1 x50_1 => [mapR b9 kP i64v m9n_1]) (fun m9n_1 x50_1 m => iter (kernel_May_L0 t k_ logs) m (m9n_1, x50_1) = some o10) (fun m9n_1 x50_1 => o10 = .go (m9n_1, x50_1)) ([] : List ((Int × Int) × Int)) 0 n13 ho14 ⟨Z, Z, Z, Z, Z, Z, Z, trivial⟩ (pk [0, 1, 2, 3]) ?_ ?_
 ·skip
  rintro m9n_1 x50_1 rfl
  refine WQ.then (sr (wa Z (nt (WC.ret ?_))))
  obtain rfl := (eq_of_some hm12).symm
  exact WQ.ret1 Z Z fun w hw => kg hw
 rintro m9n_1 x50_1 m15 hI16
 obtain ⟨m17, s18, rfl, hm19, hn20⟩ := iter_step hI16; clear hI16; unfold kernel_May_L0 at hm19; simp only at hm19
 refine sr (wq Z (QV.lss Z Z Z Z) (nt (WC.seq ?_)))
 refine wc Z hm19 (fun h21 hm22 => ?_) (fun h21 hm48 => ?_) <;> clear hm19
 ·skip
  refine sk (WQ.then (WC.seq (WC.block (sr ?_))))
  obtain ⟨c23, hm24⟩ := cs hm22; clear hm22
  obtain ⟨p25, hp26⟩ := h_k__ops.lenMap.ix (sz := 10) ln_len c23
  refine wq Z (QV.indexSlice sl29 Z Z Z Z hp26) (wq Z (QV.loadAgg ag75 Z Z Z (fun w hw => ((Own.karr 3 Z hk h_k__ops) w hw).ele hp26 c23)) (WL.effect Z ?_))
  refine (EV.alloc (by decide) ze75 (fun b27 => ?_))
  refine WL.effect Z ?_
  refine (EV.store 0 Z Z Z Z Z Z (vs := (Opr.cells (ele k_.ops x50_1))) (show Value.cells _ = List.toArray _ from Z) sz75 (nl Z) (oc Z (oc Z (oc Z (oc Z (oc Z (oc Z (oc Z (oc Z (oc Z (oc Z one_nil)))))))))) ?_)
  refine nt (WC.seq (sr (wq Z (QV.loadAgg ag28 Z Z Z (Own.cellsBlk 3 Z)) (wq Z (QV.loadAgg ag31 Z Z Z (Own.cellsBlk 2 Z)) (wq Z (QV.loadAgg ag75 Z Z Z (Own.cellsBlk 0 Z)) (wm Z ?_))))))
  obtain ⟨x28, hx29, hm30⟩ := bd_some hm24; clear hm24
  refine wq Z (QV.call en88 (ec Z (ec Z (ec Z (ec Z eN)))) (fun w hw => have h := kernel_op_w w hx29 ((Own.karr 4 Z hk h_k__ops) w hw) ((Own.karr 4 Z hk h_logs) w hw); h)) (wq Z (QV.not Z Z) (nt ?_))
  refine wc Z hm30 (fun h31 hm32 => ?_) (fun h31 hm33 => ?_) <;> clear hm30
  ·skip
   refine sr (wa Z (nt (WC.ret (tr (kr (tr (tr (kr (tr (tr ?_))))))))))
   obtain rfl := up_ret hm32 hn20
   obtain rfl := (eq_of_some hm12).symm
   exact WQ.ret1 Z Z fun w hw => kg hw
  refine sk (WQ.then (WC.seq (WC.dr (m := 8) (S := Own noM w [kn noM w.heap.size w w, blk b27 (Opr.cells (ele k_.ops x50_1)) 75, mapR b9 kP i64v m9n_1, blk b2 [i_ k_.pace, i_ k_.stages, v_k__ops] 31, blk b1 t.cells 28]) (by kernel_rfl) (by kernel_rfl) (pk [4, 0, 1, 2, 3]) (zf 0 fd75_0 Z Z (zl 1 pl3 Z Z (Own.cell 1 Z Z) (zf 2 fd75_2 Z Z (zl 3 pl3 Z Z (Own.cell 1 Z Z) ?_)))))))
  obtain ⟨x34, hx35, hm36⟩ := bd_some hm33; clear hm33
  refine wz 4 Z Z (QV.call en89 (ec Z eN) (fun w hw => have h := num_Class_w w hx35 ; h)) (wz 5 Z Z (QV.build (ps := [(0, .tmp 61), (1, .tmp 64)]) (cells := [i_ ((ele k_.ops x50_1).slot), i_ x34]) (ec Z (ec Z eN)) (by kernel_rfl)) ?_)
  refine WD.o 6 Z (by kernel_rfl) Z ?_
  refine (EV.alloc (by decide) ze146 (fun b37 => ?_))
  refine WD.b (H' := [kn noM w.heap.size w w, blk b37 [i_ 0, i_ 0] 146, blk b27 (Opr.cells (ele k_.ops x50_1)) 75, mapR b9 kP i64v m9n_1, blk b2 [i_ k_.pace, i_ k_.stages, v_k__ops] 31, blk b1 t.cells 28]) (pk [5, 0, 1, 2, 3, 4]) (pk [0, 2, 3, 4, 5]) ?_
  refine WD.l 7 Z (by kernel_rfl) Z ?_
  refine (EV.store 0 Z Z Z Z Z Z (vs := [i_ ((ele k_.ops x50_1).slot), i_ x34]) (show Value.cells _ = List.toArray _ from Z) sz146 (nl Z) (oc Z (oc Z one_nil)) ?_)
  refine WQ.then (WC.seq (WC.dr (m := 7) (S := Own noM w [kn noM w.heap.size w w, blk b37 [i_ ((ele k_.ops x50_1).slot), i_ x34] 146, blk b27 (Opr.cells (ele k_.ops x50_1)) 75, mapW b9 kP i64v 0 m9n_1, blk b2 [i_ k_.pace, i_ k_.stages, v_k__ops] 31, blk b1 t.cells 28]) (by kernel_rfl) (by kernel_rfl) (fun w hw => Own.mapWeak 3 0 Z (hw.pick [5, 0, 1, 2, 3, 4] (by decide))) (zm 0 Z Z (wz 1 Z Z (QV.loadAgg ag146 Z Z Z (Own.cellsBlk 1 Z)) (wz 2 Z Z (QV.lookupW (k := ((ele k_.ops x50_1).slot, x34)) 3 0 mt145 kt146 zv3i64v Z Z Z Z Z) ?_)))))
  obtain ⟨c38, c41, hm42⟩ := cs2 hm36; clear hm36
  refine wz 3 Z Z (QV.add Z Z Z Z c38) ?_
  refine WD.o 4 Z (by kernel_rfl) Z ?_
  refine (EV.mapEntry (by decide) ((ele k_.ops x50_1).slot, x34) 2 0 mt145 kt146 zv3i64v Z Z Z Z Z (fun s40 => ?_))
  refine WD.b (H' := [kn noM w.heap.size w w, blk b37 [i_ ((ele k_.ops x50_1).slot), i_ x34] 146, blk b27 (Opr.cells (ele k_.ops x50_1)) 75, mapW b9 kP i64v 0 m9n_1, blk b2 [i_ k_.pace, i_ k_.stages, v_k__ops] 31, blk b1 t.cells 28]) (fun w hw => Own.midWeak 3 Z (hw.pick [5, 0, 1, 2, 3, 4] (by decide))) (pk [0, 1, 2, 3, 4, 5]) ?_
  refine wz 5 Z Z (QV.extract Z Z Z) ?_
  refine WD.l 6 Z (by kernel_rfl) Z ?_
  refine (EV.entryStore (ke := kP) (ve := i64v) ((ele k_.ops x50_1).slot, x34) 2 ((mget m9n_1 ((ele k_.ops x50_1).slot, x34) 0) + 1) s40 Z Z Z Z Z Z Z ?_)
  refine WQ.then (WC.seq (WC.dr (m := 9) (S := Own noM w [kn noM w.heap.size w w, blk b37 [i_ ((ele k_.ops x50_1).slot), i_ x34] 146, blk b27 (Opr.cells (ele k_.ops x50_1)) 75, mapR b9 kP i64v (mput m9n_1 ((ele k_.ops x50_1).slot, x34) ((mget m9n_1 ((ele k_.ops x50_1).slot, x34) 0) + 1)), blk b2 [i_ k_.pace, i_ k_.stages, v_k__ops] 31, blk b1 t.cells 28]) (by kernel_rfl) (by kernel_rfl) (pk [5, 0, 1, 2, 3, 4]) (zm 0 Z Z (wz 1 Z Z (QV.loadAgg ag146 Z Z Z (Own.cellsBlk 1 Z)) (wz 2 Z Z (QV.lookup (k := ((ele k_.ops x50_1).slot, x34)) 3 0 mt145 kt146 zv3i64v Z Z Z Z Z) (wz 3 Z Z (QV.indexArray ar146 Z Z Z Z (by decide) (by decide)) (zl 4 pl3 Z Z (Own.cell 1 Z Z) (zf 5 fd28_0 Z Z (wz 6 Z Z (QV.indexArray ar26 Z Z Z Z c41.1 c41.2) ?_)))))))))
  refine zl 7 pl3 Z Z (Own.cellSym 5 Z (sel3_get (off := 0) (i := x34) c41.1 c41.2 Z Z Z) (addr_sym _ _ _)) (wz 8 Z Z (QV.gtr Z Z Z Z) ?_)
  refine WD.e (by kernel_rfl) ?_
  refine WQ.then ?_
  refine wc Z hm42 (fun h43 hm44 => ?_) (fun h43 hm45 => ?_) <;> clear hm42
  ·skip
   refine sr (wa Z (nt (WC.ret (kr (tr (tr (kr (tr (tr ?_)))))))))
   obtain rfl := up_ret hm44 hn20
   obtain rfl := (eq_of_some hm12).symm
   exact WQ.ret1 Z Z fun w hw => kg hw
  refine sk (WQ.block (WQ.then (WC.region ?_)))
  obtain ⟨c46, hm47⟩ := cs hm45; clear hm45
  refine wq Z (QV.add Z Z Z Z c46) (wm Z (WL.nil ?_))
  exact WQ.again2 (mput m9n_1 ((ele k_.ops x50_1).slot, x34) ((mget m9n_1 ((ele k_.ops x50_1).slot, x34) 0) + 1)) (x50_1 + 1) m17 (up_next hm47 hn20) (Nat.lt_succ_self _) ⟨Z, Z, Z, Z, Z, Z, Z, trivial⟩ (pk [2, 3, 4, 5])
 refine WC.exit (te (te (WQ.block_exit ?_)))
 exact WQ.out2 m9n_1 x50_1 (up_brk hm48 hn20) ⟨Z, Z, Z, Z, Z, Z, Z, trivial⟩ (pk [0, 1, 2, 3])
end Go.Proofs.Ytaimbkndebaaiac
end
section
namespace Go.Proofs.Ytaimbkndebaaiac
open Go.Rd
open TNum TLoop TKern
namespace TKeep
theorem ag185 : AggT Try.prog 185 2 := ⟨_, Try.underlying185, rfl, by kernel_rfl⟩
theorem en101 : Go.Rd.Enters Try.prog 101 := eT Try.func101
theorem en102 : Go.Rd.Enters Try.prog 102 := eT Try.func102
theorem en125 : Go.Rd.Enters Try.prog 125 := eT Try.func125
theorem en138 : Go.Rd.Enters Try.prog 138 := eT Try.func138
theorem en36 : Go.Rd.Enters Try.prog 36 := eT Try.func36
theorem fd185_0 : FieldT Try.prog 185 0 0 := fT 0 Try.underlying185
theorem fd185_1 : FieldT Try.prog 185 1 1 := fT 0 Try.underlying185
theorem fd87_0 : FieldT Try.prog 87 0 0 := fT 2 Try.underlying87
theorem fd87_1 : FieldT Try.prog 87 1 3 := fT 0 Try.underlying87
theorem fd87_2 : FieldT Try.prog 87 2 4 := fT 0 Try.underlying87
theorem fd87_3 : FieldT Try.prog 87 3 5 := fT 0 Try.underlying87
theorem fd87_4 : FieldT Try.prog 87 4 6 := fT 0 Try.underlying87
theorem fd87_5 : FieldT Try.prog 87 5 7 := fT 0 Try.underlying87
theorem kt3 : KeyT Try.prog 3 kI := KeyT.int Try.underlying3
theorem mt154 : MapT Try.prog 154 3 4 := Try.underlying154
theorem pl4 : Plain Try.prog 4 := ⟨_, Try.underlying4, rfl⟩
theorem sl162 : SliceT Try.prog 162 185 2 := ⟨Try.underlying162, by kernel_rfl⟩
theorem sz185 : SizeT Try.prog 185 2 := by unfold SizeT; kernel_rfl
theorem sz_162 : SliceZ Try.prog 162 185 2 [.int .i64 0, .bool false] := ⟨Try.underlying162, by kernel_rfl⟩
theorem ve162 : VecT Try.prog 162 185 2 16 := ⟨Try.underlying162, by kernel_rfl, by decide⟩
theorem ze185 : ZeroT Try.prog 185 [.int .i64 0, .bool false] := by unfold ZeroT; kernel_rfl
theorem zv4bv : ZVal Try.prog 4 (bv false) := by unfold ZVal; kernel_rfl
end TKeep
open TKeep
theorem keep_Far_w {v_l_logs v_l_body v_l_outs : Value} {l : Lp} {a r : Int} (w : World) (hm : keep_Far_m l a = some r) (h_l_logs : Arr w v_l_logs 1 (l.logs.map icell)) (h_l_body : Arr w v_l_body 9 (l.body.map Stm.cells)) (h_l_outs : Arr w v_l_outs 1 (l.outs.map icell)) : Calls Try.prog 36 #[.agg #[v_l_logs, v_l_body, v_l_outs], .int .i64 a] w (fun e w' => e = .returned (.int .i64 r) ∧ Grow w w') := by
 unfold keep_Far_m at hm
 have hk := Base.rfl (w := w)
 refine calls_of_WC (n := 35) (args := [.agg #[v_l_logs, v_l_body, v_l_outs], i_ a]) Try.func36 Z Z (nl Z) ?_ (Own.startK hk (Own.start w))
 refine sr (WL.effect Z ?_)
 refine (EV.boxAgg (by decide) Z Z (fun b1 => ?_))
 refine wa Z (ns (wa Z (nt (WC.seq (sr (wf fd25_1 Z (wl pl23 Z (Own.cell 0 Z Z) (wq Z (QV.lenS Try.underlying23 Z Z h_l_body.lenMap) (wm Z (nt ?_))))))))))
 obtain ⟨o2, ho3, hm4⟩ := bd_some hm; clear hm; obtain ⟨n5, ho6⟩ := lp_some ho3
 refine WC.bloop3 (H2 := [blk b1 [v_l_logs, v_l_body, v_l_outs] 25]) (τ := [u_ 1 _, u_ 11 _, u_ 12 _]) (fun (far5_3 : Int) (x13_3 : Int) (k_3 : World) => [(5, (true, i_ far5_3)), (13, (true, i_ x13_3))]) (fun far5_3 x13_3 k_3 => [kn noM w.heap.size w k_3]) (fun far5_3 x13_3 k_3 m => iter (keep_Far_L0 l a) m (far5_3, x13_3) = some o2 ∧ Le w k_3) (fun far5_3 x13_3 k_3 => o2 = .go (far5_3, x13_3) ∧ Le w k_3) 0 0 w n5 ⟨ho6, (Le.refl _)⟩ ⟨Z, Z, Z, Z, Z, trivial⟩ (pk [1, 0]) ?_ ?_
 ·skip
  rintro far5_3 x13_3 k_3 ⟨rfl, hle_3⟩
  refine WQ.then (sr (wm Z (wa Z (nt (WC.ret ?_)))))
  obtain rfl := (eq_of_some hm4).symm
  exact WQ.ret1 Z Z fun w hw => kg hw
 rintro far5_3 x13_3 k_3 m7 ⟨hI8, hle_3⟩
 obtain ⟨m9, s10, rfl, hm11, hn12⟩ := iter_step hI8; clear hI8; unfold keep_Far_L0 at hm11; simp only at hm11
 refine sr (wq Z (QV.lss Z Z Z Z) (nt (WC.seq ?_)))
 refine wc Z hm11 (fun h13 hm14 => ?_) (fun h13 hm52 => ?_) <;> clear hm11
 ·skip
  refine sk (WQ.then (WC.seq (WC.block (sr ?_))))
  obtain ⟨c15, hm16⟩ := cs hm14; clear hm14
  obtain ⟨p17, hp18⟩ := (h_l_body.le hle_3).lenMap.ix (sz := 9) ln_len c15
  refine wq Z (QV.indexSlice sl23 Z Z Z Z hp18) (wq Z (QV.loadAgg ag81 Z Z Z (fun w hw => ((Own.karr 0 Z hk (h_l_body.le hle_3)) w hw).ele hp18 c15)) (WL.effect Z ?_))
  refine (EV.alloc (by decide) ze81 (fun b19 => ?_))
  refine WL.effect Z ?_
  refine (EV.store 0 Z Z Z Z Z Z (vs := (Stm.cells (ele l.body x13_3))) (show Value.cells _ = List.toArray _ from Z) sz81 (nl Z) (oc Z (oc Z (oc Z (oc Z (oc Z (oc Z (oc Z (oc Z (oc Z one_nil))))))))) ?_)
  refine ns (wq Z (QV.loadAgg ag81 Z Z Z (Own.cellsBlk 0 Z)) (WL.effect Z ?_))
  obtain ⟨x20, hx21, hm22⟩ := bd_some hm16; clear hm16
  refine EV.of (C' := Own noM w [kn noM w.heap.size w k_3, blk b19 (Stm.cells (ele l.body x13_3)) 81, blk b1 [v_l_logs, v_l_body, v_l_outs] 25]) (pk [1, 0, 2]) ?_
  refine (EV.callR (X := Value × World) (R := []) (fun X => X.1) (fun X => []) (fun X => X.2) (fun X => Arr X.2 X.1 2 (x20.map Rf.cells)) hk (fun _ h => by cases h; decide) en66 (ec Z eN) (fun M w h1 h2 => have h := loop_Uses_w hx21  M w h1 h2; h) (fun X23 hF23 hle23 => ?_))
  refine wq Z (QV.lenS Try.underlying76 Z Z hF23.lenMap) (wm Z (nt ?_))
  obtain ⟨o24, ho25, hm26⟩ := bd_some hm22; clear hm22; obtain ⟨n27, ho28⟩ := lp_some ho25
  refine WC.bloop2 (H2 := [kn noM w.heap.size w X23.2, blk b19 (Stm.cells (ele l.body x13_3)) 81, blk b1 [v_l_logs, v_l_body, v_l_outs] 25]) (τ := [u_ 1 _, u_ 11 _, u_ 12 _, u_ 13 _, u_ 18 _, u_ 19 _]) (fun (far5_4 : Int) (x20_4 : Int) => [(5, (true, i_ far5_4)), (20, (true, i_ x20_4))]) (fun far5_4 x20_4 => []) (fun far5_4 x20_4 m => iter (keep_Far_L2 a x20) m (far5_4, x20_4) = some o24) (fun far5_4 x20_4 => o24 = .go (far5_4, x20_4)) far5_3 0 n27 ho28 ⟨Z, Z, Z, Z, Z, Z, Z, Z, trivial⟩ (pk [0, 1, 2]) ?_ ?_
  ·skip
   rintro far5_4 x20_4 rfl
   refine WQ.block (WQ.then (WC.region ?_))
   obtain ⟨c29, hm30⟩ := cs hm26; clear hm26
   refine wq Z (QV.add Z Z Z Z c29) (wm Z (WL.nil ?_))
   exact WQ.again3 far5_4 (x13_3 + 1) X23.2 m9 ⟨up_next hm30 hn12, (hle_3.trans hle23)⟩ (Nat.lt_succ_self _) ⟨Z, Z, Z, Z, Z, trivial⟩ (pk [0, 2])
  rintro far5_4 x20_4 m31 hI32
  obtain ⟨m33, s34, rfl, hm35, hn36⟩ := iter_step hI32; clear hI32; unfold keep_Far_L2 at hm35; simp only at hm35
  refine sr (wq Z (QV.lss Z Z Z Z) (nt (WC.seq ?_)))
  refine wc Z hm35 (fun h37 hm38 => ?_) (fun h37 hm51 => ?_) <;> clear hm35
  ·skip
   refine sk (WQ.then (WC.seq (WC.block (sr ?_))))
   obtain ⟨c39, hm40⟩ := cs hm38; clear hm38
   obtain ⟨p41, hp42⟩ := hF23.lenMap.ix (sz := 2) ln_len c39
   refine wq Z (QV.indexSlice sl76 Z Z Z Z hp42) (wq Z (QV.loadAgg ag79 Z Z Z (fun w hw => ((Own.karr 0 Z hk hF23) w hw).ele hp42 c39)) (WL.effect Z ?_))
   refine (EV.alloc (by decide) ze79 (fun b43 => ?_))
   refine WL.effect Z ?_
   refine (EV.store 0 Z Z Z Z Z Z (vs := [i_ ((ele x20 x20_4).st), i_ ((ele x20 x20_4).bk)]) (show Value.cells _ = List.toArray _ from Z) sz79 (nl Z) (oc Z (oc Z one_nil)) ?_)
   refine ns (wf fd79_0 Z (wl pl3 Z (Own.cell 0 Z Z) (wm Z (wq Z (QV.eql Z Z Z Z) (nt ?_)))))
   refine wc Z hm40 (fun h44 hm45 => ?_) (fun h44 hm48 => ?_) <;> clear hm40
   ·skip
    refine WC.region (wm Z (wf fd79_1 Z (wl pl3 Z (Own.cell 0 Z Z) (wq Z (QV.max2 Z Z Z Z) (wa Z (WL.nil (WQ.block (WQ.then (WC.region ?_)))))))))
    obtain ⟨c46, hm47⟩ := cs hm45; clear hm45
    refine wq Z (QV.add Z Z Z Z c46) (wm Z (WL.nil ?_))
    exact WQ.again2 (max far5_4 ((ele x20 x20_4).bk)) (x20_4 + 1) m33 (up_next hm47 hn36) (Nat.lt_succ_self _) ⟨Z, Z, Z, Z, Z, Z, Z, Z, trivial⟩ (pk [1, 2, 3])
   refine sk (WQ.block (WQ.then (WC.region ?_)))
   obtain ⟨c49, hm50⟩ := cs hm48; clear hm48
   refine wq Z (QV.add Z Z Z Z c49) (wm Z (WL.nil ?_))
   exact WQ.again2 far5_4 (x20_4 + 1) m33 (up_next hm50 hn36) (Nat.lt_succ_self _) ⟨Z, Z, Z, Z, Z, Z, Z, Z, trivial⟩ (pk [1, 2, 3])
  refine WC.exit (te (te (WQ.block_exit ?_)))
  exact WQ.out2 far5_4 x20_4 (up_brk hm51 hn36) ⟨Z, Z, Z, Z, Z, Z, Z, Z, trivial⟩ (pk [0, 1, 2])
 refine WC.exit (te (te (WQ.block_exit ?_)))
 exact WQ.out3 far5_3 x13_3 k_3 ⟨up_brk hm52 hn12, hle_3⟩ ⟨Z, Z, Z, Z, Z, trivial⟩ (pk [0, 1])
theorem slices_IndexIIw {v_s : Value} {s : List Int} {v r : Int} (w : World) (hm : slices_IndexIIm s v = some r) (h_s : Arr w v_s 1 (s.map icell)) : Calls Try.prog 138 #[v_s, .int .i64 v] w (fun e w' => e = .returned (.int .i64 r) ∧ Grow w w') := by
 unfold slices_IndexIIm at hm
 have hk := Base.rfl (w := w)
 refine calls_of_WC (n := 19) (args := [v_s, i_ v]) Try.func138 Z Z (nl Z) ?_ (Own.startK hk (Own.start w))
 refine sr (wa Z (nt (WC.seq (sr (wm Z (wq Z (QV.lenS Try.underlying22 Z Z h_s.lenMap) (wm Z (nt ?_))))))))
 obtain ⟨o1, ho2, hm3⟩ := bd_some hm; clear hm; obtain ⟨n4, ho5⟩ := lp_some ho2
 refine WC.bloop1 (H2 := [kn noM w.heap.size w w]) (τ := [u_ 0 _, u_ 1 _, u_ 7 _]) (fun (x8_1 : Int) => [(8, (true, i_ x8_1))]) (fun x8_1 => []) (fun x8_1 m => iter (slices_IndexIIL0 s v) m x8_1 = some o1) (fun x8_1 => o1 = .go x8_1) 0 n4 ho5 ⟨Z, Z, Z, Z, trivial⟩ (pk [0]) ?_ ?_
 ·skip
  rintro x8_1 rfl
  refine WQ.then (sr (wa Z (nt (WC.ret ?_))))
  obtain rfl := (eq_of_some hm3).symm
  exact WQ.ret1 Z Z fun w hw => kg hw
 rintro x8_1 m6 hI7
 obtain ⟨m8, s9, rfl, hm10, hn11⟩ := iter_step hI7; clear hI7; unfold slices_IndexIIL0 at hm10
 refine sr (wq Z (QV.lss Z Z Z Z) (nt (WC.seq ?_)))
 refine wc Z hm10 (fun h12 hm13 => ?_) (fun h12 hm23 => ?_) <;> clear hm10
 ·skip
  refine sk (WQ.then (WC.seq (WC.block (sr (wm Z (wa Z (ns (wm Z (wm Z (wm Z ?_))))))))))
  obtain ⟨c14, hm15⟩ := cs hm13; clear hm13
  obtain ⟨p16, hp17⟩ := h_s.lenMap.ix (sz := 1) ln_len c14
  refine wq Z (QV.indexSlice sl22 Z Z Z Z hp17) (wl pl3 Z (fun w hw => CellsAt.one 0 (((Own.karr 0 Z hk h_s) w hw).ele hp17 c14) Z) (wq Z (QV.eql Z Z Z Z) (nt ?_)))
  refine wc Z hm15 (fun h18 hm19 => ?_) (fun h18 hm20 => ?_) <;> clear hm15
  ·skip
   refine sr (wm Z (wa Z (nt (WC.ret (kr (tr (tr (kr (tr (tr ?_))))))))))
   obtain rfl := up_ret hm19 hn11
   obtain rfl := (eq_of_some hm3).symm
   exact WQ.ret1 Z Z fun w hw => kg hw
  refine sk (WQ.block (WQ.then (WC.region ?_)))
  obtain ⟨c21, hm22⟩ := cs hm20; clear hm20
  refine wq Z (QV.add Z Z Z Z c21) (wm Z (WL.nil ?_))
  exact WQ.again1 (x8_1 + 1) m8 (up_next hm22 hn11) (Nat.lt_succ_self _) ⟨Z, Z, Z, Z, trivial⟩ (pk [0])
 refine WC.exit (te (te (WQ.block_exit ?_)))
 exact WQ.out1 x8_1 (up_brk hm23 hn11) ⟨Z, Z, Z, Z, trivial⟩ (pk [0])
theorem slices_ContainsIIw {v_s : Value} {s : List Int} {v : Int} {r : Bool} (w : World) (hm : slices_ContainsIIm s v = some r) (h_s : Arr w v_s 1 (s.map icell)) : Calls Try.prog 125 #[v_s, .int .i64 v] w (fun e w' => e = .returned (.bool r) ∧ Grow w w') := by
 unfold slices_ContainsIIm at hm
 have hk := Base.rfl (w := w)
 refine calls_of_WC (n := 9) (args := [v_s, i_ v]) Try.func125 Z Z (nl Z) ?_ (Own.startK hk (Own.start w))
 refine sr (wa Z (ns (wm Z (wm Z ?_))))
 obtain ⟨x1, hx2, hm3⟩ := bd_some hm; clear hm
 refine wq Z (QV.call en138 (ec Z (ec Z eN)) (fun w hw => have h := slices_IndexIIw w hx2 ((Own.karr 0 Z hk h_s) w hw); h)) (wq Z (QV.geq Z Z Z Z) (wa Z (nt (WC.ret ?_))))
 obtain rfl := (eq_of_some hm3).symm
 exact WQ.ret1 Z Z fun w hw => kg hw
theorem KL_uses_w {p_y : Addr} {v_y_Loop_Logs v_y_Loop_Body v_y_Loop_Outs v_y_Time v_y_Ready v_y_Places : Value} {y_Loop_Body : List Stm} {y_Pace y_Regs : Int} {y_Time : List Int} {a : Int} {r : List Use} {K0 : World} (hm : KL_uses_m y_Loop_Body y_Pace y_Regs y_Time a = some r) (h_y_Loop_Body : Arr K0 v_y_Loop_Body 9 (y_Loop_Body.map Stm.cells)) (h_y_Time : Arr K0 v_y_Time 1 (y_Time.map icell)) (hp_y : CellsAt K0 p_y [v_y_Loop_Logs, v_y_Loop_Body, v_y_Loop_Outs, .int .i64 y_Pace, .int .i64 y_Regs, v_y_Time, v_y_Ready, v_y_Places] 0) (M : Nat → Prop) (w : World) (hk : Base M K0 w) (hw0 : Own M w [] w) : Calls Try.prog 101 #[.pointer (some p_y), .int .i64 a] w (fun e w' => ∃ X : Value × World, e = .returned (X.1) ∧ Own M w (kn M w.heap.size K0 X.2 :: []) w' ∧ Arr X.2 X.1 2 (r.map Use.cells)) := by
 unfold KL_uses_m at hm
 refine calls_of_WC (n := 57) (args := [.pointer (some p_y), i_ a]) Try.func101 Z Z (nl Z) ?_ (Own.startK hk hw0)
 refine sr (wa Z (ns (wa Z (nt (WC.seq (sr (wm Z (wq Z (QV.nilCheck Z Z) (wf fd87_0 Z (wf fd25_1 Z (wl pl23 Z (fun w hw => CellsAt.one 1 ((Own.kcells 0 Z hk hp_y) w hw) Z) ?_)))))))))))
 refine wq Z (QV.lenS Try.underlying23 Z Z h_y_Loop_Body.lenMap) (wm Z (nt ?_))
 refine WK.of (fun w hw => hw.vecNil (E := 185) (sz := 2) (enc := Use.cells)) ?_
 obtain ⟨o2, ho3, hm4⟩ := bd_some hm; clear hm; obtain ⟨n5, ho6⟩ := lp_some ho3
 refine WC.bloop4 (H2 := []) (τ := [u_ 0 _, u_ 1 _, u_ 14 _, u_ 15 _]) (fun (v1_4 : List Use) (x16_4 : Int) (uv1_4 : Value) (k_4 : World) => [(5, (true, uv1_4)), (16, (true, i_ x16_4))]) (fun v1_4 x16_4 uv1_4 k_4 => [vec uv1_4 185 2 (List.map Use.cells v1_4), kn M w.heap.size K0 k_4]) (fun v1_4 x16_4 uv1_4 k_4 m => iter (KL_uses_L0 y_Loop_Body y_Pace y_Time a) m (v1_4, x16_4) = some o2 ∧ SliceLen uv1_4 v1_4.length ∧ Le K0 k_4) (fun v1_4 x16_4 uv1_4 k_4 => o2 = .go (v1_4, x16_4) ∧ SliceLen uv1_4 v1_4.length ∧ Le K0 k_4) [] 0 (.slice none 0 0) K0 n5 ⟨ho6, SliceLen.nil, (Le.refl _)⟩ ⟨Z, Z, Z, Z, Z, Z, trivial⟩ (pk [0, 1]) ?_ ?_
 ·skip
  rintro v1_4 x16_4 uv1_4 k_4 ⟨rfl, hlv1_4, hle_4⟩
  refine WQ.then (sr (wm Z (wa Z (nt (WC.ret ?_)))))
  obtain rfl := (eq_of_some hm4).symm
  refine WK.of (C' := Own M w [kn M w.heap.size K0 k_4, vec uv1_4 185 2 (List.map Use.cells v1_4)]) (pk [1, 0]) ?_
  refine WK.freeze hk (fun k7 hle7 hr7 => ?_)
  have hA7 := vec_arr hr7
  refine WQ.ret1 Z Z (fun w hw => ?_)
  exact ⟨(uv1_4, k7), Z, hw.pick [0] (by decide), hA7⟩
 rintro v1_4 x16_4 uv1_4 k_4 m8 ⟨hI9, hlv1_4, hle_4⟩
 obtain ⟨m10, s11, rfl, hm12, hn13⟩ := iter_step hI9; clear hI9; unfold KL_uses_L0 at hm12; simp only at hm12
 refine sr (wq Z (QV.lss Z Z Z Z) (nt (WC.seq ?_)))
 refine wc Z hm12 (fun h14 hm15 => ?_) (fun h14 hm66 => ?_) <;> clear hm12
 ·skip
  refine sk (WQ.then (WC.seq (WC.block (sr (wm Z ?_)))))
  obtain ⟨c16, hm17⟩ := cs hm15; clear hm15
  obtain ⟨p18, hp19⟩ := (h_y_Loop_Body.le hle_4).lenMap.ix (sz := 9) ln_len c16
  refine wq Z (QV.indexSlice sl23 Z Z Z Z hp19) (wq Z (QV.loadAgg ag81 Z Z Z (fun w hw => ((Own.karr 1 Z hk (h_y_Loop_Body.le hle_4)) w hw).ele hp19 c16)) (WL.effect Z ?_))
  refine (EV.alloc (by decide) ze81 (fun b20 => ?_))
  refine wa Z (WL.effect Z ?_)
  refine (EV.store 0 Z Z Z Z Z Z (vs := (Stm.cells (ele y_Loop_Body x16_4))) (show Value.cells _ = List.toArray _ from Z) sz81 (nl Z) (oc Z (oc Z (oc Z (oc Z (oc Z (oc Z (oc Z (oc Z (oc Z one_nil))))))))) ?_)
  refine ns (wq Z (QV.loadAgg ag81 Z Z Z (Own.cellsBlk 0 Z)) (WL.effect Z ?_))
  obtain ⟨x21, hx22, hm23⟩ := bd_some hm17; clear hm17
  refine EV.of (C' := Own M w [kn M w.heap.size K0 k_4, blk b20 (Stm.cells (ele y_Loop_Body x16_4)) 81, vec uv1_4 185 2 (List.map Use.cells v1_4)]) (pk [2, 0, 1]) ?_
  refine (EV.callR (X := Value × World) (R := []) (fun X => X.1) (fun X => []) (fun X => X.2) (fun X => Arr X.2 X.1 2 (x21.map Rf.cells)) hk (fun _ h => by cases h; decide) en66 (ec Z eN) (fun M w h1 h2 => have h := loop_Uses_w hx22  M w h1 h2; h) (fun X24 hF24 hle24 => ?_))
  refine wq Z (QV.lenS Try.underlying76 Z Z hF24.lenMap) (wm Z (nt ?_))
  obtain ⟨o25, ho26, hm27⟩ := bd_some hm23; clear hm23; obtain ⟨n28, ho29⟩ := lp_some ho26
  refine WC.bloop3 (H2 := [kn M w.heap.size K0 X24.2, blk b20 (Stm.cells (ele y_Loop_Body x16_4)) 81]) (τ := [u_ 0 _, u_ 1 _, u_ 6 _, u_ 14 _, u_ 15 _, u_ 16 _, u_ 22 _, u_ 23 _]) (fun (v1_5 : List Use) (x24_5 : Int) (uv1_5 : Value) => [(5, (true, uv1_5)), (24, (true, i_ x24_5))]) (fun v1_5 x24_5 uv1_5 => [vec uv1_5 185 2 (List.map Use.cells v1_5)]) (fun v1_5 x24_5 uv1_5 m => iter (KL_uses_L2 y_Pace y_Time a x16_4 x21) m (v1_5, x24_5) = some o25 ∧ SliceLen uv1_5 v1_5.length) (fun v1_5 x24_5 uv1_5 => o25 = .go (v1_5, x24_5) ∧ SliceLen uv1_5 v1_5.length) v1_4 0 uv1_4 n28 ⟨ho29, hlv1_4⟩ ⟨Z, Z, Z, Z, Z, Z, Z, Z, Z, Z, trivial⟩ (pk [2, 0, 1]) ?_ ?_
  ·skip
   rintro v1_5 x24_5 uv1_5 ⟨rfl, hlv1_5⟩
   refine WQ.block (WQ.then (WC.region ?_))
   obtain ⟨c30, hm31⟩ := cs hm27; clear hm27
   refine wq Z (QV.add Z Z Z Z c30) (wm Z (WL.nil ?_))
   exact WQ.again4 v1_5 (x16_4 + 1) uv1_5 X24.2 m10 ⟨up_next hm31 hn13, hlv1_5, (hle_4.trans hle24)⟩ (Nat.lt_succ_self _) ⟨Z, Z, Z, Z, Z, Z, trivial⟩ (pk [0, 1])
  rintro v1_5 x24_5 uv1_5 m32 ⟨hI33, hlv1_5⟩
  obtain ⟨m34, s35, rfl, hm36, hn37⟩ := iter_step hI33; clear hI33; unfold KL_uses_L2 at hm36; simp only at hm36
  refine sr (wq Z (QV.lss Z Z Z Z) (nt (WC.seq ?_)))
  refine wc Z hm36 (fun h38 hm39 => ?_) (fun h38 hm65 => ?_) <;> clear hm36
  ·skip
   refine sk (WQ.then (WC.seq (WC.block (sr ?_))))
   obtain ⟨c40, hm41⟩ := cs hm39; clear hm39
   obtain ⟨p42, hp43⟩ := hF24.lenMap.ix (sz := 2) ln_len c40
   refine wq Z (QV.indexSlice sl76 Z Z Z Z hp43) (wq Z (QV.loadAgg ag79 Z Z Z (fun w hw => ((Own.karr 1 Z hk hF24) w hw).ele hp43 c40)) (WL.effect Z ?_))
   refine (EV.alloc (by decide) ze79 (fun b44 => ?_))
   refine WL.effect Z ?_
   refine (EV.store 0 Z Z Z Z Z Z (vs := [i_ ((ele x21 x24_5).st), i_ ((ele x21 x24_5).bk)]) (show Value.cells _ = List.toArray _ from Z) sz79 (nl Z) (oc Z (oc Z one_nil)) ?_)
   refine ns (wf fd79_0 Z (wl pl3 Z (Own.cell 0 Z Z) (wm Z (wq Z (QV.eql Z Z Z Z) (nt ?_)))))
   refine wc Z hm41 (fun h45 hm46 => ?_) (fun h45 hm62 => ?_) <;> clear hm41
   ·skip
    refine WC.dr (m := 23) (S := Own M w [kn M w.heap.size K0 X24.2, blk b44 [i_ ((ele x21 x24_5).st), i_ ((ele x21 x24_5).bk)] 79, blk b20 (Stm.cells (ele y_Loop_Body x16_4)) 81]) (by kernel_rfl) (by kernel_rfl) (pk [2, 0, 3]) (zm 0 Z Z (zm 1 Z Z (wz 2 Z Z (QV.nilCheck Z Z) (zf 3 fd87_3 Z Z (zl 4 pl22 Z Z (fun w hw => CellsAt.one 5 ((Own.kcells 0 Z hk (hp_y.le (hle_4.trans hle24))) w hw) Z) (zm 5 Z Z ?_))))))
    obtain ⟨c47, hm48⟩ := cs hm46; clear hm46
    obtain ⟨p49, hp50⟩ := (h_y_Time.le (hle_4.trans hle24)).lenMap.ix (sz := 1) ln_len c47
    refine wz 6 Z Z (QV.indexSlice sl22 Z Z Z Z hp50) (zl 7 pl3 Z Z (fun w hw => CellsAt.one 0 (((Own.karr 0 Z hk (h_y_Time.le (hle_4.trans hle24))) w hw).ele hp50 c47) Z) (zf 8 fd79_1 Z Z (zl 9 pl3 Z Z (Own.cell 1 Z Z) (zm 10 Z Z (wz 11 Z Z (QV.nilCheck Z Z) (zf 12 fd87_1 Z Z (zl 13 pl3 Z Z (fun w hw => CellsAt.one 3 ((Own.kcells 0 Z hk (hp_y.le (hle_4.trans hle24))) w hw) Z) ?_)))))))
    obtain ⟨c51, c53, c56, c60, hm61⟩ := cs4 hm48; clear hm48
    refine wz 14 Z Z (QV.mul Z Z Z Z c51) (wz 15 Z Z (QV.add Z Z Z Z c53) (zf 16 fd79_1 Z Z (zl 17 pl3 Z Z (Own.cell 1 Z Z) (wz 18 Z Z (QV.gtr Z Z Z Z) (wz 19 Z Z (QV.build (ps := [(0, .tmp 47), (1, .tmp 50)]) (cells := [i_ ((ele y_Time x16_4) + ((ele x21 x24_5).bk * y_Pace)), .bool (decide ((ele x21 x24_5).bk > 0))]) (ec Z (ec Z eN)) (by kernel_rfl)) ?_)))))
    refine WD.o 20 Z (by kernel_rfl) Z ?_
    refine (EV.buildSlice (by decide) sz_162 (by decide) (by decide) (ps := [(0, .tmp 51)]) (cells := [i_ ((ele y_Time x16_4) + ((ele x21 x24_5).bk * y_Pace)), .bool (decide ((ele x21 x24_5).bk > 0))]) (ec Z eN) (by kernel_rfl) (fun b55 => ?_))
    refine WD.b (H' := [kn M w.heap.size K0 X24.2, blk b55 [i_ ((ele y_Time x16_4) + ((ele x21 x24_5).bk * y_Pace)), .bool (decide ((ele x21 x24_5).bk > 0))] 185, blk b44 [i_ ((ele x21 x24_5).st), i_ ((ele x21 x24_5).bk)] 79, blk b20 (Stm.cells (ele y_Loop_Body x16_4)) 81]) (pk [3, 0, 1, 4]) (pk [0, 2, 3]) ?_
    refine WD.o 21 Z (by kernel_rfl) Z ?_
    refine (EV.appendL (enc := Use.cells) (xs := v1_5) (ys := [(Use.mk ((ele y_Time x16_4) + ((ele x21 x24_5).bk * y_Pace)) (decide ((ele x21 x24_5).bk > 0)))]) ((v1_5 ++ [(Use.mk ((ele y_Time x16_4) + ((ele x21 x24_5).bk * y_Pace)) (decide ((ele x21 x24_5).bk > 0)))])) 2 (by decide) ve162 Z Z Z Z Z (Own.blkArr 0 (rows := [(Use.mk ((ele y_Time x16_4) + ((ele x21 x24_5).bk * y_Pace)) (decide ((ele x21 x24_5).bk > 0)))].map Use.cells) Z Z (rows_len Use.cells_len)) Use.cells_len (Use.cells_one _) Z c56.1 c56.2 (fun u58 hu59 => ?_))
    refine WD.b (H' := [kn M w.heap.size K0 X24.2, blk b55 [i_ ((ele y_Time x16_4) + ((ele x21 x24_5).bk * y_Pace)), .bool (decide ((ele x21 x24_5).bk > 0))] 185, blk b44 [i_ ((ele x21 x24_5).st), i_ ((ele x21 x24_5).bk)] 79, vec u58 185 2 (List.map Use.cells (v1_5 ++ [(Use.mk ((ele y_Time x16_4) + ((ele x21 x24_5).bk * y_Pace)) (decide ((ele x21 x24_5).bk > 0)))])), blk b20 (Stm.cells (ele y_Loop_Body x16_4)) 81]) (pk [3, 0, 1, 2, 4]) (pk [0, 1, 2, 4]) ?_
    refine wz 22 Z Z (QV.assign Z Z) ?_
    refine WD.e (by kernel_rfl) ?_
    refine WQ.block (WQ.then (WC.region (wq Z (QV.add Z Z Z Z c60) (wm Z (WL.nil ?_)))))
    exact WQ.again3 (v1_5 ++ [(Use.mk ((ele y_Time x16_4) + ((ele x21 x24_5).bk * y_Pace)) (decide ((ele x21 x24_5).bk > 0)))]) (x24_5 + 1) u58 m34 ⟨up_next hm61 hn37, hu59⟩ (Nat.lt_succ_self _) ⟨Z, Z, Z, Z, Z, Z, Z, Z, Z, Z, trivial⟩ (pk [2, 3, 4])
   refine sk (WQ.block (WQ.then (WC.region ?_)))
   obtain ⟨c63, hm64⟩ := cs hm62; clear hm62
   refine wq Z (QV.add Z Z Z Z c63) (wm Z (WL.nil ?_))
   exact WQ.again3 v1_5 (x24_5 + 1) uv1_5 m34 ⟨up_next hm64 hn37, hlv1_5⟩ (Nat.lt_succ_self _) ⟨Z, Z, Z, Z, Z, Z, Z, Z, Z, Z, trivial⟩ (pk [1, 2, 3])
  refine WC.exit (te (te (WQ.block_exit ?_)))
  exact WQ.out3 v1_5 x24_5 uv1_5 ⟨up_brk hm65 hn37, hlv1_5⟩ ⟨Z, Z, Z, Z, Z, Z, Z, Z, Z, Z, trivial⟩ (pk [0, 1, 2])
 refine WC.exit (te (te (WQ.block_exit ?_)))
 exact WQ.out4 v1_4 x16_4 uv1_4 k_4 ⟨up_brk hm66 hn13, hlv1_4, hle_4⟩ ⟨Z, Z, Z, Z, Z, Z, trivial⟩ (pk [0, 1])
theorem KL_bad_w {p_y : Addr} {v_y_Loop_Logs v_y_Loop_Body v_y_Loop_Outs v_y_Time v_y_Ready v_y_Places v_uses : Value} {y_Loop_Outs : List Int} {y_Pace y_Regs : Int} {y_Ready : List Int} {a m_ j : Int} {uses : List Use} {r : Bool} (w : World) (hm : KL_bad_m y_Loop_Outs y_Pace y_Regs y_Ready a m_ j uses = some r) (h_y_Loop_Outs : Arr w v_y_Loop_Outs 1 (y_Loop_Outs.map icell)) (h_y_Ready : Arr w v_y_Ready 1 (y_Ready.map icell)) (hp_y : CellsAt w p_y [v_y_Loop_Logs, v_y_Loop_Body, v_y_Loop_Outs, .int .i64 y_Pace, .int .i64 y_Regs, v_y_Time, v_y_Ready, v_y_Places] 0) (h_uses : Arr w v_uses 2 (uses.map Use.cells)) : Calls Try.prog 102 #[.pointer (some p_y), .int .i64 a, .int .i64 m_, .int .i64 j, v_uses] w (fun e w' => e = .returned (.bool r) ∧ Grow w w') := by
 unfold KL_bad_m at hm
 have hk := Base.rfl (w := w)
 refine calls_of_WC (n := 86) (args := [.pointer (some p_y), i_ a, i_ m_, i_ j, v_uses]) Try.func102 Z Z (nl Z) ?_ (Own.startK hk (Own.start w))
 refine sr (wa Z (nt (WC.seq (WC.dr (m := 15) (by kernel_rfl) (by kernel_rfl) (fun w hw => hw) (zm 0 Z Z (wz 1 Z Z (QV.nilCheck Z Z) (zf 2 fd87_4 Z Z (zl 3 pl22 Z Z (fun w hw => CellsAt.one 6 ((Own.kcells 0 Z hk hp_y) w hw) Z) (zm 4 Z Z ?_)))))))))
 obtain ⟨c1, hm2⟩ := cs hm; clear hm
 obtain ⟨p3, hp4⟩ := h_y_Ready.lenMap.ix (sz := 1) ln_len c1
 refine wz 5 Z Z (QV.indexSlice sl22 Z Z Z Z hp4) (zl 6 pl3 Z Z (fun w hw => CellsAt.one 0 (((Own.karr 0 Z hk h_y_Ready) w hw).ele hp4 c1) Z) (zm 7 Z Z (zm 8 Z Z (wz 9 Z Z (QV.nilCheck Z Z) (zf 10 fd87_1 Z Z (zl 11 pl3 Z Z (fun w hw => CellsAt.one 3 ((Own.kcells 0 Z hk hp_y) w hw) Z) ?_))))))
 obtain ⟨c5, c7, hm8⟩ := cs2 hm2; clear hm2
 refine wz 12 Z Z (QV.mul Z Z Z Z c5) (wz 13 Z Z (QV.add Z Z Z Z c7) (wz 14 Z Z (QV.assign Z Z) ?_))
 refine WD.e (by kernel_rfl) ?_
 refine WQ.then (WC.seq (sr (wm Z (wq Z (QV.lenS Try.underlying162 Z Z h_uses.lenMap) (wm Z (nt ?_))))))
 obtain ⟨o9, ho10, hm11⟩ := bd_some hm8; clear hm8; obtain ⟨n12, ho13⟩ := lp_some ho10
 refine WC.bloop1 (H2 := [kn noM w.heap.size w w]) (τ := [u_ 0 _, u_ 1 _, u_ 3 _, u_ 11 _, u_ 28 _, u_ 29 _]) (fun (x30_1 : Int) => [(30, (true, i_ x30_1))]) (fun x30_1 => []) (fun x30_1 m => iter (KL_bad_L0 y_Pace y_Ready a m_ j uses) m x30_1 = some o9) (fun x30_1 => o9 = .go x30_1) 0 n12 ho13 ⟨Z, Z, Z, Z, Z, Z, Z, trivial⟩ (pk [0]) ?_ ?_
 ·skip
  rintro x30_1 rfl
  refine WQ.then (sr (wm Z (wq Z (QV.leq Z Z Z Z) (wm Z (gp Z (fun hG => QV.move Z Z) (gp Z (fun hG => QV.move Z Z) (gp Z (fun hG => QV.nilCheck Z hG) (gp Z (fun hG => QV.fieldAddr fd87_4 Z hG) (gp Z (fun hG => QV.load pl22 Z hG (fun w hw => CellsAt.one 6 ((Own.kcells 0 Z hk hp_y) w hw) Z)) (gp Z (fun hG => QV.move Z Z) ?_))))))))))
  obtain ⟨c14, hm15⟩ := cs hm11; clear hm11
  obtain ⟨p16, hp17⟩ := h_y_Ready.lenMap.ixG (sz := 1) ln_len c14
  refine gp Z (fun hG => QV.indexSlice sl22 Z hG Z hG (hp17 hG)) (gp Z (fun hG => QV.load pl3 Z hG (fun w hw => CellsAt.one 0 (((Own.karr 0 Z hk h_y_Ready) w hw).ele (hp17 hG) (c14 hG)) Z)) (gp Z (fun hG => QV.geq Z hG Z hG) (wq Z (QV.pickAnd Z Z Z (fun h => h)) (wm Z (gp Z (fun hG => QV.move Z Z) (gp Z (fun hG => QV.nilCheck Z hG) (gp Z (fun hG => QV.fieldAddr fd87_0 Z hG) (gp Z (fun hG => QV.fieldAddr fd25_2 Z hG) (gp Z (fun hG => QV.load pl22 Z hG (fun w hw => CellsAt.one 2 ((Own.kcells 0 Z hk hp_y) w hw) Z)) ?_)))))))))
  refine gp Z (fun hG => QV.move Z Z) ?_
  obtain ⟨x18, hx19, hm20⟩ := bdG_some hm15; clear hm15
  refine gp Z (fun hG => QV.call en125 (EvAll.cons Z hG (EvAll.cons Z hG eN)) (fun w hw => have h := slices_ContainsIIw w (hx19 hG) ((Own.karr 0 Z hk h_y_Loop_Outs) w hw); h)) (wq Z (QV.pickAnd Z Z Z (fun h => h)) (wa Z (nt (WC.ret ?_))))
  obtain rfl := (eq_of_some hm20).symm
  exact WQ.ret1 Z Z fun w hw => kg hw
 rintro x30_1 m21 hI22
 obtain ⟨m23, s24, rfl, hm25, hn26⟩ := iter_step hI22; clear hI22; unfold KL_bad_L0 at hm25
 refine sr (wq Z (QV.lss Z Z Z Z) (nt (WC.seq ?_)))
 refine wc Z hm25 (fun h27 hm28 => ?_) (fun h27 hm43 => ?_) <;> clear hm25
 ·skip
  refine sk (WQ.then (WC.seq (WC.block (sr ?_))))
  obtain ⟨c29, hm30⟩ := cs hm28; clear hm28
  obtain ⟨p31, hp32⟩ := h_uses.lenMap.ix (sz := 2) ln_len c29
  refine wq Z (QV.indexSlice sl162 Z Z Z Z hp32) (wq Z (QV.loadAgg ag185 Z Z Z (fun w hw => ((Own.karr 0 Z hk h_uses) w hw).ele hp32 c29)) (WL.effect Z ?_))
  refine (EV.alloc (by decide) ze185 (fun b33 => ?_))
  refine WL.effect Z ?_
  refine (EV.store 0 Z Z Z Z Z Z (vs := [i_ ((ele uses x30_1).til), .bool ((ele uses x30_1).later)]) (show Value.cells _ = List.toArray _ from Z) sz185 (nl Z) (oc Z (oc Z one_nil)) ?_)
  refine ns (wm Z (wm Z (wq Z (QV.nilCheck Z Z) (wf fd87_4 Z (wl pl22 Z (fun w hw => CellsAt.one 6 ((Own.kcells 1 Z hk hp_y) w hw) Z) (wm Z ?_))))))
  obtain ⟨c34, hm35⟩ := cs hm30; clear hm30
  obtain ⟨p36, hp37⟩ := h_y_Ready.lenMap.ix (sz := 1) ln_len c34
  refine wq Z (QV.indexSlice sl22 Z Z Z Z hp37) (wl pl3 Z (fun w hw => CellsAt.one 0 (((Own.karr 1 Z hk h_y_Ready) w hw).ele hp37 c34) Z) (wq Z (QV.geq Z Z Z Z) (wm Z (gp Z (fun hG => QV.move Z Z) (gp Z (fun hG => QV.fieldAddr fd185_0 Z Z) (gp Z (fun hG => QV.load pl3 Z hG (Own.cell 0 Z Z)) (gp Z (fun hG => QV.leq Z hG Z hG) (wq Z (QV.pickAnd Z Z Z (fun h => h)) (wm Z ?_)))))))))
  refine gn Z (fun hG => QV.fieldAddr fd185_1 Z Z) (gn Z (fun hG => QV.load pl4 Z hG (Own.cell 0 Z Z)) (gn Z (fun hG => QV.move Z hG) (gpC Z (fun hG => QV.move Z Z) (gpC Z (fun hG => QV.gtr Z hG Z Z) (gn Z (fun hG => QV.pickAnd Z hG Z (fun h => andT hG h)) (gn Z (fun hG => QV.move Z hG) (gpC Z (fun hG => QV.move Z Z) (gpC Z (fun hG => QV.fieldAddr fd185_0 Z Z) (gpC Z (fun hG => QV.load pl3 Z hG (Own.cell 0 Z Z)) ?_)))))))))
  refine gpC Z (fun hG => QV.leq Z hG Z hG) (gn Z (fun hG => QV.pickAnd Z hG Z (fun h => andT hG h)) (wq Z (QV.pickOr Z Z Z (fun h => notF h)) (nt ?_)))
  refine wc Z hm35 (fun h38 hm39 => ?_) (fun h38 hm40 => ?_) <;> clear hm35
  ·skip
   refine sr (wa Z (nt (WC.ret (kr (tr (tr (kr (tr (tr ?_)))))))))
   obtain rfl := up_ret hm39 hn26
   obtain rfl := (eq_of_some hm11).symm
   exact WQ.ret1 Z Z fun w hw => kg hw
  refine sk (WQ.block (WQ.then (WC.region ?_)))
  obtain ⟨c41, hm42⟩ := cs hm40; clear hm40
  refine wq Z (QV.add Z Z Z Z c41) (wm Z (WL.nil ?_))
  exact WQ.again1 (x30_1 + 1) m23 (up_next hm42 hn26) (Nat.lt_succ_self _) ⟨Z, Z, Z, Z, Z, Z, Z, trivial⟩ (pk [1])
 refine WC.exit (te (te (WQ.block_exit ?_)))
 exact WQ.out1 x30_1 (up_brk hm43 hn26) ⟨Z, Z, Z, Z, Z, Z, Z, trivial⟩ (pk [0])
theorem KL_Apart_w {p_y : Addr} {v_y_Loop_Logs v_y_Loop_Body v_y_Loop_Outs v_y_Time v_y_Ready v_y_Places : Value} {y_Loop_Body : List Stm} {y_Loop_Outs : List Int} {y_Pace y_Regs : Int} {y_Time y_Ready y_Places : List Int} {a m_ : Int} {r : Bool} (w : World) (hm : KL_Apart_m y_Loop_Body y_Loop_Outs y_Pace y_Regs y_Time y_Ready y_Places a m_ = some r) (h_y_Loop_Body : Arr w v_y_Loop_Body 9 (y_Loop_Body.map Stm.cells)) (h_y_Loop_Outs : Arr w v_y_Loop_Outs 1 (y_Loop_Outs.map icell)) (h_y_Time : Arr w v_y_Time 1 (y_Time.map icell)) (h_y_Ready : Arr w v_y_Ready 1 (y_Ready.map icell)) (h_y_Places : Arr w v_y_Places 1 (y_Places.map icell)) (hp_y : CellsAt w p_y [v_y_Loop_Logs, v_y_Loop_Body, v_y_Loop_Outs, .int .i64 y_Pace, .int .i64 y_Regs, v_y_Time, v_y_Ready, v_y_Places] 0) : Calls Try.prog 63 #[.pointer (some p_y), .int .i64 a, .int .i64 m_] w (fun e w' => e = .returned (.bool r) ∧ Grow w w') := by
 unfold KL_Apart_m at hm
 have hk := Base.rfl (w := w)
 refine calls_of_WC (n := 88) (args := [.pointer (some p_y), i_ a, i_ m_]) Try.func63 Z Z (nl Z) ?_ (Own.startK hk (Own.start w))
 refine sr (wa Z (ns (wm Z (wm Z (WL.effect Z ?_)))))
 obtain ⟨x1, hx2, hm3⟩ := bd_some hm; clear hm
 refine (EV.callR (X := Value × World) (R := []) (fun X => X.1) (fun X => []) (fun X => X.2) (fun X => Arr X.2 X.1 2 (x1.map Use.cells)) hk (fun _ h => by cases h; decide) en101 (ec Z (ec Z eN)) (fun M w h1 h2 => have h := KL_uses_w hx2 h_y_Loop_Body h_y_Time hp_y M w h1 h2; h) (fun X4 hF4 hle4 => ?_))
 refine wa Z (nt (WC.seq (WC.dr (m := 31) (by kernel_rfl) (by kernel_rfl) (fun w hw => hw) (zm 0 Z Z (wz 1 Z Z (QV.nilCheck Z Z) (zf 2 fd87_5 Z Z (zl 3 pl22 Z Z (fun w hw => CellsAt.one 7 ((Own.kcells 0 Z hk (hp_y.le hle4)) w hw) Z) (zm 4 Z Z ?_))))))))
 obtain ⟨c5, hm6⟩ := cs hm3; clear hm3
 obtain ⟨p7, hp8⟩ := (h_y_Places.le hle4).lenMap.ix (sz := 1) ln_len c5
 refine wz 5 Z Z (QV.indexSlice sl22 Z Z Z Z hp8) (zl 6 pl3 Z Z (fun w hw => CellsAt.one 0 (((Own.karr 0 Z hk (h_y_Places.le hle4)) w hw).ele hp8 c5) Z) (zm 7 Z Z (wz 8 Z Z (QV.nilCheck Z Z) (zf 9 fd87_5 Z Z (zl 10 pl22 Z Z (fun w hw => CellsAt.one 7 ((Own.kcells 0 Z hk (hp_y.le hle4)) w hw) Z) (zm 11 Z Z ?_))))))
 obtain ⟨c9, hm10⟩ := cs hm6; clear hm6
 obtain ⟨p11, hp12⟩ := (h_y_Places.le hle4).lenMap.ix (sz := 1) ln_len c9
 refine wz 12 Z Z (QV.indexSlice sl22 Z Z Z Z hp12) (zl 13 pl3 Z Z (fun w hw => CellsAt.one 0 (((Own.karr 0 Z hk (h_y_Places.le hle4)) w hw).ele hp12 c9) Z) ?_)
 obtain ⟨c13, c15, c17, c19, c21, c23, c25, c27, hm28⟩ := cs8 hm10; clear hm10
 refine wz 14 Z Z (QV.sub Z Z Z Z c13) (zm 15 Z Z (wz 16 Z Z (QV.nilCheck Z Z) (zf 17 fd87_2 Z Z (zl 18 pl3 Z Z (fun w hw => CellsAt.one 4 ((Own.kcells 0 Z hk (hp_y.le hle4)) w hw) Z) (wz 19 Z Z (QV.rem Z Z Z Z c15) (zm 20 Z Z (wz 21 Z Z (QV.nilCheck Z Z) (zf 22 fd87_2 Z Z (zl 23 pl3 Z Z (fun w hw => CellsAt.one 4 ((Own.kcells 0 Z hk (hp_y.le hle4)) w hw) Z) ?_)))))))))
 refine wz 24 Z Z (QV.add Z Z Z Z c17) (zm 25 Z Z (wz 26 Z Z (QV.nilCheck Z Z) (zf 27 fd87_2 Z Z (zl 28 pl3 Z Z (fun w hw => CellsAt.one 4 ((Own.kcells 0 Z hk (hp_y.le hle4)) w hw) Z) (wz 29 Z Z (QV.rem Z Z Z Z c19) (wz 30 Z Z (QV.assign Z Z) ?_))))))
 refine WD.e (by kernel_rfl) ?_
 refine WQ.then (sr (wm Z (wq Z (QV.nilCheck Z Z) (wf fd87_1 Z (wl pl3 Z (fun w hw => CellsAt.one 3 ((Own.kcells 0 Z hk (hp_y.le hle4)) w hw) Z) (wq Z (QV.quo Z Z Z Z c21 c23) (wq Z (QV.add Z Z Z Z c25) (wa Z (nt (WC.seq (WC.seq (WC.dr (m := 15) (by kernel_rfl) (by kernel_rfl) (fun w hw => hw) ?_))))))))))))
 refine zm 0 Z Z (zm 1 Z Z (zm 2 Z Z (wz 3 Z Z (QV.nilCheck Z Z) (zf 4 fd87_2 Z Z (zl 5 pl3 Z Z (fun w hw => CellsAt.one 4 ((Own.kcells 0 Z hk (hp_y.le hle4)) w hw) Z) ?_)))))
 obtain ⟨c29, c31, c33, c35, hm36⟩ := cs4 hm28; clear hm28
 refine wz 6 Z Z (QV.quo Z Z Z Z c27 c29) (wz 7 Z Z (QV.add Z Z Z Z c31) (zm 8 Z Z (wz 9 Z Z (QV.nilCheck Z Z) (zf 10 fd87_2 Z Z (zl 11 pl3 Z Z (fun w hw => CellsAt.one 4 ((Own.kcells 0 Z hk (hp_y.le hle4)) w hw) Z) (wz 12 Z Z (QV.mul Z Z Z Z c33) (wz 13 Z Z (QV.sub Z Z Z Z c35) (wz 14 Z Z (QV.assign Z Z) ?_))))))))
 refine WD.e (by kernel_rfl) ?_
 refine WQ.then ?_
 obtain ⟨o37, ho38, hm39⟩ := bd_some hm36; clear hm36; obtain ⟨n40, ho41⟩ := lp_some ho38
 refine WC.bloop1 (H2 := [kn noM w.heap.size w X4.2]) (τ := [u_ 0 _, u_ 1 _, u_ 2 _, u_ 7 _, u_ 9 _]) (fun (j10_1 : Int) => [(10, (true, i_ j10_1))]) (fun j10_1 => []) (fun j10_1 m => iter (KL_Apart_L0 y_Loop_Outs y_Pace y_Regs y_Ready a m_ x1) m j10_1 = some o37) (fun j10_1 => o37 = .go j10_1) ((Int.tmod ((Int.tmod ((ele y_Places a) - (ele y_Places m_)) y_Regs) + y_Regs) y_Regs) - (((Int.tdiv ((Int.tdiv 4000 y_Pace) + 1) y_Regs) + 2) * y_Regs)) n40 ho41 ⟨Z, Z, Z, Z, Z, Z, trivial⟩ (pk [0]) ?_ ?_
 ·skip
  rintro j10_1 rfl
  refine WQ.then (sr (wa Z (nt (WC.ret ?_))))
  obtain rfl := (eq_of_some hm39).symm
  exact WQ.ret1 Z Z fun w hw => kg hw
 rintro j10_1 m42 hI43
 obtain ⟨m44, s45, rfl, hm46, hn47⟩ := iter_step hI43; clear hI43; unfold KL_Apart_L0 at hm46
 refine WC.seq (sr (wm Z (wm Z (wq Z (QV.leq Z Z Z Z) (nt ?_)))))
 refine wc Z hm46 (fun h48 hm49 => ?_) (fun h48 hm58 => ?_) <;> clear hm46
 ·skip
  refine sk (WQ.then (WC.seq (WC.block (sr (wm Z (wm Z (wq Z (QV.neq Z Z Z Z) (wm Z (gn Z (fun hG => QV.move Z Z) (gn Z (fun hG => QV.neq Z hG Z Z) (wq Z (QV.pickOr Z Z Z (fun h => notF h)) (wm Z (gp Z (fun hG => QV.move Z Z) ?_)))))))))))))
  refine gp Z (fun hG => QV.move Z Z) (gp Z (fun hG => QV.move Z Z) (gp Z (fun hG => QV.move Z Z) (gp Z (fun hG => QV.move Z Z) ?_)))
  obtain ⟨x50, hx51, hm52⟩ := bdG_some hm49; clear hm49
  refine gp Z (fun hG => QV.call en102 (EvAll.cons Z hG (EvAll.cons Z hG (EvAll.cons Z hG (EvAll.cons Z hG (EvAll.cons Z hG eN))))) (fun w hw => have h := KL_bad_w w (hx51 hG) ((Own.karr 0 Z hk (h_y_Loop_Outs.le hle4)) w hw) ((Own.karr 0 Z hk (h_y_Ready.le hle4)) w hw) (Own.kcells 0 Z hk (hp_y.le hle4) w hw) ((Own.karr 0 Z hk hF4) w hw); h)) (wq Z (QV.pickAnd Z Z Z (fun h => h)) (nt ?_))
  refine wc Z hm52 (fun h53 hm54 => ?_) (fun h53 hm55 => ?_) <;> clear hm52
  ·skip
   refine sr (wa Z (nt (WC.ret (kr (tr (tr (kr (tr (tr ?_)))))))))
   obtain rfl := up_ret hm54 hn47
   obtain rfl := (eq_of_some hm39).symm
   exact WQ.ret1 Z Z fun w hw => kg hw
  refine sk (WQ.block (WQ.then (WC.region (wm Z (wm Z (wq Z (QV.nilCheck Z Z) (wf fd87_2 Z (wl pl3 Z (fun w hw => CellsAt.one 4 ((Own.kcells 0 Z hk (hp_y.le hle4)) w hw) Z) ?_))))))))
  obtain ⟨c56, hm57⟩ := cs hm55; clear hm55
  refine wq Z (QV.add Z Z Z Z c56) (wa Z (WL.nil ?_))
  exact WQ.again1 (j10_1 + y_Regs) m44 (up_next hm57 hn47) (Nat.lt_succ_self _) ⟨Z, Z, Z, Z, Z, Z, trivial⟩ (pk [0])
 refine WC.exit (te (te (WQ.block_exit ?_)))
 exact WQ.out1 j10_1 (up_brk hm58 hn47) ⟨Z, Z, Z, Z, Z, Z, trivial⟩ (pk [0])
theorem KL_Firsts_w {p_y : Addr} {v_y_Loop_Logs v_y_Loop_Body v_y_Loop_Outs v_y_Time v_y_Ready v_y_Places v_l : Value} {y_Loop_Logs : List Int} {y_Loop_Body : List Stm} {y_Loop_Outs : List Int} {y_Pace y_Regs : Int} {y_Places l : List Int} {r : Bool} (w : World) (hm : KL_Firsts_m y_Loop_Logs y_Loop_Body y_Loop_Outs y_Pace y_Regs y_Places l = some r) (h_y_Loop_Logs : Arr w v_y_Loop_Logs 1 (y_Loop_Logs.map icell)) (h_y_Loop_Body : Arr w v_y_Loop_Body 9 (y_Loop_Body.map Stm.cells)) (h_y_Loop_Outs : Arr w v_y_Loop_Outs 1 (y_Loop_Outs.map icell)) (h_y_Places : Arr w v_y_Places 1 (y_Places.map icell)) (hp_y : CellsAt w p_y [v_y_Loop_Logs, v_y_Loop_Body, v_y_Loop_Outs, .int .i64 y_Pace, .int .i64 y_Regs, v_y_Time, v_y_Ready, v_y_Places] 0) (h_l : Arr w v_l 1 (l.map icell)) : Calls Try.prog 64 #[.pointer (some p_y), v_l] w (fun e w' => e = .returned (.bool r) ∧ Grow w w') := by
 unfold KL_Firsts_m at hm
 have hk := Base.rfl (w := w)
 refine calls_of_WC (n := 58) (args := [.pointer (some p_y), v_l]) Try.func64 Z Z (nl Z) ?_ (Own.startK hk (Own.start w))
 refine sr (wa Z (ns (WL.effect Z ?_)))
 refine (EV.makeMap (ke := kI) (ve := bv) (by decide) (fun b1 => ?_))
 refine wa Z (nt (WC.seq (sr (wm Z (wq Z (QV.lenS Try.underlying22 Z Z h_l.lenMap) (wm Z (nt ?_)))))))
 obtain ⟨o2, ho3, hm4⟩ := bd_some hm; clear hm; obtain ⟨n5, ho6⟩ := lp_some ho3
 refine WC.bloop2 (H2 := [kn noM w.heap.size w w]) (τ := [u_ 0 _, u_ 5 _, u_ 11 _, u_ 12 _]) (fun (m1n_3 : List (Int × Bool)) (x13_3 : Int) => [(13, (true, i_ x13_3))]) (fun m1n_3 x13_3 => [mapR b1 kI bv m1n_3]) (fun m1n_3 x13_3 m => iter (KL_Firsts_L0 y_Loop_Logs y_Loop_Body y_Loop_Outs y_Regs y_Places l) m (m1n_3, x13_3) = some o2) (fun m1n_3 x13_3 => o2 = .go (m1n_3, x13_3)) ([] : List (Int × Bool)) 0 n5 ho6 ⟨Z, Z, Z, Z, Z, trivial⟩ (pk [0, 1]) ?_ ?_
 ·skip
  rintro m1n_3 x13_3 rfl
  refine WQ.then (sr (wa Z (nt (WC.ret ?_))))
  obtain rfl := (eq_of_some hm4).symm
  exact WQ.ret1 Z Z fun w hw => kg hw
 rintro m1n_3 x13_3 m7 hI8
 obtain ⟨m9, s10, rfl, hm11, hn12⟩ := iter_step hI8; clear hI8; unfold KL_Firsts_L0 at hm11; simp only at hm11
 refine sr (wq Z (QV.lss Z Z Z Z) (nt (WC.seq ?_)))
 refine wc Z hm11 (fun h13 hm14 => ?_) (fun h13 hm57 => ?_) <;> clear hm11
 ·skip
  refine sk (WQ.then (WC.seq (WC.block (sr ?_))))
  obtain ⟨c15, hm16⟩ := cs hm14; clear hm14
  obtain ⟨p17, hp18⟩ := h_l.lenMap.ix (sz := 1) ln_len c15
  refine wq Z (QV.indexSlice sl22 Z Z Z Z hp18) (wl pl3 Z (fun w hw => CellsAt.one 0 (((Own.karr 1 Z hk h_l) w hw).ele hp18 c15) Z) (wa Z (ns (wm Z (wq Z (QV.nilCheck Z Z) (wf fd87_0 Z (wq Z (QV.loadAgg ag25 Z Z Z (fun w hw => CellsAt.sub 0 3 ((Own.kcells 1 Z hk hp_y) w hw) Z)) (wm Z ?_))))))))
  obtain ⟨x19, hx20, hm21⟩ := bd_some hm16; clear hm16
  refine wq Z (QV.call en36 (ec Z (ec Z eN)) (fun w hw => have h := keep_Far_w w hx20 ((Own.karr 1 Z hk h_y_Loop_Logs) w hw) ((Own.karr 1 Z hk h_y_Loop_Body) w hw) ((Own.karr 1 Z hk h_y_Loop_Outs) w hw); h)) (wm Z (nt ?_))
  obtain ⟨o22, ho23, hm24⟩ := bd_some hm21; clear hm21; obtain ⟨n25, ho26⟩ := lp_some ho23
  refine WC.bloop2 (H2 := [kn noM w.heap.size w w]) (τ := [u_ 0 _, u_ 5 _, u_ 7 _, u_ 11 _, u_ 12 _, u_ 13 _, u_ 22 _]) (fun (m1n_4 : List (Int × Bool)) (x23_4 : Int) => [(23, (true, i_ x23_4))]) (fun m1n_4 x23_4 => [mapR b1 kI bv m1n_4]) (fun m1n_4 x23_4 m => iter (KL_Firsts_L2 y_Regs y_Places l x13_3 x19) m (m1n_4, x23_4) = some o22) (fun m1n_4 x23_4 => o22 = .go (m1n_4, x23_4)) m1n_3 0 n25 ho26 ⟨Z, Z, Z, Z, Z, Z, Z, Z, trivial⟩ (pk [0, 1]) ?_ ?_
  ·skip
   rintro m1n_4 x23_4 rfl
   refine WQ.block (WQ.then (WC.region ?_))
   obtain ⟨c27, hm28⟩ := cs hm24; clear hm24
   refine wq Z (QV.add Z Z Z Z c27) (wm Z (WL.nil ?_))
   exact WQ.again2 m1n_4 (x13_3 + 1) m9 (up_next hm28 hn12) (Nat.lt_succ_self _) ⟨Z, Z, Z, Z, Z, trivial⟩ (pk [0, 1])
  rintro m1n_4 x23_4 m29 hI30
  obtain ⟨m31, s32, rfl, hm33, hn34⟩ := iter_step hI30; clear hI30; unfold KL_Firsts_L2 at hm33; simp only at hm33
  refine sr (wq Z (QV.lss Z Z Z Z) (nt (WC.seq ?_)))
  refine wc Z hm33 (fun h35 hm36 => ?_) (fun h35 hm56 => ?_) <;> clear hm33
  ·skip
   refine sk (WQ.then (WC.seq (WC.block (sr (wm Z (wa Z (nt (WC.seq (WC.dr (m := 26) (S := Own noM w [kn noM w.heap.size w w, mapR b1 kI bv m1n_4]) (by kernel_rfl) (by kernel_rfl) (pk [1, 0]) (zm 0 Z Z (wz 1 Z Z (QV.nilCheck Z Z) (zf 2 fd87_5 Z Z (zl 3 pl22 Z Z (fun w hw => CellsAt.one 7 ((Own.kcells 0 Z hk hp_y) w hw) Z) (zm 4 Z Z ?_))))))))))))))
   obtain ⟨c37, hm38⟩ := cs hm36; clear hm36
   obtain ⟨p39, hp40⟩ := h_y_Places.lenMap.ix (sz := 1) ln_len c37
   refine wz 5 Z Z (QV.indexSlice sl22 Z Z Z Z hp40) (zl 6 pl3 Z Z (fun w hw => CellsAt.one 0 (((Own.karr 0 Z hk h_y_Places) w hw).ele hp40 c37) Z) (zm 7 Z Z ?_))
   obtain ⟨c41, c43, c45, c47, c49, hm50⟩ := cs5 hm38; clear hm38
   refine wz 8 Z Z (QV.sub Z Z Z Z c41) (wz 9 Z Z (QV.sub Z Z Z Z c43) (zm 10 Z Z (wz 11 Z Z (QV.nilCheck Z Z) (zf 12 fd87_2 Z Z (zl 13 pl3 Z Z (fun w hw => CellsAt.one 4 ((Own.kcells 0 Z hk hp_y) w hw) Z) (wz 14 Z Z (QV.rem Z Z Z Z c45) (zm 15 Z Z (wz 16 Z Z (QV.nilCheck Z Z) (zf 17 fd87_2 Z Z ?_)))))))))
   refine zl 18 pl3 Z Z (fun w hw => CellsAt.one 4 ((Own.kcells 0 Z hk hp_y) w hw) Z) (wz 19 Z Z (QV.add Z Z Z Z c47) (zm 20 Z Z (wz 21 Z Z (QV.nilCheck Z Z) (zf 22 fd87_2 Z Z (zl 23 pl3 Z Z (fun w hw => CellsAt.one 4 ((Own.kcells 0 Z hk hp_y) w hw) Z) (wz 24 Z Z (QV.rem Z Z Z Z c49) (wz 25 Z Z (QV.assign Z Z) ?_)))))))
   refine WD.e (by kernel_rfl) ?_
   refine WQ.then (WC.seq (sr (wm Z (wm Z (wq Z (QV.lookup (k := (Int.tmod ((Int.tmod (((ele y_Places (ele l x13_3)) - x23_4) - 1) y_Regs) + y_Regs) y_Regs)) 0 false mt154 kt3 zv4bv Z Z Z Z Z) (nt ?_))))))
   refine wc Z hm50 (fun h51 hm52 => ?_) (fun h51 hm53 => ?_) <;> clear hm50
   ·skip
    refine sr (wa Z (nt (WC.ret (tr (kr (tr (tr (kr (tr (kr (tr (tr (kr (tr (tr ?_)))))))))))))))
    obtain rfl := up_ret hm52 hn34
    obtain rfl := up_ret hm24 hn12
    obtain rfl := (eq_of_some hm4).symm
    exact WQ.ret1 Z Z fun w hw => kg hw
   refine sk (WQ.then (WC.region (wm Z (wm Z (WL.effect Z ?_)))))
   refine (EV.mapUpdate (ke := kI) (ve := bv) (Int.tmod ((Int.tmod (((ele y_Places (ele l x13_3)) - x23_4) - 1) y_Regs) + y_Regs) y_Regs) 0 true mt154 kt3 Z Z Z Z Z Z Z ?_)
   refine WL.nil (WQ.block (WQ.then (WC.region ?_)))
   obtain ⟨c54, hm55⟩ := cs hm53; clear hm53
   refine wq Z (QV.add Z Z Z Z c54) (wm Z (WL.nil ?_))
   exact WQ.again2 (mput m1n_4 (Int.tmod ((Int.tmod (((ele y_Places (ele l x13_3)) - x23_4) - 1) y_Regs) + y_Regs) y_Regs) true) (x23_4 + 1) m31 (up_next hm55 hn34) (Nat.lt_succ_self _) ⟨Z, Z, Z, Z, Z, Z, Z, Z, trivial⟩ (pk [0, 1])
  refine WC.exit (te (te (WQ.block_exit ?_)))
  exact WQ.out2 m1n_4 x23_4 (up_brk hm56 hn34) ⟨Z, Z, Z, Z, Z, Z, Z, Z, trivial⟩ (pk [0, 1])
 refine WC.exit (te (te (WQ.block_exit ?_)))
 exact WQ.out2 m1n_3 x13_3 (up_brk hm57 hn12) ⟨Z, Z, Z, Z, Z, trivial⟩ (pk [0, 1])
end Go.Proofs.Ytaimbkndebaaiac
end
section
namespace Go.Proofs.Ytaimbkndebaaiac
open Go.Rd
open TNum TLoop TKern TKeep
namespace TOrd
theorem en123 : Go.Rd.Enters Try.prog 123 := eT Try.func123
theorem en124 : Go.Rd.Enters Try.prog 124 := eT Try.func124
theorem en137 : Go.Rd.Enters Try.prog 137 := eT Try.func137
theorem fd71_0 : FieldT Try.prog 71 0 0 := fT 0 Try.underlying71
theorem fd71_1 : FieldT Try.prog 71 1 1 := fT 0 Try.underlying71
theorem fd71_2 : FieldT Try.prog 71 2 2 := fT 0 Try.underlying71
theorem fd71_3 : FieldT Try.prog 71 3 3 := fT 0 Try.underlying71
theorem sz_22 : SliceZ Try.prog 22 3 1 [.int .i64 0] := ⟨Try.underlying22, by kernel_rfl⟩
end TOrd
open TOrd
theorem cmp_isNaN_int__w {x : Int} {r : Bool} (w : World) (hm : cmp_isNaN_int__m x = some r)  : Calls Try.prog 137 #[.int .i64 x] w (fun e w' => e = .returned (.bool r) ∧ Grow w w') := by
 unfold cmp_isNaN_int__m at hm
 have hk := Base.rfl (w := w)
 refine calls_of_WC (n := 6) (args := [i_ x]) Try.func137 Z Z (nl Z) ?_ (Own.startK hk (Own.start w))
 refine sr (wa Z (ns (wm Z (wm Z (wq Z (QV.neq Z Z Z Z) (wa Z (nt (WC.ret ?_))))))))
 obtain rfl := (eq_of_some hm).symm
 exact WQ.ret1 Z Z fun w hw => kg hw
theorem cmp_Compare_int__w {x y r : Int} (w : World) (hm : cmp_Compare_int__m x y = some r)  : Calls Try.prog 124 #[.int .i64 x, .int .i64 y] w (fun e w' => e = .returned (.int .i64 r) ∧ Grow w w') := by
 unfold cmp_Compare_int__m at hm
 have hk := Base.rfl (w := w)
 refine calls_of_WC (n := 20) (args := [i_ x, i_ y]) Try.func124 Z Z (nl Z) ?_ (Own.startK hk (Own.start w))
 refine sr (wa Z (ns (wm Z ?_)))
 obtain ⟨x1, hx2, hm3⟩ := bd_some hm; clear hm
 refine wq Z (QV.call en137 (ec Z eN) (fun w hw => have h := cmp_isNaN_int__w w hx2 ; h)) (wa Z (ns (wm Z ?_)))
 obtain ⟨x4, hx5, hm6⟩ := bd_some hm3; clear hm3
 refine wq Z (QV.call en137 (ec Z eN) (fun w hw => have h := cmp_isNaN_int__w w hx5 ; h)) (wa Z (nt (WC.seq (sr (wm Z (nt ?_))))))
 refine wc Z hm6 (fun h7 hm8 => ?_) (fun h7 hm12 => ?_) <;> clear hm6
 ·skip
  refine WC.seq (sr (wm Z (nt ?_)))
  refine wc Z hm8 (fun h9 hm10 => ?_) (fun h9 hm11 => ?_) <;> clear hm8
  ·skip
   refine sr (wa Z (nt (WC.ret (tr (tr ?_)))))
   obtain rfl := (eq_of_some hm10).symm
   exact WQ.ret1 Z Z fun w hw => kg hw
  refine sk (WQ.then (sr (wa Z (nt (WC.ret (tr ?_))))))
  obtain rfl := (eq_of_some hm11).symm
  exact WQ.ret1 Z Z fun w hw => kg hw
 refine sk (WQ.then (WC.seq (sr (wm Z (nt ?_)))))
 refine wc Z hm12 (fun h13 hm14 => ?_) (fun h13 hm15 => ?_) <;> clear hm12
 ·skip
  refine sr (wa Z (nt (WC.ret (tr ?_))))
  obtain rfl := (eq_of_some hm14).symm
  exact WQ.ret1 Z Z fun w hw => kg hw
 refine sk (WQ.then (WC.seq (sr (wm Z (wm Z (wq Z (QV.lss Z Z Z Z) (nt ?_)))))))
 refine wc Z hm15 (fun h16 hm17 => ?_) (fun h16 hm18 => ?_) <;> clear hm15
 ·skip
  refine sr (wa Z (nt (WC.ret (tr ?_))))
  obtain rfl := (eq_of_some hm17).symm
  exact WQ.ret1 Z Z fun w hw => kg hw
 refine sk (WQ.then (WC.seq (sr (wm Z (wm Z (wq Z (QV.gtr Z Z Z Z) (nt ?_)))))))
 refine wc Z hm18 (fun h19 hm20 => ?_) (fun h19 hm21 => ?_) <;> clear hm18
 ·skip
  refine sr (wa Z (nt (WC.ret (tr ?_))))
  obtain rfl := (eq_of_some hm20).symm
  exact WQ.ret1 Z Z fun w hw => kg hw
 refine sk (WQ.then (sr (wa Z (nt (WC.ret ?_)))))
 obtain rfl := (eq_of_some hm21).symm
 exact WQ.ret1 Z Z fun w hw => kg hw
theorem cmp_Or_int__w {v_vals : Value} {vals : List Int} {r : Int} (w : World) (hm : cmp_Or_int__m vals = some r) (h_vals : Arr w v_vals 1 (vals.map icell)) : Calls Try.prog 123 #[v_vals] w (fun e w' => e = .returned (.int .i64 r) ∧ Grow w w') := by
 unfold cmp_Or_int__m at hm
 have hk := Base.rfl (w := w)
 refine calls_of_WC (n := 18) (args := [v_vals]) Try.func123 Z Z (nl Z) ?_ (Own.startK hk (Own.start w))
 refine sr (wa Z (ns (wa Z (nt (WC.seq (sr (wm Z (wq Z (QV.lenS Try.underlying22 Z Z h_vals.lenMap) (wm Z (nt ?_))))))))))
 obtain ⟨o1, ho2, hm3⟩ := bd_some hm; clear hm; obtain ⟨n4, ho5⟩ := lp_some ho2
 refine WC.bloop1 (H2 := [kn noM w.heap.size w w]) (τ := [u_ 3 _, u_ 6 _, u_ 7 _]) (fun (x8_1 : Int) => [(8, (true, i_ x8_1))]) (fun x8_1 => []) (fun x8_1 m => iter (cmp_Or_int__L0 vals) m x8_1 = some o1) (fun x8_1 => o1 = .go x8_1) 0 n4 ho5 ⟨Z, Z, Z, Z, trivial⟩ (pk [0]) ?_ ?_
 ·skip
  rintro x8_1 rfl
  refine WQ.then (sr (wm Z (wa Z (nt (WC.ret ?_)))))
  obtain rfl := (eq_of_some hm3).symm
  exact WQ.ret1 Z Z fun w hw => kg hw
 rintro x8_1 m6 hI7
 obtain ⟨m8, s9, rfl, hm10, hn11⟩ := iter_step hI7; clear hI7; unfold cmp_Or_int__L0 at hm10
 refine sr (wq Z (QV.lss Z Z Z Z) (nt (WC.seq ?_)))
 refine wc Z hm10 (fun h12 hm13 => ?_) (fun h12 hm23 => ?_) <;> clear hm10
 ·skip
  refine sk (WQ.then (WC.seq (WC.block (sr ?_))))
  obtain ⟨c14, hm15⟩ := cs hm13; clear hm13
  obtain ⟨p16, hp17⟩ := h_vals.lenMap.ix (sz := 1) ln_len c14
  refine wq Z (QV.indexSlice sl22 Z Z Z Z hp17) (wl pl3 Z (fun w hw => CellsAt.one 0 (((Own.karr 0 Z hk h_vals) w hw).ele hp17 c14) Z) (wa Z (ns (wm Z (wm Z (wq Z (QV.neq Z Z Z Z) (nt ?_)))))))
  refine wc Z hm15 (fun h18 hm19 => ?_) (fun h18 hm20 => ?_) <;> clear hm15
  ·skip
   refine sr (wm Z (wa Z (nt (WC.ret (kr (tr (tr (kr (tr (tr ?_))))))))))
   obtain rfl := up_ret hm19 hn11
   obtain rfl := (eq_of_some hm3).symm
   exact WQ.ret1 Z Z fun w hw => kg hw
  refine sk (WQ.block (WQ.then (WC.region ?_)))
  obtain ⟨c21, hm22⟩ := cs hm20; clear hm20
  refine wq Z (QV.add Z Z Z Z c21) (wm Z (WL.nil ?_))
  exact WQ.again1 (x8_1 + 1) m8 (up_next hm22 hn11) (Nat.lt_succ_self _) ⟨Z, Z, Z, Z, trivial⟩ (pk [0])
 refine WC.exit (te (te (WQ.block_exit ?_)))
 exact WQ.out1 x8_1 (up_brk hm23 hn11) ⟨Z, Z, Z, Z, trivial⟩ (pk [0])
theorem dep_order_w {a b : Edg} {r : Int} (w : World) (hm : dep_order_m a b = some r)  : Calls Try.prog 99 #[.agg #[.int .i64 a.fr, .int .i64 a.to, .int .i64 a.bk, .int .i64 a.wt], .agg #[.int .i64 b.fr, .int .i64 b.to, .int .i64 b.bk, .int .i64 b.wt]] w (fun e w' => e = .returned (.int .i64 r) ∧ Grow w w') := by
 unfold dep_order_m at hm
 have hk := Base.rfl (w := w)
 refine calls_of_WC (n := 27) (args := [.agg #[i_ a.fr, i_ a.to, i_ a.bk, i_ a.wt], .agg #[i_ b.fr, i_ b.to, i_ b.bk, i_ b.wt]]) Try.func99 Z Z (nl Z) ?_ (Own.startK hk (Own.start w))
 refine sr (WL.effect Z ?_)
 refine (EV.boxAgg (by decide) Z Z (fun b1 => ?_))
 refine WL.effect Z ?_
 refine (EV.boxAgg (by decide) Z Z (fun b2 => ?_))
 refine wa Z (nt (WC.seq (WC.dr (m := 23) (S := Own noM w [kn noM w.heap.size w w, blk b2 b.cells 71, blk b1 a.cells 71]) (by kernel_rfl) (by kernel_rfl) (pk [2, 0, 1]) (zf 0 fd71_0 Z Z (zl 1 pl3 Z Z (Own.cell 2 Z Z) (zf 2 fd71_0 Z Z (zl 3 pl3 Z Z (Own.cell 1 Z Z) ?_)))))))
 obtain ⟨x3, hx4, hm5⟩ := bd_some hm; clear hm
 refine wz 4 Z Z (QV.call en124 (ec Z (ec Z eN)) (fun w hw => have h := cmp_Compare_int__w w hx4 ; h)) (zf 5 fd71_1 Z Z (zl 6 pl3 Z Z (Own.cell 2 Z Z) (zf 7 fd71_1 Z Z (zl 8 pl3 Z Z (Own.cell 1 Z Z) ?_))))
 obtain ⟨x6, hx7, hm8⟩ := bd_some hm5; clear hm5
 refine wz 9 Z Z (QV.call en124 (ec Z (ec Z eN)) (fun w hw => have h := cmp_Compare_int__w w hx7 ; h)) (zf 10 fd71_2 Z Z (zl 11 pl3 Z Z (Own.cell 2 Z Z) (zf 12 fd71_2 Z Z (zl 13 pl3 Z Z (Own.cell 1 Z Z) ?_))))
 obtain ⟨x9, hx10, hm11⟩ := bd_some hm8; clear hm8
 refine wz 14 Z Z (QV.call en124 (ec Z (ec Z eN)) (fun w hw => have h := cmp_Compare_int__w w hx10 ; h)) (zf 15 fd71_3 Z Z (zl 16 pl3 Z Z (Own.cell 2 Z Z) (zf 17 fd71_3 Z Z (zl 18 pl3 Z Z (Own.cell 1 Z Z) ?_))))
 obtain ⟨x12, hx13, hm14⟩ := bd_some hm11; clear hm11
 refine wz 19 Z Z (QV.call en124 (ec Z (ec Z eN)) (fun w hw => have h := cmp_Compare_int__w w hx13 ; h)) ?_
 refine WD.o 20 Z (by kernel_rfl) Z ?_
 refine (EV.buildSlice (by decide) sz_22 (by decide) (by decide) (ps := [(0, .tmp 9), (1, .tmp 14), (2, .tmp 19), (3, .tmp 24)]) (cells := [i_ x3, i_ x6, i_ x9, i_ x12]) (ec Z (ec Z (ec Z (ec Z eN)))) (by kernel_rfl) (fun b15 => ?_))
 refine WD.b (H' := [kn noM w.heap.size w w, blk b15 [i_ x3, i_ x6, i_ x9, i_ x12] 3, blk b2 b.cells 71, blk b1 a.cells 71]) (pk [3, 0, 1, 2]) (pk [0, 2, 3]) ?_
 obtain ⟨x16, hx17, hm18⟩ := bd_some hm14; clear hm14
 refine wz 21 Z Z (QV.call en123 (ec Z eN) (fun w hw => have h := cmp_Or_int__w w hx17 ((Own.blkArr 1 (rows := [x3, x6, x9, x12].map icell) Z Z (rows_len icell_len)) w hw); h)) (wz 22 Z Z (QV.assign Z Z) ?_)
 refine WD.e (by kernel_rfl) ?_
 refine WQ.then (WC.ret ?_)
 obtain rfl := (eq_of_some hm18).symm
 exact WQ.ret1 Z Z fun w hw => kg hw
end Go.Proofs.Ytaimbkndebaaiac
end
section
namespace Go.Rd
open Go.RowKit Go.Sort Go.Shelf Go.Lib Go.Proofs
section
variable {α : Type} [Inhabited α] {enc : α → List Value} {k : Nat}
theorem flatK_list (hk : ∀ x, (enc x).length = k) (h0 : 0 < k) (xs : List α) : (flatK enc k xs.toArray).toList = (xs.map enc).flatten := by
 apply List.ext_getElem?
 intro j
 have hall : ∀ r ∈ xs.map enc, r.length = k := fun r hr => by obtain ⟨u, _, rfl⟩ := List.mem_map.1 hr; exact hk u
 have hfl := flatten_len hall
 rw [List.length_map] at hfl
 by_cases hj : j < xs.length * k
 ·have hq : j / k < xs.length := Nat.div_lt_of_lt_mul (by rwa [Nat.mul_comm] at hj)
  have hmod : j % k < k := Nat.mod_lt _ h0
  have hd := drop_flatten (sz := k) (rows := xs.map enc) (i := j / k) (r := enc xs[j / k]) hall (by simp [hq])
  have e1 : (xs.map enc).flatten[j]? = (enc xs[j / k])[j % k]? := by
   have : (enc xs[j / k])[j % k]? = (((xs.map enc).flatten.drop (j / k * k)).take (enc xs[j / k]).length)[j % k]? := by rw [hd]
   rw [this, List.getElem?_take, hk, if_pos hmod, List.getElem?_drop, Nat.mul_comm, Nat.div_add_mod]
  have hlt : j % k < (enc xs[j / k]).length := by rw [hk]; exact hmod
  rw [e1, List.getElem?_eq_getElem hlt]
  simp [flatK, hj, hq, hlt]
 ·rw [List.getElem?_eq_none (by rw [Array.length_toList, size_flatK, List.size_toArray]; omega), List.getElem?_eq_none (by rw [hfl]; omega)]
variable {M : Nat → Prop} {w w0 : World} {H : List Res} {E : TypeId} {b n cap : Nat} {xs ys : List α}
theorem vec_holdsK (hk : ∀ x, (enc x).length = k) (h0 : 0 < k) (h : (vec (.slice (some ⟨b, 0, none⟩) n cap) E k (xs.map enc)).holds w) : HoldsK enc k w b 0 xs.toArray ∧ n = xs.length ∧ b < w.heap.size := by
 obtain ⟨⟨h1, h2⟩, h3⟩ := h
 rcases h2 with ⟨h, _⟩ | ⟨g, cap', cur, hv, _, hh, hnc, _, hcs, ht⟩
 ·cases h
 ·simp only [Value.slice.injEq, Option.some.injEq, Addr.mk.injEq, List.length_map] at hv
  obtain ⟨⟨rfl, _⟩, rfl, rfl⟩ := hv
  refine ⟨fun j hj => ?_, rfl, (Array.getElem?_eq_some_iff.1 hh).1⟩
  rw [size_flatK, List.size_toArray] at hj
  rw [List.length_map] at hnc ht
  have hlt : j < cur.size := by rw [hcs]; exact Nat.lt_of_lt_of_le hj (Nat.mul_le_mul_right _ hnc)
  have hl := flatK_list hk h0 xs
  have hget : cur[j]? = some (id (flatK enc k xs.toArray)[j]!) := by
   have h1 : (flatK enc k xs.toArray)[j]? = some (flatK enc k xs.toArray)[j]! := by
    have : j < (flatK enc k xs.toArray).size := by simpa using hj
    rw [getElem!_pos (flatK enc k xs.toArray) j this, Array.getElem?_eq_getElem this]
   have h2 : (flatK enc k xs.toArray).toList[j]? = cur.toList[j]? := by
    rw [hl, ← ht, List.getElem?_take, if_pos hj]
   rw [Array.getElem?_toList, Array.getElem?_toList] at h2
   rw [← h2, h1]; rfl
  rw [Nat.zero_add]
  refine ⟨?_, by simp [World.frozen?, hh]⟩
  simp only [World.cell?, hh]
  exact hget
theorem sortedK_facts {m : Nat} {os : Array Obj} : ((sortWorldK enc k w b 0 m ys.toArray os).os = w.os ∧ (sortWorldK enc k w b 0 m ys.toArray os).tape = w.tape ∧ ((sortWorldK enc k w b 0 m ys.toArray os).output = w.output ∧ w.drawn ≤ (sortWorldK enc k w b 0 m ys.toArray os).drawn) ∧ w.heap.size ≤ (sortWorldK enc k w b 0 m ys.toArray os).heap.size) ∧
  (∀ j, j < w.heap.size → j ≠ b → (sortWorldK enc k w b 0 m ys.toArray os).heap[j]? = w.heap[j]?) ∧
  (∀ cur t, w.heap[b]? = some (.cells cur t (0, 0)) → (sortWorldK enc k w b 0 m ys.toArray os).heap[b]? = some (.cells (putCells id 0 (flatK enc k ys.toArray) cur) t (0, 0))) := by
 refine ⟨⟨rfl, rfl, ⟨rfl, Nat.le_add_right _ _⟩, ?_⟩, fun j hj hne => ?_, fun cur t hc => ?_⟩
 ·show w.heap.size ≤ (w.heap.modify b _ ++ os).size
  simp
 ·show (w.heap.modify b (onCells (putCells id 0 (flatK enc k ys.toArray))) ++ os)[j]? = _
  rw [Array.getElem?_append_left (by simpa using hj), Array.getElem?_modify, if_neg (Ne.symm hne)]
 ·have hj := (Array.getElem?_eq_some_iff.1 hc).1
  show (w.heap.modify b (onCells (putCells id 0 (flatK enc k ys.toArray))) ++ os)[b]? = _
  rw [Array.getElem?_append_left (by simpa using hj), Array.getElem?_modify, if_pos rfl, hc]
  rfl
theorem vec_sorted (hk : ∀ x, (enc x).length = k) (h0 : 0 < k) (h : (vec (.slice (some ⟨b, 0, none⟩) n cap) E k (xs.map enc)).holds w) (hl : ys.length = xs.length) (m : Nat) (os : Array Obj) :
  (vec (.slice (some ⟨b, 0, none⟩) n cap) E k (ys.map enc)).holds (sortWorldK enc k w b 0 m ys.toArray os) := by
 obtain ⟨⟨h1, h2⟩, h3⟩ := h
 rcases h2 with ⟨h, _⟩ | ⟨g, cap', cur, hv, hg0, hh, hnc, hcm, hcs, ht⟩
 ·cases h
 ·simp only [Value.slice.injEq, Option.some.injEq, Addr.mk.injEq] at hv
  obtain ⟨⟨rfl, _⟩, rfl, rfl⟩ := hv
  have hall : ∀ r ∈ ys.map enc, r.length = k := fun r hr => by obtain ⟨u, _, rfl⟩ := List.mem_map.1 hr; exact hk u
  have hfl := flatten_len hall
  have hb := (sortedK_facts (enc := enc) (k := k) (w := w) (b := b) (ys := ys) (m := m) (os := os)).2.2 cur E hh
  have hlm : (ys.map enc).length = (xs.map enc).length := by simp [hl]
  refine ⟨⟨hfl, .inr ⟨b, cap, putCells id 0 (flatK enc k ys.toArray) cur, by rw [hlm], hg0, hb, by rw [hlm]; exact hnc, hcm, by simp [putCells, hcs], ?_⟩⟩, hall⟩
  rw [← flatK_list hk h0 ys]
  apply List.ext_getElem?
  intro j
  rw [List.getElem?_take]
  have hs : (flatK enc k ys.toArray).size = (ys.map enc).length * k := by simp
  by_cases hj : j < (ys.map enc).length * k
  ·have hlt : j < cur.size := by rw [hcs]; rw [hlm] at hj; exact Nat.lt_of_lt_of_le hj (Nat.mul_le_mul_right _ hnc)
   have hjf : j < (flatK enc k ys.toArray).size := by rw [hs]; exact hj
   rw [if_pos hj, Array.getElem?_toList, Array.getElem?_toList]
   rw [Array.getElem?_eq_getElem hjf]
   have hj' : j < ys.length * k := by rw [List.length_map] at hj; exact hj
   simp [putCells, hlt, hj']
  ·rw [if_neg hj, List.getElem?_eq_none (by rw [Array.length_toList, hs]; omega)]
theorem Own.sorted {K0 : World} (hb : Base M K0 w) (hk : ∀ x, (enc x).length = k) (h0 : 0 < k) (hw : Own M w [vec (.slice (some ⟨b, 0, none⟩) n cap) E k (xs.map enc)] w) (hl : ys.length = xs.length) (m : Nat) (os : Array Obj) :
  Own M w (kn M w.heap.size K0 K0 :: [vec (.slice (some ⟨b, 0, none⟩) n cap) E k (ys.map enc)]) (sortWorldK enc k w b 0 m ys.toArray os) := by
 have hs := Own.startK hb hw
 obtain ⟨⟨f1, f2, f3, f4⟩, f5, f6⟩ := sortedK_facts (enc := enc) (k := k) (w := w) (b := b) (ys := ys) (m := m) (os := os)
 refine hs.upd 1 rfl f1 f2 f3 f4 (fun j hj hn => f5 j hj fun e => hn (by subst e; exact ⟨_, _, rfl⟩)) (vec_sorted hk h0 hw.head hl m os) fun j hj => ?_
 refine ⟨.inl hj, ?_⟩
 obtain ⟨n2, c2, he⟩ := hj
 simp only [Value.slice.injEq, Option.some.injEq, Addr.mk.injEq] at he
 obtain ⟨⟨rfl, _⟩, _⟩ := he
 have := (vec_holdsK hk h0 hw.head).2.2
 omega
theorem grow_of {w w' : World} (h : Grow w w') : ∃ q os', w' = grow (w.drewN q) os' := by
 obtain ⟨h1, h2, ⟨h3, h4⟩, h5, h6⟩ := h
 refine ⟨w'.drawn - w.drawn, w'.heap.extract w.heap.size w'.heap.size, ?_⟩
 cases w'
 simp only [grow, World.drewN] at *
 subst h1 h2 h3
 congr 1
 ·apply Array.ext_getElem?
  intro j
  by_cases hj : j < w.heap.size
  ·rw [Array.getElem?_append_left hj]; exact h6 j hj
  ·rw [Array.getElem?_append_right (by omega), Array.getElem?_extract]
   split
   ·congr 1; omega
   ·rw [Array.getElem?_eq_none (by omega)]
 ·omega
end
end Go.Rd
end
section
namespace Go.Rd
open Go.Sort Go.Shelf Go.Lib Go.Proofs
theorem ord_swo : SWO (ltOf ordV) where
 irrefl x := by unfold ltOf; simp [ordV]
 trans x y z h1 h2 := by
  unfold ltOf at *
  simp only [decide_eq_true_eq, ordV_neg] at *
  omega
 ntrans x y z h1 h2 := by
  unfold ltOf at *
  simp only [decide_eq_false_iff_not, ordV_neg] at *
  omega
theorem ord_total (x y : Edg) (h1 : ltOf ordV x y = false) (h2 : ltOf ordV y x = false) : x = y := by
 unfold ltOf at *
 simp only [decide_eq_false_iff_not, ordV_neg] at *
 cases x; cases y
 simp only [Edg.mk.injEq] at *
 omega
end Go.Rd
end
section
namespace Go.Proofs.Ytaimbkndebaaiac
open Go.Rd
open TNum TLoop TKern TKeep TOrd
namespace TCpt
theorem ag71 : AggT Try.prog 71 4 := ⟨_, Try.underlying71, rfl, by kernel_rfl⟩
theorem eq71 : EqT Try.prog 71 4 := ⟨by kernel_rfl, ⟨_, Try.underlying71⟩, by kernel_rfl, by kernel_rfl⟩
theorem sl68 : SliceT Try.prog 68 71 4 := ⟨Try.underlying68, by kernel_rfl⟩
theorem sz71 : SizeT Try.prog 71 4 := by unfold SizeT; kernel_rfl
theorem ze71 : ZeroT Try.prog 71 [.int .i64 0, .int .i64 0, .int .i64 0, .int .i64 0] := by unfold ZeroT; kernel_rfl
end TCpt
open TCpt
theorem slices_Compact___api_Edge_api_Edge__w {v_s : Value} {s r : List Edg} {K0 : World} (hm : slices_Compact___api_Edge_api_Edge__m s = some r) (h_s : SliceLen v_s s.length) (M : Nat → Prop) (w : World) (hk : Base M K0 w) (hw0 : Own M w [vec v_s 71 4 (List.map Edg.cells s)] w) : Calls Try.prog 100 #[v_s] w (fun e w' => ∃ X : Value × World, e = .returned (X.1) ∧ Own M w (kn M w.heap.size K0 X.2 :: []) w' ∧ Arr X.2 X.1 4 (r.map Edg.cells)) := by
 unfold slices_Compact___api_Edge_api_Edge__m at hm
 refine calls_of_WC (n := 61) (args := [v_s]) Try.func100 Z Z (nl Z) ?_ (Own.startK hk hw0)
 refine sr (wa Z (nt (WC.seq (sr (wm Z (wq Z (QV.lenS Try.underlying68 Z Z h_s) (wq Z (QV.lss Z Z Z Z) (nt ?_))))))))
 refine wc Z hm (fun h1 hm2 => ?_) (fun h1 hm4 => ?_) <;> clear hm
 ·skip
  refine sr (wm Z (wa Z (nt (WC.ret (tr ?_)))))
  obtain rfl := (eq_of_some hm2).symm
  refine WK.freeze hk (fun k3 hle3 hr3 => ?_)
  have hA3 := vec_arr hr3
  refine WQ.ret1 Z Z (fun w hw => ?_)
  exact ⟨(v_s, k3), Z, hw.pick [0] (by decide), hA3⟩
 refine sk (WQ.then (WC.seq (sr (wa Z (nt ?_)))))
 obtain ⟨o5, ho6, hm7⟩ := bd_some hm4; clear hm4; obtain ⟨n8, ho9⟩ := lp_some ho6
 refine WC.bloop2 (H2 := [kn M w.heap.size K0 K0]) (τ := [u_ 0 _]) (fun (ows0_3 : List Edg) (k3_3 : Int) => [(3, (true, i_ k3_3))]) (fun ows0_3 k3_3 => [vec v_s 71 4 (List.map Edg.cells ows0_3)]) (fun ows0_3 k3_3 m => iter (slices_Compact___api_Edge_api_Edge__L0) m (ows0_3, k3_3) = some o5 ∧ SliceLen v_s ows0_3.length) (fun ows0_3 k3_3 => o5 = .go (ows0_3, k3_3) ∧ SliceLen v_s ows0_3.length) s 1 n8 ⟨ho9, h_s⟩ ⟨Z, Z, trivial⟩ (pk [1, 0]) ?_ ?_
 ·skip
  rintro ows0_3 k3_3 ⟨rfl, hlows0_3⟩
  refine WQ.then (sr (wm Z (wa Z (nt (WC.ret ?_)))))
  obtain rfl := (eq_of_some hm7).symm
  refine WK.of (C' := Own M w [kn M w.heap.size K0 K0, vec v_s 71 4 (List.map Edg.cells ows0_3)]) (pk [1, 0]) ?_
  refine WK.freeze hk (fun k10 hle10 hr10 => ?_)
  have hA10 := vec_arr hr10
  refine WQ.ret1 Z Z (fun w hw => ?_)
  exact ⟨(v_s, k10), Z, hw.pick [0] (by decide), hA10⟩
 rintro ows0_3 k3_3 m11 ⟨hI12, hlows0_3⟩
 obtain ⟨m13, s14, rfl, hm15, hn16⟩ := iter_step hI12; clear hI12; unfold slices_Compact___api_Edge_api_Edge__L0 at hm15; simp only at hm15
 refine WC.seq (sr (wm Z (wm Z (wq Z (QV.lenS Try.underlying68 Z Z hlows0_3) (wq Z (QV.lss Z Z Z Z) (nt ?_))))))
 refine wc Z hm15 (fun h17 hm18 => ?_) (fun h17 hm87 => ?_) <;> clear hm15
 ·skip
  refine sk (WQ.then (WC.seq (WC.block (WC.seq (WC.dr (m := 10) (S := Own M w [kn M w.heap.size K0 K0, vec v_s 71 4 (List.map Edg.cells ows0_3)]) (by kernel_rfl) (by kernel_rfl) (pk [1, 0]) (zm 0 Z Z (zm 1 Z Z ?_)))))))
  obtain ⟨c19, hm20⟩ := cs hm18; clear hm18
  obtain ⟨p21, hp22⟩ := hlows0_3.ix (sz := 4) ln_len c19
  refine wz 2 Z Z (QV.indexSlice sl68 Z Z Z Z hp22) (wz 3 Z Z (QV.loadAgg ag71 Z Z Z (fun w hw => ((Own.vecArr 1 Z) w hw).ele hp22 c19)) (zm 4 Z Z (zm 5 Z Z ?_)))
  obtain ⟨c23, c25, hm26⟩ := cs2 hm20; clear hm20
  refine wz 6 Z Z (QV.sub Z Z Z Z c23) ?_
  obtain ⟨p27, hp28⟩ := hlows0_3.ix (sz := 4) ln_len c25
  refine wz 7 Z Z (QV.indexSlice sl68 Z Z Z Z hp28) (wz 8 Z Z (QV.loadAgg ag71 Z Z Z (fun w hw => ((Own.vecArr 1 Z) w hw).ele hp28 c25)) (wz 9 Z Z (QV.eqlF eq71 (ns := [(ele ows0_3 k3_3).fr, (ele ows0_3 k3_3).to, (ele ows0_3 k3_3).bk, (ele ows0_3 k3_3).wt]) (ms := [(ele ows0_3 (k3_3 - 1)).fr, (ele ows0_3 (k3_3 - 1)).to, (ele ows0_3 (k3_3 - 1)).bk, (ele ows0_3 (k3_3 - 1)).wt]) Z Z Z Z Z Z) ?_))
  refine WD.e (by kernel_rfl) ?_
  refine WQ.then ?_
  refine wc Z hm26 (fun h29 hm30 => ?_) (fun h29 hm84 => ?_) <;> clear hm26
  ·skip
   refine sr (wm Z (wm Z ?_))
   obtain ⟨c31, hm32⟩ := cs hm30; clear hm30
   refine wq Z (QV.sliceLd sl68 Z Z hlows0_3 Z Z c31) (wa Z (nt (WC.seq (sr (wa Z (nt ?_))))))
   obtain ⟨o33, ho34, hm35⟩ := bd_some hm32; clear hm32; obtain ⟨n36, ho37⟩ := lp_some ho34
   refine WC.bloop3 (H2 := [kn M w.heap.size K0 K0]) (τ := [u_ 0 _, u_ 4 _]) (fun (ows0_4 : List Edg) (k3_4 : Int) (k25_4 : Int) => [(3, (true, i_ k3_4)), (5, (true, i_ k25_4))]) (fun ows0_4 k3_4 k25_4 => [vec v_s 71 4 (List.map Edg.cells ows0_4)]) (fun ows0_4 k3_4 k25_4 m => iter (slices_Compact___api_Edge_api_Edge__L2 ows0_3 k3_3) m (ows0_4, k3_4, k25_4) = some o33 ∧ SliceLen v_s ows0_4.length) (fun ows0_4 k3_4 k25_4 => o33 = .go (ows0_4, k3_4, k25_4) ∧ SliceLen v_s ows0_4.length) ows0_3 k3_3 1 n36 ⟨ho37, hlows0_3⟩ ⟨Z, Z, Z, Z, trivial⟩ (pk [0, 1]) ?_ ?_
   ·skip
    rintro ows0_4 k3_4 k25_4 ⟨rfl, hlows0_4⟩
    refine WQ.then (sr (wm Z (wm Z ?_)))
    obtain ⟨c38, c41, hm42⟩ := cs2 hm35; clear hm35
    refine wq Z (QV.sliceLd sl68 Z Z hlows0_4 Z Z c38) (WL.effect Z ?_)
    refine (EV.clear (enc := Edg.cells) (d := none) (dd := 0) 0 (Edg.mk 0 0 0 0) sl68 ze71 Edg.cells_len (by decide) (fun c hc => Edg.cells_one [_] _ (List.mem_singleton.2 Z) c hc) Z Z Z c38 Z (.inr Z) ?_ (fun _ h => (by cases h)))
    have hl40 : SliceLen v_s (clr ows0_4 k3_4 (Edg.mk 0 0 0 0)).length := (clr_len c38.2.1).symm ▸ hlows0_4
    refine ns (wm Z (wm Z (wq Z (QV.sliceHd sl68 Z Z hl40 Z Z c41) (wa Z (nt (WC.ret (kr (tr (tr (kr (tr (tr ?_))))))))))))
    obtain rfl := up_ret hm42 hn16
    obtain rfl := (eq_of_some hm7).symm
    refine WK.of (C' := Own M w [kn M w.heap.size K0 K0, vec v_s 71 4 (List.map Edg.cells (clr ows0_4 k3_4 (Edg.mk 0 0 0 0)))]) (pk [1, 0]) ?_
    refine WK.freeze hk (fun k43 hle43 hr43 => ?_)
    have hA43 := vec_arr hr43
    have hA44 := subS_sub hA43 c41
    refine WQ.ret1 Z Z (fun w hw => ?_)
    exact ⟨((subS v_s 4 (Int.toNat 0) (Int.toNat k3_4)), k43), Z, hw.pick [0] (by decide), hA44⟩
   rintro ows0_4 k3_4 k25_4 m45 ⟨hI46, hlows0_4⟩
   obtain ⟨m47, s48, rfl, hm49, hn50⟩ := iter_step hI46; clear hI46; unfold slices_Compact___api_Edge_api_Edge__L2 at hm49; simp only at hm49
   refine WC.seq (sr (wm Z (wm Z ?_)))
   obtain ⟨c51, hm52⟩ := cs hm49; clear hm49
   refine wq Z (QV.lenS Try.underlying68 Z Z (subS_slen (sz := 4) hlows0_4 c51)) (wq Z (QV.lss Z Z Z Z) (nt ?_))
   refine wc Z hm52 (fun h53 hm54 => ?_) (fun h53 hm83 => ?_) <;> clear hm52
   ·skip
    refine sk (WQ.then (WC.seq (WC.block (WC.seq (WC.dr (m := 10) (S := Own M w [kn M w.heap.size K0 K0, vec v_s 71 4 (List.map Edg.cells ows0_4)]) (by kernel_rfl) (by kernel_rfl) (pk [1, 0]) (zm 0 Z Z (zm 1 Z Z ?_)))))))
    obtain ⟨c55, hm56⟩ := cs hm54; clear hm54
    obtain ⟨p57, hp58⟩ := (subS_slen (sz := 4) hlows0_4 c51).ix (sz := 4) ln_len c55
    refine wz 2 Z Z (QV.indexSlice sl68 Z Z Z Z hp58) (wz 3 Z Z (QV.loadAgg ag71 Z Z Z (fun w hw => ((fun w hw => subS_sub ((Own.vecArr 1 Z) w hw) c51) w hw).ele hp58 c55)) (zm 4 Z Z (zm 5 Z Z ?_)))
    obtain ⟨c59, c61, hm62⟩ := cs2 hm56; clear hm56
    refine wz 6 Z Z (QV.sub Z Z Z Z c59) ?_
    obtain ⟨p63, hp64⟩ := (subS_slen (sz := 4) hlows0_4 c51).ix (sz := 4) ln_len c61
    refine wz 7 Z Z (QV.indexSlice sl68 Z Z Z Z hp64) (wz 8 Z Z (QV.loadAgg ag71 Z Z Z (fun w hw => ((fun w hw => subS_sub ((Own.vecArr 1 Z) w hw) c51) w hw).ele hp64 c61)) (wz 9 Z Z (QV.neqF eq71 (ns := [(ele (sub ows0_4 k3_3 (ln ows0_3)) k25_4).fr, (ele (sub ows0_4 k3_3 (ln ows0_3)) k25_4).to, (ele (sub ows0_4 k3_3 (ln ows0_3)) k25_4).bk, (ele (sub ows0_4 k3_3 (ln ows0_3)) k25_4).wt]) (ms := [(ele (sub ows0_4 k3_3 (ln ows0_3)) (k25_4 - 1)).fr, (ele (sub ows0_4 k3_3 (ln ows0_3)) (k25_4 - 1)).to, (ele (sub ows0_4 k3_3 (ln ows0_3)) (k25_4 - 1)).bk, (ele (sub ows0_4 k3_3 (ln ows0_3)) (k25_4 - 1)).wt]) Z Z Z Z Z Z) ?_))
    refine WD.e (by kernel_rfl) ?_
    refine WQ.then ?_
    refine wc Z hm62 (fun h65 hm66 => ?_) (fun h65 hm80 => ?_) <;> clear hm62
    ·skip
     refine sr (wm Z (wm Z (wm Z (wm Z ?_))))
     obtain ⟨c67, hm68⟩ := cs hm66; clear hm66
     obtain ⟨p69, hp70⟩ := (subS_slen (sz := 4) hlows0_4 c51).ix (sz := 4) ln_len c67
     refine wq Z (QV.indexSlice sl68 Z Z Z Z hp70) (wq Z (QV.loadAgg ag71 Z Z Z (fun w hw => ((fun w hw => subS_sub ((Own.vecArr 0 Z) w hw) c51) w hw).ele hp70 c67)) ?_)
     obtain ⟨c71, hm72⟩ := cs hm68; clear hm68
     obtain ⟨p73, hp74⟩ := hlows0_4.ix (sz := 4) ln_len c71
     refine wq Z (QV.indexSlice sl68 Z Z Z Z hp74) (WL.effect Z ?_)
     refine (EV.storeE (enc := Edg.cells) (off := 0) (vs := (Edg.cells (ele (sub ows0_4 k3_3 (ln ows0_3)) k25_4))) 0 (ele (sub ows0_4 k3_3 (ln ows0_3)) k25_4) rfl rfl rfl rfl rfl hp74 c71 (by first | rfl | exact addr_zero _) (show Value.cells _ = List.toArray _ from rfl) sz71 (nl rfl) (oc rfl (oc rfl (oc rfl (oc rfl one_nil)))) rfl ?_)
     have hl75 : SliceLen v_s (upd ows0_4 k3_4 (ele (sub ows0_4 k3_3 (ln ows0_3)) k25_4)).length := slen_upd hlows0_4
     refine nr (wm Z ?_)
     obtain ⟨c76, c78, hm79⟩ := cs2 hm72; clear hm72
     refine wq Z (QV.add Z Z Z Z c76) (wa Z (WL.nil (WQ.block (WQ.then (WC.region (wm Z (wq Z (QV.add Z Z Z Z c78) (wa Z (WL.nil ?_)))))))))
     exact WQ.again3 (upd ows0_4 k3_4 (ele (sub ows0_4 k3_3 (ln ows0_3)) k25_4)) (k3_4 + 1) (k25_4 + 1) m47 ⟨up_next hm79 hn50, hl75⟩ (Nat.lt_succ_self _) ⟨Z, Z, Z, Z, trivial⟩ (pk [0, 1])
    refine sk (WQ.block (WQ.then (WC.region (wm Z ?_))))
    obtain ⟨c81, hm82⟩ := cs hm80; clear hm80
    refine wq Z (QV.add Z Z Z Z c81) (wa Z (WL.nil ?_))
    exact WQ.again3 ows0_4 k3_4 (k25_4 + 1) m47 ⟨up_next hm82 hn50, hlows0_4⟩ (Nat.lt_succ_self _) ⟨Z, Z, Z, Z, trivial⟩ (pk [0, 1])
   refine WC.exit (te (te (WQ.block_exit ?_)))
   exact WQ.out3 ows0_4 k3_4 k25_4 ⟨up_brk hm83 hn50, hlows0_4⟩ ⟨Z, Z, Z, Z, trivial⟩ (pk [0, 1])
  refine sk (WQ.block (WQ.then (WC.region (wm Z ?_))))
  obtain ⟨c85, hm86⟩ := cs hm84; clear hm84
  refine wq Z (QV.add Z Z Z Z c85) (wa Z (WL.nil ?_))
  exact WQ.again2 ows0_3 (k3_3 + 1) m13 ⟨up_next hm86 hn16, hlows0_3⟩ (Nat.lt_succ_self _) ⟨Z, Z, trivial⟩ (pk [0, 1])
 refine WC.exit (te (te (WQ.block_exit ?_)))
 exact WQ.out2 ows0_3 k3_3 ⟨up_brk hm87 hn16, hlows0_3⟩ ⟨Z, Z, trivial⟩ (pk [0, 1])
def sortRen : Go.Shelf.Ren := ⟨fun n => match n with | 6 => 98 | 14 => 122 | 15 => 87 | 20 => 129 | 21 => 130 | 22 => 131 | 23 => 132 | 24 => 133 | 25 => 134 | 26 => 135 | 27 => 136 | 28 => 116 | 29 => 117 | 46 => 140 | 47 => 141 | 48 => 142 | 49 => 143 | 50 => 144 | 57 => 146 | n => n, fun n => match n with | 22 => 68 | 24 => 71 | 25 => 160 | 39 => 144 | 45 => 192 | 46 => 193 | 50 => 197 | 53 => 177 | 55 => 179 | 66 => 200 | 70 => 172 | 76 => 205 | 77 => 206 | n => n, fun n => match n with  | n => n⟩
theorem sortL : Go.Proofs.SlLaysF0.n6 Try.prog sortRen where
  mixed := by kernel_rfl
  f6 := ⟨Try.f98.name, by kernel_rfl, Try.func98.trans (congrArg some (by kernel_rfl))⟩
  f14 := ⟨Try.f122.name, by kernel_rfl, Try.func122.trans (congrArg some (by kernel_rfl))⟩
  f15 := Try.func87.trans (congrArg some (by kernel_rfl))
  f20 := ⟨Try.f129.name, by kernel_rfl, Try.func129.trans (congrArg some (by kernel_rfl))⟩
  f21 := ⟨Try.f130.name, by kernel_rfl, Try.func130.trans (congrArg some (by kernel_rfl))⟩
  f22 := ⟨Try.f131.name, by kernel_rfl, Try.func131.trans (congrArg some (by kernel_rfl))⟩
  f23 := ⟨Try.f132.name, by kernel_rfl, Try.func132.trans (congrArg some (by kernel_rfl))⟩
  f24 := ⟨Try.f133.name, by kernel_rfl, Try.func133.trans (congrArg some (by kernel_rfl))⟩
  f25 := ⟨Try.f134.name, by kernel_rfl, Try.func134.trans (congrArg some (by kernel_rfl))⟩
  f26 := ⟨Try.f135.name, by kernel_rfl, Try.func135.trans (congrArg some (by kernel_rfl))⟩
  f27 := ⟨Try.f136.name, by kernel_rfl, Try.func136.trans (congrArg some (by kernel_rfl))⟩
  f28 := Try.func116.trans (congrArg some (by kernel_rfl))
  f29 := Try.func117.trans (congrArg some (by kernel_rfl))
  f46 := ⟨Try.f140.name, by kernel_rfl, Try.func140.trans (congrArg some (by kernel_rfl))⟩
  f47 := Try.func141.trans (congrArg some (by kernel_rfl))
  f48 := Try.func142.trans (congrArg some (by kernel_rfl))
  f49 := ⟨Try.f143.name, by kernel_rfl, Try.func143.trans (congrArg some (by kernel_rfl))⟩
  f50 := ⟨Try.f144.name, by kernel_rfl, Try.func144.trans (congrArg some (by kernel_rfl))⟩
  f57 := ⟨Try.f146.name, by kernel_rfl, Try.func146.trans (congrArg some (by kernel_rfl))⟩
  t0 := Try.underlying0
  a0 := Try.isAgg0
  z0 := Try.sizeOf0
  v0 := Try.zeroValue0
  t3 := Try.underlying3
  a3 := Try.isAgg3
  z3 := Try.sizeOf3
  v3 := Try.zeroValue3
  t4 := Try.underlying4
  a4 := Try.isAgg4
  z4 := Try.sizeOf4
  v4 := Try.zeroValue4
  t5 := Try.underlying5
  a5 := Try.isAgg5
  z5 := Try.sizeOf5
  v5 := Try.zeroValue5
  t9 := Try.underlying9
  a9 := Try.isAgg9
  z9 := Try.sizeOf9
  v9 := Try.zeroValue9
  t22 := Try.underlying68
  a22 := Try.isAgg68
  z22 := Try.sizeOf68
  v22 := Try.zeroValue68
  t25 := Try.underlying160
  a25 := Try.isAgg160
  z25 := Try.sizeOf160
  v25 := Try.zeroValue160
  t39 := Try.underlying144
  a39 := Try.isAgg144
  z39 := Try.sizeOf144
  v39 := Try.zeroValue144
  t45 := Try.underlying192
  a45 := Try.isAgg192
  z45 := Try.sizeOf192
  v45 := Try.zeroValue192
  t46 := Try.underlying193
  a46 := Try.isAgg193
  z46 := Try.sizeOf193
  v46 := Try.zeroValue193
  t50 := Try.underlying197
  a50 := Try.isAgg197
  z50 := Try.sizeOf197
  v50 := Try.zeroValue197
  t53 := Try.underlying177
  a53 := Try.isAgg177
  z53 := Try.sizeOf177
  v53 := Try.zeroValue177
  t55 := Try.underlying179
  a55 := Try.isAgg179
  z55 := Try.sizeOf179
  v55 := Try.zeroValue179
  t66 := Try.underlying200
  a66 := Try.isAgg200
  z66 := Try.sizeOf200
  v66 := Try.zeroValue200
  t70 := Try.underlying172
  a70 := Try.isAgg172
  z70 := Try.sizeOf172
  v70 := Try.zeroValue172
  t76 := Try.underlying205
  a76 := Try.isAgg205
  z76 := Try.sizeOf205
  v76 := Try.zeroValue205
  t77 := Try.underlying206
  a77 := Try.isAgg206
  z77 := Try.sizeOf206
  v77 := Try.zeroValue206
theorem sortE_nil : sortE [] = [] := by simp [sortE]
theorem SortFunc_w {v_x : Value} {x r : List Edg} {K0 : World} (hm : SortFunc_m x = some r) (h_x : SliceLen v_x x.length) (M : Nat → Prop) (w : World) (hk : Base M K0 w) (hw0 : Own M w [vec v_x 71 4 (List.map Edg.cells x)] w) : Calls Try.prog 98 #[v_x, .func (.func 99) #[] #[]] w (fun e w' => ∃ X : World, e = .returned (.tuple #[]) ∧ Own M w (kn M w.heap.size K0 X :: [vec v_x 71 4 (List.map Edg.cells r)]) w' ∧ SliceLen v_x (r).length) := by
  obtain ⟨hlt, h2⟩ := ck_some hm
  obtain rfl := eq_of_some h2
  have hlen : (sortE x).length = x.length := List.length_mergeSort ..
  obtain ⟨a, c, rfl, ha, hc⟩ := h_x
  by_cases h0 : x = []
  · subst h0
    refine (Go.Proofs.AnyF.slices_SortFunc_none { sortL with } a c (.func (.func 99) #[] #[]) w).mono ?_
    rintro e w' ⟨rfl, rfl⟩
    rw [sortE_nil]
    exact ⟨K0, rfl, Own.startK hk hw0, ⟨a, c, rfl, ha, hc⟩⟩
  · obtain ⟨q, rfl⟩ := Option.isSome_iff_exists.1 (ha (by cases x with | nil => exact absurd rfl h0 | cons _ _ => simp))
    have hv := hw0.head
    have hq : ∃ b, q = ⟨b, 0, none⟩ := by
      rcases hv.1.2 with ⟨h, _⟩ | ⟨g, cap, cur, hv, _⟩
      · cases h
      · simp only [Value.slice.injEq, Option.some.injEq] at hv; exact ⟨g, hv.1⟩
    obtain ⟨b, rfl⟩ := hq
    obtain ⟨hH, _, hb⟩ := vec_holdsK Edg.cells_len (by decide) hv
    refine (Go.Proofs.AnyQ.slices_SortFunc_total sortL 4 Try.isAgg71 Try.sizeOf71 Edg.cells Edg.cells_len (fun u v hv => Edg.cells_one [u] u (List.mem_singleton.2 rfl) v hv) ordV ord_swo 99 #[] b 0 c x.toArray w (enters_of Try.func99 (by kernel_rfl) rfl) ?_ hH hb (by simpa using hlt) ord_total).mono ?_
    · intro m os dk hdk u v
      exact (dep_order_w _ (order_s u v)).mono fun e w' ⟨he, hg⟩ => ⟨he, grow_of hg⟩
    · rintro e w' ⟨rfl, m, os, rfl⟩
      exact ⟨K0, rfl, Own.sorted hk Edg.cells_len (by decide) hw0 hlen m os, by rw [hlen]; exact ⟨_, c, rfl, ha, hc⟩⟩
end Go.Proofs.Ytaimbkndebaaiac
end
section
namespace Go.Proofs.Ytaimbkndebaaiac
open Go.Rd
open TNum TLoop TKern TKeep TOrd TCpt
namespace TDep
theorem en100 : Go.Rd.Enters Try.prog 100 := eT Try.func100
theorem en120 : Go.Rd.Enters Try.prog 120 := eT Try.func120
theorem en121 : Go.Rd.Enters Try.prog 121 := eT Try.func121
theorem en69 : Go.Rd.Enters Try.prog 69 := eT Try.func69
theorem en97 : Go.Rd.Enters Try.prog 97 := eT Try.func97
theorem en98 : Go.Rd.Enters Try.prog 98 := eT Try.func98
theorem sz_68 : SliceZ Try.prog 68 71 4 [.int .i64 0, .int .i64 0, .int .i64 0, .int .i64 0] := ⟨Try.underlying68, by kernel_rfl⟩
theorem ve68 : VecT Try.prog 68 71 4 32 := ⟨Try.underlying68, by kernel_rfl, by decide⟩
end TDep
open TDep
theorem dep_meet_w {a b : Stm} {back size : Int} {r : Bool} (w : World) (hm : dep_meet_m a b back size = some r)  : Calls Try.prog 121 #[.agg #[.int .i64 a.op, .int .i64 a.a.st, .int .i64 a.a.bk, .int .i64 a.b.st, .int .i64 a.b.bk, .int .i64 a.ar, .int .i64 a.sp, .int .i64 a.pl, .int .i64 a.n], .agg #[.int .i64 b.op, .int .i64 b.a.st, .int .i64 b.a.bk, .int .i64 b.b.st, .int .i64 b.b.bk, .int .i64 b.ar, .int .i64 b.sp, .int .i64 b.pl, .int .i64 b.n], .int .i64 back, .int .i64 size] w (fun e w' => e = .returned (.bool r) ∧ Grow w w') := by
 unfold dep_meet_m at hm
 have hk := Base.rfl (w := w)
 refine calls_of_WC (n := 36) (args := [.agg #[i_ a.op, i_ a.a.st, i_ a.a.bk, i_ a.b.st, i_ a.b.bk, i_ a.ar, i_ a.sp, i_ a.pl, i_ a.n], .agg #[i_ b.op, i_ b.a.st, i_ b.a.bk, i_ b.b.st, i_ b.b.bk, i_ b.ar, i_ b.sp, i_ b.pl, i_ b.n], i_ back, i_ size]) Try.func121 Z Z (nl Z) ?_ (Own.startK hk (Own.start w))
 refine sr (WL.effect Z ?_)
 refine (EV.boxAgg (by decide) Z Z (fun b1 => ?_))
 refine WL.effect Z ?_
 refine (EV.boxAgg (by decide) Z Z (fun b2 => ?_))
 refine wa Z (nt (WC.seq (sr (wm Z (wm Z (nt ?_))))))
 obtain ⟨o3, ho4, hm5⟩ := bd_some hm; clear hm; obtain ⟨n6, ho7⟩ := lp_some ho4
 refine WC.bloop1 (H2 := [blk b2 b.cells 81, blk b1 a.cells 81, kn noM w.heap.size w w]) (τ := [u_ 2 _, u_ 3 _, u_ 4 _, u_ 5 _, u_ 10 _]) (fun (x11_1 : Int) => [(11, (true, i_ x11_1))]) (fun x11_1 => []) (fun x11_1 m => iter (dep_meet_L0 a b back size) m x11_1 = some o3) (fun x11_1 => o3 = .go x11_1) 0 n6 ho7 ⟨Z, Z, Z, Z, Z, Z, trivial⟩ (pk [0, 1, 2]) ?_ ?_
 ·skip
  rintro x11_1 rfl
  refine WQ.then (sr (wa Z (nt (WC.ret ?_))))
  obtain rfl := (eq_of_some hm5).symm
  exact WQ.ret1 Z Z fun w hw => kg hw
 rintro x11_1 m8 hI9
 obtain ⟨m10, s11, rfl, hm12, hn13⟩ := iter_step hI9; clear hI9; unfold dep_meet_L0 at hm12
 refine sr (wq Z (QV.lss Z Z Z Z) (nt (WC.seq ?_)))
 refine wc Z hm12 (fun h14 hm15 => ?_) (fun h14 hm35 => ?_) <;> clear hm12
 ·skip
  refine sk (WQ.then (WC.seq (WC.block (sr (wm Z (wa Z (ns (wf fd81_4 Z (wl pl3 Z (Own.cell 1 Z Z) (wm Z ?_))))))))))
  obtain ⟨c16, c18, c20, c22, c24, c26, c28, hm29⟩ := cs7 hm15; clear hm15
  refine wq Z (QV.mul Z Z Z Z c16) (wf fd81_5 Z (wl pl3 Z (Own.cell 1 Z Z) (wq Z (QV.add Z Z Z Z c18) (wf fd81_4 Z (wl pl3 Z (Own.cell 0 Z Z) (wm Z (wm Z (wq Z (QV.add Z Z Z Z c20) (wq Z (QV.mul Z Z Z Z c22) ?_)))))))))
  refine wq Z (QV.sub Z Z Z Z c24) (wf fd81_5 Z (wl pl3 Z (Own.cell 0 Z Z) (wq Z (QV.sub Z Z Z Z c26) (wm Z (wq Z (QV.sub Z Z Z Z c28) (wq Z (QV.andW Z Z Z Z) (wq Z (QV.eql Z Z Z Z) (nt ?_))))))))
  refine wc Z hm29 (fun h30 hm31 => ?_) (fun h30 hm32 => ?_) <;> clear hm29
  ·skip
   refine sr (wa Z (nt (WC.ret (kr (tr (tr (kr (tr (tr ?_)))))))))
   obtain rfl := up_ret hm31 hn13
   obtain rfl := (eq_of_some hm5).symm
   exact WQ.ret1 Z Z fun w hw => kg hw
  refine sk (WQ.block (WQ.then (WC.region ?_)))
  obtain ⟨c33, hm34⟩ := cs hm32; clear hm32
  refine wq Z (QV.add Z Z Z Z c33) (wm Z (WL.nil ?_))
  exact WQ.again1 (x11_1 + 1) m10 (up_next hm34 hn13) (Nat.lt_succ_self _) ⟨Z, Z, Z, Z, Z, Z, trivial⟩ (pk [0, 1, 2])
 refine WC.exit (te (te (WQ.block_exit ?_)))
 exact WQ.out1 x11_1 (up_brk hm35 hn13) ⟨Z, Z, Z, Z, Z, Z, trivial⟩ (pk [0, 1, 2])
theorem dep_words_w {s : Stm} {r : Bool} (w : World) (hm : dep_words_m s = some r)  : Calls Try.prog 120 #[.agg #[.int .i64 s.op, .int .i64 s.a.st, .int .i64 s.a.bk, .int .i64 s.b.st, .int .i64 s.b.bk, .int .i64 s.ar, .int .i64 s.sp, .int .i64 s.pl, .int .i64 s.n]] w (fun e w' => e = .returned (.bool r) ∧ Grow w w') := by
 unfold dep_words_m at hm
 have hk := Base.rfl (w := w)
 refine calls_of_WC (n := 11) (args := [.agg #[i_ s.op, i_ s.a.st, i_ s.a.bk, i_ s.b.st, i_ s.b.bk, i_ s.ar, i_ s.sp, i_ s.pl, i_ s.n]]) Try.func120 Z Z (nl Z) ?_ (Own.startK hk (Own.start w))
 refine sr (WL.effect Z ?_)
 refine (EV.boxAgg (by decide) Z Z (fun b1 => ?_))
 refine wa Z (ns (wf fd81_0 Z (wl pl3 Z (Own.cell 0 Z Z) (wq Z (QV.eql Z Z Z Z) (wm Z (gn Z (fun hG => QV.fieldAddr fd81_0 Z Z) (gn Z (fun hG => QV.load pl3 Z hG (Own.cell 0 Z Z)) (gn Z (fun hG => QV.eql Z hG Z Z) (wq Z (QV.pickOr Z Z Z (fun h => notF h)) ?_)))))))))
 refine wa Z (nt (WC.ret ?_))
 obtain rfl := (eq_of_some hm).symm
 exact WQ.ret1 Z Z fun w hw => kg hw
theorem dep_memory_w {v_l_logs v_l_body v_l_outs : Value} {l : Lp} {from_ to : Int} {r : Edg × Bool} (w : World) (hm : dep_memory_m l from_ to = some r) (h_l_logs : Arr w v_l_logs 1 (l.logs.map icell)) (h_l_body : Arr w v_l_body 9 (l.body.map Stm.cells)) (h_l_outs : Arr w v_l_outs 1 (l.outs.map icell)) : Calls Try.prog 97 #[.agg #[v_l_logs, v_l_body, v_l_outs], .int .i64 from_, .int .i64 to] w (fun e w' => e = .returned (.tuple #[.agg #[.int .i64 r.1.fr, .int .i64 r.1.to, .int .i64 r.1.bk, .int .i64 r.1.wt], .bool r.2]) ∧ Grow w w') := by
 unfold dep_memory_m at hm
 have hk := Base.rfl (w := w)
 refine calls_of_WC (n := 80) (args := [.agg #[v_l_logs, v_l_body, v_l_outs], i_ from_, i_ to]) Try.func97 Z Z (nl Z) ?_ (Own.startK hk (Own.start w))
 refine sr (WL.effect Z ?_)
 refine (EV.boxAgg (by decide) Z Z (fun b1 => ?_))
 refine WL.effect Z ?_
 refine (EV.alloc (by decide) ze71 (fun b2 => ?_))
 refine wa Z (nt (WC.seq (WC.dr (m := 14) (S := Own noM w [kn noM w.heap.size w w, blk b2 [i_ 0, i_ 0, i_ 0, i_ 0] 71, blk b1 [v_l_logs, v_l_body, v_l_outs] 25]) (by kernel_rfl) (by kernel_rfl) (pk [2, 0, 1]) ?_)))
 refine WD.toL 0 (by kernel_rfl) ?_
 refine WD.qL 0 0 1 Z (by kernel_rfl) Z Z Z (QV.fieldAddr fd25_1 Z Z) ?_
 refine WD.qL 1 1 3 Z (by kernel_rfl) Z Z Z (QV.load pl23 Z Z (Own.cell 2 Z Z)) ?_
 refine WD.qL 2 3 7 Z (by kernel_rfl) Z Z Z (QV.move Z Z) ?_
 obtain ⟨c3, hm4⟩ := cs hm; clear hm
 obtain ⟨p5, hp6⟩ := h_l_body.lenMap.ix (sz := 9) ln_len c3
 refine WD.qL 3 7 15 Z (by kernel_rfl) Z Z Z (QV.indexSlice sl23 Z Z Z Z hp6) ?_
 refine WD.qL 4 15 31 Z (by kernel_rfl) Z Z Z (QV.loadAgg ag81 Z Z Z (fun w hw => ((Own.karr 0 Z hk h_l_body) w hw).ele hp6 c3)) ?_
 refine WD.qL 5 31 63 Z (by kernel_rfl) Z Z Z (QV.fieldAddr fd25_1 Z Z) ?_
 refine WD.qL 6 63 127 Z (by kernel_rfl) Z Z Z (QV.load pl23 Z Z (Own.cell 2 Z Z)) ?_
 refine WD.qL 7 127 255 Z (by kernel_rfl) Z Z Z (QV.move Z Z) ?_
 obtain ⟨c7, hm8⟩ := cs hm4; clear hm4
 obtain ⟨p9, hp10⟩ := h_l_body.lenMap.ix (sz := 9) ln_len c7
 refine WD.qL 8 255 511 Z (by kernel_rfl) Z Z Z (QV.indexSlice sl23 Z Z Z Z hp10) ?_
 refine WD.qL 9 511 1023 Z (by kernel_rfl) Z Z Z (QV.loadAgg ag81 Z Z Z (fun w hw => ((Own.karr 0 Z hk h_l_body) w hw).ele hp10 c7)) ?_
 refine WD.cut2 (fun (b11 : Nat) (b12 : Nat) => [(1, (true, i_ from_)), (2, (true, i_ to)), (3, (true, .pointer (some (⟨b1, 0, none⟩)))), (6, (true, .pointer (some (⟨b2, 0, none⟩)))), (8, (true, .pointer (some (⟨b11, 0, none⟩)))), (9, (true, .pointer (some (⟨b12, 0, none⟩))))]) (fun (b11 : Nat) (b12 : Nat) => Own noM w [blk b12 (Stm.cells (ele l.body to)) 81, blk b11 (Stm.cells (ele l.body from_)) 81, blk b2 [i_ 0, i_ 0, i_ 0, i_ 0] 71, blk b1 [v_l_logs, v_l_body, v_l_outs] 25, kn noM w.heap.size w w]) ?_ ?_
 ·skip
  rintro b11 b12
  refine WQ.then (WC.seq (sr (wq Z (QV.loadAgg ag81 Z Z Z (Own.cellsBlk 1 Z)) ?_)))
  obtain ⟨x13, hx14, hm15⟩ := bd_some hm8; clear hm8
  refine wq Z (QV.call en120 (ec Z eN) (fun w hw => have h := dep_words_w w hx14 ; h)) (wq Z (QV.not Z Z) (wm Z (gn Z (fun hG => QV.loadAgg ag81 Z Z Z (Own.cellsBlk 0 Z)) ?_)))
  obtain ⟨x16, hx17, hm18⟩ := bdG_some hm15; clear hm15
  refine gn Z (fun hG => QV.call en120 (EvAll.cons Z hG eN) (fun w hw => have h := dep_words_w w (hx17 hG) ; h)) (gn Z (fun hG => QV.not Z hG) (wq Z (QV.pickOr Z Z Z (fun h => notF h)) (wm Z (gn Z (fun hG => QV.fieldAddr fd81_3 Z Z) (gn Z (fun hG => QV.load pl3 Z hG (Own.cell 1 Z Z)) (gn Z (fun hG => QV.fieldAddr fd81_3 Z Z) (gn Z (fun hG => QV.load pl3 Z hG (Own.cell 0 Z Z)) (gn Z (fun hG => QV.neq Z hG Z hG) (wq Z (QV.pickOr Z Z Z (fun h => notF h)) ?_)))))))))
  refine wm Z (gn Z (fun hG => QV.fieldAddr fd81_0 Z Z) (gn Z (fun hG => QV.load pl3 Z hG (Own.cell 1 Z Z)) (gn Z (fun hG => QV.eql Z hG Z Z) (gn Z (fun hG => QV.move Z hG) (gpC Z (fun hG => QV.fieldAddr fd81_0 Z Z) (gpC Z (fun hG => QV.load pl3 Z hG (Own.cell 0 Z Z)) (gpC Z (fun hG => QV.eql Z hG Z Z) (gn Z (fun hG => QV.pickAnd Z hG Z (fun h => andT hG h)) (wq Z (QV.pickOr Z Z Z (fun h => notF h)) ?_)))))))))
  refine nt ?_
  refine wc Z hm18 (fun h19 hm20 => ?_) (fun h19 hm21 => ?_) <;> clear hm18
  ·skip
   refine sr (wq Z (QV.build (ps := []) (cells := [i_ 0, i_ 0, i_ 0, i_ 0]) eN (by kernel_rfl)) (WL.effect Z ?_))
   refine (EV.store 2 Z Z Z Z Z Z (vs := [i_ 0, i_ 0, i_ 0, i_ 0]) (show Value.cells _ = List.toArray _ from Z) sz71 (nl Z) (oc Z (oc Z (oc Z (oc Z one_nil)))) ?_)
   refine wa Z (nt (WC.ret (tr ?_)))
   obtain rfl := (eq_of_some hm20).symm
   exact WQ.retCellTmp Z ag71 Z Z Z (Own.cellsBlk 2 Z) fun w hw => kg hw
  refine sk (WQ.then (sr (wa Z (wa Z (nt (WC.seq (sr (wm Z (wm Z (wq Z (QV.geq Z Z Z Z) (nt ?_)))))))))))
  obtain ⟨o22, hj23, hm24⟩ := bd_some hm21; clear hm21
  refine WC.joint1 (H2 := [blk b12 (Stm.cells (ele l.body to)) 81, blk b11 (Stm.cells (ele l.body from_)) 81, blk b2 [i_ 0, i_ 0, i_ 0, i_ 0] 71, blk b1 [v_l_logs, v_l_body, v_l_outs] 25, kn noM w.heap.size w w]) (τ := [u_ 1 _, u_ 2 _, u_ 3 _, u_ 6 _, u_ 8 _, u_ 9 _, u_ 11 _]) (fun (least10_1 : Int) => [(10, (true, i_ least10_1))]) (fun least10_1 => []) (fun least10_1 => o22 = .go least10_1) ⟨Z, Z, Z, Z, Z, Z, Z, trivial⟩ (pk [0, 1, 2, 3, 4]) ?_ ?_
  ·skip
   rintro least10_1 rfl
   refine WC.seq (sr (wf fd81_0 Z (wl pl3 Z (Own.cell 1 Z Z) (wq Z (QV.eql Z Z Z Z) (nt ?_)))))
   obtain ⟨o25, hj26, hm27⟩ := bd_some hm24; clear hm24
   refine WC.joint1 (H2 := [blk b12 (Stm.cells (ele l.body to)) 81, blk b11 (Stm.cells (ele l.body from_)) 81, blk b2 [i_ 0, i_ 0, i_ 0, i_ 0] 71, blk b1 [v_l_logs, v_l_body, v_l_outs] 25, kn noM w.heap.size w w]) (τ := [u_ 1 _, u_ 2 _, u_ 3 _, u_ 6 _, u_ 8 _, u_ 9 _, u_ 10 _]) (fun (wait11_2 : Int) => [(11, (true, i_ wait11_2))]) (fun wait11_2 => []) (fun wait11_2 => o25 = .go wait11_2) ⟨Z, Z, Z, Z, Z, Z, Z, trivial⟩ (pk [0, 1, 2, 3, 4]) ?_ ?_
   ·skip
    rintro wait11_2 rfl
    refine sr (wf fd25_0 Z (wl pl22 Z (Own.cell 3 Z Z) (wf fd81_3 Z (wl pl3 Z (Own.cell 1 Z Z) ?_))))
    obtain ⟨c28, hm29⟩ := cs hm27; clear hm27
    obtain ⟨p30, hp31⟩ := h_l_logs.lenMap.ix (sz := 1) ln_len c28
    refine wq Z (QV.indexSlice sl22 Z Z Z Z hp31) (wl pl3 Z (fun w hw => CellsAt.one 0 (((Own.karr 4 Z hk h_l_logs) w hw).ele hp31 c28) Z) ?_)
    obtain ⟨c32, hm33⟩ := cs hm29; clear hm29
    refine wq Z (QV.shlD Z Z Z Z c32) (wa Z (nt (WC.seq (sr (wm Z (wa Z (nt ?_)))))))
    obtain ⟨o34, ho35, hm36⟩ := bd_some hm33; clear hm33; obtain ⟨n37, ho38⟩ := lp_some ho35
    refine WC.bloop1 (H2 := [blk b12 (Stm.cells (ele l.body to)) 81, blk b11 (Stm.cells (ele l.body from_)) 81, blk b2 [i_ 0, i_ 0, i_ 0, i_ 0] 71, blk b1 [v_l_logs, v_l_body, v_l_outs] 25, kn noM w.heap.size w w]) (τ := [u_ 1 _, u_ 2 _, u_ 6 _, u_ 8 _, u_ 9 _, u_ 11 _, u_ 12 _]) (fun (back13_3 : Int) => [(13, (true, i_ back13_3))]) (fun back13_3 => []) (fun back13_3 m => iter (dep_memory_L0 l from_ to wait11_2) m back13_3 = some o34) (fun back13_3 => o34 = .go back13_3) least10_1 n37 ho38 ⟨Z, Z, Z, Z, Z, Z, Z, Z, trivial⟩ (pk [0, 1, 2, 3, 4]) ?_ ?_
    ·skip
     rintro back13_3 rfl
     refine WQ.then (sr (wq Z (QV.build (ps := []) (cells := [i_ 0, i_ 0, i_ 0, i_ 0]) eN (by kernel_rfl)) (WL.effect Z ?_)))
     refine (EV.store 2 Z Z Z Z Z Z (vs := [i_ 0, i_ 0, i_ 0, i_ 0]) (show Value.cells _ = List.toArray _ from Z) sz71 (nl Z) (oc Z (oc Z (oc Z (oc Z one_nil)))) ?_)
     refine wa Z (nt (WC.ret ?_))
     obtain rfl := (eq_of_some hm36).symm
     exact WQ.retCellTmp Z ag71 Z Z Z (Own.cellsBlk 2 Z) fun w hw => kg hw
    rintro back13_3 m39 hI40
    obtain ⟨m41, s42, rfl, hm43, hn44⟩ := iter_step hI40; clear hI40; unfold dep_memory_L0 at hm43
    refine WC.seq (sr (wm Z (wm Z (wq Z (QV.leq Z Z Z Z) (nt ?_)))))
    refine wc Z hm43 (fun h45 hm46 => ?_) (fun h45 hm55 => ?_) <;> clear hm43
    ·skip
     refine sk (WQ.then (WC.seq (WC.block (sr (wq Z (QV.loadAgg ag81 Z Z Z (Own.cellsBlk 1 Z)) (wq Z (QV.loadAgg ag81 Z Z Z (Own.cellsBlk 0 Z)) (wm Z (wm Z ?_))))))))
     obtain ⟨x47, hx48, hm49⟩ := bd_some hm46; clear hm46
     refine wq Z (QV.call en121 (ec Z (ec Z (ec Z (ec Z eN)))) (fun w hw => have h := dep_meet_w w hx48 ; h)) (nt ?_)
     refine wc Z hm49 (fun h50 hm51 => ?_) (fun h50 hm52 => ?_) <;> clear hm49
     ·skip
      refine sr (wm Z (wm Z (wm Z (wm Z (wq Z (QV.build (ps := [(0, .tmp 74), (1, .tmp 75), (2, .tmp 76), (3, .tmp 77)]) (cells := [i_ from_, i_ to, i_ back13_3, i_ wait11_2]) (ec Z (ec Z (ec Z (ec Z eN)))) (by kernel_rfl)) (WL.effect Z ?_))))))
      refine (EV.store 2 Z Z Z Z Z Z (vs := [i_ from_, i_ to, i_ back13_3, i_ wait11_2]) (show Value.cells _ = List.toArray _ from Z) sz71 (nl Z) (oc Z (oc Z (oc Z (oc Z one_nil)))) ?_)
      refine wa Z (nt (WC.ret (kr (tr (tr (kr (tr (tr ?_))))))))
      obtain rfl := up_ret hm51 hn44
      obtain rfl := (eq_of_some hm36).symm
      exact WQ.retCellTmp Z ag71 Z Z Z (Own.cellsBlk 2 Z) fun w hw => kg hw
     refine sk (WQ.block (WQ.then (WC.region (wm Z ?_))))
     obtain ⟨c53, hm54⟩ := cs hm52; clear hm52
     refine wq Z (QV.add Z Z Z Z c53) (wa Z (WL.nil ?_))
     exact WQ.again1 (back13_3 + 1) m41 (up_next hm54 hn44) (Nat.lt_succ_self _) ⟨Z, Z, Z, Z, Z, Z, Z, Z, trivial⟩ (pk [0, 1, 2, 3, 4])
    refine WC.exit (te (te (WQ.block_exit ?_)))
    exact WQ.out1 back13_3 (up_brk hm55 hn44) ⟨Z, Z, Z, Z, Z, Z, Z, Z, trivial⟩ (pk [0, 1, 2, 3, 4])
   refine WC.cond Z (fun h56 => ?_) (fun h56 => ?_)
   ·skip
    have hm57 := br_t h56 hj26; clear hj26
    refine WC.region (wa Z (WL.nil ?_))
    exact WQ.out1 1 (eq_of_some hm57) ⟨Z, Z, Z, Z, Z, Z, Z, Z, trivial⟩ (pk [0, 1, 2, 3, 4])
   have hm58 := br_f h56 hj26; clear hj26
   refine sk ?_
   exact WQ.out1 0 (eq_of_some hm58) ⟨Z, Z, Z, Z, Z, Z, Z, Z, trivial⟩ (pk [0, 1, 2, 3, 4])
  refine WC.cond Z (fun h59 => ?_) (fun h59 => ?_)
  ·skip
   have hm60 := br_t h59 hj23; clear hj23
   refine WC.region (wa Z (WL.nil ?_))
   exact WQ.out1 1 (eq_of_some hm60) ⟨Z, Z, Z, Z, Z, Z, Z, Z, trivial⟩ (pk [0, 1, 2, 3, 4])
  have hm61 := br_f h59 hj23; clear hj23
  refine sk ?_
  exact WQ.out1 0 (eq_of_some hm61) ⟨Z, Z, Z, Z, Z, Z, Z, Z, trivial⟩ (pk [0, 1, 2, 3, 4])
 refine WD.two 10 11 1023 2047 3071 (by kernel_rfl) Z Z Z Z (by kernel_rfl) (by kernel_rfl) ?_ ?_
 ·skip
  refine (EV.alloc (by decide) ze81 (fun b62 => ?_))
  refine WD.b (H' := [kn noM w.heap.size w w, blk b2 [i_ 0, i_ 0, i_ 0, i_ 0] 71, blk b1 [v_l_logs, v_l_body, v_l_outs] 25]) (pk [3, 1, 2]) (fun w hw => hw) ?_
  refine WD.oL 11 2047 4095 Z (by kernel_rfl) Z ?_
  refine (EV.alloc (by decide) ze81 (fun b63 => ?_))
  refine WD.b (H' := [kn noM w.heap.size w w, blk b2 [i_ 0, i_ 0, i_ 0, i_ 0] 71, blk b1 [v_l_logs, v_l_body, v_l_outs] 25]) (pk [4, 2, 3]) (fun w hw => hw) ?_
  refine WD.oL 12 4095 8191 Z (by kernel_rfl) Z ?_
  refine (EV.store 1 Z Z Z Z Z Z (vs := (Stm.cells (ele l.body from_))) (show Value.cells _ = List.toArray _ from Z) sz81 (nl Z) (oc Z (oc Z (oc Z (oc Z (oc Z (oc Z (oc Z (oc Z (oc Z one_nil))))))))) ?_)
  refine WD.b (H' := [kn noM w.heap.size w w, blk b2 [i_ 0, i_ 0, i_ 0, i_ 0] 71, blk b1 [v_l_logs, v_l_body, v_l_outs] 25]) (pk [4, 2, 3]) (fun w hw => hw) ?_
  refine WD.oL 13 8191 16383 Z (by kernel_rfl) Z ?_
  refine (EV.store 0 Z Z Z Z Z Z (vs := (Stm.cells (ele l.body to))) (show Value.cells _ = List.toArray _ from Z) sz81 (nl Z) (oc Z (oc Z (oc Z (oc Z (oc Z (oc Z (oc Z (oc Z (oc Z one_nil))))))))) ?_)
  refine WD.b (H' := [kn noM w.heap.size w w, blk b2 [i_ 0, i_ 0, i_ 0, i_ 0] 71, blk b1 [v_l_logs, v_l_body, v_l_outs] 25]) (pk [4, 2, 3]) (fun w hw => hw) ?_
  refine WD.eL (by kernel_rfl) ?_
  exact WQ.cutEnd2 b62 b63 ⟨Z, Z, Z, Z, Z, Z, trivial⟩ (pk [0, 1, 2, 3, 4])
 refine (EV.alloc (by decide) ze81 (fun b64 => ?_))
 refine WD.b (H' := [kn noM w.heap.size w w, blk b2 [i_ 0, i_ 0, i_ 0, i_ 0] 71, blk b1 [v_l_logs, v_l_body, v_l_outs] 25]) (pk [3, 1, 2]) (fun w hw => hw) ?_
 refine WD.oL 10 3071 4095 Z (by kernel_rfl) Z ?_
 refine (EV.alloc (by decide) ze81 (fun b65 => ?_))
 refine WD.b (H' := [kn noM w.heap.size w w, blk b2 [i_ 0, i_ 0, i_ 0, i_ 0] 71, blk b1 [v_l_logs, v_l_body, v_l_outs] 25]) (pk [4, 2, 3]) (fun w hw => hw) ?_
 refine WD.oL 12 4095 8191 Z (by kernel_rfl) Z ?_
 refine (EV.store 0 Z Z Z Z Z Z (vs := (Stm.cells (ele l.body from_))) (show Value.cells _ = List.toArray _ from Z) sz81 (nl Z) (oc Z (oc Z (oc Z (oc Z (oc Z (oc Z (oc Z (oc Z (oc Z one_nil))))))))) ?_)
 refine WD.b (H' := [kn noM w.heap.size w w, blk b2 [i_ 0, i_ 0, i_ 0, i_ 0] 71, blk b1 [v_l_logs, v_l_body, v_l_outs] 25]) (pk [4, 2, 3]) (fun w hw => hw) ?_
 refine WD.oL 13 8191 16383 Z (by kernel_rfl) Z ?_
 refine (EV.store 1 Z Z Z Z Z Z (vs := (Stm.cells (ele l.body to))) (show Value.cells _ = List.toArray _ from Z) sz81 (nl Z) (oc Z (oc Z (oc Z (oc Z (oc Z (oc Z (oc Z (oc Z (oc Z one_nil))))))))) ?_)
 refine WD.b (H' := [kn noM w.heap.size w w, blk b2 [i_ 0, i_ 0, i_ 0, i_ 0] 71, blk b1 [v_l_logs, v_l_body, v_l_outs] 25]) (pk [4, 2, 3]) (fun w hw => hw) ?_
 refine WD.eL (by kernel_rfl) ?_
 exact WQ.cutEnd2 b65 b64 ⟨Z, Z, Z, Z, Z, Z, trivial⟩ (pk [1, 0, 2, 3, 4])
theorem dep_Edges_w {v_l_logs v_l_body v_l_outs : Value} {l : Lp} {t : Tgt} {r : List Edg × Int} {K0 : World} (hm : dep_Edges_m l t = some r) (h_l_logs : Arr K0 v_l_logs 1 (l.logs.map icell)) (h_l_body : Arr K0 v_l_body 9 (l.body.map Stm.cells)) (h_l_outs : Arr K0 v_l_outs 1 (l.outs.map icell)) (M : Nat → Prop) (w : World) (hk : Base M K0 w) (hw0 : Own M w [] w) : Calls Try.prog 62 #[.agg #[v_l_logs, v_l_body, v_l_outs], .agg #[.int .i64 t.u0, .int .i64 t.u1, .int .i64 t.u2, .int .i64 t.w0, .int .i64 t.w1, .int .i64 t.w2, .int .i64 t.regs]] w (fun e w' => ∃ X : Value × World, e = .returned (.tuple #[X.1, .int .i64 r.2]) ∧ Own M w (kn M w.heap.size K0 X.2 :: []) w' ∧ Arr X.2 X.1 4 (r.1.map Edg.cells)) := by
 unfold dep_Edges_m at hm
 refine calls_of_WC (n := 80) (args := [.agg #[v_l_logs, v_l_body, v_l_outs], .agg #[i_ t.u0, i_ t.u1, i_ t.u2, i_ t.w0, i_ t.w1, i_ t.w2, i_ t.regs]]) Try.func62 Z Z (nl Z) ?_ (Own.startK hk hw0)
 refine sr (WL.effect Z ?_)
 refine (EV.boxAgg (by decide) Z Z (fun b1 => ?_))
 refine WL.effect Z ?_
 refine (EV.boxAgg (by decide) Z Z (fun b2 => ?_))
 refine wa Z (wa Z (nt (WC.seq (sr (wq Z (QV.loadAgg ag25 Z Z Z (Own.cellsBlk 1 Z)) ?_)))))
 obtain ⟨x3, hx4, hm5⟩ := bd_some hm; clear hm
 refine wq Z (QV.call en38 (ec Z eN) (fun w hw => have h := loop_May_w w hx4 ((Own.karr 2 Z hk h_l_logs) w hw) ((Own.karr 2 Z hk h_l_body) w hw) ((Own.karr 2 Z hk h_l_outs) w hw); h)) (wq Z (QV.not Z Z) (wm Z (gn Z (fun hG => QV.loadAgg ag28 Z Z Z (Own.cellsBlk 0 Z)) ?_)))
 obtain ⟨x6, hx7, hm8⟩ := bdG_some hm5; clear hm5
 refine gn Z (fun hG => QV.call en39 (EvAll.cons Z hG eN) (fun w hw => have h := target_May_w w (hx7 hG) ; h)) (gn Z (fun hG => QV.not Z hG) (wq Z (QV.pickOr Z Z Z (fun h => notF h)) (nt ?_)))
 refine wc Z hm8 (fun h9 hm10 => ?_) (fun h9 hm11 => ?_) <;> clear hm8
 ·skip
  refine sr (wa Z (wa Z (nt (WC.ret (tr ?_)))))
  obtain rfl := (eq_of_some hm10).symm
  refine WQ.ret2 Z Z Z (fun w hw => ?_)
  exact ⟨(.slice none 0 0, K0), Z, hw.pick [2] (by decide), Arr.nil⟩
 refine sk (WQ.then (sr (wa Z (nt (WC.seq (sr (wf fd25_1 Z (wl pl23 Z (Own.cell 1 Z Z) (wq Z (QV.lenS Try.underlying23 Z Z h_l_body.lenMap) (wm Z (nt ?_)))))))))))
 refine WK.of (fun w hw => hw.vecNil (E := 71) (sz := 4) (enc := Edg.cells)) ?_
 obtain ⟨o13, ho14, hm15⟩ := bd_some hm11; clear hm11; obtain ⟨n16, ho17⟩ := lp_some ho14
 refine WC.bloop4 (H2 := [blk b2 t.cells 28, blk b1 [v_l_logs, v_l_body, v_l_outs] 25]) (τ := [u_ 2 _, u_ 3 _, u_ 23 _, u_ 24 _]) (fun (v12_7 : List Edg) (x25_7 : Int) (uv12_7 : Value) (k_7 : World) => [(6, (true, uv12_7)), (25, (true, i_ x25_7))]) (fun v12_7 x25_7 uv12_7 k_7 => [vec uv12_7 71 4 (List.map Edg.cells v12_7), kn M w.heap.size K0 k_7]) (fun v12_7 x25_7 uv12_7 k_7 m => iter (dep_Edges_L0 l t) m (v12_7, x25_7) = some o13 ∧ SliceLen uv12_7 v12_7.length ∧ Le K0 k_7) (fun v12_7 x25_7 uv12_7 k_7 => o13 = .go (v12_7, x25_7) ∧ SliceLen uv12_7 v12_7.length ∧ Le K0 k_7) [] 0 (.slice none 0 0) K0 n16 ⟨ho17, SliceLen.nil, (Le.refl _)⟩ ⟨Z, Z, Z, Z, Z, Z, trivial⟩ (pk [0, 3, 1, 2]) ?_ ?_
 ·skip
  rintro v12_7 x25_7 uv12_7 k_7 ⟨rfl, hlv12_7, hle_7⟩
  refine WQ.then (sr (wm Z (WL.effect Z ?_)))
  obtain ⟨x18, hx19, hm20⟩ := bd_some hm15; clear hm15
  refine EV.of (C' := Own M w [kn M w.heap.size K0 k_7, vec uv12_7 71 4 (List.map Edg.cells v12_7), blk b2 t.cells 28, blk b1 [v_l_logs, v_l_body, v_l_outs] 25]) (pk [1, 0, 2, 3]) ?_
  refine (EV.callR (X := World) (R := [vec uv12_7 71 4 (List.map Edg.cells v12_7)]) (fun X => .tuple #[]) (fun X => [vec uv12_7 71 4 (List.map Edg.cells x18)]) (fun X => X) (fun X => SliceLen uv12_7 (x18).length) hk (fun _ h => by cases h; decide) en98 (ec Z (ec Z eN)) (fun M w h1 h2 => have h := SortFunc_w hx19 hlv12_7 M w h1 h2; h) (fun X21 hF21 hle21 => ?_))
  refine ns (wm Z (WL.effect Z ?_))
  obtain ⟨x22, hx23, hm24⟩ := bd_some hm20; clear hm20
  refine (EV.callR (X := Value × World) (R := [vec uv12_7 71 4 (List.map Edg.cells x18)]) (fun X => X.1) (fun X => []) (fun X => X.2) (fun X => Arr X.2 X.1 4 (x22.map Edg.cells)) hk (fun _ h => by cases h; decide) en100 (ec Z eN) (fun M w h1 h2 => have h := slices_Compact___api_Edge_api_Edge__w hx23 hF21 M w h1 h2; h) (fun X25 hF25 hle25 => ?_))
  refine wa Z (wa Z (nt (WC.ret ?_)))
  obtain rfl := (eq_of_some hm24).symm
  refine WQ.ret2 Z Z Z (fun w hw => ?_)
  exact ⟨(X25.1, X25.2), Z, hw.pick [0] (by decide), hF25⟩
 rintro v12_7 x25_7 uv12_7 k_7 m26 ⟨hI27, hlv12_7, hle_7⟩
 obtain ⟨m28, s29, rfl, hm30, hn31⟩ := iter_step hI27; clear hI27; unfold dep_Edges_L0 at hm30; simp only at hm30
 refine sr (wq Z (QV.lss Z Z Z Z) (nt (WC.seq ?_)))
 refine wc Z hm30 (fun h32 hm33 => ?_) (fun h32 hm108 => ?_) <;> clear hm30
 ·skip
  refine sk (WQ.then (WC.seq (WC.block (sr (wm Z ?_)))))
  obtain ⟨c34, hm35⟩ := cs hm33; clear hm33
  obtain ⟨p36, hp37⟩ := (h_l_body.le hle_7).lenMap.ix (sz := 9) ln_len c34
  refine wq Z (QV.indexSlice sl23 Z Z Z Z hp37) (wq Z (QV.loadAgg ag81 Z Z Z (fun w hw => ((Own.karr 1 Z hk (h_l_body.le hle_7)) w hw).ele hp37 c34)) (WL.effect Z ?_))
  refine (EV.alloc (by decide) ze81 (fun b38 => ?_))
  refine wa Z (WL.effect Z ?_)
  refine (EV.store 0 Z Z Z Z Z Z (vs := (Stm.cells (ele l.body x25_7))) (show Value.cells _ = List.toArray _ from Z) sz81 (nl Z) (oc Z (oc Z (oc Z (oc Z (oc Z (oc Z (oc Z (oc Z (oc Z one_nil))))))))) ?_)
  refine nt (WC.seq (sr (wq Z (QV.loadAgg ag81 Z Z Z (Own.cellsBlk 0 Z)) (WL.effect Z ?_))))
  obtain ⟨x39, hx40, hm41⟩ := bd_some hm35; clear hm35
  refine EV.of (C' := Own M w [kn M w.heap.size K0 k_7, blk b38 (Stm.cells (ele l.body x25_7)) 81, vec uv12_7 71 4 (List.map Edg.cells v12_7), blk b2 t.cells 28, blk b1 [v_l_logs, v_l_body, v_l_outs] 25]) (pk [2, 0, 1, 3, 4]) ?_
  refine (EV.callR (X := Value × World) (R := []) (fun X => X.1) (fun X => []) (fun X => X.2) (fun X => Arr X.2 X.1 2 (x39.map Rf.cells)) hk (fun _ h => by cases h; decide) en66 (ec Z eN) (fun M w h1 h2 => have h := loop_Uses_w hx40  M w h1 h2; h) (fun X42 hF42 hle42 => ?_))
  refine wq Z (QV.lenS Try.underlying76 Z Z hF42.lenMap) (wm Z (nt ?_))
  obtain ⟨o43, ho44, hm45⟩ := bd_some hm41; clear hm41; obtain ⟨n46, ho47⟩ := lp_some ho44
  refine WC.bloop3 (H2 := [kn M w.heap.size K0 X42.2, blk b38 (Stm.cells (ele l.body x25_7)) 81, blk b2 t.cells 28, blk b1 [v_l_logs, v_l_body, v_l_outs] 25]) (τ := [u_ 2 _, u_ 3 _, u_ 7 _, u_ 23 _, u_ 24 _, u_ 25 _, u_ 31 _, u_ 32 _]) (fun (v12_8 : List Edg) (x33_8 : Int) (uv12_8 : Value) => [(6, (true, uv12_8)), (33, (true, i_ x33_8))]) (fun v12_8 x33_8 uv12_8 => [vec uv12_8 71 4 (List.map Edg.cells v12_8)]) (fun v12_8 x33_8 uv12_8 m => iter (dep_Edges_L2 l t x25_7 x39) m (v12_8, x33_8) = some o43 ∧ SliceLen uv12_8 v12_8.length) (fun v12_8 x33_8 uv12_8 => o43 = .go (v12_8, x33_8) ∧ SliceLen uv12_8 v12_8.length) v12_7 0 uv12_7 n46 ⟨ho47, hlv12_7⟩ ⟨Z, Z, Z, Z, Z, Z, Z, Z, Z, Z, trivial⟩ (pk [2, 0, 1, 3, 4]) ?_ ?_
  ·skip
   rintro v12_8 x33_8 uv12_8 ⟨rfl, hlv12_8⟩
   refine WQ.then (sr (wf fd25_1 Z (wl pl23 Z (Own.cell 4 Z Z) (wq Z (QV.lenS Try.underlying23 Z Z (h_l_body.le (hle_7.trans hle42)).lenMap) (wm Z (nt ?_))))))
   obtain ⟨o48, ho49, hm50⟩ := bd_some hm45; clear hm45; obtain ⟨n51, ho52⟩ := lp_some ho49
   refine WC.bloop3 (H2 := [kn M w.heap.size K0 X42.2, blk b38 (Stm.cells (ele l.body x25_7)) 81, blk b2 t.cells 28, blk b1 [v_l_logs, v_l_body, v_l_outs] 25]) (τ := [u_ 2 _, u_ 3 _, u_ 7 _, u_ 23 _, u_ 24 _, u_ 25 _, u_ 58 _]) (fun (v12_9 : List Edg) (x59_9 : Int) (uv12_9 : Value) => [(6, (true, uv12_9)), (59, (true, i_ x59_9))]) (fun v12_9 x59_9 uv12_9 => [vec uv12_9 71 4 (List.map Edg.cells v12_9)]) (fun v12_9 x59_9 uv12_9 m => iter (dep_Edges_L4 l x25_7) m (v12_9, x59_9) = some o48 ∧ SliceLen uv12_9 v12_9.length) (fun v12_9 x59_9 uv12_9 => o48 = .go (v12_9, x59_9) ∧ SliceLen uv12_9 v12_9.length) v12_8 0 uv12_8 n51 ⟨ho52, hlv12_8⟩ ⟨Z, Z, Z, Z, Z, Z, Z, Z, Z, trivial⟩ (pk [0, 1, 2, 3, 4]) ?_ ?_
   ·skip
    rintro v12_9 x59_9 uv12_9 ⟨rfl, hlv12_9⟩
    refine WQ.block (WQ.then (WC.region ?_))
    obtain ⟨c53, hm54⟩ := cs hm50; clear hm50
    refine wq Z (QV.add Z Z Z Z c53) (wm Z (WL.nil ?_))
    exact WQ.again4 v12_9 (x25_7 + 1) uv12_9 X42.2 m28 ⟨up_next hm54 hn31, hlv12_9, (hle_7.trans hle42)⟩ (Nat.lt_succ_self _) ⟨Z, Z, Z, Z, Z, Z, trivial⟩ (pk [0, 1, 3, 4])
   rintro v12_9 x59_9 uv12_9 m55 ⟨hI56, hlv12_9⟩
   obtain ⟨m57, s58, rfl, hm59, hn60⟩ := iter_step hI56; clear hI56; unfold dep_Edges_L4 at hm59; simp only at hm59
   refine sr (wq Z (QV.lss Z Z Z Z) (nt (WC.seq ?_)))
   refine wc Z hm59 (fun h61 hm62 => ?_) (fun h61 hm79 => ?_) <;> clear hm59
   ·skip
    refine sk (WQ.then (WC.seq (WC.block (sr (wm Z (wa Z (ns (wq Z (QV.loadAgg ag25 Z Z Z (Own.cellsBlk 4 Z)) (wm Z (wm Z ?_))))))))))
    obtain ⟨x63, hx64, hm65⟩ := bd_some hm62; clear hm62
    refine wq Z (QV.call en97 (ec Z (ec Z (ec Z eN))) (fun w hw => have h := dep_memory_w w hx64 ((Own.karr 1 Z hk (h_l_logs.le (hle_7.trans hle42))) w hw) ((Own.karr 1 Z hk (h_l_body.le (hle_7.trans hle42))) w hw) ((Own.karr 1 Z hk (h_l_outs.le (hle_7.trans hle42))) w hw); h)) (wm Z (wq Z (QV.extract Z Z Z) (wq Z (QV.extract Z Z Z) (WL.effect Z ?_))))
    refine (EV.alloc (by decide) ze71 (fun b66 => ?_))
    refine WL.effect Z ?_
    refine (EV.store 0 Z Z Z Z Z Z (vs := (Edg.cells x63.1)) (show Value.cells _ = List.toArray _ from Z) sz71 (nl Z) (oc Z (oc Z (oc Z (oc Z one_nil)))) ?_)
    refine wa Z (ns (wm Z (nt ?_)))
    refine wc Z hm65 (fun h67 hm68 => ?_) (fun h67 hm76 => ?_) <;> clear hm65
    ·skip
     refine WC.region (wm Z (wq Z (QV.loadAgg ag71 Z Z Z (Own.cellsBlk 0 Z)) (WL.effect Z ?_)))
     refine (EV.buildSlice (by decide) sz_68 (by decide) (by decide) (ps := [(0, .tmp 71)]) (cells := (Edg.cells x63.1)) (ec Z eN) (by kernel_rfl) (fun b69 => ?_))
     refine WL.effect Z ?_
     obtain ⟨c70, c74, hm75⟩ := cs2 hm68; clear hm68
     refine (EV.appendL (enc := Edg.cells) (xs := v12_9) (ys := [x63.1]) ((v12_9 ++ [x63.1])) 2 (by decide) ve68 Z Z Z Z Z (Own.blkArr 0 (rows := [x63.1].map Edg.cells) Z Z (rows_len Edg.cells_len)) Edg.cells_len (Edg.cells_one _) Z c70.1 c70.2 (fun u72 hu73 => ?_))
     refine wa Z (WL.nil (WQ.block (WQ.then (WC.region (wq Z (QV.add Z Z Z Z c74) (wm Z (WL.nil ?_)))))))
     exact WQ.again3 (v12_9 ++ [x63.1]) (x59_9 + 1) u72 m57 ⟨up_next hm75 hn60, hu73⟩ (Nat.lt_succ_self _) ⟨Z, Z, Z, Z, Z, Z, Z, Z, Z, trivial⟩ (pk [2, 3, 4, 5, 6])
    refine sk (WQ.block (WQ.then (WC.region ?_)))
    obtain ⟨c77, hm78⟩ := cs hm76; clear hm76
    refine wq Z (QV.add Z Z Z Z c77) (wm Z (WL.nil ?_))
    exact WQ.again3 v12_9 (x59_9 + 1) uv12_9 m57 ⟨up_next hm78 hn60, hlv12_9⟩ (Nat.lt_succ_self _) ⟨Z, Z, Z, Z, Z, Z, Z, Z, Z, trivial⟩ (pk [1, 2, 3, 4, 5])
   refine WC.exit (te (te (WQ.block_exit ?_)))
   exact WQ.out3 v12_9 x59_9 uv12_9 ⟨up_brk hm79 hn60, hlv12_9⟩ ⟨Z, Z, Z, Z, Z, Z, Z, Z, Z, trivial⟩ (pk [0, 1, 2, 3, 4])
  rintro v12_8 x33_8 uv12_8 m80 ⟨hI81, hlv12_8⟩
  obtain ⟨m82, s83, rfl, hm84, hn85⟩ := iter_step hI81; clear hI81; unfold dep_Edges_L2 at hm84; simp only at hm84
  refine sr (wq Z (QV.lss Z Z Z Z) (nt (WC.seq ?_)))
  refine wc Z hm84 (fun h86 hm87 => ?_) (fun h86 hm107 => ?_) <;> clear hm84
  ·skip
   refine sk (WQ.then (WC.seq (WC.block (sr ?_))))
   obtain ⟨c88, hm89⟩ := cs hm87; clear hm87
   obtain ⟨p90, hp91⟩ := hF42.lenMap.ix (sz := 2) ln_len c88
   refine wq Z (QV.indexSlice sl76 Z Z Z Z hp91) (wq Z (QV.loadAgg ag79 Z Z Z (fun w hw => ((Own.karr 1 Z hk hF42) w hw).ele hp91 c88)) (WL.effect Z ?_))
   refine (EV.alloc (by decide) ze79 (fun b92 => ?_))
   refine WL.effect Z ?_
   refine (EV.store 0 Z Z Z Z Z Z (vs := [i_ ((ele x39 x33_8).st), i_ ((ele x39 x33_8).bk)]) (show Value.cells _ = List.toArray _ from Z) sz79 (nl Z) (oc Z (oc Z one_nil)) ?_)
   refine nt (WC.dr (m := 19) (S := Own M w [kn M w.heap.size K0 X42.2, blk b92 [i_ ((ele x39 x33_8).st), i_ ((ele x39 x33_8).bk)] 79, blk b38 (Stm.cells (ele l.body x25_7)) 81, blk b2 t.cells 28, blk b1 [v_l_logs, v_l_body, v_l_outs] 25]) (by kernel_rfl) (by kernel_rfl) (pk [2, 0, 3, 4, 5]) (zm 0 Z Z (zf 1 fd79_0 Z Z (zl 2 pl3 Z Z (Own.cell 1 Z Z) (zm 3 Z Z (zf 4 fd79_1 Z Z (zl 5 pl3 Z Z (Own.cell 1 Z Z) (wz 6 Z Z (QV.loadAgg ag28 Z Z Z (Own.cellsBlk 3 Z)) (zf 7 fd25_1 Z Z ?_)))))))))
   refine zl 8 pl23 Z Z (Own.cell 4 Z Z) (zf 9 fd79_0 Z Z (zl 10 pl3 Z Z (Own.cell 1 Z Z) ?_))
   obtain ⟨c93, hm94⟩ := cs hm89; clear hm89
   obtain ⟨p95, hp96⟩ := (h_l_body.le (hle_7.trans hle42)).lenMap.ix (sz := 9) ln_len c93
   refine wz 11 Z Z (QV.indexSlice sl23 Z Z Z Z hp96) (zf 12 fd81_0 Z Z (zl 13 pl3 Z Z (fun w hw => CellsAt.one 0 (((Own.karr 0 Z hk (h_l_body.le (hle_7.trans hle42))) w hw).ele hp96 c93) Z) ?_))
   obtain ⟨x97, hx98, hm99⟩ := bd_some hm94; clear hm94
   refine wz 14 Z Z (QV.call en69 (ec Z (ec Z eN)) (fun w hw => have h := target_Wait_w w hx98 ; h)) (wz 15 Z Z (QV.build (ps := [(0, .tmp 39), (1, .tmp 40), (2, .tmp 42), (3, .tmp 51)]) (cells := [i_ ((ele x39 x33_8).st), i_ x25_7, i_ ((ele x39 x33_8).bk), i_ x97]) (ec Z (ec Z (ec Z (ec Z eN)))) (by kernel_rfl)) ?_)
   refine WD.o 16 Z (by kernel_rfl) Z ?_
   refine (EV.buildSlice (by decide) sz_68 (by decide) (by decide) (ps := [(0, .tmp 52)]) (cells := [i_ ((ele x39 x33_8).st), i_ x25_7, i_ ((ele x39 x33_8).bk), i_ x97]) (ec Z eN) (by kernel_rfl) (fun b100 => ?_))
   refine WD.b (H' := [kn M w.heap.size K0 X42.2, blk b100 [i_ ((ele x39 x33_8).st), i_ x25_7, i_ ((ele x39 x33_8).bk), i_ x97] 71, blk b92 [i_ ((ele x39 x33_8).st), i_ ((ele x39 x33_8).bk)] 79, blk b38 (Stm.cells (ele l.body x25_7)) 81, blk b2 t.cells 28, blk b1 [v_l_logs, v_l_body, v_l_outs] 25]) (pk [3, 0, 1, 4, 5, 6]) (pk [0, 2, 3, 4, 5]) ?_
   refine WD.o 17 Z (by kernel_rfl) Z ?_
   obtain ⟨c101, c105, hm106⟩ := cs2 hm99; clear hm99
   refine (EV.appendL (enc := Edg.cells) (xs := v12_8) (ys := [(Edg.mk ((ele x39 x33_8).st) x25_7 ((ele x39 x33_8).bk) x97)]) ((v12_8 ++ [(Edg.mk ((ele x39 x33_8).st) x25_7 ((ele x39 x33_8).bk) x97)])) 2 (by decide) ve68 Z Z Z Z Z (Own.blkArr 0 (rows := [(Edg.mk ((ele x39 x33_8).st) x25_7 ((ele x39 x33_8).bk) x97)].map Edg.cells) Z Z (rows_len Edg.cells_len)) Edg.cells_len (Edg.cells_one _) Z c101.1 c101.2 (fun u103 hu104 => ?_))
   refine WD.b (H' := [kn M w.heap.size K0 X42.2, blk b100 [i_ ((ele x39 x33_8).st), i_ x25_7, i_ ((ele x39 x33_8).bk), i_ x97] 71, blk b92 [i_ ((ele x39 x33_8).st), i_ ((ele x39 x33_8).bk)] 79, vec u103 71 4 (List.map Edg.cells (v12_8 ++ [(Edg.mk ((ele x39 x33_8).st) x25_7 ((ele x39 x33_8).bk) x97)])), blk b38 (Stm.cells (ele l.body x25_7)) 81, blk b2 t.cells 28, blk b1 [v_l_logs, v_l_body, v_l_outs] 25]) (pk [3, 0, 1, 2, 4, 5, 6]) (pk [0, 1, 2, 4, 5, 6]) ?_
   refine wz 18 Z Z (QV.assign Z Z) ?_
   refine WD.e (by kernel_rfl) ?_
   refine WQ.block (WQ.then (WC.region (wq Z (QV.add Z Z Z Z c105) (wm Z (WL.nil ?_)))))
   exact WQ.again3 (v12_8 ++ [(Edg.mk ((ele x39 x33_8).st) x25_7 ((ele x39 x33_8).bk) x97)]) (x33_8 + 1) u103 m82 ⟨up_next hm106 hn85, hu104⟩ (Nat.lt_succ_self _) ⟨Z, Z, Z, Z, Z, Z, Z, Z, Z, Z, trivial⟩ (pk [2, 3, 4, 5, 6])
  refine WC.exit (te (te (WQ.block_exit ?_)))
  exact WQ.out3 v12_8 x33_8 uv12_8 ⟨up_brk hm107 hn85, hlv12_8⟩ ⟨Z, Z, Z, Z, Z, Z, Z, Z, Z, Z, trivial⟩ (pk [0, 1, 2, 3, 4])
 refine WC.exit (te (te (WQ.block_exit ?_)))
 exact WQ.out4 v12_7 x25_7 uv12_7 k_7 ⟨up_brk hm108 hn31, hlv12_7, hle_7⟩ ⟨Z, Z, Z, Z, Z, Z, trivial⟩ (pk [0, 1, 2, 3])
end Go.Proofs.Ytaimbkndebaaiac
end
section
namespace Go.Proofs.Ytaimbkndebaaiac
open Go.Rd
open TNum TLoop TKern TKeep TOrd TCpt TDep
namespace TSched1
theorem ag91 : AggT Try.prog 91 2 := ⟨_, Try.underlying91, rfl, by kernel_rfl⟩
theorem en62 : Go.Rd.Enters Try.prog 62 := eT Try.func62
theorem en73 : Go.Rd.Enters Try.prog 73 := eT Try.func73
theorem fd91_0 : FieldT Try.prog 91 0 0 := fT 0 Try.underlying91
theorem fd91_1 : FieldT Try.prog 91 1 1 := fT 0 Try.underlying91
end TSched1
open TSched1
theorem sched_fits_w {v_l_logs v_l_body v_l_outs v_p_times v_edges : Value} {l : Lp} {t : Tgt} {p : Pln} {edges : List Edg} {r : Bool} (w : World) (hm : sched_fits_m l t p edges = some r) (h_l_logs : Arr w v_l_logs 1 (l.logs.map icell)) (h_l_body : Arr w v_l_body 9 (l.body.map Stm.cells)) (h_l_outs : Arr w v_l_outs 1 (l.outs.map icell)) (h_p_times : Arr w v_p_times 1 (p.times.map icell)) (h_edges : Arr w v_edges 4 (edges.map Edg.cells)) : Calls Try.prog 73 #[.agg #[v_l_logs, v_l_body, v_l_outs], .agg #[.int .i64 t.u0, .int .i64 t.u1, .int .i64 t.u2, .int .i64 t.w0, .int .i64 t.w1, .int .i64 t.w2, .int .i64 t.regs], .agg #[.int .i64 p.pace, v_p_times], v_edges] w (fun e w' => e = .returned (.bool r) ∧ Grow w w') := by
 unfold sched_fits_m at hm
 have hk := Base.rfl (w := w)
 refine calls_of_WC (n := 87) (args := [.agg #[v_l_logs, v_l_body, v_l_outs], .agg #[i_ t.u0, i_ t.u1, i_ t.u2, i_ t.w0, i_ t.w1, i_ t.w2, i_ t.regs], .agg #[i_ p.pace, v_p_times], v_edges]) Try.func73 Z Z (nl Z) ?_ (Own.startK hk (Own.start w))
 refine sr (WL.effect Z ?_)
 refine (EV.boxAgg (by decide) Z Z (fun b1 => ?_))
 refine WL.effect Z ?_
 refine (EV.boxAgg (by decide) Z Z (fun b2 => ?_))
 refine WL.effect Z ?_
 refine (EV.boxAgg (by decide) Z Z (fun b3 => ?_))
 refine wa Z (ns (WL.effect Z ?_))
 refine (EV.makeMap (ke := kP) (ve := i64v) (by decide) (fun b4 => ?_))
 refine wa Z (nt (WC.seq (sr (wf fd91_1 Z (wl pl22 Z (Own.cell 1 Z Z) (wq Z (QV.lenS Try.underlying22 Z Z h_p_times.lenMap) (wm Z (nt ?_))))))))
 obtain ⟨o5, ho6, hm7⟩ := bd_some hm; clear hm; obtain ⟨n8, ho9⟩ := lp_some ho6
 refine WC.bloop2 (H2 := [blk b3 [i_ p.pace, v_p_times] 91, blk b2 t.cells 28, blk b1 [v_l_logs, v_l_body, v_l_outs] 25, kn noM w.heap.size w w]) (τ := [u_ 3 _, u_ 4 _, u_ 5 _, u_ 6 _, u_ 9 _, u_ 17 _, u_ 18 _]) (fun (m4n_1 : List ((Int × Int) × Int)) (x19_1 : Int) => [(19, (true, i_ x19_1))]) (fun m4n_1 x19_1 => [mapR b4 kP i64v m4n_1]) (fun m4n_1 x19_1 m => iter (sched_fits_L0 l t p) m (m4n_1, x19_1) = some o5) (fun m4n_1 x19_1 => o5 = .go (m4n_1, x19_1)) ([] : List ((Int × Int) × Int)) 0 n8 ho9 ⟨Z, Z, Z, Z, Z, Z, Z, Z, trivial⟩ (pk [0, 1, 2, 3, 4]) ?_ ?_
 ·skip
  rintro m4n_1 x19_1 rfl
  refine WQ.then (WC.seq (sr (wm Z (wq Z (QV.lenS Try.underlying68 Z Z h_edges.lenMap) (wm Z (nt ?_))))))
  obtain ⟨o10, ho11, hm12⟩ := bd_some hm7; clear hm7; obtain ⟨n13, ho14⟩ := lp_some ho11
  refine WC.bloop1 (H2 := [mapR b4 kP i64v m4n_1, blk b3 [i_ p.pace, v_p_times] 91, blk b2 t.cells 28, blk b1 [v_l_logs, v_l_body, v_l_outs] 25, kn noM w.heap.size w w]) (τ := [u_ 6 _, u_ 58 _, u_ 59 _]) (fun (x60_2 : Int) => [(60, (true, i_ x60_2))]) (fun x60_2 => []) (fun x60_2 m => iter (sched_fits_L2 p edges) m x60_2 = some o10) (fun x60_2 => o10 = .go x60_2) 0 n13 ho14 ⟨Z, Z, Z, Z, trivial⟩ (pk [0, 1, 2, 3, 4]) ?_ ?_
  ·skip
   rintro x60_2 rfl
   refine WQ.then (sr (wa Z (nt (WC.ret ?_))))
   obtain rfl := (eq_of_some hm12).symm
   exact WQ.ret1 Z Z fun w hw => kg hw
  rintro x60_2 m15 hI16
  obtain ⟨m17, s18, rfl, hm19, hn20⟩ := iter_step hI16; clear hI16; unfold sched_fits_L2 at hm19
  refine sr (wq Z (QV.lss Z Z Z Z) (nt (WC.seq ?_)))
  refine wc Z hm19 (fun h21 hm22 => ?_) (fun h21 hm47 => ?_) <;> clear hm19
  ·skip
   refine sk (WQ.then (WC.seq (WC.block (sr ?_))))
   obtain ⟨c23, hm24⟩ := cs hm22; clear hm22
   obtain ⟨p25, hp26⟩ := h_edges.lenMap.ix (sz := 4) ln_len c23
   refine wq Z (QV.indexSlice sl68 Z Z Z Z hp26) (wq Z (QV.loadAgg ag71 Z Z Z (fun w hw => ((Own.karr 4 Z hk h_edges) w hw).ele hp26 c23)) (WL.effect Z ?_))
   refine (EV.alloc (by decide) ze71 (fun b27 => ?_))
   refine WL.effect Z ?_
   refine (EV.store 0 Z Z Z Z Z Z (vs := (Edg.cells (ele edges x60_2))) (show Value.cells _ = List.toArray _ from Z) sz71 (nl Z) (oc Z (oc Z (oc Z (oc Z one_nil)))) ?_)
   refine nt (WC.seq (WC.dr (m := 22) (S := Own noM w [kn noM w.heap.size w w, blk b27 (Edg.cells (ele edges x60_2)) 71, mapR b4 kP i64v m4n_1, blk b3 [i_ p.pace, v_p_times] 91, blk b2 t.cells 28, blk b1 [v_l_logs, v_l_body, v_l_outs] 25]) (by kernel_rfl) (by kernel_rfl) (pk [5, 0, 1, 2, 3, 4]) (zf 0 fd91_1 Z Z (zl 1 pl22 Z Z (Own.cell 3 Z Z) (zf 2 fd71_1 Z Z (zl 3 pl3 Z Z (Own.cell 1 Z Z) ?_))))))
   obtain ⟨c28, hm29⟩ := cs hm24; clear hm24
   obtain ⟨p30, hp31⟩ := h_p_times.lenMap.ix (sz := 1) ln_len c28
   refine wz 4 Z Z (QV.indexSlice sl22 Z Z Z Z hp31) (zl 5 pl3 Z Z (fun w hw => CellsAt.one 0 (((Own.karr 0 Z hk h_p_times) w hw).ele hp31 c28) Z) (zf 6 fd71_2 Z Z (zl 7 pl3 Z Z (Own.cell 1 Z Z) (zf 8 fd91_0 Z Z (zl 9 pl3 Z Z (Own.cell 3 Z Z) ?_)))))
   obtain ⟨c32, c34, c36, hm37⟩ := cs3 hm29; clear hm29
   refine wz 10 Z Z (QV.mul Z Z Z Z c32) (wz 11 Z Z (QV.add Z Z Z Z c34) (zf 12 fd91_1 Z Z (zl 13 pl22 Z Z (Own.cell 3 Z Z) (zf 14 fd71_0 Z Z (zl 15 pl3 Z Z (Own.cell 1 Z Z) ?_)))))
   obtain ⟨p38, hp39⟩ := h_p_times.lenMap.ix (sz := 1) ln_len c36
   refine wz 16 Z Z (QV.indexSlice sl22 Z Z Z Z hp39) (zl 17 pl3 Z Z (fun w hw => CellsAt.one 0 (((Own.karr 0 Z hk h_p_times) w hw).ele hp39 c36) Z) (zf 18 fd71_3 Z Z (zl 19 pl3 Z Z (Own.cell 1 Z Z) ?_)))
   obtain ⟨c40, hm41⟩ := cs hm37; clear hm37
   refine wz 20 Z Z (QV.add Z Z Z Z c40) (wz 21 Z Z (QV.lss Z Z Z Z) ?_)
   refine WD.e (by kernel_rfl) ?_
   refine WQ.then ?_
   refine wc Z hm41 (fun h42 hm43 => ?_) (fun h42 hm44 => ?_) <;> clear hm41
   ·skip
    refine sr (wa Z (nt (WC.ret (kr (tr (tr (kr (tr (tr ?_)))))))))
    obtain rfl := up_ret hm43 hn20
    obtain rfl := (eq_of_some hm12).symm
    exact WQ.ret1 Z Z fun w hw => kg hw
   refine sk (WQ.block (WQ.then (WC.region ?_)))
   obtain ⟨c45, hm46⟩ := cs hm44; clear hm44
   refine wq Z (QV.add Z Z Z Z c45) (wm Z (WL.nil ?_))
   exact WQ.again1 (x60_2 + 1) m17 (up_next hm46 hn20) (Nat.lt_succ_self _) ⟨Z, Z, Z, Z, trivial⟩ (pk [1, 2, 3, 4, 5])
  refine WC.exit (te (te (WQ.block_exit ?_)))
  exact WQ.out1 x60_2 (up_brk hm47 hn20) ⟨Z, Z, Z, Z, trivial⟩ (pk [0, 1, 2, 3, 4])
 rintro m4n_1 x19_1 m48 hI49
 obtain ⟨m50, s51, rfl, hm52, hn53⟩ := iter_step hI49; clear hI49; unfold sched_fits_L0 at hm52; simp only at hm52
 refine sr (wq Z (QV.lss Z Z Z Z) (nt (WC.seq ?_)))
 refine wc Z hm52 (fun h54 hm55 => ?_) (fun h54 hm83 => ?_) <;> clear hm52
 ·skip
  refine sk (WQ.then (WC.seq (WC.block (sr (wm Z ?_)))))
  obtain ⟨c56, hm57⟩ := cs hm55; clear hm55
  obtain ⟨p58, hp59⟩ := h_p_times.lenMap.ix (sz := 1) ln_len c56
  refine wq Z (QV.indexSlice sl22 Z Z Z Z hp59) (wl pl3 Z (fun w hw => CellsAt.one 0 (((Own.karr 4 Z hk h_p_times) w hw).ele hp59 c56) Z) (wa Z (wa Z (nt (WC.seq (sr (wm Z (wq Z (QV.lss Z Z Z Z) (wm Z (gn Z (fun hG => QV.move Z Z) (gn Z (fun hG => QV.gtr Z hG Z Z) ?_)))))))))))
  refine wq Z (QV.pickOr Z Z Z (fun h => notF h)) (nt ?_)
  refine wc Z hm57 (fun h60 hm61 => ?_) (fun h60 hm62 => ?_) <;> clear hm57
  ·skip
   refine sr (wa Z (nt (WC.ret (tr (kr (tr (tr (kr (tr (tr ?_))))))))))
   obtain rfl := up_ret hm61 hn53
   obtain rfl := (eq_of_some hm7).symm
   exact WQ.ret1 Z Z fun w hw => kg hw
  refine sk (WQ.then (WC.seq (WC.dr (m := 14) (S := Own noM w [kn noM w.heap.size w w, mapR b4 kP i64v m4n_1, blk b3 [i_ p.pace, v_p_times] 91, blk b2 t.cells 28, blk b1 [v_l_logs, v_l_body, v_l_outs] 25]) (by kernel_rfl) (by kernel_rfl) (pk [4, 0, 1, 2, 3]) (zm 0 Z Z (zf 1 fd91_0 Z Z (zl 2 pl3 Z Z (Own.cell 2 Z Z) ?_))))))
  obtain ⟨c63, c65, hm66⟩ := cs2 hm62; clear hm62
  refine wz 3 Z Z (QV.rem Z Z Z Z c63) (zf 4 fd25_1 Z Z (zl 5 pl23 Z Z (Own.cell 4 Z Z) (zm 6 Z Z ?_)))
  obtain ⟨p67, hp68⟩ := h_l_body.lenMap.ix (sz := 9) ln_len c65
  refine wz 7 Z Z (QV.indexSlice sl23 Z Z Z Z hp68) (zf 8 fd81_0 Z Z (zl 9 pl3 Z Z (fun w hw => CellsAt.one 0 (((Own.karr 0 Z hk h_l_body) w hw).ele hp68 c65) Z) ?_))
  obtain ⟨x69, hx70, hm71⟩ := bd_some hm66; clear hm66
  refine wz 10 Z Z (QV.call en89 (ec Z eN) (fun w hw => have h := num_Class_w w hx70 ; h)) (wz 11 Z Z (QV.build (ps := [(0, .tmp 33), (1, .tmp 40)]) (cells := [i_ (Int.tmod (ele p.times x19_1) p.pace), i_ x69]) (ec Z (ec Z eN)) (by kernel_rfl)) ?_)
  refine WD.o 12 Z (by kernel_rfl) Z ?_
  refine (EV.alloc (by decide) ze146 (fun b72 => ?_))
  refine WD.b (H' := [kn noM w.heap.size w w, blk b72 [i_ 0, i_ 0] 146, mapR b4 kP i64v m4n_1, blk b3 [i_ p.pace, v_p_times] 91, blk b2 t.cells 28, blk b1 [v_l_logs, v_l_body, v_l_outs] 25]) (pk [5, 0, 1, 2, 3, 4]) (pk [0, 2, 3, 4, 5]) ?_
  refine WD.l 13 Z (by kernel_rfl) Z ?_
  refine (EV.store 0 Z Z Z Z Z Z (vs := [i_ (Int.tmod (ele p.times x19_1) p.pace), i_ x69]) (show Value.cells _ = List.toArray _ from Z) sz146 (nl Z) (oc Z (oc Z one_nil)) ?_)
  refine WQ.then (WC.seq (WC.dr (m := 7) (S := Own noM w [kn noM w.heap.size w w, blk b72 [i_ (Int.tmod (ele p.times x19_1) p.pace), i_ x69] 146, mapW b4 kP i64v 0 m4n_1, blk b3 [i_ p.pace, v_p_times] 91, blk b2 t.cells 28, blk b1 [v_l_logs, v_l_body, v_l_outs] 25]) (by kernel_rfl) (by kernel_rfl) (fun w hw => Own.mapWeak 2 0 Z (hw.pick [5, 0, 1, 2, 3, 4] (by decide))) (zm 0 Z Z (wz 1 Z Z (QV.loadAgg ag146 Z Z Z (Own.cellsBlk 1 Z)) (wz 2 Z Z (QV.lookupW (k := ((Int.tmod (ele p.times x19_1) p.pace), x69)) 2 0 mt145 kt146 zv3i64v Z Z Z Z Z) ?_)))))
  obtain ⟨c73, c76, hm77⟩ := cs2 hm71; clear hm71
  refine wz 3 Z Z (QV.add Z Z Z Z c73) ?_
  refine WD.o 4 Z (by kernel_rfl) Z ?_
  refine (EV.mapEntry (by decide) ((Int.tmod (ele p.times x19_1) p.pace), x69) 1 0 mt145 kt146 zv3i64v Z Z Z Z Z (fun s75 => ?_))
  refine WD.b (H' := [kn noM w.heap.size w w, blk b72 [i_ (Int.tmod (ele p.times x19_1) p.pace), i_ x69] 146, mapW b4 kP i64v 0 m4n_1, blk b3 [i_ p.pace, v_p_times] 91, blk b2 t.cells 28, blk b1 [v_l_logs, v_l_body, v_l_outs] 25]) (fun w hw => Own.midWeak 2 Z (hw.pick [5, 0, 1, 2, 3, 4] (by decide))) (pk [0, 1, 2, 3, 4, 5]) ?_
  refine wz 5 Z Z (QV.extract Z Z Z) ?_
  refine WD.l 6 Z (by kernel_rfl) Z ?_
  refine (EV.entryStore (ke := kP) (ve := i64v) ((Int.tmod (ele p.times x19_1) p.pace), x69) 1 ((mget m4n_1 ((Int.tmod (ele p.times x19_1) p.pace), x69) 0) + 1) s75 Z Z Z Z Z Z Z ?_)
  refine WQ.then (WC.seq (WC.dr (m := 9) (S := Own noM w [kn noM w.heap.size w w, blk b72 [i_ (Int.tmod (ele p.times x19_1) p.pace), i_ x69] 146, mapR b4 kP i64v (mput m4n_1 ((Int.tmod (ele p.times x19_1) p.pace), x69) ((mget m4n_1 ((Int.tmod (ele p.times x19_1) p.pace), x69) 0) + 1)), blk b3 [i_ p.pace, v_p_times] 91, blk b2 t.cells 28, blk b1 [v_l_logs, v_l_body, v_l_outs] 25]) (by kernel_rfl) (by kernel_rfl) (pk [5, 0, 1, 2, 3, 4]) (zm 0 Z Z (wz 1 Z Z (QV.loadAgg ag146 Z Z Z (Own.cellsBlk 1 Z)) (wz 2 Z Z (QV.lookup (k := ((Int.tmod (ele p.times x19_1) p.pace), x69)) 2 0 mt145 kt146 zv3i64v Z Z Z Z Z) (wz 3 Z Z (QV.indexArray ar146 Z Z Z Z (by decide) (by decide)) (zl 4 pl3 Z Z (Own.cell 1 Z Z) (zf 5 fd28_0 Z Z ?_))))))))
  refine wz 6 Z Z (QV.indexArray ar26 Z Z Z Z c76.1 c76.2) (zl 7 pl3 Z Z (Own.cellSym 4 Z (sel3_get (off := 0) (i := x69) c76.1 c76.2 Z Z Z) (addr_sym _ _ _)) (wz 8 Z Z (QV.gtr Z Z Z Z) ?_))
  refine WD.e (by kernel_rfl) ?_
  refine WQ.then ?_
  refine wc Z hm77 (fun h78 hm79 => ?_) (fun h78 hm80 => ?_) <;> clear hm77
  ·skip
   refine sr (wa Z (nt (WC.ret (kr (tr (tr (kr (tr (tr ?_)))))))))
   obtain rfl := up_ret hm79 hn53
   obtain rfl := (eq_of_some hm7).symm
   exact WQ.ret1 Z Z fun w hw => kg hw
  refine sk (WQ.block (WQ.then (WC.region ?_)))
  obtain ⟨c81, hm82⟩ := cs hm80; clear hm80
  refine wq Z (QV.add Z Z Z Z c81) (wm Z (WL.nil ?_))
  exact WQ.again2 (mput m4n_1 ((Int.tmod (ele p.times x19_1) p.pace), x69) ((mget m4n_1 ((Int.tmod (ele p.times x19_1) p.pace), x69) 0) + 1)) (x19_1 + 1) m50 (up_next hm82 hn53) (Nat.lt_succ_self _) ⟨Z, Z, Z, Z, Z, Z, Z, Z, trivial⟩ (pk [1, 2, 3, 4, 5])
 refine WC.exit (te (te (WQ.block_exit ?_)))
 exact WQ.out2 m4n_1 x19_1 (up_brk hm83 hn53) ⟨Z, Z, Z, Z, Z, Z, Z, Z, trivial⟩ (pk [0, 1, 2, 3, 4])
theorem sched_Legal_w {v_l_logs v_l_body v_l_outs v_p_times : Value} {l : Lp} {t : Tgt} {p : Pln} {r : Bool} (w : World) (hm : sched_Legal_m l t p = some r) (h_l_logs : Arr w v_l_logs 1 (l.logs.map icell)) (h_l_body : Arr w v_l_body 9 (l.body.map Stm.cells)) (h_l_outs : Arr w v_l_outs 1 (l.outs.map icell)) (h_p_times : Arr w v_p_times 1 (p.times.map icell)) : Calls Try.prog 107 #[.agg #[v_l_logs, v_l_body, v_l_outs], .agg #[.int .i64 t.u0, .int .i64 t.u1, .int .i64 t.u2, .int .i64 t.w0, .int .i64 t.w1, .int .i64 t.w2, .int .i64 t.regs], .agg #[.int .i64 p.pace, v_p_times]] w (fun e w' => e = .returned (.bool r) ∧ Grow w w') := by
 unfold sched_Legal_m at hm
 have hk := Base.rfl (w := w)
 refine calls_of_WC (n := 43) (args := [.agg #[v_l_logs, v_l_body, v_l_outs], .agg #[i_ t.u0, i_ t.u1, i_ t.u2, i_ t.w0, i_ t.w1, i_ t.w2, i_ t.regs], .agg #[i_ p.pace, v_p_times]]) Try.func107 Z Z (nl Z) ?_ (Own.startK hk (Own.start w))
 refine sr (WL.effect Z ?_)
 refine (EV.boxAgg (by decide) Z Z (fun b1 => ?_))
 refine WL.effect Z ?_
 refine (EV.boxAgg (by decide) Z Z (fun b2 => ?_))
 refine WL.effect Z ?_
 refine (EV.boxAgg (by decide) Z Z (fun b3 => ?_))
 refine wa Z (ns (wq Z (QV.loadAgg ag25 Z Z Z (Own.cellsBlk 2 Z)) (wq Z (QV.loadAgg ag28 Z Z Z (Own.cellsBlk 1 Z)) (WL.effect Z ?_))))
 obtain ⟨x4, hx5, hm6⟩ := bd_some hm; clear hm
 refine EV.of (C' := Own noM w [kn noM w.heap.size w w, blk b3 [i_ p.pace, v_p_times] 91, blk b2 t.cells 28, blk b1 [v_l_logs, v_l_body, v_l_outs] 25]) (pk [3, 0, 1, 2]) ?_
 refine (EV.callR (X := Value × World) (R := []) (fun X => .tuple #[X.1, i_ x4.2]) (fun X => []) (fun X => X.2) (fun X => Arr X.2 X.1 4 (x4.1.map Edg.cells)) hk (fun _ h => by cases h; decide) en62 (ec Z (ec Z eN)) (fun M w h1 h2 => have h := dep_Edges_w hx5 h_l_logs h_l_body h_l_outs M w h1 h2; h) (fun X7 hF7 hle7 => ?_))
 refine wm Z (wq Z (QV.extract Z Z Z) (wq Z (QV.extract Z Z Z) (wa Z (wa Z (ns (wm Z (wq Z (QV.eql Z Z Z Z) (wm Z (gp Z (fun hG => QV.fieldAddr fd91_0 Z Z) ?_)))))))))
 refine gp Z (fun hG => QV.load pl3 Z hG (Own.cell 1 Z Z)) (gp Z (fun hG => QV.geq Z hG Z Z) (wq Z (QV.pickAnd Z Z Z (fun h => h)) (wm Z (gp Z (fun hG => QV.fieldAddr fd91_0 Z Z) (gp Z (fun hG => QV.load pl3 Z hG (Own.cell 1 Z Z)) (gp Z (fun hG => QV.leq Z hG Z Z) (wq Z (QV.pickAnd Z Z Z (fun h => h)) (wm Z (gp Z (fun hG => QV.fieldAddr fd91_1 Z Z) ?_)))))))))
 refine gp Z (fun hG => QV.load pl22 Z hG (Own.cell 1 Z Z)) (gp Z (fun hG => QV.lenS Try.underlying22 Z hG (h_p_times.le hle7).lenMap) (gp Z (fun hG => QV.fieldAddr fd25_1 Z Z) (gp Z (fun hG => QV.load pl23 Z hG (Own.cell 3 Z Z)) (gp Z (fun hG => QV.lenS Try.underlying23 Z hG (h_l_body.le hle7).lenMap) (gp Z (fun hG => QV.eql Z hG Z hG) (wq Z (QV.pickAnd Z Z Z (fun h => h)) (wm Z (gp Z (fun hG => QV.loadAgg ag25 Z Z Z (Own.cellsBlk 3 Z)) (gp Z (fun hG => QV.loadAgg ag28 Z Z Z (Own.cellsBlk 2 Z)) ?_)))))))))
 refine gp Z (fun hG => QV.loadAgg ag91 Z Z Z (Own.cellsBlk 1 Z)) (gp Z (fun hG => QV.move Z Z) ?_)
 obtain ⟨x8, hx9, hm10⟩ := bdG_some hm6; clear hm6
 refine gp Z (fun hG => QV.call en73 (EvAll.cons Z hG (EvAll.cons Z hG (EvAll.cons Z hG (EvAll.cons Z hG eN)))) (fun w hw => have h := sched_fits_w w (hx9 hG) ((Own.karr 0 Z hk (h_l_logs.le hle7)) w hw) ((Own.karr 0 Z hk (h_l_body.le hle7)) w hw) ((Own.karr 0 Z hk (h_l_outs.le hle7)) w hw) ((Own.karr 0 Z hk (h_p_times.le hle7)) w hw) ((Own.karr 0 Z hk hF7) w hw); h)) (wq Z (QV.pickAnd Z Z Z (fun h => h)) (wa Z (nt (WC.ret ?_))))
 obtain rfl := (eq_of_some hm10).symm
 exact WQ.ret1 Z Z fun w hw => kg hw
end Go.Proofs.Ytaimbkndebaaiac
end