/- Texts for the law, 4. -/
import Derived.Test.YtaimbkndebaaiabZLkernelRuns3
import Derived.Test.YtaimbkndebaaiabProg
import Derived.KernelRfl
set_option linter.unusedVariables false
set_option linter.unusedSimpArgs false
set_option maxRecDepth 8000
section
namespace Go.Proofs.Ytaimbkndebaaiab
open Go.Rd
open TNum
namespace TLoop
theorem ag24 : AggT Try.prog 24 7 := ⟨_, Try.underlying24, rfl, by kernel_rfl⟩
theorem ag49 : AggT Try.prog 49 3 := ⟨_, Try.underlying49, rfl, by kernel_rfl⟩
theorem ag57 : AggT Try.prog 57 2 := ⟨_, Try.underlying57, rfl, by kernel_rfl⟩
theorem ag59 : AggT Try.prog 59 9 := ⟨_, Try.underlying59, rfl, by kernel_rfl⟩
theorem ar22 : ArrayT Try.prog 22 3 1 := ⟨_, Try.underlying22, by kernel_rfl⟩
theorem en102 : Go.Rd.Enters Try.prog 102 := eT Try.func102
theorem en103 : Go.Rd.Enters Try.prog 103 := eT Try.func103
theorem en109 : Go.Rd.Enters Try.prog 109 := eT Try.func109
theorem en123 : Go.Rd.Enters Try.prog 123 := eT Try.func123
theorem en46 : Go.Rd.Enters Try.prog 46 := eT Try.func46
theorem en48 : Go.Rd.Enters Try.prog 48 := eT Try.func48
theorem en49 : Go.Rd.Enters Try.prog 49 := eT Try.func49
theorem en50 : Go.Rd.Enters Try.prog 50 := eT Try.func50
theorem en52 : Go.Rd.Enters Try.prog 52 := eT Try.func52
theorem en62 : Go.Rd.Enters Try.prog 62 := eT Try.func62
theorem en68 : Go.Rd.Enters Try.prog 68 := eT Try.func68
theorem en74 : Go.Rd.Enters Try.prog 74 := eT Try.func74
theorem eq57 : EqT Try.prog 57 2 := ⟨by kernel_rfl, ⟨_, Try.underlying57⟩, by kernel_rfl, by kernel_rfl⟩
theorem fd24_0 : FieldT Try.prog 24 0 0 := fT 2 Try.underlying24
theorem fd24_1 : FieldT Try.prog 24 1 3 := fT 2 Try.underlying24
theorem fd24_2 : FieldT Try.prog 24 2 6 := fT 0 Try.underlying24
theorem fd49_0 : FieldT Try.prog 49 0 0 := fT 0 Try.underlying49
theorem fd49_1 : FieldT Try.prog 49 1 1 := fT 0 Try.underlying49
theorem fd49_2 : FieldT Try.prog 49 2 2 := fT 0 Try.underlying49
theorem fd57_0 : FieldT Try.prog 57 0 0 := fT 0 Try.underlying57
theorem fd57_1 : FieldT Try.prog 57 1 1 := fT 0 Try.underlying57
theorem fd59_0 : FieldT Try.prog 59 0 0 := fT 0 Try.underlying59
theorem fd59_1 : FieldT Try.prog 59 1 1 := fT 1 Try.underlying59
theorem fd59_2 : FieldT Try.prog 59 2 3 := fT 1 Try.underlying59
theorem fd59_3 : FieldT Try.prog 59 3 5 := fT 0 Try.underlying59
theorem fd59_4 : FieldT Try.prog 59 4 6 := fT 0 Try.underlying59
theorem fd59_5 : FieldT Try.prog 59 5 7 := fT 0 Try.underlying59
theorem fd59_6 : FieldT Try.prog 59 6 8 := fT 0 Try.underlying59
theorem pl2 : Plain Try.prog 2 := ⟨_, Try.underlying2, rfl⟩
theorem pl28 : Plain Try.prog 28 := ⟨_, Try.underlying28, rfl⟩
theorem pl29 : Plain Try.prog 29 := ⟨_, Try.underlying29, rfl⟩
theorem pl3 : Plain Try.prog 3 := ⟨_, Try.underlying3, rfl⟩
theorem pl30 : Plain Try.prog 30 := ⟨_, Try.underlying30, rfl⟩
theorem pl47 : Plain Try.prog 47 := ⟨_, Try.underlying47, rfl⟩
theorem sl106 : SliceT Try.prog 106 57 2 := ⟨Try.underlying106, by kernel_rfl⟩
theorem sl29 : SliceT Try.prog 29 28 1 := ⟨Try.underlying29, by kernel_rfl⟩
theorem sl30 : SliceT Try.prog 30 3 1 := ⟨Try.underlying30, by kernel_rfl⟩
theorem sl47 : SliceT Try.prog 47 59 9 := ⟨Try.underlying47, by kernel_rfl⟩
theorem sz57 : SizeT Try.prog 57 2 := by unfold SizeT; kernel_rfl
theorem sz59 : SizeT Try.prog 59 9 := by unfold SizeT; kernel_rfl
theorem sz_106 : SliceZ Try.prog 106 57 2 [.int .i64 0, .int .i64 0] := ⟨Try.underlying106, by kernel_rfl⟩
theorem ze57 : ZeroT Try.prog 57 [.int .i64 0, .int .i64 0] := by unfold ZeroT; kernel_rfl
theorem ze59 : ZeroT Try.prog 59 [.int .i64 0, .int .i64 0, .int .i64 0, .int .i64 0, .int .i64 0, .int .i64 0, .int .i64 0, .int .i64 0, .int .i64 0] := by unfold ZeroT; kernel_rfl
end TLoop
open TLoop
theorem target_May_w {t : Tgt} {r : Bool} (w : World) (hm : target_May_m t = some r)  : Calls Try.prog 46 #[.agg #[.int .i64 t.u0, .int .i64 t.u1, .int .i64 t.u2, .int .i64 t.w0, .int .i64 t.w1, .int .i64 t.w2, .int .i64 t.regs]] w (fun e w' => e = .returned (.bool r) ∧ Grow w w') := by
 unfold target_May_m at hm
 have hk := Base.rfl (w := w)
 refine calls_of_WC (n := 42) (args := [.agg #[i_ t.u0, i_ t.u1, i_ t.u2, i_ t.w0, i_ t.w1, i_ t.w2, i_ t.regs]]) Try.func46 Z Z (nl Z) ?_ (Own.startK hk (Own.start w))
 refine sr (WL.effect Z ?_)
 refine (EV.boxAgg (by decide) Z Z (fun b1 => ?_))
 refine wa Z (nt (WC.seq (sr (wm Z (nt ?_)))))
 obtain ⟨o2, ho3, hm4⟩ := bd_some hm; clear hm; obtain ⟨n5, ho6⟩ := lp_some ho3
 refine WC.bloop1 (H2 := [blk b1 t.cells 24, kn noM w.heap.size w w]) (τ := [u_ 1 _]) (fun (x4_1 : Int) => [(4, (true, i_ x4_1))]) (fun x4_1 => []) (fun x4_1 m => iter (target_May_L0 t) m x4_1 = some o2) (fun x4_1 => o2 = .go x4_1) 0 n5 ho6 ⟨Z, Z, trivial⟩ (pk [0, 1]) ?_ ?_
 ·skip
  rintro x4_1 rfl
  refine WQ.then (sr (wf fd24_2 Z (wl pl3 Z (Own.cell 0 Z Z) (wq Z (QV.geq Z Z Z Z) (wm Z (gp Z (fun hG => QV.fieldAddr fd24_2 Z Z) (gp Z (fun hG => QV.load pl3 Z hG (Own.cell 0 Z Z)) (gp Z (fun hG => QV.leq Z hG Z Z) (wq Z (QV.pickAnd Z Z Z (fun h => h)) (wa Z ?_))))))))))
  refine nt (WC.ret ?_)
  obtain rfl := (eq_of_some hm4).symm
  exact WQ.ret1 Z Z fun w hw => kg hw
 rintro x4_1 m7 hI8
 obtain ⟨m9, s10, rfl, hm11, hn12⟩ := iter_step hI8; clear hI8; unfold target_May_L0 at hm11
 refine sr (wq Z (QV.lss Z Z Z Z) (nt (WC.seq ?_)))
 refine wc Z hm11 (fun h13 hm14 => ?_) (fun h13 hm28 => ?_) <;> clear hm11
 ·skip
  refine sk (WQ.then (WC.seq (WC.block (sr (wm Z (wa Z (ns (wm Z (wf fd24_0 Z ?_)))))))))
  obtain ⟨c15, c17, c19, c21, hm22⟩ := cs4 hm14; clear hm14
  refine wq Z (QV.indexArray ar22 Z Z Z Z c15.1 c15.2) (wl pl3 Z (Own.cellSym 0 Z (sel3_get (off := 0) (i := x4_1) c15.1 c15.2 Z Z Z) (addr_sym _ _ _)) (wq Z (QV.lss Z Z Z Z) (wm Z (gn Z (fun hG => QV.move Z Z) (gn Z (fun hG => QV.fieldAddr fd24_0 Z Z) (gn Z (fun hG => QV.indexArray ar22 Z hG Z hG (c17 hG).1 (c17 hG).2) (gn Z (fun hG => QV.load pl3 Z hG (Own.cellSym 0 Z (sel3_get (off := 0) (i := x4_1) (c17 hG).1 (c17 hG).2 Z Z Z) (addr_sym _ _ _))) (gn Z (fun hG => QV.gtr Z hG Z Z) (wq Z (QV.pickOr Z Z Z (fun h => notF h)) ?_)))))))))
  refine wm Z (gn Z (fun hG => QV.move Z Z) (gn Z (fun hG => QV.fieldAddr fd24_1 Z Z) (gn Z (fun hG => QV.indexArray ar22 Z hG Z hG (c19 hG).1 (c19 hG).2) (gn Z (fun hG => QV.load pl3 Z hG (Own.cellSym 0 Z (sel3_get (off := 3) (i := x4_1) (c19 hG).1 (c19 hG).2 Z Z Z) (addr_sym _ _ _))) (gn Z (fun hG => QV.lss Z hG Z Z) (wq Z (QV.pickOr Z Z Z (fun h => notF h)) (wm Z (gn Z (fun hG => QV.move Z Z) (gn Z (fun hG => QV.fieldAddr fd24_1 Z Z) ?_)))))))))
  refine gn Z (fun hG => QV.indexArray ar22 Z hG Z hG (c21 hG).1 (c21 hG).2) (gn Z (fun hG => QV.load pl3 Z hG (Own.cellSym 0 Z (sel3_get (off := 3) (i := x4_1) (c21 hG).1 (c21 hG).2 Z Z Z) (addr_sym _ _ _))) (gn Z (fun hG => QV.gtr Z hG Z Z) (wq Z (QV.pickOr Z Z Z (fun h => notF h)) (nt ?_))))
  refine wc Z hm22 (fun h23 hm24 => ?_) (fun h23 hm25 => ?_) <;> clear hm22
  ·skip
   refine sr (wa Z (nt (WC.ret (kr (tr (tr (kr (tr (tr ?_)))))))))
   obtain rfl := up_ret hm24 hn12
   obtain rfl := (eq_of_some hm4).symm
   exact WQ.ret1 Z Z fun w hw => kg hw
  refine sk (WQ.block (WQ.then (WC.region ?_)))
  obtain ⟨c26, hm27⟩ := cs hm25; clear hm25
  refine wq Z (QV.add Z Z Z Z c26) (wm Z (WL.nil ?_))
  exact WQ.again1 (x4_1 + 1) m9 (up_next hm27 hn12) (Nat.lt_succ_self _) ⟨Z, Z, trivial⟩ (pk [0, 1])
 refine WC.exit (te (te (WQ.block_exit ?_)))
 exact WQ.out1 x4_1 (up_brk hm28 hn12) ⟨Z, Z, trivial⟩ (pk [0, 1])
theorem R4_May_w {t : Tgt} {r : Bool} (w : World) (hm : R4_May_m t = some r)  : Calls Try.prog 49 #[.agg #[.int .i64 t.u0, .int .i64 t.u1, .int .i64 t.u2, .int .i64 t.w0, .int .i64 t.w1, .int .i64 t.w2, .int .i64 t.regs]] w (fun e w' => e = .returned (.bool r) ∧ Grow w w') := by
 unfold R4_May_m at hm
 have hk := Base.rfl (w := w)
 refine calls_of_WC (n := 42) (args := [.agg #[i_ t.u0, i_ t.u1, i_ t.u2, i_ t.w0, i_ t.w1, i_ t.w2, i_ t.regs]]) Try.func49 Z Z (nl Z) ?_ (Own.startK hk (Own.start w))
 refine sr (WL.effect Z ?_)
 refine (EV.boxAgg (by decide) Z Z (fun b1 => ?_))
 refine wa Z (nt (WC.seq (sr (wa Z (nt ?_)))))
 obtain ⟨o2, ho3, hm4⟩ := bd_some hm; clear hm; obtain ⟨n5, ho6⟩ := lp_some ho3
 refine WC.bloop1 (H2 := [blk b1 t.cells 24, kn noM w.heap.size w w]) (τ := [u_ 1 _]) (fun (k3_1 : Int) => [(3, (true, i_ k3_1))]) (fun k3_1 => []) (fun k3_1 m => iter (R4_May_L0 t) m k3_1 = some o2) (fun k3_1 => o2 = .go k3_1) 0 n5 ho6 ⟨Z, Z, trivial⟩ (pk [0, 1]) ?_ ?_
 ·skip
  rintro k3_1 rfl
  refine WQ.then (sr (wf fd24_2 Z (wl pl3 Z (Own.cell 0 Z Z) (wq Z (QV.gtr Z Z Z Z) (wm Z (gp Z (fun hG => QV.fieldAddr fd24_2 Z Z) (gp Z (fun hG => QV.load pl3 Z hG (Own.cell 0 Z Z)) (gp Z (fun hG => QV.leq Z hG Z Z) (wq Z (QV.pickAnd Z Z Z (fun h => h)) (wa Z ?_))))))))))
  refine nt (WC.ret ?_)
  obtain rfl := (eq_of_some hm4).symm
  exact WQ.ret1 Z Z fun w hw => kg hw
 rintro k3_1 m7 hI8
 obtain ⟨m9, s10, rfl, hm11, hn12⟩ := iter_step hI8; clear hI8; unfold R4_May_L0 at hm11
 refine WC.seq (sr (wm Z (wq Z (QV.lss Z Z Z Z) (nt ?_))))
 refine wc Z hm11 (fun h13 hm14 => ?_) (fun h13 hm28 => ?_) <;> clear hm11
 ·skip
  refine sk (WQ.then (WC.seq (WC.block (sr (wm Z (wf fd24_0 Z ?_))))))
  obtain ⟨c15, c17, c19, c21, hm22⟩ := cs4 hm14; clear hm14
  refine wq Z (QV.indexArray ar22 Z Z Z Z c15.1 c15.2) (wl pl3 Z (Own.cellSym 0 Z (sel3_get (off := 0) (i := k3_1) c15.1 c15.2 Z Z Z) (addr_sym _ _ _)) (wq Z (QV.lss Z Z Z Z) (wm Z (gn Z (fun hG => QV.move Z Z) (gn Z (fun hG => QV.fieldAddr fd24_0 Z Z) (gn Z (fun hG => QV.indexArray ar22 Z hG Z hG (c17 hG).1 (c17 hG).2) (gn Z (fun hG => QV.load pl3 Z hG (Own.cellSym 0 Z (sel3_get (off := 0) (i := k3_1) (c17 hG).1 (c17 hG).2 Z Z Z) (addr_sym _ _ _))) (gn Z (fun hG => QV.gtr Z hG Z Z) (wq Z (QV.pickOr Z Z Z (fun h => notF h)) ?_)))))))))
  refine wm Z (gn Z (fun hG => QV.move Z Z) (gn Z (fun hG => QV.fieldAddr fd24_1 Z Z) (gn Z (fun hG => QV.indexArray ar22 Z hG Z hG (c19 hG).1 (c19 hG).2) (gn Z (fun hG => QV.load pl3 Z hG (Own.cellSym 0 Z (sel3_get (off := 3) (i := k3_1) (c19 hG).1 (c19 hG).2 Z Z Z) (addr_sym _ _ _))) (gn Z (fun hG => QV.lss Z hG Z Z) (wq Z (QV.pickOr Z Z Z (fun h => notF h)) (wm Z (gn Z (fun hG => QV.move Z Z) (gn Z (fun hG => QV.fieldAddr fd24_1 Z Z) ?_)))))))))
  refine gn Z (fun hG => QV.indexArray ar22 Z hG Z hG (c21 hG).1 (c21 hG).2) (gn Z (fun hG => QV.load pl3 Z hG (Own.cellSym 0 Z (sel3_get (off := 3) (i := k3_1) (c21 hG).1 (c21 hG).2 Z Z Z) (addr_sym _ _ _))) (gn Z (fun hG => QV.gtr Z hG Z Z) (wq Z (QV.pickOr Z Z Z (fun h => notF h)) (nt ?_))))
  refine wc Z hm22 (fun h23 hm24 => ?_) (fun h23 hm25 => ?_) <;> clear hm22
  ·skip
   refine sr (wa Z (nt (WC.ret (kr (tr (tr (kr (tr (tr ?_)))))))))
   obtain rfl := up_ret hm24 hn12
   obtain rfl := (eq_of_some hm4).symm
   exact WQ.ret1 Z Z fun w hw => kg hw
  refine sk (WQ.block (WQ.then (WC.region (wm Z ?_))))
  obtain ⟨c26, hm27⟩ := cs hm25; clear hm25
  refine wq Z (QV.add Z Z Z Z c26) (wa Z (WL.nil ?_))
  exact WQ.again1 (k3_1 + 1) m9 (up_next hm27 hn12) (Nat.lt_succ_self _) ⟨Z, Z, trivial⟩ (pk [0, 1])
 refine WC.exit (te (te (WQ.block_exit ?_)))
 exact WQ.out1 k3_1 (up_brk hm28 hn12) ⟨Z, Z, trivial⟩ (pk [0, 1])
theorem loop_in_w {n_ from_ below : Int} {r : Bool} (w : World) (hm : loop_in_m n_ from_ below = some r)  : Calls Try.prog 102 #[.int .i64 n_, .int .i64 from_, .int .i64 below] w (fun e w' => e = .returned (.bool r) ∧ Grow w w') := by
 unfold loop_in_m at hm
 have hk := Base.rfl (w := w)
 refine calls_of_WC (n := 15) (args := [i_ n_, i_ from_, i_ below]) Try.func102 Z Z (nl Z) ?_ (Own.startK hk (Own.start w))
 refine sr (wa Z (ns (wm Z (wm Z (wq Z (QV.geq Z Z Z Z) (wm Z (gp Z (fun hG => QV.move Z Z) (gp Z (fun hG => QV.move Z Z) (gp Z (fun hG => QV.lss Z hG Z hG) ?_)))))))))
 refine wq Z (QV.pickAnd Z Z Z (fun h => h)) (wa Z (nt (WC.ret ?_)))
 obtain rfl := (eq_of_some hm).symm
 exact WQ.ret1 Z Z fun w hw => kg hw
theorem loop_Uses_w {s : Stm} {r : List Rf} {K0 : World} (hm : loop_Uses_m s = some r)  (M : Nat → Prop) (w : World) (hk : Base M K0 w) (hw0 : Own M w [] w) : Calls Try.prog 62 #[.agg #[.int .i64 s.op, .int .i64 s.a.st, .int .i64 s.a.bk, .int .i64 s.b.st, .int .i64 s.b.bk, .int .i64 s.ar, .int .i64 s.sp, .int .i64 s.pl, .int .i64 s.n]] w (fun e w' => ∃ X : Value × World, e = .returned (X.1) ∧ Own M w (kn M w.heap.size K0 X.2 :: []) w' ∧ Arr X.2 X.1 2 (r.map Rf.cells)) := by
 unfold loop_Uses_m at hm
 refine calls_of_WC (n := 19) (args := [.agg #[i_ s.op, i_ s.a.st, i_ s.a.bk, i_ s.b.st, i_ s.b.bk, i_ s.ar, i_ s.sp, i_ s.pl, i_ s.n]]) Try.func62 Z Z (nl Z) ?_ (Own.startK hk hw0)
 refine sr (WL.effect Z ?_)
 refine (EV.boxAgg (by decide) Z Z (fun b1 => ?_))
 refine wa Z (nt (WC.seq (WC.block (sr (wf fd59_0 Z (wl pl3 Z (Own.cell 0 Z Z) (wq Z (QV.eql Z Z Z Z) (wa Z (nt ?_)))))))))
 refine wc Z hm (fun h2 hm3 => ?_) (fun h2 hm6 => ?_) <;> clear hm
 ·skip
  refine sr (wf fd59_1 Z (wq Z (QV.loadAgg ag57 Z Z Z (fun w hw => (Own.cellsBlk 0 Z w hw).sub 1 2 Z)) (WL.effect Z ?_)))
  refine (EV.buildSlice (by decide) sz_106 (by decide) (by decide) (ps := [(0, .tmp 8)]) (cells := [i_ s.a.st, i_ s.a.bk]) (ec Z eN) (by kernel_rfl) (fun b4 => ?_))
  refine wa Z (nt (WC.ret (kr (tr ?_))))
  obtain rfl := (eq_of_some hm3).symm
  refine WK.of (fun w hw => hw.blkVec Rf.cells ([s.a] : List Rf) Z Rf.cells_len (nl Z)) ?_
  refine WK.of (C' := Own M w [kn M w.heap.size K0 K0, vec (blkSlice b4 1 1) 57 2 (List.map Rf.cells [s.a]), blk b1 s.cells 59]) (pk [2, 0, 1]) ?_
  refine WK.freeze hk (fun k5 hle5 hr5 => ?_)
  have hA5 := vec_arr hr5
  refine WQ.ret1 Z Z (fun w hw => ?_)
  exact ⟨((blkSlice b4 1 1), k5), Z, hw.pick [0] (by decide), hA5⟩
 refine sr (wf fd59_0 Z (wl pl3 Z (Own.cell 0 Z Z) (wq Z (QV.gtr Z Z Z Z) (wa Z (nt ?_)))))
 refine wc Z hm6 (fun h7 hm8 => ?_) (fun h7 hm11 => ?_) <;> clear hm6
 ·skip
  refine sr (wf fd59_1 Z (wq Z (QV.loadAgg ag57 Z Z Z (fun w hw => (Own.cellsBlk 0 Z w hw).sub 1 2 Z)) (wf fd59_2 Z (wq Z (QV.loadAgg ag57 Z Z Z (fun w hw => (Own.cellsBlk 0 Z w hw).sub 3 2 Z)) (WL.effect Z ?_)))))
  refine (EV.buildSlice (by decide) sz_106 (by decide) (by decide) (ps := [(0, .tmp 15), (1, .tmp 17)]) (cells := [i_ s.a.st, i_ s.a.bk, i_ s.b.st, i_ s.b.bk]) (ec Z (ec Z eN)) (by kernel_rfl) (fun b9 => ?_))
  refine wa Z (nt (WC.ret (kr (tr ?_))))
  obtain rfl := (eq_of_some hm8).symm
  refine WK.of (fun w hw => hw.blkVec Rf.cells ([s.a, s.b] : List Rf) Z Rf.cells_len (nl Z)) ?_
  refine WK.of (C' := Own M w [kn M w.heap.size K0 K0, vec (blkSlice b9 2 2) 57 2 (List.map Rf.cells [s.a, s.b]), blk b1 s.cells 59]) (pk [2, 0, 1]) ?_
  refine WK.freeze hk (fun k10 hle10 hr10 => ?_)
  have hA10 := vec_arr hr10
  refine WQ.ret1 Z Z (fun w hw => ?_)
  exact ⟨((blkSlice b9 2 2), k10), Z, hw.pick [0] (by decide), hA10⟩
 refine sk (WQ.block (WQ.then (sr (wa Z (nt (WC.ret ?_))))))
 obtain rfl := (eq_of_some hm11).symm
 refine WQ.ret1 Z Z (fun w hw => ?_)
 exact ⟨(.slice none 0 0, K0), Z, hw.pick [1] (by decide), Arr.nil⟩
theorem loop_ref_w {v_l_logs v_l_body v_l_outs : Value} {l : Lp} {k_ : Int} {r_ : Rf} {r : Bool} (w : World) (hm : loop_ref_m l k_ r_ = some r) (h_l_logs : Arr w v_l_logs 1 (l.logs.map icell)) (h_l_body : Arr w v_l_body 9 (l.body.map Stm.cells)) (h_l_outs : Arr w v_l_outs 1 (l.outs.map icell)) : Calls Try.prog 123 #[.agg #[v_l_logs, v_l_body, v_l_outs], .int .i64 k_, .agg #[.int .i64 r_.st, .int .i64 r_.bk]] w (fun e w' => e = .returned (.bool r) ∧ Grow w w') := by
 unfold loop_ref_m at hm
 have hk := Base.rfl (w := w)
 refine calls_of_WC (n := 24) (args := [.agg #[v_l_logs, v_l_body, v_l_outs], i_ k_, .agg #[i_ r_.st, i_ r_.bk]]) Try.func123 Z Z (nl Z) ?_ (Own.startK hk (Own.start w))
 refine sr (WL.effect Z ?_)
 refine (EV.boxAgg (by decide) Z Z (fun b1 => ?_))
 refine WL.effect Z ?_
 refine (EV.boxAgg (by decide) Z Z (fun b2 => ?_))
 refine wa Z (ns (wf fd49_1 Z (wl pl47 Z (Own.cell 1 Z Z) (wq Z (QV.lenS Try.underlying47 Z Z h_l_body.lenMap) (wa Z (nt (WC.seq (sr (wf fd57_1 Z (wl pl3 Z (Own.cell 0 Z Z) (wq Z (QV.eql Z Z Z Z) ?_)))))))))))
 refine nt ?_
 refine wc Z hm (fun h3 hm4 => ?_) (fun h3 hm11 => ?_) <;> clear hm
 ·skip
  refine WC.region (wm Z (wa Z (ns (wf fd57_1 Z (wl pl3 Z (Own.cell 0 Z Z) ?_)))))
  obtain ⟨x5, hx6, hm7⟩ := bd_some hm4; clear hm4
  refine wq Z (QV.call en102 (ec Z (ec Z (ec Z eN))) (fun w hw => have h := loop_in_w w hx6 ; h)) (wm Z (gp Z (fun hG => QV.fieldAddr fd57_0 Z Z) (gp Z (fun hG => QV.load pl3 Z hG (Own.cell 0 Z Z)) (gp Z (fun hG => QV.move Z Z) ?_))))
  obtain ⟨x8, hx9, hm10⟩ := bdG_some hm7; clear hm7
  refine gp Z (fun hG => QV.call en102 (EvAll.cons Z hG (ec Z (EvAll.cons Z hG eN))) (fun w hw => have h := loop_in_w w (hx9 hG) ; h)) (wq Z (QV.pickAnd Z Z Z (fun h => h)) (wa Z (nt (WC.ret ?_))))
  obtain rfl := (eq_of_some hm10).symm
  exact WQ.ret1 Z Z fun w hw => kg hw
 refine sk (WQ.then (sr (wf fd57_1 Z (wl pl3 Z (Own.cell 0 Z Z) ?_))))
 obtain ⟨x12, hx13, hm14⟩ := bd_some hm11; clear hm11
 refine wq Z (QV.call en102 (ec Z (ec Z (ec Z eN))) (fun w hw => have h := loop_in_w w hx13 ; h)) (wm Z (gp Z (fun hG => QV.fieldAddr fd57_0 Z Z) (gp Z (fun hG => QV.load pl3 Z hG (Own.cell 0 Z Z)) (gp Z (fun hG => QV.move Z Z) ?_))))
 obtain ⟨x15, hx16, hm17⟩ := bdG_some hm14; clear hm14
 refine gp Z (fun hG => QV.call en102 (EvAll.cons Z hG (ec Z (EvAll.cons Z hG eN))) (fun w hw => have h := loop_in_w w (hx16 hG) ; h)) (wq Z (QV.pickAnd Z Z Z (fun h => h)) (wa Z (nt (WC.ret ?_))))
 obtain rfl := (eq_of_some hm17).symm
 exact WQ.ret1 Z Z fun w hw => kg hw
theorem loop_stmt_w {v_l_logs v_l_body v_l_outs : Value} {l : Lp} {k_ : Int} {r : Bool} (w : World) (hm : loop_stmt_m l k_ = some r) (h_l_logs : Arr w v_l_logs 1 (l.logs.map icell)) (h_l_body : Arr w v_l_body 9 (l.body.map Stm.cells)) (h_l_outs : Arr w v_l_outs 1 (l.outs.map icell)) : Calls Try.prog 103 #[.agg #[v_l_logs, v_l_body, v_l_outs], .int .i64 k_] w (fun e w' => e = .returned (.bool r) ∧ Grow w w') := by
 unfold loop_stmt_m at hm
 have hk := Base.rfl (w := w)
 refine calls_of_WC (n := 132) (args := [.agg #[v_l_logs, v_l_body, v_l_outs], i_ k_]) Try.func103 Z Z (nl Z) ?_ (Own.startK hk (Own.start w))
 refine sr (WL.effect Z ?_)
 refine (EV.boxAgg (by decide) Z Z (fun b1 => ?_))
 refine wa Z (ns (wf fd49_1 Z (wl pl47 Z (Own.cell 0 Z Z) (wm Z ?_))))
 obtain ⟨c2, hm3⟩ := cs hm; clear hm
 obtain ⟨p4, hp5⟩ := h_l_body.lenMap.ix (sz := 9) ln_len c2
 refine wq Z (QV.indexSlice sl47 Z Z Z Z hp5) (wq Z (QV.loadAgg ag59 Z Z Z (fun w hw => ((Own.karr 1 Z hk h_l_body) w hw).ele hp5 c2)) (WL.effect Z ?_))
 refine (EV.alloc (by decide) ze59 (fun b6 => ?_))
 refine WL.effect Z ?_
 refine (EV.store 0 Z Z Z Z Z Z (vs := (Stm.cells (ele l.body k_))) (show Value.cells _ = List.toArray _ from Z) sz59 (nl Z) (oc Z (oc Z (oc Z (oc Z (oc Z (oc Z (oc Z (oc Z (oc Z one_nil))))))))) ?_)
 refine ns (wq Z (QV.build (ps := []) (cells := [i_ 0, i_ 0]) eN (by kernel_rfl)) (WL.effect Z ?_))
 refine (EV.alloc (by decide) ze57 (fun b7 => ?_))
 refine WL.effect Z ?_
 refine (EV.store 0 Z Z Z Z Z Z (vs := [i_ 0, i_ 0]) (show Value.cells _ = List.toArray _ from Z) sz57 (nl Z) (oc Z (oc Z one_nil)) ?_)
 refine ns (wf fd59_3 Z (wl pl3 Z (Own.cell 1 Z Z) (wf fd49_0 Z (wl pl30 Z (Own.cell 2 Z Z) (wq Z (QV.lenS Try.underlying30 Z Z h_l_logs.lenMap) ?_)))))
 obtain ⟨x8, hx9, hm10⟩ := bd_some hm3; clear hm3
 refine wq Z (QV.call en102 (ec Z (ec Z (ec Z eN))) (fun w hw => have h := loop_in_w w hx9 ; h)) (wm Z (gp Z (fun hG => QV.fieldAddr fd59_4 Z Z) (gp Z (fun hG => QV.load pl3 Z hG (Own.cell 1 Z Z)) ?_)))
 obtain ⟨x11, hx12, hm13⟩ := bdG_some hm10; clear hm10
 refine gp Z (fun hG => QV.call en102 (EvAll.cons Z hG (ec Z (ec Z eN))) (fun w hw => have h := loop_in_w w (hx12 hG) ; h)) (wq Z (QV.pickAnd Z Z Z (fun h => h)) (wm Z (gp Z (fun hG => QV.fieldAddr fd59_5 Z Z) (gp Z (fun hG => QV.load pl3 Z hG (Own.cell 1 Z Z)) ?_))))
 obtain ⟨x14, hx15, hm16⟩ := bdG_some hm13; clear hm13
 refine gp Z (fun hG => QV.call en102 (EvAll.cons Z hG (ec Z (ec Z eN))) (fun w hw => have h := loop_in_w w (hx15 hG) ; h)) (wq Z (QV.pickAnd Z Z Z (fun h => h)) (wa Z (ns (wf fd59_3 Z (wl pl3 Z (Own.cell 1 Z Z) (wq Z (QV.eql Z Z Z Z) (wm Z (gp Z (fun hG => QV.fieldAddr fd59_4 Z Z) (gp Z (fun hG => QV.load pl3 Z hG (Own.cell 1 Z Z)) ?_)))))))))
 refine gp Z (fun hG => QV.eql Z hG Z Z) (wq Z (QV.pickAnd Z Z Z (fun h => h)) (wm Z (gp Z (fun hG => QV.fieldAddr fd59_5 Z Z) (gp Z (fun hG => QV.load pl3 Z hG (Own.cell 1 Z Z)) (gp Z (fun hG => QV.eql Z hG Z Z) (wq Z (QV.pickAnd Z Z Z (fun h => h)) (wa Z (nt (WC.seq (sr (wq Z (QV.loadAgg ag59 Z Z Z (Own.cellsBlk 1 Z)) ?_)))))))))))
 refine WL.effect Z ?_
 obtain ⟨x17, hx18, hm19⟩ := bd_some hm16; clear hm16
 refine EV.of (C' := Own noM w [kn noM w.heap.size w w, blk b7 [i_ 0, i_ 0] 57, blk b6 (Stm.cells (ele l.body k_)) 59, blk b1 [v_l_logs, v_l_body, v_l_outs] 49]) (pk [3, 0, 1, 2]) ?_
 refine (EV.callR (X := Value × World) (R := []) (fun X => X.1) (fun X => []) (fun X => X.2) (fun X => Arr X.2 X.1 2 (x17.map Rf.cells)) hk (fun _ h => by cases h; decide) en62 (ec Z eN) (fun M w h1 h2 => have h := loop_Uses_w hx18  M w h1 h2; h) (fun X20 hF20 hle20 => ?_))
 refine wq Z (QV.lenS Try.underlying106 Z Z hF20.lenMap) (wm Z (nt ?_))
 obtain ⟨o21, ho22, hm23⟩ := bd_some hm19; clear hm19; obtain ⟨n24, ho25⟩ := lp_some ho22
 refine WC.bloop1 (H2 := [kn noM w.heap.size w X20.2, blk b7 [i_ 0, i_ 0] 57, blk b6 (Stm.cells (ele l.body k_)) 59, blk b1 [v_l_logs, v_l_body, v_l_outs] 49]) (τ := [u_ 1 _, u_ 2 _, u_ 5 _, u_ 6 _, u_ 7 _, u_ 8 _, u_ 47 _, u_ 48 _]) (fun (x49_1 : Int) => [(49, (true, i_ x49_1))]) (fun x49_1 => []) (fun x49_1 m => iter (loop_stmt_L0 l k_ x17) m x49_1 = some o21) (fun x49_1 => o21 = .go x49_1) 0 n24 ho25 ⟨Z, Z, Z, Z, Z, Z, Z, Z, Z, trivial⟩ (pk [0, 1, 2, 3]) ?_ ?_
 ·skip
  rintro x49_1 rfl
  refine WQ.then (WC.seq (WC.block (sr (wf fd59_0 Z (wl pl3 Z (Own.cell 2 Z Z) (wq Z (QV.eql Z Z Z Z) (wa Z (nt ?_))))))))
  refine wc Z hm23 (fun h26 hm27 => ?_) (fun h26 hm28 => ?_) <;> clear hm23
  ·skip
   refine sr (wm Z (wm Z (gp Z (fun hG => QV.fieldAddr fd59_1 Z Z) (gp Z (fun hG => QV.loadAgg ag57 Z Z hG (fun w hw => (Own.cellsBlk 2 Z w hw).sub 1 2 Z)) (gp Z (fun hG => QV.loadAgg ag57 Z Z Z (Own.cellsBlk 1 Z)) (gp Z (fun hG => QV.eqlF eq57 (ns := [((ele l.body k_).a).st, ((ele l.body k_).a).bk]) (ms := [0, 0]) Z hG Z hG Z Z) (wq Z (QV.pickAnd Z Z Z (fun h => h)) (wm Z (gp Z (fun hG => QV.fieldAddr fd59_2 Z Z) ?_)))))))))
   refine gp Z (fun hG => QV.loadAgg ag57 Z Z hG (fun w hw => (Own.cellsBlk 2 Z w hw).sub 3 2 Z)) (gp Z (fun hG => QV.loadAgg ag57 Z Z Z (Own.cellsBlk 1 Z)) (gp Z (fun hG => QV.eqlF eq57 (ns := [((ele l.body k_).b).st, ((ele l.body k_).b).bk]) (ms := [0, 0]) Z hG Z hG Z Z) (wq Z (QV.pickAnd Z Z Z (fun h => h)) (wa Z (nt (WC.ret (kr (tr ?_))))))))
   obtain rfl := (eq_of_some hm27).symm
   exact WQ.ret1 Z Z fun w hw => kg hw
  refine sr (wf fd59_6 Z (wl pl2 Z (Own.cell 2 Z Z) (wq Z (QV.neq Z Z Z Z) (wa Z (nt ?_)))))
  refine wc Z hm28 (fun h29 hm30 => ?_) (fun h29 hm31 => ?_) <;> clear hm28
  ·skip
   refine sr (wa Z (nt (WC.ret (kr (tr ?_)))))
   obtain rfl := (eq_of_some hm30).symm
   exact WQ.ret1 Z Z fun w hw => kg hw
  refine sr (wf fd59_0 Z (wl pl3 Z (Own.cell 2 Z Z) (wq Z (QV.eql Z Z Z Z) (wa Z (nt ?_)))))
  refine wc Z hm31 (fun h32 hm33 => ?_) (fun h32 hm34 => ?_) <;> clear hm31
  ·skip
   refine sr (wm Z (wm Z (gp Z (fun hG => QV.fieldAddr fd59_1 Z Z) (gp Z (fun hG => QV.loadAgg ag57 Z Z hG (fun w hw => (Own.cellsBlk 2 Z w hw).sub 1 2 Z)) (gp Z (fun hG => QV.loadAgg ag57 Z Z Z (Own.cellsBlk 1 Z)) (gp Z (fun hG => QV.eqlF eq57 (ns := [((ele l.body k_).a).st, ((ele l.body k_).a).bk]) (ms := [0, 0]) Z hG Z hG Z Z) (wq Z (QV.pickAnd Z Z Z (fun h => h)) (wm Z (gp Z (fun hG => QV.fieldAddr fd59_2 Z Z) ?_)))))))))
   refine gp Z (fun hG => QV.loadAgg ag57 Z Z hG (fun w hw => (Own.cellsBlk 2 Z w hw).sub 3 2 Z)) (gp Z (fun hG => QV.loadAgg ag57 Z Z Z (Own.cellsBlk 1 Z)) (gp Z (fun hG => QV.eqlF eq57 (ns := [((ele l.body k_).b).st, ((ele l.body k_).b).bk]) (ms := [0, 0]) Z hG Z hG Z Z) (wq Z (QV.pickAnd Z Z Z (fun h => h)) (wa Z (nt (WC.ret (kr (tr ?_))))))))
   obtain rfl := (eq_of_some hm33).symm
   exact WQ.ret1 Z Z fun w hw => kg hw
  refine sr (wf fd59_0 Z (wl pl3 Z (Own.cell 2 Z Z) (wq Z (QV.eql Z Z Z Z) (wa Z (nt ?_)))))
  refine wc Z hm34 (fun h35 hm36 => ?_) (fun h35 hm37 => ?_) <;> clear hm34
  ·skip
   refine sr (wm Z (wm Z (gp Z (fun hG => QV.fieldAddr fd59_1 Z Z) (gp Z (fun hG => QV.loadAgg ag57 Z Z hG (fun w hw => (Own.cellsBlk 2 Z w hw).sub 1 2 Z)) (gp Z (fun hG => QV.loadAgg ag57 Z Z Z (Own.cellsBlk 1 Z)) (gp Z (fun hG => QV.eqlF eq57 (ns := [((ele l.body k_).a).st, ((ele l.body k_).a).bk]) (ms := [0, 0]) Z hG Z hG Z Z) (wq Z (QV.pickAnd Z Z Z (fun h => h)) (wm Z (gp Z (fun hG => QV.fieldAddr fd59_2 Z Z) ?_)))))))))
   refine gp Z (fun hG => QV.loadAgg ag57 Z Z hG (fun w hw => (Own.cellsBlk 2 Z w hw).sub 3 2 Z)) (gp Z (fun hG => QV.loadAgg ag57 Z Z Z (Own.cellsBlk 1 Z)) (gp Z (fun hG => QV.eqlF eq57 (ns := [((ele l.body k_).b).st, ((ele l.body k_).b).bk]) (ms := [0, 0]) Z hG Z hG Z Z) (wq Z (QV.pickAnd Z Z Z (fun h => h)) (wa Z (nt (WC.ret (kr (tr ?_))))))))
   obtain rfl := (eq_of_some hm36).symm
   exact WQ.ret1 Z Z fun w hw => kg hw
  refine sr (wf fd59_0 Z (wl pl3 Z (Own.cell 2 Z Z) (wq Z (QV.eql Z Z Z Z) (wa Z (nt ?_)))))
  refine wc Z hm37 (fun h38 hm39 => ?_) (fun h38 hm40 => ?_) <;> clear hm37
  ·skip
   refine sr (wm Z (wm Z (gp Z (fun hG => QV.fieldAddr fd59_2 Z Z) (gp Z (fun hG => QV.loadAgg ag57 Z Z hG (fun w hw => (Own.cellsBlk 2 Z w hw).sub 3 2 Z)) (gp Z (fun hG => QV.loadAgg ag57 Z Z Z (Own.cellsBlk 1 Z)) (gp Z (fun hG => QV.eqlF eq57 (ns := [((ele l.body k_).b).st, ((ele l.body k_).b).bk]) (ms := [0, 0]) Z hG Z hG Z Z) (wq Z (QV.pickAnd Z Z Z (fun h => h)) (wa Z (nt (WC.ret (kr (tr ?_))))))))))))
   obtain rfl := (eq_of_some hm39).symm
   exact WQ.ret1 Z Z fun w hw => kg hw
  refine sk (WQ.block (WQ.then (sr (wm Z (wm Z (gp Z (fun hG => QV.fieldAddr fd59_0 Z Z) (gp Z (fun hG => QV.load pl3 Z hG (Own.cell 2 Z Z)) (gp Z (fun hG => QV.subW Z hG Z Z) ?_))))))))
  obtain ⟨x41, hx42, hm43⟩ := bdG_some hm40; clear hm40
  refine gp Z (fun hG => QV.call en102 (EvAll.cons Z hG (ec Z (ec Z eN))) (fun w hw => have h := loop_in_w w (hx42 hG) ; h)) (wq Z (QV.pickAnd Z Z Z (fun h => h)) (wa Z (nt (WC.ret ?_))))
  obtain rfl := (eq_of_some hm43).symm
  exact WQ.ret1 Z Z fun w hw => kg hw
 rintro x49_1 m44 hI45
 obtain ⟨m46, s47, rfl, hm48, hn49⟩ := iter_step hI45; clear hI45; unfold loop_stmt_L0 at hm48
 refine sr (wq Z (QV.lss Z Z Z Z) (nt (WC.seq ?_)))
 refine wc Z hm48 (fun h50 hm51 => ?_) (fun h50 hm65 => ?_) <;> clear hm48
 ·skip
  refine sk (WQ.then (WC.seq (WC.block (sr ?_))))
  obtain ⟨c52, hm53⟩ := cs hm51; clear hm51
  obtain ⟨p54, hp55⟩ := hF20.lenMap.ix (sz := 2) ln_len c52
  refine wq Z (QV.indexSlice sl106 Z Z Z Z hp55) (wq Z (QV.loadAgg ag57 Z Z Z (fun w hw => ((Own.karr 0 Z hk hF20) w hw).ele hp55 c52)) (WL.effect Z ?_))
  refine (EV.alloc (by decide) ze57 (fun b56 => ?_))
  refine WL.effect Z ?_
  refine (EV.store 0 Z Z Z Z Z Z (vs := [i_ ((ele x17 x49_1).st), i_ ((ele x17 x49_1).bk)]) (show Value.cells _ = List.toArray _ from Z) sz57 (nl Z) (oc Z (oc Z one_nil)) ?_)
  refine ns (wq Z (QV.loadAgg ag49 Z Z Z (Own.cellsBlk 4 Z)) (wm Z (wq Z (QV.loadAgg ag57 Z Z Z (Own.cellsBlk 0 Z)) ?_)))
  obtain ⟨x57, hx58, hm59⟩ := bd_some hm53; clear hm53
  refine wq Z (QV.call en123 (ec Z (ec Z (ec Z eN))) (fun w hw => have h := loop_ref_w w hx58 ((Own.karr 1 Z hk (h_l_logs.le hle20)) w hw) ((Own.karr 1 Z hk (h_l_body.le hle20)) w hw) ((Own.karr 1 Z hk (h_l_outs.le hle20)) w hw); h)) (wq Z (QV.not Z Z) (nt ?_))
  refine wc Z hm59 (fun h60 hm61 => ?_) (fun h60 hm62 => ?_) <;> clear hm59
  ·skip
   refine sr (wa Z (nt (WC.ret (kr (tr (tr (kr (tr (tr ?_)))))))))
   obtain rfl := up_ret hm61 hn49
   obtain rfl := (eq_of_some hm23).symm
   exact WQ.ret1 Z Z fun w hw => kg hw
  refine sk (WQ.block (WQ.then (WC.region ?_)))
  obtain ⟨c63, hm64⟩ := cs hm62; clear hm62
  refine wq Z (QV.add Z Z Z Z c63) (wm Z (WL.nil ?_))
  exact WQ.again1 (x49_1 + 1) m46 (up_next hm64 hn49) (Nat.lt_succ_self _) ⟨Z, Z, Z, Z, Z, Z, Z, Z, Z, trivial⟩ (pk [1, 2, 3, 4])
 refine WC.exit (te (te (WQ.block_exit ?_)))
 exact WQ.out1 x49_1 (up_brk hm65 hn49) ⟨Z, Z, Z, Z, Z, Z, Z, Z, Z, trivial⟩ (pk [0, 1, 2, 3])
theorem loop_May_w {v_l_logs v_l_body v_l_outs : Value} {l : Lp} {r : Bool} (w : World) (hm : loop_May_m l = some r) (h_l_logs : Arr w v_l_logs 1 (l.logs.map icell)) (h_l_body : Arr w v_l_body 9 (l.body.map Stm.cells)) (h_l_outs : Arr w v_l_outs 1 (l.outs.map icell)) : Calls Try.prog 61 #[.agg #[v_l_logs, v_l_body, v_l_outs]] w (fun e w' => e = .returned (.bool r) ∧ Grow w w') := by
 unfold loop_May_m at hm
 have hk := Base.rfl (w := w)
 refine calls_of_WC (n := 64) (args := [.agg #[v_l_logs, v_l_body, v_l_outs]]) Try.func61 Z Z (nl Z) ?_ (Own.startK hk (Own.start w))
 refine sr (WL.effect Z ?_)
 refine (EV.boxAgg (by decide) Z Z (fun b1 => ?_))
 refine wa Z (nt (WC.seq (sr (wf fd49_0 Z (wl pl30 Z (Own.cell 0 Z Z) (wq Z (QV.lenS Try.underlying30 Z Z h_l_logs.lenMap) (wm Z (nt ?_))))))))
 obtain ⟨o2, ho3, hm4⟩ := bd_some hm; clear hm; obtain ⟨n5, ho6⟩ := lp_some ho3
 refine WC.bloop1 (H2 := [blk b1 [v_l_logs, v_l_body, v_l_outs] 49, kn noM w.heap.size w w]) (τ := [u_ 1 _, u_ 10 _, u_ 11 _]) (fun (x12_1 : Int) => [(12, (true, i_ x12_1))]) (fun x12_1 => []) (fun x12_1 m => iter (loop_May_L0 l) m x12_1 = some o2) (fun x12_1 => o2 = .go x12_1) 0 n5 ho6 ⟨Z, Z, Z, Z, trivial⟩ (pk [0, 1]) ?_ ?_
 ·skip
  rintro x12_1 rfl
  refine WQ.then (sr (wa Z (nt (WC.seq (sr (wf fd49_2 Z (wl pl30 Z (Own.cell 0 Z Z) (wq Z (QV.lenS Try.underlying30 Z Z h_l_outs.lenMap) (wm Z (nt ?_))))))))))
  obtain ⟨o7, ho8, hm9⟩ := bd_some hm4; clear hm4; obtain ⟨n10, ho11⟩ := lp_some ho8
  refine WC.bloop2 (H2 := [blk b1 [v_l_logs, v_l_body, v_l_outs] 49, kn noM w.heap.size w w]) (τ := [u_ 1 _, u_ 21 _, u_ 22 _]) (fun (last5_2 : Int) (x23_2 : Int) => [(5, (true, i_ last5_2)), (23, (true, i_ x23_2))]) (fun last5_2 x23_2 => []) (fun last5_2 x23_2 m => iter (loop_May_L2 l) m (last5_2, x23_2) = some o7) (fun last5_2 x23_2 => o7 = .go (last5_2, x23_2)) (-1) 0 n10 ho11 ⟨Z, Z, Z, Z, Z, trivial⟩ (pk [0, 1]) ?_ ?_
  ·skip
   rintro last5_2 x23_2 rfl
   refine WQ.then (WC.seq (sr (wf fd49_1 Z (wl pl47 Z (Own.cell 0 Z Z) (wq Z (QV.lenS Try.underlying47 Z Z h_l_body.lenMap) (wm Z (nt ?_)))))))
   obtain ⟨o12, ho13, hm14⟩ := bd_some hm9; clear hm9; obtain ⟨n15, ho16⟩ := lp_some ho13
   refine WC.bloop1 (H2 := [blk b1 [v_l_logs, v_l_body, v_l_outs] 49, kn noM w.heap.size w w]) (τ := [u_ 1 _, u_ 39 _]) (fun (x40_3 : Int) => [(40, (true, i_ x40_3))]) (fun x40_3 => []) (fun x40_3 m => iter (loop_May_L4 l) m x40_3 = some o12) (fun x40_3 => o12 = .go x40_3) 0 n15 ho16 ⟨Z, Z, Z, trivial⟩ (pk [0, 1]) ?_ ?_
   ·skip
    rintro x40_3 rfl
    refine WQ.then (sr (wf fd49_0 Z (wl pl30 Z (Own.cell 0 Z Z) (wq Z (QV.lenS Try.underlying30 Z Z h_l_logs.lenMap) (wq Z (QV.leq Z Z Z Z) (wm Z (gp Z (fun hG => QV.fieldAddr fd49_1 Z Z) (gp Z (fun hG => QV.load pl47 Z hG (Own.cell 0 Z Z)) (gp Z (fun hG => QV.lenS Try.underlying47 Z hG h_l_body.lenMap) (gp Z (fun hG => QV.gtr Z hG Z Z) ?_))))))))))
    refine wq Z (QV.pickAnd Z Z Z (fun h => h)) (wa Z (nt (WC.ret ?_)))
    obtain rfl := (eq_of_some hm14).symm
    exact WQ.ret1 Z Z fun w hw => kg hw
   rintro x40_3 m17 hI18
   obtain ⟨m19, s20, rfl, hm21, hn22⟩ := iter_step hI18; clear hI18; unfold loop_May_L4 at hm21
   refine sr (wq Z (QV.lss Z Z Z Z) (nt (WC.seq ?_)))
   refine wc Z hm21 (fun h23 hm24 => ?_) (fun h23 hm33 => ?_) <;> clear hm21
   ·skip
    refine sk (WQ.then (WC.seq (WC.block (sr (wm Z (wa Z (ns (wf fd49_1 Z (wl pl47 Z (Own.cell 0 Z Z) (wq Z (QV.lenS Try.underlying47 Z Z h_l_body.lenMap) (wq Z (QV.gtr Z Z Z Z) (wm Z (gn Z (fun hG => QV.loadAgg ag49 Z Z Z (Own.cellsBlk 0 Z)) ?_)))))))))))))
    refine gn Z (fun hG => QV.move Z Z) ?_
    obtain ⟨x25, hx26, hm27⟩ := bdG_some hm24; clear hm24
    refine gn Z (fun hG => QV.call en103 (EvAll.cons Z hG (EvAll.cons Z hG eN)) (fun w hw => have h := loop_stmt_w w (hx26 hG) ((Own.karr 1 Z hk h_l_logs) w hw) ((Own.karr 1 Z hk h_l_body) w hw) ((Own.karr 1 Z hk h_l_outs) w hw); h)) (gn Z (fun hG => QV.not Z hG) (wq Z (QV.pickOr Z Z Z (fun h => notF h)) (nt ?_)))
    refine wc Z hm27 (fun h28 hm29 => ?_) (fun h28 hm30 => ?_) <;> clear hm27
    ·skip
     refine sr (wa Z (nt (WC.ret (kr (tr (tr (kr (tr (tr ?_)))))))))
     obtain rfl := up_ret hm29 hn22
     obtain rfl := (eq_of_some hm14).symm
     exact WQ.ret1 Z Z fun w hw => kg hw
    refine sk (WQ.block (WQ.then (WC.region ?_)))
    obtain ⟨c31, hm32⟩ := cs hm30; clear hm30
    refine wq Z (QV.add Z Z Z Z c31) (wm Z (WL.nil ?_))
    exact WQ.again1 (x40_3 + 1) m19 (up_next hm32 hn22) (Nat.lt_succ_self _) ⟨Z, Z, Z, trivial⟩ (pk [0, 1])
   refine WC.exit (te (te (WQ.block_exit ?_)))
   exact WQ.out1 x40_3 (up_brk hm33 hn22) ⟨Z, Z, Z, trivial⟩ (pk [0, 1])
  rintro last5_2 x23_2 m34 hI35
  obtain ⟨m36, s37, rfl, hm38, hn39⟩ := iter_step hI35; clear hI35; unfold loop_May_L2 at hm38; simp only at hm38
  refine sr (wq Z (QV.lss Z Z Z Z) (nt (WC.seq ?_)))
  refine wc Z hm38 (fun h40 hm41 => ?_) (fun h40 hm56 => ?_) <;> clear hm38
  ·skip
   refine sk (WQ.then (WC.seq (WC.block (sr ?_))))
   obtain ⟨c42, hm43⟩ := cs hm41; clear hm41
   obtain ⟨p44, hp45⟩ := h_l_outs.lenMap.ix (sz := 1) ln_len c42
   refine wq Z (QV.indexSlice sl30 Z Z Z Z hp45) (wl pl3 Z (fun w hw => CellsAt.one 0 (((Own.karr 1 Z hk h_l_outs) w hw).ele hp45 c42) Z) (wa Z (nt (WC.seq (sr (wm Z (wm Z ?_)))))))
   obtain ⟨c46, hm47⟩ := cs hm43; clear hm43
   refine wq Z (QV.add Z Z Z Z c46) (wf fd49_1 Z (wl pl47 Z (Own.cell 0 Z Z) (wq Z (QV.lenS Try.underlying47 Z Z h_l_body.lenMap) ?_)))
   obtain ⟨x48, hx49, hm50⟩ := bd_some hm47; clear hm47
   refine wq Z (QV.call en102 (ec Z (ec Z (ec Z eN))) (fun w hw => have h := loop_in_w w hx49 ; h)) (wq Z (QV.not Z Z) (nt ?_))
   refine wc Z hm50 (fun h51 hm52 => ?_) (fun h51 hm53 => ?_) <;> clear hm50
   ·skip
    refine sr (wa Z (nt (WC.ret (tr (kr (tr (tr (kr (tr (tr ?_))))))))))
    obtain rfl := up_ret hm52 hn39
    obtain rfl := (eq_of_some hm9).symm
    exact WQ.ret1 Z Z fun w hw => kg hw
   refine sk (WQ.then (WC.region (wm Z (wa Z (WL.nil (WQ.block (WQ.then (WC.region ?_))))))))
   obtain ⟨c54, hm55⟩ := cs hm53; clear hm53
   refine wq Z (QV.add Z Z Z Z c54) (wm Z (WL.nil ?_))
   exact WQ.again2 (ele l.outs x23_2) (x23_2 + 1) m36 (up_next hm55 hn39) (Nat.lt_succ_self _) ⟨Z, Z, Z, Z, Z, trivial⟩ (pk [0, 1])
  refine WC.exit (te (te (WQ.block_exit ?_)))
  exact WQ.out2 last5_2 x23_2 (up_brk hm56 hn39) ⟨Z, Z, Z, Z, Z, trivial⟩ (pk [0, 1])
 rintro x12_1 m57 hI58
 obtain ⟨m59, s60, rfl, hm61, hn62⟩ := iter_step hI58; clear hI58; unfold loop_May_L0 at hm61
 refine sr (wq Z (QV.lss Z Z Z Z) (nt (WC.seq ?_)))
 refine wc Z hm61 (fun h63 hm64 => ?_) (fun h63 hm77 => ?_) <;> clear hm61
 ·skip
  refine sk (WQ.then (WC.seq (WC.block (sr ?_))))
  obtain ⟨c65, hm66⟩ := cs hm64; clear hm64
  obtain ⟨p67, hp68⟩ := h_l_logs.lenMap.ix (sz := 1) ln_len c65
  refine wq Z (QV.indexSlice sl30 Z Z Z Z hp68) (wl pl3 Z (fun w hw => CellsAt.one 0 (((Own.karr 1 Z hk h_l_logs) w hw).ele hp68 c65) Z) (wa Z (ns (wm Z ?_))))
  obtain ⟨x69, hx70, hm71⟩ := bd_some hm66; clear hm66
  refine wq Z (QV.call en102 (ec Z (ec Z (ec Z eN))) (fun w hw => have h := loop_in_w w hx70 ; h)) (wq Z (QV.not Z Z) (nt ?_))
  refine wc Z hm71 (fun h72 hm73 => ?_) (fun h72 hm74 => ?_) <;> clear hm71
  ·skip
   refine sr (wa Z (nt (WC.ret (kr (tr (tr (kr (tr (tr ?_)))))))))
   obtain rfl := up_ret hm73 hn62
   obtain rfl := (eq_of_some hm4).symm
   exact WQ.ret1 Z Z fun w hw => kg hw
  refine sk (WQ.block (WQ.then (WC.region ?_)))
  obtain ⟨c75, hm76⟩ := cs hm74; clear hm74
  refine wq Z (QV.add Z Z Z Z c75) (wm Z (WL.nil ?_))
  exact WQ.again1 (x12_1 + 1) m59 (up_next hm76 hn62) (Nat.lt_succ_self _) ⟨Z, Z, Z, Z, trivial⟩ (pk [0, 1])
 refine WC.exit (te (te (WQ.block_exit ?_)))
 exact WQ.out1 x12_1 (up_brk hm77 hn62) ⟨Z, Z, Z, Z, trivial⟩ (pk [0, 1])
theorem R2_Within_w {n_ least most : Int} {r : Bool} (w : World) (hm : R2_Within_m n_ least most = some r)  : Calls Try.prog 50 #[.int .i64 n_, .int .i64 least, .int .i64 most] w (fun e w' => e = .returned (.bool r) ∧ Grow w w') := by
 unfold R2_Within_m at hm
 have hk := Base.rfl (w := w)
 refine calls_of_WC (n := 15) (args := [i_ n_, i_ least, i_ most]) Try.func50 Z Z (nl Z) ?_ (Own.startK hk (Own.start w))
 refine sr (wa Z (ns (wm Z (wm Z (wq Z (QV.geq Z Z Z Z) (wm Z (gp Z (fun hG => QV.move Z Z) (gp Z (fun hG => QV.move Z Z) (gp Z (fun hG => QV.leq Z hG Z hG) ?_)))))))))
 refine wq Z (QV.pickAnd Z Z Z (fun h => h)) (wa Z (nt (WC.ret ?_)))
 obtain rfl := (eq_of_some hm).symm
 exact WQ.ret1 Z Z fun w hw => kg hw
theorem R2_Uses_w {s : Stm} {r : List Rf} {K0 : World} (hm : R2_Uses_m s = some r)  (M : Nat → Prop) (w : World) (hk : Base M K0 w) (hw0 : Own M w [] w) : Calls Try.prog 74 #[.agg #[.int .i64 s.op, .int .i64 s.a.st, .int .i64 s.a.bk, .int .i64 s.b.st, .int .i64 s.b.bk, .int .i64 s.ar, .int .i64 s.sp, .int .i64 s.pl, .int .i64 s.n]] w (fun e w' => ∃ X : Value × World, e = .returned (X.1) ∧ Own M w (kn M w.heap.size K0 X.2 :: []) w' ∧ Arr X.2 X.1 2 (r.map Rf.cells)) := by
 unfold R2_Uses_m at hm
 refine calls_of_WC (n := 17) (args := [.agg #[i_ s.op, i_ s.a.st, i_ s.a.bk, i_ s.b.st, i_ s.b.bk, i_ s.ar, i_ s.sp, i_ s.pl, i_ s.n]]) Try.func74 Z Z (nl Z) ?_ (Own.startK hk hw0)
 refine sr (WL.effect Z ?_)
 refine (EV.boxAgg (by decide) Z Z (fun b1 => ?_))
 refine wa Z (nt (WC.seq (sr (wf fd59_0 Z (wl pl3 Z (Own.cell 0 Z Z) (wq Z (QV.eql Z Z Z Z) (nt ?_)))))))
 refine wc Z hm (fun h2 hm3 => ?_) (fun h2 hm6 => ?_) <;> clear hm
 ·skip
  refine sr (wf fd59_1 Z (wq Z (QV.loadAgg ag57 Z Z Z (fun w hw => (Own.cellsBlk 0 Z w hw).sub 1 2 Z)) (WL.effect Z ?_)))
  refine (EV.buildSlice (by decide) sz_106 (by decide) (by decide) (ps := [(0, .tmp 7)]) (cells := [i_ s.a.st, i_ s.a.bk]) (ec Z eN) (by kernel_rfl) (fun b4 => ?_))
  refine wa Z (nt (WC.ret (tr ?_)))
  obtain rfl := (eq_of_some hm3).symm
  refine WK.of (fun w hw => hw.blkVec Rf.cells ([s.a] : List Rf) Z Rf.cells_len (nl Z)) ?_
  refine WK.of (C' := Own M w [kn M w.heap.size K0 K0, vec (blkSlice b4 1 1) 57 2 (List.map Rf.cells [s.a]), blk b1 s.cells 59]) (pk [2, 0, 1]) ?_
  refine WK.freeze hk (fun k5 hle5 hr5 => ?_)
  have hA5 := vec_arr hr5
  refine WQ.ret1 Z Z (fun w hw => ?_)
  exact ⟨((blkSlice b4 1 1), k5), Z, hw.pick [0] (by decide), hA5⟩
 refine sk (WQ.then (WC.seq (sr (wf fd59_0 Z (wl pl3 Z (Own.cell 0 Z Z) (wq Z (QV.gtr Z Z Z Z) (nt ?_)))))))
 refine wc Z hm6 (fun h7 hm8 => ?_) (fun h7 hm11 => ?_) <;> clear hm6
 ·skip
  refine sr (wf fd59_1 Z (wq Z (QV.loadAgg ag57 Z Z Z (fun w hw => (Own.cellsBlk 0 Z w hw).sub 1 2 Z)) (wf fd59_2 Z (wq Z (QV.loadAgg ag57 Z Z Z (fun w hw => (Own.cellsBlk 0 Z w hw).sub 3 2 Z)) (WL.effect Z ?_)))))
  refine (EV.buildSlice (by decide) sz_106 (by decide) (by decide) (ps := [(0, .tmp 13), (1, .tmp 15)]) (cells := [i_ s.a.st, i_ s.a.bk, i_ s.b.st, i_ s.b.bk]) (ec Z (ec Z eN)) (by kernel_rfl) (fun b9 => ?_))
  refine wa Z (nt (WC.ret (tr ?_)))
  obtain rfl := (eq_of_some hm8).symm
  refine WK.of (fun w hw => hw.blkVec Rf.cells ([s.a, s.b] : List Rf) Z Rf.cells_len (nl Z)) ?_
  refine WK.of (C' := Own M w [kn M w.heap.size K0 K0, vec (blkSlice b9 2 2) 57 2 (List.map Rf.cells [s.a, s.b]), blk b1 s.cells 59]) (pk [2, 0, 1]) ?_
  refine WK.freeze hk (fun k10 hle10 hr10 => ?_)
  have hA10 := vec_arr hr10
  refine WQ.ret1 Z Z (fun w hw => ?_)
  exact ⟨((blkSlice b9 2 2), k10), Z, hw.pick [0] (by decide), hA10⟩
 refine sk (WQ.then (sr (wa Z (nt (WC.ret ?_)))))
 obtain rfl := (eq_of_some hm11).symm
 refine WQ.ret1 Z Z (fun w hw => ?_)
 exact ⟨(.slice none 0 0, K0), Z, hw.pick [1] (by decide), Arr.nil⟩
theorem R2_stmt_w {v_l_logs v_l_body v_l_outs : Value} {l : Lp} {k_ : Int} {r : Bool} (w : World) (hm : R2_stmt_m l k_ = some r) (h_l_logs : Arr w v_l_logs 1 (l.logs.map icell)) (h_l_body : Arr w v_l_body 9 (l.body.map Stm.cells)) (h_l_outs : Arr w v_l_outs 1 (l.outs.map icell)) : Calls Try.prog 109 #[.agg #[v_l_logs, v_l_body, v_l_outs], .int .i64 k_] w (fun e w' => e = .returned (.bool r) ∧ Grow w w') := by
 unfold R2_stmt_m at hm
 have hk := Base.rfl (w := w)
 refine calls_of_WC (n := 142) (args := [.agg #[v_l_logs, v_l_body, v_l_outs], i_ k_]) Try.func109 Z Z (nl Z) ?_ (Own.startK hk (Own.start w))
 refine sr (WL.effect Z ?_)
 refine (EV.boxAgg (by decide) Z Z (fun b1 => ?_))
 refine wa Z (ns (wf fd49_1 Z (wl pl47 Z (Own.cell 0 Z Z) (wm Z ?_))))
 obtain ⟨c2, hm3⟩ := cs hm; clear hm
 obtain ⟨p4, hp5⟩ := h_l_body.lenMap.ix (sz := 9) ln_len c2
 refine wq Z (QV.indexSlice sl47 Z Z Z Z hp5) (wq Z (QV.loadAgg ag59 Z Z Z (fun w hw => ((Own.karr 1 Z hk h_l_body) w hw).ele hp5 c2)) (WL.effect Z ?_))
 refine (EV.alloc (by decide) ze59 (fun b6 => ?_))
 refine WL.effect Z ?_
 refine (EV.store 0 Z Z Z Z Z Z (vs := (Stm.cells (ele l.body k_))) (show Value.cells _ = List.toArray _ from Z) sz59 (nl Z) (oc Z (oc Z (oc Z (oc Z (oc Z (oc Z (oc Z (oc Z (oc Z one_nil))))))))) ?_)
 refine ns (wq Z (QV.loadAgg ag59 Z Z Z (Own.cellsBlk 0 Z)) (WL.effect Z ?_))
 obtain ⟨x7, hx8, hm9⟩ := bd_some hm3; clear hm3
 refine EV.of (C' := Own noM w [kn noM w.heap.size w w, blk b6 (Stm.cells (ele l.body k_)) 59, blk b1 [v_l_logs, v_l_body, v_l_outs] 49]) (pk [2, 0, 1]) ?_
 refine (EV.callR (X := Value × World) (R := []) (fun X => X.1) (fun X => []) (fun X => X.2) (fun X => Arr X.2 X.1 2 (x7.map Rf.cells)) hk (fun _ h => by cases h; decide) en74 (ec Z eN) (fun M w h1 h2 => have h := R2_Uses_w hx8  M w h1 h2; h) (fun X10 hF10 hle10 => ?_))
 refine wa Z (nt (WC.seq (sr (wa Z (nt ?_)))))
 obtain ⟨o11, ho12, hm13⟩ := bd_some hm9; clear hm9; obtain ⟨n14, ho15⟩ := lp_some ho12
 refine WC.bloop1 (H2 := [kn noM w.heap.size w X10.2, blk b6 (Stm.cells (ele l.body k_)) 59, blk b1 [v_l_logs, v_l_body, v_l_outs] 49]) (τ := [u_ 1 _, u_ 2 _, u_ 5 _, u_ 6 _]) (fun (i7_1 : Int) => [(7, (true, i_ i7_1))]) (fun i7_1 => []) (fun i7_1 m => iter (R2_stmt_L0 l k_ x7) m i7_1 = some o11) (fun i7_1 => o11 = .go i7_1) 0 n14 ho15 ⟨Z, Z, Z, Z, Z, trivial⟩ (pk [0, 1, 2]) ?_ ?_
 ·skip
  rintro i7_1 rfl
  refine WQ.then (WC.seq (sr (wm Z (wq Z (QV.lenS Try.underlying106 Z Z hF10.lenMap) (wq Z (QV.lss Z Z Z Z) (wm Z (gp Z (fun hG => QV.fieldAddr fd59_2 Z Z) (gp Z (fun hG => QV.fieldAddr fd57_0 Z hG) (gp Z (fun hG => QV.load pl3 Z hG (Own.cell 1 Z Z)) (gp Z (fun hG => QV.neq Z hG Z Z) (gp Z (fun hG => QV.move Z hG) ?_)))))))))))
  refine gnC Z (fun hG => QV.fieldAddr fd59_2 Z Z) (gnC Z (fun hG => QV.fieldAddr fd57_1 Z hG) (gnC Z (fun hG => QV.load pl3 Z hG (Own.cell 1 Z Z)) (gnC Z (fun hG => QV.neq Z hG Z Z) (gp Z (fun hG => QV.pickOr Z hG Z (fun h => andN hG h)) (wq Z (QV.pickAnd Z Z Z (fun h => h)) (wm Z (gn Z (fun hG => QV.move Z Z) (gn Z (fun hG => QV.lenS Try.underlying106 Z hG hF10.lenMap) (gn Z (fun hG => QV.lss Z hG Z Z) ?_)))))))))
  refine gn Z (fun hG => QV.move Z hG) (gpC Z (fun hG => QV.fieldAddr fd59_1 Z Z) (gpC Z (fun hG => QV.fieldAddr fd57_0 Z hG) (gpC Z (fun hG => QV.load pl3 Z hG (Own.cell 1 Z Z)) (gpC Z (fun hG => QV.neq Z hG Z Z) (gpC Z (fun hG => QV.move Z hG) (gnC Z (fun hG => QV.fieldAddr fd59_1 Z Z) (gnC Z (fun hG => QV.fieldAddr fd57_1 Z hG) (gnC Z (fun hG => QV.load pl3 Z hG (Own.cell 1 Z Z)) (gnC Z (fun hG => QV.neq Z hG Z Z) ?_)))))))))
  refine gpC Z (fun hG => QV.pickOr Z hG Z (fun h => andN hG h)) (gn Z (fun hG => QV.pickAnd Z hG Z (fun h => andT hG h)) (wq Z (QV.pickOr Z Z Z (fun h => notF h)) (nt ?_)))
  refine wc Z hm13 (fun h16 hm17 => ?_) (fun h16 hm18 => ?_) <;> clear hm13
  ·skip
   refine sr (wa Z (nt (WC.ret (tr ?_))))
   obtain rfl := (eq_of_some hm17).symm
   exact WQ.ret1 Z Z fun w hw => kg hw
  refine sk (WQ.then (WC.seq (sr (wf fd59_0 Z (wl pl3 Z (Own.cell 1 Z Z) (wq Z (QV.neq Z Z Z Z) (wm Z (gp Z (fun hG => QV.fieldAddr fd59_6 Z Z) (gp Z (fun hG => QV.load pl2 Z hG (Own.cell 1 Z Z)) (gp Z (fun hG => QV.neq Z hG Z Z) (wq Z (QV.pickAnd Z Z Z (fun h => h)) (nt ?_))))))))))))
  refine wc Z hm18 (fun h19 hm20 => ?_) (fun h19 hm21 => ?_) <;> clear hm18
  ·skip
   refine sr (wa Z (nt (WC.ret (tr ?_))))
   obtain rfl := (eq_of_some hm20).symm
   exact WQ.ret1 Z Z fun w hw => kg hw
  refine sk (WQ.then (WC.seq (sr (wf fd59_0 Z (wl pl3 Z (Own.cell 1 Z Z) (wq Z (QV.eql Z Z Z Z) (wm Z (gn Z (fun hG => QV.fieldAddr fd59_0 Z Z) (gn Z (fun hG => QV.load pl3 Z hG (Own.cell 1 Z Z)) (gn Z (fun hG => QV.eql Z hG Z Z) (wq Z (QV.pickOr Z Z Z (fun h => notF h)) (nt ?_))))))))))))
  refine wc Z hm21 (fun h22 hm23 => ?_) (fun h22 hm35 => ?_) <;> clear hm21
  ·skip
   refine sr (wf fd59_3 Z (wl pl3 Z (Own.cell 1 Z Z) (wf fd49_0 Z (wl pl30 Z (Own.cell 2 Z Z) (wq Z (QV.lenS Try.underlying30 Z Z (h_l_logs.le hle10).lenMap) ?_)))))
   obtain ⟨c24, hm25⟩ := cs hm23; clear hm23
   refine wq Z (QV.sub Z Z Z Z c24) ?_
   obtain ⟨x26, hx27, hm28⟩ := bd_some hm25; clear hm25
   refine wq Z (QV.call en50 (ec Z (ec Z (ec Z eN))) (fun w hw => have h := R2_Within_w w hx27 ; h)) (wm Z (gp Z (fun hG => QV.fieldAddr fd59_4 Z Z) (gp Z (fun hG => QV.load pl3 Z hG (Own.cell 1 Z Z)) ?_)))
   obtain ⟨x29, hx30, hm31⟩ := bdG_some hm28; clear hm28
   refine gp Z (fun hG => QV.call en50 (EvAll.cons Z hG (ec Z (ec Z eN))) (fun w hw => have h := R2_Within_w w (hx30 hG) ; h)) (wq Z (QV.pickAnd Z Z Z (fun h => h)) (wm Z (gp Z (fun hG => QV.fieldAddr fd59_5 Z Z) (gp Z (fun hG => QV.load pl3 Z hG (Own.cell 1 Z Z)) ?_))))
   obtain ⟨x32, hx33, hm34⟩ := bdG_some hm31; clear hm31
   refine gp Z (fun hG => QV.call en50 (EvAll.cons Z hG (ec Z (ec Z eN))) (fun w hw => have h := R2_Within_w w (hx33 hG) ; h)) (wq Z (QV.pickAnd Z Z Z (fun h => h)) (wa Z (nt (WC.ret (tr ?_)))))
   obtain rfl := (eq_of_some hm34).symm
   exact WQ.ret1 Z Z fun w hw => kg hw
  refine sk (WQ.then (WC.seq (sr (wf fd59_3 Z (wl pl3 Z (Own.cell 1 Z Z) (wq Z (QV.neq Z Z Z Z) (wm Z (gn Z (fun hG => QV.fieldAddr fd59_4 Z Z) (gn Z (fun hG => QV.load pl3 Z hG (Own.cell 1 Z Z)) (gn Z (fun hG => QV.neq Z hG Z Z) (wq Z (QV.pickOr Z Z Z (fun h => notF h)) (wm Z ?_))))))))))))
  refine gn Z (fun hG => QV.fieldAddr fd59_5 Z Z) (gn Z (fun hG => QV.load pl3 Z hG (Own.cell 1 Z Z)) (gn Z (fun hG => QV.neq Z hG Z Z) (wq Z (QV.pickOr Z Z Z (fun h => notF h)) (nt ?_))))
  refine wc Z hm35 (fun h36 hm37 => ?_) (fun h36 hm38 => ?_) <;> clear hm35
  ·skip
   refine sr (wa Z (nt (WC.ret (tr ?_))))
   obtain rfl := (eq_of_some hm37).symm
   exact WQ.ret1 Z Z fun w hw => kg hw
  refine sk (WQ.then (sr (wf fd59_0 Z (wl pl3 Z (Own.cell 1 Z Z) (wq Z (QV.eql Z Z Z Z) (wm Z (gn Z (fun hG => QV.fieldAddr fd59_0 Z Z) (gn Z (fun hG => QV.load pl3 Z hG (Own.cell 1 Z Z)) (gn Z (fun hG => QV.eql Z hG Z Z) (wq Z (QV.pickOr Z Z Z (fun h => notF h)) (wm Z ?_)))))))))))
  refine gn Z (fun hG => QV.fieldAddr fd59_0 Z Z) (gn Z (fun hG => QV.load pl3 Z hG (Own.cell 1 Z Z)) ?_)
  obtain ⟨x39, hx40, hm41⟩ := bdG_some hm38; clear hm38
  refine gn Z (fun hG => QV.call en50 (EvAll.cons Z hG (ec Z (ec Z eN))) (fun w hw => have h := R2_Within_w w (hx40 hG) ; h)) (wq Z (QV.pickOr Z Z Z (fun h => notF h)) (wa Z (nt (WC.ret ?_))))
  obtain rfl := (eq_of_some hm41).symm
  exact WQ.ret1 Z Z fun w hw => kg hw
 rintro i7_1 m42 hI43
 obtain ⟨m44, s45, rfl, hm46, hn47⟩ := iter_step hI43; clear hI43; unfold R2_stmt_L0 at hm46
 refine WC.seq (sr (wm Z (wm Z (wq Z (QV.lenS Try.underlying106 Z Z hF10.lenMap) (wq Z (QV.lss Z Z Z Z) (nt ?_))))))
 refine wc Z hm46 (fun h48 hm49 => ?_) (fun h48 hm99 => ?_) <;> clear hm46
 ·skip
  refine sk (WQ.then (WC.seq (WC.block (sr (wf fd49_1 Z (wl pl47 Z (Own.cell 2 Z Z) (wq Z (QV.lenS Try.underlying47 Z Z (h_l_body.le hle10).lenMap) ?_)))))))
  obtain ⟨c50, c52, hm53⟩ := cs2 hm49; clear hm49
  refine wq Z (QV.sub Z Z Z Z c50) (wa Z (nt (WC.seq (sr (wm Z (wm Z ?_))))))
  obtain ⟨p54, hp55⟩ := hF10.lenMap.ix (sz := 2) ln_len c52
  refine wq Z (QV.indexSlice sl106 Z Z Z Z hp55) (wf fd57_1 Z (wl pl3 Z (fun w hw => CellsAt.one 1 (((Own.karr 0 Z hk hF10) w hw).ele hp55 c52) Z) (wq Z (QV.eql Z Z Z Z) (nt ?_))))
  refine wc Z hm53 (fun h56 hm57 => ?_) (fun h56 hm79 => ?_) <;> clear hm53
  ·skip
   refine WC.region (wm Z ?_)
   obtain ⟨c58, c60, hm61⟩ := cs2 hm57; clear hm57
   refine wq Z (QV.sub Z Z Z Z c58) (wa Z (ns (wm Z (wm Z ?_))))
   obtain ⟨p62, hp63⟩ := hF10.lenMap.ix (sz := 2) ln_len c60
   refine wq Z (QV.indexSlice sl106 Z Z Z Z hp63) (wf fd57_1 Z (wl pl3 Z (fun w hw => CellsAt.one 1 (((Own.karr 0 Z hk hF10) w hw).ele hp63 c60) Z) ?_))
   obtain ⟨x64, hx65, hm66⟩ := bd_some hm61; clear hm61
   refine wq Z (QV.call en50 (ec Z (ec Z (ec Z eN))) (fun w hw => have h := R2_Within_w w hx65 ; h)) (wq Z (QV.not Z Z) (wm Z (gn Z (fun hG => QV.move Z Z) (gn Z (fun hG => QV.move Z Z) ?_))))
   obtain ⟨c67, hm68⟩ := cs hm66; clear hm66
   obtain ⟨p69, hp70⟩ := hF10.lenMap.ixG (sz := 2) ln_len c67
   refine gn Z (fun hG => QV.indexSlice sl106 Z hG Z hG (hp70 hG)) (gn Z (fun hG => QV.fieldAddr fd57_0 Z hG) (gn Z (fun hG => QV.load pl3 Z hG (fun w hw => CellsAt.one 0 (((Own.karr 0 Z hk hF10) w hw).ele (hp70 hG) (c67 hG)) Z)) (gn Z (fun hG => QV.move Z Z) ?_)))
   obtain ⟨x71, hx72, hm73⟩ := bdG_some hm68; clear hm68
   refine gn Z (fun hG => QV.call en50 (EvAll.cons Z hG (ec Z (EvAll.cons Z hG eN))) (fun w hw => have h := R2_Within_w w (hx72 hG) ; h)) (gn Z (fun hG => QV.not Z hG) (wq Z (QV.pickOr Z Z Z (fun h => notF h)) (nt ?_)))
   refine wc Z hm73 (fun h74 hm75 => ?_) (fun h74 hm76 => ?_) <;> clear hm73
   ·skip
    refine sr (wa Z (nt (WC.ret (kr (tr (tr (kr (tr (tr ?_)))))))))
    obtain rfl := up_ret hm75 hn47
    obtain rfl := (eq_of_some hm13).symm
    exact WQ.ret1 Z Z fun w hw => kg hw
   refine sk (WQ.block (WQ.then (WC.region (wm Z ?_))))
   obtain ⟨c77, hm78⟩ := cs hm76; clear hm76
   refine wq Z (QV.add Z Z Z Z c77) (wa Z (WL.nil ?_))
   exact WQ.again1 (i7_1 + 1) m44 (up_next hm78 hn47) (Nat.lt_succ_self _) ⟨Z, Z, Z, Z, Z, trivial⟩ (pk [0, 1, 2])
  refine sk (WQ.then (sr (wm Z (wm Z ?_))))
  obtain ⟨c80, hm81⟩ := cs hm79; clear hm79
  obtain ⟨p82, hp83⟩ := hF10.lenMap.ix (sz := 2) ln_len c80
  refine wq Z (QV.indexSlice sl106 Z Z Z Z hp83) (wf fd57_1 Z (wl pl3 Z (fun w hw => CellsAt.one 1 (((Own.karr 0 Z hk hF10) w hw).ele hp83 c80) Z) ?_))
  obtain ⟨x84, hx85, hm86⟩ := bd_some hm81; clear hm81
  refine wq Z (QV.call en50 (ec Z (ec Z (ec Z eN))) (fun w hw => have h := R2_Within_w w hx85 ; h)) (wq Z (QV.not Z Z) (wm Z (gn Z (fun hG => QV.move Z Z) (gn Z (fun hG => QV.move Z Z) ?_))))
  obtain ⟨c87, hm88⟩ := cs hm86; clear hm86
  obtain ⟨p89, hp90⟩ := hF10.lenMap.ixG (sz := 2) ln_len c87
  refine gn Z (fun hG => QV.indexSlice sl106 Z hG Z hG (hp90 hG)) (gn Z (fun hG => QV.fieldAddr fd57_0 Z hG) (gn Z (fun hG => QV.load pl3 Z hG (fun w hw => CellsAt.one 0 (((Own.karr 0 Z hk hF10) w hw).ele (hp90 hG) (c87 hG)) Z)) (gn Z (fun hG => QV.move Z Z) ?_)))
  obtain ⟨x91, hx92, hm93⟩ := bdG_some hm88; clear hm88
  refine gn Z (fun hG => QV.call en50 (EvAll.cons Z hG (ec Z (EvAll.cons Z hG eN))) (fun w hw => have h := R2_Within_w w (hx92 hG) ; h)) (gn Z (fun hG => QV.not Z hG) (wq Z (QV.pickOr Z Z Z (fun h => notF h)) (nt ?_)))
  refine wc Z hm93 (fun h94 hm95 => ?_) (fun h94 hm96 => ?_) <;> clear hm93
  ·skip
   refine sr (wa Z (nt (WC.ret (kr (tr (tr (kr (tr (tr ?_)))))))))
   obtain rfl := up_ret hm95 hn47
   obtain rfl := (eq_of_some hm13).symm
   exact WQ.ret1 Z Z fun w hw => kg hw
  refine sk (WQ.block (WQ.then (WC.region (wm Z ?_))))
  obtain ⟨c97, hm98⟩ := cs hm96; clear hm96
  refine wq Z (QV.add Z Z Z Z c97) (wa Z (WL.nil ?_))
  exact WQ.again1 (i7_1 + 1) m44 (up_next hm98 hn47) (Nat.lt_succ_self _) ⟨Z, Z, Z, Z, Z, trivial⟩ (pk [0, 1, 2])
 refine WC.exit (te (te (WQ.block_exit ?_)))
 exact WQ.out1 i7_1 (up_brk hm99 hn47) ⟨Z, Z, Z, Z, Z, trivial⟩ (pk [0, 1, 2])
theorem R2_May_w {v_l_logs v_l_body v_l_outs : Value} {l : Lp} {r : Bool} (w : World) (hm : R2_May_m l = some r) (h_l_logs : Arr w v_l_logs 1 (l.logs.map icell)) (h_l_body : Arr w v_l_body 9 (l.body.map Stm.cells)) (h_l_outs : Arr w v_l_outs 1 (l.outs.map icell)) : Calls Try.prog 68 #[.agg #[v_l_logs, v_l_body, v_l_outs]] w (fun e w' => e = .returned (.bool r) ∧ Grow w w') := by
 unfold R2_May_m at hm
 have hk := Base.rfl (w := w)
 refine calls_of_WC (n := 79) (args := [.agg #[v_l_logs, v_l_body, v_l_outs]]) Try.func68 Z Z (nl Z) ?_ (Own.startK hk (Own.start w))
 refine sr (WL.effect Z ?_)
 refine (EV.boxAgg (by decide) Z Z (fun b1 => ?_))
 refine wa Z (ns (wf fd49_1 Z (wl pl47 Z (Own.cell 0 Z Z) (wq Z (QV.lenS Try.underlying47 Z Z h_l_body.lenMap) (wa Z (nt (WC.seq (sr (wf fd49_0 Z (wl pl30 Z (Own.cell 0 Z Z) (wq Z (QV.lenS Try.underlying30 Z Z h_l_logs.lenMap) ?_)))))))))))
 refine wq Z (QV.gtr Z Z Z Z) (wm Z (gn Z (fun hG => QV.move Z Z) (gn Z (fun hG => QV.lss Z hG Z Z) (wq Z (QV.pickOr Z Z Z (fun h => notF h)) (wm Z (gn Z (fun hG => QV.move Z Z) (gn Z (fun hG => QV.gtr Z hG Z Z) (wq Z (QV.pickOr Z Z Z (fun h => notF h)) (nt ?_)))))))))
 refine wc Z hm (fun h2 hm3 => ?_) (fun h2 hm4 => ?_) <;> clear hm
 ·skip
  refine sr (wa Z (nt (WC.ret (tr ?_))))
  obtain rfl := (eq_of_some hm3).symm
  exact WQ.ret1 Z Z fun w hw => kg hw
 refine sk (WQ.then (WC.seq (sr (wa Z (nt ?_)))))
 obtain ⟨o5, ho6, hm7⟩ := bd_some hm4; clear hm4; obtain ⟨n8, ho9⟩ := lp_some ho6
 refine WC.bloop1 (H2 := [blk b1 [v_l_logs, v_l_body, v_l_outs] 49, kn noM w.heap.size w w]) (τ := [u_ 1 _, u_ 3 _]) (fun (i4_1 : Int) => [(4, (true, i_ i4_1))]) (fun i4_1 => []) (fun i4_1 m => iter (R2_May_L0 l) m i4_1 = some o5) (fun i4_1 => o5 = .go i4_1) 0 n8 ho9 ⟨Z, Z, Z, trivial⟩ (pk [0, 1]) ?_ ?_
 ·skip
  rintro i4_1 rfl
  refine WQ.then (WC.seq (sr (wa Z (nt ?_))))
  obtain ⟨o10, ho11, hm12⟩ := bd_some hm7; clear hm7; obtain ⟨n13, ho14⟩ := lp_some ho11
  refine WC.bloop1 (H2 := [blk b1 [v_l_logs, v_l_body, v_l_outs] 49, kn noM w.heap.size w w]) (τ := [u_ 1 _, u_ 3 _]) (fun (i5_2 : Int) => [(5, (true, i_ i5_2))]) (fun i5_2 => []) (fun i5_2 m => iter (R2_May_L2 l) m i5_2 = some o10) (fun i5_2 => o10 = .go i5_2) 0 n13 ho14 ⟨Z, Z, Z, trivial⟩ (pk [0, 1]) ?_ ?_
  ·skip
   rintro i5_2 rfl
   refine WQ.then (WC.seq (sr (wa Z (nt ?_))))
   obtain ⟨o15, ho16, hm17⟩ := bd_some hm12; clear hm12; obtain ⟨n18, ho19⟩ := lp_some ho16
   refine WC.bloop1 (H2 := [blk b1 [v_l_logs, v_l_body, v_l_outs] 49, kn noM w.heap.size w w]) (τ := [u_ 1 _, u_ 3 _]) (fun (k6_3 : Int) => [(6, (true, i_ k6_3))]) (fun k6_3 => []) (fun k6_3 m => iter (R2_May_L4 l) m k6_3 = some o15) (fun k6_3 => o15 = .go k6_3) 0 n18 ho19 ⟨Z, Z, Z, trivial⟩ (pk [0, 1]) ?_ ?_
   ·skip
    rintro k6_3 rfl
    refine WQ.then (sr (wa Z (nt (WC.ret ?_))))
    obtain rfl := (eq_of_some hm17).symm
    exact WQ.ret1 Z Z fun w hw => kg hw
   rintro k6_3 m20 hI21
   obtain ⟨m22, s23, rfl, hm24, hn25⟩ := iter_step hI21; clear hI21; unfold R2_May_L4 at hm24
   refine WC.seq (sr (wm Z (wm Z (wq Z (QV.lss Z Z Z Z) (nt ?_)))))
   refine wc Z hm24 (fun h26 hm27 => ?_) (fun h26 hm36 => ?_) <;> clear hm24
   ·skip
    refine sk (WQ.then (WC.seq (WC.block (sr (wq Z (QV.loadAgg ag49 Z Z Z (Own.cellsBlk 0 Z)) (wm Z ?_))))))
    obtain ⟨x28, hx29, hm30⟩ := bd_some hm27; clear hm27
    refine wq Z (QV.call en109 (ec Z (ec Z eN)) (fun w hw => have h := R2_stmt_w w hx29 ((Own.karr 1 Z hk h_l_logs) w hw) ((Own.karr 1 Z hk h_l_body) w hw) ((Own.karr 1 Z hk h_l_outs) w hw); h)) (wq Z (QV.not Z Z) (nt ?_))
    refine wc Z hm30 (fun h31 hm32 => ?_) (fun h31 hm33 => ?_) <;> clear hm30
    ·skip
     refine sr (wa Z (nt (WC.ret (kr (tr (tr (kr (tr (tr ?_)))))))))
     obtain rfl := up_ret hm32 hn25
     obtain rfl := (eq_of_some hm17).symm
     exact WQ.ret1 Z Z fun w hw => kg hw
    refine sk (WQ.block (WQ.then (WC.region (wm Z ?_))))
    obtain ⟨c34, hm35⟩ := cs hm33; clear hm33
    refine wq Z (QV.add Z Z Z Z c34) (wa Z (WL.nil ?_))
    exact WQ.again1 (k6_3 + 1) m22 (up_next hm35 hn25) (Nat.lt_succ_self _) ⟨Z, Z, Z, trivial⟩ (pk [0, 1])
   refine WC.exit (te (te (WQ.block_exit ?_)))
   exact WQ.out1 k6_3 (up_brk hm36 hn25) ⟨Z, Z, Z, trivial⟩ (pk [0, 1])
  rintro i5_2 m37 hI38
  obtain ⟨m39, s40, rfl, hm41, hn42⟩ := iter_step hI38; clear hI38; unfold R2_May_L2 at hm41
  refine WC.seq (sr (wm Z (wf fd49_2 Z (wl pl30 Z (Own.cell 0 Z Z) (wq Z (QV.lenS Try.underlying30 Z Z h_l_outs.lenMap) (wq Z (QV.lss Z Z Z Z) (nt ?_)))))))
  refine wc Z hm41 (fun h43 hm44 => ?_) (fun h43 hm69 => ?_) <;> clear hm41
  ·skip
   refine sk (WQ.then (WC.seq (WC.block (WC.seq (WC.dr (m := 27) (S := Own noM w [kn noM w.heap.size w w, blk b1 [v_l_logs, v_l_body, v_l_outs] 49]) (by kernel_rfl) (by kernel_rfl) (pk [1, 0]) (zf 0 fd49_2 Z Z (zl 1 pl30 Z Z (Own.cell 1 Z Z) (zm 2 Z Z ?_))))))))
   obtain ⟨c45, hm46⟩ := cs hm44; clear hm44
   obtain ⟨p47, hp48⟩ := h_l_outs.lenMap.ix (sz := 1) ln_len c45
   refine wz 3 Z Z (QV.indexSlice sl30 Z Z Z Z hp48) (zl 4 pl3 Z Z (fun w hw => CellsAt.one 0 (((Own.karr 0 Z hk h_l_outs) w hw).ele hp48 c45) Z) (zm 5 Z Z ?_))
   obtain ⟨c49, hm50⟩ := cs hm46; clear hm46
   refine wz 6 Z Z (QV.sub Z Z Z Z c49) ?_
   obtain ⟨x51, hx52, hm53⟩ := bd_some hm50; clear hm50
   refine wz 7 Z Z (QV.call en50 (ec Z (ec Z (ec Z eN))) (fun w hw => have h := R2_Within_w w hx52 ; h)) (wz 8 Z Z (QV.not Z Z) (zm 9 Z Z (zn 10 Z Z (fun hG => QV.move Z Z) (zn 11 Z Z (fun hG => QV.gtr Z hG Z Z) (zn 12 Z Z (fun hG => QV.move Z hG) ?_)))))
   refine WD.g 13 Z (by kernel_rfl) Z Z (GuardIs.posC Z Z) (fun hG => QV.fieldAddr fd49_2 Z Z) ?_
   refine WD.g 14 Z (by kernel_rfl) Z Z (GuardIs.posC Z Z) (fun hG => QV.load pl30 Z hG (Own.cell 1 Z Z)) ?_
   refine WD.g 15 Z (by kernel_rfl) Z Z (GuardIs.posC Z Z) (fun hG => QV.move Z Z) ?_
   obtain ⟨c54, hm55⟩ := cs hm53; clear hm53
   obtain ⟨p56, hp57⟩ := h_l_outs.lenMap.ixG (sz := 1) ln_len c54
   refine WD.g 16 Z (by kernel_rfl) Z Z (GuardIs.posC Z Z) (fun hG => QV.indexSlice sl30 Z hG Z hG (hp57 hG)) ?_
   refine WD.g 17 Z (by kernel_rfl) Z Z (GuardIs.posC Z Z) (fun hG => QV.load pl3 Z hG (fun w hw => CellsAt.one 0 (((Own.karr 0 Z hk h_l_outs) w hw).ele (hp57 hG) (c54 hG)) Z)) ?_
   refine WD.g 18 Z (by kernel_rfl) Z Z (GuardIs.posC Z Z) (fun hG => QV.fieldAddr fd49_2 Z Z) ?_
   refine WD.g 19 Z (by kernel_rfl) Z Z (GuardIs.posC Z Z) (fun hG => QV.load pl30 Z hG (Own.cell 1 Z Z)) ?_
   refine WD.g 20 Z (by kernel_rfl) Z Z (GuardIs.posC Z Z) (fun hG => QV.move Z Z) ?_
   obtain ⟨c58, c60, hm61⟩ := cs2 hm55; clear hm55
   refine WD.g 21 Z (by kernel_rfl) Z Z (GuardIs.posC Z Z) (fun hG => QV.sub Z hG Z Z (c58 hG)) ?_
   obtain ⟨p62, hp63⟩ := h_l_outs.lenMap.ixG (sz := 1) ln_len c60
   refine WD.g 22 Z (by kernel_rfl) Z Z (GuardIs.posC Z Z) (fun hG => QV.indexSlice sl30 Z hG Z hG (hp63 hG)) ?_
   refine WD.g 23 Z (by kernel_rfl) Z Z (GuardIs.posC Z Z) (fun hG => QV.load pl3 Z hG (fun w hw => CellsAt.one 0 (((Own.karr 0 Z hk h_l_outs) w hw).ele (hp63 hG) (c60 hG)) Z)) ?_
   refine WD.g 24 Z (by kernel_rfl) Z Z (GuardIs.posC Z Z) (fun hG => QV.leq Z hG Z hG) ?_
   refine zn 25 Z Z (fun hG => QV.pickAnd Z hG Z (fun h => andT hG h)) (wz 26 Z Z (QV.pickOr Z Z Z (fun h => notF h)) ?_)
   refine WD.e (by kernel_rfl) ?_
   refine WQ.then ?_
   refine wc Z hm61 (fun h64 hm65 => ?_) (fun h64 hm66 => ?_) <;> clear hm61
   ·skip
    refine sr (wa Z (nt (WC.ret (kr (tr (tr (kr (tr (tr ?_)))))))))
    obtain rfl := up_ret hm65 hn42
    obtain rfl := (eq_of_some hm12).symm
    exact WQ.ret1 Z Z fun w hw => kg hw
   refine sk (WQ.block (WQ.then (WC.region (wm Z ?_))))
   obtain ⟨c67, hm68⟩ := cs hm66; clear hm66
   refine wq Z (QV.add Z Z Z Z c67) (wa Z (WL.nil ?_))
   exact WQ.again1 (i5_2 + 1) m39 (up_next hm68 hn42) (Nat.lt_succ_self _) ⟨Z, Z, Z, trivial⟩ (pk [0, 1])
  refine WC.exit (te (te (WQ.block_exit ?_)))
  exact WQ.out1 i5_2 (up_brk hm69 hn42) ⟨Z, Z, Z, trivial⟩ (pk [0, 1])
 rintro i4_1 m70 hI71
 obtain ⟨m72, s73, rfl, hm74, hn75⟩ := iter_step hI71; clear hI71; unfold R2_May_L0 at hm74
 refine WC.seq (sr (wm Z (wf fd49_0 Z (wl pl30 Z (Own.cell 0 Z Z) (wq Z (QV.lenS Try.underlying30 Z Z h_l_logs.lenMap) (wq Z (QV.lss Z Z Z Z) (nt ?_)))))))
 refine wc Z hm74 (fun h76 hm77 => ?_) (fun h76 hm90 => ?_) <;> clear hm74
 ·skip
  refine sk (WQ.then (WC.seq (WC.block (sr (wf fd49_0 Z (wl pl30 Z (Own.cell 0 Z Z) (wm Z ?_)))))))
  obtain ⟨c78, hm79⟩ := cs hm77; clear hm77
  obtain ⟨p80, hp81⟩ := h_l_logs.lenMap.ix (sz := 1) ln_len c78
  refine wq Z (QV.indexSlice sl30 Z Z Z Z hp81) (wl pl3 Z (fun w hw => CellsAt.one 0 (((Own.karr 1 Z hk h_l_logs) w hw).ele hp81 c78) Z) ?_)
  obtain ⟨x82, hx83, hm84⟩ := bd_some hm79; clear hm79
  refine wq Z (QV.call en50 (ec Z (ec Z (ec Z eN))) (fun w hw => have h := R2_Within_w w hx83 ; h)) (wq Z (QV.not Z Z) (nt ?_))
  refine wc Z hm84 (fun h85 hm86 => ?_) (fun h85 hm87 => ?_) <;> clear hm84
  ·skip
   refine sr (wa Z (nt (WC.ret (kr (tr (tr (kr (tr (tr ?_)))))))))
   obtain rfl := up_ret hm86 hn75
   obtain rfl := (eq_of_some hm7).symm
   exact WQ.ret1 Z Z fun w hw => kg hw
  refine sk (WQ.block (WQ.then (WC.region (wm Z ?_))))
  obtain ⟨c88, hm89⟩ := cs hm87; clear hm87
  refine wq Z (QV.add Z Z Z Z c88) (wa Z (WL.nil ?_))
  exact WQ.again1 (i4_1 + 1) m72 (up_next hm89 hn75) (Nat.lt_succ_self _) ⟨Z, Z, Z, trivial⟩ (pk [0, 1])
 refine WC.exit (te (te (WQ.block_exit ?_)))
 exact WQ.out1 i4_1 (up_brk hm90 hn75) ⟨Z, Z, Z, trivial⟩ (pk [0, 1])
end Go.Proofs.Ytaimbkndebaaiab
end
section
namespace Go.Proofs.Ytaimbkndebaaiab
open Go.Rd
open TNum TLoop
namespace TStable
theorem ag148 : AggT Try.prog 148 3 := ⟨_, Try.underlying148, rfl, by kernel_rfl⟩
theorem en100 : Go.Rd.Enters Try.prog 100 := eT Try.func100
theorem en122 : Go.Rd.Enters Try.prog 122 := eT Try.func122
theorem en137 : Go.Rd.Enters Try.prog 137 := eT Try.func137
theorem en138 : Go.Rd.Enters Try.prog 138 := eT Try.func138
theorem en145 : Go.Rd.Enters Try.prog 145 := eT Try.func145
theorem en148 : Go.Rd.Enters Try.prog 148 := eT Try.func148
theorem fd148_0 : FieldT Try.prog 148 0 0 := fT 0 Try.underlying148
theorem sl95 : SliceT Try.prog 95 148 3 := ⟨Try.underlying95, by kernel_rfl⟩
theorem sz148 : SizeT Try.prog 148 3 := by unfold SizeT; kernel_rfl
end TStable
open TStable
theorem kernel_machine_land_c1_w {a b : Due} {r : Int} (w : World) (hm : kernel_machine_land_c1_m a b = some r)  : Calls Try.prog 100 #[.agg #[.int .i64 a.due, .int .i64 a.reg, .int .i64 a.v], .agg #[.int .i64 b.due, .int .i64 b.reg, .int .i64 b.v]] w (fun e w' => e = .returned (.int .i64 r) ∧ Grow w w') := by
 unfold kernel_machine_land_c1_m at hm
 have hk := Base.rfl (w := w)
 refine calls_of_WC (n := 10) (args := [.agg #[i_ a.due, i_ a.reg, i_ a.v], .agg #[i_ b.due, i_ b.reg, i_ b.v]]) Try.func100 Z Z (nl Z) ?_ (Own.startK hk (Own.start w))
 refine sr (WL.effect Z ?_)
 refine (EV.boxAgg (by decide) Z Z (fun b1 => ?_))
 refine WL.effect Z ?_
 refine (EV.boxAgg (by decide) Z Z (fun b2 => ?_))
 refine wa Z (ns (wf fd148_0 Z (wl pl3 Z (Own.cell 1 Z Z) (wf fd148_0 Z (wl pl3 Z (Own.cell 0 Z Z) ?_)))))
 obtain ⟨c3, hm4⟩ := cs hm; clear hm
 refine wq Z (QV.sub Z Z Z Z c3) (wa Z (nt (WC.ret ?_)))
 obtain rfl := (eq_of_some hm4).symm
 exact WQ.ret1 Z Z fun w hw => kg hw
theorem slices_swapRangeCmpFunc_kernel_result__w {v_data : Value} {data : List Due} {a b n_ : Int} {r : List Due} {K0 : World} (hm : slices_swapRangeCmpFunc_kernel_result__m data a b n_ = some r) (h_data : SliceLen v_data data.length) (M : Nat → Prop) (w : World) (hk : Base M K0 w) (hw0 : Own M w [ovec v_data 148 3 (List.map Due.cells data)] w) : Calls Try.prog 148 #[v_data, .int .i64 a, .int .i64 b, .int .i64 n_, .func (.func 100) #[] #[]] w (fun e w' => ∃ X : World, e = .returned (.tuple #[]) ∧ Own M w (kn M w.heap.size K0 X :: [ovec v_data 148 3 (List.map Due.cells r)]) w' ∧ SliceLen v_data (r).length) := by
 unfold slices_swapRangeCmpFunc_kernel_result__m at hm
 refine calls_of_WC (n := 38) (args := [v_data, i_ a, i_ b, i_ n_, .func (.func 100) #[] #[]]) Try.func148 Z Z (nl Z) ?_ (Own.startK hk hw0)
 refine sr (wa Z (nt ?_))
 obtain ⟨o1, ho2, hm3⟩ := bd_some hm; clear hm; obtain ⟨n4, ho5⟩ := lp_some ho2
 refine WC.bloop2 (H2 := [kn M w.heap.size K0 K0]) (τ := [u_ 0 _, u_ 1 _, u_ 2 _, u_ 3 _]) (fun (ows0_1 : List Due) (i10_1 : Int) => [(10, (true, i_ i10_1))]) (fun ows0_1 i10_1 => [ovec v_data 148 3 (List.map Due.cells ows0_1)]) (fun ows0_1 i10_1 m => iter (slices_swapRangeCmpFunc_kernel_result__L0 a b n_) m (ows0_1, i10_1) = some o1 ∧ SliceLen v_data ows0_1.length) (fun ows0_1 i10_1 => o1 = .go (ows0_1, i10_1) ∧ SliceLen v_data ows0_1.length) data 0 n4 ⟨ho5, h_data⟩ ⟨Z, Z, Z, Z, Z, trivial⟩ (pk [1, 0]) ?_ ?_
 ·skip
  rintro ows0_1 i10_1 ⟨rfl, hlows0_1⟩
  obtain rfl := (eq_of_some hm3).symm
  refine WQ.end0 Z (fun w hw => ?_)
  exact ⟨K0, Z, hw.pick [1, 0] (by decide), hlows0_1⟩
 rintro ows0_1 i10_1 m6 ⟨hI7, hlows0_1⟩
 obtain ⟨m8, s9, rfl, hm10, hn11⟩ := iter_step hI7; clear hI7; unfold slices_swapRangeCmpFunc_kernel_result__L0 at hm10; simp only at hm10
 refine WC.seq (sr (wm Z (wm Z (wq Z (QV.lss Z Z Z Z) (nt ?_)))))
 refine wc Z hm10 (fun h12 hm13 => ?_) (fun h12 hm42 => ?_) <;> clear hm10
 ·skip
  refine sk (WQ.then (WC.seq (WC.block (WC.drT (m := 24) (fun i => [4, 5, 6, 7].contains i) (by kernel_rfl) (by kernel_rfl) (by kernel_rfl) ?_))))
  refine WT.q 0 0 1 Z (by kernel_rfl) Z Z Z Z (QV.move Z Z) ?_
  refine WT.q 1 1 3 Z (by kernel_rfl) Z Z Z Z (QV.move Z Z) ?_
  refine WT.q 2 3 7 Z (by kernel_rfl) Z Z Z Z (QV.move Z Z) ?_
  obtain ⟨c14, c16, c18, c20, hm21⟩ := cs4 hm13; clear hm13
  refine WT.q 3 7 15 Z (by kernel_rfl) Z Z Z Z (QV.add Z Z Z Z c14) ?_
  refine WT.qp 4 15 31 Z (by kernel_rfl) Z Z Z (QV.move Z Z) ?_
  refine WT.qp 5 31 63 Z (by kernel_rfl) Z Z Z (QV.move Z Z) ?_
  refine WT.qp 6 63 127 Z (by kernel_rfl) Z Z Z (QV.move Z Z) ?_
  refine WT.qp 7 127 255 Z (by kernel_rfl) Z Z Z (QV.add Z Z Z Z c16) ?_
  refine WT.q 8 255 511 Z (by kernel_rfl) Z Z Z Z (QV.move Z Z) ?_
  refine WT.q 9 511 1023 Z (by kernel_rfl) Z Z Z Z (QV.move Z Z) ?_
  refine WT.q 10 1023 2047 Z (by kernel_rfl) Z Z Z Z (QV.move Z Z) ?_
  refine WT.q 11 2047 4095 Z (by kernel_rfl) Z Z Z Z (QV.add Z Z Z Z c18) ?_
  obtain ⟨p22, hp23⟩ := hlows0_1.ix (sz := 3) ln_len c20
  refine WT.q 12 4095 8191 Z (by kernel_rfl) Z Z Z Z (QV.indexSlice sl95 Z Z Z Z hp23) ?_
  refine WT.q 13 8191 16383 Z (by kernel_rfl) Z Z Z Z (QV.loadAgg ag148 Z Z Z (fun w hw => ((Own.ovecArr 0 Z) w hw).ele hp23 c20)) ?_
  refine WT.q 14 16383 32767 Z (by kernel_rfl) Z Z Z Z (QV.move Z Z) ?_
  refine WT.q 15 32767 65535 Z (by kernel_rfl) Z Z Z Z (QV.move Z Z) ?_
  refine WT.q 16 65535 131071 Z (by kernel_rfl) Z Z Z Z (QV.move Z Z) ?_
  obtain ⟨c24, c26, hm27⟩ := cs2 hm21; clear hm21
  refine WT.q 17 131071 262143 Z (by kernel_rfl) Z Z Z Z (QV.add Z Z Z Z c24) ?_
  obtain ⟨p28, hp29⟩ := hlows0_1.ix (sz := 3) ln_len c26
  refine WT.q 18 262143 524287 Z (by kernel_rfl) Z Z Z Z (QV.indexSlice sl95 Z Z Z Z hp29) ?_
  refine WT.q 19 524287 1048575 Z (by kernel_rfl) Z Z Z Z (QV.loadAgg ag148 Z Z Z (fun w hw => ((Own.ovecArr 0 Z) w hw).ele hp29 c26)) ?_
  obtain ⟨c30, hm31⟩ := cs hm27; clear hm27
  obtain ⟨p32, hp33⟩ := hlows0_1.ix (sz := 3) ln_len c30
  refine WT.q 20 1048575 2097151 Z (by kernel_rfl) Z Z Z Z (QV.indexSlice sl95 Z Z Z Z hp33) ?_
  have hl34 : SliceLen v_data (upd ows0_1 (a + i10_1) (ele ows0_1 (b + i10_1))).length := slen_upd hlows0_1
  refine WT.o (H' := [ovec v_data 148 3 (List.map Due.cells (upd ows0_1 (a + i10_1) (ele ows0_1 (b + i10_1)))), kn M w.heap.size K0 K0]) 21 2097151 4194303 Z (by kernel_rfl) Z (by kernel_rfl) ?_ ?_
  ·skip
   refine (EV.storeEO (enc := Due.cells) (off := 0) (vs := [i_ ((ele ows0_1 (b + i10_1)).due), i_ ((ele ows0_1 (b + i10_1)).reg), i_ ((ele ows0_1 (b + i10_1)).v)]) 0 (ele ows0_1 (b + i10_1)) rfl rfl rfl rfl rfl hp33 c30 (by first | rfl | exact addr_zero _) (show Value.cells _ = List.toArray _ from rfl) sz148 (nl rfl) (oc rfl (oc rfl (oc rfl one_nil))) rfl ?_)
   exact WT.b (fun w hw => hw)
  obtain ⟨c35, hm36⟩ := cs hm31; clear hm31
  obtain ⟨p37, hp38⟩ := hl34.ix (sz := 3) ln_len c35
  refine WT.q 22 4194303 8388607 Z (by kernel_rfl) Z Z Z Z (QV.indexSlice sl95 Z Z Z Z hp38) ?_
  refine WT.l 23 8388607 16777215 Z (by kernel_rfl) Z ?_
  refine (EV.storeEO (enc := Due.cells) (off := 0) (vs := [i_ ((ele ows0_1 (a + i10_1)).due), i_ ((ele ows0_1 (a + i10_1)).reg), i_ ((ele ows0_1 (a + i10_1)).v)]) 0 (ele ows0_1 (a + i10_1)) rfl rfl rfl rfl rfl hp38 c35 (by first | rfl | exact addr_zero _) (show Value.cells _ = List.toArray _ from rfl) sz148 (nl rfl) (oc rfl (oc rfl (oc rfl one_nil))) rfl ?_)
  have hl39 : SliceLen v_data (upd (upd ows0_1 (a + i10_1) (ele ows0_1 (b + i10_1))) (b + i10_1) (ele ows0_1 (a + i10_1))).length := slen_upd hl34
  refine WQ.block (WQ.then (WC.region (wm Z ?_)))
  obtain ⟨c40, hm41⟩ := cs hm36; clear hm36
  refine wq Z (QV.add Z Z Z Z c40) (wa Z (WL.nil ?_))
  exact WQ.again2 (upd (upd ows0_1 (a + i10_1) (ele ows0_1 (b + i10_1))) (b + i10_1) (ele ows0_1 (a + i10_1))) (i10_1 + 1) m8 ⟨up_next hm41 hn11, hl39⟩ (Nat.lt_succ_self _) ⟨Z, Z, Z, Z, Z, trivial⟩ (pk [0, 1])
 refine WC.exit (te (te (WQ.block_exit ?_)))
 exact WQ.out2 ows0_1 i10_1 ⟨up_brk hm42 hn11, hlows0_1⟩ ⟨Z, Z, Z, Z, Z, trivial⟩ (pk [0, 1])
theorem slices_rotateCmpFunc_kernel_result__w {v_data : Value} {data : List Due} {a m_ b : Int} {r : List Due} {K0 : World} (hm : slices_rotateCmpFunc_kernel_result__m data a m_ b = some r) (h_data : SliceLen v_data data.length) (M : Nat → Prop) (w : World) (hk : Base M K0 w) (hw0 : Own M w [ovec v_data 148 3 (List.map Due.cells data)] w) : Calls Try.prog 145 #[v_data, .int .i64 a, .int .i64 m_, .int .i64 b, .func (.func 100) #[] #[]] w (fun e w' => ∃ X : World, e = .returned (.tuple #[]) ∧ Own M w (kn M w.heap.size K0 X :: [ovec v_data 148 3 (List.map Due.cells r)]) w' ∧ SliceLen v_data (r).length) := by
 unfold slices_rotateCmpFunc_kernel_result__m at hm
 refine calls_of_WC (n := 58) (args := [v_data, i_ a, i_ m_, i_ b, .func (.func 100) #[] #[]]) Try.func145 Z Z (nl Z) ?_ (Own.startK hk hw0)
 refine sr (wm Z (wm Z ?_))
 obtain ⟨c1, c3, hm4⟩ := cs2 hm; clear hm
 refine wq Z (QV.sub Z Z Z Z c1) (wa Z (ns (wm Z (wm Z (wq Z (QV.sub Z Z Z Z c3) (wa Z (nt (WC.seq ?_))))))))
 obtain ⟨o5, ho6, hm7⟩ := bd_some hm4; clear hm4; obtain ⟨n8, ho9⟩ := lp_some ho6
 refine WC.bloop4 (H2 := []) (τ := [u_ 0 _, u_ 2 _, u_ 4 _]) (fun (ows0_1 : List Due) (i10_1 : Int) (j11_1 : Int) (k_1 : World) => [(10, (true, i_ i10_1)), (11, (true, i_ j11_1))]) (fun ows0_1 i10_1 j11_1 k_1 => [kn M w.heap.size K0 k_1, ovec v_data 148 3 (List.map Due.cells ows0_1)]) (fun ows0_1 i10_1 j11_1 k_1 m => iter (slices_rotateCmpFunc_kernel_result__L0 m_) m (ows0_1, i10_1, j11_1) = some o5 ∧ SliceLen v_data ows0_1.length ∧ Le K0 k_1) (fun ows0_1 i10_1 j11_1 k_1 => o5 = .go (ows0_1, i10_1, j11_1) ∧ SliceLen v_data ows0_1.length ∧ Le K0 k_1) data (m_ - a) (b - m_) K0 n8 ⟨ho9, h_data, (Le.refl _)⟩ ⟨Z, Z, Z, Z, Z, trivial⟩ (pk [0, 1]) ?_ ?_
 ·skip
  rintro ows0_1 i10_1 j11_1 k_1 ⟨rfl, hlows0_1, hle_1⟩
  refine WQ.then (WC.region (wm Z (wm Z (wm Z ?_))))
  obtain ⟨c10, hm11⟩ := cs hm7; clear hm7
  refine wq Z (QV.sub Z Z Z Z c10) (wm Z (wm Z (wm Z (WL.effect Z ?_))))
  obtain ⟨x12, hx13, hm14⟩ := bd_some hm11; clear hm11
  refine (EV.callR (X := World) (R := [ovec v_data 148 3 (List.map Due.cells ows0_1)]) (fun X => .tuple #[]) (fun X => [ovec v_data 148 3 (List.map Due.cells x12)]) (fun X => X) (fun X => SliceLen v_data (x12).length) hk (fun _ h => by cases h; decide) en148 (ec Z (ec Z (ec Z (ec Z (ec Z eN))))) (fun M w h1 h2 => have h := slices_swapRangeCmpFunc_kernel_result__w hx13 hlows0_1 M w h1 h2; h) (fun X15 hF15 hle15 => ?_))
  refine WL.nil ?_
  obtain rfl := (eq_of_some hm14).symm
  refine WQ.end0 Z (fun w hw => ?_)
  exact ⟨X15, Z, hw.pick [0, 1] (by decide), hF15⟩
 rintro ows0_1 i10_1 j11_1 k_1 m16 ⟨hI17, hlows0_1, hle_1⟩
 obtain ⟨m18, s19, rfl, hm20, hn21⟩ := iter_step hI17; clear hI17; unfold slices_rotateCmpFunc_kernel_result__L0 at hm20; simp only at hm20
 refine WC.seq (sr (wm Z (wm Z (wq Z (QV.neq Z Z Z Z) (nt ?_)))))
 refine wc Z hm20 (fun h22 hm23 => ?_) (fun h22 hm47 => ?_) <;> clear hm20
 ·skip
  refine sk (WQ.then (WC.block (sr (wm Z (wm Z (wq Z (QV.gtr Z Z Z Z) (nt ?_)))))))
  refine wc Z hm23 (fun h24 hm25 => ?_) (fun h24 hm34 => ?_) <;> clear hm23
  ·skip
   refine sr (wm Z (wm Z (wm Z ?_)))
   obtain ⟨c26, hm27⟩ := cs hm25; clear hm25
   refine wq Z (QV.sub Z Z Z Z c26) (wm Z (wm Z (wm Z (WL.effect Z ?_))))
   obtain ⟨x28, hx29, hm30⟩ := bd_some hm27; clear hm27
   refine (EV.callR (X := World) (R := [ovec v_data 148 3 (List.map Due.cells ows0_1)]) (fun X => .tuple #[]) (fun X => [ovec v_data 148 3 (List.map Due.cells x28)]) (fun X => X) (fun X => SliceLen v_data (x28).length) hk (fun _ h => by cases h; decide) en148 (ec Z (ec Z (ec Z (ec Z (ec Z eN))))) (fun M w h1 h2 => have h := slices_swapRangeCmpFunc_kernel_result__w hx29 hlows0_1 M w h1 h2; h) (fun X31 hF31 hle31 => ?_))
   refine nr (wm Z (wm Z ?_))
   obtain ⟨c32, hm33⟩ := cs hm30; clear hm30
   refine wq Z (QV.sub Z Z Z Z c32) (wa Z (WL.nil (WQ.block ?_)))
   exact WQ.again4 x28 (i10_1 - j11_1) j11_1 X31 m18 ⟨up_next hm33 hn21, hF31, (hle_1.trans hle31)⟩ (Nat.lt_succ_self _) ⟨Z, Z, Z, Z, Z, trivial⟩ (pk [0, 1])
  refine sr (wm Z (wm Z (wm Z ?_)))
  obtain ⟨c35, c37, c39, hm40⟩ := cs3 hm34; clear hm34
  refine wq Z (QV.sub Z Z Z Z c35) (wm Z (wm Z (wq Z (QV.add Z Z Z Z c37) (wm Z (wq Z (QV.sub Z Z Z Z c39) (wm Z (wm Z (WL.effect Z ?_))))))))
  obtain ⟨x41, hx42, hm43⟩ := bd_some hm40; clear hm40
  refine (EV.callR (X := World) (R := [ovec v_data 148 3 (List.map Due.cells ows0_1)]) (fun X => .tuple #[]) (fun X => [ovec v_data 148 3 (List.map Due.cells x41)]) (fun X => X) (fun X => SliceLen v_data (x41).length) hk (fun _ h => by cases h; decide) en148 (ec Z (ec Z (ec Z (ec Z (ec Z eN))))) (fun M w h1 h2 => have h := slices_swapRangeCmpFunc_kernel_result__w hx42 hlows0_1 M w h1 h2; h) (fun X44 hF44 hle44 => ?_))
  refine nr (wm Z (wm Z ?_))
  obtain ⟨c45, hm46⟩ := cs hm43; clear hm43
  refine wq Z (QV.sub Z Z Z Z c45) (wa Z (WL.nil (WQ.block ?_)))
  exact WQ.again4 x41 i10_1 (j11_1 - i10_1) X44 m18 ⟨up_next hm46 hn21, hF44, (hle_1.trans hle44)⟩ (Nat.lt_succ_self _) ⟨Z, Z, Z, Z, Z, trivial⟩ (pk [0, 1])
 refine WC.exit (te (te (WQ.block_exit ?_)))
 exact WQ.out4 ows0_1 i10_1 j11_1 k_1 ⟨up_brk hm47 hn21, hlows0_1, hle_1⟩ ⟨Z, Z, Z, Z, Z, trivial⟩ (pk [0, 1])
theorem slices_insertionSortCmpFunc_kernel_result__w {v_data : Value} {data : List Due} {a b : Int} {r : List Due} {K0 : World} (hm : slices_insertionSortCmpFunc_kernel_result__m data a b = some r) (h_data : SliceLen v_data data.length) (M : Nat → Prop) (w : World) (hk : Base M K0 w) (hw0 : Own M w [ovec v_data 148 3 (List.map Due.cells data)] w) : Calls Try.prog 137 #[v_data, .int .i64 a, .int .i64 b, .func (.func 100) #[] #[]] w (fun e w' => ∃ X : World, e = .returned (.tuple #[]) ∧ Own M w (kn M w.heap.size K0 X :: [ovec v_data 148 3 (List.map Due.cells r)]) w' ∧ SliceLen v_data (r).length) := by
 unfold slices_insertionSortCmpFunc_kernel_result__m at hm
 refine calls_of_WC (n := 53) (args := [v_data, i_ a, i_ b, .func (.func 100) #[] #[]]) Try.func137 Z Z (nl Z) ?_ (Own.startK hk hw0)
 refine sr (wm Z ?_)
 obtain ⟨c1, hm2⟩ := cs hm; clear hm
 refine wq Z (QV.add Z Z Z Z c1) (wa Z (nt ?_))
 obtain ⟨o3, ho4, hm5⟩ := bd_some hm2; clear hm2; obtain ⟨n6, ho7⟩ := lp_some ho4
 refine WC.bloop2 (H2 := [kn M w.heap.size K0 K0]) (τ := [u_ 0 _, u_ 1 _, u_ 2 _, u_ 3 _]) (fun (ows0_3 : List Due) (i8_3 : Int) => [(8, (true, i_ i8_3))]) (fun ows0_3 i8_3 => [ovec v_data 148 3 (List.map Due.cells ows0_3)]) (fun ows0_3 i8_3 m => iter (slices_insertionSortCmpFunc_kernel_result__L0 a b) m (ows0_3, i8_3) = some o3 ∧ SliceLen v_data ows0_3.length) (fun ows0_3 i8_3 => o3 = .go (ows0_3, i8_3) ∧ SliceLen v_data ows0_3.length) data (a + 1) n6 ⟨ho7, h_data⟩ ⟨Z, Z, Z, Z, Z, trivial⟩ (pk [1, 0]) ?_ ?_
 ·skip
  rintro ows0_3 i8_3 ⟨rfl, hlows0_3⟩
  obtain rfl := (eq_of_some hm5).symm
  refine WQ.end0 Z (fun w hw => ?_)
  exact ⟨K0, Z, hw.pick [1, 0] (by decide), hlows0_3⟩
 rintro ows0_3 i8_3 m8 ⟨hI9, hlows0_3⟩
 obtain ⟨m10, s11, rfl, hm12, hn13⟩ := iter_step hI9; clear hI9; unfold slices_insertionSortCmpFunc_kernel_result__L0 at hm12; simp only at hm12
 refine WC.seq (sr (wm Z (wm Z (wq Z (QV.lss Z Z Z Z) (nt ?_)))))
 refine wc Z hm12 (fun h14 hm15 => ?_) (fun h14 hm69 => ?_) <;> clear hm12
 ·skip
  refine sk (WQ.then (WC.seq (WC.block (sr (wm Z (wa Z (nt ?_)))))))
  obtain ⟨o16, ho17, hm18⟩ := bd_some hm15; clear hm15; obtain ⟨n19, ho20⟩ := lp_some ho17
  refine WC.bloop2 (H2 := [kn M w.heap.size K0 K0]) (τ := [u_ 0 _, u_ 1 _, u_ 2 _, u_ 3 _, u_ 8 _]) (fun (ows0_4 : List Due) (j9_4 : Int) => [(9, (true, i_ j9_4))]) (fun ows0_4 j9_4 => [ovec v_data 148 3 (List.map Due.cells ows0_4)]) (fun ows0_4 j9_4 m => iter (slices_insertionSortCmpFunc_kernel_result__L2 a) m (ows0_4, j9_4) = some o16 ∧ SliceLen v_data ows0_4.length) (fun ows0_4 j9_4 => o16 = .go (ows0_4, j9_4) ∧ SliceLen v_data ows0_4.length) ows0_3 i8_3 n19 ⟨ho20, hlows0_3⟩ ⟨Z, Z, Z, Z, Z, Z, trivial⟩ (pk [0, 1]) ?_ ?_
  ·skip
   rintro ows0_4 j9_4 ⟨rfl, hlows0_4⟩
   refine WQ.block (WQ.then (WC.region (wm Z ?_)))
   obtain ⟨c21, hm22⟩ := cs hm18; clear hm18
   refine wq Z (QV.add Z Z Z Z c21) (wa Z (WL.nil ?_))
   exact WQ.again2 ows0_4 (i8_3 + 1) m10 ⟨up_next hm22 hn13, hlows0_4⟩ (Nat.lt_succ_self _) ⟨Z, Z, Z, Z, Z, trivial⟩ (pk [0, 1])
  rintro ows0_4 j9_4 m23 ⟨hI24, hlows0_4⟩
  obtain ⟨m25, s26, rfl, hm27, hn28⟩ := iter_step hI24; clear hI24; unfold slices_insertionSortCmpFunc_kernel_result__L2 at hm27; simp only at hm27
  refine WC.seq (WC.seq (WC.dr (m := 17) (S := Own M w [kn M w.heap.size K0 K0, ovec v_data 148 3 (List.map Due.cells ows0_4)]) (by kernel_rfl) (by kernel_rfl) (pk [1, 0]) (zm 0 Z Z (zm 1 Z Z (wz 2 Z Z (QV.gtr Z Z Z Z) (zm 3 Z Z (zp 4 Z Z (fun hG => QV.move Z Z) (zp 5 Z Z (fun hG => QV.move Z Z) (zp 6 Z Z (fun hG => QV.move Z Z) ?_)))))))))
  obtain ⟨c29, hm30⟩ := cs hm27; clear hm27
  obtain ⟨p31, hp32⟩ := hlows0_4.ixG (sz := 3) ln_len c29
  refine zp 7 Z Z (fun hG => QV.indexSlice sl95 Z hG Z hG (hp32 hG)) (zp 8 Z Z (fun hG => QV.loadAgg ag148 Z Z hG (fun w hw => ((Own.ovecArr 1 Z) w hw).ele (hp32 hG) (c29 hG))) (zp 9 Z Z (fun hG => QV.move Z Z) (zp 10 Z Z (fun hG => QV.move Z Z) ?_)))
  obtain ⟨c33, c35, hm36⟩ := cs2 hm30; clear hm30
  refine zp 11 Z Z (fun hG => QV.sub Z hG Z Z (c33 hG)) ?_
  obtain ⟨p37, hp38⟩ := hlows0_4.ixG (sz := 3) ln_len c35
  refine zp 12 Z Z (fun hG => QV.indexSlice sl95 Z hG Z hG (hp38 hG)) (zp 13 Z Z (fun hG => QV.loadAgg ag148 Z Z hG (fun w hw => ((Own.ovecArr 1 Z) w hw).ele (hp38 hG) (c35 hG))) ?_)
  obtain ⟨x39, hx40, hm41⟩ := bdG_some hm36; clear hm36
  refine zp 14 Z Z (fun hG => QV.callV en100 Z hG (EvAll.cons Z hG (EvAll.cons Z hG eN)) (fun w hw => have h := kernel_machine_land_c1_w w (hx40 hG) ; h)) (zp 15 Z Z (fun hG => QV.lss Z hG Z Z) (wz 16 Z Z (QV.pickAnd Z Z Z (fun h => h)) ?_))
  refine WD.e (by kernel_rfl) ?_
  refine WQ.then ?_
  refine wc Z hm41 (fun h42 hm43 => ?_) (fun h42 hm68 => ?_) <;> clear hm41
  ·skip
   refine sk (WQ.then (WC.seq (WC.block (WC.drT (m := 18) (fun i => [2, 3, 4].contains i) (by kernel_rfl) (by kernel_rfl) (by kernel_rfl) ?_))))
   refine WT.q 0 0 1 Z (by kernel_rfl) Z Z Z Z (QV.move Z Z) ?_
   refine WT.q 1 1 3 Z (by kernel_rfl) Z Z Z Z (QV.move Z Z) ?_
   refine WT.qp 2 3 7 Z (by kernel_rfl) Z Z Z (QV.move Z Z) ?_
   refine WT.qp 3 7 15 Z (by kernel_rfl) Z Z Z (QV.move Z Z) ?_
   obtain ⟨c44, c46, c48, hm49⟩ := cs3 hm43; clear hm43
   refine WT.qp 4 15 31 Z (by kernel_rfl) Z Z Z (QV.sub Z Z Z Z c44) ?_
   refine WT.q 5 31 63 Z (by kernel_rfl) Z Z Z Z (QV.move Z Z) ?_
   refine WT.q 6 63 127 Z (by kernel_rfl) Z Z Z Z (QV.move Z Z) ?_
   refine WT.q 7 127 255 Z (by kernel_rfl) Z Z Z Z (QV.sub Z Z Z Z c46) ?_
   obtain ⟨p50, hp51⟩ := hlows0_4.ix (sz := 3) ln_len c48
   refine WT.q 8 255 511 Z (by kernel_rfl) Z Z Z Z (QV.indexSlice sl95 Z Z Z Z hp51) ?_
   refine WT.q 9 511 1023 Z (by kernel_rfl) Z Z Z Z (QV.loadAgg ag148 Z Z Z (fun w hw => ((Own.ovecArr 0 Z) w hw).ele hp51 c48)) ?_
   refine WT.q 10 1023 2047 Z (by kernel_rfl) Z Z Z Z (QV.move Z Z) ?_
   refine WT.q 11 2047 4095 Z (by kernel_rfl) Z Z Z Z (QV.move Z Z) ?_
   obtain ⟨c52, hm53⟩ := cs hm49; clear hm49
   obtain ⟨p54, hp55⟩ := hlows0_4.ix (sz := 3) ln_len c52
   refine WT.q 12 4095 8191 Z (by kernel_rfl) Z Z Z Z (QV.indexSlice sl95 Z Z Z Z hp55) ?_
   refine WT.q 13 8191 16383 Z (by kernel_rfl) Z Z Z Z (QV.loadAgg ag148 Z Z Z (fun w hw => ((Own.ovecArr 0 Z) w hw).ele hp55 c52)) ?_
   obtain ⟨c56, hm57⟩ := cs hm53; clear hm53
   obtain ⟨p58, hp59⟩ := hlows0_4.ix (sz := 3) ln_len c56
   refine WT.q 14 16383 32767 Z (by kernel_rfl) Z Z Z Z (QV.indexSlice sl95 Z Z Z Z hp59) ?_
   have hl60 : SliceLen v_data (upd ows0_4 j9_4 (ele ows0_4 (j9_4 - 1))).length := slen_upd hlows0_4
   refine WT.o (H' := [ovec v_data 148 3 (List.map Due.cells (upd ows0_4 j9_4 (ele ows0_4 (j9_4 - 1)))), kn M w.heap.size K0 K0]) 15 32767 65535 Z (by kernel_rfl) Z (by kernel_rfl) ?_ ?_
   ·skip
    refine (EV.storeEO (enc := Due.cells) (off := 0) (vs := [i_ ((ele ows0_4 (j9_4 - 1)).due), i_ ((ele ows0_4 (j9_4 - 1)).reg), i_ ((ele ows0_4 (j9_4 - 1)).v)]) 0 (ele ows0_4 (j9_4 - 1)) rfl rfl rfl rfl rfl hp59 c56 (by first | rfl | exact addr_zero _) (show Value.cells _ = List.toArray _ from rfl) sz148 (nl rfl) (oc rfl (oc rfl (oc rfl one_nil))) rfl ?_)
    exact WT.b (fun w hw => hw)
   obtain ⟨c61, hm62⟩ := cs hm57; clear hm57
   obtain ⟨p63, hp64⟩ := hl60.ix (sz := 3) ln_len c61
   refine WT.q 16 65535 131071 Z (by kernel_rfl) Z Z Z Z (QV.indexSlice sl95 Z Z Z Z hp64) ?_
   refine WT.l 17 131071 262143 Z (by kernel_rfl) Z ?_
   refine (EV.storeEO (enc := Due.cells) (off := 0) (vs := [i_ ((ele ows0_4 j9_4).due), i_ ((ele ows0_4 j9_4).reg), i_ ((ele ows0_4 j9_4).v)]) 0 (ele ows0_4 j9_4) rfl rfl rfl rfl rfl hp64 c61 (by first | rfl | exact addr_zero _) (show Value.cells _ = List.toArray _ from rfl) sz148 (nl rfl) (oc rfl (oc rfl (oc rfl one_nil))) rfl ?_)
   have hl65 : SliceLen v_data (upd (upd ows0_4 j9_4 (ele ows0_4 (j9_4 - 1))) (j9_4 - 1) (ele ows0_4 j9_4)).length := slen_upd hl60
   refine WQ.block (WQ.then (WC.region (wm Z ?_)))
   obtain ⟨c66, hm67⟩ := cs hm62; clear hm62
   refine wq Z (QV.sub Z Z Z Z c66) (wa Z (WL.nil ?_))
   exact WQ.again2 (upd (upd ows0_4 j9_4 (ele ows0_4 (j9_4 - 1))) (j9_4 - 1) (ele ows0_4 j9_4)) (j9_4 - 1) m25 ⟨up_next hm67 hn28, hl65⟩ (Nat.lt_succ_self _) ⟨Z, Z, Z, Z, Z, Z, trivial⟩ (pk [0, 1])
  refine WC.exit (te (te (WQ.block_exit ?_)))
  exact WQ.out2 ows0_4 j9_4 ⟨up_brk hm68 hn28, hlows0_4⟩ ⟨Z, Z, Z, Z, Z, Z, trivial⟩ (pk [0, 1])
 refine WC.exit (te (te (WQ.block_exit ?_)))
 exact WQ.out2 ows0_3 i8_3 ⟨up_brk hm69 hn13, hlows0_3⟩ ⟨Z, Z, Z, Z, Z, trivial⟩ (pk [0, 1])
theorem slices_symMergeCmpFunc_kernel_result__w : ∀ (fl : Nat) {v_data : Value} {data : List Due} {a m_ b : Int} {r : List Due} {K0 : World} (hm : slices_symMergeCmpFunc_kernel_result__m fl data a m_ b = some r) (h_data : SliceLen v_data data.length) (M : Nat → Prop) (w : World) (hk : Base M K0 w) (hw0 : Own M w [ovec v_data 148 3 (List.map Due.cells data)] w), Calls Try.prog 138 #[v_data, .int .i64 a, .int .i64 m_, .int .i64 b, .func (.func 100) #[] #[]] w (fun e w' => ∃ X : World, e = .returned (.tuple #[]) ∧ Own M w (kn M w.heap.size K0 X :: [ovec v_data 148 3 (List.map Due.cells r)]) w' ∧ SliceLen v_data (r).length) := by
 intro fl; induction fl with
 | zero => intro v_data data a m_ b r K0 hm; cases hm
 | succ fl IH =>
  intro v_data data a m_ b r K0 hm h_data M w hk hw0
  unfold slices_symMergeCmpFunc_kernel_result__m at hm
  refine calls_of_WC (n := 220) (args := [v_data, i_ a, i_ m_, i_ b, .func (.func 100) #[] #[]]) Try.func138 Z Z (nl Z) ?_ (Own.startK hk hw0)
  refine WC.seq (sr (wm Z (wm Z ?_)))
  obtain ⟨c1, hm2⟩ := cs hm; clear hm
  refine wq Z (QV.sub Z Z Z Z c1) (wq Z (QV.eql Z Z Z Z) (nt ?_))
  refine wc Z hm2 (fun h3 hm4 => ?_) (fun h3 hm77 => ?_) <;> clear hm2
  ·skip
   refine sr (wm Z (wa Z (ns (wm Z (wa Z (nt (WC.seq ?_)))))))
   obtain ⟨o5, ho6, hm7⟩ := bd_some hm4; clear hm4; obtain ⟨n8, ho9⟩ := lp_some ho6
   refine WC.bloop2 (H2 := [kn M w.heap.size K0 K0, ovec v_data 148 3 (List.map Due.cells data)]) (τ := [u_ 0 _, u_ 1 _, u_ 4 _]) (fun (i10_1 : Int) (j11_1 : Int) => [(10, (true, i_ i10_1)), (11, (true, i_ j11_1))]) (fun i10_1 j11_1 => []) (fun i10_1 j11_1 m => iter (slices_symMergeCmpFunc_kernel_result__L0 data a) m (i10_1, j11_1) = some o5) (fun i10_1 j11_1 => o5 = .go (i10_1, j11_1)) m_ b n8 ho9 ⟨Z, Z, Z, Z, Z, trivial⟩ (pk [0, 1]) ?_ ?_
   ·skip
    rintro i10_1 j11_1 rfl
    refine WQ.then (WC.seq (sr (wm Z (wa Z (nt ?_)))))
    obtain ⟨o10, ho11, hm12⟩ := bd_some hm7; clear hm7; obtain ⟨n13, ho14⟩ := lp_some ho11
    refine WC.bloop2 (H2 := [kn M w.heap.size K0 K0]) (τ := [u_ 0 _, u_ 10 _]) (fun (ows0_2 : List Due) (k13_2 : Int) => [(13, (true, i_ k13_2))]) (fun ows0_2 k13_2 => [ovec v_data 148 3 (List.map Due.cells ows0_2)]) (fun ows0_2 k13_2 m => iter (slices_symMergeCmpFunc_kernel_result__L2 i10_1) m (ows0_2, k13_2) = some o10 ∧ SliceLen v_data ows0_2.length) (fun ows0_2 k13_2 => o10 = .go (ows0_2, k13_2) ∧ SliceLen v_data ows0_2.length) data a n13 ⟨ho14, h_data⟩ ⟨Z, Z, Z, trivial⟩ (pk [1, 0]) ?_ ?_
    ·skip
     rintro ows0_2 k13_2 ⟨rfl, hlows0_2⟩
     refine WQ.then (WC.ret (tr ?_))
     obtain rfl := (eq_of_some hm12).symm
     refine WQ.ret0 Z (fun w hw => ?_)
     exact ⟨K0, Z, hw.pick [1, 0] (by decide), hlows0_2⟩
    rintro ows0_2 k13_2 m15 ⟨hI16, hlows0_2⟩
    obtain ⟨m17, s18, rfl, hm19, hn20⟩ := iter_step hI16; clear hI16; unfold slices_symMergeCmpFunc_kernel_result__L2 at hm19; simp only at hm19
    refine WC.seq (sr (wm Z (wm Z ?_)))
    obtain ⟨c21, hm22⟩ := cs hm19; clear hm19
    refine wq Z (QV.sub Z Z Z Z c21) (wq Z (QV.lss Z Z Z Z) (nt ?_))
    refine wc Z hm22 (fun h23 hm24 => ?_) (fun h23 hm49 => ?_) <;> clear hm22
    ·skip
     refine sk (WQ.then (WC.seq (WC.block (WC.drT (m := 18) (fun i => [2, 3, 4].contains i) (by kernel_rfl) (by kernel_rfl) (by kernel_rfl) ?_))))
     refine WT.q 0 0 1 Z (by kernel_rfl) Z Z Z Z (QV.move Z Z) ?_
     refine WT.q 1 1 3 Z (by kernel_rfl) Z Z Z Z (QV.move Z Z) ?_
     refine WT.qp 2 3 7 Z (by kernel_rfl) Z Z Z (QV.move Z Z) ?_
     refine WT.qp 3 7 15 Z (by kernel_rfl) Z Z Z (QV.move Z Z) ?_
     obtain ⟨c25, c27, c29, hm30⟩ := cs3 hm24; clear hm24
     refine WT.qp 4 15 31 Z (by kernel_rfl) Z Z Z (QV.add Z Z Z Z c25) ?_
     refine WT.q 5 31 63 Z (by kernel_rfl) Z Z Z Z (QV.move Z Z) ?_
     refine WT.q 6 63 127 Z (by kernel_rfl) Z Z Z Z (QV.move Z Z) ?_
     refine WT.q 7 127 255 Z (by kernel_rfl) Z Z Z Z (QV.add Z Z Z Z c27) ?_
     obtain ⟨p31, hp32⟩ := hlows0_2.ix (sz := 3) ln_len c29
     refine WT.q 8 255 511 Z (by kernel_rfl) Z Z Z Z (QV.indexSlice sl95 Z Z Z Z hp32) ?_
     refine WT.q 9 511 1023 Z (by kernel_rfl) Z Z Z Z (QV.loadAgg ag148 Z Z Z (fun w hw => ((Own.ovecArr 0 Z) w hw).ele hp32 c29)) ?_
     refine WT.q 10 1023 2047 Z (by kernel_rfl) Z Z Z Z (QV.move Z Z) ?_
     refine WT.q 11 2047 4095 Z (by kernel_rfl) Z Z Z Z (QV.move Z Z) ?_
     obtain ⟨c33, hm34⟩ := cs hm30; clear hm30
     obtain ⟨p35, hp36⟩ := hlows0_2.ix (sz := 3) ln_len c33
     refine WT.q 12 4095 8191 Z (by kernel_rfl) Z Z Z Z (QV.indexSlice sl95 Z Z Z Z hp36) ?_
     refine WT.q 13 8191 16383 Z (by kernel_rfl) Z Z Z Z (QV.loadAgg ag148 Z Z Z (fun w hw => ((Own.ovecArr 0 Z) w hw).ele hp36 c33)) ?_
     obtain ⟨c37, hm38⟩ := cs hm34; clear hm34
     obtain ⟨p39, hp40⟩ := hlows0_2.ix (sz := 3) ln_len c37
     refine WT.q 14 16383 32767 Z (by kernel_rfl) Z Z Z Z (QV.indexSlice sl95 Z Z Z Z hp40) ?_
     have hl41 : SliceLen v_data (upd ows0_2 k13_2 (ele ows0_2 (k13_2 + 1))).length := slen_upd hlows0_2
     refine WT.o (H' := [ovec v_data 148 3 (List.map Due.cells (upd ows0_2 k13_2 (ele ows0_2 (k13_2 + 1)))), kn M w.heap.size K0 K0]) 15 32767 65535 Z (by kernel_rfl) Z (by kernel_rfl) ?_ ?_
     ·skip
      refine (EV.storeEO (enc := Due.cells) (off := 0) (vs := [i_ ((ele ows0_2 (k13_2 + 1)).due), i_ ((ele ows0_2 (k13_2 + 1)).reg), i_ ((ele ows0_2 (k13_2 + 1)).v)]) 0 (ele ows0_2 (k13_2 + 1)) rfl rfl rfl rfl rfl hp40 c37 (by first | rfl | exact addr_zero _) (show Value.cells _ = List.toArray _ from rfl) sz148 (nl rfl) (oc rfl (oc rfl (oc rfl one_nil))) rfl ?_)
      exact WT.b (fun w hw => hw)
     obtain ⟨c42, hm43⟩ := cs hm38; clear hm38
     obtain ⟨p44, hp45⟩ := hl41.ix (sz := 3) ln_len c42
     refine WT.q 16 65535 131071 Z (by kernel_rfl) Z Z Z Z (QV.indexSlice sl95 Z Z Z Z hp45) ?_
     refine WT.l 17 131071 262143 Z (by kernel_rfl) Z ?_
     refine (EV.storeEO (enc := Due.cells) (off := 0) (vs := [i_ ((ele ows0_2 k13_2).due), i_ ((ele ows0_2 k13_2).reg), i_ ((ele ows0_2 k13_2).v)]) 0 (ele ows0_2 k13_2) rfl rfl rfl rfl rfl hp45 c42 (by first | rfl | exact addr_zero _) (show Value.cells _ = List.toArray _ from rfl) sz148 (nl rfl) (oc rfl (oc rfl (oc rfl one_nil))) rfl ?_)
     have hl46 : SliceLen v_data (upd (upd ows0_2 k13_2 (ele ows0_2 (k13_2 + 1))) (k13_2 + 1) (ele ows0_2 k13_2)).length := slen_upd hl41
     refine WQ.block (WQ.then (WC.region (wm Z ?_)))
     obtain ⟨c47, hm48⟩ := cs hm43; clear hm43
     refine wq Z (QV.add Z Z Z Z c47) (wa Z (WL.nil ?_))
     exact WQ.again2 (upd (upd ows0_2 k13_2 (ele ows0_2 (k13_2 + 1))) (k13_2 + 1) (ele ows0_2 k13_2)) (k13_2 + 1) m17 ⟨up_next hm48 hn20, hl46⟩ (Nat.lt_succ_self _) ⟨Z, Z, Z, trivial⟩ (pk [0, 1])
    refine WC.exit (te (te (WQ.block_exit ?_)))
    exact WQ.out2 ows0_2 k13_2 ⟨up_brk hm49 hn20, hlows0_2⟩ ⟨Z, Z, Z, trivial⟩ (pk [0, 1])
   rintro i10_1 j11_1 m50 hI51
   obtain ⟨m52, s53, rfl, hm54, hn55⟩ := iter_step hI51; clear hI51; unfold slices_symMergeCmpFunc_kernel_result__L0 at hm54; simp only at hm54
   refine WC.seq (sr (wm Z (wm Z (wq Z (QV.lss Z Z Z Z) (nt ?_)))))
   refine wc Z hm54 (fun h56 hm57 => ?_) (fun h56 hm76 => ?_) <;> clear hm54
   ·skip
    refine sk (WQ.then (WC.block (sr (wm Z (wm Z ?_)))))
    obtain ⟨c58, c60, hm61⟩ := cs2 hm57; clear hm57
    refine wq Z (QV.add Z Z Z Z c58) (wq Z (QV.intToInt Try.underlying143 Try.underlying3 Z Z) (wq Z (QV.shrU Z Z Z Z (by decide)) (wq Z (QV.intToInt Try.underlying3 Try.underlying143 Z Z) (wa Z (nt (WC.seq (WC.dr (m := 11) (by kernel_rfl) (by kernel_rfl) (fun w hw => hw) (zm 0 Z Z (zm 1 Z Z (zm 2 Z Z ?_))))))))))
    obtain ⟨p62, hp63⟩ := h_data.ix (sz := 3) ln_len c60
    refine wz 3 Z Z (QV.indexSlice sl95 Z Z Z Z hp63) (wz 4 Z Z (QV.loadAgg ag148 Z Z Z (fun w hw => ((Own.ovecArr 1 Z) w hw).ele hp63 c60)) (zm 5 Z Z (zm 6 Z Z ?_)))
    obtain ⟨c64, hm65⟩ := cs hm61; clear hm61
    obtain ⟨p66, hp67⟩ := h_data.ix (sz := 3) ln_len c64
    refine wz 7 Z Z (QV.indexSlice sl95 Z Z Z Z hp67) (wz 8 Z Z (QV.loadAgg ag148 Z Z Z (fun w hw => ((Own.ovecArr 1 Z) w hw).ele hp67 c64)) ?_)
    obtain ⟨x68, hx69, hm70⟩ := bd_some hm65; clear hm65
    refine wz 9 Z Z (QV.callV en100 Z Z (ec Z (ec Z eN)) (fun w hw => have h := kernel_machine_land_c1_w w hx69 ; h)) (wz 10 Z Z (QV.lss Z Z Z Z) ?_)
    refine WD.e (by kernel_rfl) ?_
    refine WQ.then ?_
    refine wc Z hm70 (fun h71 hm72 => ?_) (fun h71 hm75 => ?_) <;> clear hm70
    ·skip
     refine WC.region (wm Z ?_)
     obtain ⟨c73, hm74⟩ := cs hm72; clear hm72
     refine wq Z (QV.add Z Z Z Z c73) (wa Z (WL.nil (WQ.block ?_)))
     exact WQ.again2 ((IntKind.i64.wrap (shrD (IntKind.u64.wrap (i10_1 + j11_1)) 1)) + 1) j11_1 m52 (up_next hm74 hn55) (Nat.lt_succ_self _) ⟨Z, Z, Z, Z, Z, trivial⟩ (pk [0, 1])
    refine WC.region (wm Z (wa Z (WL.nil (WQ.block ?_))))
    exact WQ.again2 i10_1 (IntKind.i64.wrap (shrD (IntKind.u64.wrap (i10_1 + j11_1)) 1)) m52 (up_next hm75 hn55) (Nat.lt_succ_self _) ⟨Z, Z, Z, Z, Z, trivial⟩ (pk [0, 1])
   refine WC.exit (te (te (WQ.block_exit ?_)))
   exact WQ.out2 i10_1 j11_1 (up_brk hm76 hn55) ⟨Z, Z, Z, Z, Z, trivial⟩ (pk [0, 1])
  refine sk (WQ.then (WC.seq (sr (wm Z (wm Z ?_)))))
  obtain ⟨c78, hm79⟩ := cs hm77; clear hm77
  refine wq Z (QV.sub Z Z Z Z c78) (wq Z (QV.eql Z Z Z Z) (nt ?_))
  refine wc Z hm79 (fun h80 hm81 => ?_) (fun h80 hm152 => ?_) <;> clear hm79
  ·skip
   refine sr (wm Z (wa Z (ns (wm Z (wa Z (nt (WC.seq ?_)))))))
   obtain ⟨o82, ho83, hm84⟩ := bd_some hm81; clear hm81; obtain ⟨n85, ho86⟩ := lp_some ho83
   refine WC.bloop2 (H2 := [kn M w.heap.size K0 K0, ovec v_data 148 3 (List.map Due.cells data)]) (τ := [u_ 0 _, u_ 2 _, u_ 4 _]) (fun (i14_3 : Int) (j15_3 : Int) => [(14, (true, i_ i14_3)), (15, (true, i_ j15_3))]) (fun i14_3 j15_3 => []) (fun i14_3 j15_3 m => iter (slices_symMergeCmpFunc_kernel_result__L4 data m_) m (i14_3, j15_3) = some o82) (fun i14_3 j15_3 => o82 = .go (i14_3, j15_3)) a m_ n85 ho86 ⟨Z, Z, Z, Z, Z, trivial⟩ (pk [0, 1]) ?_ ?_
   ·skip
    rintro i14_3 j15_3 rfl
    refine WQ.then (WC.seq (sr (wm Z (wa Z (nt ?_)))))
    obtain ⟨o87, ho88, hm89⟩ := bd_some hm84; clear hm84; obtain ⟨n90, ho91⟩ := lp_some ho88
    refine WC.bloop2 (H2 := [kn M w.heap.size K0 K0]) (τ := [u_ 0 _, u_ 14 _]) (fun (ows0_4 : List Due) (k17_4 : Int) => [(17, (true, i_ k17_4))]) (fun ows0_4 k17_4 => [ovec v_data 148 3 (List.map Due.cells ows0_4)]) (fun ows0_4 k17_4 m => iter (slices_symMergeCmpFunc_kernel_result__L6 i14_3) m (ows0_4, k17_4) = some o87 ∧ SliceLen v_data ows0_4.length) (fun ows0_4 k17_4 => o87 = .go (ows0_4, k17_4) ∧ SliceLen v_data ows0_4.length) data m_ n90 ⟨ho91, h_data⟩ ⟨Z, Z, Z, trivial⟩ (pk [1, 0]) ?_ ?_
    ·skip
     rintro ows0_4 k17_4 ⟨rfl, hlows0_4⟩
     refine WQ.then (WC.ret (tr ?_))
     obtain rfl := (eq_of_some hm89).symm
     refine WQ.ret0 Z (fun w hw => ?_)
     exact ⟨K0, Z, hw.pick [1, 0] (by decide), hlows0_4⟩
    rintro ows0_4 k17_4 m92 ⟨hI93, hlows0_4⟩
    obtain ⟨m94, s95, rfl, hm96, hn97⟩ := iter_step hI93; clear hI93; unfold slices_symMergeCmpFunc_kernel_result__L6 at hm96; simp only at hm96
    refine WC.seq (sr (wm Z (wm Z (wq Z (QV.gtr Z Z Z Z) (nt ?_)))))
    refine wc Z hm96 (fun h98 hm99 => ?_) (fun h98 hm124 => ?_) <;> clear hm96
    ·skip
     refine sk (WQ.then (WC.seq (WC.block (WC.drT (m := 18) (fun i => [2, 3, 4].contains i) (by kernel_rfl) (by kernel_rfl) (by kernel_rfl) ?_))))
     refine WT.q 0 0 1 Z (by kernel_rfl) Z Z Z Z (QV.move Z Z) ?_
     refine WT.q 1 1 3 Z (by kernel_rfl) Z Z Z Z (QV.move Z Z) ?_
     refine WT.qp 2 3 7 Z (by kernel_rfl) Z Z Z (QV.move Z Z) ?_
     refine WT.qp 3 7 15 Z (by kernel_rfl) Z Z Z (QV.move Z Z) ?_
     obtain ⟨c100, c102, c104, hm105⟩ := cs3 hm99; clear hm99
     refine WT.qp 4 15 31 Z (by kernel_rfl) Z Z Z (QV.sub Z Z Z Z c100) ?_
     refine WT.q 5 31 63 Z (by kernel_rfl) Z Z Z Z (QV.move Z Z) ?_
     refine WT.q 6 63 127 Z (by kernel_rfl) Z Z Z Z (QV.move Z Z) ?_
     refine WT.q 7 127 255 Z (by kernel_rfl) Z Z Z Z (QV.sub Z Z Z Z c102) ?_
     obtain ⟨p106, hp107⟩ := hlows0_4.ix (sz := 3) ln_len c104
     refine WT.q 8 255 511 Z (by kernel_rfl) Z Z Z Z (QV.indexSlice sl95 Z Z Z Z hp107) ?_
     refine WT.q 9 511 1023 Z (by kernel_rfl) Z Z Z Z (QV.loadAgg ag148 Z Z Z (fun w hw => ((Own.ovecArr 0 Z) w hw).ele hp107 c104)) ?_
     refine WT.q 10 1023 2047 Z (by kernel_rfl) Z Z Z Z (QV.move Z Z) ?_
     refine WT.q 11 2047 4095 Z (by kernel_rfl) Z Z Z Z (QV.move Z Z) ?_
     obtain ⟨c108, hm109⟩ := cs hm105; clear hm105
     obtain ⟨p110, hp111⟩ := hlows0_4.ix (sz := 3) ln_len c108
     refine WT.q 12 4095 8191 Z (by kernel_rfl) Z Z Z Z (QV.indexSlice sl95 Z Z Z Z hp111) ?_
     refine WT.q 13 8191 16383 Z (by kernel_rfl) Z Z Z Z (QV.loadAgg ag148 Z Z Z (fun w hw => ((Own.ovecArr 0 Z) w hw).ele hp111 c108)) ?_
     obtain ⟨c112, hm113⟩ := cs hm109; clear hm109
     obtain ⟨p114, hp115⟩ := hlows0_4.ix (sz := 3) ln_len c112
     refine WT.q 14 16383 32767 Z (by kernel_rfl) Z Z Z Z (QV.indexSlice sl95 Z Z Z Z hp115) ?_
     have hl116 : SliceLen v_data (upd ows0_4 k17_4 (ele ows0_4 (k17_4 - 1))).length := slen_upd hlows0_4
     refine WT.o (H' := [ovec v_data 148 3 (List.map Due.cells (upd ows0_4 k17_4 (ele ows0_4 (k17_4 - 1)))), kn M w.heap.size K0 K0]) 15 32767 65535 Z (by kernel_rfl) Z (by kernel_rfl) ?_ ?_
     ·skip
      refine (EV.storeEO (enc := Due.cells) (off := 0) (vs := [i_ ((ele ows0_4 (k17_4 - 1)).due), i_ ((ele ows0_4 (k17_4 - 1)).reg), i_ ((ele ows0_4 (k17_4 - 1)).v)]) 0 (ele ows0_4 (k17_4 - 1)) rfl rfl rfl rfl rfl hp115 c112 (by first | rfl | exact addr_zero _) (show Value.cells _ = List.toArray _ from rfl) sz148 (nl rfl) (oc rfl (oc rfl (oc rfl one_nil))) rfl ?_)
      exact WT.b (fun w hw => hw)
     obtain ⟨c117, hm118⟩ := cs hm113; clear hm113
     obtain ⟨p119, hp120⟩ := hl116.ix (sz := 3) ln_len c117
     refine WT.q 16 65535 131071 Z (by kernel_rfl) Z Z Z Z (QV.indexSlice sl95 Z Z Z Z hp120) ?_
     refine WT.l 17 131071 262143 Z (by kernel_rfl) Z ?_
     refine (EV.storeEO (enc := Due.cells) (off := 0) (vs := [i_ ((ele ows0_4 k17_4).due), i_ ((ele ows0_4 k17_4).reg), i_ ((ele ows0_4 k17_4).v)]) 0 (ele ows0_4 k17_4) rfl rfl rfl rfl rfl hp120 c117 (by first | rfl | exact addr_zero _) (show Value.cells _ = List.toArray _ from rfl) sz148 (nl rfl) (oc rfl (oc rfl (oc rfl one_nil))) rfl ?_)
     have hl121 : SliceLen v_data (upd (upd ows0_4 k17_4 (ele ows0_4 (k17_4 - 1))) (k17_4 - 1) (ele ows0_4 k17_4)).length := slen_upd hl116
     refine WQ.block (WQ.then (WC.region (wm Z ?_)))
     obtain ⟨c122, hm123⟩ := cs hm118; clear hm118
     refine wq Z (QV.sub Z Z Z Z c122) (wa Z (WL.nil ?_))
     exact WQ.again2 (upd (upd ows0_4 k17_4 (ele ows0_4 (k17_4 - 1))) (k17_4 - 1) (ele ows0_4 k17_4)) (k17_4 - 1) m94 ⟨up_next hm123 hn97, hl121⟩ (Nat.lt_succ_self _) ⟨Z, Z, Z, trivial⟩ (pk [0, 1])
    refine WC.exit (te (te (WQ.block_exit ?_)))
    exact WQ.out2 ows0_4 k17_4 ⟨up_brk hm124 hn97, hlows0_4⟩ ⟨Z, Z, Z, trivial⟩ (pk [0, 1])
   rintro i14_3 j15_3 m125 hI126
   obtain ⟨m127, s128, rfl, hm129, hn130⟩ := iter_step hI126; clear hI126; unfold slices_symMergeCmpFunc_kernel_result__L4 at hm129; simp only at hm129
   refine WC.seq (sr (wm Z (wm Z (wq Z (QV.lss Z Z Z Z) (nt ?_)))))
   refine wc Z hm129 (fun h131 hm132 => ?_) (fun h131 hm151 => ?_) <;> clear hm129
   ·skip
    refine sk (WQ.then (WC.block (sr (wm Z (wm Z ?_)))))
    obtain ⟨c133, c135, hm136⟩ := cs2 hm132; clear hm132
    refine wq Z (QV.add Z Z Z Z c133) (wq Z (QV.intToInt Try.underlying143 Try.underlying3 Z Z) (wq Z (QV.shrU Z Z Z Z (by decide)) (wq Z (QV.intToInt Try.underlying3 Try.underlying143 Z Z) (wa Z (nt (WC.seq (WC.dr (m := 12) (by kernel_rfl) (by kernel_rfl) (fun w hw => hw) (zm 0 Z Z (zm 1 Z Z (zm 2 Z Z ?_))))))))))
    obtain ⟨p137, hp138⟩ := h_data.ix (sz := 3) ln_len c135
    refine wz 3 Z Z (QV.indexSlice sl95 Z Z Z Z hp138) (wz 4 Z Z (QV.loadAgg ag148 Z Z Z (fun w hw => ((Own.ovecArr 1 Z) w hw).ele hp138 c135)) (zm 5 Z Z (zm 6 Z Z ?_)))
    obtain ⟨c139, hm140⟩ := cs hm136; clear hm136
    obtain ⟨p141, hp142⟩ := h_data.ix (sz := 3) ln_len c139
    refine wz 7 Z Z (QV.indexSlice sl95 Z Z Z Z hp142) (wz 8 Z Z (QV.loadAgg ag148 Z Z Z (fun w hw => ((Own.ovecArr 1 Z) w hw).ele hp142 c139)) ?_)
    obtain ⟨x143, hx144, hm145⟩ := bd_some hm140; clear hm140
    refine wz 9 Z Z (QV.callV en100 Z Z (ec Z (ec Z eN)) (fun w hw => have h := kernel_machine_land_c1_w w hx144 ; h)) (wz 10 Z Z (QV.lss Z Z Z Z) (wz 11 Z Z (QV.not Z Z) ?_))
    refine WD.e (by kernel_rfl) ?_
    refine WQ.then ?_
    refine wc Z hm145 (fun h146 hm147 => ?_) (fun h146 hm150 => ?_) <;> clear hm145
    ·skip
     refine WC.region (wm Z ?_)
     obtain ⟨c148, hm149⟩ := cs hm147; clear hm147
     refine wq Z (QV.add Z Z Z Z c148) (wa Z (WL.nil (WQ.block ?_)))
     exact WQ.again2 ((IntKind.i64.wrap (shrD (IntKind.u64.wrap (i14_3 + j15_3)) 1)) + 1) j15_3 m127 (up_next hm149 hn130) (Nat.lt_succ_self _) ⟨Z, Z, Z, Z, Z, trivial⟩ (pk [0, 1])
    refine WC.region (wm Z (wa Z (WL.nil (WQ.block ?_))))
    exact WQ.again2 i14_3 (IntKind.i64.wrap (shrD (IntKind.u64.wrap (i14_3 + j15_3)) 1)) m127 (up_next hm150 hn130) (Nat.lt_succ_self _) ⟨Z, Z, Z, Z, Z, trivial⟩ (pk [0, 1])
   refine WC.exit (te (te (WQ.block_exit ?_)))
   exact WQ.out2 i14_3 j15_3 (up_brk hm151 hn130) ⟨Z, Z, Z, Z, Z, trivial⟩ (pk [0, 1])
  refine sk (WQ.then (sr (wm Z (wm Z ?_))))
  obtain ⟨c153, c155, hm156⟩ := cs2 hm152; clear hm152
  refine wq Z (QV.add Z Z Z Z c153) (wq Z (QV.intToInt Try.underlying143 Try.underlying3 Z Z) (wq Z (QV.shrU Z Z Z Z (by decide)) (wq Z (QV.intToInt Try.underlying3 Try.underlying143 Z Z) (wa Z (ns (wm Z (wm Z (wq Z (QV.add Z Z Z Z c155) (wa Z ?_)))))))))
  refine ns (wa Z (wa Z (nt (WC.seq (sr (wm Z (wm Z (wq Z (QV.gtr Z Z Z Z) (nt ?_)))))))))
  obtain ⟨o157, hj158, hm159⟩ := bd_some hm156; clear hm156
  refine WC.joint2 (H2 := [kn M w.heap.size K0 K0, ovec v_data 148 3 (List.map Due.cells data)]) (τ := [u_ 0 _, u_ 1 _, u_ 2 _, u_ 3 _, u_ 4 _, u_ 18 _, u_ 19 _]) (fun (start20_5 : Int) (r21_5 : Int) => [(20, (true, i_ start20_5)), (21, (true, i_ r21_5))]) (fun start20_5 r21_5 => []) (fun start20_5 r21_5 => o157 = .go (start20_5, r21_5)) ⟨Z, Z, Z, Z, Z, Z, Z, trivial⟩ (pk [0, 1]) ?_ ?_
  ·skip
   rintro start20_5 r21_5 rfl
   refine sr (wm Z ?_)
   obtain ⟨c160, hm161⟩ := cs hm159; clear hm159
   refine wq Z (QV.sub Z Z Z Z c160) (wa Z (nt (WC.seq ?_)))
   obtain ⟨o162, ho163, hm164⟩ := bd_some hm161; clear hm161; obtain ⟨n165, ho166⟩ := lp_some ho163
   refine WC.bloop2 (H2 := [kn M w.heap.size K0 K0, ovec v_data 148 3 (List.map Due.cells data)]) (τ := [u_ 0 _, u_ 1 _, u_ 2 _, u_ 3 _, u_ 4 _, u_ 18 _, u_ 19 _, u_ 22 _]) (fun (start20_6 : Int) (r21_6 : Int) => [(20, (true, i_ start20_6)), (21, (true, i_ r21_6))]) (fun start20_6 r21_6 => []) (fun start20_6 r21_6 m => iter (slices_symMergeCmpFunc_kernel_result__L8 data a m_ b) m (start20_6, r21_6) = some o162) (fun start20_6 r21_6 => o162 = .go (start20_6, r21_6)) start20_5 r21_5 n165 ho166 ⟨Z, Z, Z, Z, Z, Z, Z, Z, Z, Z, trivial⟩ (pk [0, 1]) ?_ ?_
   ·skip
    rintro start20_6 r21_6 rfl
    refine WQ.then (sr (wm Z (wm Z ?_)))
    obtain ⟨c167, hm168⟩ := cs hm164; clear hm164
    refine wq Z (QV.sub Z Z Z Z c167) (wa Z (nt (WC.seq (sr (wm Z (wm Z (wq Z (QV.lss Z Z Z Z) (wm Z (gp Z (fun hG => QV.move Z Z) (gp Z (fun hG => QV.move Z Z) (gp Z (fun hG => QV.lss Z hG Z hG) ?_)))))))))))
    refine wq Z (QV.pickAnd Z Z Z (fun h => h)) (nt ?_)
    refine wc Z hm168 (fun h169 hm170 => ?_) (fun h169 hm196 => ?_) <;> clear hm168
    ·skip
     refine WC.region (wm Z (wm Z (wm Z (wm Z (wm Z (WL.effect Z ?_))))))
     obtain ⟨x171, hx172, hm173⟩ := bd_some hm170; clear hm170
     refine (EV.callR (X := World) (R := [ovec v_data 148 3 (List.map Due.cells data)]) (fun X => .tuple #[]) (fun X => [ovec v_data 148 3 (List.map Due.cells x171)]) (fun X => X) (fun X => SliceLen v_data (x171).length) hk (fun _ h => by cases h; decide) en145 (ec Z (ec Z (ec Z (ec Z (ec Z eN))))) (fun M w h1 h2 => have h := slices_rotateCmpFunc_kernel_result__w hx172 h_data M w h1 h2; h) (fun X174 hF174 hle174 => ?_))
     refine nt (WC.seq (sr (wm Z (wm Z (wq Z (QV.lss Z Z Z Z) (wm Z (gp Z (fun hG => QV.move Z Z) (gp Z (fun hG => QV.move Z Z) (gp Z (fun hG => QV.lss Z hG Z hG) (wq Z (QV.pickAnd Z Z Z (fun h => h)) (nt ?_)))))))))))
     refine wc Z hm173 (fun h175 hm176 => ?_) (fun h175 hm188 => ?_) <;> clear hm173
     ·skip
      refine WC.region (wm Z (wm Z (wm Z (wm Z (wm Z (WL.effect Z ?_))))))
      obtain ⟨x177, hx178, hm179⟩ := bd_some hm176; clear hm176
      refine (EV.callR (X := World) (R := [ovec v_data 148 3 (List.map Due.cells x171)]) (fun X => .tuple #[]) (fun X => [ovec v_data 148 3 (List.map Due.cells x177)]) (fun X => X) (fun X => SliceLen v_data (x177).length) hk (fun _ h => by cases h; decide) en138 (ec Z (ec Z (ec Z (ec Z (ec Z eN))))) (fun M w h1 h2 => have h := IH hx178 hF174 M w h1 h2; h) (fun X180 hF180 hle180 => ?_))
      refine ns (wm Z (wm Z (wq Z (QV.lss Z Z Z Z) (wm Z (gp Z (fun hG => QV.move Z Z) (gp Z (fun hG => QV.move Z Z) (gp Z (fun hG => QV.lss Z hG Z hG) (wq Z (QV.pickAnd Z Z Z (fun h => h)) (nt ?_)))))))))
      refine wc Z hm179 (fun h181 hm182 => ?_) (fun h181 hm187 => ?_) <;> clear hm179
      ·skip
       refine WC.region (wm Z (wm Z (wm Z (wm Z (wm Z (WL.effect Z ?_))))))
       obtain ⟨x183, hx184, hm185⟩ := bd_some hm182; clear hm182
       refine (EV.callR (X := World) (R := [ovec v_data 148 3 (List.map Due.cells x177)]) (fun X => .tuple #[]) (fun X => [ovec v_data 148 3 (List.map Due.cells x183)]) (fun X => X) (fun X => SliceLen v_data (x183).length) hk (fun _ h => by cases h; decide) en138 (ec Z (ec Z (ec Z (ec Z (ec Z eN))))) (fun M w h1 h2 => have h := IH hx184 hF180 M w h1 h2; h) (fun X186 hF186 hle186 => ?_))
       refine WL.nil ?_
       obtain rfl := (eq_of_some hm185).symm
       refine WQ.end0 Z (fun w hw => ?_)
       exact ⟨X186, Z, hw.pick [0, 1] (by decide), hF186⟩
      refine sk ?_
      obtain rfl := (eq_of_some hm187).symm
      refine WQ.end0 Z (fun w hw => ?_)
      exact ⟨X180, Z, hw.pick [0, 1] (by decide), hF180⟩
     refine sk (WQ.then (sr (wm Z (wm Z (wq Z (QV.lss Z Z Z Z) (wm Z (gp Z (fun hG => QV.move Z Z) (gp Z (fun hG => QV.move Z Z) (gp Z (fun hG => QV.lss Z hG Z hG) (wq Z (QV.pickAnd Z Z Z (fun h => h)) (nt ?_)))))))))))
     refine wc Z hm188 (fun h189 hm190 => ?_) (fun h189 hm195 => ?_) <;> clear hm188
     ·skip
      refine WC.region (wm Z (wm Z (wm Z (wm Z (wm Z (WL.effect Z ?_))))))
      obtain ⟨x191, hx192, hm193⟩ := bd_some hm190; clear hm190
      refine (EV.callR (X := World) (R := [ovec v_data 148 3 (List.map Due.cells x171)]) (fun X => .tuple #[]) (fun X => [ovec v_data 148 3 (List.map Due.cells x191)]) (fun X => X) (fun X => SliceLen v_data (x191).length) hk (fun _ h => by cases h; decide) en138 (ec Z (ec Z (ec Z (ec Z (ec Z eN))))) (fun M w h1 h2 => have h := IH hx192 hF174 M w h1 h2; h) (fun X194 hF194 hle194 => ?_))
      refine WL.nil ?_
      obtain rfl := (eq_of_some hm193).symm
      refine WQ.end0 Z (fun w hw => ?_)
      exact ⟨X194, Z, hw.pick [0, 1] (by decide), hF194⟩
     refine sk ?_
     obtain rfl := (eq_of_some hm195).symm
     refine WQ.end0 Z (fun w hw => ?_)
     exact ⟨X174, Z, hw.pick [0, 1] (by decide), hF174⟩
    refine sk (WQ.then (WC.seq (sr (wm Z (wm Z (wq Z (QV.lss Z Z Z Z) (wm Z (gp Z (fun hG => QV.move Z Z) (gp Z (fun hG => QV.move Z Z) (gp Z (fun hG => QV.lss Z hG Z hG) (wq Z (QV.pickAnd Z Z Z (fun h => h)) (nt ?_))))))))))))
    refine wc Z hm196 (fun h197 hm198 => ?_) (fun h197 hm210 => ?_) <;> clear hm196
    ·skip
     refine WC.region (wm Z (wm Z (wm Z (wm Z (wm Z (WL.effect Z ?_))))))
     obtain ⟨x199, hx200, hm201⟩ := bd_some hm198; clear hm198
     refine (EV.callR (X := World) (R := [ovec v_data 148 3 (List.map Due.cells data)]) (fun X => .tuple #[]) (fun X => [ovec v_data 148 3 (List.map Due.cells x199)]) (fun X => X) (fun X => SliceLen v_data (x199).length) hk (fun _ h => by cases h; decide) en138 (ec Z (ec Z (ec Z (ec Z (ec Z eN))))) (fun M w h1 h2 => have h := IH hx200 h_data M w h1 h2; h) (fun X202 hF202 hle202 => ?_))
     refine ns (wm Z (wm Z (wq Z (QV.lss Z Z Z Z) (wm Z (gp Z (fun hG => QV.move Z Z) (gp Z (fun hG => QV.move Z Z) (gp Z (fun hG => QV.lss Z hG Z hG) (wq Z (QV.pickAnd Z Z Z (fun h => h)) (nt ?_)))))))))
     refine wc Z hm201 (fun h203 hm204 => ?_) (fun h203 hm209 => ?_) <;> clear hm201
     ·skip
      refine WC.region (wm Z (wm Z (wm Z (wm Z (wm Z (WL.effect Z ?_))))))
      obtain ⟨x205, hx206, hm207⟩ := bd_some hm204; clear hm204
      refine (EV.callR (X := World) (R := [ovec v_data 148 3 (List.map Due.cells x199)]) (fun X => .tuple #[]) (fun X => [ovec v_data 148 3 (List.map Due.cells x205)]) (fun X => X) (fun X => SliceLen v_data (x205).length) hk (fun _ h => by cases h; decide) en138 (ec Z (ec Z (ec Z (ec Z (ec Z eN))))) (fun M w h1 h2 => have h := IH hx206 hF202 M w h1 h2; h) (fun X208 hF208 hle208 => ?_))
      refine WL.nil ?_
      obtain rfl := (eq_of_some hm207).symm
      refine WQ.end0 Z (fun w hw => ?_)
      exact ⟨X208, Z, hw.pick [0, 1] (by decide), hF208⟩
     refine sk ?_
     obtain rfl := (eq_of_some hm209).symm
     refine WQ.end0 Z (fun w hw => ?_)
     exact ⟨X202, Z, hw.pick [0, 1] (by decide), hF202⟩
    refine sk (WQ.then (sr (wm Z (wm Z (wq Z (QV.lss Z Z Z Z) (wm Z (gp Z (fun hG => QV.move Z Z) (gp Z (fun hG => QV.move Z Z) (gp Z (fun hG => QV.lss Z hG Z hG) (wq Z (QV.pickAnd Z Z Z (fun h => h)) (nt ?_)))))))))))
    refine wc Z hm210 (fun h211 hm212 => ?_) (fun h211 hm217 => ?_) <;> clear hm210
    ·skip
     refine WC.region (wm Z (wm Z (wm Z (wm Z (wm Z (WL.effect Z ?_))))))
     obtain ⟨x213, hx214, hm215⟩ := bd_some hm212; clear hm212
     refine (EV.callR (X := World) (R := [ovec v_data 148 3 (List.map Due.cells data)]) (fun X => .tuple #[]) (fun X => [ovec v_data 148 3 (List.map Due.cells x213)]) (fun X => X) (fun X => SliceLen v_data (x213).length) hk (fun _ h => by cases h; decide) en138 (ec Z (ec Z (ec Z (ec Z (ec Z eN))))) (fun M w h1 h2 => have h := IH hx214 h_data M w h1 h2; h) (fun X216 hF216 hle216 => ?_))
     refine WL.nil ?_
     obtain rfl := (eq_of_some hm215).symm
     refine WQ.end0 Z (fun w hw => ?_)
     exact ⟨X216, Z, hw.pick [0, 1] (by decide), hF216⟩
    refine sk ?_
    obtain rfl := (eq_of_some hm217).symm
    refine WQ.end0 Z (fun w hw => ?_)
    exact ⟨K0, Z, hw.pick [0, 1] (by decide), h_data⟩
   rintro start20_6 r21_6 m218 hI219
   obtain ⟨m220, s221, rfl, hm222, hn223⟩ := iter_step hI219; clear hI219; unfold slices_symMergeCmpFunc_kernel_result__L8 at hm222; simp only at hm222
   refine WC.seq (sr (wm Z (wm Z (wq Z (QV.lss Z Z Z Z) (nt ?_)))))
   refine wc Z hm222 (fun h224 hm225 => ?_) (fun h224 hm246 => ?_) <;> clear hm222
   ·skip
    refine sk (WQ.then (WC.block (sr (wm Z (wm Z ?_)))))
    obtain ⟨c226, c228, c230, hm231⟩ := cs3 hm225; clear hm225
    refine wq Z (QV.add Z Z Z Z c226) (wq Z (QV.intToInt Try.underlying143 Try.underlying3 Z Z) (wq Z (QV.shrU Z Z Z Z (by decide)) (wq Z (QV.intToInt Try.underlying3 Try.underlying143 Z Z) (wa Z (nt (WC.seq (WC.dr (m := 14) (by kernel_rfl) (by kernel_rfl) (fun w hw => hw) (zm 0 Z Z (zm 1 Z Z (zm 2 Z Z ?_))))))))))
    refine zm 3 Z Z (wz 4 Z Z (QV.sub Z Z Z Z c228) ?_)
    obtain ⟨p232, hp233⟩ := h_data.ix (sz := 3) ln_len c230
    refine wz 5 Z Z (QV.indexSlice sl95 Z Z Z Z hp233) (wz 6 Z Z (QV.loadAgg ag148 Z Z Z (fun w hw => ((Own.ovecArr 1 Z) w hw).ele hp233 c230)) (zm 7 Z Z (zm 8 Z Z ?_)))
    obtain ⟨c234, hm235⟩ := cs hm231; clear hm231
    obtain ⟨p236, hp237⟩ := h_data.ix (sz := 3) ln_len c234
    refine wz 9 Z Z (QV.indexSlice sl95 Z Z Z Z hp237) (wz 10 Z Z (QV.loadAgg ag148 Z Z Z (fun w hw => ((Own.ovecArr 1 Z) w hw).ele hp237 c234)) ?_)
    obtain ⟨x238, hx239, hm240⟩ := bd_some hm235; clear hm235
    refine wz 11 Z Z (QV.callV en100 Z Z (ec Z (ec Z eN)) (fun w hw => have h := kernel_machine_land_c1_w w hx239 ; h)) (wz 12 Z Z (QV.lss Z Z Z Z) (wz 13 Z Z (QV.not Z Z) ?_))
    refine WD.e (by kernel_rfl) ?_
    refine WQ.then ?_
    refine wc Z hm240 (fun h241 hm242 => ?_) (fun h241 hm245 => ?_) <;> clear hm240
    ·skip
     refine WC.region (wm Z ?_)
     obtain ⟨c243, hm244⟩ := cs hm242; clear hm242
     refine wq Z (QV.add Z Z Z Z c243) (wa Z (WL.nil (WQ.block ?_)))
     exact WQ.again2 ((IntKind.i64.wrap (shrD (IntKind.u64.wrap (start20_6 + r21_6)) 1)) + 1) r21_6 m220 (up_next hm244 hn223) (Nat.lt_succ_self _) ⟨Z, Z, Z, Z, Z, Z, Z, Z, Z, Z, trivial⟩ (pk [0, 1])
    refine WC.region (wm Z (wa Z (WL.nil (WQ.block ?_))))
    exact WQ.again2 start20_6 (IntKind.i64.wrap (shrD (IntKind.u64.wrap (start20_6 + r21_6)) 1)) m220 (up_next hm245 hn223) (Nat.lt_succ_self _) ⟨Z, Z, Z, Z, Z, Z, Z, Z, Z, Z, trivial⟩ (pk [0, 1])
   refine WC.exit (te (te (WQ.block_exit ?_)))
   exact WQ.out2 start20_6 r21_6 (up_brk hm246 hn223) ⟨Z, Z, Z, Z, Z, Z, Z, Z, Z, Z, trivial⟩ (pk [0, 1])
  refine WC.cond Z (fun h247 => ?_) (fun h247 => ?_)
  ·skip
   have hm248 := br_t h247 hj158; clear hj158
   refine sr (wm Z (wm Z ?_))
   obtain ⟨c249, hm250⟩ := cs hm248; clear hm248
   refine wq Z (QV.sub Z Z Z Z c249) (wa Z (nr (wm Z (wa Z (WL.nil ?_)))))
   exact WQ.out2 (((IntKind.i64.wrap (shrD (IntKind.u64.wrap (a + b)) 1)) + m_) - b) (IntKind.i64.wrap (shrD (IntKind.u64.wrap (a + b)) 1)) (eq_of_some hm250) ⟨Z, Z, Z, Z, Z, Z, Z, Z, Z, trivial⟩ (pk [0, 1])
  have hm251 := br_f h247 hj158; clear hj158
  refine sr (wm Z (wa Z (nr (wm Z (wa Z (WL.nil ?_))))))
  exact WQ.out2 a m_ (eq_of_some hm251) ⟨Z, Z, Z, Z, Z, Z, Z, Z, Z, trivial⟩ (pk [0, 1])
theorem slices_stableCmpFunc_kernel_result__w {v_data : Value} {data : List Due} {n_ : Int} {r : List Due} {K0 : World} (hm : slices_stableCmpFunc_kernel_result__m data n_ = some r) (h_data : SliceLen v_data data.length) (M : Nat → Prop) (w : World) (hk : Base M K0 w) (hw0 : Own M w [ovec v_data 148 3 (List.map Due.cells data)] w) : Calls Try.prog 122 #[v_data, .int .i64 n_, .func (.func 100) #[] #[]] w (fun e w' => ∃ X : World, e = .returned (.tuple #[]) ∧ Own M w (kn M w.heap.size K0 X :: [ovec v_data 148 3 (List.map Due.cells r)]) w' ∧ SliceLen v_data (r).length) := by
 unfold slices_stableCmpFunc_kernel_result__m at hm
 refine calls_of_WC (n := 63) (args := [v_data, i_ n_, .func (.func 100) #[] #[]]) Try.func122 Z Z (nl Z) ?_ (Own.startK hk hw0)
 refine sr (wa Z (ns (wm Z (wa Z (wa Z (nt (WC.seq ?_)))))))
 obtain ⟨o1, ho2, hm3⟩ := bd_some hm; clear hm; obtain ⟨n4, ho5⟩ := lp_some ho2
 refine WC.bloop4 (H2 := []) (τ := [u_ 0 _, u_ 1 _, u_ 2 _, u_ 6 _]) (fun (ows0_1 : List Due) (a7_1 : Int) (b8_1 : Int) (k_1 : World) => [(7, (true, i_ a7_1)), (8, (true, i_ b8_1))]) (fun ows0_1 a7_1 b8_1 k_1 => [kn M w.heap.size K0 k_1, ovec v_data 148 3 (List.map Due.cells ows0_1)]) (fun ows0_1 a7_1 b8_1 k_1 m => iter (slices_stableCmpFunc_kernel_result__L0 n_) m (ows0_1, a7_1, b8_1) = some o1 ∧ SliceLen v_data ows0_1.length ∧ Le K0 k_1) (fun ows0_1 a7_1 b8_1 k_1 => o1 = .go (ows0_1, a7_1, b8_1) ∧ SliceLen v_data ows0_1.length ∧ Le K0 k_1) data 0 20 K0 n4 ⟨ho5, h_data, (Le.refl _)⟩ ⟨Z, Z, Z, Z, Z, Z, trivial⟩ (pk [0, 1]) ?_ ?_
 ·skip
  rintro ows0_1 a7_1 b8_1 k_1 ⟨rfl, hlows0_1, hle_1⟩
  refine WQ.then (sr (wm Z (wm Z (wm Z (wm Z (WL.effect Z ?_))))))
  obtain ⟨x6, hx7, hm8⟩ := bd_some hm3; clear hm3
  refine (EV.callR (X := World) (R := [ovec v_data 148 3 (List.map Due.cells ows0_1)]) (fun X => .tuple #[]) (fun X => [ovec v_data 148 3 (List.map Due.cells x6)]) (fun X => X) (fun X => SliceLen v_data (x6).length) hk (fun _ h => by cases h; decide) en137 (ec Z (ec Z (ec Z (ec Z eN)))) (fun M w h1 h2 => have h := slices_insertionSortCmpFunc_kernel_result__w hx7 hlows0_1 M w h1 h2; h) (fun X9 hF9 hle9 => ?_))
  refine nt ?_
  obtain ⟨o10, ho11, hm12⟩ := bd_some hm8; clear hm8; obtain ⟨n13, ho14⟩ := lp_some ho11
  refine WC.bloop3 (H2 := []) (τ := [u_ 0 _, u_ 1 _, u_ 2 _]) (fun (ows0_4 : List Due) (blockSize6_4 : Int) (k_4 : World) => [(6, (true, i_ blockSize6_4))]) (fun ows0_4 blockSize6_4 k_4 => [kn M w.heap.size K0 k_4, ovec v_data 148 3 (List.map Due.cells ows0_4)]) (fun ows0_4 blockSize6_4 k_4 m => iter (slices_stableCmpFunc_kernel_result__L2 n_) m (ows0_4, blockSize6_4) = some o10 ∧ SliceLen v_data ows0_4.length ∧ Le X9 k_4) (fun ows0_4 blockSize6_4 k_4 => o10 = .go (ows0_4, blockSize6_4) ∧ SliceLen v_data ows0_4.length ∧ Le X9 k_4) x6 20 X9 n13 ⟨ho14, hF9, (Le.refl _)⟩ ⟨Z, Z, Z, Z, trivial⟩ (pk [0, 1]) ?_ ?_
  ·skip
   rintro ows0_4 blockSize6_4 k_4 ⟨rfl, hlows0_4, hle_4⟩
   obtain rfl := (eq_of_some hm12).symm
   refine WQ.end0 Z (fun w hw => ?_)
   exact ⟨k_4, Z, hw.pick [0, 1] (by decide), hlows0_4⟩
  rintro ows0_4 blockSize6_4 k_4 m15 ⟨hI16, hlows0_4, hle_4⟩
  obtain ⟨m17, s18, rfl, hm19, hn20⟩ := iter_step hI16; clear hI16; unfold slices_stableCmpFunc_kernel_result__L2 at hm19; simp only at hm19
  refine WC.seq (sr (wm Z (wm Z (wq Z (QV.lss Z Z Z Z) (nt ?_)))))
  refine wc Z hm19 (fun h21 hm22 => ?_) (fun h21 hm62 => ?_) <;> clear hm19
  ·skip
   refine sk (WQ.then (WC.block (sr (wm Z ?_))))
   obtain ⟨c23, hm24⟩ := cs hm22; clear hm22
   refine wq Z (QV.mul Z Z Z Z c23) (wa Z (wa Z (nt (WC.seq ?_))))
   obtain ⟨o25, ho26, hm27⟩ := bd_some hm24; clear hm24; obtain ⟨n28, ho29⟩ := lp_some ho26
   refine WC.bloop4 (H2 := []) (τ := [u_ 0 _, u_ 1 _, u_ 2 _, u_ 6 _]) (fun (ows0_5 : List Due) (a7_5 : Int) (b8_5 : Int) (k_5 : World) => [(7, (true, i_ a7_5)), (8, (true, i_ b8_5))]) (fun ows0_5 a7_5 b8_5 k_5 => [kn M w.heap.size K0 k_5, ovec v_data 148 3 (List.map Due.cells ows0_5)]) (fun ows0_5 a7_5 b8_5 k_5 m => iter (slices_stableCmpFunc_kernel_result__L4 n_ blockSize6_4) m (ows0_5, a7_5, b8_5) = some o25 ∧ SliceLen v_data ows0_5.length ∧ Le k_4 k_5) (fun ows0_5 a7_5 b8_5 k_5 => o25 = .go (ows0_5, a7_5, b8_5) ∧ SliceLen v_data ows0_5.length ∧ Le k_4 k_5) ows0_4 0 (2 * blockSize6_4) k_4 n28 ⟨ho29, hlows0_4, (Le.refl _)⟩ ⟨Z, Z, Z, Z, Z, Z, trivial⟩ (pk [0, 1]) ?_ ?_
   ·skip
    rintro ows0_5 a7_5 b8_5 k_5 ⟨rfl, hlows0_5, hle_5⟩
    refine WQ.then (WC.seq (sr (wm Z (wm Z ?_))))
    obtain ⟨c30, hm31⟩ := cs hm27; clear hm27
    refine wq Z (QV.add Z Z Z Z c30) (wa Z (ns (wm Z (wm Z (wq Z (QV.lss Z Z Z Z) (nt ?_))))))
    refine wc Z hm31 (fun h32 hm33 => ?_) (fun h32 hm40 => ?_) <;> clear hm31
    ·skip
     refine WC.region (wm Z (wm Z (wm Z (wm Z (wm Z (WL.effect Z ?_))))))
     obtain ⟨x34, hx35, hm36⟩ := bd_some hm33; clear hm33
     refine (EV.callR (X := World) (R := [ovec v_data 148 3 (List.map Due.cells ows0_5)]) (fun X => .tuple #[]) (fun X => [ovec v_data 148 3 (List.map Due.cells x34)]) (fun X => X) (fun X => SliceLen v_data (x34).length) hk (fun _ h => by cases h; decide) en138 (ec Z (ec Z (ec Z (ec Z (ec Z eN))))) (fun M w h1 h2 => have h := slices_symMergeCmpFunc_kernel_result__w 64 hx35 hlows0_5 M w h1 h2; h) (fun X37 hF37 hle37 => ?_))
     refine nr (wm Z ?_)
     obtain ⟨c38, hm39⟩ := cs hm36; clear hm36
     refine wq Z (QV.mul Z Z Z Z c38) (wa Z (WL.nil (WQ.block ?_)))
     exact WQ.again3 x34 (blockSize6_4 * 2) X37 m17 ⟨up_next hm39 hn20, hF37, ((hle_4.trans hle_5).trans hle37)⟩ (Nat.lt_succ_self _) ⟨Z, Z, Z, Z, trivial⟩ (pk [0, 1])
    refine sk (WQ.then (WC.region (wm Z ?_)))
    obtain ⟨c41, hm42⟩ := cs hm40; clear hm40
    refine wq Z (QV.mul Z Z Z Z c41) (wa Z (WL.nil (WQ.block ?_)))
    exact WQ.again3 ows0_5 (blockSize6_4 * 2) k_5 m17 ⟨up_next hm42 hn20, hlows0_5, (hle_4.trans hle_5)⟩ (Nat.lt_succ_self _) ⟨Z, Z, Z, Z, trivial⟩ (pk [0, 1])
   rintro ows0_5 a7_5 b8_5 k_5 m43 ⟨hI44, hlows0_5, hle_5⟩
   obtain ⟨m45, s46, rfl, hm47, hn48⟩ := iter_step hI44; clear hI44; unfold slices_stableCmpFunc_kernel_result__L4 at hm47; simp only at hm47
   refine WC.seq (sr (wm Z (wm Z (wq Z (QV.leq Z Z Z Z) (nt ?_)))))
   refine wc Z hm47 (fun h49 hm50 => ?_) (fun h49 hm61 => ?_) <;> clear hm47
   ·skip
    refine sk (WQ.then (WC.block (sr (wm Z (wm Z (wm Z (wm Z ?_)))))))
    obtain ⟨c51, hm52⟩ := cs hm50; clear hm50
    refine wq Z (QV.add Z Z Z Z c51) (wm Z (wm Z (WL.effect Z ?_)))
    obtain ⟨x53, hx54, hm55⟩ := bd_some hm52; clear hm52
    refine (EV.callR (X := World) (R := [ovec v_data 148 3 (List.map Due.cells ows0_5)]) (fun X => .tuple #[]) (fun X => [ovec v_data 148 3 (List.map Due.cells x53)]) (fun X => X) (fun X => SliceLen v_data (x53).length) hk (fun _ h => by cases h; decide) en138 (ec Z (ec Z (ec Z (ec Z (ec Z eN))))) (fun M w h1 h2 => have h := slices_symMergeCmpFunc_kernel_result__w 64 hx54 hlows0_5 M w h1 h2; h) (fun X56 hF56 hle56 => ?_))
    refine ns (wm Z (wa Z (nr (wm Z (wm Z ?_)))))
    obtain ⟨c57, c59, hm60⟩ := cs2 hm55; clear hm55
    refine wq Z (QV.mul Z Z Z Z c57) (wq Z (QV.add Z Z Z Z c59) (wa Z (WL.nil (WQ.block ?_))))
    exact WQ.again4 x53 b8_5 (b8_5 + (2 * blockSize6_4)) X56 m45 ⟨up_next hm60 hn48, hF56, (hle_5.trans hle56)⟩ (Nat.lt_succ_self _) ⟨Z, Z, Z, Z, Z, Z, trivial⟩ (pk [0, 1])
   refine WC.exit (te (te (WQ.block_exit ?_)))
   exact WQ.out4 ows0_5 a7_5 b8_5 k_5 ⟨up_brk hm61 hn48, hlows0_5, hle_5⟩ ⟨Z, Z, Z, Z, Z, Z, trivial⟩ (pk [0, 1])
  refine WC.exit (te (te (WQ.block_exit ?_)))
  exact WQ.out3 ows0_4 blockSize6_4 k_4 ⟨up_brk hm62 hn20, hlows0_4, hle_4⟩ ⟨Z, Z, Z, Z, trivial⟩ (pk [0, 1])
 rintro ows0_1 a7_1 b8_1 k_1 m63 ⟨hI64, hlows0_1, hle_1⟩
 obtain ⟨m65, s66, rfl, hm67, hn68⟩ := iter_step hI64; clear hI64; unfold slices_stableCmpFunc_kernel_result__L0 at hm67; simp only at hm67
 refine WC.seq (sr (wm Z (wm Z (wq Z (QV.leq Z Z Z Z) (nt ?_)))))
 refine wc Z hm67 (fun h69 hm70 => ?_) (fun h69 hm77 => ?_) <;> clear hm67
 ·skip
  refine sk (WQ.then (WC.block (sr (wm Z (wm Z (wm Z (wm Z (WL.effect Z ?_))))))))
  obtain ⟨x71, hx72, hm73⟩ := bd_some hm70; clear hm70
  refine (EV.callR (X := World) (R := [ovec v_data 148 3 (List.map Due.cells ows0_1)]) (fun X => .tuple #[]) (fun X => [ovec v_data 148 3 (List.map Due.cells x71)]) (fun X => X) (fun X => SliceLen v_data (x71).length) hk (fun _ h => by cases h; decide) en137 (ec Z (ec Z (ec Z (ec Z eN)))) (fun M w h1 h2 => have h := slices_insertionSortCmpFunc_kernel_result__w hx72 hlows0_1 M w h1 h2; h) (fun X74 hF74 hle74 => ?_))
  refine ns (wm Z (wa Z (nr (wm Z (wm Z ?_)))))
  obtain ⟨c75, hm76⟩ := cs hm73; clear hm73
  refine wq Z (QV.add Z Z Z Z c75) (wa Z (WL.nil (WQ.block ?_)))
  exact WQ.again4 x71 b8_1 (b8_1 + 20) X74 m65 ⟨up_next hm76 hn68, hF74, (hle_1.trans hle74)⟩ (Nat.lt_succ_self _) ⟨Z, Z, Z, Z, Z, Z, trivial⟩ (pk [0, 1])
 refine WC.exit (te (te (WQ.block_exit ?_)))
 exact WQ.out4 ows0_1 a7_1 b8_1 k_1 ⟨up_brk hm77 hn68, hlows0_1, hle_1⟩ ⟨Z, Z, Z, Z, Z, Z, trivial⟩ (pk [0, 1])
theorem slices_SortStableFunc___kernel_result_kernel_result__w {v_x : Value} {x r : List Due} {K0 : World} (hm : slices_SortStableFunc___kernel_result_kernel_result__m x = some r) (h_x : SliceLen v_x x.length) (M : Nat → Prop) (w : World) (hk : Base M K0 w) (hw0 : Own M w [ovec v_x 148 3 (List.map Due.cells x)] w) : Calls Try.prog 99 #[v_x, .func (.func 100) #[] #[]] w (fun e w' => ∃ X : World, e = .returned (.tuple #[]) ∧ Own M w (kn M w.heap.size K0 X :: [ovec v_x 148 3 (List.map Due.cells r)]) w' ∧ SliceLen v_x (r).length) := by
 unfold slices_SortStableFunc___kernel_result_kernel_result__m at hm
 refine calls_of_WC (n := 9) (args := [v_x, .func (.func 100) #[] #[]]) Try.func99 Z Z (nl Z) ?_ (Own.startK hk hw0)
 refine WC.region (wm Z (wm Z (wq Z (QV.lenS Try.underlying95 Z Z h_x) (wm Z (WL.effect Z ?_)))))
 obtain ⟨x1, hx2, hm3⟩ := bd_some hm; clear hm
 refine (EV.callR (X := World) (R := [ovec v_x 148 3 (List.map Due.cells x)]) (fun X => .tuple #[]) (fun X => [ovec v_x 148 3 (List.map Due.cells x1)]) (fun X => X) (fun X => SliceLen v_x (x1).length) hk (fun _ h => by cases h; decide) en122 (ec Z (ec Z (ec Z eN))) (fun M w h1 h2 => have h := slices_stableCmpFunc_kernel_result__w hx2 h_x M w h1 h2; h) (fun X4 hF4 hle4 => ?_))
 refine WL.nil ?_
 obtain rfl := (eq_of_some hm3).symm
 refine WQ.end0 Z (fun w hw => ?_)
 exact ⟨X4, Z, hw.pick [0, 1] (by decide), hF4⟩
end Go.Proofs.Ytaimbkndebaaiab
end
section
namespace Go.Proofs.Ytaimbkndebaaiab
open Go.Rd
open TNum TLoop TStable
namespace TMach
theorem en119 : Go.Rd.Enters Try.prog 119 := eT Try.func119
theorem en94 : Go.Rd.Enters Try.prog 94 := eT Try.func94
theorem en99 : Go.Rd.Enters Try.prog 99 := eT Try.func99
theorem fd148_1 : FieldT Try.prog 148 1 1 := fT 0 Try.underlying148
theorem fd148_2 : FieldT Try.prog 148 2 2 := fT 0 Try.underlying148
theorem fd97_0 : FieldT Try.prog 97 0 0 := fT 6 Try.underlying97
theorem fd97_2 : FieldT Try.prog 97 2 10 := fT 0 Try.underlying97
theorem fd97_5 : FieldT Try.prog 97 5 13 := fT 0 Try.underlying97
theorem pl95 : Plain Try.prog 95 := ⟨_, Try.underlying95, rfl⟩
theorem sl28 : SliceT Try.prog 28 2 1 := ⟨Try.underlying28, by kernel_rfl⟩
theorem sz2 : SizeT Try.prog 2 1 := by unfold SizeT; kernel_rfl
theorem sz95 : SizeT Try.prog 95 1 := by unfold SizeT; kernel_rfl
theorem sz_30 : SliceZ Try.prog 30 3 1 [.int .i64 0] := ⟨Try.underlying30, by kernel_rfl⟩
theorem ve30 : VecT Try.prog 30 3 1 8 := ⟨Try.underlying30, by kernel_rfl, by decide⟩
end TMach
open TMach
theorem math_bits_Len64_w {x r : Int} (w : World) (hm : math_bits_Len64_m x = some r)  : Calls Try.prog 119 #[.int .u64 x] w (fun e w' => e = .returned (.int .i64 r) ∧ Grow w w') := by
 unfold math_bits_Len64_m at hm
 have hk := Base.rfl (w := w)
 refine calls_of_WC (n := 25) (args := [.int .u64 x]) Try.func119 Z Z (nl Z) ?_ (Own.startK hk (Own.start w))
 refine sr (wa Z (nt (WC.seq (sr (wm Z (wq Z (QV.geq Z Z Z Z) (nt ?_)))))))
 obtain ⟨o1, hj2, hm3⟩ := bd_some hm; clear hm
 refine WC.joint2 (H2 := [kn noM w.heap.size w w]) (τ := []) (fun (x0_1 : Int) (n2_1 : Int) => [(0, (true, .int .u64 x0_1)), (2, (true, i_ n2_1))]) (fun x0_1 n2_1 => []) (fun x0_1 n2_1 => o1 = .go (x0_1, n2_1)) trivial (pk [0]) ?_ ?_
 ·skip
  rintro x0_1 n2_1 rfl
  refine WC.seq (sr (wm Z (wq Z (QV.geq Z Z Z Z) (nt ?_))))
  obtain ⟨o4, hj5, hm6⟩ := bd_some hm3; clear hm3
  refine WC.joint2 (H2 := [kn noM w.heap.size w w]) (τ := []) (fun (x0_2 : Int) (n2_2 : Int) => [(0, (true, .int .u64 x0_2)), (2, (true, i_ n2_2))]) (fun x0_2 n2_2 => []) (fun x0_2 n2_2 => o4 = .go (x0_2, n2_2)) trivial (pk [0]) ?_ ?_
  ·skip
   rintro x0_2 n2_2 rfl
   refine WC.seq (sr (wm Z (wq Z (QV.geq Z Z Z Z) (nt ?_))))
   refine wc Z hm6 (fun h7 hm8 => ?_) (fun h7 hm15 => ?_) <;> clear hm6
   ·skip
    refine sr (wm Z (wq Z (QV.shrU Z Z Z Z (by decide)) (wa Z (nr (wm Z ?_)))))
    obtain ⟨c9, c11, c13, hm14⟩ := cs3 hm8; clear hm8
    refine wq Z (QV.add Z Z Z Z c9) (wa Z (ns (wm Z (wm Z (wq Z (QV.eqv (wrap_bt (shrD x0_2 8)) (QV.intToInt Try.underlying5 Try.underlying167 Z Z)) (wq Z (QV.indexStr Try.underlying9 Z Z Z Z c11) (wq Z (QV.eqv (wrap_byte (ele len8T ((bt (shrD x0_2 8)).toNat : Int))) (QV.intToInt Try.underlying3 Try.underlying5 Z Z)) (wq Z (QV.add Z Z Z Z c13) (wa Z ?_)))))))))
    refine nt (WC.ret ?_)
    obtain rfl := (eq_of_some hm14).symm
    exact WQ.ret1 Z Z fun w hw => kg hw
   refine sk (WQ.then (sr (wm Z (wm Z (wq Z (QV.eqv (wrap_bt x0_2) (QV.intToInt Try.underlying5 Try.underlying167 Z Z)) ?_)))))
   obtain ⟨c16, c18, hm19⟩ := cs2 hm15; clear hm15
   refine wq Z (QV.indexStr Try.underlying9 Z Z Z Z c16) (wq Z (QV.eqv (wrap_byte (ele len8T ((bt x0_2).toNat : Int))) (QV.intToInt Try.underlying3 Try.underlying5 Z Z)) (wq Z (QV.add Z Z Z Z c18) (wa Z (nt (WC.ret ?_)))))
   obtain rfl := (eq_of_some hm19).symm
   exact WQ.ret1 Z Z fun w hw => kg hw
  refine WC.cond Z (fun h20 => ?_) (fun h20 => ?_)
  ·skip
   have hm21 := br_t h20 hj5; clear hj5
   refine sr (wm Z (wq Z (QV.shrU Z Z Z Z (by decide)) (wa Z (nr (wm Z ?_)))))
   obtain ⟨c22, hm23⟩ := cs hm21; clear hm21
   refine wq Z (QV.add Z Z Z Z c22) (wa Z (WL.nil ?_))
   exact WQ.out2 (shrD x0_1 16) (n2_1 + 16) (eq_of_some hm23) ⟨Z, Z, trivial⟩ (pk [0])
  have hm24 := br_f h20 hj5; clear hj5
  refine sk ?_
  exact WQ.out2 x0_1 n2_1 (eq_of_some hm24) ⟨Z, Z, trivial⟩ (pk [0])
 refine WC.cond Z (fun h25 => ?_) (fun h25 => ?_)
 ·skip
  have hm26 := br_t h25 hj2; clear hj2
  refine sr (wm Z (wq Z (QV.shrU Z Z Z Z (by decide)) (wa Z (nr (wa Z (WL.nil ?_))))))
  exact WQ.out2 (shrD x 32) 32 (eq_of_some hm26) ⟨Z, Z, trivial⟩ (pk [0])
 have hm27 := br_f h25 hj2; clear hj2
 refine sk ?_
 exact WQ.out2 x 0 (eq_of_some hm27) ⟨Z, Z, trivial⟩ (pk [0])
theorem math_bits_Len_w {x r : Int} (w : World) (hm : math_bits_Len_m x = some r)  : Calls Try.prog 94 #[.int .u64 x] w (fun e w' => e = .returned (.int .i64 r) ∧ Grow w w') := by
 unfold math_bits_Len_m at hm
 have hk := Base.rfl (w := w)
 refine calls_of_WC (n := 8) (args := [.int .u64 x]) Try.func94 Z Z (nl Z) ?_ (Own.startK hk (Own.start w))
 refine sr (wa Z (nt (WC.seq ?_)))
 refine WC.cond Z (fun h1 => ?_) (fun h1 => ?_)
 ·skip
  cases h1
 refine sk (WQ.then (sr (wm Z ?_)))
 obtain ⟨x2, hx3, hm4⟩ := bd_some hm; clear hm
 refine wq Z (QV.call en119 (ec Z eN) (fun w hw => have h := math_bits_Len64_w w hx3 ; h)) (wa Z (nt (WC.ret ?_)))
 obtain rfl := (eq_of_some hm4).symm
 exact WQ.ret1 Z Z fun w hw => kg hw
theorem kernel_Logs_w {v_memory : Value} {memory : List (List Int)} {r : List Int × Bool} {K0 : World} (hm : kernel_Logs_m memory = some r) (h_memory : RowsA K0 v_memory memory) (M : Nat → Prop) (w : World) (hk : Base M K0 w) (hw0 : Own M w [] w) : Calls Try.prog 53 #[v_memory] w (fun e w' => ∃ X : Value × World, e = .returned (.tuple #[X.1, .bool r.2]) ∧ Own M w (kn M w.heap.size K0 X.2 :: []) w' ∧ Arr X.2 X.1 1 (r.1.map icell)) := by
 unfold kernel_Logs_m at hm
 refine calls_of_WC (n := 38) (args := [v_memory]) Try.func53 Z Z (nl Z) ?_ (Own.startK hk hw0)
 refine sr (wa Z (wa Z (ns (wa Z (nt (WC.seq (sr (wm Z (wq Z (QV.lenS Try.underlying29 Z Z h_memory.slen) (wm Z (nt ?_)))))))))))
 refine WK.of (fun w hw => hw.vecNil (E := 3) (sz := 1) (enc := icell)) ?_
 obtain ⟨o2, ho3, hm4⟩ := bd_some hm; clear hm; obtain ⟨n5, ho6⟩ := lp_some ho3
 refine WC.bloop3 (H2 := [kn M w.heap.size K0 K0]) (τ := [u_ 8 _, u_ 9 _]) (fun (v1_1 : List Int) (x10_1 : Int) (uv1_1 : Value) => [(4, (true, uv1_1)), (10, (true, i_ x10_1))]) (fun v1_1 x10_1 uv1_1 => [vec uv1_1 3 1 (List.map icell v1_1)]) (fun v1_1 x10_1 uv1_1 m => iter (kernel_Logs_L0 memory) m (v1_1, x10_1) = some o2 ∧ SliceLen uv1_1 v1_1.length) (fun v1_1 x10_1 uv1_1 => o2 = .go (v1_1, x10_1) ∧ SliceLen uv1_1 v1_1.length) [] 0 (.slice none 0 0) n5 ⟨ho6, SliceLen.nil⟩ ⟨Z, Z, Z, Z, trivial⟩ (pk [0, 1]) ?_ ?_
 ·skip
  rintro v1_1 x10_1 uv1_1 ⟨rfl, hlv1_1⟩
  refine WQ.then (sr (wm Z (wa Z (wa Z (nt (WC.ret ?_))))))
  obtain rfl := (eq_of_some hm4).symm
  refine WK.of (C' := Own M w [kn M w.heap.size K0 K0, vec uv1_1 3 1 (List.map icell v1_1)]) (pk [1, 0]) ?_
  refine WK.freeze hk (fun k7 hle7 hr7 => ?_)
  have hA7 := vec_arr hr7
  refine WQ.ret2 Z Z Z (fun w hw => ?_)
  exact ⟨(uv1_1, k7), Z, hw.pick [0] (by decide), hA7⟩
 rintro v1_1 x10_1 uv1_1 m8 ⟨hI9, hlv1_1⟩
 obtain ⟨m10, s11, rfl, hm12, hn13⟩ := iter_step hI9; clear hI9; unfold kernel_Logs_L0 at hm12; simp only at hm12
 refine sr (wq Z (QV.lss Z Z Z Z) (nt (WC.seq ?_)))
 refine wc Z hm12 (fun h14 hm15 => ?_) (fun h14 hm40 => ?_) <;> clear hm12
 ·skip
  refine sk (WQ.then (WC.seq (WC.block (sr ?_))))
  obtain ⟨c16, hm17⟩ := cs hm15; clear hm15
  obtain ⟨p18, u20, hp19, hc21, hA22⟩ := h_memory.ix c16
  refine wq Z (QV.indexSlice sl29 Z Z Z Z hp19) (wl pl28 Z (fun w hw => CellsAt.one 0 ((Own.kcells 1 Z hk hc21) w hw) Z) (wa Z (ns (wm Z (wq Z (QV.lenS Try.underlying28 Z Z hA22.lenMap) (wa Z (nt (WC.seq (sr (wm Z (wq Z (QV.eql Z Z Z Z) ?_)))))))))))
  refine wm Z (gn Z (fun hG => QV.move Z Z) (gn Z (fun hG => QV.move Z Z) ?_))
  obtain ⟨c23, hm24⟩ := cs hm17; clear hm17
  refine gn Z (fun hG => QV.sub Z hG Z Z (c23 hG)) (gn Z (fun hG => QV.andW Z hG Z hG) (gn Z (fun hG => QV.neq Z hG Z Z) (wq Z (QV.pickOr Z Z Z (fun h => notF h)) (wm Z (gn Z (fun hG => QV.move Z Z) (gn Z (fun hG => QV.gtr Z hG Z Z) (wq Z (QV.pickOr Z Z Z (fun h => notF h)) (nt ?_))))))))
  refine wc Z hm24 (fun h25 hm26 => ?_) (fun h25 hm27 => ?_) <;> clear hm24
  ·skip
   refine sr (wa Z (wa Z (nt (WC.ret (tr (kr (tr (tr (kr (tr (tr ?_)))))))))))
   obtain rfl := up_ret hm26 hn13
   obtain rfl := (eq_of_some hm4).symm
   refine WQ.ret2 Z Z Z (fun w hw => ?_)
   exact ⟨(.slice none 0 0, K0), Z, hw.pick [1] (by decide), Arr.nil⟩
  refine sk (WQ.then (WC.region (wm Z (wm Z (wq Z (QV.intToInt Try.underlying143 Try.underlying3 Z Z) ?_)))))
  obtain ⟨x28, hx29, hm30⟩ := bd_some hm27; clear hm27
  refine wq Z (QV.call en94 (ec Z eN) (fun w hw => have h := math_bits_Len_w w hx29 ; h)) ?_
  obtain ⟨c31, c34, c38, hm39⟩ := cs3 hm30; clear hm30
  refine wq Z (QV.sub Z Z Z Z c31) (WL.effect Z ?_)
  refine (EV.buildSlice (by decide) sz_30 (by decide) (by decide) (ps := [(0, .tmp 33)]) (cells := [i_ (x28 - 1)]) (ec Z eN) (by kernel_rfl) (fun b33 => ?_))
  refine WL.effect Z ?_
  refine (EV.appendL (enc := icell) (xs := v1_1) (ys := [(x28 - 1)]) ((v1_1 ++ [(x28 - 1)])) 1 (by decide) ve30 Z Z Z Z Z (Own.blkArr 0 (rows := [(x28 - 1)].map icell) Z Z (rows_len icell_len)) icell_len (icell_one _) Z c34.1 c34.2 (fun u36 hu37 => ?_))
  refine wa Z (WL.nil (WQ.block (WQ.then (WC.region (wq Z (QV.add Z Z Z Z c38) (wm Z (WL.nil ?_)))))))
  exact WQ.again3 (v1_1 ++ [(x28 - 1)]) (x10_1 + 1) u36 m10 ⟨up_next hm39 hn13, hu37⟩ (Nat.lt_succ_self _) ⟨Z, Z, Z, Z, trivial⟩ (pk [1, 2])
 refine WC.exit (te (te (WQ.block_exit ?_)))
 exact WQ.out3 v1_1 x10_1 uv1_1 ⟨up_brk hm40 hn13, hlv1_1⟩ ⟨Z, Z, Z, Z, trivial⟩ (pk [0, 1])
theorem kernel_machine_reg_w {p_m : Addr} {v_m_Kernel_Ops v_m_regs v_m_memory v_m_pending : Value} {m_Target : Tgt} {m_Kernel_Pace m_Kernel_Stages m_turns r_ pace r : Int} (w : World) (hm : kernel_machine_reg_m m_Target m_Kernel_Pace m_Kernel_Stages m_turns r_ pace = some r) (hp_m : CellsAt w p_m [.int .i64 m_Target.u0, .int .i64 m_Target.u1, .int .i64 m_Target.u2, .int .i64 m_Target.w0, .int .i64 m_Target.w1, .int .i64 m_Target.w2, .int .i64 m_Target.regs, .int .i64 m_Kernel_Pace, .int .i64 m_Kernel_Stages, v_m_Kernel_Ops, v_m_regs, v_m_memory, .int .i64 m_turns, v_m_pending] 0) : Calls Try.prog 95 #[.pointer (some p_m), .int .i64 r_, .int .i64 pace] w (fun e w' => e = .returned (.int .i64 r) ∧ Grow w w') := by
 unfold kernel_machine_reg_m at hm
 have hk := Base.rfl (w := w)
 refine calls_of_WC (n := 16) (args := [.pointer (some p_m), i_ r_, i_ pace]) Try.func95 Z Z (nl Z) ?_ (Own.startK hk (Own.start w))
 refine sr (wa Z (ns (wm Z (wm Z ?_))))
 obtain ⟨c1, c3, hm4⟩ := cs2 hm; clear hm
 refine wq Z (QV.add Z Z Z Z c1) (wm Z (wq Z (QV.nilCheck Z Z) (wf fd97_0 Z (wf fd24_2 Z (wl pl3 Z (fun w hw => CellsAt.one 6 ((Own.kcells 0 Z hk hp_m) w hw) Z) (wq Z (QV.rem Z Z Z Z c3) (wa Z (nt (WC.ret ?_)))))))))
 obtain rfl := (eq_of_some hm4).symm
 exact WQ.ret1 Z Z fun w hw => kg hw
theorem kernel_machine_land_w {v_m_Kernel_Ops v_m_regs v_m_memory : Value} {hs_m_memory : List Value} {v_m_pending : Value} {b_m : Nat} {m_Target : Tgt} {m_Kernel_Pace m_Kernel_Stages : Int} {m_Kernel_Ops : List Opr} {m_regs : List Int} {m_memory : List (List Int)} {m_turns : Int} {m_pending : List Due} {cycle : Int} {r : List Int × List Due} {K0 : World} (hm : kernel_machine_land_m m_Target m_Kernel_Pace m_Kernel_Stages m_Kernel_Ops m_regs m_memory m_turns m_pending cycle = some r) (h_m_Kernel_Ops : Arr K0 v_m_Kernel_Ops 10 (m_Kernel_Ops.map Opr.cells)) (h_m_regs : SliceLen v_m_regs m_regs.length) (h_m_memory : SliceLen v_m_memory m_memory.length) (hg_m_memory : GL hs_m_memory m_memory) (h_m_pending : SliceLen v_m_pending m_pending.length) (M : Nat → Prop) (w : World) (hk : Base M K0 w) (hw0 : Own M w [blk b_m [.int .i64 m_Target.u0, .int .i64 m_Target.u1, .int .i64 m_Target.u2, .int .i64 m_Target.w0, .int .i64 m_Target.w1, .int .i64 m_Target.w2, .int .i64 m_Target.regs, .int .i64 m_Kernel_Pace, .int .i64 m_Kernel_Stages, v_m_Kernel_Ops, v_m_regs, v_m_memory, .int .i64 m_turns, v_m_pending] 97, vec v_m_regs 2 1 (List.map icell m_regs), grid v_m_memory hs_m_memory 28 2 m_memory, ovec v_m_pending 148 3 (List.map Due.cells m_pending)] w) : Calls Try.prog 57 #[.pointer (some (⟨b_m, 0, none⟩)), .int .i64 cycle] w (fun e w' => ∃ X : Value × Value × World, e = .returned (.tuple #[]) ∧ Own M w (kn M w.heap.size K0 X.2.2 :: [blk b_m [.int .i64 m_Target.u0, .int .i64 m_Target.u1, .int .i64 m_Target.u2, .int .i64 m_Target.w0, .int .i64 m_Target.w1, .int .i64 m_Target.w2, .int .i64 m_Target.regs, .int .i64 m_Kernel_Pace, .int .i64 m_Kernel_Stages, v_m_Kernel_Ops, X.1, v_m_memory, .int .i64 m_turns, X.2.1] 97, grid v_m_memory hs_m_memory 28 2 m_memory, vec X.1 2 1 (List.map icell r.1), ovec X.2.1 148 3 (List.map Due.cells r.2)]) w' ∧ SliceLen X.1 (r.1).length ∧ SliceLen X.2.1 (r.2).length) := by
 unfold kernel_machine_land_m at hm
 refine calls_of_WC (n := 61) (args := [.pointer (some (⟨b_m, 0, none⟩)), i_ cycle]) Try.func57 Z Z (nl Z) ?_ (Own.startK hk hw0)
 refine sr (wm Z (wq Z (QV.nilCheck Z Z) (wf fd97_5 Z (wl pl95 Z (Own.cell 1 Z Z) (WL.effect Z ?_)))))
 obtain ⟨x1, hx2, hm3⟩ := bd_some hm; clear hm
 refine EV.of (C' := Own M w [kn M w.heap.size K0 K0, ovec v_m_pending 148 3 (List.map Due.cells m_pending), blk b_m [i_ m_Target.u0, i_ m_Target.u1, i_ m_Target.u2, i_ m_Target.w0, i_ m_Target.w1, i_ m_Target.w2, i_ m_Target.regs, i_ m_Kernel_Pace, i_ m_Kernel_Stages, v_m_Kernel_Ops, v_m_regs, v_m_memory, i_ m_turns, v_m_pending] 97, vec v_m_regs 2 1 (List.map icell m_regs), grid v_m_memory hs_m_memory 28 2 m_memory]) (pk [0, 4, 1, 2, 3]) ?_
 refine (EV.callR (X := World) (R := [ovec v_m_pending 148 3 (List.map Due.cells m_pending)]) (fun X => .tuple #[]) (fun X => [ovec v_m_pending 148 3 (List.map Due.cells x1)]) (fun X => X) (fun X => SliceLen v_m_pending (x1).length) hk (fun _ h => by cases h; decide) en99 (ec Z (ec Z eN)) (fun M w h1 h2 => have h := slices_SortStableFunc___kernel_result_kernel_result__w hx2 h_m_pending M w h1 h2; h) (fun X4 hF4 hle4 => ?_))
 refine ns (wa Z (nt (WC.seq ?_)))
 obtain ⟨o5, ho6, hm7⟩ := bd_some hm3; clear hm3; obtain ⟨n8, ho9⟩ := lp_some ho6
 refine WC.bloop2 (H2 := [kn M w.heap.size K0 X4, ovec v_m_pending 148 3 (List.map Due.cells x1), blk b_m [i_ m_Target.u0, i_ m_Target.u1, i_ m_Target.u2, i_ m_Target.w0, i_ m_Target.w1, i_ m_Target.w2, i_ m_Target.regs, i_ m_Kernel_Pace, i_ m_Kernel_Stages, v_m_Kernel_Ops, v_m_regs, v_m_memory, i_ m_turns, v_m_pending] 97, grid v_m_memory hs_m_memory 28 2 m_memory]) (τ := [u_ 0 _, u_ 1 _]) (fun (own0v10_1 : List Int) (n4_1 : Int) => [(4, (true, i_ n4_1))]) (fun own0v10_1 n4_1 => [vec v_m_regs 2 1 (List.map icell own0v10_1)]) (fun own0v10_1 n4_1 m => iter (kernel_machine_land_L0 cycle x1) m (own0v10_1, n4_1) = some o5 ∧ SliceLen v_m_regs own0v10_1.length) (fun own0v10_1 n4_1 => o5 = .go (own0v10_1, n4_1) ∧ SliceLen v_m_regs own0v10_1.length) m_regs 0 n8 ⟨ho9, h_m_regs⟩ ⟨Z, Z, Z, trivial⟩ (pk [3, 0, 1, 2, 4]) ?_ ?_
 ·skip
  rintro own0v10_1 n4_1 ⟨rfl, hlown0v10_1⟩
  refine WQ.then (WC.region (wm Z (wm Z (wq Z (QV.nilCheck Z Z) (wf fd97_5 Z (wl pl95 Z (Own.cell 3 Z Z) (wm Z ?_)))))))
  obtain ⟨c10, hm11⟩ := cs hm7; clear hm7
  refine wq Z (QV.sliceLd sl95 Z Z hF4 Z Z c10) (wq Z (QV.nilCheck Z Z) (wf fd97_5 Z (WL.effect Z ?_)))
  refine EV.of (C' := Own M w [ovec v_m_pending 148 3 (List.map Due.cells x1), vec v_m_regs 2 1 (List.map icell own0v10_1), kn M w.heap.size K0 X4, blk b_m [i_ m_Target.u0, i_ m_Target.u1, i_ m_Target.u2, i_ m_Target.w0, i_ m_Target.w1, i_ m_Target.w2, i_ m_Target.regs, i_ m_Kernel_Pace, i_ m_Kernel_Stages, v_m_Kernel_Ops, v_m_regs, v_m_memory, i_ m_turns, v_m_pending] 97, grid v_m_memory hs_m_memory 28 2 m_memory]) (pk [2, 0, 1, 3, 4]) ?_
  have hl12 := subS_slen (sz := 3) hF4 c10
  refine EV.of (C' := Own M w [ovec (subS v_m_pending 3 (Int.toNat n4_1) (Int.toNat (ln x1))) 148 3 (List.map Due.cells (sub x1 n4_1 (ln x1))), vec v_m_regs 2 1 (List.map icell own0v10_1), kn M w.heap.size K0 X4, blk b_m [i_ m_Target.u0, i_ m_Target.u1, i_ m_Target.u2, i_ m_Target.w0, i_ m_Target.w1, i_ m_Target.w2, i_ m_Target.regs, i_ m_Kernel_Pace, i_ m_Kernel_Stages, v_m_Kernel_Ops, v_m_regs, v_m_memory, i_ m_turns, v_m_pending] 97, grid v_m_memory hs_m_memory 28 2 m_memory]) (fun w hw => hw.ovecCut (sub_le c10) (sub_end c10)) ?_
  refine (EV.store 3 Z Z Z Z Z Z (vs := [(subS v_m_pending 3 (Int.toNat n4_1) (Int.toNat (ln x1)))]) (SliceLen.cells hl12) sz95 (nl Z) (oc (SliceLen.one hl12) one_nil) ?_)
  refine WL.nil ?_
  obtain rfl := (eq_of_some hm11).symm
  refine WQ.end0 Z (fun w hw => ?_)
  exact ⟨(v_m_regs, (subS v_m_pending 3 (Int.toNat n4_1) (Int.toNat (ln x1))), X4), Z, hw.pick [2, 3, 4, 1, 0] (by decide), hlown0v10_1, hl12⟩
 rintro own0v10_1 n4_1 m13 ⟨hI14, hlown0v10_1⟩
 obtain ⟨m15, s16, rfl, hm17, hn18⟩ := iter_step hI14; clear hI14; unfold kernel_machine_land_L0 at hm17; simp only at hm17
 refine WC.seq (sr (wm Z (wm Z (wq Z (QV.nilCheck Z Z) (wf fd97_5 Z (wl pl95 Z (Own.cell 3 Z Z) (wq Z (QV.lenS Try.underlying95 Z Z hF4) (wq Z (QV.lss Z Z Z Z) (wm Z (gp Z (fun hG => QV.move Z Z) ?_))))))))))
 refine gp Z (fun hG => QV.nilCheck Z hG) (gp Z (fun hG => QV.fieldAddr fd97_5 Z hG) (gp Z (fun hG => QV.load pl95 Z hG (Own.cell 3 Z Z)) (gp Z (fun hG => QV.move Z Z) ?_)))
 obtain ⟨c19, hm20⟩ := cs hm17; clear hm17
 obtain ⟨p21, hp22⟩ := hF4.ixG (sz := 3) ln_len c19
 refine gp Z (fun hG => QV.indexSlice sl95 Z hG Z hG (hp22 hG)) (gp Z (fun hG => QV.fieldAddr fd148_0 Z hG) (gp Z (fun hG => QV.load pl3 Z hG (fun w hw => CellsAt.one 0 (((Own.ovecArr 2 Z) w hw).ele (hp22 hG) (c19 hG)) Z)) (gp Z (fun hG => QV.move Z Z) (gp Z (fun hG => QV.leq Z hG Z hG) (wq Z (QV.pickAnd Z Z Z (fun h => h)) (nt ?_))))))
 refine wc Z hm20 (fun h23 hm24 => ?_) (fun h23 hm40 => ?_) <;> clear hm20
 ·skip
  refine sk (WQ.then (WC.seq (WC.block (WC.dr (m := 22) (S := Own M w [kn M w.heap.size K0 X4, vec v_m_regs 2 1 (List.map icell own0v10_1), ovec v_m_pending 148 3 (List.map Due.cells x1), blk b_m [i_ m_Target.u0, i_ m_Target.u1, i_ m_Target.u2, i_ m_Target.w0, i_ m_Target.w1, i_ m_Target.w2, i_ m_Target.regs, i_ m_Kernel_Pace, i_ m_Kernel_Stages, v_m_Kernel_Ops, v_m_regs, v_m_memory, i_ m_turns, v_m_pending] 97, grid v_m_memory hs_m_memory 28 2 m_memory]) (by kernel_rfl) (by kernel_rfl) (pk [1, 0, 2, 3, 4]) (zm 0 Z Z (wz 1 Z Z (QV.nilCheck Z Z) (zf 2 fd97_2 Z Z (zl 3 pl28 Z Z (Own.cell 3 Z Z) (zm 4 Z Z (wz 5 Z Z (QV.nilCheck Z Z) (zf 6 fd97_5 Z Z (zl 7 pl95 Z Z (Own.cell 3 Z Z) ?_))))))))))))
  refine zm 8 Z Z ?_
  obtain ⟨c25, hm26⟩ := cs hm24; clear hm24
  obtain ⟨p27, hp28⟩ := hF4.ix (sz := 3) ln_len c25
  refine wz 9 Z Z (QV.indexSlice sl95 Z Z Z Z hp28) (zf 10 fd148_1 Z Z (zl 11 pl3 Z Z (fun w hw => CellsAt.one 1 (((Own.ovecArr 2 Z) w hw).ele hp28 c25) Z) (zm 12 Z Z (wz 13 Z Z (QV.nilCheck Z Z) (zf 14 fd97_5 Z Z (zl 15 pl95 Z Z (Own.cell 3 Z Z) (zm 16 Z Z ?_)))))))
  obtain ⟨c29, hm30⟩ := cs hm26; clear hm26
  obtain ⟨p31, hp32⟩ := hF4.ix (sz := 3) ln_len c29
  refine wz 17 Z Z (QV.indexSlice sl95 Z Z Z Z hp32) (zf 18 fd148_2 Z Z (zl 19 pl2 Z Z (fun w hw => CellsAt.one 2 (((Own.ovecArr 2 Z) w hw).ele hp32 c29) Z) ?_))
  obtain ⟨c33, hm34⟩ := cs hm30; clear hm30
  obtain ⟨p35, hp36⟩ := hlown0v10_1.ix (sz := 1) ln_len c33
  refine wz 20 Z Z (QV.indexSlice sl28 Z Z Z Z hp36) ?_
  refine WD.l 21 Z (by kernel_rfl) Z ?_
  refine (EV.storeV 0 ((ele x1 n4_1).v) icell_eq Z Z Z Z Z hp36 Z Z sz2 ?_)
  have hl37 : SliceLen v_m_regs (upd own0v10_1 ((ele x1 n4_1).reg) ((ele x1 n4_1).v)).length := slen_upd hlown0v10_1
  refine WQ.block (WQ.then (WC.region (wm Z ?_)))
  obtain ⟨c38, hm39⟩ := cs hm34; clear hm34
  refine wq Z (QV.add Z Z Z Z c38) (wa Z (WL.nil ?_))
  exact WQ.again2 (upd own0v10_1 ((ele x1 n4_1).reg) ((ele x1 n4_1).v)) (n4_1 + 1) m15 ⟨up_next hm39 hn18, hl37⟩ (Nat.lt_succ_self _) ⟨Z, Z, Z, trivial⟩ (pk [0, 1, 2, 3, 4])
 refine WC.exit (te (te (WQ.block_exit ?_)))
 exact WQ.out2 own0v10_1 n4_1 ⟨up_brk hm40 hn18, hlown0v10_1⟩ ⟨Z, Z, Z, trivial⟩ (pk [0, 1, 2, 3, 4])
end Go.Proofs.Ytaimbkndebaaiab
end
section
namespace Go.Proofs.Ytaimbkndebaaiab
open Go.Rd
open TNum TLoop TStable TMach
namespace TMach2
theorem ag45 : AggT Try.prog 45 10 := ⟨_, Try.underlying45, rfl, by kernel_rfl⟩
theorem en120 : Go.Rd.Enters Try.prog 120 := eT Try.func120
theorem en57 : Go.Rd.Enters Try.prog 57 := eT Try.func57
theorem en95 : Go.Rd.Enters Try.prog 95 := eT Try.func95
theorem en96 : Go.Rd.Enters Try.prog 96 := eT Try.func96
theorem en97 : Go.Rd.Enters Try.prog 97 := eT Try.func97
theorem en98 : Go.Rd.Enters Try.prog 98 := eT Try.func98
theorem fd27_0 : FieldT Try.prog 27 0 0 := fT 0 Try.underlying27
theorem fd27_2 : FieldT Try.prog 27 2 2 := fT 0 Try.underlying27
theorem fd45_0 : FieldT Try.prog 45 0 0 := fT 0 Try.underlying45
theorem fd45_1 : FieldT Try.prog 45 1 1 := fT 0 Try.underlying45
theorem fd45_2 : FieldT Try.prog 45 2 2 := fT 0 Try.underlying45
theorem fd45_3 : FieldT Try.prog 45 3 3 := fT 0 Try.underlying45
theorem fd45_4 : FieldT Try.prog 45 4 4 := fT 0 Try.underlying45
theorem fd45_5 : FieldT Try.prog 45 5 5 := fT 0 Try.underlying45
theorem fd45_6 : FieldT Try.prog 45 6 6 := fT 0 Try.underlying45
theorem fd45_7 : FieldT Try.prog 45 7 7 := fT 0 Try.underlying45
theorem fd45_8 : FieldT Try.prog 45 8 8 := fT 0 Try.underlying45
theorem fd45_9 : FieldT Try.prog 45 9 9 := fT 0 Try.underlying45
theorem fd97_1 : FieldT Try.prog 97 1 7 := fT 2 Try.underlying97
theorem fd97_3 : FieldT Try.prog 97 3 11 := fT 0 Try.underlying97
theorem fd97_4 : FieldT Try.prog 97 4 12 := fT 0 Try.underlying97
theorem pl1 : Plain Try.prog 1 := ⟨_, Try.underlying1, rfl⟩
theorem pl25 : Plain Try.prog 25 := ⟨_, Try.underlying25, rfl⟩
theorem pl92 : Plain Try.prog 92 := ⟨_, Try.underlying92, rfl⟩
theorem sl144 : SliceT Try.prog 144 1 1 := ⟨Try.underlying144, by kernel_rfl⟩
theorem sl25 : SliceT Try.prog 25 45 10 := ⟨Try.underlying25, by kernel_rfl⟩
theorem sz3 : SizeT Try.prog 3 1 := by unfold SizeT; kernel_rfl
theorem sz45 : SizeT Try.prog 45 10 := by unfold SizeT; kernel_rfl
theorem sz_144 : SliceZ Try.prog 144 1 1 [.nilFunc] := ⟨Try.underlying144, by kernel_rfl⟩
theorem sz_95 : SliceZ Try.prog 95 148 3 [.int .i64 0, .int .i64 0, .int .i64 0] := ⟨Try.underlying95, by kernel_rfl⟩
theorem ve144 : VecT Try.prog 144 1 1 8 := ⟨Try.underlying144, by kernel_rfl, by decide⟩
theorem ve95 : VecT Try.prog 95 148 3 24 := ⟨Try.underlying95, by kernel_rfl, by decide⟩
theorem ze2 : ZeroT Try.prog 2 [.int .i64 0] := by unfold ZeroT; kernel_rfl
theorem ze3 : ZeroT Try.prog 3 [.int .i64 0] := by unfold ZeroT; kernel_rfl
theorem ze45 : ZeroT Try.prog 45 [.int .i64 0, .int .i64 0, .int .i64 0, .int .i64 0, .int .i64 0, .int .i64 0, .int .i64 0, .int .i64 0, .int .i64 0, .int .i64 0] := by unfold ZeroT; kernel_rfl
end TMach2
open TMach2
theorem kernel_machine_word_w {v_m_Kernel_Ops v_m_regs v_m_memory : Value} {hs_m_memory : List Value} {v_m_pending : Value} {b_m : Nat} {m_Target : Tgt} {m_Kernel_Pace m_Kernel_Stages : Int} {m_Kernel_Ops : List Opr} {m_regs : List Int} {m_memory : List (List Int)} {m_turns : Int} {m_pending : List Due} {o : Opr} {turn : Int} {r : (Int × Int)} {K0 : World} (hm : kernel_machine_word_m m_Target m_Kernel_Pace m_Kernel_Stages m_Kernel_Ops m_regs m_memory m_turns m_pending o turn = some r) (h_m_Kernel_Ops : Arr K0 v_m_Kernel_Ops 10 (m_Kernel_Ops.map Opr.cells)) (h_m_regs : SliceLen v_m_regs m_regs.length) (h_m_memory : SliceLen v_m_memory m_memory.length) (hg_m_memory : GL hs_m_memory m_memory) (h_m_pending : SliceLen v_m_pending m_pending.length) (M : Nat → Prop) (w : World) (hk : Base M K0 w) (hw0 : Own M w [blk b_m [.int .i64 m_Target.u0, .int .i64 m_Target.u1, .int .i64 m_Target.u2, .int .i64 m_Target.w0, .int .i64 m_Target.w1, .int .i64 m_Target.w2, .int .i64 m_Target.regs, .int .i64 m_Kernel_Pace, .int .i64 m_Kernel_Stages, v_m_Kernel_Ops, v_m_regs, v_m_memory, .int .i64 m_turns, v_m_pending] 97, vec v_m_regs 2 1 (List.map icell m_regs), grid v_m_memory hs_m_memory 28 2 m_memory, ovec v_m_pending 148 3 (List.map Due.cells m_pending)] w) : Calls Try.prog 96 #[.pointer (some (⟨b_m, 0, none⟩)), .agg #[.int .i64 o.slot, .int .i64 o.stage, .int .i64 o.op, .int .i64 o.dest, .int .i64 o.a, .int .i64 o.b, .int .i64 o.ar, .int .i64 o.sp, .int .i64 o.pl, .int .i64 o.n], .int .i64 turn] w (fun e w' => ∃ X : Addr × World, e = .returned (.pointer (some X.1)) ∧ Own M w (kn M w.heap.size K0 X.2 :: [blk b_m [.int .i64 m_Target.u0, .int .i64 m_Target.u1, .int .i64 m_Target.u2, .int .i64 m_Target.w0, .int .i64 m_Target.w1, .int .i64 m_Target.w2, .int .i64 m_Target.regs, .int .i64 m_Kernel_Pace, .int .i64 m_Kernel_Stages, v_m_Kernel_Ops, v_m_regs, v_m_memory, .int .i64 m_turns, v_m_pending] 97, vec v_m_regs 2 1 (List.map icell m_regs), grid v_m_memory hs_m_memory 28 2 m_memory, ovec v_m_pending 148 3 (List.map Due.cells m_pending)]) w' ∧ IX r.1 (ln m_memory) ∧ ElemP (hat hs_m_memory r.1) r.2 1 X.1 ∧ IX r.2 (ln (ele m_memory r.1))) := by
 unfold kernel_machine_word_m at hm
 refine calls_of_WC (n := 29) (args := [.pointer (some (⟨b_m, 0, none⟩)), .agg #[i_ o.slot, i_ o.stage, i_ o.op, i_ o.dest, i_ o.a, i_ o.b, i_ o.ar, i_ o.sp, i_ o.pl, i_ o.n], i_ turn]) Try.func96 Z Z (nl Z) ?_ (Own.startK hk hw0)
 refine sr (WL.effect Z ?_)
 refine (EV.boxAgg (by decide) Z Z (fun b1 => ?_))
 refine wa Z (nt (WC.seq (WC.dr (m := 9) (S := Own M w [kn M w.heap.size K0 K0, blk b1 o.cells 45, blk b_m [i_ m_Target.u0, i_ m_Target.u1, i_ m_Target.u2, i_ m_Target.w0, i_ m_Target.w1, i_ m_Target.w2, i_ m_Target.regs, i_ m_Kernel_Pace, i_ m_Kernel_Stages, v_m_Kernel_Ops, v_m_regs, v_m_memory, i_ m_turns, v_m_pending] 97, vec v_m_regs 2 1 (List.map icell m_regs), grid v_m_memory hs_m_memory 28 2 m_memory, ovec v_m_pending 148 3 (List.map Due.cells m_pending)]) (by kernel_rfl) (by kernel_rfl) (pk [1, 0, 2, 3, 4, 5]) (zm 0 Z Z (wz 1 Z Z (QV.nilCheck Z Z) (zf 2 fd97_3 Z Z (zl 3 pl29 Z Z (Own.cell 2 Z Z) (zf 4 fd45_6 Z Z (zl 5 pl3 Z Z (Own.cell 1 Z Z) ?_)))))))))
 obtain ⟨c2, hm3⟩ := cs hm; clear hm
 obtain ⟨p4, hp5⟩ := h_m_memory.ix (sz := 1) ln_len c2
 refine wz 6 Z Z (QV.indexSlice sl29 Z Z Z Z hp5) (zl 7 pl28 Z Z (Own.gridHdr 4 Z hp5 c2) (wz 8 Z Z (QV.assign Z Z) ?_))
 refine WD.e (by kernel_rfl) ?_
 refine WQ.then (WC.seq (WC.dr (m := 14) (S := Own M w [kn M w.heap.size K0 K0, blk b1 o.cells 45, blk b_m [i_ m_Target.u0, i_ m_Target.u1, i_ m_Target.u2, i_ m_Target.w0, i_ m_Target.w1, i_ m_Target.w2, i_ m_Target.regs, i_ m_Kernel_Pace, i_ m_Kernel_Stages, v_m_Kernel_Ops, v_m_regs, v_m_memory, i_ m_turns, v_m_pending] 97, vec v_m_regs 2 1 (List.map icell m_regs), grid v_m_memory hs_m_memory 28 2 m_memory, ovec v_m_pending 148 3 (List.map Due.cells m_pending)]) (by kernel_rfl) (by kernel_rfl) (pk [1, 0, 2, 3, 4, 5]) (zm 0 Z Z (zf 1 fd45_7 Z Z (zl 2 pl3 Z Z (Own.cell 1 Z Z) (zf 3 fd45_8 Z Z (zl 4 pl3 Z Z (Own.cell 1 Z Z) (zm 5 Z Z (zm 6 Z Z (wz 7 Z Z (QV.lenS Try.underlying28 Z Z (hg_m_memory.ix o.ar)) ?_))))))))))
 refine wz 8 Z Z (QV.intToInt Try.underlying143 Try.underlying3 Z Z) ?_
 obtain ⟨x6, hx7, hm8⟩ := bd_some hm3; clear hm3
 refine wz 9 Z Z (QV.call en94 (ec Z eN) (fun w hw => have h := math_bits_Len_w w hx7 ; h)) ?_
 obtain ⟨c9, hm10⟩ := cs hm8; clear hm8
 refine wz 10 Z Z (QV.sub Z Z Z Z c9) ?_
 obtain ⟨x11, hx12, hm13⟩ := bd_some hm10; clear hm10
 refine wz 11 Z Z (QV.call en120 (ec Z (ec Z (ec Z (ec Z eN)))) (fun w hw => have h := num_Index_w w hx12 ; h)) ?_
 obtain ⟨c14, hm15⟩ := cs hm13; clear hm13
 obtain ⟨p16, hp17⟩ := (hg_m_memory.ix o.ar).ix (sz := 1) ln_len c14
 refine wz 12 Z Z (QV.indexSlice sl28 Z Z Z Z hp17) (wz 13 Z Z (QV.assign Z Z) ?_)
 refine WD.e (by kernel_rfl) ?_
 refine WQ.then (WC.ret ?_)
 obtain rfl := (eq_of_some hm15).symm
 refine WQ.ret1 Z Z (fun w hw => ?_)
 exact ⟨(p16, K0), Z, hw.pick [1, 2, 3, 4, 5] (by decide), c2, hp17, c14⟩
theorem kernel_machine_cycle_c1_w {p_a : Addr} {v_m_Kernel_Ops v_m_regs v_m_memory : Value} {hs_m_memory : List Value} {v_m_pending : Value} {b_m : Nat} {p_box1 p_o p_turn : Addr} {a : Int} {m_Target : Tgt} {m_Kernel_Pace m_Kernel_Stages : Int} {m_Kernel_Ops : List Opr} {m_regs : List Int} {m_memory : List (List Int)} {m_turns : Int} {m_pending : List Due} {o : Opr} {turn : Int} {r : List (List Int)} {K0 : World} (hm : kernel_machine_cycle_c1_m a m_Target m_Kernel_Pace m_Kernel_Stages m_Kernel_Ops m_regs m_memory m_turns m_pending o turn = some r) (hp_a : CellsAt K0 p_a [.int .i64 a] 0) (h_m_Kernel_Ops : Arr K0 v_m_Kernel_Ops 10 (m_Kernel_Ops.map Opr.cells)) (h_m_regs : SliceLen v_m_regs m_regs.length) (h_m_memory : SliceLen v_m_memory m_memory.length) (hg_m_memory : GL hs_m_memory m_memory) (h_m_pending : SliceLen v_m_pending m_pending.length) (hp_box1 : CellsAt K0 p_box1 [.pointer (some (⟨b_m, 0, none⟩))] 0) (hp_o : CellsAt K0 p_o [.int .i64 o.slot, .int .i64 o.stage, .int .i64 o.op, .int .i64 o.dest, .int .i64 o.a, .int .i64 o.b, .int .i64 o.ar, .int .i64 o.sp, .int .i64 o.pl, .int .i64 o.n] 0) (hp_turn : CellsAt K0 p_turn [.int .i64 turn] 0) (M : Nat → Prop) (w : World) (hk : Base M K0 w) (hw0 : Own M w [blk b_m [.int .i64 m_Target.u0, .int .i64 m_Target.u1, .int .i64 m_Target.u2, .int .i64 m_Target.w0, .int .i64 m_Target.w1, .int .i64 m_Target.w2, .int .i64 m_Target.regs, .int .i64 m_Kernel_Pace, .int .i64 m_Kernel_Stages, v_m_Kernel_Ops, v_m_regs, v_m_memory, .int .i64 m_turns, v_m_pending] 97, vec v_m_regs 2 1 (List.map icell m_regs), grid v_m_memory hs_m_memory 28 2 m_memory, ovec v_m_pending 148 3 (List.map Due.cells m_pending)] w) : Calls Try.prog 97 #[.pointer (some p_a), .pointer (some p_box1), .pointer (some p_o), .pointer (some p_turn)] w (fun e w' => ∃ X : Value × (List Value) × World, e = .returned (.tuple #[]) ∧ Own M w (kn M w.heap.size K0 X.2.2 :: [blk b_m [.int .i64 m_Target.u0, .int .i64 m_Target.u1, .int .i64 m_Target.u2, .int .i64 m_Target.w0, .int .i64 m_Target.w1, .int .i64 m_Target.w2, .int .i64 m_Target.regs, .int .i64 m_Kernel_Pace, .int .i64 m_Kernel_Stages, v_m_Kernel_Ops, v_m_regs, X.1, .int .i64 m_turns, v_m_pending] 97, vec v_m_regs 2 1 (List.map icell m_regs), ovec v_m_pending 148 3 (List.map Due.cells m_pending), grid X.1 X.2.1 28 2 r]) w' ∧ SliceLen X.1 (r).length ∧ GL X.2.1 r) := by
 unfold kernel_machine_cycle_c1_m at hm
 refine calls_of_WC (n := 10) (args := [.pointer (some p_a), .pointer (some p_box1), .pointer (some p_o), .pointer (some p_turn)]) Try.func97 Z Z (nl Z) ?_ (Own.startK hk hw0)
 refine WC.dr (m := 7) (by kernel_rfl) (by kernel_rfl) (fun w hw => hw) (zl 0 pl92 Z Z (fun w hw => CellsAt.one 0 ((Own.kcells 0 Z hk hp_box1) w hw) Z) (wz 1 Z Z (QV.loadAgg ag45 Z Z Z (Own.kcells 0 Z hk hp_o)) (zl 2 pl3 Z Z (fun w hw => CellsAt.one 0 ((Own.kcells 0 Z hk hp_turn) w hw) Z) ?_)))
 refine WD.toL 7 (by kernel_rfl) ?_
 refine WD.qL 4 7 23 Z (by kernel_rfl) Z Z Z (QV.load pl2 Z Z (fun w hw => CellsAt.one 0 ((Own.kcells 0 Z hk hp_a) w hw) Z)) ?_
 refine WD.oL 3 23 31 Z (by kernel_rfl) Z ?_
 obtain ⟨x1, hx2, hm3⟩ := bd_some hm; clear hm
 refine (EV.callR (X := Addr × World) (R := [blk b_m [i_ m_Target.u0, i_ m_Target.u1, i_ m_Target.u2, i_ m_Target.w0, i_ m_Target.w1, i_ m_Target.w2, i_ m_Target.regs, i_ m_Kernel_Pace, i_ m_Kernel_Stages, v_m_Kernel_Ops, v_m_regs, v_m_memory, i_ m_turns, v_m_pending] 97, vec v_m_regs 2 1 (List.map icell m_regs), grid v_m_memory hs_m_memory 28 2 m_memory, ovec v_m_pending 148 3 (List.map Due.cells m_pending)]) (fun X => .pointer (some X.1)) (fun X => [blk b_m [i_ m_Target.u0, i_ m_Target.u1, i_ m_Target.u2, i_ m_Target.w0, i_ m_Target.w1, i_ m_Target.w2, i_ m_Target.regs, i_ m_Kernel_Pace, i_ m_Kernel_Stages, v_m_Kernel_Ops, v_m_regs, v_m_memory, i_ m_turns, v_m_pending] 97, vec v_m_regs 2 1 (List.map icell m_regs), grid v_m_memory hs_m_memory 28 2 m_memory, ovec v_m_pending 148 3 (List.map Due.cells m_pending)]) (fun X => X.2) (fun X => IX x1.1 (ln m_memory) ∧ ElemP (hat hs_m_memory x1.1) x1.2 1 X.1 ∧ IX x1.2 (ln (ele m_memory x1.1))) hk (fun _ h => by cases h; decide) en96 (ec Z (ec Z (ec Z eN))) (fun M w h1 h2 => have h := kernel_machine_word_w hx2 h_m_Kernel_Ops h_m_regs h_m_memory hg_m_memory h_m_pending M w h1 h2; h) (fun X4 hF4 hle4 => ?_))
 refine WD.b (H' := [kn M w.heap.size K0 X4.2, blk b_m [i_ m_Target.u0, i_ m_Target.u1, i_ m_Target.u2, i_ m_Target.w0, i_ m_Target.w1, i_ m_Target.w2, i_ m_Target.regs, i_ m_Kernel_Pace, i_ m_Kernel_Stages, v_m_Kernel_Ops, v_m_regs, v_m_memory, i_ m_turns, v_m_pending] 97, vec v_m_regs 2 1 (List.map icell m_regs), grid v_m_memory hs_m_memory 28 2 m_memory, ovec v_m_pending 148 3 (List.map Due.cells m_pending)]) (pk [0, 1, 2, 3, 4]) (fun w hw => Own.forget hle4 (Le.refl _) (hw.pick [0, 1, 2, 3, 4] (by decide))) ?_
 refine WD.qL 5 31 63 Z (by kernel_rfl) Z Z Z (QV.nilCheck Z Z) ?_
 refine WD.lL 6 63 127 Z (by kernel_rfl) Z ?_
 refine (EV.storeG 3 a Z Z Z Z Z hF4.1 hF4.2.1 sz2 ?_)
 have hg6 := hg_m_memory.updG x1.1 x1.2 a
 have hl5 : SliceLen v_m_memory (updG m_memory x1.1 x1.2 a).length := slen_updG h_m_memory
 obtain rfl := (eq_of_some hm3).symm
 refine WQ.end0 Z (fun w hw => ?_)
 exact ⟨(v_m_memory, hs_m_memory, X4.2), Z, hw.pick [0, 1, 2, 4, 3] (by decide), hl5, hg6⟩
theorem kernel_machine_cycle_w {v_m_Kernel_Ops v_m_regs v_m_memory : Value} {hs_m_memory : List Value} {v_m_pending : Value} {b_m : Nat} {m_Target : Tgt} {m_Kernel_Pace m_Kernel_Stages : Int} {m_Kernel_Ops : List Opr} {m_regs : List Int} {m_memory : List (List Int)} {m_turns : Int} {m_pending : List Due} {pace slot : Int} {r : List Int × List (List Int) × List Due} {K0 : World} (hm : kernel_machine_cycle_m m_Target m_Kernel_Pace m_Kernel_Stages m_Kernel_Ops m_regs m_memory m_turns m_pending pace slot = some r) (h_m_Kernel_Ops : Arr K0 v_m_Kernel_Ops 10 (m_Kernel_Ops.map Opr.cells)) (h_m_regs : SliceLen v_m_regs m_regs.length) (h_m_memory : SliceLen v_m_memory m_memory.length) (hg_m_memory : GL hs_m_memory m_memory) (h_m_pending : SliceLen v_m_pending m_pending.length) (M : Nat → Prop) (w : World) (hk : Base M K0 w) (hw0 : Own M w [blk b_m [.int .i64 m_Target.u0, .int .i64 m_Target.u1, .int .i64 m_Target.u2, .int .i64 m_Target.w0, .int .i64 m_Target.w1, .int .i64 m_Target.w2, .int .i64 m_Target.regs, .int .i64 m_Kernel_Pace, .int .i64 m_Kernel_Stages, v_m_Kernel_Ops, v_m_regs, v_m_memory, .int .i64 m_turns, v_m_pending] 97, vec v_m_regs 2 1 (List.map icell m_regs), grid v_m_memory hs_m_memory 28 2 m_memory, ovec v_m_pending 148 3 (List.map Due.cells m_pending)] w) : Calls Try.prog 56 #[.pointer (some (⟨b_m, 0, none⟩)), .int .i64 pace, .int .i64 slot] w (fun e w' => ∃ X : Value × Value × (List Value) × Value × World, e = .returned (.tuple #[]) ∧ Own M w (kn M w.heap.size K0 X.2.2.2.2 :: [blk b_m [.int .i64 m_Target.u0, .int .i64 m_Target.u1, .int .i64 m_Target.u2, .int .i64 m_Target.w0, .int .i64 m_Target.w1, .int .i64 m_Target.w2, .int .i64 m_Target.regs, .int .i64 m_Kernel_Pace, .int .i64 m_Kernel_Stages, v_m_Kernel_Ops, X.1, X.2.1, .int .i64 m_turns, X.2.2.2.1] 97, vec X.1 2 1 (List.map icell r.1), grid X.2.1 X.2.2.1 28 2 r.2.1, ovec X.2.2.2.1 148 3 (List.map Due.cells r.2.2)]) w' ∧ SliceLen X.1 (r.1).length ∧ SliceLen X.2.1 (r.2.1).length ∧ GL X.2.2.1 r.2.1 ∧ SliceLen X.2.2.2.1 (r.2.2).length) := by
 unfold kernel_machine_cycle_m at hm
 refine calls_of_WC (n := 147) (args := [.pointer (some (⟨b_m, 0, none⟩)), i_ pace, i_ slot]) Try.func56 Z Z (nl Z) ?_ (Own.startK hk hw0)
 refine sr (WL.effect Z ?_)
 refine (EV.box1 (by decide) Z Z Z (fun b1 => ?_))
 refine WK.of (C' := Own M w [kn M w.heap.size K0 K0, blk b1 [.pointer (some (⟨b_m, 0, none⟩))] 92, blk b_m [i_ m_Target.u0, i_ m_Target.u1, i_ m_Target.u2, i_ m_Target.w0, i_ m_Target.w1, i_ m_Target.w2, i_ m_Target.regs, i_ m_Kernel_Pace, i_ m_Kernel_Stages, v_m_Kernel_Ops, v_m_regs, v_m_memory, i_ m_turns, v_m_pending] 97, vec v_m_regs 2 1 (List.map icell m_regs), grid v_m_memory hs_m_memory 28 2 m_memory, ovec v_m_pending 148 3 (List.map Due.cells m_pending)]) (pk [1, 0, 2, 3, 4, 5]) ?_
 refine WK.freeze hk (fun k2 hle2 hr2 => ?_)
 have hc2 := blk_cells hr2
 refine ns (wm Z (wl pl92 Z (fun w hw => CellsAt.one 0 ((Own.kcells 0 Z hk hc2) w hw) Z) (wq Z (QV.nilCheck Z Z) (wf fd97_1 Z (wf fd27_0 Z (wl pl3 Z (Own.cell 1 Z Z) ?_))))))
 obtain ⟨c3, c5, hm6⟩ := cs2 hm; clear hm
 refine wq Z (QV.mul Z Z Z Z c3) (wm Z (wq Z (QV.add Z Z Z Z c5) (wa Z (ns (wl pl92 Z (fun w hw => CellsAt.one 0 ((Own.kcells 0 Z hk hc2) w hw) Z) (wm Z (WL.effect Z ?_)))))))
 obtain ⟨x7, hx8, hm9⟩ := bd_some hm6; clear hm6
 refine (EV.callR (X := Value × Value × World) (R := [blk b_m [i_ m_Target.u0, i_ m_Target.u1, i_ m_Target.u2, i_ m_Target.w0, i_ m_Target.w1, i_ m_Target.w2, i_ m_Target.regs, i_ m_Kernel_Pace, i_ m_Kernel_Stages, v_m_Kernel_Ops, v_m_regs, v_m_memory, i_ m_turns, v_m_pending] 97, vec v_m_regs 2 1 (List.map icell m_regs), grid v_m_memory hs_m_memory 28 2 m_memory, ovec v_m_pending 148 3 (List.map Due.cells m_pending)]) (fun X => .tuple #[]) (fun X => [blk b_m [i_ m_Target.u0, i_ m_Target.u1, i_ m_Target.u2, i_ m_Target.w0, i_ m_Target.w1, i_ m_Target.w2, i_ m_Target.regs, i_ m_Kernel_Pace, i_ m_Kernel_Stages, v_m_Kernel_Ops, X.1, v_m_memory, i_ m_turns, X.2.1] 97, grid v_m_memory hs_m_memory 28 2 m_memory, vec X.1 2 1 (List.map icell x7.1), ovec X.2.1 148 3 (List.map Due.cells x7.2)]) (fun X => X.2.2) (fun X => SliceLen X.1 (x7.1).length ∧ SliceLen X.2.1 (x7.2).length) hk (fun _ h => by cases h; decide) en57 (ec Z (ec Z eN)) (fun M w h1 h2 => have h := kernel_machine_land_w hx8 (h_m_Kernel_Ops.le hle2) h_m_regs h_m_memory hg_m_memory h_m_pending M w h1 h2; h) (fun X10 hF10 hle10 => ?_))
 refine ns (wa Z (nt (WC.seq (sr (wl pl92 Z (fun w hw => CellsAt.one 0 ((Own.kcells 0 Z hk (hc2.le hle10)) w hw) Z) (wq Z (QV.nilCheck Z Z) (wf fd97_1 Z (wf fd27_2 Z (wl pl25 Z (Own.cell 1 Z Z) (wq Z (QV.lenS Try.underlying25 Z Z (h_m_Kernel_Ops.le (hle2.trans hle10)).lenMap) (wm Z ?_)))))))))))
 refine nt ?_
 refine WK.of (fun w hw => hw.vecNil (E := 1) (sz := 1) (enc := fcell)) ?_
 obtain ⟨o12, ho13, hm14⟩ := bd_some hm9; clear hm9; obtain ⟨n15, ho16⟩ := lp_some ho13
 refine WC.bloop7 (H2 := [grid v_m_memory hs_m_memory 28 2 m_memory, vec X10.1 2 1 (List.map icell x7.1)]) (τ := [u_ 1 _, u_ 2 _, u_ 3 _, u_ 6 _, u_ 32 _, u_ 33 _]) (fun (own0v13_1 : List Due) (v11_1 : List (Opr × Int × Int)) (x34_1 : Int) (uown0v13_1 : Value) (uv11_1 : Value) (Bv11_1 : List (Value × Opr × Int × Int)) (k_1 : World) => [(7, (true, uv11_1)), (34, (true, i_ x34_1))]) (fun own0v13_1 v11_1 x34_1 uown0v13_1 uv11_1 Bv11_1 k_1 => [vec uv11_1 1 1 (List.map fcell Bv11_1), kn M w.heap.size K0 k_1, blk b_m [i_ m_Target.u0, i_ m_Target.u1, i_ m_Target.u2, i_ m_Target.w0, i_ m_Target.w1, i_ m_Target.w2, i_ m_Target.regs, i_ m_Kernel_Pace, i_ m_Kernel_Stages, v_m_Kernel_Ops, X10.1, v_m_memory, i_ m_turns, uown0v13_1] 97, ovec uown0v13_1 148 3 (List.map Due.cells own0v13_1)]) (fun own0v13_1 v11_1 x34_1 uown0v13_1 uv11_1 Bv11_1 k_1 m => iter (kernel_machine_cycle_L0 m_Target m_Kernel_Pace m_Kernel_Stages m_Kernel_Ops m_memory m_turns pace slot x7) m (own0v13_1, v11_1, x34_1) = some o12 ∧ SliceLen uown0v13_1 own0v13_1.length ∧ SliceLen uv11_1 v11_1.length ∧ Bv11_1.map (·.2) = v11_1 ∧ ClosK 97 (.pointer (some (⟨b1, 0, none⟩))) k_1 Bv11_1 ∧ Le X10.2.2 k_1) (fun own0v13_1 v11_1 x34_1 uown0v13_1 uv11_1 Bv11_1 k_1 => o12 = .go (own0v13_1, v11_1, x34_1) ∧ SliceLen uown0v13_1 own0v13_1.length ∧ SliceLen uv11_1 v11_1.length ∧ Bv11_1.map (·.2) = v11_1 ∧ ClosK 97 (.pointer (some (⟨b1, 0, none⟩))) k_1 Bv11_1 ∧ Le X10.2.2 k_1) x7.2 ([] : List (Opr × Int × Int)) 0 X10.2.1 (.slice none 0 0) ([] : List (Value × Opr × Int × Int)) X10.2.2 n15 ⟨ho16, hF10.2, SliceLen.nil, Z, ClosK.nil, (Le.refl _)⟩ ⟨Z, Z, Z, Z, Z, Z, Z, Z, trivial⟩ (pk [0, 1, 2, 5, 3, 4]) ?_ ?_
 ·skip
  rintro own0v13_1 v11_1 x34_1 uown0v13_1 uv11_1 Bv11_1 k_1 ⟨rfl, hlown0v13_1, hlv11_1, hBv11_1, hRv11_1, hle_1⟩
  refine WQ.then (sr (wm Z (wq Z (QV.lenS Try.underlying144 Z Z hlv11_1) (wm Z (nt ?_)))))
  obtain ⟨o17, ho18, hm19⟩ := bd_some hm14; clear hm14; obtain ⟨n20, ho21⟩ := lp_some ho18
  refine WC.bloop5 (H2 := [vec uv11_1 1 1 (List.map fcell Bv11_1), ovec uown0v13_1 148 3 (List.map Due.cells own0v13_1), vec X10.1 2 1 (List.map icell x7.1)]) (τ := [u_ 138 _, u_ 139 _]) (fun (own0v11_2 : List (List Int)) (x140_2 : Int) (uown0v11_2 : Value) (hsown0v11_2 : List Value) (k_2 : World) => [(140, (true, i_ x140_2))]) (fun own0v11_2 x140_2 uown0v11_2 hsown0v11_2 k_2 => [kn M w.heap.size K0 k_2, blk b_m [i_ m_Target.u0, i_ m_Target.u1, i_ m_Target.u2, i_ m_Target.w0, i_ m_Target.w1, i_ m_Target.w2, i_ m_Target.regs, i_ m_Kernel_Pace, i_ m_Kernel_Stages, v_m_Kernel_Ops, X10.1, uown0v11_2, i_ m_turns, uown0v13_1] 97, grid uown0v11_2 hsown0v11_2 28 2 own0v11_2]) (fun own0v11_2 x140_2 uown0v11_2 hsown0v11_2 k_2 m => iter (kernel_machine_cycle_L3 m_Target m_Kernel_Pace m_Kernel_Stages m_Kernel_Ops m_turns x7 own0v13_1 v11_1) m (own0v11_2, x140_2) = some o17 ∧ SliceLen uown0v11_2 own0v11_2.length ∧ GL hsown0v11_2 own0v11_2 ∧ Le k_1 k_2) (fun own0v11_2 x140_2 uown0v11_2 hsown0v11_2 k_2 => o17 = .go (own0v11_2, x140_2) ∧ SliceLen uown0v11_2 own0v11_2.length ∧ GL hsown0v11_2 own0v11_2 ∧ Le k_1 k_2) m_memory 0 v_m_memory hs_m_memory k_1 n20 ⟨ho21, h_m_memory, hg_m_memory, (Le.refl _)⟩ ⟨Z, Z, Z, trivial⟩ (pk [1, 2, 4, 0, 3, 5]) ?_ ?_
  ·skip
   rintro own0v11_2 x140_2 uown0v11_2 hsown0v11_2 k_2 ⟨rfl, hlown0v11_2, hgown0v11_2, hle_2⟩
   obtain rfl := (eq_of_some hm19).symm
   refine WQ.end0 Z (fun w hw => ?_)
   exact ⟨(X10.1, uown0v11_2, hsown0v11_2, uown0v13_1, k_2), Z, hw.pick [0, 1, 5, 2, 4] (by decide), hF10.1, hlown0v11_2, hgown0v11_2, hlown0v13_1⟩
  rintro own0v11_2 x140_2 uown0v11_2 hsown0v11_2 k_2 m22 ⟨hI23, hlown0v11_2, hgown0v11_2, hle_2⟩
  obtain ⟨m24, s25, rfl, hm26, hn27⟩ := iter_step hI23; clear hI23; unfold kernel_machine_cycle_L3 at hm26; simp only at hm26
  refine sr (wq Z (QV.lss Z Z Z Z) (nt (WC.seq ?_)))
  refine wc Z hm26 (fun h28 hm29 => ?_) (fun h28 hm41 => ?_) <;> clear hm26
  ·skip
   refine sk (WQ.then (WC.seq (WC.block (sr ?_))))
   obtain ⟨c30, hm31⟩ := cs hm29; clear hm29
   obtain ⟨p32, hp33⟩ := hlv11_1.ix (sz := 1) ln_len c30
   obtain ⟨pa34, po34, pt34, hE34, hca34, hco34, hct34⟩ := ClosK.ix (hRv11_1.le hle_2) hBv11_1 c30
   refine wq Z (QV.indexSlice sl144 Z Z Z Z hp33) (wl pl1 Z (fun w hw => CellsAt.one 0 (hE34 w _ ((Own.vecArr 3 Z) w hw) _ hp33) Z) (wa Z (nr (wm Z (WL.effect Z ?_)))))
   obtain ⟨x35, hx36, hm37⟩ := bd_some hm31; clear hm31
   refine EV.of (C' := Own M w [kn M w.heap.size K0 k_2, blk b_m [i_ m_Target.u0, i_ m_Target.u1, i_ m_Target.u2, i_ m_Target.w0, i_ m_Target.w1, i_ m_Target.w2, i_ m_Target.regs, i_ m_Kernel_Pace, i_ m_Kernel_Stages, v_m_Kernel_Ops, X10.1, uown0v11_2, i_ m_turns, uown0v13_1] 97, vec X10.1 2 1 (List.map icell x7.1), grid uown0v11_2 hsown0v11_2 28 2 own0v11_2, ovec uown0v13_1 148 3 (List.map Due.cells own0v13_1), vec uv11_1 1 1 (List.map fcell Bv11_1)]) (pk [0, 1, 5, 2, 4, 3]) ?_
   refine (EV.callRV (X := Value × (List Value) × World) (R := [blk b_m [i_ m_Target.u0, i_ m_Target.u1, i_ m_Target.u2, i_ m_Target.w0, i_ m_Target.w1, i_ m_Target.w2, i_ m_Target.regs, i_ m_Kernel_Pace, i_ m_Kernel_Stages, v_m_Kernel_Ops, X10.1, uown0v11_2, i_ m_turns, uown0v13_1] 97, vec X10.1 2 1 (List.map icell x7.1), grid uown0v11_2 hsown0v11_2 28 2 own0v11_2, ovec uown0v13_1 148 3 (List.map Due.cells own0v13_1)]) (fun X => .tuple #[]) (fun X => [blk b_m [i_ m_Target.u0, i_ m_Target.u1, i_ m_Target.u2, i_ m_Target.w0, i_ m_Target.w1, i_ m_Target.w2, i_ m_Target.regs, i_ m_Kernel_Pace, i_ m_Kernel_Stages, v_m_Kernel_Ops, X10.1, X.1, i_ m_turns, uown0v13_1] 97, vec X10.1 2 1 (List.map icell x7.1), ovec uown0v13_1 148 3 (List.map Due.cells own0v13_1), grid X.1 X.2.1 28 2 x35]) (fun X => X.2.2) (fun X => SliceLen X.1 (x35).length ∧ GL X.2.1 x35) hk (fun _ h => by cases h; decide) en97 Z Z eN (fun M w h1 h2 => have h := kernel_machine_cycle_c1_w hx36 hca34 (h_m_Kernel_Ops.le (((hle2.trans hle10).trans hle_1).trans hle_2)) hF10.1 hlown0v11_2 hgown0v11_2 hlown0v13_1 (hc2.le ((hle10.trans hle_1).trans hle_2)) hco34 hct34 M w h1 h2; h) (fun X38 hF38 hle38 => ?_))
   refine WL.nil (WQ.block (WQ.then (WC.region ?_)))
   obtain ⟨c39, hm40⟩ := cs hm37; clear hm37
   refine wq Z (QV.add Z Z Z Z c39) (wm Z (WL.nil ?_))
   exact WQ.again5 x35 (x140_2 + 1) X38.1 X38.2.1 X38.2.2 m24 ⟨up_next hm40 hn27, hF38.1, hF38.2, (hle_2.trans hle38)⟩ (Nat.lt_succ_self _) ⟨Z, Z, Z, trivial⟩ (pk [0, 1, 4, 5, 3, 2])
  refine WC.exit (te (te (WQ.block_exit ?_)))
  exact WQ.out5 own0v11_2 x140_2 uown0v11_2 hsown0v11_2 k_2 ⟨up_brk hm41 hn27, hlown0v11_2, hgown0v11_2, hle_2⟩ ⟨Z, Z, Z, trivial⟩ (pk [0, 1, 2, 3, 4, 5])
 rintro own0v13_1 v11_1 x34_1 uown0v13_1 uv11_1 Bv11_1 k_1 m42 ⟨hI43, hlown0v13_1, hlv11_1, hBv11_1, hRv11_1, hle_1⟩
 obtain ⟨m44, s45, rfl, hm46, hn47⟩ := iter_step hI43; clear hI43; unfold kernel_machine_cycle_L0 at hm46; simp only at hm46
 refine sr (wq Z (QV.lss Z Z Z Z) (nt (WC.seq ?_)))
 refine wc Z hm46 (fun h48 hm49 => ?_) (fun h48 hm195 => ?_) <;> clear hm46
 ·skip
  refine sk (WQ.then (WC.seq (WC.block (sr ?_))))
  obtain ⟨c50, hm51⟩ := cs hm49; clear hm49
  obtain ⟨p52, hp53⟩ := (h_m_Kernel_Ops.le ((hle2.trans hle10).trans hle_1)).lenMap.ix (sz := 10) ln_len c50
  refine wq Z (QV.indexSlice sl25 Z Z Z Z hp53) (wq Z (QV.loadAgg ag45 Z Z Z (fun w hw => ((Own.karr 1 Z hk (h_m_Kernel_Ops.le ((hle2.trans hle10).trans hle_1))) w hw).ele hp53 c50)) (WL.effect Z ?_))
  refine (EV.alloc (by decide) ze45 (fun b54 => ?_))
  refine WL.effect Z ?_
  refine (EV.store 0 Z Z Z Z Z Z (vs := (Opr.cells (ele m_Kernel_Ops x34_1))) (show Value.cells _ = List.toArray _ from Z) sz45 (nl Z) (oc Z (oc Z (oc Z (oc Z (oc Z (oc Z (oc Z (oc Z (oc Z (oc Z one_nil)))))))))) ?_)
  refine ns (wm Z (wf fd45_1 Z (wl pl3 Z (Own.cell 0 Z Z) ?_)))
  obtain ⟨c55, hm56⟩ := cs hm51; clear hm51
  refine wq Z (QV.sub Z Z Z Z c55) (WL.effect Z ?_)
  refine (EV.alloc (by decide) ze3 (fun b57 => ?_))
  refine WL.effect Z ?_
  refine (EV.store 0 Z Z Z Z Z Z (vs := [i_ (pace - (ele m_Kernel_Ops x34_1).stage)]) (show Value.cells _ = List.toArray _ from Z) sz3 (nl Z) (oc Z one_nil) ?_)
  refine nt (WC.seq (WC.seq (WC.dr (m := 16) (S := Own M w [kn M w.heap.size K0 k_1, blk b57 [i_ (pace - (ele m_Kernel_Ops x34_1).stage)] 3, blk b54 (Opr.cells (ele m_Kernel_Ops x34_1)) 45, vec uv11_1 1 1 (List.map fcell Bv11_1), blk b_m [i_ m_Target.u0, i_ m_Target.u1, i_ m_Target.u2, i_ m_Target.w0, i_ m_Target.w1, i_ m_Target.w2, i_ m_Target.regs, i_ m_Kernel_Pace, i_ m_Kernel_Stages, v_m_Kernel_Ops, X10.1, v_m_memory, i_ m_turns, uown0v13_1] 97, ovec uown0v13_1 148 3 (List.map Due.cells own0v13_1), grid v_m_memory hs_m_memory 28 2 m_memory, vec X10.1 2 1 (List.map icell x7.1)]) (by kernel_rfl) (by kernel_rfl) (pk [3, 0, 1, 2, 4, 5, 6, 7]) (zf 0 fd45_0 Z Z (zl 1 pl3 Z Z (Own.cell 2 Z Z) (zm 2 Z Z ?_))))))
  refine wz 3 Z Z (QV.neq Z Z Z Z) (zm 4 Z Z (zn 5 Z Z (fun hG => QV.load pl3 Z Z (Own.cell 1 Z Z)) (zn 6 Z Z (fun hG => QV.lss Z hG Z Z) (wz 7 Z Z (QV.pickOr Z Z Z (fun h => notF h)) (zm 8 Z Z (zn 9 Z Z (fun hG => QV.load pl3 Z Z (Own.cell 1 Z Z)) (zn 10 Z Z (fun hG => QV.load pl92 Z Z (fun w hw => CellsAt.one 0 ((Own.kcells 0 Z hk (hc2.le (hle10.trans hle_1))) w hw) Z)) (zn 11 Z Z (fun hG => QV.nilCheck Z hG) (zn 12 Z Z (fun hG => QV.fieldAddr fd97_4 Z hG) ?_)))))))))
  refine zn 13 Z Z (fun hG => QV.load pl3 Z hG (Own.cell 4 Z Z)) (zn 14 Z Z (fun hG => QV.geq Z hG Z hG) (wz 15 Z Z (QV.pickOr Z Z Z (fun h => notF h)) ?_))
  refine WD.e (by kernel_rfl) ?_
  refine WQ.then ?_
  refine wc Z hm56 (fun h58 hm59 => ?_) (fun h58 hm62 => ?_) <;> clear hm56
  ·skip
   refine WC.exit (te (WQ.block_exit (WQ.then (WC.region ?_))))
   obtain ⟨c60, hm61⟩ := cs hm59; clear hm59
   refine wq Z (QV.add Z Z Z Z c60) (wm Z (WL.nil ?_))
   exact WQ.again7 own0v13_1 v11_1 (x34_1 + 1) uown0v13_1 uv11_1 Bv11_1 k_1 m44 ⟨up_next hm61 hn47, hlown0v13_1, hlv11_1, hBv11_1, hRv11_1, hle_1⟩ (Nat.lt_succ_self _) ⟨Z, Z, Z, Z, Z, Z, Z, Z, trivial⟩ (pk [2, 3, 4, 5, 6, 7])
  refine sk (WQ.then (WC.seq (WC.dr (m := 25) (S := Own M w [kn M w.heap.size K0 k_1, blk b57 [i_ (pace - (ele m_Kernel_Ops x34_1).stage)] 3, blk b54 (Opr.cells (ele m_Kernel_Ops x34_1)) 45, vec uv11_1 1 1 (List.map fcell Bv11_1), blk b_m [i_ m_Target.u0, i_ m_Target.u1, i_ m_Target.u2, i_ m_Target.w0, i_ m_Target.w1, i_ m_Target.w2, i_ m_Target.regs, i_ m_Kernel_Pace, i_ m_Kernel_Stages, v_m_Kernel_Ops, X10.1, v_m_memory, i_ m_turns, uown0v13_1] 97, ovec uown0v13_1 148 3 (List.map Due.cells own0v13_1), grid v_m_memory hs_m_memory 28 2 m_memory, vec X10.1 2 1 (List.map icell x7.1)]) (by kernel_rfl) (by kernel_rfl) (pk [3, 0, 1, 2, 4, 5, 6, 7]) (zl 0 pl92 Z Z (fun w hw => CellsAt.one 0 ((Own.kcells 0 Z hk (hc2.le (hle10.trans hle_1))) w hw) Z) ?_))))
  refine wz 1 Z Z (QV.nilCheck Z Z) (zf 2 fd97_2 Z Z (zl 3 pl28 Z Z (Own.cell 4 Z Z) (zl 4 pl92 Z Z (fun w hw => CellsAt.one 0 ((Own.kcells 0 Z hk (hc2.le (hle10.trans hle_1))) w hw) Z) (zf 5 fd45_4 Z Z (zl 6 pl3 Z Z (Own.cell 2 Z Z) (zm 7 Z Z ?_))))))
  obtain ⟨x63, hx64, hm65⟩ := bd_some hm62; clear hm62
  refine wz 8 Z Z (QV.call en95 (ec Z (ec Z (ec Z eN))) (fun w hw => have h := kernel_machine_reg_w w hx64 (Own.cellsBlk 4 Z w hw); h)) ?_
  obtain ⟨c66, hm67⟩ := cs hm65; clear hm65
  obtain ⟨p68, hp69⟩ := hF10.1.ix (sz := 1) ln_len c66
  refine wz 9 Z Z (QV.indexSlice sl28 Z Z Z Z hp69) (zl 10 pl2 Z Z (fun w hw => CellsAt.one 0 (((Own.vecArr 7 Z) w hw).ele hp69 c66) Z) (zl 11 pl92 Z Z (fun w hw => CellsAt.one 0 ((Own.kcells 0 Z hk (hc2.le (hle10.trans hle_1))) w hw) Z) (wz 12 Z Z (QV.nilCheck Z Z) (zf 13 fd97_2 Z Z (zl 14 pl28 Z Z (Own.cell 4 Z Z) (zl 15 pl92 Z Z (fun w hw => CellsAt.one 0 ((Own.kcells 0 Z hk (hc2.le (hle10.trans hle_1))) w hw) Z) (zf 16 fd45_5 Z Z (zl 17 pl3 Z Z (Own.cell 2 Z Z) (zm 18 Z Z ?_)))))))))
  obtain ⟨x70, hx71, hm72⟩ := bd_some hm67; clear hm67
  refine wz 19 Z Z (QV.call en95 (ec Z (ec Z (ec Z eN))) (fun w hw => have h := kernel_machine_reg_w w hx71 (Own.cellsBlk 4 Z w hw); h)) ?_
  obtain ⟨c73, hm74⟩ := cs hm72; clear hm72
  obtain ⟨p75, hp76⟩ := hF10.1.ix (sz := 1) ln_len c73
  refine wz 20 Z Z (QV.indexSlice sl28 Z Z Z Z hp76) (zl 21 pl2 Z Z (fun w hw => CellsAt.one 0 (((Own.vecArr 7 Z) w hw).ele hp76 c73) Z) ?_)
  refine WD.o 22 Z (by kernel_rfl) Z ?_
  refine (EV.alloc (by decide) ze2 (fun b77 => ?_))
  refine WD.b (H' := [kn M w.heap.size K0 k_1, blk b57 [i_ (pace - (ele m_Kernel_Ops x34_1).stage)] 3, blk b54 (Opr.cells (ele m_Kernel_Ops x34_1)) 45, vec uv11_1 1 1 (List.map fcell Bv11_1), blk b_m [i_ m_Target.u0, i_ m_Target.u1, i_ m_Target.u2, i_ m_Target.w0, i_ m_Target.w1, i_ m_Target.w2, i_ m_Target.regs, i_ m_Kernel_Pace, i_ m_Kernel_Stages, v_m_Kernel_Ops, X10.1, v_m_memory, i_ m_turns, uown0v13_1] 97, ovec uown0v13_1 148 3 (List.map Due.cells own0v13_1), grid v_m_memory hs_m_memory 28 2 m_memory, vec X10.1 2 1 (List.map icell x7.1)]) (pk [4, 1, 2, 3, 5, 6, 7, 8]) (pk [0, 1, 2, 3, 4, 5, 6, 7]) ?_
  refine WD.o 23 Z (by kernel_rfl) Z ?_
  refine (EV.store 0 Z Z Z Z Z Z (vs := [i_ (ele x7.1 x63)]) (show Value.cells _ = List.toArray _ from Z) sz2 (nl Z) (oc Z one_nil) ?_)
  refine WD.b (H' := [kn M w.heap.size K0 k_1, blk b77 [i_ (ele x7.1 x63)] 2, blk b57 [i_ (pace - (ele m_Kernel_Ops x34_1).stage)] 3, blk b54 (Opr.cells (ele m_Kernel_Ops x34_1)) 45, vec uv11_1 1 1 (List.map fcell Bv11_1), blk b_m [i_ m_Target.u0, i_ m_Target.u1, i_ m_Target.u2, i_ m_Target.w0, i_ m_Target.w1, i_ m_Target.w2, i_ m_Target.regs, i_ m_Kernel_Pace, i_ m_Kernel_Stages, v_m_Kernel_Ops, X10.1, v_m_memory, i_ m_turns, uown0v13_1] 97, ovec uown0v13_1 148 3 (List.map Due.cells own0v13_1), grid v_m_memory hs_m_memory 28 2 m_memory, vec X10.1 2 1 (List.map icell x7.1)]) (pk [4, 0, 1, 2, 3, 5, 6, 7, 8]) (pk [0, 2, 3, 4, 5, 6, 7, 8]) ?_
  refine wz 24 Z Z (QV.assign Z Z) ?_
  refine WD.e (by kernel_rfl) ?_
  refine WQ.then (sr (wa Z (nt (WC.seq (sr (wf fd45_2 Z (wl pl3 Z (Own.cell 2 Z Z) (nt (WC.block (sr (wq Z (QV.eql Z Z Z Z) (wa Z (nt ?_)))))))))))))
  refine wc Z hm74 (fun h78 hm79 => ?_) (fun h78 hm97 => ?_) <;> clear hm74
  ·skip
   refine WC.region (wf fd45_9 Z (wl pl2 Z (Own.cell 2 Z Z) (wa Z (WL.nil (WQ.block (WQ.then (WC.dr (m := 28) (S := Own M w [kn M w.heap.size K0 k_1, blk b77 [i_ (ele x7.1 x63)] 2, blk b57 [i_ (pace - (ele m_Kernel_Ops x34_1).stage)] 3, blk b54 (Opr.cells (ele m_Kernel_Ops x34_1)) 45, vec uv11_1 1 1 (List.map fcell Bv11_1), blk b_m [i_ m_Target.u0, i_ m_Target.u1, i_ m_Target.u2, i_ m_Target.w0, i_ m_Target.w1, i_ m_Target.w2, i_ m_Target.regs, i_ m_Kernel_Pace, i_ m_Kernel_Stages, v_m_Kernel_Ops, X10.1, v_m_memory, i_ m_turns, uown0v13_1] 97, grid v_m_memory hs_m_memory 28 2 m_memory, vec X10.1 2 1 (List.map icell x7.1)]) (by kernel_rfl) (by kernel_rfl) (pk [4, 0, 1, 2, 3, 5, 7, 8]) (zl 0 pl92 Z Z (fun w hw => CellsAt.one 0 ((Own.kcells 0 Z hk (hc2.le (hle10.trans hle_1))) w hw) Z) ?_))))))))
   refine zl 1 pl92 Z Z (fun w hw => CellsAt.one 0 ((Own.kcells 0 Z hk (hc2.le (hle10.trans hle_1))) w hw) Z) (wz 2 Z Z (QV.nilCheck Z Z) (zf 3 fd97_5 Z Z (zl 4 pl95 Z Z (Own.cell 5 Z Z) (zm 5 Z Z (zl 6 pl92 Z Z (fun w hw => CellsAt.one 0 ((Own.kcells 0 Z hk (hc2.le (hle10.trans hle_1))) w hw) Z) (zf 7 fd45_2 Z Z (zl 8 pl3 Z Z (Own.cell 3 Z Z) ?_)))))))
   obtain ⟨x80, hx81, hm82⟩ := bd_some hm79; clear hm79
   refine wz 9 Z Z (QV.call en48 (ec Z eN) (fun w hw => have h := num_Class_w w hx81 ; h)) (wz 10 Z Z (QV.nilCheck Z Z) (zf 11 fd97_0 Z Z (zf 12 fd24_1 Z Z ?_)))
   obtain ⟨c83, c85, hm86⟩ := cs2 hm82; clear hm82
   refine wz 13 Z Z (QV.indexArray ar22 Z Z Z Z c83.1 c83.2) (zl 14 pl3 Z Z (Own.cellSym 5 Z (sel3_get (off := 3) (i := x80) c83.1 c83.2 Z Z Z) (addr_sym _ _ _)) (wz 15 Z Z (QV.add Z Z Z Z c85) (zl 16 pl92 Z Z (fun w hw => CellsAt.one 0 ((Own.kcells 0 Z hk (hc2.le (hle10.trans hle_1))) w hw) Z) (zf 17 fd45_3 Z Z (zl 18 pl3 Z Z (Own.cell 3 Z Z) (zm 19 Z Z ?_))))))
   obtain ⟨x87, hx88, hm89⟩ := bd_some hm86; clear hm86
   refine wz 20 Z Z (QV.call en95 (ec Z (ec Z (ec Z eN))) (fun w hw => have h := kernel_machine_reg_w w hx88 (Own.cellsBlk 5 Z w hw); h)) (zm 21 Z Z (wz 22 Z Z (QV.build (ps := [(0, .tmp 125), (1, .tmp 130), (2, .tmp 131)]) (cells := [i_ (((pace * m_Kernel_Pace) + slot) + (sel3 m_Target.w0 m_Target.w1 m_Target.w2 x80)), i_ x87, i_ ((ele m_Kernel_Ops x34_1).n)]) (ec Z (ec Z (ec Z eN))) (by kernel_rfl)) ?_))
   refine WD.o 23 Z (by kernel_rfl) Z ?_
   refine (EV.buildSlice (by decide) sz_95 (by decide) (by decide) (ps := [(0, .tmp 132)]) (cells := [i_ (((pace * m_Kernel_Pace) + slot) + (sel3 m_Target.w0 m_Target.w1 m_Target.w2 x80)), i_ x87, i_ ((ele m_Kernel_Ops x34_1).n)]) (ec Z eN) (by kernel_rfl) (fun b90 => ?_))
   refine WD.b (H' := [kn M w.heap.size K0 k_1, blk b90 [i_ (((pace * m_Kernel_Pace) + slot) + (sel3 m_Target.w0 m_Target.w1 m_Target.w2 x80)), i_ x87, i_ ((ele m_Kernel_Ops x34_1).n)] 148, blk b77 [i_ (ele x7.1 x63)] 2, blk b57 [i_ (pace - (ele m_Kernel_Ops x34_1).stage)] 3, blk b54 (Opr.cells (ele m_Kernel_Ops x34_1)) 45, vec uv11_1 1 1 (List.map fcell Bv11_1), blk b_m [i_ m_Target.u0, i_ m_Target.u1, i_ m_Target.u2, i_ m_Target.w0, i_ m_Target.w1, i_ m_Target.w2, i_ m_Target.regs, i_ m_Kernel_Pace, i_ m_Kernel_Stages, v_m_Kernel_Ops, X10.1, v_m_memory, i_ m_turns, uown0v13_1] 97, grid v_m_memory hs_m_memory 28 2 m_memory, vec X10.1 2 1 (List.map icell x7.1)]) (pk [5, 0, 1, 2, 3, 4, 6, 8, 9]) (pk [0, 2, 3, 4, 5, 6, 7, 8]) ?_
   refine WD.o 24 Z (by kernel_rfl) Z ?_
   obtain ⟨c91, c95, hm96⟩ := cs2 hm89; clear hm89
   refine (EV.appendO (enc := Due.cells) (xs := own0v13_1) (ys := [(Due.mk (((pace * m_Kernel_Pace) + slot) + (sel3 m_Target.w0 m_Target.w1 m_Target.w2 x80)) x87 ((ele m_Kernel_Ops x34_1).n))]) ((own0v13_1 ++ [(Due.mk (((pace * m_Kernel_Pace) + slot) + (sel3 m_Target.w0 m_Target.w1 m_Target.w2 x80)) x87 ((ele m_Kernel_Ops x34_1).n))])) 7 (by decide) ve95 Z Z Z Z Z (Own.blkArr 0 (rows := [(Due.mk (((pace * m_Kernel_Pace) + slot) + (sel3 m_Target.w0 m_Target.w1 m_Target.w2 x80)) x87 ((ele m_Kernel_Ops x34_1).n))].map Due.cells) Z Z (rows_len Due.cells_len)) Due.cells_len (Due.cells_one _) Z c91.1 c91.2 (fun u93 hu94 => ?_))
   refine WD.b (H' := [kn M w.heap.size K0 k_1, blk b90 [i_ (((pace * m_Kernel_Pace) + slot) + (sel3 m_Target.w0 m_Target.w1 m_Target.w2 x80)), i_ x87, i_ ((ele m_Kernel_Ops x34_1).n)] 148, blk b77 [i_ (ele x7.1 x63)] 2, blk b57 [i_ (pace - (ele m_Kernel_Ops x34_1).stage)] 3, blk b54 (Opr.cells (ele m_Kernel_Ops x34_1)) 45, vec uv11_1 1 1 (List.map fcell Bv11_1), blk b_m [i_ m_Target.u0, i_ m_Target.u1, i_ m_Target.u2, i_ m_Target.w0, i_ m_Target.w1, i_ m_Target.w2, i_ m_Target.regs, i_ m_Kernel_Pace, i_ m_Kernel_Stages, v_m_Kernel_Ops, X10.1, v_m_memory, i_ m_turns, uown0v13_1] 97, ovec u93 148 3 (List.map Due.cells (own0v13_1 ++ [(Due.mk (((pace * m_Kernel_Pace) + slot) + (sel3 m_Target.w0 m_Target.w1 m_Target.w2 x80)) x87 ((ele m_Kernel_Ops x34_1).n))])), grid v_m_memory hs_m_memory 28 2 m_memory, vec X10.1 2 1 (List.map icell x7.1)]) (pk [5, 0, 1, 2, 3, 4, 6, 7, 8, 9]) (pk [0, 1, 2, 3, 4, 5, 6, 8, 9]) ?_
   refine wz 25 Z Z (QV.nilCheck Z Z) (zf 26 fd97_5 Z Z ?_)
   refine WD.l 27 Z (by kernel_rfl) Z ?_
   refine (EV.store 6 Z Z Z Z Z Z (vs := [u93]) (SliceLen.cells hu94) sz95 (nl Z) (oc (SliceLen.one hu94) one_nil) ?_)
   refine WQ.block (WQ.then (WC.region (wq Z (QV.add Z Z Z Z c95) (wm Z (WL.nil ?_)))))
   exact WQ.again7 (own0v13_1 ++ [(Due.mk (((pace * m_Kernel_Pace) + slot) + (sel3 m_Target.w0 m_Target.w1 m_Target.w2 x80)) x87 ((ele m_Kernel_Ops x34_1).n))]) v11_1 (x34_1 + 1) u93 uv11_1 Bv11_1 k_1 m44 ⟨up_next hm96 hn47, hu94, hlv11_1, hBv11_1, hRv11_1, hle_1⟩ (Nat.lt_succ_self _) ⟨Z, Z, Z, Z, Z, Z, Z, Z, trivial⟩ (pk [4, 5, 6, 7, 8, 9])
  refine sr (wq Z (QV.eql Z Z Z Z) (wa Z (nt ?_)))
  refine wc Z hm97 (fun h98 hm99 => ?_) (fun h98 hm117 => ?_) <;> clear hm97
  ·skip
   refine WC.region (wl pl3 Z (Own.cell 1 Z Z) (wa Z (WL.nil (WQ.block (WQ.then (WC.dr (m := 28) (S := Own M w [kn M w.heap.size K0 k_1, blk b77 [i_ (ele x7.1 x63)] 2, blk b57 [i_ (pace - (ele m_Kernel_Ops x34_1).stage)] 3, blk b54 (Opr.cells (ele m_Kernel_Ops x34_1)) 45, vec uv11_1 1 1 (List.map fcell Bv11_1), blk b_m [i_ m_Target.u0, i_ m_Target.u1, i_ m_Target.u2, i_ m_Target.w0, i_ m_Target.w1, i_ m_Target.w2, i_ m_Target.regs, i_ m_Kernel_Pace, i_ m_Kernel_Stages, v_m_Kernel_Ops, X10.1, v_m_memory, i_ m_turns, uown0v13_1] 97, grid v_m_memory hs_m_memory 28 2 m_memory, vec X10.1 2 1 (List.map icell x7.1)]) (by kernel_rfl) (by kernel_rfl) (pk [4, 0, 1, 2, 3, 5, 7, 8]) (zl 0 pl92 Z Z (fun w hw => CellsAt.one 0 ((Own.kcells 0 Z hk (hc2.le (hle10.trans hle_1))) w hw) Z) ?_)))))))
   refine zl 1 pl92 Z Z (fun w hw => CellsAt.one 0 ((Own.kcells 0 Z hk (hc2.le (hle10.trans hle_1))) w hw) Z) (wz 2 Z Z (QV.nilCheck Z Z) (zf 3 fd97_5 Z Z (zl 4 pl95 Z Z (Own.cell 5 Z Z) (zm 5 Z Z (zl 6 pl92 Z Z (fun w hw => CellsAt.one 0 ((Own.kcells 0 Z hk (hc2.le (hle10.trans hle_1))) w hw) Z) (zf 7 fd45_2 Z Z (zl 8 pl3 Z Z (Own.cell 3 Z Z) ?_)))))))
   obtain ⟨x100, hx101, hm102⟩ := bd_some hm99; clear hm99
   refine wz 9 Z Z (QV.call en48 (ec Z eN) (fun w hw => have h := num_Class_w w hx101 ; h)) (wz 10 Z Z (QV.nilCheck Z Z) (zf 11 fd97_0 Z Z (zf 12 fd24_1 Z Z ?_)))
   obtain ⟨c103, c105, hm106⟩ := cs2 hm102; clear hm102
   refine wz 13 Z Z (QV.indexArray ar22 Z Z Z Z c103.1 c103.2) (zl 14 pl3 Z Z (Own.cellSym 5 Z (sel3_get (off := 3) (i := x100) c103.1 c103.2 Z Z Z) (addr_sym _ _ _)) (wz 15 Z Z (QV.add Z Z Z Z c105) (zl 16 pl92 Z Z (fun w hw => CellsAt.one 0 ((Own.kcells 0 Z hk (hc2.le (hle10.trans hle_1))) w hw) Z) (zf 17 fd45_3 Z Z (zl 18 pl3 Z Z (Own.cell 3 Z Z) (zm 19 Z Z ?_))))))
   obtain ⟨x107, hx108, hm109⟩ := bd_some hm106; clear hm106
   refine wz 20 Z Z (QV.call en95 (ec Z (ec Z (ec Z eN))) (fun w hw => have h := kernel_machine_reg_w w hx108 (Own.cellsBlk 5 Z w hw); h)) (zm 21 Z Z (wz 22 Z Z (QV.build (ps := [(0, .tmp 125), (1, .tmp 130), (2, .tmp 131)]) (cells := [i_ (((pace * m_Kernel_Pace) + slot) + (sel3 m_Target.w0 m_Target.w1 m_Target.w2 x100)), i_ x107, i_ (pace - (ele m_Kernel_Ops x34_1).stage)]) (ec Z (ec Z (ec Z eN))) (by kernel_rfl)) ?_))
   refine WD.o 23 Z (by kernel_rfl) Z ?_
   refine (EV.buildSlice (by decide) sz_95 (by decide) (by decide) (ps := [(0, .tmp 132)]) (cells := [i_ (((pace * m_Kernel_Pace) + slot) + (sel3 m_Target.w0 m_Target.w1 m_Target.w2 x100)), i_ x107, i_ (pace - (ele m_Kernel_Ops x34_1).stage)]) (ec Z eN) (by kernel_rfl) (fun b110 => ?_))
   refine WD.b (H' := [kn M w.heap.size K0 k_1, blk b110 [i_ (((pace * m_Kernel_Pace) + slot) + (sel3 m_Target.w0 m_Target.w1 m_Target.w2 x100)), i_ x107, i_ (pace - (ele m_Kernel_Ops x34_1).stage)] 148, blk b77 [i_ (ele x7.1 x63)] 2, blk b57 [i_ (pace - (ele m_Kernel_Ops x34_1).stage)] 3, blk b54 (Opr.cells (ele m_Kernel_Ops x34_1)) 45, vec uv11_1 1 1 (List.map fcell Bv11_1), blk b_m [i_ m_Target.u0, i_ m_Target.u1, i_ m_Target.u2, i_ m_Target.w0, i_ m_Target.w1, i_ m_Target.w2, i_ m_Target.regs, i_ m_Kernel_Pace, i_ m_Kernel_Stages, v_m_Kernel_Ops, X10.1, v_m_memory, i_ m_turns, uown0v13_1] 97, grid v_m_memory hs_m_memory 28 2 m_memory, vec X10.1 2 1 (List.map icell x7.1)]) (pk [5, 0, 1, 2, 3, 4, 6, 8, 9]) (pk [0, 2, 3, 4, 5, 6, 7, 8]) ?_
   refine WD.o 24 Z (by kernel_rfl) Z ?_
   obtain ⟨c111, c115, hm116⟩ := cs2 hm109; clear hm109
   refine (EV.appendO (enc := Due.cells) (xs := own0v13_1) (ys := [(Due.mk (((pace * m_Kernel_Pace) + slot) + (sel3 m_Target.w0 m_Target.w1 m_Target.w2 x100)) x107 (pace - (ele m_Kernel_Ops x34_1).stage))]) ((own0v13_1 ++ [(Due.mk (((pace * m_Kernel_Pace) + slot) + (sel3 m_Target.w0 m_Target.w1 m_Target.w2 x100)) x107 (pace - (ele m_Kernel_Ops x34_1).stage))])) 7 (by decide) ve95 Z Z Z Z Z (Own.blkArr 0 (rows := [(Due.mk (((pace * m_Kernel_Pace) + slot) + (sel3 m_Target.w0 m_Target.w1 m_Target.w2 x100)) x107 (pace - (ele m_Kernel_Ops x34_1).stage))].map Due.cells) Z Z (rows_len Due.cells_len)) Due.cells_len (Due.cells_one _) Z c111.1 c111.2 (fun u113 hu114 => ?_))
   refine WD.b (H' := [kn M w.heap.size K0 k_1, blk b110 [i_ (((pace * m_Kernel_Pace) + slot) + (sel3 m_Target.w0 m_Target.w1 m_Target.w2 x100)), i_ x107, i_ (pace - (ele m_Kernel_Ops x34_1).stage)] 148, blk b77 [i_ (ele x7.1 x63)] 2, blk b57 [i_ (pace - (ele m_Kernel_Ops x34_1).stage)] 3, blk b54 (Opr.cells (ele m_Kernel_Ops x34_1)) 45, vec uv11_1 1 1 (List.map fcell Bv11_1), blk b_m [i_ m_Target.u0, i_ m_Target.u1, i_ m_Target.u2, i_ m_Target.w0, i_ m_Target.w1, i_ m_Target.w2, i_ m_Target.regs, i_ m_Kernel_Pace, i_ m_Kernel_Stages, v_m_Kernel_Ops, X10.1, v_m_memory, i_ m_turns, uown0v13_1] 97, ovec u113 148 3 (List.map Due.cells (own0v13_1 ++ [(Due.mk (((pace * m_Kernel_Pace) + slot) + (sel3 m_Target.w0 m_Target.w1 m_Target.w2 x100)) x107 (pace - (ele m_Kernel_Ops x34_1).stage))])), grid v_m_memory hs_m_memory 28 2 m_memory, vec X10.1 2 1 (List.map icell x7.1)]) (pk [5, 0, 1, 2, 3, 4, 6, 7, 8, 9]) (pk [0, 1, 2, 3, 4, 5, 6, 8, 9]) ?_
   refine wz 25 Z Z (QV.nilCheck Z Z) (zf 26 fd97_5 Z Z ?_)
   refine WD.l 27 Z (by kernel_rfl) Z ?_
   refine (EV.store 6 Z Z Z Z Z Z (vs := [u113]) (SliceLen.cells hu114) sz95 (nl Z) (oc (SliceLen.one hu114) one_nil) ?_)
   refine WQ.block (WQ.then (WC.region (wq Z (QV.add Z Z Z Z c115) (wm Z (WL.nil ?_)))))
   exact WQ.again7 (own0v13_1 ++ [(Due.mk (((pace * m_Kernel_Pace) + slot) + (sel3 m_Target.w0 m_Target.w1 m_Target.w2 x100)) x107 (pace - (ele m_Kernel_Ops x34_1).stage))]) v11_1 (x34_1 + 1) u113 uv11_1 Bv11_1 k_1 m44 ⟨up_next hm116 hn47, hu114, hlv11_1, hBv11_1, hRv11_1, hle_1⟩ (Nat.lt_succ_self _) ⟨Z, Z, Z, Z, Z, Z, Z, Z, trivial⟩ (pk [4, 5, 6, 7, 8, 9])
  refine sr (wq Z (QV.eql Z Z Z Z) (wa Z (nt ?_)))
  refine wc Z hm117 (fun h118 hm119 => ?_) (fun h118 hm141 => ?_) <;> clear hm117
  ·skip
   refine WC.region (wl pl92 Z (fun w hw => CellsAt.one 0 ((Own.kcells 4 Z hk (hc2.le (hle10.trans hle_1))) w hw) Z) (wq Z (QV.loadAgg ag45 Z Z Z (Own.cellsBlk 2 Z)) (wl pl3 Z (Own.cell 1 Z Z) (WL.effect Z ?_))))
   obtain ⟨x120, hx121, hm122⟩ := bd_some hm119; clear hm119
   refine EV.of (C' := Own M w [kn M w.heap.size K0 k_1, blk b_m [i_ m_Target.u0, i_ m_Target.u1, i_ m_Target.u2, i_ m_Target.w0, i_ m_Target.w1, i_ m_Target.w2, i_ m_Target.regs, i_ m_Kernel_Pace, i_ m_Kernel_Stages, v_m_Kernel_Ops, X10.1, v_m_memory, i_ m_turns, uown0v13_1] 97, vec X10.1 2 1 (List.map icell x7.1), grid v_m_memory hs_m_memory 28 2 m_memory, ovec uown0v13_1 148 3 (List.map Due.cells own0v13_1), blk b77 [i_ (ele x7.1 x63)] 2, blk b57 [i_ (pace - (ele m_Kernel_Ops x34_1).stage)] 3, blk b54 (Opr.cells (ele m_Kernel_Ops x34_1)) 45, vec uv11_1 1 1 (List.map fcell Bv11_1)]) (pk [4, 5, 8, 7, 6, 0, 1, 2, 3]) ?_
   refine (EV.callR (X := Addr × World) (R := [blk b_m [i_ m_Target.u0, i_ m_Target.u1, i_ m_Target.u2, i_ m_Target.w0, i_ m_Target.w1, i_ m_Target.w2, i_ m_Target.regs, i_ m_Kernel_Pace, i_ m_Kernel_Stages, v_m_Kernel_Ops, X10.1, v_m_memory, i_ m_turns, uown0v13_1] 97, vec X10.1 2 1 (List.map icell x7.1), grid v_m_memory hs_m_memory 28 2 m_memory, ovec uown0v13_1 148 3 (List.map Due.cells own0v13_1)]) (fun X => .pointer (some X.1)) (fun X => [blk b_m [i_ m_Target.u0, i_ m_Target.u1, i_ m_Target.u2, i_ m_Target.w0, i_ m_Target.w1, i_ m_Target.w2, i_ m_Target.regs, i_ m_Kernel_Pace, i_ m_Kernel_Stages, v_m_Kernel_Ops, X10.1, v_m_memory, i_ m_turns, uown0v13_1] 97, vec X10.1 2 1 (List.map icell x7.1), grid v_m_memory hs_m_memory 28 2 m_memory, ovec uown0v13_1 148 3 (List.map Due.cells own0v13_1)]) (fun X => X.2) (fun X => IX x120.1 (ln m_memory) ∧ ElemP (hat hs_m_memory x120.1) x120.2 1 X.1 ∧ IX x120.2 (ln (ele m_memory x120.1))) hk (fun _ h => by cases h; decide) en96 (ec Z (ec Z (ec Z eN))) (fun M w h1 h2 => have h := kernel_machine_word_w hx121 (h_m_Kernel_Ops.le ((hle2.trans hle10).trans hle_1)) hF10.1 h_m_memory hg_m_memory hlown0v13_1 M w h1 h2; h) (fun X123 hF123 hle123 => ?_))
   refine wq Z (QV.nilCheck Z Z) (wl pl2 Z (fun w hw => CellsAt.one 0 (((Own.gridArr 3 Z hF123.1) w hw).ele hF123.2.1 hF123.2.2) Z) (wa Z (WL.nil (WQ.block (WQ.then (WC.dr (m := 28) (S := Own M w [kn M w.heap.size K0 X123.2, blk b_m [i_ m_Target.u0, i_ m_Target.u1, i_ m_Target.u2, i_ m_Target.w0, i_ m_Target.w1, i_ m_Target.w2, i_ m_Target.regs, i_ m_Kernel_Pace, i_ m_Kernel_Stages, v_m_Kernel_Ops, X10.1, v_m_memory, i_ m_turns, uown0v13_1] 97, vec X10.1 2 1 (List.map icell x7.1), grid v_m_memory hs_m_memory 28 2 m_memory, blk b77 [i_ (ele x7.1 x63)] 2, blk b57 [i_ (pace - (ele m_Kernel_Ops x34_1).stage)] 3, blk b54 (Opr.cells (ele m_Kernel_Ops x34_1)) 45, vec uv11_1 1 1 (List.map fcell Bv11_1)]) (by kernel_rfl) (by kernel_rfl) (pk [0, 1, 2, 3, 5, 6, 7, 8]) ?_))))))
   refine zl 0 pl92 Z Z (fun w hw => CellsAt.one 0 ((Own.kcells 0 Z hk (hc2.le ((hle10.trans hle_1).trans hle123))) w hw) Z) (zl 1 pl92 Z Z (fun w hw => CellsAt.one 0 ((Own.kcells 0 Z hk (hc2.le ((hle10.trans hle_1).trans hle123))) w hw) Z) (wz 2 Z Z (QV.nilCheck Z Z) (zf 3 fd97_5 Z Z (zl 4 pl95 Z Z (Own.cell 1 Z Z) (zm 5 Z Z (zl 6 pl92 Z Z (fun w hw => CellsAt.one 0 ((Own.kcells 0 Z hk (hc2.le ((hle10.trans hle_1).trans hle123))) w hw) Z) (zf 7 fd45_2 Z Z (zl 8 pl3 Z Z (Own.cell 6 Z Z) ?_))))))))
   obtain ⟨x124, hx125, hm126⟩ := bd_some hm122; clear hm122
   refine wz 9 Z Z (QV.call en48 (ec Z eN) (fun w hw => have h := num_Class_w w hx125 ; h)) (wz 10 Z Z (QV.nilCheck Z Z) (zf 11 fd97_0 Z Z (zf 12 fd24_1 Z Z ?_)))
   obtain ⟨c127, c129, hm130⟩ := cs2 hm126; clear hm126
   refine wz 13 Z Z (QV.indexArray ar22 Z Z Z Z c127.1 c127.2) (zl 14 pl3 Z Z (Own.cellSym 1 Z (sel3_get (off := 3) (i := x124) c127.1 c127.2 Z Z Z) (addr_sym _ _ _)) (wz 15 Z Z (QV.add Z Z Z Z c129) (zl 16 pl92 Z Z (fun w hw => CellsAt.one 0 ((Own.kcells 0 Z hk (hc2.le ((hle10.trans hle_1).trans hle123))) w hw) Z) (zf 17 fd45_3 Z Z (zl 18 pl3 Z Z (Own.cell 6 Z Z) (zm 19 Z Z ?_))))))
   obtain ⟨x131, hx132, hm133⟩ := bd_some hm130; clear hm130
   refine wz 20 Z Z (QV.call en95 (ec Z (ec Z (ec Z eN))) (fun w hw => have h := kernel_machine_reg_w w hx132 (Own.cellsBlk 1 Z w hw); h)) (zm 21 Z Z (wz 22 Z Z (QV.build (ps := [(0, .tmp 125), (1, .tmp 130), (2, .tmp 131)]) (cells := [i_ (((pace * m_Kernel_Pace) + slot) + (sel3 m_Target.w0 m_Target.w1 m_Target.w2 x124)), i_ x131, i_ (ele (ele m_memory x120.1) x120.2)]) (ec Z (ec Z (ec Z eN))) (by kernel_rfl)) ?_))
   refine WD.o 23 Z (by kernel_rfl) Z ?_
   refine (EV.buildSlice (by decide) sz_95 (by decide) (by decide) (ps := [(0, .tmp 132)]) (cells := [i_ (((pace * m_Kernel_Pace) + slot) + (sel3 m_Target.w0 m_Target.w1 m_Target.w2 x124)), i_ x131, i_ (ele (ele m_memory x120.1) x120.2)]) (ec Z eN) (by kernel_rfl) (fun b134 => ?_))
   refine WD.b (H' := [kn M w.heap.size K0 X123.2, blk b134 [i_ (((pace * m_Kernel_Pace) + slot) + (sel3 m_Target.w0 m_Target.w1 m_Target.w2 x124)), i_ x131, i_ (ele (ele m_memory x120.1) x120.2)] 148, blk b_m [i_ m_Target.u0, i_ m_Target.u1, i_ m_Target.u2, i_ m_Target.w0, i_ m_Target.w1, i_ m_Target.w2, i_ m_Target.regs, i_ m_Kernel_Pace, i_ m_Kernel_Stages, v_m_Kernel_Ops, X10.1, v_m_memory, i_ m_turns, uown0v13_1] 97, vec X10.1 2 1 (List.map icell x7.1), grid v_m_memory hs_m_memory 28 2 m_memory, blk b77 [i_ (ele x7.1 x63)] 2, blk b57 [i_ (pace - (ele m_Kernel_Ops x34_1).stage)] 3, blk b54 (Opr.cells (ele m_Kernel_Ops x34_1)) 45, vec uv11_1 1 1 (List.map fcell Bv11_1)]) (pk [1, 0, 2, 3, 4, 6, 7, 8, 9]) (pk [0, 2, 3, 4, 5, 6, 7, 8]) ?_
   refine WD.o 24 Z (by kernel_rfl) Z ?_
   obtain ⟨c135, c139, hm140⟩ := cs2 hm133; clear hm133
   refine (EV.appendO (enc := Due.cells) (xs := own0v13_1) (ys := [(Due.mk (((pace * m_Kernel_Pace) + slot) + (sel3 m_Target.w0 m_Target.w1 m_Target.w2 x124)) x131 (ele (ele m_memory x120.1) x120.2))]) ((own0v13_1 ++ [(Due.mk (((pace * m_Kernel_Pace) + slot) + (sel3 m_Target.w0 m_Target.w1 m_Target.w2 x124)) x131 (ele (ele m_memory x120.1) x120.2))])) 5 (by decide) ve95 Z Z Z Z Z (Own.blkArr 0 (rows := [(Due.mk (((pace * m_Kernel_Pace) + slot) + (sel3 m_Target.w0 m_Target.w1 m_Target.w2 x124)) x131 (ele (ele m_memory x120.1) x120.2))].map Due.cells) Z Z (rows_len Due.cells_len)) Due.cells_len (Due.cells_one _) Z c135.1 c135.2 (fun u137 hu138 => ?_))
   refine WD.b (H' := [kn M w.heap.size K0 X123.2, blk b134 [i_ (((pace * m_Kernel_Pace) + slot) + (sel3 m_Target.w0 m_Target.w1 m_Target.w2 x124)), i_ x131, i_ (ele (ele m_memory x120.1) x120.2)] 148, blk b_m [i_ m_Target.u0, i_ m_Target.u1, i_ m_Target.u2, i_ m_Target.w0, i_ m_Target.w1, i_ m_Target.w2, i_ m_Target.regs, i_ m_Kernel_Pace, i_ m_Kernel_Stages, v_m_Kernel_Ops, X10.1, v_m_memory, i_ m_turns, uown0v13_1] 97, vec X10.1 2 1 (List.map icell x7.1), grid v_m_memory hs_m_memory 28 2 m_memory, ovec u137 148 3 (List.map Due.cells (own0v13_1 ++ [(Due.mk (((pace * m_Kernel_Pace) + slot) + (sel3 m_Target.w0 m_Target.w1 m_Target.w2 x124)) x131 (ele (ele m_memory x120.1) x120.2))])), blk b77 [i_ (ele x7.1 x63)] 2, blk b57 [i_ (pace - (ele m_Kernel_Ops x34_1).stage)] 3, blk b54 (Opr.cells (ele m_Kernel_Ops x34_1)) 45, vec uv11_1 1 1 (List.map fcell Bv11_1)]) (pk [1, 0, 2, 3, 4, 5, 6, 7, 8, 9]) (pk [0, 1, 2, 3, 4, 6, 7, 8, 9]) ?_
   refine wz 25 Z Z (QV.nilCheck Z Z) (zf 26 fd97_5 Z Z ?_)
   refine WD.l 27 Z (by kernel_rfl) Z ?_
   refine (EV.store 2 Z Z Z Z Z Z (vs := [u137]) (SliceLen.cells hu138) sz95 (nl Z) (oc (SliceLen.one hu138) one_nil) ?_)
   refine WQ.block (WQ.then (WC.region (wq Z (QV.add Z Z Z Z c139) (wm Z (WL.nil ?_)))))
   exact WQ.again7 (own0v13_1 ++ [(Due.mk (((pace * m_Kernel_Pace) + slot) + (sel3 m_Target.w0 m_Target.w1 m_Target.w2 x124)) x131 (ele (ele m_memory x120.1) x120.2))]) v11_1 (x34_1 + 1) u137 uv11_1 Bv11_1 X123.2 m44 ⟨up_next hm140 hn47, hu138, hlv11_1, hBv11_1, (hRv11_1.le hle123), (hle_1.trans hle123)⟩ (Nat.lt_succ_self _) ⟨Z, Z, Z, Z, Z, Z, Z, Z, trivial⟩ (pk [9, 1, 2, 5, 4, 3])
  refine sr (wq Z (QV.eql Z Z Z Z) (wa Z (nt ?_)))
  refine wc Z hm141 (fun h142 hm143 => ?_) (fun h142 hm172 => ?_) <;> clear hm141
  ·skip
   refine sr (wl pl2 Z (Own.cell 0 Z Z) (wa Z (nr (wm Z (wq Z (QV.makeFunc (ec Z (ec Z (ec Z (ec Z eN))))) (WL.effect Z ?_))))))
   refine (EV.buildSlice (by decide) sz_144 (by decide) (by decide) (ps := [(0, .tmp 107)]) (cells := [.func (.func 97) #[] #[.pointer (some (⟨b77, 0, none⟩)), .pointer (some (⟨b1, 0, none⟩)), .pointer (some (⟨b54, 0, none⟩)), .pointer (some (⟨b57, 0, none⟩))]]) (ec Z eN) (by kernel_rfl) (fun b144 => ?_))
   refine WL.effect Z ?_
   refine EV.of (C' := Own M w [kn M w.heap.size K0 k_1, blk b77 [i_ (ele x7.1 x63)] 2, blk b144 [.func (.func 97) #[] #[.pointer (some (⟨b77, 0, none⟩)), .pointer (some (⟨b1, 0, none⟩)), .pointer (some (⟨b54, 0, none⟩)), .pointer (some (⟨b57, 0, none⟩))]] 1, blk b57 [i_ (pace - (ele m_Kernel_Ops x34_1).stage)] 3, blk b54 (Opr.cells (ele m_Kernel_Ops x34_1)) 45, vec uv11_1 1 1 (List.map fcell Bv11_1), blk b_m [i_ m_Target.u0, i_ m_Target.u1, i_ m_Target.u2, i_ m_Target.w0, i_ m_Target.w1, i_ m_Target.w2, i_ m_Target.regs, i_ m_Kernel_Pace, i_ m_Kernel_Stages, v_m_Kernel_Ops, X10.1, v_m_memory, i_ m_turns, uown0v13_1] 97, ovec uown0v13_1 148 3 (List.map Due.cells own0v13_1), grid v_m_memory hs_m_memory 28 2 m_memory, vec X10.1 2 1 (List.map icell x7.1)]) (pk [5, 1, 0, 2, 3, 4, 6, 7, 8, 9]) ?_
   refine EV.freeze hk (fun k145 hle145 hr145 => ?_)
   have hc145 := blk_cells hr145
   refine EV.of (C' := Own M w [kn M w.heap.size K0 k145, blk b54 (Opr.cells (ele m_Kernel_Ops x34_1)) 45, blk b144 [.func (.func 97) #[] #[.pointer (some (⟨b77, 0, none⟩)), .pointer (some (⟨b1, 0, none⟩)), .pointer (some (⟨b54, 0, none⟩)), .pointer (some (⟨b57, 0, none⟩))]] 1, blk b57 [i_ (pace - (ele m_Kernel_Ops x34_1).stage)] 3, vec uv11_1 1 1 (List.map fcell Bv11_1), blk b_m [i_ m_Target.u0, i_ m_Target.u1, i_ m_Target.u2, i_ m_Target.w0, i_ m_Target.w1, i_ m_Target.w2, i_ m_Target.regs, i_ m_Kernel_Pace, i_ m_Kernel_Stages, v_m_Kernel_Ops, X10.1, v_m_memory, i_ m_turns, uown0v13_1] 97, ovec uown0v13_1 148 3 (List.map Due.cells own0v13_1), grid v_m_memory hs_m_memory 28 2 m_memory, vec X10.1 2 1 (List.map icell x7.1)]) (pk [0, 3, 1, 2, 4, 5, 6, 7, 8]) ?_
   refine EV.freeze hk (fun k146 hle146 hr146 => ?_)
   have hc146 := blk_cells hr146
   refine EV.of (C' := Own M w [kn M w.heap.size K0 k146, blk b57 [i_ (pace - (ele m_Kernel_Ops x34_1).stage)] 3, blk b144 [.func (.func 97) #[] #[.pointer (some (⟨b77, 0, none⟩)), .pointer (some (⟨b1, 0, none⟩)), .pointer (some (⟨b54, 0, none⟩)), .pointer (some (⟨b57, 0, none⟩))]] 1, vec uv11_1 1 1 (List.map fcell Bv11_1), blk b_m [i_ m_Target.u0, i_ m_Target.u1, i_ m_Target.u2, i_ m_Target.w0, i_ m_Target.w1, i_ m_Target.w2, i_ m_Target.regs, i_ m_Kernel_Pace, i_ m_Kernel_Stages, v_m_Kernel_Ops, X10.1, v_m_memory, i_ m_turns, uown0v13_1] 97, ovec uown0v13_1 148 3 (List.map Due.cells own0v13_1), grid v_m_memory hs_m_memory 28 2 m_memory, vec X10.1 2 1 (List.map icell x7.1)]) (pk [0, 2, 1, 3, 4, 5, 6, 7]) ?_
   refine EV.freeze hk (fun k147 hle147 hr147 => ?_)
   have hc147 := blk_cells hr147
   obtain ⟨c148, hm149⟩ := cs hm143; clear hm143
   have hR152 : ClosK 97 (.pointer (some (⟨b1, 0, none⟩))) k147 (Bv11_1 ++ ([(.func (.func 97) #[] #[.pointer (some (⟨b77, 0, none⟩)), .pointer (some (⟨b1, 0, none⟩)), .pointer (some (⟨b54, 0, none⟩)), .pointer (some (⟨b57, 0, none⟩))], ((ele m_Kernel_Ops x34_1), (pace - (ele m_Kernel_Ops x34_1).stage), (ele x7.1 x63)))] : List (Value × Opr × Int × Int))) := ClosK.snoc (hRv11_1.le ((hle145.trans hle146).trans hle147)) (hc145.le (hle146.trans hle147)) (hc146.le hle147) hc147
   have hB153 : ((Bv11_1 ++ ([(.func (.func 97) #[] #[.pointer (some (⟨b77, 0, none⟩)), .pointer (some (⟨b1, 0, none⟩)), .pointer (some (⟨b54, 0, none⟩)), .pointer (some (⟨b57, 0, none⟩))], ((ele m_Kernel_Ops x34_1), (pace - (ele m_Kernel_Ops x34_1).stage), (ele x7.1 x63)))] : List (Value × Opr × Int × Int))) : List (Value × Opr × Int × Int)).map (·.2) = (v11_1 ++ [((ele m_Kernel_Ops x34_1), (pace - (ele m_Kernel_Ops x34_1).stage), (ele x7.1 x63))]) := clos_map hBv11_1
   refine (EV.appendL (enc := fcell) (xs := Bv11_1) (ys := ([(.func (.func 97) #[] #[.pointer (some (⟨b77, 0, none⟩)), .pointer (some (⟨b1, 0, none⟩)), .pointer (some (⟨b54, 0, none⟩)), .pointer (some (⟨b57, 0, none⟩))], ((ele m_Kernel_Ops x34_1), (pace - (ele m_Kernel_Ops x34_1).stage), (ele x7.1 x63)))] : List (Value × Opr × Int × Int))) (Bv11_1 ++ ([(.func (.func 97) #[] #[.pointer (some (⟨b77, 0, none⟩)), .pointer (some (⟨b1, 0, none⟩)), .pointer (some (⟨b54, 0, none⟩)), .pointer (some (⟨b57, 0, none⟩))], ((ele m_Kernel_Ops x34_1), (pace - (ele m_Kernel_Ops x34_1).stage), (ele x7.1 x63)))] : List (Value × Opr × Int × Int))) 2 (by decide) ve144 Z Z Z Z Z (Own.blkArr 1 (rows := ([(.func (.func 97) #[] #[.pointer (some (⟨b77, 0, none⟩)), .pointer (some (⟨b1, 0, none⟩)), .pointer (some (⟨b54, 0, none⟩)), .pointer (some (⟨b57, 0, none⟩))], ((ele m_Kernel_Ops x34_1), (pace - (ele m_Kernel_Ops x34_1).stage), (ele x7.1 x63)))] : List (Value × Opr × Int × Int)).map fcell) Z Z (rows_len fcell_len)) fcell_len (clo_one Z) Z (AL.c1 hB153 c148) (AL.c2 hB153 c148) (fun u150 hu151 => ?_))
   have hl154 := slen_clo hB153 hu151
   refine wa Z (WL.nil (WQ.block (WQ.then (WC.dr (m := 28) (S := Own M w [kn M w.heap.size K0 k147, blk b144 [.func (.func 97) #[] #[.pointer (some (⟨b77, 0, none⟩)), .pointer (some (⟨b1, 0, none⟩)), .pointer (some (⟨b54, 0, none⟩)), .pointer (some (⟨b57, 0, none⟩))]] 1, vec u150 1 1 (List.map fcell (Bv11_1 ++ ([(.func (.func 97) #[] #[.pointer (some (⟨b77, 0, none⟩)), .pointer (some (⟨b1, 0, none⟩)), .pointer (some (⟨b54, 0, none⟩)), .pointer (some (⟨b57, 0, none⟩))], ((ele m_Kernel_Ops x34_1), (pace - (ele m_Kernel_Ops x34_1).stage), (ele x7.1 x63)))] : List (Value × Opr × Int × Int)))), blk b_m [i_ m_Target.u0, i_ m_Target.u1, i_ m_Target.u2, i_ m_Target.w0, i_ m_Target.w1, i_ m_Target.w2, i_ m_Target.regs, i_ m_Kernel_Pace, i_ m_Kernel_Stages, v_m_Kernel_Ops, X10.1, v_m_memory, i_ m_turns, uown0v13_1] 97, grid v_m_memory hs_m_memory 28 2 m_memory, vec X10.1 2 1 (List.map icell x7.1)]) (by kernel_rfl) (by kernel_rfl) (pk [0, 1, 2, 3, 5, 6]) ?_))))
   refine zl 0 pl92 Z Z (fun w hw => CellsAt.one 0 ((Own.kcells 0 Z hk (hc2.le ((((hle10.trans hle_1).trans hle145).trans hle146).trans hle147))) w hw) Z) (zl 1 pl92 Z Z (fun w hw => CellsAt.one 0 ((Own.kcells 0 Z hk (hc2.le ((((hle10.trans hle_1).trans hle145).trans hle146).trans hle147))) w hw) Z) (wz 2 Z Z (QV.nilCheck Z Z) (zf 3 fd97_5 Z Z (zl 4 pl95 Z Z (Own.cell 3 Z Z) (zm 5 Z Z (zl 6 pl92 Z Z (fun w hw => CellsAt.one 0 ((Own.kcells 0 Z hk (hc2.le ((((hle10.trans hle_1).trans hle145).trans hle146).trans hle147))) w hw) Z) (zf 7 fd45_2 Z Z (zl 8 pl3 Z Z (fun w hw => CellsAt.one 2 ((Own.kcells 0 Z hk (hc146.le hle147)) w hw) Z) ?_))))))))
   obtain ⟨x155, hx156, hm157⟩ := bd_some hm149; clear hm149
   refine wz 9 Z Z (QV.call en48 (ec Z eN) (fun w hw => have h := num_Class_w w hx156 ; h)) (wz 10 Z Z (QV.nilCheck Z Z) (zf 11 fd97_0 Z Z (zf 12 fd24_1 Z Z ?_)))
   obtain ⟨c158, c160, hm161⟩ := cs2 hm157; clear hm157
   refine wz 13 Z Z (QV.indexArray ar22 Z Z Z Z c158.1 c158.2) (zl 14 pl3 Z Z (Own.cellSym 3 Z (sel3_get (off := 3) (i := x155) c158.1 c158.2 Z Z Z) (addr_sym _ _ _)) (wz 15 Z Z (QV.add Z Z Z Z c160) (zl 16 pl92 Z Z (fun w hw => CellsAt.one 0 ((Own.kcells 0 Z hk (hc2.le ((((hle10.trans hle_1).trans hle145).trans hle146).trans hle147))) w hw) Z) (zf 17 fd45_3 Z Z (zl 18 pl3 Z Z (fun w hw => CellsAt.one 3 ((Own.kcells 0 Z hk (hc146.le hle147)) w hw) Z) (zm 19 Z Z ?_))))))
   obtain ⟨x162, hx163, hm164⟩ := bd_some hm161; clear hm161
   refine wz 20 Z Z (QV.call en95 (ec Z (ec Z (ec Z eN))) (fun w hw => have h := kernel_machine_reg_w w hx163 (Own.cellsBlk 3 Z w hw); h)) (zm 21 Z Z (wz 22 Z Z (QV.build (ps := [(0, .tmp 125), (1, .tmp 130), (2, .tmp 131)]) (cells := [i_ (((pace * m_Kernel_Pace) + slot) + (sel3 m_Target.w0 m_Target.w1 m_Target.w2 x155)), i_ x162, i_ (ele x7.1 x63)]) (ec Z (ec Z (ec Z eN))) (by kernel_rfl)) ?_))
   refine WD.o 23 Z (by kernel_rfl) Z ?_
   refine (EV.buildSlice (by decide) sz_95 (by decide) (by decide) (ps := [(0, .tmp 132)]) (cells := [i_ (((pace * m_Kernel_Pace) + slot) + (sel3 m_Target.w0 m_Target.w1 m_Target.w2 x155)), i_ x162, i_ (ele x7.1 x63)]) (ec Z eN) (by kernel_rfl) (fun b165 => ?_))
   refine WD.b (H' := [kn M w.heap.size K0 k147, blk b165 [i_ (((pace * m_Kernel_Pace) + slot) + (sel3 m_Target.w0 m_Target.w1 m_Target.w2 x155)), i_ x162, i_ (ele x7.1 x63)] 148, blk b144 [.func (.func 97) #[] #[.pointer (some (⟨b77, 0, none⟩)), .pointer (some (⟨b1, 0, none⟩)), .pointer (some (⟨b54, 0, none⟩)), .pointer (some (⟨b57, 0, none⟩))]] 1, vec u150 1 1 (List.map fcell (Bv11_1 ++ ([(.func (.func 97) #[] #[.pointer (some (⟨b77, 0, none⟩)), .pointer (some (⟨b1, 0, none⟩)), .pointer (some (⟨b54, 0, none⟩)), .pointer (some (⟨b57, 0, none⟩))], ((ele m_Kernel_Ops x34_1), (pace - (ele m_Kernel_Ops x34_1).stage), (ele x7.1 x63)))] : List (Value × Opr × Int × Int)))), blk b_m [i_ m_Target.u0, i_ m_Target.u1, i_ m_Target.u2, i_ m_Target.w0, i_ m_Target.w1, i_ m_Target.w2, i_ m_Target.regs, i_ m_Kernel_Pace, i_ m_Kernel_Stages, v_m_Kernel_Ops, X10.1, v_m_memory, i_ m_turns, uown0v13_1] 97, grid v_m_memory hs_m_memory 28 2 m_memory, vec X10.1 2 1 (List.map icell x7.1)]) (pk [1, 0, 2, 3, 4, 6, 7]) (pk [0, 2, 3, 4, 5, 6]) ?_
   refine WD.o 24 Z (by kernel_rfl) Z ?_
   obtain ⟨c166, c170, hm171⟩ := cs2 hm164; clear hm164
   refine (EV.appendO (enc := Due.cells) (xs := own0v13_1) (ys := [(Due.mk (((pace * m_Kernel_Pace) + slot) + (sel3 m_Target.w0 m_Target.w1 m_Target.w2 x155)) x162 (ele x7.1 x63))]) ((own0v13_1 ++ [(Due.mk (((pace * m_Kernel_Pace) + slot) + (sel3 m_Target.w0 m_Target.w1 m_Target.w2 x155)) x162 (ele x7.1 x63))])) 5 (by decide) ve95 Z Z Z Z Z (Own.blkArr 0 (rows := [(Due.mk (((pace * m_Kernel_Pace) + slot) + (sel3 m_Target.w0 m_Target.w1 m_Target.w2 x155)) x162 (ele x7.1 x63))].map Due.cells) Z Z (rows_len Due.cells_len)) Due.cells_len (Due.cells_one _) Z c166.1 c166.2 (fun u168 hu169 => ?_))
   refine WD.b (H' := [kn M w.heap.size K0 k147, blk b165 [i_ (((pace * m_Kernel_Pace) + slot) + (sel3 m_Target.w0 m_Target.w1 m_Target.w2 x155)), i_ x162, i_ (ele x7.1 x63)] 148, blk b144 [.func (.func 97) #[] #[.pointer (some (⟨b77, 0, none⟩)), .pointer (some (⟨b1, 0, none⟩)), .pointer (some (⟨b54, 0, none⟩)), .pointer (some (⟨b57, 0, none⟩))]] 1, vec u150 1 1 (List.map fcell (Bv11_1 ++ ([(.func (.func 97) #[] #[.pointer (some (⟨b77, 0, none⟩)), .pointer (some (⟨b1, 0, none⟩)), .pointer (some (⟨b54, 0, none⟩)), .pointer (some (⟨b57, 0, none⟩))], ((ele m_Kernel_Ops x34_1), (pace - (ele m_Kernel_Ops x34_1).stage), (ele x7.1 x63)))] : List (Value × Opr × Int × Int)))), blk b_m [i_ m_Target.u0, i_ m_Target.u1, i_ m_Target.u2, i_ m_Target.w0, i_ m_Target.w1, i_ m_Target.w2, i_ m_Target.regs, i_ m_Kernel_Pace, i_ m_Kernel_Stages, v_m_Kernel_Ops, X10.1, v_m_memory, i_ m_turns, uown0v13_1] 97, ovec u168 148 3 (List.map Due.cells (own0v13_1 ++ [(Due.mk (((pace * m_Kernel_Pace) + slot) + (sel3 m_Target.w0 m_Target.w1 m_Target.w2 x155)) x162 (ele x7.1 x63))])), grid v_m_memory hs_m_memory 28 2 m_memory, vec X10.1 2 1 (List.map icell x7.1)]) (pk [1, 0, 2, 3, 4, 5, 6, 7]) (pk [0, 1, 2, 3, 4, 6, 7]) ?_
   refine wz 25 Z Z (QV.nilCheck Z Z) (zf 26 fd97_5 Z Z ?_)
   refine WD.l 27 Z (by kernel_rfl) Z ?_
   refine (EV.store 4 Z Z Z Z Z Z (vs := [u168]) (SliceLen.cells hu169) sz95 (nl Z) (oc (SliceLen.one hu169) one_nil) ?_)
   refine WQ.block (WQ.then (WC.region (wq Z (QV.add Z Z Z Z c170) (wm Z (WL.nil ?_)))))
   exact WQ.again7 (own0v13_1 ++ [(Due.mk (((pace * m_Kernel_Pace) + slot) + (sel3 m_Target.w0 m_Target.w1 m_Target.w2 x155)) x162 (ele x7.1 x63))]) (v11_1 ++ [((ele m_Kernel_Ops x34_1), (pace - (ele m_Kernel_Ops x34_1).stage), (ele x7.1 x63))]) (x34_1 + 1) u168 u150 (Bv11_1 ++ ([(.func (.func 97) #[] #[.pointer (some (⟨b77, 0, none⟩)), .pointer (some (⟨b1, 0, none⟩)), .pointer (some (⟨b54, 0, none⟩)), .pointer (some (⟨b57, 0, none⟩))], ((ele m_Kernel_Ops x34_1), (pace - (ele m_Kernel_Ops x34_1).stage), (ele x7.1 x63)))] : List (Value × Opr × Int × Int))) k147 m44 ⟨up_next hm171 hn47, hu169, hl154, hB153, hR152, (((hle_1.trans hle145).trans hle146).trans hle147)⟩ (Nat.lt_succ_self _) ⟨Z, Z, Z, Z, Z, Z, Z, Z, trivial⟩ (pk [3, 1, 4, 5, 6, 7])
  refine WC.region (wf fd45_2 Z (wl pl3 Z (Own.cell 2 Z Z) ?_))
  obtain ⟨c173, hm174⟩ := cs hm172; clear hm172
  refine wq Z (QV.sub Z Z Z Z c173) (wl pl2 Z (Own.cell 0 Z Z) (wm Z ?_))
  obtain ⟨x175, hx176, hm177⟩ := bd_some hm174; clear hm174
  refine wq Z (QV.call en98 (ec Z (ec Z (ec Z eN))) (fun w hw => have h := num_Op_w w hx176 ; h)) (wa Z (WL.nil (WQ.block (WQ.then (WC.dr (m := 28) (S := Own M w [kn M w.heap.size K0 k_1, blk b77 [i_ (ele x7.1 x63)] 2, blk b57 [i_ (pace - (ele m_Kernel_Ops x34_1).stage)] 3, blk b54 (Opr.cells (ele m_Kernel_Ops x34_1)) 45, vec uv11_1 1 1 (List.map fcell Bv11_1), blk b_m [i_ m_Target.u0, i_ m_Target.u1, i_ m_Target.u2, i_ m_Target.w0, i_ m_Target.w1, i_ m_Target.w2, i_ m_Target.regs, i_ m_Kernel_Pace, i_ m_Kernel_Stages, v_m_Kernel_Ops, X10.1, v_m_memory, i_ m_turns, uown0v13_1] 97, grid v_m_memory hs_m_memory 28 2 m_memory, vec X10.1 2 1 (List.map icell x7.1)]) (by kernel_rfl) (by kernel_rfl) (pk [4, 0, 1, 2, 3, 5, 7, 8]) ?_)))))
  refine zl 0 pl92 Z Z (fun w hw => CellsAt.one 0 ((Own.kcells 0 Z hk (hc2.le (hle10.trans hle_1))) w hw) Z) (zl 1 pl92 Z Z (fun w hw => CellsAt.one 0 ((Own.kcells 0 Z hk (hc2.le (hle10.trans hle_1))) w hw) Z) (wz 2 Z Z (QV.nilCheck Z Z) (zf 3 fd97_5 Z Z (zl 4 pl95 Z Z (Own.cell 5 Z Z) (zm 5 Z Z (zl 6 pl92 Z Z (fun w hw => CellsAt.one 0 ((Own.kcells 0 Z hk (hc2.le (hle10.trans hle_1))) w hw) Z) (zf 7 fd45_2 Z Z (zl 8 pl3 Z Z (Own.cell 3 Z Z) ?_))))))))
  obtain ⟨x178, hx179, hm180⟩ := bd_some hm177; clear hm177
  refine wz 9 Z Z (QV.call en48 (ec Z eN) (fun w hw => have h := num_Class_w w hx179 ; h)) (wz 10 Z Z (QV.nilCheck Z Z) (zf 11 fd97_0 Z Z (zf 12 fd24_1 Z Z ?_)))
  obtain ⟨c181, c183, hm184⟩ := cs2 hm180; clear hm180
  refine wz 13 Z Z (QV.indexArray ar22 Z Z Z Z c181.1 c181.2) (zl 14 pl3 Z Z (Own.cellSym 5 Z (sel3_get (off := 3) (i := x178) c181.1 c181.2 Z Z Z) (addr_sym _ _ _)) (wz 15 Z Z (QV.add Z Z Z Z c183) (zl 16 pl92 Z Z (fun w hw => CellsAt.one 0 ((Own.kcells 0 Z hk (hc2.le (hle10.trans hle_1))) w hw) Z) (zf 17 fd45_3 Z Z (zl 18 pl3 Z Z (Own.cell 3 Z Z) (zm 19 Z Z ?_))))))
  obtain ⟨x185, hx186, hm187⟩ := bd_some hm184; clear hm184
  refine wz 20 Z Z (QV.call en95 (ec Z (ec Z (ec Z eN))) (fun w hw => have h := kernel_machine_reg_w w hx186 (Own.cellsBlk 5 Z w hw); h)) (zm 21 Z Z (wz 22 Z Z (QV.build (ps := [(0, .tmp 125), (1, .tmp 130), (2, .tmp 131)]) (cells := [i_ (((pace * m_Kernel_Pace) + slot) + (sel3 m_Target.w0 m_Target.w1 m_Target.w2 x178)), i_ x185, i_ x175]) (ec Z (ec Z (ec Z eN))) (by kernel_rfl)) ?_))
  refine WD.o 23 Z (by kernel_rfl) Z ?_
  refine (EV.buildSlice (by decide) sz_95 (by decide) (by decide) (ps := [(0, .tmp 132)]) (cells := [i_ (((pace * m_Kernel_Pace) + slot) + (sel3 m_Target.w0 m_Target.w1 m_Target.w2 x178)), i_ x185, i_ x175]) (ec Z eN) (by kernel_rfl) (fun b188 => ?_))
  refine WD.b (H' := [kn M w.heap.size K0 k_1, blk b188 [i_ (((pace * m_Kernel_Pace) + slot) + (sel3 m_Target.w0 m_Target.w1 m_Target.w2 x178)), i_ x185, i_ x175] 148, blk b77 [i_ (ele x7.1 x63)] 2, blk b57 [i_ (pace - (ele m_Kernel_Ops x34_1).stage)] 3, blk b54 (Opr.cells (ele m_Kernel_Ops x34_1)) 45, vec uv11_1 1 1 (List.map fcell Bv11_1), blk b_m [i_ m_Target.u0, i_ m_Target.u1, i_ m_Target.u2, i_ m_Target.w0, i_ m_Target.w1, i_ m_Target.w2, i_ m_Target.regs, i_ m_Kernel_Pace, i_ m_Kernel_Stages, v_m_Kernel_Ops, X10.1, v_m_memory, i_ m_turns, uown0v13_1] 97, grid v_m_memory hs_m_memory 28 2 m_memory, vec X10.1 2 1 (List.map icell x7.1)]) (pk [5, 0, 1, 2, 3, 4, 6, 8, 9]) (pk [0, 2, 3, 4, 5, 6, 7, 8]) ?_
  refine WD.o 24 Z (by kernel_rfl) Z ?_
  obtain ⟨c189, c193, hm194⟩ := cs2 hm187; clear hm187
  refine (EV.appendO (enc := Due.cells) (xs := own0v13_1) (ys := [(Due.mk (((pace * m_Kernel_Pace) + slot) + (sel3 m_Target.w0 m_Target.w1 m_Target.w2 x178)) x185 x175)]) ((own0v13_1 ++ [(Due.mk (((pace * m_Kernel_Pace) + slot) + (sel3 m_Target.w0 m_Target.w1 m_Target.w2 x178)) x185 x175)])) 7 (by decide) ve95 Z Z Z Z Z (Own.blkArr 0 (rows := [(Due.mk (((pace * m_Kernel_Pace) + slot) + (sel3 m_Target.w0 m_Target.w1 m_Target.w2 x178)) x185 x175)].map Due.cells) Z Z (rows_len Due.cells_len)) Due.cells_len (Due.cells_one _) Z c189.1 c189.2 (fun u191 hu192 => ?_))
  refine WD.b (H' := [kn M w.heap.size K0 k_1, blk b188 [i_ (((pace * m_Kernel_Pace) + slot) + (sel3 m_Target.w0 m_Target.w1 m_Target.w2 x178)), i_ x185, i_ x175] 148, blk b77 [i_ (ele x7.1 x63)] 2, blk b57 [i_ (pace - (ele m_Kernel_Ops x34_1).stage)] 3, blk b54 (Opr.cells (ele m_Kernel_Ops x34_1)) 45, vec uv11_1 1 1 (List.map fcell Bv11_1), blk b_m [i_ m_Target.u0, i_ m_Target.u1, i_ m_Target.u2, i_ m_Target.w0, i_ m_Target.w1, i_ m_Target.w2, i_ m_Target.regs, i_ m_Kernel_Pace, i_ m_Kernel_Stages, v_m_Kernel_Ops, X10.1, v_m_memory, i_ m_turns, uown0v13_1] 97, ovec u191 148 3 (List.map Due.cells (own0v13_1 ++ [(Due.mk (((pace * m_Kernel_Pace) + slot) + (sel3 m_Target.w0 m_Target.w1 m_Target.w2 x178)) x185 x175)])), grid v_m_memory hs_m_memory 28 2 m_memory, vec X10.1 2 1 (List.map icell x7.1)]) (pk [5, 0, 1, 2, 3, 4, 6, 7, 8, 9]) (pk [0, 1, 2, 3, 4, 5, 6, 8, 9]) ?_
  refine wz 25 Z Z (QV.nilCheck Z Z) (zf 26 fd97_5 Z Z ?_)
  refine WD.l 27 Z (by kernel_rfl) Z ?_
  refine (EV.store 6 Z Z Z Z Z Z (vs := [u191]) (SliceLen.cells hu192) sz95 (nl Z) (oc (SliceLen.one hu192) one_nil) ?_)
  refine WQ.block (WQ.then (WC.region (wq Z (QV.add Z Z Z Z c193) (wm Z (WL.nil ?_)))))
  exact WQ.again7 (own0v13_1 ++ [(Due.mk (((pace * m_Kernel_Pace) + slot) + (sel3 m_Target.w0 m_Target.w1 m_Target.w2 x178)) x185 x175)]) v11_1 (x34_1 + 1) u191 uv11_1 Bv11_1 k_1 m44 ⟨up_next hm194 hn47, hu192, hlv11_1, hBv11_1, hRv11_1, hle_1⟩ (Nat.lt_succ_self _) ⟨Z, Z, Z, Z, Z, Z, Z, Z, trivial⟩ (pk [4, 5, 6, 7, 8, 9])
 refine WC.exit (te (te (WQ.block_exit ?_)))
 exact WQ.out7 own0v13_1 v11_1 x34_1 uown0v13_1 uv11_1 Bv11_1 k_1 ⟨up_brk hm195 hn47, hlown0v13_1, hlv11_1, hBv11_1, hRv11_1, hle_1⟩ ⟨Z, Z, Z, Z, Z, Z, Z, Z, trivial⟩ (pk [0, 1, 2, 3, 4, 5])
end Go.Proofs.Ytaimbkndebaaiab
end