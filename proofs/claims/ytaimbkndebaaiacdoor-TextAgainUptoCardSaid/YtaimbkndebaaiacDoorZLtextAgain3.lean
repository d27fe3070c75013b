/- Texts for the law, 3. -/
import Derived.Test.YtaimbkndebaaiacDoorZLtextAgain2
import Derived.Test.YtaimbkndebaaiacDoorProg
import Derived.KernelRfl
import Derived.LaidLaws
import Derived.Shelf.Vars
import Derived.LaidMore
set_option linter.unusedVariables false
set_option linter.unusedSimpArgs false
set_option maxRecDepth 8000
section
namespace Go.Proofs.YtaimbkndebaaiacDoor
open Go.Rd
open TLib TLibR TNum0 TNum
namespace TLoop
theorem ag25 : AggT Tryd.prog 25 3 := ⟨_, Tryd.underlying25, rfl, by kernel_rfl⟩
theorem ag45 : AggT Tryd.prog 45 2 := ⟨_, Tryd.underlying45, rfl, by kernel_rfl⟩
theorem ag47 : AggT Tryd.prog 47 9 := ⟨_, Tryd.underlying47, rfl, by kernel_rfl⟩
theorem en25 : Go.Rd.Enters Tryd.prog 25 := eT Tryd.func25
theorem en26 : Go.Rd.Enters Tryd.prog 26 := eT Tryd.func26
theorem en43 : Go.Rd.Enters Tryd.prog 43 := eT Tryd.func43
theorem en44 : Go.Rd.Enters Tryd.prog 44 := eT Tryd.func44
theorem eq45 : EqT Tryd.prog 45 2 := ⟨by kernel_rfl, ⟨_, Tryd.underlying45⟩, by kernel_rfl, by kernel_rfl⟩
theorem fd25_0 : FieldT Tryd.prog 25 0 0 := fT 0 Tryd.underlying25
theorem fd25_1 : FieldT Tryd.prog 25 1 1 := fT 0 Tryd.underlying25
theorem fd25_2 : FieldT Tryd.prog 25 2 2 := fT 0 Tryd.underlying25
theorem fd45_0 : FieldT Tryd.prog 45 0 0 := fT 0 Tryd.underlying45
theorem fd45_1 : FieldT Tryd.prog 45 1 1 := fT 0 Tryd.underlying45
theorem fd47_0 : FieldT Tryd.prog 47 0 0 := fT 0 Tryd.underlying47
theorem fd47_1 : FieldT Tryd.prog 47 1 1 := fT 1 Tryd.underlying47
theorem fd47_2 : FieldT Tryd.prog 47 2 3 := fT 1 Tryd.underlying47
theorem fd47_3 : FieldT Tryd.prog 47 3 5 := fT 0 Tryd.underlying47
theorem fd47_4 : FieldT Tryd.prog 47 4 6 := fT 0 Tryd.underlying47
theorem fd47_5 : FieldT Tryd.prog 47 5 7 := fT 0 Tryd.underlying47
theorem fd47_6 : FieldT Tryd.prog 47 6 8 := fT 0 Tryd.underlying47
theorem pl2 : Plain Tryd.prog 2 := ⟨_, Tryd.underlying2, rfl⟩
theorem pl22 : Plain Tryd.prog 22 := ⟨_, Tryd.underlying22, rfl⟩
theorem pl23 : Plain Tryd.prog 23 := ⟨_, Tryd.underlying23, rfl⟩
theorem pl3 : Plain Tryd.prog 3 := ⟨_, Tryd.underlying3, rfl⟩
theorem sl22 : SliceT Tryd.prog 22 3 1 := ⟨Tryd.underlying22, by kernel_rfl⟩
theorem sl23 : SliceT Tryd.prog 23 47 9 := ⟨Tryd.underlying23, by kernel_rfl⟩
theorem sl83 : SliceT Tryd.prog 83 45 2 := ⟨Tryd.underlying83, by kernel_rfl⟩
theorem sz45 : SizeT Tryd.prog 45 2 := by unfold SizeT; kernel_rfl
theorem sz47 : SizeT Tryd.prog 47 9 := by unfold SizeT; kernel_rfl
theorem sz_83 : SliceZ Tryd.prog 83 45 2 [.int .i64 0, .int .i64 0] := ⟨Tryd.underlying83, by kernel_rfl⟩
theorem ze45 : ZeroT Tryd.prog 45 [.int .i64 0, .int .i64 0] := by unfold ZeroT; kernel_rfl
theorem ze47 : ZeroT Tryd.prog 47 [.int .i64 0, .int .i64 0, .int .i64 0, .int .i64 0, .int .i64 0, .int .i64 0, .int .i64 0, .int .i64 0, .int .i64 0] := by unfold ZeroT; kernel_rfl
end TLoop
open TLoop
theorem loop_in_w {n_ from_ below : Int} {r : Bool} (w : World) (hm : loop_in_m n_ from_ below = some r)  : Calls Tryd.prog 25 #[.int .i64 n_, .int .i64 from_, .int .i64 below] w (fun e w' => e = .returned (.bool r) ∧ Grow w w') := by
 unfold loop_in_m at hm
 have hk := Base.rfl (w := w)
 refine calls_of_WC (n := 15) (args := [i_ n_, i_ from_, i_ below]) Tryd.func25 Z Z (nl Z) ?_ (Own.startK hk (Own.start w))
 refine sr (wa Z (ns (wm Z (wm Z (wq Z (QV.geq Z Z Z Z) (wm Z (gp Z (fun hG => QV.move Z Z) (gp Z (fun hG => QV.move Z Z) (gp Z (fun hG => QV.lss Z hG Z hG) ?_)))))))))
 refine wq Z (QV.pickAnd Z Z Z (fun h => h)) (wa Z (nt (WC.ret ?_)))
 obtain rfl := (eq_of_some hm).symm
 exact WQ.ret1 Z Z fun w hw => kg hw
theorem loop_Uses_w {s : Stm} {r : List Rf} {K0 : World} (hm : loop_Uses_m s = some r)  (M : Nat → Prop) (w : World) (hk : Base M K0 w) (hw0 : Own M w [] w) : Calls Tryd.prog 43 #[.agg #[.int .i64 s.op, .int .i64 s.a.st, .int .i64 s.a.bk, .int .i64 s.b.st, .int .i64 s.b.bk, .int .i64 s.ar, .int .i64 s.sp, .int .i64 s.pl, .int .i64 s.n]] w (fun e w' => ∃ X : Value × World, e = .returned (X.1) ∧ Own M w (kn M w.heap.size K0 X.2 :: []) w' ∧ Arr X.2 X.1 2 (r.map Rf.cells)) := by
 unfold loop_Uses_m at hm
 refine calls_of_WC (n := 19) (args := [.agg #[i_ s.op, i_ s.a.st, i_ s.a.bk, i_ s.b.st, i_ s.b.bk, i_ s.ar, i_ s.sp, i_ s.pl, i_ s.n]]) Tryd.func43 Z Z (nl Z) ?_ (Own.startK hk hw0)
 refine sr (WL.effect Z ?_)
 refine (EV.boxAgg (by decide) Z Z (fun b1 => ?_))
 refine wa Z (nt (WC.seq (WC.block (sr (wf fd47_0 Z (wl pl3 Z (Own.cell 0 Z Z) (wq Z (QV.eql Z Z Z Z) (wa Z (nt ?_)))))))))
 refine wc Z hm (fun h2 hm3 => ?_) (fun h2 hm6 => ?_) <;> clear hm
 ·skip
  refine sr (wf fd47_1 Z (wq Z (QV.loadAgg ag45 Z Z Z (fun w hw => (Own.cellsBlk 0 Z w hw).sub 1 2 Z)) (WL.effect Z ?_)))
  refine (EV.buildSlice (by decide) sz_83 (by decide) (by decide) (ps := [(0, .tmp 8)]) (cells := [i_ s.a.st, i_ s.a.bk]) (ec Z eN) (by kernel_rfl) (fun b4 => ?_))
  refine wa Z (nt (WC.ret (kr (tr ?_))))
  obtain rfl := (eq_of_some hm3).symm
  refine WK.of (fun w hw => hw.blkVec Rf.cells ([s.a] : List Rf) Z Rf.cells_len (nl Z)) ?_
  refine WK.of (C' := Own M w [kn M w.heap.size K0 K0, vec (blkSlice b4 1 1) 45 2 (List.map Rf.cells [s.a]), blk b1 s.cells 47]) (pk [2, 0, 1]) ?_
  refine WK.freeze hk (fun k5 hle5 hr5 => ?_)
  have hA5 := vec_arr hr5
  refine WQ.ret1 Z Z (fun w hw => ?_)
  exact ⟨((blkSlice b4 1 1), k5), Z, hw.pick [0] (by decide), hA5⟩
 refine sr (wf fd47_0 Z (wl pl3 Z (Own.cell 0 Z Z) (wq Z (QV.gtr Z Z Z Z) (wa Z (nt ?_)))))
 refine wc Z hm6 (fun h7 hm8 => ?_) (fun h7 hm11 => ?_) <;> clear hm6
 ·skip
  refine sr (wf fd47_1 Z (wq Z (QV.loadAgg ag45 Z Z Z (fun w hw => (Own.cellsBlk 0 Z w hw).sub 1 2 Z)) (wf fd47_2 Z (wq Z (QV.loadAgg ag45 Z Z Z (fun w hw => (Own.cellsBlk 0 Z w hw).sub 3 2 Z)) (WL.effect Z ?_)))))
  refine (EV.buildSlice (by decide) sz_83 (by decide) (by decide) (ps := [(0, .tmp 15), (1, .tmp 17)]) (cells := [i_ s.a.st, i_ s.a.bk, i_ s.b.st, i_ s.b.bk]) (ec Z (ec Z eN)) (by kernel_rfl) (fun b9 => ?_))
  refine wa Z (nt (WC.ret (kr (tr ?_))))
  obtain rfl := (eq_of_some hm8).symm
  refine WK.of (fun w hw => hw.blkVec Rf.cells ([s.a, s.b] : List Rf) Z Rf.cells_len (nl Z)) ?_
  refine WK.of (C' := Own M w [kn M w.heap.size K0 K0, vec (blkSlice b9 2 2) 45 2 (List.map Rf.cells [s.a, s.b]), blk b1 s.cells 47]) (pk [2, 0, 1]) ?_
  refine WK.freeze hk (fun k10 hle10 hr10 => ?_)
  have hA10 := vec_arr hr10
  refine WQ.ret1 Z Z (fun w hw => ?_)
  exact ⟨((blkSlice b9 2 2), k10), Z, hw.pick [0] (by decide), hA10⟩
 refine sk (WQ.block (WQ.then (sr (wa Z (nt (WC.ret ?_))))))
 obtain rfl := (eq_of_some hm11).symm
 refine WQ.ret1 Z Z (fun w hw => ?_)
 exact ⟨(.slice none 0 0, K0), Z, hw.pick [1] (by decide), Arr.nil⟩
theorem loop_ref_w {v_l_logs v_l_body v_l_outs : Value} {l : Lp} {k_ : Int} {r_ : Rf} {r : Bool} (w : World) (hm : loop_ref_m l k_ r_ = some r) (h_l_logs : Arr w v_l_logs 1 (l.logs.map icell)) (h_l_body : Arr w v_l_body 9 (l.body.map Stm.cells)) (h_l_outs : Arr w v_l_outs 1 (l.outs.map icell)) : Calls Tryd.prog 44 #[.agg #[v_l_logs, v_l_body, v_l_outs], .int .i64 k_, .agg #[.int .i64 r_.st, .int .i64 r_.bk]] w (fun e w' => e = .returned (.bool r) ∧ Grow w w') := by
 unfold loop_ref_m at hm
 have hk := Base.rfl (w := w)
 refine calls_of_WC (n := 24) (args := [.agg #[v_l_logs, v_l_body, v_l_outs], i_ k_, .agg #[i_ r_.st, i_ r_.bk]]) Tryd.func44 Z Z (nl Z) ?_ (Own.startK hk (Own.start w))
 refine sr (WL.effect Z ?_)
 refine (EV.boxAgg (by decide) Z Z (fun b1 => ?_))
 refine WL.effect Z ?_
 refine (EV.boxAgg (by decide) Z Z (fun b2 => ?_))
 refine wa Z (ns (wf fd25_1 Z (wl pl23 Z (Own.cell 1 Z Z) (wq Z (QV.lenS Tryd.underlying23 Z Z h_l_body.lenMap) (wa Z (nt (WC.seq (sr (wf fd45_1 Z (wl pl3 Z (Own.cell 0 Z Z) (wq Z (QV.eql Z Z Z Z) ?_)))))))))))
 refine nt ?_
 refine wc Z hm (fun h3 hm4 => ?_) (fun h3 hm11 => ?_) <;> clear hm
 ·skip
  refine WC.region (wm Z (wa Z (ns (wf fd45_1 Z (wl pl3 Z (Own.cell 0 Z Z) ?_)))))
  obtain ⟨x5, hx6, hm7⟩ := bd_some hm4; clear hm4
  refine wq Z (QV.call en25 (ec Z (ec Z (ec Z eN))) (fun w hw => have h := loop_in_w w hx6 ; h)) (wm Z (gp Z (fun hG => QV.fieldAddr fd45_0 Z Z) (gp Z (fun hG => QV.load pl3 Z hG (Own.cell 0 Z Z)) (gp Z (fun hG => QV.move Z Z) ?_))))
  obtain ⟨x8, hx9, hm10⟩ := bdG_some hm7; clear hm7
  refine gp Z (fun hG => QV.call en25 (EvAll.cons Z hG (ec Z (EvAll.cons Z hG eN))) (fun w hw => have h := loop_in_w w (hx9 hG) ; h)) (wq Z (QV.pickAnd Z Z Z (fun h => h)) (wa Z (nt (WC.ret ?_))))
  obtain rfl := (eq_of_some hm10).symm
  exact WQ.ret1 Z Z fun w hw => kg hw
 refine sk (WQ.then (sr (wf fd45_1 Z (wl pl3 Z (Own.cell 0 Z Z) ?_))))
 obtain ⟨x12, hx13, hm14⟩ := bd_some hm11; clear hm11
 refine wq Z (QV.call en25 (ec Z (ec Z (ec Z eN))) (fun w hw => have h := loop_in_w w hx13 ; h)) (wm Z (gp Z (fun hG => QV.fieldAddr fd45_0 Z Z) (gp Z (fun hG => QV.load pl3 Z hG (Own.cell 0 Z Z)) (gp Z (fun hG => QV.move Z Z) ?_))))
 obtain ⟨x15, hx16, hm17⟩ := bdG_some hm14; clear hm14
 refine gp Z (fun hG => QV.call en25 (EvAll.cons Z hG (ec Z (EvAll.cons Z hG eN))) (fun w hw => have h := loop_in_w w (hx16 hG) ; h)) (wq Z (QV.pickAnd Z Z Z (fun h => h)) (wa Z (nt (WC.ret ?_))))
 obtain rfl := (eq_of_some hm17).symm
 exact WQ.ret1 Z Z fun w hw => kg hw
theorem loop_stmt_w {v_l_logs v_l_body v_l_outs : Value} {l : Lp} {k_ : Int} {r : Bool} (w : World) (hm : loop_stmt_m l k_ = some r) (h_l_logs : Arr w v_l_logs 1 (l.logs.map icell)) (h_l_body : Arr w v_l_body 9 (l.body.map Stm.cells)) (h_l_outs : Arr w v_l_outs 1 (l.outs.map icell)) : Calls Tryd.prog 26 #[.agg #[v_l_logs, v_l_body, v_l_outs], .int .i64 k_] w (fun e w' => e = .returned (.bool r) ∧ Grow w w') := by
 unfold loop_stmt_m at hm
 have hk := Base.rfl (w := w)
 refine calls_of_WC (n := 132) (args := [.agg #[v_l_logs, v_l_body, v_l_outs], i_ k_]) Tryd.func26 Z Z (nl Z) ?_ (Own.startK hk (Own.start w))
 refine sr (WL.effect Z ?_)
 refine (EV.boxAgg (by decide) Z Z (fun b1 => ?_))
 refine wa Z (ns (wf fd25_1 Z (wl pl23 Z (Own.cell 0 Z Z) (wm Z ?_))))
 obtain ⟨c2, hm3⟩ := cs hm; clear hm
 obtain ⟨p4, hp5⟩ := h_l_body.lenMap.ix (sz := 9) ln_len c2
 refine wq Z (QV.indexSlice sl23 Z Z Z Z hp5) (wq Z (QV.loadAgg ag47 Z Z Z (fun w hw => ((Own.karr 1 Z hk h_l_body) w hw).ele hp5 c2)) (WL.effect Z ?_))
 refine (EV.alloc (by decide) ze47 (fun b6 => ?_))
 refine WL.effect Z ?_
 refine (EV.store 0 Z Z Z Z Z Z (vs := (Stm.cells (ele l.body k_))) (show Value.cells _ = List.toArray _ from Z) sz47 (nl Z) (oc Z (oc Z (oc Z (oc Z (oc Z (oc Z (oc Z (oc Z (oc Z one_nil))))))))) ?_)
 refine ns (wq Z (QV.build (ps := []) (cells := [i_ 0, i_ 0]) eN (by kernel_rfl)) (WL.effect Z ?_))
 refine (EV.alloc (by decide) ze45 (fun b7 => ?_))
 refine WL.effect Z ?_
 refine (EV.store 0 Z Z Z Z Z Z (vs := [i_ 0, i_ 0]) (show Value.cells _ = List.toArray _ from Z) sz45 (nl Z) (oc Z (oc Z one_nil)) ?_)
 refine ns (wf fd47_3 Z (wl pl3 Z (Own.cell 1 Z Z) (wf fd25_0 Z (wl pl22 Z (Own.cell 2 Z Z) (wq Z (QV.lenS Tryd.underlying22 Z Z h_l_logs.lenMap) ?_)))))
 obtain ⟨x8, hx9, hm10⟩ := bd_some hm3; clear hm3
 refine wq Z (QV.call en25 (ec Z (ec Z (ec Z eN))) (fun w hw => have h := loop_in_w w hx9 ; h)) (wm Z (gp Z (fun hG => QV.fieldAddr fd47_4 Z Z) (gp Z (fun hG => QV.load pl3 Z hG (Own.cell 1 Z Z)) ?_)))
 obtain ⟨x11, hx12, hm13⟩ := bdG_some hm10; clear hm10
 refine gp Z (fun hG => QV.call en25 (EvAll.cons Z hG (ec Z (ec Z eN))) (fun w hw => have h := loop_in_w w (hx12 hG) ; h)) (wq Z (QV.pickAnd Z Z Z (fun h => h)) (wm Z (gp Z (fun hG => QV.fieldAddr fd47_5 Z Z) (gp Z (fun hG => QV.load pl3 Z hG (Own.cell 1 Z Z)) ?_))))
 obtain ⟨x14, hx15, hm16⟩ := bdG_some hm13; clear hm13
 refine gp Z (fun hG => QV.call en25 (EvAll.cons Z hG (ec Z (ec Z eN))) (fun w hw => have h := loop_in_w w (hx15 hG) ; h)) (wq Z (QV.pickAnd Z Z Z (fun h => h)) (wa Z (ns (wf fd47_3 Z (wl pl3 Z (Own.cell 1 Z Z) (wq Z (QV.eql Z Z Z Z) (wm Z (gp Z (fun hG => QV.fieldAddr fd47_4 Z Z) (gp Z (fun hG => QV.load pl3 Z hG (Own.cell 1 Z Z)) ?_)))))))))
 refine gp Z (fun hG => QV.eql Z hG Z Z) (wq Z (QV.pickAnd Z Z Z (fun h => h)) (wm Z (gp Z (fun hG => QV.fieldAddr fd47_5 Z Z) (gp Z (fun hG => QV.load pl3 Z hG (Own.cell 1 Z Z)) (gp Z (fun hG => QV.eql Z hG Z Z) (wq Z (QV.pickAnd Z Z Z (fun h => h)) (wa Z (nt (WC.seq (sr (wq Z (QV.loadAgg ag47 Z Z Z (Own.cellsBlk 1 Z)) ?_)))))))))))
 refine WL.effect Z ?_
 obtain ⟨x17, hx18, hm19⟩ := bd_some hm16; clear hm16
 refine EV.of (C' := Own noM w [kn noM w.heap.size w w, blk b7 [i_ 0, i_ 0] 45, blk b6 (Stm.cells (ele l.body k_)) 47, blk b1 [v_l_logs, v_l_body, v_l_outs] 25]) (pk [3, 0, 1, 2]) ?_
 refine (EV.callR (X := Value × World) (R := []) (fun X => X.1) (fun X => []) (fun X => X.2) (fun X => Arr X.2 X.1 2 (x17.map Rf.cells)) hk (fun _ h => by cases h; decide) en43 (ec Z eN) (fun M w h1 h2 => have h := loop_Uses_w hx18  M w h1 h2; h) (fun X20 hF20 hle20 => ?_))
 refine wq Z (QV.lenS Tryd.underlying83 Z Z hF20.lenMap) (wm Z (nt ?_))
 obtain ⟨o21, ho22, hm23⟩ := bd_some hm19; clear hm19; obtain ⟨n24, ho25⟩ := lp_some ho22
 refine WC.bloop1 (H2 := [kn noM w.heap.size w X20.2, blk b7 [i_ 0, i_ 0] 45, blk b6 (Stm.cells (ele l.body k_)) 47, blk b1 [v_l_logs, v_l_body, v_l_outs] 25]) (τ := [u_ 1 _, u_ 2 _, u_ 5 _, u_ 6 _, u_ 7 _, u_ 8 _, u_ 47 _, u_ 48 _]) (fun (x49_1 : Int) => [(49, (true, i_ x49_1))]) (fun x49_1 => []) (fun x49_1 m => iter (loop_stmt_L0 l k_ x17) m x49_1 = some o21) (fun x49_1 => o21 = .go x49_1) 0 n24 ho25 ⟨Z, Z, Z, Z, Z, Z, Z, Z, Z, trivial⟩ (pk [0, 1, 2, 3]) ?_ ?_
 ·skip
  rintro x49_1 rfl
  refine WQ.then (WC.seq (WC.block (sr (wf fd47_0 Z (wl pl3 Z (Own.cell 2 Z Z) (wq Z (QV.eql Z Z Z Z) (wa Z (nt ?_))))))))
  refine wc Z hm23 (fun h26 hm27 => ?_) (fun h26 hm28 => ?_) <;> clear hm23
  ·skip
   refine sr (wm Z (wm Z (gp Z (fun hG => QV.fieldAddr fd47_1 Z Z) (gp Z (fun hG => QV.loadAgg ag45 Z Z hG (fun w hw => (Own.cellsBlk 2 Z w hw).sub 1 2 Z)) (gp Z (fun hG => QV.loadAgg ag45 Z Z Z (Own.cellsBlk 1 Z)) (gp Z (fun hG => QV.eqlF eq45 (ns := [((ele l.body k_).a).st, ((ele l.body k_).a).bk]) (ms := [0, 0]) Z hG Z hG Z Z) (wq Z (QV.pickAnd Z Z Z (fun h => h)) (wm Z (gp Z (fun hG => QV.fieldAddr fd47_2 Z Z) ?_)))))))))
   refine gp Z (fun hG => QV.loadAgg ag45 Z Z hG (fun w hw => (Own.cellsBlk 2 Z w hw).sub 3 2 Z)) (gp Z (fun hG => QV.loadAgg ag45 Z Z Z (Own.cellsBlk 1 Z)) (gp Z (fun hG => QV.eqlF eq45 (ns := [((ele l.body k_).b).st, ((ele l.body k_).b).bk]) (ms := [0, 0]) Z hG Z hG Z Z) (wq Z (QV.pickAnd Z Z Z (fun h => h)) (wa Z (nt (WC.ret (kr (tr ?_))))))))
   obtain rfl := (eq_of_some hm27).symm
   exact WQ.ret1 Z Z fun w hw => kg hw
  refine sr (wf fd47_6 Z (wl pl2 Z (Own.cell 2 Z Z) (wq Z (QV.neq Z Z Z Z) (wa Z (nt ?_)))))
  refine wc Z hm28 (fun h29 hm30 => ?_) (fun h29 hm31 => ?_) <;> clear hm28
  ·skip
   refine sr (wa Z (nt (WC.ret (kr (tr ?_)))))
   obtain rfl := (eq_of_some hm30).symm
   exact WQ.ret1 Z Z fun w hw => kg hw
  refine sr (wf fd47_0 Z (wl pl3 Z (Own.cell 2 Z Z) (wq Z (QV.eql Z Z Z Z) (wa Z (nt ?_)))))
  refine wc Z hm31 (fun h32 hm33 => ?_) (fun h32 hm34 => ?_) <;> clear hm31
  ·skip
   refine sr (wm Z (wm Z (gp Z (fun hG => QV.fieldAddr fd47_1 Z Z) (gp Z (fun hG => QV.loadAgg ag45 Z Z hG (fun w hw => (Own.cellsBlk 2 Z w hw).sub 1 2 Z)) (gp Z (fun hG => QV.loadAgg ag45 Z Z Z (Own.cellsBlk 1 Z)) (gp Z (fun hG => QV.eqlF eq45 (ns := [((ele l.body k_).a).st, ((ele l.body k_).a).bk]) (ms := [0, 0]) Z hG Z hG Z Z) (wq Z (QV.pickAnd Z Z Z (fun h => h)) (wm Z (gp Z (fun hG => QV.fieldAddr fd47_2 Z Z) ?_)))))))))
   refine gp Z (fun hG => QV.loadAgg ag45 Z Z hG (fun w hw => (Own.cellsBlk 2 Z w hw).sub 3 2 Z)) (gp Z (fun hG => QV.loadAgg ag45 Z Z Z (Own.cellsBlk 1 Z)) (gp Z (fun hG => QV.eqlF eq45 (ns := [((ele l.body k_).b).st, ((ele l.body k_).b).bk]) (ms := [0, 0]) Z hG Z hG Z Z) (wq Z (QV.pickAnd Z Z Z (fun h => h)) (wa Z (nt (WC.ret (kr (tr ?_))))))))
   obtain rfl := (eq_of_some hm33).symm
   exact WQ.ret1 Z Z fun w hw => kg hw
  refine sr (wf fd47_0 Z (wl pl3 Z (Own.cell 2 Z Z) (wq Z (QV.eql Z Z Z Z) (wa Z (nt ?_)))))
  refine wc Z hm34 (fun h35 hm36 => ?_) (fun h35 hm37 => ?_) <;> clear hm34
  ·skip
   refine sr (wm Z (wm Z (gp Z (fun hG => QV.fieldAddr fd47_1 Z Z) (gp Z (fun hG => QV.loadAgg ag45 Z Z hG (fun w hw => (Own.cellsBlk 2 Z w hw).sub 1 2 Z)) (gp Z (fun hG => QV.loadAgg ag45 Z Z Z (Own.cellsBlk 1 Z)) (gp Z (fun hG => QV.eqlF eq45 (ns := [((ele l.body k_).a).st, ((ele l.body k_).a).bk]) (ms := [0, 0]) Z hG Z hG Z Z) (wq Z (QV.pickAnd Z Z Z (fun h => h)) (wm Z (gp Z (fun hG => QV.fieldAddr fd47_2 Z Z) ?_)))))))))
   refine gp Z (fun hG => QV.loadAgg ag45 Z Z hG (fun w hw => (Own.cellsBlk 2 Z w hw).sub 3 2 Z)) (gp Z (fun hG => QV.loadAgg ag45 Z Z Z (Own.cellsBlk 1 Z)) (gp Z (fun hG => QV.eqlF eq45 (ns := [((ele l.body k_).b).st, ((ele l.body k_).b).bk]) (ms := [0, 0]) Z hG Z hG Z Z) (wq Z (QV.pickAnd Z Z Z (fun h => h)) (wa Z (nt (WC.ret (kr (tr ?_))))))))
   obtain rfl := (eq_of_some hm36).symm
   exact WQ.ret1 Z Z fun w hw => kg hw
  refine sr (wf fd47_0 Z (wl pl3 Z (Own.cell 2 Z Z) (wq Z (QV.eql Z Z Z Z) (wa Z (nt ?_)))))
  refine wc Z hm37 (fun h38 hm39 => ?_) (fun h38 hm40 => ?_) <;> clear hm37
  ·skip
   refine sr (wm Z (wm Z (gp Z (fun hG => QV.fieldAddr fd47_2 Z Z) (gp Z (fun hG => QV.loadAgg ag45 Z Z hG (fun w hw => (Own.cellsBlk 2 Z w hw).sub 3 2 Z)) (gp Z (fun hG => QV.loadAgg ag45 Z Z Z (Own.cellsBlk 1 Z)) (gp Z (fun hG => QV.eqlF eq45 (ns := [((ele l.body k_).b).st, ((ele l.body k_).b).bk]) (ms := [0, 0]) Z hG Z hG Z Z) (wq Z (QV.pickAnd Z Z Z (fun h => h)) (wa Z (nt (WC.ret (kr (tr ?_))))))))))))
   obtain rfl := (eq_of_some hm39).symm
   exact WQ.ret1 Z Z fun w hw => kg hw
  refine sk (WQ.block (WQ.then (sr (wm Z (wm Z (gp Z (fun hG => QV.fieldAddr fd47_0 Z Z) (gp Z (fun hG => QV.load pl3 Z hG (Own.cell 2 Z Z)) (gp Z (fun hG => QV.subW Z hG Z Z) ?_))))))))
  obtain ⟨x41, hx42, hm43⟩ := bdG_some hm40; clear hm40
  refine gp Z (fun hG => QV.call en25 (EvAll.cons Z hG (ec Z (ec Z eN))) (fun w hw => have h := loop_in_w w (hx42 hG) ; h)) (wq Z (QV.pickAnd Z Z Z (fun h => h)) (wa Z (nt (WC.ret ?_))))
  obtain rfl := (eq_of_some hm43).symm
  exact WQ.ret1 Z Z fun w hw => kg hw
 rintro x49_1 m44 hI45
 obtain ⟨m46, s47, rfl, hm48, hn49⟩ := iter_step hI45; clear hI45; unfold loop_stmt_L0 at hm48
 refine sr (wq Z (QV.lss Z Z Z Z) (nt (WC.seq ?_)))
 refine wc Z hm48 (fun h50 hm51 => ?_) (fun h50 hm65 => ?_) <;> clear hm48
 ·skip
  refine sk (WQ.then (WC.seq (WC.block (sr ?_))))
  obtain ⟨c52, hm53⟩ := cs hm51; clear hm51
  obtain ⟨p54, hp55⟩ := hF20.lenMap.ix (sz := 2) ln_len c52
  refine wq Z (QV.indexSlice sl83 Z Z Z Z hp55) (wq Z (QV.loadAgg ag45 Z Z Z (fun w hw => ((Own.karr 0 Z hk hF20) w hw).ele hp55 c52)) (WL.effect Z ?_))
  refine (EV.alloc (by decide) ze45 (fun b56 => ?_))
  refine WL.effect Z ?_
  refine (EV.store 0 Z Z Z Z Z Z (vs := [i_ ((ele x17 x49_1).st), i_ ((ele x17 x49_1).bk)]) (show Value.cells _ = List.toArray _ from Z) sz45 (nl Z) (oc Z (oc Z one_nil)) ?_)
  refine ns (wq Z (QV.loadAgg ag25 Z Z Z (Own.cellsBlk 4 Z)) (wm Z (wq Z (QV.loadAgg ag45 Z Z Z (Own.cellsBlk 0 Z)) ?_)))
  obtain ⟨x57, hx58, hm59⟩ := bd_some hm53; clear hm53
  refine wq Z (QV.call en44 (ec Z (ec Z (ec Z eN))) (fun w hw => have h := loop_ref_w w hx58 ((Own.karr 1 Z hk (h_l_logs.le hle20)) w hw) ((Own.karr 1 Z hk (h_l_body.le hle20)) w hw) ((Own.karr 1 Z hk (h_l_outs.le hle20)) w hw); h)) (wq Z (QV.not Z Z) (nt ?_))
  refine wc Z hm59 (fun h60 hm61 => ?_) (fun h60 hm62 => ?_) <;> clear hm59
  ·skip
   refine sr (wa Z (nt (WC.ret (kr (tr (tr (kr (tr (tr ?_)))))))))
   obtain rfl := up_ret hm61 hn49
   obtain rfl := (eq_of_some hm23).symm
   exact WQ.ret1 Z Z fun w hw => kg hw
  refine sk (WQ.block (WQ.then (WC.region ?_)))
  obtain ⟨c63, hm64⟩ := cs hm62; clear hm62
  refine wq Z (QV.add Z Z Z Z c63) (wm Z (WL.nil ?_))
  exact WQ.again1 (x49_1 + 1) m46 (up_next hm64 hn49) (Nat.lt_succ_self _) ⟨Z, Z, Z, Z, Z, Z, Z, Z, Z, trivial⟩ (pk [1, 2, 3, 4])
 refine WC.exit (te (te (WQ.block_exit ?_)))
 exact WQ.out1 x49_1 (up_brk hm65 hn49) ⟨Z, Z, Z, Z, Z, Z, Z, Z, Z, trivial⟩ (pk [0, 1, 2, 3])
theorem loop_May_w {v_l_logs v_l_body v_l_outs : Value} {l : Lp} {r : Bool} (w : World) (hm : loop_May_m l = some r) (h_l_logs : Arr w v_l_logs 1 (l.logs.map icell)) (h_l_body : Arr w v_l_body 9 (l.body.map Stm.cells)) (h_l_outs : Arr w v_l_outs 1 (l.outs.map icell)) : Calls Tryd.prog 12 #[.agg #[v_l_logs, v_l_body, v_l_outs]] w (fun e w' => e = .returned (.bool r) ∧ Grow w w') := by
 unfold loop_May_m at hm
 have hk := Base.rfl (w := w)
 refine calls_of_WC (n := 64) (args := [.agg #[v_l_logs, v_l_body, v_l_outs]]) Tryd.func12 Z Z (nl Z) ?_ (Own.startK hk (Own.start w))
 refine sr (WL.effect Z ?_)
 refine (EV.boxAgg (by decide) Z Z (fun b1 => ?_))
 refine wa Z (nt (WC.seq (sr (wf fd25_0 Z (wl pl22 Z (Own.cell 0 Z Z) (wq Z (QV.lenS Tryd.underlying22 Z Z h_l_logs.lenMap) (wm Z (nt ?_))))))))
 obtain ⟨o2, ho3, hm4⟩ := bd_some hm; clear hm; obtain ⟨n5, ho6⟩ := lp_some ho3
 refine WC.bloop1 (H2 := [blk b1 [v_l_logs, v_l_body, v_l_outs] 25, kn noM w.heap.size w w]) (τ := [u_ 1 _, u_ 10 _, u_ 11 _]) (fun (x12_1 : Int) => [(12, (true, i_ x12_1))]) (fun x12_1 => []) (fun x12_1 m => iter (loop_May_L0 l) m x12_1 = some o2) (fun x12_1 => o2 = .go x12_1) 0 n5 ho6 ⟨Z, Z, Z, Z, trivial⟩ (pk [0, 1]) ?_ ?_
 ·skip
  rintro x12_1 rfl
  refine WQ.then (sr (wa Z (nt (WC.seq (sr (wf fd25_2 Z (wl pl22 Z (Own.cell 0 Z Z) (wq Z (QV.lenS Tryd.underlying22 Z Z h_l_outs.lenMap) (wm Z (nt ?_))))))))))
  obtain ⟨o7, ho8, hm9⟩ := bd_some hm4; clear hm4; obtain ⟨n10, ho11⟩ := lp_some ho8
  refine WC.bloop2 (H2 := [blk b1 [v_l_logs, v_l_body, v_l_outs] 25, kn noM w.heap.size w w]) (τ := [u_ 1 _, u_ 21 _, u_ 22 _]) (fun (last5_2 : Int) (x23_2 : Int) => [(5, (true, i_ last5_2)), (23, (true, i_ x23_2))]) (fun last5_2 x23_2 => []) (fun last5_2 x23_2 m => iter (loop_May_L2 l) m (last5_2, x23_2) = some o7) (fun last5_2 x23_2 => o7 = .go (last5_2, x23_2)) (-1) 0 n10 ho11 ⟨Z, Z, Z, Z, Z, trivial⟩ (pk [0, 1]) ?_ ?_
  ·skip
   rintro last5_2 x23_2 rfl
   refine WQ.then (WC.seq (sr (wf fd25_1 Z (wl pl23 Z (Own.cell 0 Z Z) (wq Z (QV.lenS Tryd.underlying23 Z Z h_l_body.lenMap) (wm Z (nt ?_)))))))
   obtain ⟨o12, ho13, hm14⟩ := bd_some hm9; clear hm9; obtain ⟨n15, ho16⟩ := lp_some ho13
   refine WC.bloop1 (H2 := [blk b1 [v_l_logs, v_l_body, v_l_outs] 25, kn noM w.heap.size w w]) (τ := [u_ 1 _, u_ 39 _]) (fun (x40_3 : Int) => [(40, (true, i_ x40_3))]) (fun x40_3 => []) (fun x40_3 m => iter (loop_May_L4 l) m x40_3 = some o12) (fun x40_3 => o12 = .go x40_3) 0 n15 ho16 ⟨Z, Z, Z, trivial⟩ (pk [0, 1]) ?_ ?_
   ·skip
    rintro x40_3 rfl
    refine WQ.then (sr (wf fd25_0 Z (wl pl22 Z (Own.cell 0 Z Z) (wq Z (QV.lenS Tryd.underlying22 Z Z h_l_logs.lenMap) (wq Z (QV.leq Z Z Z Z) (wm Z (gp Z (fun hG => QV.fieldAddr fd25_1 Z Z) (gp Z (fun hG => QV.load pl23 Z hG (Own.cell 0 Z Z)) (gp Z (fun hG => QV.lenS Tryd.underlying23 Z hG h_l_body.lenMap) (gp Z (fun hG => QV.gtr Z hG Z Z) ?_))))))))))
    refine wq Z (QV.pickAnd Z Z Z (fun h => h)) (wa Z (nt (WC.ret ?_)))
    obtain rfl := (eq_of_some hm14).symm
    exact WQ.ret1 Z Z fun w hw => kg hw
   rintro x40_3 m17 hI18
   obtain ⟨m19, s20, rfl, hm21, hn22⟩ := iter_step hI18; clear hI18; unfold loop_May_L4 at hm21
   refine sr (wq Z (QV.lss Z Z Z Z) (nt (WC.seq ?_)))
   refine wc Z hm21 (fun h23 hm24 => ?_) (fun h23 hm33 => ?_) <;> clear hm21
   ·skip
    refine sk (WQ.then (WC.seq (WC.block (sr (wm Z (wa Z (ns (wf fd25_1 Z (wl pl23 Z (Own.cell 0 Z Z) (wq Z (QV.lenS Tryd.underlying23 Z Z h_l_body.lenMap) (wq Z (QV.gtr Z Z Z Z) (wm Z (gn Z (fun hG => QV.loadAgg ag25 Z Z Z (Own.cellsBlk 0 Z)) ?_)))))))))))))
    refine gn Z (fun hG => QV.move Z Z) ?_
    obtain ⟨x25, hx26, hm27⟩ := bdG_some hm24; clear hm24
    refine gn Z (fun hG => QV.call en26 (EvAll.cons Z hG (EvAll.cons Z hG eN)) (fun w hw => have h := loop_stmt_w w (hx26 hG) ((Own.karr 1 Z hk h_l_logs) w hw) ((Own.karr 1 Z hk h_l_body) w hw) ((Own.karr 1 Z hk h_l_outs) w hw); h)) (gn Z (fun hG => QV.not Z hG) (wq Z (QV.pickOr Z Z Z (fun h => notF h)) (nt ?_)))
    refine wc Z hm27 (fun h28 hm29 => ?_) (fun h28 hm30 => ?_) <;> clear hm27
    ·skip
     refine sr (wa Z (nt (WC.ret (kr (tr (tr (kr (tr (tr ?_)))))))))
     obtain rfl := up_ret hm29 hn22
     obtain rfl := (eq_of_some hm14).symm
     exact WQ.ret1 Z Z fun w hw => kg hw
    refine sk (WQ.block (WQ.then (WC.region ?_)))
    obtain ⟨c31, hm32⟩ := cs hm30; clear hm30
    refine wq Z (QV.add Z Z Z Z c31) (wm Z (WL.nil ?_))
    exact WQ.again1 (x40_3 + 1) m19 (up_next hm32 hn22) (Nat.lt_succ_self _) ⟨Z, Z, Z, trivial⟩ (pk [0, 1])
   refine WC.exit (te (te (WQ.block_exit ?_)))
   exact WQ.out1 x40_3 (up_brk hm33 hn22) ⟨Z, Z, Z, trivial⟩ (pk [0, 1])
  rintro last5_2 x23_2 m34 hI35
  obtain ⟨m36, s37, rfl, hm38, hn39⟩ := iter_step hI35; clear hI35; unfold loop_May_L2 at hm38; simp only at hm38
  refine sr (wq Z (QV.lss Z Z Z Z) (nt (WC.seq ?_)))
  refine wc Z hm38 (fun h40 hm41 => ?_) (fun h40 hm56 => ?_) <;> clear hm38
  ·skip
   refine sk (WQ.then (WC.seq (WC.block (sr ?_))))
   obtain ⟨c42, hm43⟩ := cs hm41; clear hm41
   obtain ⟨p44, hp45⟩ := h_l_outs.lenMap.ix (sz := 1) ln_len c42
   refine wq Z (QV.indexSlice sl22 Z Z Z Z hp45) (wl pl3 Z (fun w hw => CellsAt.one 0 (((Own.karr 1 Z hk h_l_outs) w hw).ele hp45 c42) Z) (wa Z (nt (WC.seq (sr (wm Z (wm Z ?_)))))))
   obtain ⟨c46, hm47⟩ := cs hm43; clear hm43
   refine wq Z (QV.add Z Z Z Z c46) (wf fd25_1 Z (wl pl23 Z (Own.cell 0 Z Z) (wq Z (QV.lenS Tryd.underlying23 Z Z h_l_body.lenMap) ?_)))
   obtain ⟨x48, hx49, hm50⟩ := bd_some hm47; clear hm47
   refine wq Z (QV.call en25 (ec Z (ec Z (ec Z eN))) (fun w hw => have h := loop_in_w w hx49 ; h)) (wq Z (QV.not Z Z) (nt ?_))
   refine wc Z hm50 (fun h51 hm52 => ?_) (fun h51 hm53 => ?_) <;> clear hm50
   ·skip
    refine sr (wa Z (nt (WC.ret (tr (kr (tr (tr (kr (tr (tr ?_))))))))))
    obtain rfl := up_ret hm52 hn39
    obtain rfl := (eq_of_some hm9).symm
    exact WQ.ret1 Z Z fun w hw => kg hw
   refine sk (WQ.then (WC.region (wm Z (wa Z (WL.nil (WQ.block (WQ.then (WC.region ?_))))))))
   obtain ⟨c54, hm55⟩ := cs hm53; clear hm53
   refine wq Z (QV.add Z Z Z Z c54) (wm Z (WL.nil ?_))
   exact WQ.again2 (ele l.outs x23_2) (x23_2 + 1) m36 (up_next hm55 hn39) (Nat.lt_succ_self _) ⟨Z, Z, Z, Z, Z, trivial⟩ (pk [0, 1])
  refine WC.exit (te (te (WQ.block_exit ?_)))
  exact WQ.out2 last5_2 x23_2 (up_brk hm56 hn39) ⟨Z, Z, Z, Z, Z, trivial⟩ (pk [0, 1])
 rintro x12_1 m57 hI58
 obtain ⟨m59, s60, rfl, hm61, hn62⟩ := iter_step hI58; clear hI58; unfold loop_May_L0 at hm61
 refine sr (wq Z (QV.lss Z Z Z Z) (nt (WC.seq ?_)))
 refine wc Z hm61 (fun h63 hm64 => ?_) (fun h63 hm77 => ?_) <;> clear hm61
 ·skip
  refine sk (WQ.then (WC.seq (WC.block (sr ?_))))
  obtain ⟨c65, hm66⟩ := cs hm64; clear hm64
  obtain ⟨p67, hp68⟩ := h_l_logs.lenMap.ix (sz := 1) ln_len c65
  refine wq Z (QV.indexSlice sl22 Z Z Z Z hp68) (wl pl3 Z (fun w hw => CellsAt.one 0 (((Own.karr 1 Z hk h_l_logs) w hw).ele hp68 c65) Z) (wa Z (ns (wm Z ?_))))
  obtain ⟨x69, hx70, hm71⟩ := bd_some hm66; clear hm66
  refine wq Z (QV.call en25 (ec Z (ec Z (ec Z eN))) (fun w hw => have h := loop_in_w w hx70 ; h)) (wq Z (QV.not Z Z) (nt ?_))
  refine wc Z hm71 (fun h72 hm73 => ?_) (fun h72 hm74 => ?_) <;> clear hm71
  ·skip
   refine sr (wa Z (nt (WC.ret (kr (tr (tr (kr (tr (tr ?_)))))))))
   obtain rfl := up_ret hm73 hn62
   obtain rfl := (eq_of_some hm4).symm
   exact WQ.ret1 Z Z fun w hw => kg hw
  refine sk (WQ.block (WQ.then (WC.region ?_)))
  obtain ⟨c75, hm76⟩ := cs hm74; clear hm74
  refine wq Z (QV.add Z Z Z Z c75) (wm Z (WL.nil ?_))
  exact WQ.again1 (x12_1 + 1) m59 (up_next hm76 hn62) (Nat.lt_succ_self _) ⟨Z, Z, Z, Z, trivial⟩ (pk [0, 1])
 refine WC.exit (te (te (WQ.block_exit ?_)))
 exact WQ.out1 x12_1 (up_brk hm77 hn62) ⟨Z, Z, Z, Z, trivial⟩ (pk [0, 1])
end Go.Proofs.YtaimbkndebaaiacDoor
end
section
namespace Go.Proofs.YtaimbkndebaaiacDoor
open Go.Rd
open TLib TLibR TNum0 TNum TLoop
namespace TPar
theorem ag28 : AggT Tryd.prog 28 2 := ⟨_, Tryd.underlying28, rfl, by kernel_rfl⟩
theorem en10 : Go.Rd.Enters Tryd.prog 10 := eT Tryd.func10
theorem en11 : Go.Rd.Enters Tryd.prog 11 := eT Tryd.func11
theorem en12 : Go.Rd.Enters Tryd.prog 12 := eT Tryd.func12
theorem en23 : Go.Rd.Enters Tryd.prog 23 := eT Tryd.func23
theorem en24 : Go.Rd.Enters Tryd.prog 24 := eT Tryd.func24
theorem en34 : Go.Rd.Enters Tryd.prog 34 := eT Tryd.func34
theorem en36 : Go.Rd.Enters Tryd.prog 36 := eT Tryd.func36
theorem en40 : Go.Rd.Enters Tryd.prog 40 := eT Tryd.func40
theorem en41 : Go.Rd.Enters Tryd.prog 41 := eT Tryd.func41
theorem en42 : Go.Rd.Enters Tryd.prog 42 := eT Tryd.func42
theorem en55 : Go.Rd.Enters Tryd.prog 55 := eT Tryd.func55
theorem en56 : Go.Rd.Enters Tryd.prog 56 := eT Tryd.func56
theorem en57 : Go.Rd.Enters Tryd.prog 57 := eT Tryd.func57
theorem en58 : Go.Rd.Enters Tryd.prog 58 := eT Tryd.func58
theorem fd40_0 : FieldT Tryd.prog 40 0 0 := fT 2 Tryd.underlying40
theorem pl79 : Plain Tryd.prog 79 := ⟨_, Tryd.underlying79, rfl⟩
theorem pl81 : Plain Tryd.prog 81 := ⟨_, Tryd.underlying81, rfl⟩
theorem pl9 : Plain Tryd.prog 9 := ⟨_, Tryd.underlying9, rfl⟩
theorem sl36 : SliceT Tryd.prog 36 9 1 := ⟨Tryd.underlying36, by kernel_rfl⟩
theorem sl80 : SliceT Tryd.prog 80 79 1 := ⟨Tryd.underlying80, by kernel_rfl⟩
theorem sl82 : SliceT Tryd.prog 82 81 1 := ⟨Tryd.underlying82, by kernel_rfl⟩
theorem sz2 : SizeT Tryd.prog 2 1 := by unfold SizeT; kernel_rfl
theorem sz22 : SizeT Tryd.prog 22 1 := by unfold SizeT; kernel_rfl
theorem sz23 : SizeT Tryd.prog 23 1 := by unfold SizeT; kernel_rfl
theorem sz25 : SizeT Tryd.prog 25 3 := by unfold SizeT; kernel_rfl
theorem sz28 : SizeT Tryd.prog 28 2 := by unfold SizeT; kernel_rfl
theorem sz3 : SizeT Tryd.prog 3 1 := by unfold SizeT; kernel_rfl
theorem sz_22 : SliceZ Tryd.prog 22 3 1 [.int .i64 0] := ⟨Tryd.underlying22, by kernel_rfl⟩
theorem sz_23 : SliceZ Tryd.prog 23 47 9 [.int .i64 0, .int .i64 0, .int .i64 0, .int .i64 0, .int .i64 0, .int .i64 0, .int .i64 0, .int .i64 0, .int .i64 0] := ⟨Tryd.underlying23, by kernel_rfl⟩
theorem sz_80 : SliceZ Tryd.prog 80 79 1 [.pointer none] := ⟨Tryd.underlying80, by kernel_rfl⟩
theorem sz_82 : SliceZ Tryd.prog 82 81 1 [.pointer none] := ⟨Tryd.underlying82, by kernel_rfl⟩
theorem ve22 : VecT Tryd.prog 22 3 1 8 := ⟨Tryd.underlying22, by kernel_rfl, by decide⟩
theorem ve23 : VecT Tryd.prog 23 47 9 72 := ⟨Tryd.underlying23, by kernel_rfl, by decide⟩
theorem ze25 : ZeroT Tryd.prog 25 [.slice none 0 0, .slice none 0 0, .slice none 0 0] := by unfold ZeroT; kernel_rfl
theorem ze28 : ZeroT Tryd.prog 28 [.int .i64 0, .int .i64 0] := by unfold ZeroT; kernel_rfl
end TPar
open TPar
theorem text_whole_w {s : List UInt8} {most : Int} {r : Int × Bool} (w : World) (hm : text_whole_m s most = some r) (hGl0 : Glb Tryd.prog w) : Calls Tryd.prog 41 #[strV s, .int .i64 most] w (fun e w' => e = .returned (.tuple #[.int .i64 r.1, .bool r.2]) ∧ Grow w w') := by
 unfold text_whole_m at hm
 have hk := Base.rfl (w := w)
 refine calls_of_WC (n := 29) (args := [strV s, i_ most]) Tryd.func41 Z Z (nl Z) ?_ (Own.startK hk (Own.start w))
 have hGl := GlbM.of hGl0
 refine sr (wa Z (wa Z (ns (wm Z (WL.effect Z ?_)))))
 obtain ⟨x1, hx2, hm3⟩ := bd_some hm; clear hm
 refine (EV.callRG (X := Value × World) (R := []) (fun X => .tuple #[i_ x1.1, X.1]) (fun X => []) (fun X => X.2) (fun X => ErrV X.1 x1.2) hGl hk (fun _ h => by cases h; decide) en55 (ec Z (ec Z (ec Z eN))) (fun M w hG h1 h2 => have h := ParseInt_w hx2  M w hG h1 h2; h) (fun X4 hF4 hle4 => ?_))
 refine wm Z (wq Z (QV.extract Z Z Z) (wq Z (QV.extract Z Z Z) (wa Z (wa Z (ns (wm Z (wm Z (wq Z (QV.eqlErr Tryd.underlying55 Z Z hF4) (wm Z ?_)))))))))
 refine gp Z (fun hG => QV.move Z Z) ?_
 obtain ⟨x5, hx6, hm7⟩ := bdG_some hm3; clear hm3
 refine gp Z (fun hG => QV.call en34 (EvAll.cons Z hG eN) (fun w hw => have h := text_number_w w (hx6 hG) (hGl.at hw); h)) (gp Z (fun hG => QV.move Z Z) (gp Z (fun hG => QV.strEql Z hG Z hG) (wq Z (QV.pickAnd Z Z Z (fun h => h)) (wm Z (gp Z (fun hG => QV.move Z Z) ?_)))))
 obtain ⟨x8, hx9, hm10⟩ := bdG_some hm7; clear hm7
 refine gp Z (fun hG => QV.call en56 (EvAll.cons Z hG (ec Z eN)) (fun w hw => have h := TrimPrefix_w w (hx9 hG) ; h)) (gp Z (fun hG => QV.lenStr Tryd.underlying9 Z hG) (gp Z (fun hG => QV.move Z Z) (gp Z (fun hG => QV.leq Z hG Z hG) (wq Z (QV.pickAnd Z Z Z (fun h => h)) (wa Z (wa Z (nt (WC.ret ?_))))))))
 obtain rfl := (eq_of_some hm10).symm
 exact WQ.ret2 Z Z Z fun w hw => kg hw
theorem text_small_w {s : List UInt8} {r : Int × Bool} (w : World) (hm : text_small_m s = some r) (hGl0 : Glb Tryd.prog w) : Calls Tryd.prog 24 #[strV s] w (fun e w' => e = .returned (.tuple #[.int .i64 r.1, .bool r.2]) ∧ Grow w w') := by
 unfold text_small_m at hm
 have hk := Base.rfl (w := w)
 refine calls_of_WC (n := 13) (args := [strV s]) Tryd.func24 Z Z (nl Z) ?_ (Own.startK hk (Own.start w))
 have hGl := GlbM.of hGl0
 refine sr (wa Z (wa Z (ns (wm Z ?_))))
 obtain ⟨x1, hx2, hm3⟩ := bd_some hm; clear hm
 refine wq Z (QV.call en41 (ec Z (ec Z eN)) (fun w hw => have h := text_whole_w w hx2 (hGl.at hw); h)) (wm Z (wq Z (QV.extract Z Z Z) (wq Z (QV.extract Z Z Z) (wa Z (wa Z (ns (wm Z (wm Z (wa Z ?_)))))))))
 refine wa Z (nt (WC.ret ?_))
 obtain rfl := (eq_of_some hm3).symm
 exact WQ.ret2 Z Z Z fun w hw => kg hw
theorem text_reads_w {s : List UInt8} {r : Rf × Bool} (w : World) (hm : text_reads_m s = some r) (hGl0 : Glb Tryd.prog w) : Calls Tryd.prog 42 #[strV s] w (fun e w' => e = .returned (.tuple #[.agg #[.int .i64 r.1.st, .int .i64 r.1.bk], .bool r.2]) ∧ Grow w w') := by
 unfold text_reads_m at hm
 have hk := Base.rfl (w := w)
 refine calls_of_WC (n := 53) (args := [strV s]) Tryd.func42 Z Z (nl Z) ?_ (Own.startK hk (Own.start w))
 have hGl := GlbM.of hGl0
 refine sr (WL.effect Z ?_)
 refine (EV.alloc (by decide) ze45 (fun b1 => ?_))
 refine wa Z (ns (wm Z ?_))
 obtain ⟨x2, hx3, hm4⟩ := bd_some hm; clear hm
 refine wq Z (QV.call en57 (ec Z (ec Z eN)) (fun w hw => have h := CutPrefix_w w hx3 ; h)) (wm Z (wq Z (QV.extract Z Z Z) (wq Z (QV.extract Z Z Z) (wa Z (wa Z (ns (wm Z ?_)))))))
 obtain ⟨x5, hx6, hm7⟩ := bd_some hm4; clear hm4
 refine wq Z (QV.call en58 (ec Z (ec Z eN)) (fun w hw => have h := Cut_w w hx6 (hGl.at hw); h)) (wm Z (wq Z (QV.extract Z Z Z) (wq Z (QV.extract Z Z Z) (wq Z (QV.extract Z Z Z) (wa Z (wa Z (wa Z (ns (wm Z ?_)))))))))
 obtain ⟨x8, hx9, hm10⟩ := bd_some hm7; clear hm7
 refine wq Z (QV.call en24 (ec Z eN) (fun w hw => have h := text_small_w w hx9 (hGl.at hw); h)) (wm Z (wq Z (QV.extract Z Z Z) (wq Z (QV.extract Z Z Z) (wa Z (wa Z (ns (wm Z (wq Z (QV.build (ps := [(0, .tmp 30)]) (cells := [i_ x8.1, i_ 0]) (ec Z eN) (by kernel_rfl)) (WL.effect Z ?_)))))))))
 refine (EV.alloc (by decide) ze45 (fun b11 => ?_))
 refine WL.effect Z ?_
 refine (EV.store 0 Z Z Z Z Z Z (vs := [i_ x8.1, i_ 0]) (show Value.cells _ = List.toArray _ from Z) sz45 (nl Z) (oc Z (oc Z one_nil)) ?_)
 refine nt (WC.seq (sr (wm Z (nt ?_))))
 refine wc Z hm10 (fun h12 hm13 => ?_) (fun h12 hm17 => ?_) <;> clear hm10
 ·skip
  refine sr (wm Z ?_)
  obtain ⟨x14, hx15, hm16⟩ := bd_some hm13; clear hm13
  refine wq Z (QV.call en24 (ec Z eN) (fun w hw => have h := text_small_w w hx15 (hGl.at hw); h)) (wm Z (wq Z (QV.extract Z Z Z) (wq Z (QV.extract Z Z Z) (wa Z (wa Z (ns (wm Z (wf fd45_1 Z (WL.effect Z ?_)))))))))
  refine (EV.store 0 Z Z Z Z Z Z (vs := [i_ x14.1]) (show Value.cells _ = List.toArray _ from Z) sz3 (nl Z) (oc Z one_nil) ?_)
  refine nr (wm Z (wm Z (gp Z (fun hG => QV.move Z Z) (wq Z (QV.pickAnd Z Z Z (fun h => h)) (wm Z (gp Z (fun hG => QV.move Z Z) (gp Z (fun hG => QV.gtr Z hG Z Z) (wq Z (QV.pickAnd Z Z Z (fun h => h)) (wa Z ?_)))))))))
  refine ns (wq Z (QV.loadAgg ag45 Z Z Z (Own.cellsBlk 0 Z)) (wm Z (wm Z (gp Z (fun hG => QV.move Z Z) (wq Z (QV.pickAnd Z Z Z (fun h => h)) (WL.effect Z ?_))))))
  refine (EV.store 1 Z Z Z Z Z Z (vs := [i_ x8.1, i_ x14.1]) (show Value.cells _ = List.toArray _ from Z) sz45 (nl Z) (oc Z (oc Z one_nil)) ?_)
  refine wa Z (nt (WC.ret ?_))
  obtain rfl := (eq_of_some hm16).symm
  exact WQ.retCellTmp Z ag45 Z Z Z (Own.cellsBlk 1 Z) fun w hw => kg hw
 refine sk (WQ.then (sr (wq Z (QV.loadAgg ag45 Z Z Z (Own.cellsBlk 0 Z)) (wm Z (wm Z (gp Z (fun hG => QV.move Z Z) (wq Z (QV.pickAnd Z Z Z (fun h => h)) (WL.effect Z ?_))))))))
 refine (EV.store 1 Z Z Z Z Z Z (vs := [i_ x8.1, i_ 0]) (show Value.cells _ = List.toArray _ from Z) sz45 (nl Z) (oc Z (oc Z one_nil)) ?_)
 refine wa Z (nt (WC.ret ?_))
 obtain rfl := (eq_of_some hm17).symm
 exact WQ.retCellTmp Z ag45 Z Z Z (Own.cellsBlk 1 Z) fun w hw => kg hw
theorem text_shape_w {word : List UInt8} {r : Int × List UInt8 × Bool} (w : World) (hm : text_shape_m word = some r) (hGl0 : Glb Tryd.prog w) : Calls Tryd.prog 40 #[strV word] w (fun e w' => e = .returned (.tuple #[.int .i64 r.1, strV r.2.1, .bool r.2.2]) ∧ Grow w w') := by
 unfold text_shape_m at hm
 have hk := Base.rfl (w := w)
 refine calls_of_WC (n := 30) (args := [strV word]) Tryd.func40 Z Z (nl Z) ?_ (Own.startK hk (Own.start w))
 have hGl := GlbM.of hGl0
 refine sr (wa Z (wa Z (wa Z (nt (WC.seq (sr (wm Z (nt (WC.block (sr (wq Z (QV.strEql Z Z Z Z) (wa Z (nt ?_)))))))))))))
 refine wc Z hm (fun h1 hm2 => ?_) (fun h1 hm3 => ?_) <;> clear hm
 ·skip
  refine sr (wa Z (wa Z (wa Z (nt (WC.ret (kr (tr ?_)))))))
  obtain rfl := (eq_of_some hm2).symm
  exact WQ.ret3 Z Z Z Z fun w hw => kg hw
 refine sr (wq Z (QV.strEql Z Z Z Z) (wa Z (nt ?_)))
 refine wc Z hm3 (fun h4 hm5 => ?_) (fun h4 hm6 => ?_) <;> clear hm3
 ·skip
  refine sr (wa Z (wa Z (wa Z (nt (WC.ret (kr (tr ?_)))))))
  obtain rfl := (eq_of_some hm5).symm
  exact WQ.ret3 Z Z Z Z fun w hw => kg hw
 refine sr (wq Z (QV.strEql Z Z Z Z) (wa Z (nt ?_)))
 refine wc Z hm6 (fun h7 hm8 => ?_) (fun h7 hm9 => ?_) <;> clear hm6
 ·skip
  refine sr (wa Z (wa Z (wa Z (nt (WC.ret (kr (tr ?_)))))))
  obtain rfl := (eq_of_some hm8).symm
  exact WQ.ret3 Z Z Z Z fun w hw => kg hw
 refine sr (wq Z (QV.strEql Z Z Z Z) (wa Z (nt ?_)))
 refine wc Z hm9 (fun h10 hm11 => ?_) (fun h10 hm12 => ?_) <;> clear hm9
 ·skip
  refine sr (wa Z (wa Z (wa Z (nt (WC.ret (kr (tr ?_)))))))
  obtain rfl := (eq_of_some hm11).symm
  exact WQ.ret3 Z Z Z Z fun w hw => kg hw
 refine sk (WQ.block (WQ.then (WC.seq (sr (WL.effect Z ?_)))))
 obtain ⟨x13, hx14, hm15⟩ := bd_some hm12; clear hm12
 refine (EV.callRG (X := Value × World) (R := []) (fun X => X.1) (fun X => []) (fun X => X.2) (fun X => Arr X.2 X.1 1 (x13.map scell)) hGl hk (fun _ h => by cases h; decide) en36 (ec Z eN) (fun M w hG h1 h2 => have h := Fields_w hx14  M w hG h1 h2; h) (fun X16 hF16 hle16 => ?_))
 refine wq Z (QV.lenS Tryd.underlying36 Z Z hF16.lenMap) (wm Z (nt ?_))
 obtain ⟨o17, ho18, hm19⟩ := bd_some hm15; clear hm15; obtain ⟨n20, ho21⟩ := lp_some ho18
 refine WC.bloop1 (H2 := [kn noM w.heap.size w X16.2]) (τ := [u_ 0 _, u_ 16 _, u_ 17 _]) (fun (x18_1 : Int) => [(18, (true, i_ x18_1))]) (fun x18_1 => []) (fun x18_1 m => iter (text_shape_L1 word x13) m x18_1 = some o17) (fun x18_1 => o17 = .go x18_1) 0 n20 ho21 ⟨Z, Z, Z, Z, trivial⟩ (pk [0]) ?_ ?_
 ·skip
  rintro x18_1 rfl
  refine WQ.then (sr (wa Z (wa Z (wa Z (nt (WC.ret ?_))))))
  obtain rfl := (eq_of_some hm19).symm
  exact WQ.ret3 Z Z Z Z fun w hw => kg hw
 rintro x18_1 m22 hI23
 obtain ⟨m24, s25, rfl, hm26, hn27⟩ := iter_step hI23; clear hI23; unfold text_shape_L1 at hm26
 refine sr (wq Z (QV.lss Z Z Z Z) (nt (WC.seq ?_)))
 refine wc Z hm26 (fun h28 hm29 => ?_) (fun h28 hm43 => ?_) <;> clear hm26
 ·skip
  refine sk (WQ.then (WC.seq (WC.block (sr (wm Z ?_)))))
  obtain ⟨c30, hm31⟩ := cs hm29; clear hm29
  obtain ⟨p32, hp33⟩ := hF16.lenMap.ix (sz := 1) ln_len c30
  refine wq Z (QV.indexSlice sl36 Z Z Z Z hp33) (wl pl9 Z (fun w hw => CellsAt.one 0 (((Own.karr 0 Z hk hF16) w hw).ele hp33 c30) Z) (wa Z (wa Z (ns (wm Z (wm Z (wq Z (QV.strEql Z Z Z Z) (nt ?_))))))))
  refine wc Z hm31 (fun h34 hm35 => ?_) (fun h34 hm40 => ?_) <;> clear hm31
  ·skip
   refine sr (wm Z ?_)
   obtain ⟨c36, c38, hm39⟩ := cs2 hm35; clear hm35
   refine wq Z (QV.add Z Z Z Z c36) (wq Z (QV.add Z Z Z Z c38) (wa Z (wa Z (wa Z (nt (WC.ret (kr (tr (tr (kr (tr (tr ?_))))))))))))
   obtain rfl := up_ret hm39 hn27
   obtain rfl := (eq_of_some hm19).symm
   exact WQ.ret3 Z Z Z Z fun w hw => kg hw
  refine sk (WQ.block (WQ.then (WC.region ?_)))
  obtain ⟨c41, hm42⟩ := cs hm40; clear hm40
  refine wq Z (QV.add Z Z Z Z c41) (wm Z (WL.nil ?_))
  exact WQ.again1 (x18_1 + 1) m24 (up_next hm42 hn27) (Nat.lt_succ_self _) ⟨Z, Z, Z, Z, trivial⟩ (pk [0])
 refine WC.exit (te (te (WQ.block_exit ?_)))
 exact WQ.out1 x18_1 (up_brk hm43 hn27) ⟨Z, Z, Z, Z, trivial⟩ (pk [0])
theorem text_reader_stmt_w {v_r_Loop_Logs v_r_Loop_Body v_r_Loop_Outs : Value} {b_r : Nat} {v_words : Value} {r_Loop_Logs : List Int} {r_Loop_Body : List Stm} {r_Loop_Outs : List Int} {words : List (List UInt8)} {r : Bool × List Stm} {K0 : World} (hm : text_reader_stmt_m r_Loop_Logs r_Loop_Body r_Loop_Outs words = some r) (h_r_Loop_Logs : SliceLen v_r_Loop_Logs r_Loop_Logs.length) (h_r_Loop_Body : SliceLen v_r_Loop_Body r_Loop_Body.length) (h_r_Loop_Outs : SliceLen v_r_Loop_Outs r_Loop_Outs.length) (h_words : Arr K0 v_words 1 (words.map scell)) (M : Nat → Prop) (w : World) (hGl : GlbM Tryd.prog M w) (hk : Base M K0 w) (hw0 : Own M w [blk b_r [v_r_Loop_Logs, v_r_Loop_Body, v_r_Loop_Outs] 40, vec v_r_Loop_Logs 3 1 (List.map icell r_Loop_Logs), vec v_r_Loop_Body 47 9 (List.map Stm.cells r_Loop_Body), vec v_r_Loop_Outs 3 1 (List.map icell r_Loop_Outs)] w) : Calls Tryd.prog 23 #[.pointer (some (⟨b_r, 0, none⟩)), v_words] w (fun e w' => ∃ X : Value × World, e = .returned (.bool r.1) ∧ Own M w (kn M w.heap.size K0 X.2 :: [blk b_r [v_r_Loop_Logs, X.1, v_r_Loop_Outs] 40, vec v_r_Loop_Logs 3 1 (List.map icell r_Loop_Logs), vec v_r_Loop_Outs 3 1 (List.map icell r_Loop_Outs), vec X.1 47 9 (List.map Stm.cells r.2)]) w' ∧ SliceLen X.1 (r.2).length) := by
 unfold text_reader_stmt_m at hm
 refine calls_of_WC (n := 121) (args := [.pointer (some (⟨b_r, 0, none⟩)), v_words]) Tryd.func23 Z Z (nl Z) ?_ (Own.startK hk hw0)
 refine sr (wa Z (ns (wm Z ?_)))
 obtain ⟨c1, hm2⟩ := cs hm; clear hm
 obtain ⟨p3, hp4⟩ := h_words.lenMap.ix (sz := 1) ln_len c1
 refine wq Z (QV.indexSlice sl36 Z Z Z Z hp4) (wl pl9 Z (fun w hw => CellsAt.one 0 (((Own.karr 0 Z hk h_words) w hw).ele hp4 c1) Z) ?_)
 obtain ⟨x5, hx6, hm7⟩ := bd_some hm2; clear hm2
 refine wq Z (QV.call en40 (ec Z eN) (fun w hw => have h := text_shape_w w hx6 (hGl.at hw); h)) (wm Z (wq Z (QV.extract Z Z Z) (wq Z (QV.extract Z Z Z) (wq Z (QV.extract Z Z Z) (wa Z (wa Z (wa Z (nt (WC.seq (sr (wm Z ?_)))))))))))
 refine wq Z (QV.not Z Z) (wm Z (gn Z (fun hG => QV.move Z Z) (gn Z (fun hG => QV.lenS Tryd.underlying36 Z hG h_words.lenMap) ?_)))
 obtain ⟨c8, hm9⟩ := cs hm7; clear hm7
 refine gn Z (fun hG => QV.sub Z hG Z Z (c8 hG)) (gn Z (fun hG => QV.move Z Z) (gn Z (fun hG => QV.lenStr Tryd.underlying9 Z hG) (gn Z (fun hG => QV.neq Z hG Z hG) (wq Z (QV.pickOr Z Z Z (fun h => notF h)) (wm Z (gn Z (fun hG => QV.move Z Z) (gn Z (fun hG => QV.nilCheck Z hG) (gn Z (fun hG => QV.fieldAddr fd40_0 Z hG) (gn Z (fun hG => QV.fieldAddr fd25_2 Z hG) ?_)))))))))
 refine gn Z (fun hG => QV.load pl22 Z hG (Own.cell 1 Z Z)) (gn Z (fun hG => QV.lenS Tryd.underlying22 Z hG h_r_Loop_Outs) (gn Z (fun hG => QV.gtr Z hG Z Z) (wq Z (QV.pickOr Z Z Z (fun h => notF h)) (nt ?_))))
 refine wc Z hm9 (fun h10 hm11 => ?_) (fun h10 hm12 => ?_) <;> clear hm9
 ·skip
  refine sr (wa Z (nt (WC.ret (tr ?_))))
  obtain rfl := (eq_of_some hm11).symm
  refine WQ.ret1 Z Z (fun w hw => ?_)
  exact ⟨(v_r_Loop_Body, K0), Z, hw.pick [0, 1, 2, 4, 3] (by decide), h_r_Loop_Body⟩
 refine sk (WQ.then (sr (wm Z (wq Z (QV.build (ps := [(0, .tmp 40)]) (cells := [i_ x5.1, i_ 0, i_ 0, i_ 0, i_ 0, i_ 0, i_ 0, i_ 0, i_ 0]) (ec Z eN) (by kernel_rfl)) (WL.effect Z ?_)))))
 refine (EV.alloc (by decide) ze47 (fun b13 => ?_))
 refine WL.effect Z ?_
 refine (EV.store 0 Z Z Z Z Z Z (vs := [i_ x5.1, i_ 0, i_ 0, i_ 0, i_ 0, i_ 0, i_ 0, i_ 0, i_ 0]) (show Value.cells _ = List.toArray _ from Z) sz47 (nl Z) (oc Z (oc Z (oc Z (oc Z (oc Z (oc Z (oc Z (oc Z (oc Z one_nil))))))))) ?_)
 refine nt (WC.seq (sr (wm Z (wq Z (QV.eql Z Z Z Z) (nt ?_)))))
 refine wc Z hm12 (fun h14 hm15 => ?_) (fun h14 hm28 => ?_) <;> clear hm12
 ·skip
  refine sr (wm Z ?_)
  obtain ⟨c16, hm17⟩ := cs hm15; clear hm15
  obtain ⟨p18, hp19⟩ := h_words.lenMap.ix (sz := 1) ln_len c16
  refine wq Z (QV.indexSlice sl36 Z Z Z Z hp19) (wl pl9 Z (fun w hw => CellsAt.one 0 (((Own.karr 1 Z hk h_words) w hw).ele hp19 c16) Z) ?_)
  obtain ⟨x20, hx21, hm22⟩ := bd_some hm17; clear hm17
  refine wq Z (QV.call en41 (ec Z (ec Z eN)) (fun w hw => have h := text_whole_w w hx21 (hGl.at hw); h)) (wm Z (wq Z (QV.extract Z Z Z) (wq Z (QV.extract Z Z Z) (wf fd47_6 Z (WL.effect Z ?_)))))
  refine (EV.store 0 Z Z Z Z Z Z (vs := [i_ x20.1]) (show Value.cells _ = List.toArray _ from Z) sz2 (nl Z) (oc Z one_nil) ?_)
  refine wa Z (nt (WC.seq (WC.dr (m := 13) (S := Own M w [kn M w.heap.size K0 K0, blk b13 [i_ x5.1, i_ 0, i_ 0, i_ 0, i_ 0, i_ 0, i_ 0, i_ 0, i_ x20.1] 47, blk b_r [v_r_Loop_Logs, v_r_Loop_Body, v_r_Loop_Outs] 40, vec v_r_Loop_Logs 3 1 (List.map icell r_Loop_Logs), vec v_r_Loop_Outs 3 1 (List.map icell r_Loop_Outs)]) (by kernel_rfl) (by kernel_rfl) (pk [1, 0, 2, 3, 5]) (zm 0 Z Z (zm 1 Z Z (wz 2 Z Z (QV.nilCheck Z Z) (zf 3 fd40_0 Z Z (zf 4 fd25_1 Z Z (zl 5 pl23 Z Z (Own.cell 2 Z Z) (wz 6 Z Z (QV.loadAgg ag47 Z Z Z (Own.cellsBlk 1 Z)) ?_))))))))))
  refine WD.o 7 Z (by kernel_rfl) Z ?_
  refine (EV.buildSlice (by decide) sz_23 (by decide) (by decide) (ps := [(0, .tmp 58)]) (cells := [i_ x5.1, i_ 0, i_ 0, i_ 0, i_ 0, i_ 0, i_ 0, i_ 0, i_ x20.1]) (ec Z eN) (by kernel_rfl) (fun b23 => ?_))
  refine WD.b (H' := [kn M w.heap.size K0 K0, blk b23 [i_ x5.1, i_ 0, i_ 0, i_ 0, i_ 0, i_ 0, i_ 0, i_ 0, i_ x20.1] 47, blk b13 [i_ x5.1, i_ 0, i_ 0, i_ 0, i_ 0, i_ 0, i_ 0, i_ 0, i_ x20.1] 47, blk b_r [v_r_Loop_Logs, v_r_Loop_Body, v_r_Loop_Outs] 40, vec v_r_Loop_Logs 3 1 (List.map icell r_Loop_Logs), vec v_r_Loop_Outs 3 1 (List.map icell r_Loop_Outs)]) (pk [2, 0, 1, 3, 4, 6]) (pk [0, 2, 3, 4, 5]) ?_
  refine WD.o 8 Z (by kernel_rfl) Z ?_
  obtain ⟨c24, hm25⟩ := cs hm22; clear hm22
  refine (EV.appendL (enc := Stm.cells) (xs := r_Loop_Body) (ys := [(Stm.mk x5.1 (Rf.mk 0 0) (Rf.mk 0 0) 0 0 0 x20.1)]) ((r_Loop_Body ++ [(Stm.mk x5.1 (Rf.mk 0 0) (Rf.mk 0 0) 0 0 0 x20.1)])) 5 (by decide) ve23 Z Z Z Z Z (Own.blkArr 0 (rows := [(Stm.mk x5.1 (Rf.mk 0 0) (Rf.mk 0 0) 0 0 0 x20.1)].map Stm.cells) Z Z (rows_len Stm.cells_len)) Stm.cells_len (Stm.cells_one _) Z c24.1 c24.2 (fun u26 hu27 => ?_))
  refine WD.b (H' := [kn M w.heap.size K0 K0, blk b23 [i_ x5.1, i_ 0, i_ 0, i_ 0, i_ 0, i_ 0, i_ 0, i_ 0, i_ x20.1] 47, blk b13 [i_ x5.1, i_ 0, i_ 0, i_ 0, i_ 0, i_ 0, i_ 0, i_ 0, i_ x20.1] 47, blk b_r [v_r_Loop_Logs, v_r_Loop_Body, v_r_Loop_Outs] 40, vec v_r_Loop_Logs 3 1 (List.map icell r_Loop_Logs), vec u26 47 9 (List.map Stm.cells (r_Loop_Body ++ [(Stm.mk x5.1 (Rf.mk 0 0) (Rf.mk 0 0) 0 0 0 x20.1)])), vec v_r_Loop_Outs 3 1 (List.map icell r_Loop_Outs)]) (pk [2, 0, 1, 3, 4, 5, 6]) (pk [0, 1, 2, 3, 4, 6]) ?_
  refine wz 9 Z Z (QV.nilCheck Z Z) (zf 10 fd40_0 Z Z (zf 11 fd25_1 Z Z ?_))
  refine WD.l 12 Z (by kernel_rfl) Z ?_
  refine (EV.store 3 Z Z Z Z Z Z (vs := [u26]) (SliceLen.cells hu27) sz23 (nl Z) (oc (SliceLen.one hu27) one_nil) ?_)
  refine WQ.then (sr (wm Z (wa Z (nt (WC.ret (tr ?_))))))
  obtain rfl := (eq_of_some hm25).symm
  refine WQ.ret1 Z Z (fun w hw => ?_)
  exact ⟨(u26, K0), Z, hw.pick [2, 3, 4, 6, 5] (by decide), hu27⟩
 refine sk (WQ.then (sr (wf fd47_3 Z (wf fd47_4 Z (wf fd47_5 Z (WL.effect Z ?_))))))
 refine (EV.buildSlice (by decide) sz_80 (by decide) (by decide) (ps := [(0, .tmp 65), (1, .tmp 66), (2, .tmp 67)]) (cells := [.pointer (some (⟨b13, 5, none⟩)), .pointer (some (⟨b13, 6, none⟩)), .pointer (some (⟨b13, 7, none⟩))]) (ec Z (ec Z (ec Z eN))) (by kernel_rfl) (fun b29 => ?_))
 refine WK.of (fun w hw => hw.blkVec (pcell b13) (([5, 6, 7] : List Int) : List Int) Z pcell_len (nl Z)) ?_
 refine WK.of (C' := Own M w [kn M w.heap.size K0 K0, vec (blkSlice b29 3 3) 79 1 (List.map (pcell b13) ([5, 6, 7] : List Int)), blk b13 [i_ x5.1, i_ 0, i_ 0, i_ 0, i_ 0, i_ 0, i_ 0, i_ 0, i_ 0] 47, blk b_r [v_r_Loop_Logs, v_r_Loop_Body, v_r_Loop_Outs] 40, vec v_r_Loop_Logs 3 1 (List.map icell r_Loop_Logs), vec v_r_Loop_Body 47 9 (List.map Stm.cells r_Loop_Body), vec v_r_Loop_Outs 3 1 (List.map icell r_Loop_Outs)]) (pk [2, 0, 1, 3, 4, 5, 6]) ?_
 refine WK.freeze hk (fun k30 hle30 hr30 => ?_)
 have hA30 := vec_arr hr30
 refine wf fd47_1 Z (wf fd47_2 Z (WL.effect Z ?_))
 refine (EV.buildSlice (by decide) sz_82 (by decide) (by decide) (ps := [(0, .tmp 69), (1, .tmp 70)]) (cells := [.pointer (some (⟨b13, 1, none⟩)), .pointer (some (⟨b13, 3, none⟩))]) (ec Z (ec Z eN)) (by kernel_rfl) (fun b31 => ?_))
 refine WK.of (fun w hw => hw.blkVec (pcell b13) (([1, 3] : List Int) : List Int) Z pcell_len (nl Z)) ?_
 refine WK.of (C' := Own M w [kn M w.heap.size K0 k30, vec (blkSlice b31 2 2) 81 1 (List.map (pcell b13) ([1, 3] : List Int)), blk b13 [i_ x5.1, i_ 0, i_ 0, i_ 0, i_ 0, i_ 0, i_ 0, i_ 0, i_ 0] 47, blk b_r [v_r_Loop_Logs, v_r_Loop_Body, v_r_Loop_Outs] 40, vec v_r_Loop_Logs 3 1 (List.map icell r_Loop_Logs), vec v_r_Loop_Body 47 9 (List.map Stm.cells r_Loop_Body), vec v_r_Loop_Outs 3 1 (List.map icell r_Loop_Outs)]) (pk [1, 0, 2, 3, 4, 5, 6]) ?_
 refine WK.freeze hk (fun k32 hle32 hr32 => ?_)
 have hA32 := vec_arr hr32
 refine wa Z (wa Z (nt (WC.seq (sr (wm Z ?_)))))
 obtain ⟨c33, hm34⟩ := cs hm28; clear hm28
 have hA35 := subS_sub (h_words.le (hle30.trans hle32)) c33
 refine wq Z (QV.sliceLd sl36 Z Z (h_words.le (hle30.trans hle32)).lenMap Z Z c33) (wq Z (QV.lenS Tryd.underlying36 Z Z hA35.lenMap) (wm Z (nt ?_)))
 obtain ⟨o36, ho37, hm38⟩ := bd_some hm34; clear hm34; obtain ⟨n39, ho40⟩ := lp_some ho37
 refine WC.bloop6 (H2 := [kn M w.heap.size K0 k32, blk b_r [v_r_Loop_Logs, v_r_Loop_Body, v_r_Loop_Outs] 40, vec v_r_Loop_Logs 3 1 (List.map icell r_Loop_Logs), vec v_r_Loop_Body 47 9 (List.map Stm.cells r_Loop_Body), vec v_r_Loop_Outs 3 1 (List.map icell r_Loop_Outs)]) (τ := [u_ 0 _, u_ 6 _, u_ 8 _, u_ 73 _, u_ 74 _]) (fun (b13n_1 : List Int) (numbers9_1 : List Int) (refs10_1 : List Int) (x75_1 : Int) (vnumbers9_1 : Value) (vrefs10_1 : Value) => [(9, (true, vnumbers9_1)), (10, (true, vrefs10_1)), (75, (true, i_ x75_1))]) (fun b13n_1 numbers9_1 refs10_1 x75_1 vnumbers9_1 vrefs10_1 => [blk b13 (List.map i64v b13n_1) 47]) (fun b13n_1 numbers9_1 refs10_1 x75_1 vnumbers9_1 vrefs10_1 m => iter (text_reader_stmt_L0 r_Loop_Body words x5) m (b13n_1, numbers9_1, refs10_1, x75_1) = some o36 ∧ Arr k32 vnumbers9_1 1 (numbers9_1.map (pcell b13)) ∧ Arr k32 vrefs10_1 1 (refs10_1.map (pcell b13))) (fun b13n_1 numbers9_1 refs10_1 x75_1 vnumbers9_1 vrefs10_1 => o36 = .go (b13n_1, numbers9_1, refs10_1, x75_1) ∧ Arr k32 vnumbers9_1 1 (numbers9_1.map (pcell b13)) ∧ Arr k32 vrefs10_1 1 (refs10_1.map (pcell b13))) ([x5.1, 0, 0, 0, 0, 0, 0, 0, 0] : List Int) ([5, 6, 7] : List Int) ([1, 3] : List Int) 0 (blkSlice b29 3 3) (blkSlice b31 2 2) n39 ⟨ho40, (hA30.le hle32), hA32⟩ ⟨Z, Z, Z, Z, Z, Z, Z, Z, trivial⟩ (pk [1, 0, 2, 3, 4, 5]) ?_ ?_
 ·skip
  rintro b13n_1 numbers9_1 refs10_1 x75_1 vnumbers9_1 vrefs10_1 ⟨rfl, hAnumbers9_1, hArefs10_1⟩
  refine WQ.then (WC.seq (WC.dr (m := 13) (S := Own M w [kn M w.heap.size K0 k32, blk b13 (List.map i64v b13n_1) 47, blk b_r [v_r_Loop_Logs, v_r_Loop_Body, v_r_Loop_Outs] 40, vec v_r_Loop_Logs 3 1 (List.map icell r_Loop_Logs), vec v_r_Loop_Outs 3 1 (List.map icell r_Loop_Outs)]) (by kernel_rfl) (by kernel_rfl) (pk [1, 0, 2, 3, 5]) (zm 0 Z Z (zm 1 Z Z (wz 2 Z Z (QV.nilCheck Z Z) (zf 3 fd40_0 Z Z (zf 4 fd25_1 Z Z (zl 5 pl23 Z Z (Own.cell 2 Z Z) ?_))))))))
  obtain ⟨c41, c44, hm45⟩ := cs2 hm38; clear hm38
  refine wz 6 Z Z (QV.loadAgg (cs := (stmOf b13n_1).cells) ag47 Z Z Z (Own.cellsL (c := i64v) (xs := b13n_1) 1 Z (stmOf_cells c41))) ?_
  refine WD.o 7 Z (by kernel_rfl) Z ?_
  refine (EV.buildSlice (by decide) sz_23 (by decide) (by decide) (ps := [(0, .tmp 115)]) (cells := (Stm.cells (stmOf b13n_1))) (ec Z eN) (by kernel_rfl) (fun b43 => ?_))
  refine WD.b (H' := [kn M w.heap.size K0 k32, blk b43 (Stm.cells (stmOf b13n_1)) 47, blk b13 (List.map i64v b13n_1) 47, blk b_r [v_r_Loop_Logs, v_r_Loop_Body, v_r_Loop_Outs] 40, vec v_r_Loop_Logs 3 1 (List.map icell r_Loop_Logs), vec v_r_Loop_Outs 3 1 (List.map icell r_Loop_Outs)]) (pk [2, 0, 1, 3, 4, 6]) (pk [0, 2, 3, 4, 5]) ?_
  refine WD.o 8 Z (by kernel_rfl) Z ?_
  refine (EV.appendL (enc := Stm.cells) (xs := r_Loop_Body) (ys := [(stmOf b13n_1)]) ((r_Loop_Body ++ [(stmOf b13n_1)])) 5 (by decide) ve23 Z Z Z Z Z (Own.blkArr 0 (rows := [(stmOf b13n_1)].map Stm.cells) Z Z (rows_len Stm.cells_len)) Stm.cells_len (Stm.cells_one _) Z c44.1 c44.2 (fun u46 hu47 => ?_))
  refine WD.b (H' := [kn M w.heap.size K0 k32, blk b43 (Stm.cells (stmOf b13n_1)) 47, blk b13 (List.map i64v b13n_1) 47, blk b_r [v_r_Loop_Logs, v_r_Loop_Body, v_r_Loop_Outs] 40, vec v_r_Loop_Logs 3 1 (List.map icell r_Loop_Logs), vec u46 47 9 (List.map Stm.cells (r_Loop_Body ++ [(stmOf b13n_1)])), vec v_r_Loop_Outs 3 1 (List.map icell r_Loop_Outs)]) (pk [2, 0, 1, 3, 4, 5, 6]) (pk [0, 1, 2, 3, 4, 6]) ?_
  refine wz 9 Z Z (QV.nilCheck Z Z) (zf 10 fd40_0 Z Z (zf 11 fd25_1 Z Z ?_))
  refine WD.l 12 Z (by kernel_rfl) Z ?_
  refine (EV.store 3 Z Z Z Z Z Z (vs := [u46]) (SliceLen.cells hu47) sz23 (nl Z) (oc (SliceLen.one hu47) one_nil) ?_)
  refine WQ.then (sr (wa Z (nt (WC.ret ?_))))
  obtain rfl := (eq_of_some hm45).symm
  refine WQ.ret1 Z Z (fun w hw => ?_)
  exact ⟨(u46, k32), Z, hw.pick [2, 3, 4, 6, 5] (by decide), hu47⟩
 rintro b13n_1 numbers9_1 refs10_1 x75_1 vnumbers9_1 vrefs10_1 m48 ⟨hI49, hAnumbers9_1, hArefs10_1⟩
 obtain ⟨m50, s51, rfl, hm52, hn53⟩ := iter_step hI49; clear hI49; unfold text_reader_stmt_L0 at hm52; simp only at hm52
 refine sr (wq Z (QV.lss Z Z Z Z) (nt (WC.seq ?_)))
 refine wc Z hm52 (fun h54 hm55 => ?_) (fun h54 hm101 => ?_) <;> clear hm52
 ·skip
  refine sk (WQ.then (WC.seq (WC.block (sr (wm Z ?_)))))
  obtain ⟨c56, hm57⟩ := cs hm55; clear hm55
  obtain ⟨p58, hp59⟩ := hA35.lenMap.ix (sz := 1) ln_len c56
  refine wq Z (QV.indexSlice sl36 Z Z Z Z hp59) (wl pl9 Z (fun w hw => CellsAt.one 0 (((Own.karr 1 Z hk hA35) w hw).ele hp59 c56) Z) (wa Z (wa Z (nt (WC.seq (sr (wm Z (wm Z ?_))))))))
  obtain ⟨c60, hm61⟩ := cs hm57; clear hm57
  refine wq Z (QV.indexStr Tryd.underlying9 Z Z Z Z c60) (wq Z (QV.eql Z Z Z Z) (nt ?_))
  refine wc Z hm61 (fun h62 hm63 => ?_) (fun h62 hm81 => ?_) <;> clear hm61
  ·skip
   refine WC.seq (WC.dr (m := 11) (S := Own M w [kn M w.heap.size K0 k32, blk b_r [v_r_Loop_Logs, v_r_Loop_Body, v_r_Loop_Outs] 40, vec v_r_Loop_Logs 3 1 (List.map icell r_Loop_Logs), vec v_r_Loop_Body 47 9 (List.map Stm.cells r_Loop_Body), vec v_r_Loop_Outs 3 1 (List.map icell r_Loop_Outs)]) (by kernel_rfl) (by kernel_rfl) (pk [1, 2, 3, 4, 5]) (zm 0 Z Z ?_))
   obtain ⟨c64, hm65⟩ := cs hm63; clear hm63
   obtain ⟨p66, hp67⟩ := hAnumbers9_1.lenMap.ix (sz := 1) ln_len c64
   refine wz 1 Z Z (QV.indexSlice sl80 Z Z Z Z hp67) (zl 2 pl79 Z Z (fun w hw => CellsAt.one 0 (((Own.karr 0 Z hk hAnumbers9_1) w hw).ele hp67 c64) Z) (zm 3 Z Z ?_))
   obtain ⟨x68, hx69, hm70⟩ := bd_some hm65; clear hm65
   refine wz 4 Z Z (QV.call en24 (ec Z eN) (fun w hw => have h := text_small_w w hx69 (hGl.at hw); h)) (zm 5 Z Z (wz 6 Z Z (QV.extract Z Z Z) (wz 7 Z Z (QV.extract Z Z Z) (wz 8 Z Z (QV.nilCheck Z Z) ?_))))
   refine WD.o 9 Z (by kernel_rfl) Z ?_
   obtain ⟨c71, c73, hm74⟩ := cs2 hm70; clear hm70
   refine (EV.storeB (c := i64v) (xs := b13n_1) 0 (ele numbers9_1 0) x68.1 Z Z Z Z Z Z c71 Z Z sz3 ?_)
   refine WD.b (H' := [kn M w.heap.size K0 k32, blk b13 (List.map i64v (upd b13n_1 (ele numbers9_1 0) x68.1)) 47, blk b_r [v_r_Loop_Logs, v_r_Loop_Body, v_r_Loop_Outs] 40, vec v_r_Loop_Logs 3 1 (List.map icell r_Loop_Logs), vec v_r_Loop_Body 47 9 (List.map Stm.cells r_Loop_Body), vec v_r_Loop_Outs 3 1 (List.map icell r_Loop_Outs)]) (pk [1, 0, 2, 3, 4, 5]) (pk [0, 2, 3, 4, 5]) ?_
   refine wz 10 Z Z (QV.assign Z Z) ?_
   refine WD.e (by kernel_rfl) ?_
   refine WQ.then (WC.region (wm Z ?_))
   have hA75 := subS_sub hAnumbers9_1 c73
   refine wq Z (QV.sliceLd sl80 Z Z hAnumbers9_1.lenMap Z Z c73) (wa Z (ns (wm Z (wq Z (QV.not Z Z) (nt ?_)))))
   refine wc Z hm74 (fun h76 hm77 => ?_) (fun h76 hm78 => ?_) <;> clear hm74
   ·skip
    refine sr (wa Z (nt (WC.ret (kr (tr (tr (kr (tr (tr ?_)))))))))
    obtain rfl := up_ret hm77 hn53
    obtain rfl := (eq_of_some hm38).symm
    refine WQ.ret1 Z Z (fun w hw => ?_)
    exact ⟨(v_r_Loop_Body, k32), Z, hw.pick [1, 2, 3, 5, 4] (by decide), h_r_Loop_Body⟩
   refine sk (WQ.block (WQ.then (WC.region ?_)))
   obtain ⟨c79, hm80⟩ := cs hm78; clear hm78
   refine wq Z (QV.add Z Z Z Z c79) (wm Z (WL.nil ?_))
   exact WQ.again6 (upd b13n_1 (ele numbers9_1 0) x68.1) (sub numbers9_1 1 (ln numbers9_1)) refs10_1 (x75_1 + 1) (subS vnumbers9_1 1 (Int.toNat 1) (Int.toNat (ln numbers9_1))) vrefs10_1 m50 ⟨up_next hm80 hn53, hA75, hArefs10_1⟩ (Nat.lt_succ_self _) ⟨Z, Z, Z, Z, Z, Z, Z, Z, trivial⟩ (pk [0, 1, 2, 3, 4, 5])
  refine WC.seq (WC.dr (m := 11) (S := Own M w [kn M w.heap.size K0 k32, blk b_r [v_r_Loop_Logs, v_r_Loop_Body, v_r_Loop_Outs] 40, vec v_r_Loop_Logs 3 1 (List.map icell r_Loop_Logs), vec v_r_Loop_Body 47 9 (List.map Stm.cells r_Loop_Body), vec v_r_Loop_Outs 3 1 (List.map icell r_Loop_Outs)]) (by kernel_rfl) (by kernel_rfl) (pk [1, 2, 3, 4, 5]) (zm 0 Z Z ?_))
  obtain ⟨c82, hm83⟩ := cs hm81; clear hm81
  obtain ⟨p84, hp85⟩ := hArefs10_1.lenMap.ix (sz := 1) ln_len c82
  refine wz 1 Z Z (QV.indexSlice sl82 Z Z Z Z hp85) (zl 2 pl81 Z Z (fun w hw => CellsAt.one 0 (((Own.karr 0 Z hk hArefs10_1) w hw).ele hp85 c82) Z) (zm 3 Z Z ?_))
  obtain ⟨x86, hx87, hm88⟩ := bd_some hm83; clear hm83
  refine wz 4 Z Z (QV.call en42 (ec Z eN) (fun w hw => have h := text_reads_w w hx87 (hGl.at hw); h)) (zm 5 Z Z (wz 6 Z Z (QV.extract Z Z Z) (wz 7 Z Z (QV.extract Z Z Z) (wz 8 Z Z (QV.nilCheck Z Z) ?_))))
  refine WD.o 9 Z (by kernel_rfl) Z ?_
  obtain ⟨c89, c91, c93, hm94⟩ := cs3 hm88; clear hm88
  refine (EV.storeB2 (xs := b13n_1) 0 (ele refs10_1 0) x86.1.st x86.1.bk Z Z Z Z Z Z c89 c91 Z sz45 ?_)
  refine WD.b (H' := [kn M w.heap.size K0 k32, blk b13 (List.map i64v (upd (upd b13n_1 (ele refs10_1 0) x86.1.st) ((ele refs10_1 0) + 1) x86.1.bk)) 47, blk b_r [v_r_Loop_Logs, v_r_Loop_Body, v_r_Loop_Outs] 40, vec v_r_Loop_Logs 3 1 (List.map icell r_Loop_Logs), vec v_r_Loop_Body 47 9 (List.map Stm.cells r_Loop_Body), vec v_r_Loop_Outs 3 1 (List.map icell r_Loop_Outs)]) (pk [1, 0, 2, 3, 4, 5]) (pk [0, 2, 3, 4, 5]) ?_
  refine wz 10 Z Z (QV.assign Z Z) ?_
  refine WD.e (by kernel_rfl) ?_
  refine WQ.then (WC.region (wm Z ?_))
  have hA95 := subS_sub hArefs10_1 c93
  refine wq Z (QV.sliceLd sl82 Z Z hArefs10_1.lenMap Z Z c93) (wa Z (ns (wm Z (wq Z (QV.not Z Z) (nt ?_)))))
  refine wc Z hm94 (fun h96 hm97 => ?_) (fun h96 hm98 => ?_) <;> clear hm94
  ·skip
   refine sr (wa Z (nt (WC.ret (kr (tr (tr (kr (tr (tr ?_)))))))))
   obtain rfl := up_ret hm97 hn53
   obtain rfl := (eq_of_some hm38).symm
   refine WQ.ret1 Z Z (fun w hw => ?_)
   exact ⟨(v_r_Loop_Body, k32), Z, hw.pick [1, 2, 3, 5, 4] (by decide), h_r_Loop_Body⟩
  refine sk (WQ.block (WQ.then (WC.region ?_)))
  obtain ⟨c99, hm100⟩ := cs hm98; clear hm98
  refine wq Z (QV.add Z Z Z Z c99) (wm Z (WL.nil ?_))
  exact WQ.again6 (upd (upd b13n_1 (ele refs10_1 0) x86.1.st) ((ele refs10_1 0) + 1) x86.1.bk) numbers9_1 (sub refs10_1 1 (ln refs10_1)) (x75_1 + 1) vnumbers9_1 (subS vrefs10_1 1 (Int.toNat 1) (Int.toNat (ln refs10_1))) m50 ⟨up_next hm100 hn53, hAnumbers9_1, hA95⟩ (Nat.lt_succ_self _) ⟨Z, Z, Z, Z, Z, Z, Z, Z, trivial⟩ (pk [0, 1, 2, 3, 4, 5])
 refine WC.exit (te (te (WQ.block_exit ?_)))
 exact WQ.out6 b13n_1 numbers9_1 refs10_1 x75_1 vnumbers9_1 vrefs10_1 ⟨up_brk hm101 hn53, hAnumbers9_1, hArefs10_1⟩ ⟨Z, Z, Z, Z, Z, Z, Z, Z, trivial⟩ (pk [0, 1, 2, 3, 4, 5])
theorem text_reader_line_w {v_r_Loop_Logs v_r_Loop_Body v_r_Loop_Outs : Value} {b_r : Nat} {r_Loop_Logs : List Int} {r_Loop_Body : List Stm} {r_Loop_Outs : List Int} {s : List UInt8} {r : Bool × List Int × List Stm × List Int} {K0 : World} (hm : text_reader_line_m r_Loop_Logs r_Loop_Body r_Loop_Outs s = some r) (h_r_Loop_Logs : SliceLen v_r_Loop_Logs r_Loop_Logs.length) (h_r_Loop_Body : SliceLen v_r_Loop_Body r_Loop_Body.length) (h_r_Loop_Outs : SliceLen v_r_Loop_Outs r_Loop_Outs.length) (M : Nat → Prop) (w : World) (hGl : GlbM Tryd.prog M w) (hk : Base M K0 w) (hw0 : Own M w [blk b_r [v_r_Loop_Logs, v_r_Loop_Body, v_r_Loop_Outs] 40, vec v_r_Loop_Logs 3 1 (List.map icell r_Loop_Logs), vec v_r_Loop_Body 47 9 (List.map Stm.cells r_Loop_Body), vec v_r_Loop_Outs 3 1 (List.map icell r_Loop_Outs)] w) : Calls Tryd.prog 11 #[.pointer (some (⟨b_r, 0, none⟩)), strV s] w (fun e w' => ∃ X : Value × Value × Value × World, e = .returned (.bool r.1) ∧ Own M w (kn M w.heap.size K0 X.2.2.2 :: [blk b_r [X.1, X.2.1, X.2.2.1] 40, vec X.1 3 1 (List.map icell r.2.1), vec X.2.1 47 9 (List.map Stm.cells r.2.2.1), vec X.2.2.1 3 1 (List.map icell r.2.2.2)]) w' ∧ SliceLen X.1 (r.2.1).length ∧ SliceLen X.2.1 (r.2.2.1).length ∧ SliceLen X.2.2.1 (r.2.2.2).length) := by
 unfold text_reader_line_m at hm
 refine calls_of_WC (n := 79) (args := [.pointer (some (⟨b_r, 0, none⟩)), strV s]) Tryd.func11 Z Z (nl Z) ?_ (Own.startK hk hw0)
 refine sr (wa Z (ns (wm Z (WL.effect Z ?_))))
 obtain ⟨x1, hx2, hm3⟩ := bd_some hm; clear hm
 refine (EV.callRG (X := Value × World) (R := []) (fun X => X.1) (fun X => []) (fun X => X.2) (fun X => Arr X.2 X.1 1 (x1.map scell)) hGl hk (fun _ h => by cases h; decide) en10 (ec Z (ec Z eN)) (fun M w hG h1 h2 => have h := Split_w hx2  M w hG h1 h2; h) (fun X4 hF4 hle4 => ?_))
 refine wa Z (nt (WC.seq (sr (wm Z ?_))))
 obtain ⟨c5, hm6⟩ := cs hm3; clear hm3
 obtain ⟨p7, hp8⟩ := hF4.lenMap.ix (sz := 1) ln_len c5
 refine wq Z (QV.indexSlice sl36 Z Z Z Z hp8) (wl pl9 Z (fun w hw => CellsAt.one 0 (((Own.karr 0 Z hk hF4) w hw).ele hp8 c5) Z) (wq Z (QV.strNeq Z Z Z Z) (wm Z (gp Z (fun hG => QV.move Z Z) ?_))))
 obtain ⟨c9, hm10⟩ := cs hm6; clear hm6
 obtain ⟨p11, hp12⟩ := hF4.lenMap.ixG (sz := 1) ln_len c9
 refine gp Z (fun hG => QV.indexSlice sl36 Z hG Z Z (hp12 hG)) (gp Z (fun hG => QV.load pl9 Z hG (fun w hw => CellsAt.one 0 (((Own.karr 0 Z hk hF4) w hw).ele (hp12 hG) (c9 hG)) Z)) (gp Z (fun hG => QV.strNeq Z hG Z Z) (wq Z (QV.pickAnd Z Z Z (fun h => h)) (nt ?_))))
 refine wc Z hm10 (fun h13 hm14 => ?_) (fun h13 hm19 => ?_) <;> clear hm10
 ·skip
  refine sr (wm Z (wm Z (WL.effect Z ?_)))
  obtain ⟨x15, hx16, hm17⟩ := bd_some hm14; clear hm14
  refine (EV.callRG (X := Value × World) (R := [blk b_r [v_r_Loop_Logs, v_r_Loop_Body, v_r_Loop_Outs] 40, vec v_r_Loop_Logs 3 1 (List.map icell r_Loop_Logs), vec v_r_Loop_Body 47 9 (List.map Stm.cells r_Loop_Body), vec v_r_Loop_Outs 3 1 (List.map icell r_Loop_Outs)]) (fun X => .bool x15.1) (fun X => [blk b_r [v_r_Loop_Logs, X.1, v_r_Loop_Outs] 40, vec v_r_Loop_Logs 3 1 (List.map icell r_Loop_Logs), vec v_r_Loop_Outs 3 1 (List.map icell r_Loop_Outs), vec X.1 47 9 (List.map Stm.cells x15.2)]) (fun X => X.2) (fun X => SliceLen X.1 (x15.2).length) hGl hk (fun _ h => by cases h; decide) en23 (ec Z (ec Z eN)) (fun M w hG h1 h2 => have h := text_reader_stmt_w hx16 h_r_Loop_Logs h_r_Loop_Body h_r_Loop_Outs hF4 M w hG h1 h2; h) (fun X18 hF18 hle18 => ?_))
  refine wa Z (nt (WC.ret (tr ?_)))
  obtain rfl := (eq_of_some hm17).symm
  refine WQ.ret1 Z Z (fun w hw => ?_)
  exact ⟨(v_r_Loop_Logs, X18.1, v_r_Loop_Outs, X18.2), Z, hw.pick [0, 1, 2, 4, 3] (by decide), h_r_Loop_Logs, hF18, h_r_Loop_Outs⟩
 refine sk (WQ.then (WC.seq (sr (wm Z (wq Z (QV.lenS Tryd.underlying36 Z Z hF4.lenMap) (wq Z (QV.neq Z Z Z Z) (nt ?_)))))))
 refine wc Z hm19 (fun h20 hm21 => ?_) (fun h20 hm22 => ?_) <;> clear hm19
 ·skip
  refine sr (wa Z (nt (WC.ret (tr ?_))))
  obtain rfl := (eq_of_some hm21).symm
  refine WQ.ret1 Z Z (fun w hw => ?_)
  exact ⟨(v_r_Loop_Logs, v_r_Loop_Body, v_r_Loop_Outs, X4.2), Z, hw.pick [0, 1, 2, 3, 4] (by decide), h_r_Loop_Logs, h_r_Loop_Body, h_r_Loop_Outs⟩
 refine sk (WQ.then (sr (wm Z ?_)))
 obtain ⟨c23, hm24⟩ := cs hm22; clear hm22
 obtain ⟨p25, hp26⟩ := hF4.lenMap.ix (sz := 1) ln_len c23
 refine wq Z (QV.indexSlice sl36 Z Z Z Z hp26) (wl pl9 Z (fun w hw => CellsAt.one 0 (((Own.karr 0 Z hk hF4) w hw).ele hp26 c23) Z) ?_)
 obtain ⟨x27, hx28, hm29⟩ := bd_some hm24; clear hm24
 refine wq Z (QV.call en24 (ec Z eN) (fun w hw => have h := text_small_w w hx28 (hGl.at hw); h)) (wm Z (wq Z (QV.extract Z Z Z) (wq Z (QV.extract Z Z Z) (wa Z (wa Z (nt (WC.seq (sr (wm Z ?_)))))))))
 obtain ⟨c30, hm31⟩ := cs hm29; clear hm29
 obtain ⟨p32, hp33⟩ := hF4.lenMap.ix (sz := 1) ln_len c30
 refine wq Z (QV.indexSlice sl36 Z Z Z Z hp33) (wl pl9 Z (fun w hw => CellsAt.one 0 (((Own.karr 0 Z hk hF4) w hw).ele hp33 c30) Z) (wq Z (QV.strEql Z Z Z Z) (nt ?_)))
 refine wc Z hm31 (fun h34 hm35 => ?_) (fun h34 hm43 => ?_) <;> clear hm31
 ·skip
  refine WC.seq (WC.dr (m := 18) (by kernel_rfl) (by kernel_rfl) (fun w hw => hw) (zm 0 Z Z (zm 1 Z Z (zp 2 Z Z (fun hG => QV.move Z Z) (zp 3 Z Z (fun hG => QV.nilCheck Z hG) (zp 4 Z Z (fun hG => QV.fieldAddr fd40_0 Z hG) (zp 5 Z Z (fun hG => QV.fieldAddr fd25_1 Z hG) (zp 6 Z Z (fun hG => QV.load pl23 Z hG (Own.cell 1 Z Z)) (zp 7 Z Z (fun hG => QV.lenS Tryd.underlying23 Z hG h_r_Loop_Body) ?_)))))))))
  refine zp 8 Z Z (fun hG => QV.move Z Z) (zp 9 Z Z (fun hG => QV.nilCheck Z hG) (zp 10 Z Z (fun hG => QV.fieldAddr fd40_0 Z hG) (zp 11 Z Z (fun hG => QV.fieldAddr fd25_2 Z hG) (zp 12 Z Z (fun hG => QV.load pl22 Z hG (Own.cell 1 Z Z)) (zp 13 Z Z (fun hG => QV.lenS Tryd.underlying22 Z hG h_r_Loop_Outs) ?_)))))
  obtain ⟨c36, c39, hm40⟩ := cs2 hm35; clear hm35
  refine zp 14 Z Z (fun hG => QV.add Z hG Z hG (c36 hG)) (zp 15 Z Z (fun hG => QV.eql Z hG Z Z) (wz 16 Z Z (QV.pickAnd Z Z Z (fun h => h)) (wz 17 Z Z (QV.assign Z Z) ?_)))
  refine WD.e (by kernel_rfl) ?_
  refine WQ.then (WC.region (wm Z (wm Z (wq Z (QV.nilCheck Z Z) (wf fd40_0 Z (wf fd25_0 Z (wl pl22 Z (Own.cell 1 Z Z) (wm Z (WL.effect Z ?_)))))))))
  refine (EV.buildSlice (by decide) sz_22 (by decide) (by decide) (ps := [(0, .tmp 60)]) (cells := [i_ x27.1]) (ec Z eN) (by kernel_rfl) (fun b38 => ?_))
  refine WL.effect Z ?_
  refine (EV.appendL (enc := icell) (xs := r_Loop_Logs) (ys := [x27.1]) ((r_Loop_Logs ++ [x27.1])) 3 (by decide) ve22 Z Z Z Z Z (Own.blkArr 0 (rows := [x27.1].map icell) Z Z (rows_len icell_len)) icell_len (icell_one _) Z c39.1 c39.2 (fun u41 hu42 => ?_))
  refine wq Z (QV.nilCheck Z Z) (wf fd40_0 Z (wf fd25_0 Z (WL.effect Z ?_)))
  refine (EV.store 2 Z Z Z Z Z Z (vs := [u41]) (SliceLen.cells hu42) sz22 (nl Z) (oc (SliceLen.one hu42) one_nil) ?_)
  refine ns (wm Z (wa Z (nt (WC.ret ?_))))
  obtain rfl := (eq_of_some hm40).symm
  refine WQ.ret1 Z Z (fun w hw => ?_)
  exact ⟨(u41, v_r_Loop_Body, v_r_Loop_Outs, X4.2), Z, hw.pick [1, 2, 3, 4, 5] (by decide), hu42, h_r_Loop_Body, h_r_Loop_Outs⟩
 refine WC.region (wm Z (wm Z (wq Z (QV.nilCheck Z Z) (wf fd40_0 Z (wf fd25_2 Z (wl pl22 Z (Own.cell 1 Z Z) (wm Z (WL.effect Z ?_))))))))
 refine (EV.buildSlice (by decide) sz_22 (by decide) (by decide) (ps := [(0, .tmp 72)]) (cells := [i_ x27.1]) (ec Z eN) (by kernel_rfl) (fun b44 => ?_))
 refine WL.effect Z ?_
 obtain ⟨c45, hm46⟩ := cs hm43; clear hm43
 refine (EV.appendL (enc := icell) (xs := r_Loop_Outs) (ys := [x27.1]) ((r_Loop_Outs ++ [x27.1])) 5 (by decide) ve22 Z Z Z Z Z (Own.blkArr 0 (rows := [x27.1].map icell) Z Z (rows_len icell_len)) icell_len (icell_one _) Z c45.1 c45.2 (fun u47 hu48 => ?_))
 refine wq Z (QV.nilCheck Z Z) (wf fd40_0 Z (wf fd25_2 Z (WL.effect Z ?_)))
 refine (EV.store 2 Z Z Z Z Z Z (vs := [u47]) (SliceLen.cells hu48) sz22 (nl Z) (oc (SliceLen.one hu48) one_nil) ?_)
 refine ns (wm Z (wa Z (nt (WC.ret ?_))))
 obtain rfl := (eq_of_some hm46).symm
 refine WQ.ret1 Z Z (fun w hw => ?_)
 exact ⟨(v_r_Loop_Logs, v_r_Loop_Body, u47, X4.2), Z, hw.pick [1, 2, 3, 4, 5] (by decide), h_r_Loop_Logs, h_r_Loop_Body, hu48⟩
theorem text_Parse_w {s : List UInt8} {r : Lp × Flt} {K0 : World} (hm : text_Parse_m s = some r)  (M : Nat → Prop) (w : World) (hGl : GlbM Tryd.prog M w) (hk : Base M K0 w) (hw0 : Own M w [] w) : Calls Tryd.prog 6 #[strV s] w (fun e w' => ∃ X : Value × Value × Value × World, e = .returned (.tuple #[.agg #[X.1, X.2.1, X.2.2.1], .agg #[.int .i64 r.2.code, .int .i64 r.2.at']]) ∧ Own M w (kn M w.heap.size K0 X.2.2.2 :: []) w' ∧ Arr X.2.2.2 X.1 1 (r.1.logs.map icell) ∧ Arr X.2.2.2 X.2.1 9 (r.1.body.map Stm.cells) ∧ Arr X.2.2.2 X.2.2.1 1 (r.1.outs.map icell)) := by
 unfold text_Parse_m at hm
 refine calls_of_WC (n := 54) (args := [strV s]) Tryd.func6 Z Z (nl Z) ?_ (Own.startK hk hw0)
 refine sr (WL.effect Z ?_)
 refine (EV.alloc (by decide) ze25 (fun b1 => ?_))
 refine WL.effect Z ?_
 refine (EV.alloc (by decide) ze28 (fun b2 => ?_))
 refine ns (wm Z (WL.effect Z ?_))
 obtain ⟨x3, hx4, hm5⟩ := bd_some hm; clear hm
 refine EV.of (C' := Own M w [kn M w.heap.size K0 K0, blk b2 [i_ 0, i_ 0] 28, blk b1 [.slice none 0 0, .slice none 0 0, .slice none 0 0] 25]) (pk [2, 0, 1]) ?_
 refine (EV.callRG (X := Value × World) (R := []) (fun X => X.1) (fun X => []) (fun X => X.2) (fun X => Arr X.2 X.1 1 (x3.map scell)) hGl hk (fun _ h => by cases h; decide) en10 (ec Z (ec Z eN)) (fun M w hG h1 h2 => have h := Split_w hx4  M w hG h1 h2; h) (fun X6 hF6 hle6 => ?_))
 refine wa Z (ns (wm Z (wq Z (QV.lenS Tryd.underlying36 Z Z hF6.lenMap) ?_)))
 obtain ⟨c7, c10, hm11⟩ := cs2 hm5; clear hm5
 refine wq Z (QV.sub Z Z Z Z c7) (wa Z (ns (wq Z (QV.build (ps := []) (cells := [.slice none 0 0, .slice none 0 0, .slice none 0 0]) eN (by kernel_rfl)) (WL.effect Z ?_))))
 refine (EV.boxAgg (by decide) Z Z (fun b9 => ?_))
 refine wa Z (nt (WC.seq (sr (wm Z (wm Z ?_)))))
 have hA12 := subS_sub hF6 c10
 refine wq Z (QV.sliceHd sl36 Z Z hF6.lenMap Z Z c10) (wq Z (QV.lenS Tryd.underlying36 Z Z hA12.lenMap) (wm Z (nt ?_)))
 refine WK.of (fun w hw => hw.vecNil (E := 3) (sz := 1) (enc := icell)) ?_
 refine WK.of (fun w hw => hw.vecNil (E := 47) (sz := 9) (enc := Stm.cells)) ?_
 refine WK.of (fun w hw => hw.vecNil (E := 3) (sz := 1) (enc := icell)) ?_
 obtain ⟨o16, ho17, hm18⟩ := bd_some hm11; clear hm11; obtain ⟨n19, ho20⟩ := lp_some ho17
 refine WC.bloop8 (H2 := [blk b2 [i_ 0, i_ 0] 28, blk b1 [.slice none 0 0, .slice none 0 0, .slice none 0 0] 25]) (τ := [u_ 2 _, u_ 3 _, u_ 4 _, u_ 5 _, u_ 6 _, u_ 18 _, u_ 19 _]) (fun (v15_1 : List Int) (v14_1 : List Stm) (v13_1 : List Int) (x20_1 : Int) (uv15_1 : Value) (uv14_1 : Value) (uv13_1 : Value) (k_1 : World) => [(20, (true, i_ x20_1))]) (fun v15_1 v14_1 v13_1 x20_1 uv15_1 uv14_1 uv13_1 k_1 => [vec uv15_1 3 1 (List.map icell v15_1), vec uv14_1 47 9 (List.map Stm.cells v14_1), vec uv13_1 3 1 (List.map icell v13_1), blk b9 [uv13_1, uv14_1, uv15_1] 40, kn M w.heap.size K0 k_1]) (fun v15_1 v14_1 v13_1 x20_1 uv15_1 uv14_1 uv13_1 k_1 m => iter (text_Parse_L0 x3) m (v15_1, v14_1, v13_1, x20_1) = some o16 ∧ SliceLen uv15_1 v15_1.length ∧ SliceLen uv14_1 v14_1.length ∧ SliceLen uv13_1 v13_1.length ∧ Le X6.2 k_1) (fun v15_1 v14_1 v13_1 x20_1 uv15_1 uv14_1 uv13_1 k_1 => o16 = .go (v15_1, v14_1, v13_1, x20_1) ∧ SliceLen uv15_1 v15_1.length ∧ SliceLen uv14_1 v14_1.length ∧ SliceLen uv13_1 v13_1.length ∧ Le X6.2 k_1) [] [] [] 0 (.slice none 0 0) (.slice none 0 0) (.slice none 0 0) X6.2 n19 ⟨ho20, SliceLen.nil, SliceLen.nil, SliceLen.nil, (Le.refl _)⟩ ⟨Z, Z, Z, Z, Z, Z, Z, Z, trivial⟩ (pk [0, 1, 2, 3, 4, 5, 6]) ?_ ?_
 ·skip
  rintro v15_1 v14_1 v13_1 x20_1 uv15_1 uv14_1 uv13_1 k_1 ⟨rfl, hlv15_1, hlv14_1, hlv13_1, hle_1⟩
  refine WQ.then (WC.seq (sr (wm Z (wm Z ?_))))
  obtain ⟨c21, hm22⟩ := cs hm18; clear hm18
  obtain ⟨p23, hp24⟩ := (hF6.le hle_1).lenMap.ix (sz := 1) ln_len c21
  refine wq Z (QV.indexSlice sl36 Z Z Z Z hp24) (wl pl9 Z (fun w hw => CellsAt.one 0 (((Own.karr 4 Z hk (hF6.le hle_1)) w hw).ele hp24 c21) Z) (wq Z (QV.strNeq Z Z Z Z) (wm Z (gn Z (fun hG => QV.move Z Z) (gn Z (fun hG => QV.nilCheck Z hG) (gn Z (fun hG => QV.fieldAddr fd40_0 Z hG) (gn Z (fun hG => QV.loadAgg ag25 Z Z hG (Own.cellsBlk 3 Z)) ?_)))))))
  obtain ⟨x25, hx26, hm27⟩ := bdG_some hm22; clear hm22
  refine gn Z (fun hG => QV.call en12 (EvAll.cons Z hG eN) (fun w hw => have h := loop_May_w w (hx26 hG) ((Own.vecArr 2 Z) w hw) ((Own.vecArr 1 Z) w hw) ((Own.vecArr 0 Z) w hw); h)) (gn Z (fun hG => QV.not Z hG) (wq Z (QV.pickOr Z Z Z (fun h => notF h)) (nt ?_)))
  refine wc Z hm27 (fun h28 hm29 => ?_) (fun h28 hm30 => ?_) <;> clear hm27
  ·skip
   refine sr (wq Z (QV.build (ps := []) (cells := [.slice none 0 0, .slice none 0 0, .slice none 0 0]) eN (by kernel_rfl)) (wm Z (wq Z (QV.build (ps := [(0, .const (i_ 2)), (1, .tmp 47)]) (cells := [i_ 2, i_ ((ln x3) - 1)]) (ec Z (ec Z eN)) (by kernel_rfl)) (WL.effect Z ?_))))
   refine (EV.store 6 Z Z Z Z Z Z (vs := [.slice none 0 0, .slice none 0 0, .slice none 0 0]) (show Value.cells _ = List.toArray _ from Z) sz25 (nl Z) (oc Z (oc Z (oc Z one_nil))) ?_)
   refine WL.effect Z ?_
   refine (EV.store 5 Z Z Z Z Z Z (vs := [i_ 2, i_ ((ln x3) - 1)]) (show Value.cells _ = List.toArray _ from Z) sz28 (nl Z) (oc Z (oc Z one_nil)) ?_)
   refine nt (WC.ret (tr ?_))
   obtain rfl := (eq_of_some hm29).symm
   refine WQ.retCell2 Z ag25 Z Z (Own.cellsBlk 6 Z) ag28 Z Z (Own.cellsBlk 5 Z) (fun w hw => ?_)
   exact ⟨(.slice none 0 0, .slice none 0 0, .slice none 0 0, k_1), Z, hw.pick [4] (by decide), Arr.nil, Arr.nil, Arr.nil⟩
  refine sk (WQ.then (sr (wm Z (wq Z (QV.nilCheck Z Z) (wf fd40_0 Z (wq Z (QV.loadAgg ag25 Z Z Z (Own.cellsBlk 3 Z)) (wq Z (QV.build (ps := []) (cells := [i_ 0, i_ 0]) eN (by kernel_rfl)) (WL.effect Z ?_))))))))
  refine (EV.store 6 Z Z Z Z Z Z (vs := [uv13_1, uv14_1, uv15_1]) (show Value.cells _ = List.toArray _ from Z) sz25 (nl Z) (oc (SliceLen.one hlv13_1) (oc (SliceLen.one hlv14_1) (oc (SliceLen.one hlv15_1) one_nil))) ?_)
  refine WL.effect Z ?_
  refine (EV.store 5 Z Z Z Z Z Z (vs := [i_ 0, i_ 0]) (show Value.cells _ = List.toArray _ from Z) sz28 (nl Z) (oc Z (oc Z one_nil)) ?_)
  refine nt (WC.ret ?_)
  obtain rfl := (eq_of_some hm30).symm
  refine WK.of (C' := Own M w [kn M w.heap.size K0 k_1, vec uv13_1 3 1 (List.map icell v13_1), vec uv15_1 3 1 (List.map icell v15_1), vec uv14_1 47 9 (List.map Stm.cells v14_1), blk b9 [uv13_1, uv14_1, uv15_1] 40, blk b2 [i_ 0, i_ 0] 28, blk b1 [uv13_1, uv14_1, uv15_1] 25]) (pk [4, 2, 0, 1, 3, 5, 6]) ?_
  refine WK.freeze hk (fun k31 hle31 hr31 => ?_)
  have hA31 := vec_arr hr31
  refine WK.of (C' := Own M w [kn M w.heap.size K0 k31, vec uv14_1 47 9 (List.map Stm.cells v14_1), vec uv15_1 3 1 (List.map icell v15_1), blk b9 [uv13_1, uv14_1, uv15_1] 40, blk b2 [i_ 0, i_ 0] 28, blk b1 [uv13_1, uv14_1, uv15_1] 25]) (pk [0, 2, 1, 3, 4, 5]) ?_
  refine WK.freeze hk (fun k32 hle32 hr32 => ?_)
  have hA32 := vec_arr hr32
  refine WK.freeze hk (fun k33 hle33 hr33 => ?_)
  have hA33 := vec_arr hr33
  refine WQ.retCell2 Z ag25 Z Z (Own.cellsBlk 3 Z) ag28 Z Z (Own.cellsBlk 2 Z) (fun w hw => ?_)
  exact ⟨(uv13_1, uv14_1, uv15_1, k33), Z, hw.pick [0] (by decide), (hA31.le (hle32.trans hle33)), (hA32.le hle33), hA33⟩
 rintro v15_1 v14_1 v13_1 x20_1 uv15_1 uv14_1 uv13_1 k_1 m34 ⟨hI35, hlv15_1, hlv14_1, hlv13_1, hle_1⟩
 obtain ⟨m36, s37, rfl, hm38, hn39⟩ := iter_step hI35; clear hI35; unfold text_Parse_L0 at hm38; simp only at hm38
 refine sr (wq Z (QV.lss Z Z Z Z) (nt (WC.seq ?_)))
 refine wc Z hm38 (fun h40 hm41 => ?_) (fun h40 hm55 => ?_) <;> clear hm38
 ·skip
  refine sk (WQ.then (WC.seq (WC.block (sr (wm Z ?_)))))
  obtain ⟨c42, hm43⟩ := cs hm41; clear hm41
  obtain ⟨p44, hp45⟩ := (hA12.le hle_1).lenMap.ix (sz := 1) ln_len c42
  refine wq Z (QV.indexSlice sl36 Z Z Z Z hp45) (wl pl9 Z (fun w hw => CellsAt.one 0 (((Own.karr 4 Z hk (hA12.le hle_1)) w hw).ele hp45 c42) Z) (wa Z (wa Z (ns (wm Z (wm Z (WL.effect Z ?_)))))))
  obtain ⟨x46, hx47, hm48⟩ := bd_some hm43; clear hm43
  refine EV.of (C' := Own M w [kn M w.heap.size K0 k_1, blk b9 [uv13_1, uv14_1, uv15_1] 40, vec uv13_1 3 1 (List.map icell v13_1), vec uv14_1 47 9 (List.map Stm.cells v14_1), vec uv15_1 3 1 (List.map icell v15_1), blk b2 [i_ 0, i_ 0] 28, blk b1 [.slice none 0 0, .slice none 0 0, .slice none 0 0] 25]) (pk [4, 3, 2, 1, 0, 5, 6]) ?_
  refine (EV.callRG (X := Value × Value × Value × World) (R := [blk b9 [uv13_1, uv14_1, uv15_1] 40, vec uv13_1 3 1 (List.map icell v13_1), vec uv14_1 47 9 (List.map Stm.cells v14_1), vec uv15_1 3 1 (List.map icell v15_1)]) (fun X => .bool x46.1) (fun X => [blk b9 [X.1, X.2.1, X.2.2.1] 40, vec X.1 3 1 (List.map icell x46.2.1), vec X.2.1 47 9 (List.map Stm.cells x46.2.2.1), vec X.2.2.1 3 1 (List.map icell x46.2.2.2)]) (fun X => X.2.2.2) (fun X => SliceLen X.1 (x46.2.1).length ∧ SliceLen X.2.1 (x46.2.2.1).length ∧ SliceLen X.2.2.1 (x46.2.2.2).length) hGl hk (fun _ h => by cases h; decide) en11 (ec Z (ec Z eN)) (fun M w hG h1 h2 => have h := text_reader_line_w hx47 hlv13_1 hlv14_1 hlv15_1 M w hG h1 h2; h) (fun X49 hF49 hle49 => ?_))
  refine wq Z (QV.not Z Z) (nt ?_)
  refine wc Z hm48 (fun h50 hm51 => ?_) (fun h50 hm52 => ?_) <;> clear hm48
  ·skip
   refine sr (wq Z (QV.build (ps := []) (cells := [.slice none 0 0, .slice none 0 0, .slice none 0 0]) eN (by kernel_rfl)) (wm Z (wq Z (QV.build (ps := [(0, .const (i_ 2)), (1, .tmp 30)]) (cells := [i_ 2, i_ x20_1]) (ec Z (ec Z eN)) (by kernel_rfl)) (WL.effect Z ?_))))
   refine (EV.store 6 Z Z Z Z Z Z (vs := [.slice none 0 0, .slice none 0 0, .slice none 0 0]) (show Value.cells _ = List.toArray _ from Z) sz25 (nl Z) (oc Z (oc Z (oc Z one_nil))) ?_)
   refine WL.effect Z ?_
   refine (EV.store 5 Z Z Z Z Z Z (vs := [i_ 2, i_ x20_1]) (show Value.cells _ = List.toArray _ from Z) sz28 (nl Z) (oc Z (oc Z one_nil)) ?_)
   refine nt (WC.ret (kr (tr (tr (kr (tr (tr ?_)))))))
   obtain rfl := up_ret hm51 hn39
   obtain rfl := (eq_of_some hm18).symm
   refine WQ.retCell2 Z ag25 Z Z (Own.cellsBlk 6 Z) ag28 Z Z (Own.cellsBlk 5 Z) (fun w hw => ?_)
   exact ⟨(.slice none 0 0, .slice none 0 0, .slice none 0 0, X49.2.2.2), Z, hw.pick [0] (by decide), Arr.nil, Arr.nil, Arr.nil⟩
  refine sk (WQ.block (WQ.then (WC.region ?_)))
  obtain ⟨c53, hm54⟩ := cs hm52; clear hm52
  refine wq Z (QV.add Z Z Z Z c53) (wm Z (WL.nil ?_))
  exact WQ.again8 x46.2.2.2 x46.2.2.1 x46.2.1 (x20_1 + 1) X49.2.2.1 X49.2.1 X49.1 X49.2.2.2 m36 ⟨up_next hm54 hn39, hF49.2.2, hF49.2.1, hF49.1, (hle_1.trans hle49)⟩ (Nat.lt_succ_self _) ⟨Z, Z, Z, Z, Z, Z, Z, Z, trivial⟩ (pk [4, 3, 2, 1, 0, 5, 6])
 refine WC.exit (te (te (WQ.block_exit ?_)))
 exact WQ.out8 v15_1 v14_1 v13_1 x20_1 uv15_1 uv14_1 uv13_1 k_1 ⟨up_brk hm55 hn39, hlv15_1, hlv14_1, hlv13_1, hle_1⟩ ⟨Z, Z, Z, Z, Z, Z, Z, Z, trivial⟩ (pk [0, 1, 2, 3, 4, 5, 6])
end Go.Proofs.YtaimbkndebaaiacDoor
end
section
namespace Go.Proofs.YtaimbkndebaaiacDoor
open Go.Rd
open TLib TLibR TNum0 TNum TLoop TPar
namespace TR14
end TR14
open TR14
end Go.Proofs.YtaimbkndebaaiacDoor
end
section
namespace Go.Proofs.YtaimbkndebaaiacDoor
open Go.Rd
open TLib TLibR TNum0 TNum TLoop TPar TR14
namespace TR14p
end TR14p
open TR14p
end Go.Proofs.YtaimbkndebaaiacDoor
end
section
namespace Go.Proofs.YtaimbkndebaaiacDoor
open Go.Rd
open TLib TLibR TNum0 TNum TLoop TPar TR14 TR14p
namespace TBld
theorem byt51_9 : ByteT Tryd.prog 51 9 5 := ⟨Tryd.underlying51, Tryd.underlying9, by kernel_rfl⟩
theorem en32 : Go.Rd.Enters Tryd.prog 32 := eT Tryd.func32
theorem fd53_1 : FieldT Tryd.prog 53 1 1 := fT 0 Tryd.underlying53
theorem pl51 : Plain Tryd.prog 51 := ⟨_, Tryd.underlying51, rfl⟩
theorem sz51 : SizeT Tryd.prog 51 1 := by unfold SizeT; kernel_rfl
end TBld
open TBld
theorem strings_Builder_WriteString_w {v_b_buf : Value} {b_b : Nat} {b_addr : Bool} {b_buf s : List UInt8} {r : Int × Unit × Bool × List UInt8} {K0 : World} (hm : strings_Builder_WriteString_m b_addr b_buf s = some r) (h_b_buf : SliceLen v_b_buf b_buf.length) (M : Nat → Prop) (w : World) (hk : Base M K0 w) (hw0 : Own M w [blk b_b [selfV b_addr b_b, v_b_buf] 53, vec v_b_buf 5 1 (List.map bcell b_buf)] w) : Calls Tryd.prog 18 #[.pointer (some (⟨b_b, 0, none⟩)), strV s] w (fun e w' => ∃ X : Value × World, e = .returned (.tuple #[.int .i64 r.1, .nilIface]) ∧ Own M w (kn M w.heap.size K0 X.2 :: [blk b_b [selfV r.2.2.1 b_b, X.1] 53, vec X.1 5 1 (List.map bcell r.2.2.2)]) w' ∧ SliceLen X.1 (r.2.2.2).length) := by
 unfold strings_Builder_WriteString_m at hm
 refine calls_of_WC (n := 19) (args := [.pointer (some (⟨b_b, 0, none⟩)), strV s]) Tryd.func18 Z Z (nl Z) ?_ (Own.startK hk hw0)
 refine sr (wa Z (wa Z (ns (wm Z (WL.effect Z ?_)))))
 obtain ⟨x1, hx2, hm3⟩ := bd_some hm; clear hm
 refine (EV.callR (X := World) (R := [blk b_b [selfV b_addr b_b, v_b_buf] 53, vec v_b_buf 5 1 (List.map bcell b_buf)]) (fun X => .tuple #[]) (fun X => [blk b_b [selfV x1 b_b, v_b_buf] 53, vec v_b_buf 5 1 (List.map bcell b_buf)]) (fun X => X) (fun X => True) hk (fun _ h => by cases h; decide) en32 (ec Z eN) (fun M w h1 h2 => have h := copyCheck_w hx2 h_b_buf M w h1 h2; h) (fun X4 hF4 hle4 => ?_))
 refine ns (wm Z (wm Z (wq Z (QV.nilCheck Z Z) (wf fd53_1 Z (wl pl51 Z (Own.cell 1 Z Z) (wm Z (WL.effect Z ?_)))))))
 obtain ⟨c5, hm6⟩ := cs hm3; clear hm3
 refine (EV.appendStr (xs := b_buf) (l := s) 2 (by decide) byt51_9 Z Z Z Z Z c5 (fun u7 hu8 => ?_))
 refine wq Z (QV.nilCheck Z Z) (wf fd53_1 Z (WL.effect Z ?_))
 refine (EV.store 1 Z Z Z Z Z Z (vs := [u7]) (SliceLen.cells hu8) sz51 (nl Z) (oc (SliceLen.one hu8) one_nil) ?_)
 refine ns (wm Z (wq Z (QV.lenStr Tryd.underlying9 Z Z) (wa Z (wa Z (nt (WC.ret ?_))))))
 obtain rfl := (eq_of_some hm6).symm
 refine WQ.ret2 Z Z Z (fun w hw => ?_)
 exact ⟨(u7, X4), Z, hw.pick [0, 1, 2] (by decide), hu8⟩
theorem strings_Builder_String_w {v_b_buf : Value} {b_b : Nat} {b_addr : Bool} {b_buf r : List UInt8} {K0 : World} (hm : strings_Builder_String_m b_addr b_buf = some r) (h_b_buf : SliceLen v_b_buf b_buf.length) (M : Nat → Prop) (w : World) (hk : Base M K0 w) (hw0 : Own M w [blk b_b [selfV b_addr b_b, v_b_buf] 53, vec v_b_buf 5 1 (List.map bcell b_buf)] w) : Calls Tryd.prog 21 #[.pointer (some (⟨b_b, 0, none⟩))] w (fun e w' => ∃ X : World, e = .returned (strV r) ∧ Own M w (kn M w.heap.size K0 X :: []) w' ∧ True) := by
 unfold strings_Builder_String_m at hm
 refine calls_of_WC (n := 14) (args := [.pointer (some (⟨b_b, 0, none⟩))]) Tryd.func21 Z Z (nl Z) ?_ (Own.startK hk hw0)
 refine sr (wa Z (nt (WC.seq (WC.dr (m := 12) (S := Own M w [kn M w.heap.size K0 K0, blk b_b [selfV b_addr b_b, v_b_buf] 53]) (by kernel_rfl) (by kernel_rfl) (pk [0, 1]) (zm 0 Z Z (wz 1 Z Z (QV.nilCheck Z Z) (zf 2 fd53_1 Z Z (zl 3 pl51 Z Z (Own.cell 1 Z Z) ?_))))))))
 obtain ⟨c1, hm2⟩ := cs hm; clear hm
 refine wz 4 Z Z (QV.sliceData (l := b_buf) Z Z h_b_buf c1) (zm 5 Z Z (wz 6 Z Z (QV.nilCheck Z Z) (zf 7 fd53_1 Z Z (zl 8 pl51 Z Z (Own.cell 1 Z Z) (wz 9 Z Z (QV.lenS Tryd.underlying51 Z Z h_b_buf) ?_)))))
 refine WD.o 10 Z (by kernel_rfl) Z ?_
 refine (EV.unsafeStr (l := b_buf) 2 (by decide) Tryd.underlying74 (by kernel_rfl) Z c1 Z Z Z Z ?_)
 refine WD.b (H' := [kn M w.heap.size K0 K0, blk b_b [selfV b_addr b_b, v_b_buf] 53, gone]) (pk [0, 1, 2]) (pk [0, 1]) ?_
 refine wz 11 Z Z (QV.assign Z Z) ?_
 refine WD.e (by kernel_rfl) ?_
 refine WQ.then (WC.ret ?_)
 obtain rfl := (eq_of_some hm2).symm
 refine WQ.ret1 Z Z (fun w hw => ?_)
 exact ⟨K0, Z, hw.pick [0] (by decide), trivial⟩
end Go.Proofs.YtaimbkndebaaiacDoor
end
section
namespace Go.Proofs.YtaimbkndebaaiacDoor
open Go.Rd
open TLib TLibR TNum0 TNum TLoop TPar TR14 TR14p TBld
namespace TPrt
theorem en17 : Go.Rd.Enters Tryd.prog 17 := eT Tryd.func17
theorem en18 : Go.Rd.Enters Tryd.prog 18 := eT Tryd.func18
theorem en19 : Go.Rd.Enters Tryd.prog 19 := eT Tryd.func19
theorem en20 : Go.Rd.Enters Tryd.prog 20 := eT Tryd.func20
theorem en21 : Go.Rd.Enters Tryd.prog 21 := eT Tryd.func21
theorem en35 : Go.Rd.Enters Tryd.prog 35 := eT Tryd.func35
theorem ze53 : ZeroT Tryd.prog 53 [.pointer none, .slice none 0 0] := by unfold ZeroT; kernel_rfl
end TPrt
open TPrt
theorem text_Print_c1_w {v_b_buf : Value} {b_b : Nat} {s : List UInt8} {b_addr : Bool} {b_buf : List UInt8} {r : Bool × List UInt8} {K0 : World} (hm : text_Print_c1_m s b_addr b_buf = some r) (h_b_buf : SliceLen v_b_buf b_buf.length) (M : Nat → Prop) (w : World) (hk : Base M K0 w) (hw0 : Own M w [blk b_b [selfV b_addr b_b, v_b_buf] 53, vec v_b_buf 5 1 (List.map bcell b_buf)] w) : Calls Tryd.prog 17 #[strV s, .pointer (some (⟨b_b, 0, none⟩))] w (fun e w' => ∃ X : Value × World, e = .returned (.tuple #[]) ∧ Own M w (kn M w.heap.size K0 X.2 :: [blk b_b [selfV r.1 b_b, X.1] 53, vec X.1 5 1 (List.map bcell r.2)]) w' ∧ SliceLen X.1 (r.2).length) := by
 unfold text_Print_c1_m at hm
 refine calls_of_WC (n := 6) (args := [strV s, .pointer (some (⟨b_b, 0, none⟩))]) Tryd.func17 Z Z (nl Z) ?_ (Own.startK hk hw0)
 refine WC.region (wm Z ?_)
 obtain ⟨c1, hm2⟩ := cs hm; clear hm
 refine wq Z (QV.strAddD Z Z Z Z c1) (WL.effect Z ?_)
 obtain ⟨x3, hx4, hm5⟩ := bd_some hm2; clear hm2
 refine (EV.callR (X := Value × World) (R := [blk b_b [selfV b_addr b_b, v_b_buf] 53, vec v_b_buf 5 1 (List.map bcell b_buf)]) (fun X => .tuple #[i_ x3.1, .nilIface]) (fun X => [blk b_b [selfV x3.2.2.1 b_b, X.1] 53, vec X.1 5 1 (List.map bcell x3.2.2.2)]) (fun X => X.2) (fun X => SliceLen X.1 (x3.2.2.2).length) hk (fun _ h => by cases h; decide) en18 (ec Z (ec Z eN)) (fun M w h1 h2 => have h := strings_Builder_WriteString_w hx4 h_b_buf M w h1 h2; h) (fun X6 hF6 hle6 => ?_))
 refine WL.nil ?_
 obtain rfl := (eq_of_some hm5).symm
 refine WQ.end0 Z (fun w hw => ?_)
 exact ⟨(X6.1, X6.2), Z, hw.pick [0, 1, 2] (by decide), hF6⟩
theorem text_ref_w {r_ : Rf} {r : List UInt8} (w : World) (hm : text_ref_m r_ = some r) (hGl0 : Glb Tryd.prog w) : Calls Tryd.prog 35 #[.agg #[.int .i64 r_.st, .int .i64 r_.bk]] w (fun e w' => e = .returned (strV r) ∧ Grow w w') := by
 unfold text_ref_m at hm
 have hk := Base.rfl (w := w)
 refine calls_of_WC (n := 18) (args := [.agg #[i_ r_.st, i_ r_.bk]]) Tryd.func35 Z Z (nl Z) ?_ (Own.startK hk (Own.start w))
 have hGl := GlbM.of hGl0
 refine sr (WL.effect Z ?_)
 refine (EV.boxAgg (by decide) Z Z (fun b1 => ?_))
 refine wa Z (ns (wf fd45_0 Z (wl pl3 Z (Own.cell 0 Z Z) ?_)))
 obtain ⟨x2, hx3, hm4⟩ := bd_some hm; clear hm
 refine wq Z (QV.call en19 (ec Z eN) (fun w hw => have h := Itoa_w w hx3 (hGl.at hw); h)) ?_
 obtain ⟨c5, hm6⟩ := cs hm4; clear hm4
 refine wq Z (QV.strAddD Z Z Z Z c5) (wa Z (nt (WC.seq (sr (wf fd45_1 Z (wl pl3 Z (Own.cell 0 Z Z) (wq Z (QV.gtr Z Z Z Z) (nt ?_))))))))
 refine wc Z hm6 (fun h7 hm8 => ?_) (fun h7 hm16 => ?_) <;> clear hm6
 ·skip
  refine WC.region (wm Z (wf fd45_1 Z (wl pl3 Z (Own.cell 0 Z Z) ?_)))
  obtain ⟨x9, hx10, hm11⟩ := bd_some hm8; clear hm8
  refine wq Z (QV.call en19 (ec Z eN) (fun w hw => have h := Itoa_w w hx10 (hGl.at hw); h)) ?_
  obtain ⟨c12, c14, hm15⟩ := cs2 hm11; clear hm11
  refine wq Z (QV.strAddD Z Z Z Z c12) (wq Z (QV.strAddD Z Z Z Z c14) (wa Z (ns (wm Z (wa Z (nt (WC.ret ?_)))))))
  obtain rfl := (eq_of_some hm15).symm
  exact WQ.ret1 Z Z fun w hw => kg hw
 refine sk (WQ.then (sr (wm Z (wa Z (nt (WC.ret ?_))))))
 obtain rfl := (eq_of_some hm16).symm
 exact WQ.ret1 Z Z fun w hw => kg hw
theorem text_line_w {s : Stm} {r : List UInt8} (w : World) (hm : text_line_m s = some r) (hGl0 : Glb Tryd.prog w) : Calls Tryd.prog 20 #[.agg #[.int .i64 s.op, .int .i64 s.a.st, .int .i64 s.a.bk, .int .i64 s.b.st, .int .i64 s.b.bk, .int .i64 s.ar, .int .i64 s.sp, .int .i64 s.pl, .int .i64 s.n]] w (fun e w' => e = .returned (strV r) ∧ Grow w w') := by
 unfold text_line_m at hm
 have hk := Base.rfl (w := w)
 refine calls_of_WC (n := 57) (args := [.agg #[i_ s.op, i_ s.a.st, i_ s.a.bk, i_ s.b.st, i_ s.b.bk, i_ s.ar, i_ s.sp, i_ s.pl, i_ s.n]]) Tryd.func20 Z Z (nl Z) ?_ (Own.startK hk (Own.start w))
 have hGl := GlbM.of hGl0
 refine sr (WL.effect Z ?_)
 refine (EV.boxAgg (by decide) Z Z (fun b1 => ?_))
 refine wa Z (nt (WC.seq (WC.dr (m := 14) (S := Own noM w [kn noM w.heap.size w w, blk b1 s.cells 47]) (by kernel_rfl) (by kernel_rfl) (pk [1, 0]) (zf 0 fd47_3 Z Z (zl 1 pl3 Z Z (Own.cell 1 Z Z) ?_)))))
 obtain ⟨x2, hx3, hm4⟩ := bd_some hm; clear hm
 refine wz 2 Z Z (QV.call en19 (ec Z eN) (fun w hw => have h := Itoa_w w hx3 (hGl.at hw); h)) ?_
 obtain ⟨c5, hm6⟩ := cs hm4; clear hm4
 refine wz 3 Z Z (QV.strAddD Z Z Z Z c5) (zf 4 fd47_4 Z Z (zl 5 pl3 Z Z (Own.cell 1 Z Z) ?_))
 obtain ⟨x7, hx8, hm9⟩ := bd_some hm6; clear hm6
 refine wz 6 Z Z (QV.call en19 (ec Z eN) (fun w hw => have h := Itoa_w w hx8 (hGl.at hw); h)) ?_
 obtain ⟨c10, c12, hm13⟩ := cs2 hm9; clear hm9
 refine wz 7 Z Z (QV.strAddD Z Z Z Z c10) (wz 8 Z Z (QV.strAddD Z Z Z Z c12) (zf 9 fd47_5 Z Z (zl 10 pl3 Z Z (Own.cell 1 Z Z) ?_)))
 obtain ⟨x14, hx15, hm16⟩ := bd_some hm13; clear hm13
 refine wz 11 Z Z (QV.call en19 (ec Z eN) (fun w hw => have h := Itoa_w w hx15 (hGl.at hw); h)) ?_
 obtain ⟨c17, hm18⟩ := cs hm16; clear hm16
 refine wz 12 Z Z (QV.strAddD Z Z Z Z c17) (wz 13 Z Z (QV.assign Z Z) ?_)
 refine WD.e (by kernel_rfl) ?_
 refine WQ.then (WC.seq (sr (wf fd47_0 Z (wl pl3 Z (Own.cell 0 Z Z) (nt (WC.block (sr (wq Z (QV.eql Z Z Z Z) (wa Z (nt ?_))))))))))
 refine wc Z hm18 (fun h19 hm20 => ?_) (fun h19 hm26 => ?_) <;> clear hm18
 ·skip
  refine sr (wf fd47_6 Z (wl pl2 Z (Own.cell 0 Z Z) ?_))
  obtain ⟨x21, hx22, hm23⟩ := bd_some hm20; clear hm20
  refine wq Z (QV.call en34 (ec Z eN) (fun w hw => have h := text_number_w w hx22 (hGl.at hw); h)) ?_
  obtain ⟨c24, hm25⟩ := cs hm23; clear hm23
  refine wq Z (QV.strAddD Z Z Z Z c24) (wa Z (nt (WC.ret (kr (tr ?_)))))
  obtain rfl := (eq_of_some hm25).symm
  exact WQ.ret1 Z Z fun w hw => kg hw
 refine sr (wq Z (QV.eql Z Z Z Z) (wa Z (nt ?_)))
 refine wc Z hm26 (fun h27 hm28 => ?_) (fun h27 hm29 => ?_) <;> clear hm26
 ·skip
  refine sr (wa Z (nt (WC.ret (kr (tr ?_)))))
  obtain rfl := (eq_of_some hm28).symm
  exact WQ.ret1 Z Z fun w hw => kg hw
 refine sr (wq Z (QV.eql Z Z Z Z) (wa Z (nt ?_)))
 refine wc Z hm29 (fun h30 hm31 => ?_) (fun h30 hm34 => ?_) <;> clear hm29
 ·skip
  refine sr (wm Z ?_)
  obtain ⟨c32, hm33⟩ := cs hm31; clear hm31
  refine wq Z (QV.strAddD Z Z Z Z c32) (wa Z (nt (WC.ret (kr (tr ?_)))))
  obtain rfl := (eq_of_some hm33).symm
  exact WQ.ret1 Z Z fun w hw => kg hw
 refine sr (wq Z (QV.eql Z Z Z Z) (wa Z (nt ?_)))
 refine wc Z hm34 (fun h35 hm36 => ?_) (fun h35 hm46 => ?_) <;> clear hm34
 ·skip
  refine sr (wm Z ?_)
  obtain ⟨c37, c39, hm40⟩ := cs2 hm36; clear hm36
  refine wq Z (QV.strAddD Z Z Z Z c37) (wq Z (QV.strAddD Z Z Z Z c39) (wf fd47_1 Z (wq Z (QV.loadAgg ag45 Z Z Z (fun w hw => (Own.cellsBlk 0 Z w hw).sub 1 2 Z)) ?_)))
  obtain ⟨x41, hx42, hm43⟩ := bd_some hm40; clear hm40
  refine wq Z (QV.call en35 (ec Z eN) (fun w hw => have h := text_ref_w w hx42 (hGl.at hw); h)) ?_
  obtain ⟨c44, hm45⟩ := cs hm43; clear hm43
  refine wq Z (QV.strAddD Z Z Z Z c44) (wa Z (nt (WC.ret (kr (tr ?_)))))
  obtain rfl := (eq_of_some hm45).symm
  exact WQ.ret1 Z Z fun w hw => kg hw
 refine sk (WQ.block (WQ.then (WC.seq (WC.dr (m := 18) (S := Own noM w [kn noM w.heap.size w w, blk b1 s.cells 47]) (by kernel_rfl) (by kernel_rfl) (pk [1, 0]) ?_))))
 refine WD.toL 0 (by kernel_rfl) ?_
 refine WD.qL 1 0 2 Z (by kernel_rfl) Z Z Z (QV.fieldAddr fd47_0 Z Z) ?_
 refine WD.qL 2 2 6 Z (by kernel_rfl) Z Z Z (QV.load pl3 Z Z (Own.cell 1 Z Z)) ?_
 obtain ⟨c47, c49, hm50⟩ := cs2 hm46; clear hm46
 refine WD.qL 3 6 14 Z (by kernel_rfl) Z Z Z (QV.sub Z Z Z Z c47) ?_
 refine WD.qL 4 14 30 Z (by kernel_rfl) Z Z Z (QV.sub Z Z Z Z c49) ?_
 refine WD.qL 8 30 286 Z (by kernel_rfl) Z Z Z (QV.fieldAddr fd47_1 Z Z) ?_
 refine WD.qL 9 286 798 Z (by kernel_rfl) Z Z Z (QV.loadAgg ag45 Z Z Z (fun w hw => (Own.cellsBlk 1 Z w hw).sub 1 2 Z)) ?_
 refine WD.qL 13 798 8990 Z (by kernel_rfl) Z Z Z (QV.fieldAddr fd47_2 Z Z) ?_
 refine WD.qL 14 8990 25374 Z (by kernel_rfl) Z Z Z (QV.loadAgg ag45 Z Z Z (fun w hw => (Own.cellsBlk 1 Z w hw).sub 3 2 Z)) ?_
 refine WD.oL 0 25374 25375 Z (by kernel_rfl) Z ?_
 obtain ⟨x51, hx52, hm53⟩ := bd_some hm50; clear hm50
 refine EV.of (C' := Own noM w [kn noM w.heap.size w w, blk b1 s.cells 47]) (pk [1, 0]) ?_
 refine (EV.callRG (X := Value × World) (R := []) (fun X => X.1) (fun X => []) (fun X => X.2) (fun X => Arr X.2 X.1 1 (x51.map scell)) hGl hk (fun _ h => by cases h; decide) en36 (ec Z eN) (fun M w hG h1 h2 => have h := Fields_w hx52  M w hG h1 h2; h) (fun X54 hF54 hle54 => ?_))
 refine WD.b (H' := [kn noM w.heap.size w X54.2, blk b1 s.cells 47]) (pk [0, 1]) (fun w hw => Own.forget hle54 (Le.refl _) (hw.pick [0, 1] (by decide))) ?_
 obtain ⟨c55, hm56⟩ := cs hm53; clear hm53
 obtain ⟨p57, hp58⟩ := hF54.lenMap.ix (sz := 1) ln_len c55
 refine WD.qL 5 25375 25407 Z (by kernel_rfl) Z Z Z (QV.indexSlice sl36 Z Z Z Z hp58) ?_
 refine WD.qL 6 25407 25471 Z (by kernel_rfl) Z Z Z (QV.load pl9 Z Z (fun w hw => CellsAt.one 0 (((Own.karr 0 Z hk hF54) w hw).ele hp58 c55) Z)) ?_
 obtain ⟨c59, hm60⟩ := cs hm56; clear hm56
 refine WD.qL 7 25471 25599 Z (by kernel_rfl) Z Z Z (QV.strAddD Z Z Z Z c59) ?_
 obtain ⟨x61, hx62, hm63⟩ := bd_some hm60; clear hm60
 refine WD.qL 10 25599 26623 Z (by kernel_rfl) Z Z Z (QV.call en35 (ec Z eN) (fun w hw => have h := text_ref_w w hx62 (hGl.at hw); h)) ?_
 obtain ⟨c64, c66, hm67⟩ := cs2 hm63; clear hm63
 refine WD.qL 11 26623 28671 Z (by kernel_rfl) Z Z Z (QV.strAddD Z Z Z Z c64) ?_
 refine WD.qL 12 28671 32767 Z (by kernel_rfl) Z Z Z (QV.strAddD Z Z Z Z c66) ?_
 obtain ⟨x68, hx69, hm70⟩ := bd_some hm67; clear hm67
 refine WD.qL 15 32767 65535 Z (by kernel_rfl) Z Z Z (QV.call en35 (ec Z eN) (fun w hw => have h := text_ref_w w hx69 (hGl.at hw); h)) ?_
 obtain ⟨c71, hm72⟩ := cs hm70; clear hm70
 refine WD.qL 16 65535 131071 Z (by kernel_rfl) Z Z Z (QV.strAddD Z Z Z Z c71) ?_
 refine WD.qL 17 131071 262143 Z (by kernel_rfl) Z Z Z (QV.assign Z Z) ?_
 refine WD.eL (by kernel_rfl) ?_
 refine WQ.then (WC.ret ?_)
 obtain rfl := (eq_of_some hm72).symm
 exact WQ.ret1 Z Z fun w hw => kg hw
theorem text_Print_w {v_l_logs v_l_body v_l_outs : Value} {l : Lp} {r : List UInt8 × Int} (w : World) (hm : text_Print_m l = some r) (h_l_logs : Arr w v_l_logs 1 (l.logs.map icell)) (h_l_body : Arr w v_l_body 9 (l.body.map Stm.cells)) (h_l_outs : Arr w v_l_outs 1 (l.outs.map icell)) (hGl0 : Glb Tryd.prog w) : Calls Tryd.prog 9 #[.agg #[v_l_logs, v_l_body, v_l_outs]] w (fun e w' => e = .returned (.tuple #[strV r.1, .int .i64 r.2]) ∧ Grow w w') := by
 unfold text_Print_m at hm
 have hk := Base.rfl (w := w)
 refine calls_of_WC (n := 55) (args := [.agg #[v_l_logs, v_l_body, v_l_outs]]) Tryd.func9 Z Z (nl Z) ?_ (Own.startK hk (Own.start w))
 have hGl := GlbM.of hGl0
 refine sr (WL.effect Z ?_)
 refine (EV.boxAgg (by decide) Z Z (fun b1 => ?_))
 refine wa Z (wa Z (nt (WC.seq (sr (wq Z (QV.loadAgg ag25 Z Z Z (Own.cellsBlk 0 Z)) ?_)))))
 obtain ⟨x2, hx3, hm4⟩ := bd_some hm; clear hm
 refine wq Z (QV.call en12 (ec Z eN) (fun w hw => have h := loop_May_w w hx3 ((Own.karr 1 Z hk h_l_logs) w hw) ((Own.karr 1 Z hk h_l_body) w hw) ((Own.karr 1 Z hk h_l_outs) w hw); h)) (wq Z (QV.not Z Z) (nt ?_))
 refine wc Z hm4 (fun h5 hm6 => ?_) (fun h5 hm7 => ?_) <;> clear hm4
 ·skip
  refine sr (wa Z (wa Z (nt (WC.ret (tr ?_)))))
  obtain rfl := (eq_of_some hm6).symm
  exact WQ.ret2 Z Z Z fun w hw => kg hw
 refine sk (WQ.then (sr (WL.effect Z ?_)))
 refine (EV.alloc (by decide) ze53 (fun b8 => ?_))
 refine WK.of (C' := Own noM w [blk b8 [selfV false b8, .slice none 0 0] 53, blk b1 [v_l_logs, v_l_body, v_l_outs] 25, kn noM w.heap.size w w]) (fun w hw => hw) ?_
 refine ns (wq Z (QV.makeFunc (ec Z eN)) (wa Z (nt (WC.seq (sr (wf fd25_0 Z (wl pl22 Z (Own.cell 1 Z Z) (wq Z (QV.lenS Tryd.underlying22 Z Z h_l_logs.lenMap) (wm Z (nt ?_))))))))))
 refine WK.of (fun w hw => hw.vecNil (E := 5) (sz := 1) (enc := bcell)) ?_
 obtain ⟨o10, ho11, hm12⟩ := bd_some hm7; clear hm7; obtain ⟨n13, ho14⟩ := lp_some ho11
 refine WC.bloop5 (H2 := [blk b1 [v_l_logs, v_l_body, v_l_outs] 25]) (τ := [u_ 1 _, u_ 4 _, u_ 5 _, u_ 17 _, u_ 18 _]) (fun (v9_1 : List UInt8) (b8c0_1 : Bool) (x19_1 : Int) (uv9_1 : Value) (k_1 : World) => [(19, (true, i_ x19_1))]) (fun v9_1 b8c0_1 x19_1 uv9_1 k_1 => [vec uv9_1 5 1 (List.map bcell v9_1), blk b8 [selfV b8c0_1 b8, uv9_1] 53, kn noM w.heap.size w k_1]) (fun v9_1 b8c0_1 x19_1 uv9_1 k_1 m => iter (text_Print_L0 l) m (v9_1, b8c0_1, x19_1) = some o10 ∧ SliceLen uv9_1 v9_1.length ∧ Le w k_1) (fun v9_1 b8c0_1 x19_1 uv9_1 k_1 => o10 = .go (v9_1, b8c0_1, x19_1) ∧ SliceLen uv9_1 v9_1.length ∧ Le w k_1) [] false 0 (.slice none 0 0) w n13 ⟨ho14, SliceLen.nil, (Le.refl _)⟩ ⟨Z, Z, Z, Z, Z, Z, trivial⟩ (pk [0, 1, 3, 2]) ?_ ?_
 ·skip
  rintro v9_1 b8c0_1 x19_1 uv9_1 k_1 ⟨rfl, hlv9_1, hle_1⟩
  refine WQ.then (WC.seq (sr (wf fd25_1 Z (wl pl23 Z (Own.cell 3 Z Z) (wq Z (QV.lenS Tryd.underlying23 Z Z (h_l_body.le hle_1).lenMap) (wm Z (nt ?_)))))))
  obtain ⟨o15, ho16, hm17⟩ := bd_some hm12; clear hm12; obtain ⟨n18, ho19⟩ := lp_some ho16
  refine WC.bloop5 (H2 := [blk b1 [v_l_logs, v_l_body, v_l_outs] 25]) (τ := [u_ 1 _, u_ 4 _, u_ 5 _, u_ 30 _, u_ 31 _]) (fun (v9_2 : List UInt8) (b8c0_2 : Bool) (x32_2 : Int) (uv9_2 : Value) (k_2 : World) => [(32, (true, i_ x32_2))]) (fun v9_2 b8c0_2 x32_2 uv9_2 k_2 => [vec uv9_2 5 1 (List.map bcell v9_2), blk b8 [selfV b8c0_2 b8, uv9_2] 53, kn noM w.heap.size w k_2]) (fun v9_2 b8c0_2 x32_2 uv9_2 k_2 m => iter (text_Print_L2 l) m (v9_2, b8c0_2, x32_2) = some o15 ∧ SliceLen uv9_2 v9_2.length ∧ Le k_1 k_2) (fun v9_2 b8c0_2 x32_2 uv9_2 k_2 => o15 = .go (v9_2, b8c0_2, x32_2) ∧ SliceLen uv9_2 v9_2.length ∧ Le k_1 k_2) v9_1 b8c0_1 0 uv9_1 k_1 n18 ⟨ho19, hlv9_1, (Le.refl _)⟩ ⟨Z, Z, Z, Z, Z, Z, trivial⟩ (pk [0, 1, 2, 3]) ?_ ?_
  ·skip
   rintro v9_2 b8c0_2 x32_2 uv9_2 k_2 ⟨rfl, hlv9_2, hle_2⟩
   refine WQ.then (WC.seq (sr (wf fd25_2 Z (wl pl22 Z (Own.cell 3 Z Z) (wq Z (QV.lenS Tryd.underlying22 Z Z (h_l_outs.le (hle_1.trans hle_2)).lenMap) (wm Z (nt ?_)))))))
   obtain ⟨o20, ho21, hm22⟩ := bd_some hm17; clear hm17; obtain ⟨n23, ho24⟩ := lp_some ho21
   refine WC.bloop5 (H2 := [blk b1 [v_l_logs, v_l_body, v_l_outs] 25]) (τ := [u_ 4 _, u_ 5 _, u_ 42 _, u_ 43 _]) (fun (v9_3 : List UInt8) (b8c0_3 : Bool) (x44_3 : Int) (uv9_3 : Value) (k_3 : World) => [(44, (true, i_ x44_3))]) (fun v9_3 b8c0_3 x44_3 uv9_3 k_3 => [vec uv9_3 5 1 (List.map bcell v9_3), blk b8 [selfV b8c0_3 b8, uv9_3] 53, kn noM w.heap.size w k_3]) (fun v9_3 b8c0_3 x44_3 uv9_3 k_3 m => iter (text_Print_L4 l) m (v9_3, b8c0_3, x44_3) = some o20 ∧ SliceLen uv9_3 v9_3.length ∧ Le k_2 k_3) (fun v9_3 b8c0_3 x44_3 uv9_3 k_3 => o20 = .go (v9_3, b8c0_3, x44_3) ∧ SliceLen uv9_3 v9_3.length ∧ Le k_2 k_3) v9_2 b8c0_2 0 uv9_2 k_2 n23 ⟨ho24, hlv9_2, (Le.refl _)⟩ ⟨Z, Z, Z, Z, Z, trivial⟩ (pk [0, 1, 2, 3]) ?_ ?_
   ·skip
    rintro v9_3 b8c0_3 x44_3 uv9_3 k_3 ⟨rfl, hlv9_3, hle_3⟩
    refine WQ.then (sr (WL.effect Z ?_))
    obtain ⟨x25, hx26, hm27⟩ := bd_some hm22; clear hm22
    refine EV.of (C' := Own noM w [kn noM w.heap.size w k_3, blk b8 [selfV b8c0_3 b8, uv9_3] 53, vec uv9_3 5 1 (List.map bcell v9_3), blk b1 [v_l_logs, v_l_body, v_l_outs] 25]) (pk [2, 1, 0, 3]) ?_
    refine (EV.callR (X := World) (R := [blk b8 [selfV b8c0_3 b8, uv9_3] 53, vec uv9_3 5 1 (List.map bcell v9_3)]) (fun X => strV x25) (fun X => []) (fun X => X) (fun X => True) hk (fun _ h => by cases h; decide) en21 (ec Z eN) (fun M w h1 h2 => have h := strings_Builder_String_w hx26 hlv9_3 M w h1 h2; h) (fun X28 hF28 hle28 => ?_))
    refine wa Z (wa Z (nt (WC.ret ?_)))
    obtain rfl := (eq_of_some hm27).symm
    exact WQ.ret2 Z Z Z fun w hw => kg hw
   rintro v9_3 b8c0_3 x44_3 uv9_3 k_3 m29 ⟨hI30, hlv9_3, hle_3⟩
   obtain ⟨m31, s32, rfl, hm33, hn34⟩ := iter_step hI30; clear hI30; unfold text_Print_L4 at hm33; simp only at hm33
   refine sr (wq Z (QV.lss Z Z Z Z) (nt (WC.seq ?_)))
   refine wc Z hm33 (fun h35 hm36 => ?_) (fun h35 hm52 => ?_) <;> clear hm33
   ·skip
    refine sk (WQ.then (WC.seq (WC.block (sr ?_))))
    obtain ⟨c37, hm38⟩ := cs hm36; clear hm36
    obtain ⟨p39, hp40⟩ := (h_l_outs.le ((hle_1.trans hle_2).trans hle_3)).lenMap.ix (sz := 1) ln_len c37
    refine wq Z (QV.indexSlice sl22 Z Z Z Z hp40) (wl pl3 Z (fun w hw => CellsAt.one 0 (((Own.karr 2 Z hk (h_l_outs.le ((hle_1.trans hle_2).trans hle_3))) w hw).ele hp40 c37) Z) (wa Z (nr (wm Z (wm Z ?_)))))
    obtain ⟨x41, hx42, hm43⟩ := bd_some hm38; clear hm38
    refine wq Z (QV.call en19 (ec Z eN) (fun w hw => have h := Itoa_w w hx42 (hGl.at hw); h)) ?_
    obtain ⟨c44, hm45⟩ := cs hm43; clear hm43
    refine wq Z (QV.strAddD Z Z Z Z c44) (WL.effect Z ?_)
    obtain ⟨x46, hx47, hm48⟩ := bd_some hm45; clear hm45
    refine EV.of (C' := Own noM w [kn noM w.heap.size w k_3, blk b8 [selfV b8c0_3 b8, uv9_3] 53, vec uv9_3 5 1 (List.map bcell v9_3), blk b1 [v_l_logs, v_l_body, v_l_outs] 25]) (pk [2, 1, 0, 3]) ?_
    refine (EV.callRV (X := Value × World) (R := [blk b8 [selfV b8c0_3 b8, uv9_3] 53, vec uv9_3 5 1 (List.map bcell v9_3)]) (fun X => .tuple #[]) (fun X => [blk b8 [selfV x46.1 b8, X.1] 53, vec X.1 5 1 (List.map bcell x46.2)]) (fun X => X.2) (fun X => SliceLen X.1 (x46.2).length) hk (fun _ h => by cases h; decide) en17 Z Z (ec Z eN) (fun M w h1 h2 => have h := text_Print_c1_w hx47 hlv9_3 M w h1 h2; h) (fun X49 hF49 hle49 => ?_))
    refine WL.nil (WQ.block (WQ.then (WC.region ?_)))
    obtain ⟨c50, hm51⟩ := cs hm48; clear hm48
    refine wq Z (QV.add Z Z Z Z c50) (wm Z (WL.nil ?_))
    exact WQ.again5 x46.2 x46.1 (x44_3 + 1) X49.1 X49.2 m31 ⟨up_next hm51 hn34, hF49, (hle_3.trans hle49)⟩ (Nat.lt_succ_self _) ⟨Z, Z, Z, Z, Z, trivial⟩ (pk [2, 1, 0, 3])
   refine WC.exit (te (te (WQ.block_exit ?_)))
   exact WQ.out5 v9_3 b8c0_3 x44_3 uv9_3 k_3 ⟨up_brk hm52 hn34, hlv9_3, hle_3⟩ ⟨Z, Z, Z, Z, Z, trivial⟩ (pk [0, 1, 2, 3])
  rintro v9_2 b8c0_2 x32_2 uv9_2 k_2 m53 ⟨hI54, hlv9_2, hle_2⟩
  obtain ⟨m55, s56, rfl, hm57, hn58⟩ := iter_step hI54; clear hI54; unfold text_Print_L2 at hm57; simp only at hm57
  refine sr (wq Z (QV.lss Z Z Z Z) (nt (WC.seq ?_)))
  refine wc Z hm57 (fun h59 hm60 => ?_) (fun h59 hm75 => ?_) <;> clear hm57
  ·skip
   refine sk (WQ.then (WC.seq (WC.block (sr ?_))))
   obtain ⟨c61, hm62⟩ := cs hm60; clear hm60
   obtain ⟨p63, hp64⟩ := (h_l_body.le (hle_1.trans hle_2)).lenMap.ix (sz := 9) ln_len c61
   refine wq Z (QV.indexSlice sl23 Z Z Z Z hp64) (wq Z (QV.loadAgg ag47 Z Z Z (fun w hw => ((Own.karr 2 Z hk (h_l_body.le (hle_1.trans hle_2))) w hw).ele hp64 c61)) (WL.effect Z ?_))
   refine (EV.alloc (by decide) ze47 (fun b65 => ?_))
   refine WL.effect Z ?_
   refine (EV.store 0 Z Z Z Z Z Z (vs := (Stm.cells (ele l.body x32_2))) (show Value.cells _ = List.toArray _ from Z) sz47 (nl Z) (oc Z (oc Z (oc Z (oc Z (oc Z (oc Z (oc Z (oc Z (oc Z one_nil))))))))) ?_)
   refine nr (wm Z (wq Z (QV.loadAgg ag47 Z Z Z (Own.cellsBlk 0 Z)) ?_))
   obtain ⟨x66, hx67, hm68⟩ := bd_some hm62; clear hm62
   refine wq Z (QV.call en20 (ec Z eN) (fun w hw => have h := text_line_w w hx67 (hGl.at hw); h)) (WL.effect Z ?_)
   obtain ⟨x69, hx70, hm71⟩ := bd_some hm68; clear hm68
   refine EV.of (C' := Own noM w [kn noM w.heap.size w k_2, blk b8 [selfV b8c0_2 b8, uv9_2] 53, vec uv9_2 5 1 (List.map bcell v9_2), blk b65 (Stm.cells (ele l.body x32_2)) 47, blk b1 [v_l_logs, v_l_body, v_l_outs] 25]) (pk [3, 2, 1, 0, 4]) ?_
   refine (EV.callRV (X := Value × World) (R := [blk b8 [selfV b8c0_2 b8, uv9_2] 53, vec uv9_2 5 1 (List.map bcell v9_2)]) (fun X => .tuple #[]) (fun X => [blk b8 [selfV x69.1 b8, X.1] 53, vec X.1 5 1 (List.map bcell x69.2)]) (fun X => X.2) (fun X => SliceLen X.1 (x69.2).length) hk (fun _ h => by cases h; decide) en17 Z Z (ec Z eN) (fun M w h1 h2 => have h := text_Print_c1_w hx70 hlv9_2 M w h1 h2; h) (fun X72 hF72 hle72 => ?_))
   refine WL.nil (WQ.block (WQ.then (WC.region ?_)))
   obtain ⟨c73, hm74⟩ := cs hm71; clear hm71
   refine wq Z (QV.add Z Z Z Z c73) (wm Z (WL.nil ?_))
   exact WQ.again5 x69.2 x69.1 (x32_2 + 1) X72.1 X72.2 m55 ⟨up_next hm74 hn58, hF72, (hle_2.trans hle72)⟩ (Nat.lt_succ_self _) ⟨Z, Z, Z, Z, Z, Z, trivial⟩ (pk [2, 1, 0, 4])
  refine WC.exit (te (te (WQ.block_exit ?_)))
  exact WQ.out5 v9_2 b8c0_2 x32_2 uv9_2 k_2 ⟨up_brk hm75 hn58, hlv9_2, hle_2⟩ ⟨Z, Z, Z, Z, Z, Z, trivial⟩ (pk [0, 1, 2, 3])
 rintro v9_1 b8c0_1 x19_1 uv9_1 k_1 m76 ⟨hI77, hlv9_1, hle_1⟩
 obtain ⟨m78, s79, rfl, hm80, hn81⟩ := iter_step hI77; clear hI77; unfold text_Print_L0 at hm80; simp only at hm80
 refine sr (wq Z (QV.lss Z Z Z Z) (nt (WC.seq ?_)))
 refine wc Z hm80 (fun h82 hm83 => ?_) (fun h82 hm99 => ?_) <;> clear hm80
 ·skip
  refine sk (WQ.then (WC.seq (WC.block (sr ?_))))
  obtain ⟨c84, hm85⟩ := cs hm83; clear hm83
  obtain ⟨p86, hp87⟩ := (h_l_logs.le hle_1).lenMap.ix (sz := 1) ln_len c84
  refine wq Z (QV.indexSlice sl22 Z Z Z Z hp87) (wl pl3 Z (fun w hw => CellsAt.one 0 (((Own.karr 2 Z hk (h_l_logs.le hle_1)) w hw).ele hp87 c84) Z) (wa Z (nr (wm Z (wm Z ?_)))))
  obtain ⟨x88, hx89, hm90⟩ := bd_some hm85; clear hm85
  refine wq Z (QV.call en19 (ec Z eN) (fun w hw => have h := Itoa_w w hx89 (hGl.at hw); h)) ?_
  obtain ⟨c91, hm92⟩ := cs hm90; clear hm90
  refine wq Z (QV.strAddD Z Z Z Z c91) (WL.effect Z ?_)
  obtain ⟨x93, hx94, hm95⟩ := bd_some hm92; clear hm92
  refine EV.of (C' := Own noM w [kn noM w.heap.size w k_1, blk b8 [selfV b8c0_1 b8, uv9_1] 53, vec uv9_1 5 1 (List.map bcell v9_1), blk b1 [v_l_logs, v_l_body, v_l_outs] 25]) (pk [2, 1, 0, 3]) ?_
  refine (EV.callRV (X := Value × World) (R := [blk b8 [selfV b8c0_1 b8, uv9_1] 53, vec uv9_1 5 1 (List.map bcell v9_1)]) (fun X => .tuple #[]) (fun X => [blk b8 [selfV x93.1 b8, X.1] 53, vec X.1 5 1 (List.map bcell x93.2)]) (fun X => X.2) (fun X => SliceLen X.1 (x93.2).length) hk (fun _ h => by cases h; decide) en17 Z Z (ec Z eN) (fun M w h1 h2 => have h := text_Print_c1_w hx94 hlv9_1 M w h1 h2; h) (fun X96 hF96 hle96 => ?_))
  refine WL.nil (WQ.block (WQ.then (WC.region ?_)))
  obtain ⟨c97, hm98⟩ := cs hm95; clear hm95
  refine wq Z (QV.add Z Z Z Z c97) (wm Z (WL.nil ?_))
  exact WQ.again5 x93.2 x93.1 (x19_1 + 1) X96.1 X96.2 m78 ⟨up_next hm98 hn81, hF96, (hle_1.trans hle96)⟩ (Nat.lt_succ_self _) ⟨Z, Z, Z, Z, Z, Z, trivial⟩ (pk [2, 1, 0, 3])
 refine WC.exit (te (te (WQ.block_exit ?_)))
 exact WQ.out5 v9_1 b8c0_1 x19_1 uv9_1 k_1 ⟨up_brk hm99 hn81, hlv9_1, hle_1⟩ ⟨Z, Z, Z, Z, Z, Z, trivial⟩ (pk [0, 1, 2, 3])
end Go.Proofs.YtaimbkndebaaiacDoor
end
section
namespace Go.Proofs.YtaimbkndebaaiacDoor
open Go.Rd
open TLib TLibR TNum0 TNum TLoop TPar TR14 TR14p TBld TPrt
namespace TLawBack
theorem en6 : Go.Rd.Enters Tryd.prog 6 := eT Tryd.func6
theorem en9 : Go.Rd.Enters Tryd.prog 9 := eT Tryd.func9
theorem fd28_0 : FieldT Tryd.prog 28 0 0 := fT 0 Tryd.underlying28
theorem pl26 : Plain Tryd.prog 26 := ⟨_, Tryd.underlying26, rfl⟩
end TLawBack
open TLawBack
theorem roundelaykeep_TextAgain_w {s : List UInt8} {r : Bool} (w : World) (hm : roundelaykeep_TextAgain_m s = some r) (hGl0 : Glb Tryd.prog w) : Calls Tryd.prog 5 #[strV s] w (fun e w' => e = .returned (.bool r) ∧ Grow w w') := by
 unfold roundelaykeep_TextAgain_m at hm
 have hk := Base.rfl (w := w)
 refine calls_of_WC (n := 49) (args := [strV s]) Tryd.func5 Z Z (nl Z) ?_ (Own.startK hk (Own.start w))
 have hGl := GlbM.of hGl0
 refine sr (wa Z (ns (WL.effect Z ?_)))
 obtain ⟨x1, hx2, hm3⟩ := bd_some hm; clear hm
 refine (EV.callRG (X := Value × Value × Value × World) (R := []) (fun X => .tuple #[.agg #[X.1, X.2.1, X.2.2.1], .agg #[i_ x1.2.code, i_ x1.2.at']]) (fun X => []) (fun X => X.2.2.2) (fun X => Arr X.2.2.2 X.1 1 (x1.1.logs.map icell) ∧ Arr X.2.2.2 X.2.1 9 (x1.1.body.map Stm.cells) ∧ Arr X.2.2.2 X.2.2.1 1 (x1.1.outs.map icell)) hGl hk (fun _ h => by cases h; decide) en6 (ec Z eN) (fun M w hG h1 h2 => have h := text_Parse_w hx2  M w hG h1 h2; h) (fun X4 hF4 hle4 => ?_))
 refine wm Z (wq Z (QV.extract Z Z Z) (wq Z (QV.extract Z Z Z) (WL.effect Z ?_)))
 refine (EV.alloc (by decide) ze25 (fun b5 => ?_))
 refine WL.effect Z ?_
 refine (EV.alloc (by decide) ze28 (fun b6 => ?_))
 refine WL.effect Z ?_
 refine (EV.store 1 Z Z Z Z Z Z (vs := [X4.1, X4.2.1, X4.2.2.1]) (show Value.cells _ = List.toArray _ from Z) sz25 (nl Z) (oc (SliceLen.one hF4.1.lenMap) (oc (SliceLen.one hF4.2.1.lenMap) (oc (SliceLen.one hF4.2.2.lenMap) one_nil))) ?_)
 refine WL.effect Z ?_
 refine (EV.store 0 Z Z Z Z Z Z (vs := [i_ x1.2.code, i_ x1.2.at']) (show Value.cells _ = List.toArray _ from Z) sz28 (nl Z) (oc Z (oc Z one_nil)) ?_)
 refine nt (WC.seq (sr (wf fd25_1 Z (wl pl23 Z (Own.cell 1 Z Z) (wq Z (QV.lenS Tryd.underlying23 Z Z hF4.2.1.lenMap) (wq Z (QV.neq Z Z Z Z) (nt ?_)))))))
 refine wc Z hm3 (fun h7 hm8 => ?_) (fun h7 hm9 => ?_) <;> clear hm3
 ·skip
  refine sr (wa Z (nt (WC.ret (tr ?_))))
  obtain rfl := (eq_of_some hm8).symm
  exact WQ.ret1 Z Z fun w hw => kg hw
 refine sk (WQ.then (sr (wm Z (WL.effect Z ?_))))
 obtain ⟨x10, hx11, hm12⟩ := bd_some hm9; clear hm9
 refine EV.of (C' := Own noM w [kn noM w.heap.size w X4.2.2.2, blk b6 [i_ x1.2.code, i_ x1.2.at'] 28, blk b5 [X4.1, X4.2.1, X4.2.2.1] 25]) (pk [2, 0, 1]) ?_
 refine (EV.callRG (X := Value × Value × Value × World) (R := []) (fun X => .tuple #[.agg #[X.1, X.2.1, X.2.2.1], .agg #[i_ x10.2.code, i_ x10.2.at']]) (fun X => []) (fun X => X.2.2.2) (fun X => Arr X.2.2.2 X.1 1 (x10.1.logs.map icell) ∧ Arr X.2.2.2 X.2.1 9 (x10.1.body.map Stm.cells) ∧ Arr X.2.2.2 X.2.2.1 1 (x10.1.outs.map icell)) hGl hk (fun _ h => by cases h; decide) en6 (ec Z eN) (fun M w hG h1 h2 => have h := text_Parse_w hx11  M w hG h1 h2; h) (fun X13 hF13 hle13 => ?_))
 refine wm Z (wq Z (QV.extract Z Z Z) (wq Z (QV.extract Z Z Z) (WL.effect Z ?_)))
 refine (EV.alloc (by decide) ze25 (fun b14 => ?_))
 refine WL.effect Z ?_
 refine (EV.alloc (by decide) ze28 (fun b15 => ?_))
 refine WL.effect Z ?_
 refine (EV.store 1 Z Z Z Z Z Z (vs := [X13.1, X13.2.1, X13.2.2.1]) (show Value.cells _ = List.toArray _ from Z) sz25 (nl Z) (oc (SliceLen.one hF13.1.lenMap) (oc (SliceLen.one hF13.2.1.lenMap) (oc (SliceLen.one hF13.2.2.lenMap) one_nil))) ?_)
 refine WL.effect Z ?_
 refine (EV.store 0 Z Z Z Z Z Z (vs := [i_ x10.2.code, i_ x10.2.at']) (show Value.cells _ = List.toArray _ from Z) sz28 (nl Z) (oc Z (oc Z one_nil)) ?_)
 refine nt (WC.seq (sr (wf fd28_0 Z (wl pl26 Z (Own.cell 0 Z Z) (wq Z (QV.neq Z Z Z Z) (nt ?_))))))
 refine wc Z hm12 (fun h16 hm17 => ?_) (fun h16 hm22 => ?_) <;> clear hm12
 ·skip
  refine sr (wf fd25_1 Z (wl pl23 Z (Own.cell 1 Z Z) (wq Z (QV.lenS Tryd.underlying23 Z Z hF13.2.1.lenMap) (wf fd25_0 Z (wl pl22 Z (Own.cell 1 Z Z) (wq Z (QV.lenS Tryd.underlying22 Z Z hF13.1.lenMap) ?_))))))
  obtain ⟨c18, c20, hm21⟩ := cs2 hm17; clear hm17
  refine wq Z (QV.add Z Z Z Z c18) (wf fd25_2 Z (wl pl22 Z (Own.cell 1 Z Z) (wq Z (QV.lenS Tryd.underlying22 Z Z hF13.2.2.lenMap) (wq Z (QV.add Z Z Z Z c20) (wq Z (QV.eql Z Z Z Z) (wa Z (nt (WC.ret (tr ?_)))))))))
  obtain rfl := (eq_of_some hm21).symm
  exact WQ.ret1 Z Z fun w hw => kg hw
 refine sk (WQ.then (sr (wq Z (QV.loadAgg ag25 Z Z Z (Own.cellsBlk 1 Z)) ?_)))
 obtain ⟨x23, hx24, hm25⟩ := bd_some hm22; clear hm22
 refine wq Z (QV.call en9 (ec Z eN) (fun w hw => have h := text_Print_w w hx24 ((Own.karr 2 Z hk hF13.1) w hw) ((Own.karr 2 Z hk hF13.2.1) w hw) ((Own.karr 2 Z hk hF13.2.2) w hw) (hGl.at hw); h)) (wm Z (wq Z (QV.extract Z Z Z) (wq Z (QV.extract Z Z Z) (wa Z (wa Z (ns (wm Z (wq Z (QV.eql Z Z Z Z) (wm Z ?_)))))))))
 refine gp Z (fun hG => QV.move Z Z) (gp Z (fun hG => QV.move Z Z) (gp Z (fun hG => QV.strEql Z hG Z hG) (wq Z (QV.pickAnd Z Z Z (fun h => h)) (wa Z (nt (WC.ret ?_))))))
 obtain rfl := (eq_of_some hm25).symm
 exact WQ.ret1 Z Z fun w hw => kg hw
end Go.Proofs.YtaimbkndebaaiacDoor
end
section
namespace Go.Rd
open Go.RowKit
theorem laid_vars {P : Program} {W : World} : ∀ {l : List (String × DataW Unit)} {ps : List MemPlace}, DataW.LaidVars P W l ps → ∀ {nm : String} {d : DataW Unit}, (nm, d) ∈ l →
  ∃ g t cs fuel p, P.globalNamed nm = some g ∧ (P.globals[g]?).map (·.type) = some t ∧ W.var? P nm = some cs ∧ DataW.trod (fun _ => ()) P W 0 (fun _ => true) false fuel t cs.toList = some (d, p)
 | [], _, _, _, _, hm => absurd hm (by simp)
 | (n, d0) :: r, ps, ⟨g, t, cs, fuel, p, q, h1, h2, h3, h4, h5, _⟩, nm, d, hm => by
  rcases List.mem_cons.1 hm with e | hm
  ·cases e; exact ⟨g, t, cs, fuel, p, h1, h2, h3, h4⟩
  ·exact laid_vars h5 hm
theorem laid_at {P : Program} {W : World} {l : List (String × DataW Unit)} (h : laidMet P l W) (i : Nat) {nm : String} {d : DataW Unit} (hi : l[i]? = some (nm, d)) :
  ∃ g t cs fuel p, P.globalNamed nm = some g ∧ (P.globals[g]?).map (·.type) = some t ∧ W.var? P nm = some cs ∧ DataW.trod (fun _ => ()) P W 0 (fun _ => true) false fuel t cs.toList = some (d, p) := by
 obtain ⟨ps, h, _⟩ := h
 exact laid_vars h (List.mem_of_getElem? hi)
theorem laid_tab {P : Program} {W : World} {l : List (String × DataW Unit)} (h : laidMet P l W) (i : Nat) {nm : String} {k : IntKind} {zs : List Int} (hi : l[i]? = some (nm, Lib.tabData k zs)) {g : Nat} {t e : TypeId} {n : Nat}
  (hg : P.globalNamed nm = some g) (hty : (P.globals[g]?).map (·.type) = some t) (ht : P.underlying t = some (.array n e)) (he : P.underlying e = some (.int k)) (hce : P.cellsOf e = 1) (hct : P.cellsOf t = n) : Lib.TabIs P W nm k zs := by
 obtain ⟨g', t', cs, fuel, p, h1, h2, h3, h4⟩ := laid_at h i hi
 obtain rfl := Option.some.inj (hg.symm.trans h1)
 obtain rfl := Option.some.inj (hty.symm.trans h2)
 unfold Lib.TabIs
 rw [h3, ← Lib.cells_of_tab ht he hce hct h4]
theorem laid_err {P : Program} {W : World} {l : List (String × DataW Unit)} (h : laidMet P l W) (i : Nat) {nm s : String} {d : DataW Unit} (hi : l[i]? = some (nm, .iface s d)) {g : Nat} {t : TypeId} {ms : Array (String × TypeId)}
  (hg : P.globalNamed nm = some g) (hty : (P.globals[g]?).map (·.type) = some t) (ht : P.underlying t = some (.interface ms)) : ∃ t p, W.var? P nm = some #[.iface t p] := by
 obtain ⟨g', t', cs, fuel, p, h1, h2, h3, h4⟩ := laid_at h i hi
 obtain rfl := Option.some.inj (hg.symm.trans h1)
 obtain rfl := Option.some.inj (hty.symm.trans h2)
 obtain ⟨f2, u, v, hc, _⟩ := iface_of_trod ht h4
 exact ⟨u, v, by rw [h3]; congr 1; exact Array.ext' hc⟩
def errAt (l : List (String × DataW Unit)) (i : Nat) (nm : String) : Bool := match l[i]? with
 | some (n, .iface _ _) => decide (n = nm)
 | _ => false
theorem laid_errB {P : Program} {W : World} {l : List (String × DataW Unit)} (h : laidMet P l W) (i : Nat) {nm : String} (hi : errAt l i nm = true) {g : Nat} {t : TypeId} {ms : Array (String × TypeId)}
  (hg : P.globalNamed nm = some g) (hty : (P.globals[g]?).map (·.type) = some t) (ht : P.underlying t = some (.interface ms)) : ∃ t p, W.var? P nm = some #[.iface t p] := by
 unfold errAt at hi
 split at hi
 ·rename_i n s d e
  obtain rfl := of_decide_eq_true hi
  exact laid_err h i e hg hty ht
 ·cases hi
def seenB : Nat → List Nat → Bool
 | _, [] => true
 | m, k :: r => !(m.testBit k) && seenB (m ||| (1 <<< k)) r
theorem seenB_nodup : ∀ {l : List Nat} {m : Nat}, seenB m l = true → l.Nodup ∧ ∀ k ∈ l, m.testBit k = false
 | [], m, _ => ⟨List.nodup_nil, by simp⟩
 | k :: r, m, h => by
  simp only [seenB, Bool.and_eq_true, Bool.not_eq_true'] at h
  obtain ⟨h1, h2⟩ := seenB_nodup h.2
  have bit : ∀ j ∈ r, m.testBit j = false ∧ k ≠ j := fun j hj => by
   have := h2 j hj
   rw [Nat.testBit_or, Bool.or_eq_false_iff, Nat.one_shiftLeft, Nat.testBit_two_pow] at this
   exact ⟨this.1, of_decide_eq_false this.2⟩
  refine ⟨List.nodup_cons.2 ⟨fun hk => (bit k hk).2 rfl, h1⟩, fun j hj => ?_⟩
  rcases List.mem_cons.1 hj with rfl | hj
  ·exact h.1
  ·exact (bit j hj).1
def placeKey : MemPlace → Nat
 | .cell b off => b * 512 + off
 | .map b => b * 512 + 511
theorem laidMet_of_run2 {P : Program} {w : World} {l : List (String × DataW Unit)} (fuel : Nat) (h : (DataW.laidRun P w fuel (l.map (·.1))).map (·.1) = some l)
  (hn : (DataW.laidRun P w fuel (l.map (·.1))).map (fun x => seenB 0 (x.2.map placeKey)) = some true) (hr : (DataW.laidRun P w fuel (l.map (·.1))).map (fun x => laidRowsB P w x.2) = some true) : laidMet P l w := by
 cases hx : DataW.laidRun P w fuel (l.map (·.1)) with
 | none => simp [hx] at h
 | some x =>
  obtain ⟨l', ps⟩ := x
  simp only [hx, Option.map_some, Option.some.injEq] at h hr hn
  subst h
  exact laidMet_of_run fuel hx (decide_eq_true (List.Pairwise.of_map placeKey (fun a b hab e => hab (congrArg placeKey e)) (seenB_nodup hn).1)) hr
noncomputable def doorWith (P : Program) (n g : Nat) (cs : Array Value) (os : Os) : World :=
 { World.doorLaid P n os with heap := match (World.doorLaid P n os).heap[g]? with
  | some (.cells _ e f) => (World.doorLaid P n os).heap.setIfInBounds g (.cells cs e f)
  | _ => (World.doorLaid P n os).heap }
end Go.Rd
end