/- Texts for the law, 6. -/
import Derived.Test.YtaimbkndebaaiacZLbuildSame5
import Derived.Test.YtaimbkndebaaiacProg
import Derived.KernelRfl
set_option linter.unusedVariables false
set_option linter.unusedSimpArgs false
set_option maxRecDepth 8000
section
namespace Go.Proofs.Ytaimbkndebaaiac
open Go.Rd
open TNum TLoop TKern TKeep TOrd TCpt TDep TSched1
namespace TEmit
theorem en107 : Go.Rd.Enters Try.prog 107 := eT Try.func107
theorem en37 : Go.Rd.Enters Try.prog 37 := eT Try.func37
theorem pl172 : Plain Try.prog 172 := ⟨_, Try.underlying172, rfl⟩
theorem sz172 : SizeT Try.prog 172 1 := by unfold SizeT; kernel_rfl
theorem sz29 : SizeT Try.prog 29 1 := by unfold SizeT; kernel_rfl
theorem sz31 : SizeT Try.prog 31 3 := by unfold SizeT; kernel_rfl
theorem sz_29 : SliceZ Try.prog 29 75 10 [.int .i64 0, .int .i64 0, .int .i64 0, .int .i64 0, .int .i64 0, .int .i64 0, .int .i64 0, .int .i64 0, .int .i64 0, .int .i64 0] := ⟨Try.underlying29, by kernel_rfl⟩
theorem ve29 : VecT Try.prog 29 75 10 80 := ⟨Try.underlying29, by kernel_rfl, by decide⟩
theorem ze31 : ZeroT Try.prog 31 [.int .i64 0, .int .i64 0, .slice none 0 0] := by unfold ZeroT; kernel_rfl
end TEmit
open TEmit
theorem emit_Rest_w {a b r : Int} (w : World) (hm : emit_Rest_m a b = some r)  : Calls Try.prog 37 #[.int .i64 a, .int .i64 b] w (fun e w' => e = .returned (.int .i64 r) ∧ Grow w w') := by
 unfold emit_Rest_m at hm
 have hk := Base.rfl (w := w)
 refine calls_of_WC (n := 12) (args := [i_ a, i_ b]) Try.func37 Z Z (nl Z) ?_ (Own.startK hk (Own.start w))
 refine sr (wa Z (ns (wm Z (wm Z ?_))))
 obtain ⟨c1, c3, c5, hm6⟩ := cs3 hm; clear hm
 refine wq Z (QV.rem Z Z Z Z c1) (wm Z (wq Z (QV.add Z Z Z Z c3) (wm Z (wq Z (QV.rem Z Z Z Z c5) (wa Z (nt (WC.ret ?_)))))))
 obtain rfl := (eq_of_some hm6).symm
 exact WQ.ret1 Z Z fun w hw => kg hw
theorem emit_Emit_w {v_l_logs v_l_body v_l_outs v_p_times v_dests : Value} {l : Lp} {t : Tgt} {p : Pln} {dests : List Int} {r : Krn × Int} {K0 : World} (hm : emit_Emit_m l t p dests = some r) (h_l_logs : Arr K0 v_l_logs 1 (l.logs.map icell)) (h_l_body : Arr K0 v_l_body 9 (l.body.map Stm.cells)) (h_l_outs : Arr K0 v_l_outs 1 (l.outs.map icell)) (h_p_times : Arr K0 v_p_times 1 (p.times.map icell)) (h_dests : Arr K0 v_dests 1 (dests.map icell)) (M : Nat → Prop) (w : World) (hk : Base M K0 w) (hw0 : Own M w [] w) : Calls Try.prog 75 #[.agg #[v_l_logs, v_l_body, v_l_outs], .agg #[.int .i64 t.u0, .int .i64 t.u1, .int .i64 t.u2, .int .i64 t.w0, .int .i64 t.w1, .int .i64 t.w2, .int .i64 t.regs], .agg #[.int .i64 p.pace, v_p_times], v_dests] w (fun e w' => ∃ X : Value × World, e = .returned (.tuple #[.agg #[.int .i64 r.1.pace, .int .i64 r.1.stages, X.1], .int .i64 r.2]) ∧ Own M w (kn M w.heap.size K0 X.2 :: []) w' ∧ Arr X.2 X.1 10 (r.1.ops.map Opr.cells)) := by
 unfold emit_Emit_m at hm
 refine calls_of_WC (n := 146) (args := [.agg #[v_l_logs, v_l_body, v_l_outs], .agg #[i_ t.u0, i_ t.u1, i_ t.u2, i_ t.w0, i_ t.w1, i_ t.w2, i_ t.regs], .agg #[i_ p.pace, v_p_times], v_dests]) Try.func75 Z Z (nl Z) ?_ (Own.startK hk hw0)
 refine sr (WL.effect Z ?_)
 refine (EV.boxAgg (by decide) Z Z (fun b1 => ?_))
 refine WL.effect Z ?_
 refine (EV.boxAgg (by decide) Z Z (fun b2 => ?_))
 refine WL.effect Z ?_
 refine (EV.boxAgg (by decide) Z Z (fun b3 => ?_))
 refine WL.effect Z ?_
 refine (EV.alloc (by decide) ze31 (fun b4 => ?_))
 refine wa Z (nt (WC.seq (sr (wq Z (QV.loadAgg ag25 Z Z Z (Own.cellsBlk 3 Z)) (wq Z (QV.loadAgg ag28 Z Z Z (Own.cellsBlk 2 Z)) (wq Z (QV.loadAgg ag91 Z Z Z (Own.cellsBlk 1 Z)) ?_))))))
 obtain ⟨x5, hx6, hm7⟩ := bd_some hm; clear hm
 refine wq Z (QV.call en107 (ec Z (ec Z (ec Z eN))) (fun w hw => have h := sched_Legal_w w hx6 ((Own.karr 4 Z hk h_l_logs) w hw) ((Own.karr 4 Z hk h_l_body) w hw) ((Own.karr 4 Z hk h_l_outs) w hw) ((Own.karr 4 Z hk h_p_times) w hw); h)) (wq Z (QV.not Z Z) (wm Z (gn Z (fun hG => QV.move Z Z) (gn Z (fun hG => QV.lenS Try.underlying22 Z hG h_dests.lenMap) (gn Z (fun hG => QV.fieldAddr fd25_1 Z Z) (gn Z (fun hG => QV.load pl23 Z hG (Own.cell 3 Z Z)) (gn Z (fun hG => QV.lenS Try.underlying23 Z hG h_l_body.lenMap) (gn Z (fun hG => QV.neq Z hG Z hG) (wq Z (QV.pickOr Z Z Z (fun h => notF h)) ?_)))))))))
 refine nt ?_
 refine wc Z hm7 (fun h8 hm9 => ?_) (fun h8 hm10 => ?_) <;> clear hm7
 ·skip
  refine sr (wq Z (QV.build (ps := []) (cells := [i_ 0, i_ 0, .slice none 0 0]) eN (by kernel_rfl)) (WL.effect Z ?_))
  refine (EV.store 0 Z Z Z Z Z Z (vs := [i_ 0, i_ 0, .slice none 0 0]) (show Value.cells _ = List.toArray _ from Z) sz31 (nl Z) (oc Z (oc Z (oc Z one_nil))) ?_)
  refine wa Z (nt (WC.ret (tr ?_)))
  obtain rfl := (eq_of_some hm9).symm
  refine WQ.retCellTmp Z ag31 Z Z Z (Own.cellsBlk 0 Z) (fun w hw => ?_)
  exact ⟨(.slice none 0 0, K0), Z, hw.pick [4] (by decide), Arr.nil⟩
 refine sk (WQ.then (WC.seq (sr (wm Z (wq Z (QV.lenS Try.underlying22 Z Z h_dests.lenMap) (wm Z (nt ?_)))))))
 obtain ⟨o11, ho12, hm13⟩ := bd_some hm10; clear hm10; obtain ⟨n14, ho15⟩ := lp_some ho12
 refine WC.bloop1 (H2 := [blk b4 [i_ 0, i_ 0, .slice none 0 0] 31, blk b3 [i_ p.pace, v_p_times] 91, blk b2 t.cells 28, blk b1 [v_l_logs, v_l_body, v_l_outs] 25, kn M w.heap.size K0 K0]) (τ := [u_ 3 _, u_ 4 _, u_ 5 _, u_ 6 _, u_ 8 _, u_ 33 _, u_ 34 _]) (fun (x35_1 : Int) => [(35, (true, i_ x35_1))]) (fun x35_1 => []) (fun x35_1 m => iter (emit_Emit_L0 t dests) m x35_1 = some o11) (fun x35_1 => o11 = .go x35_1) 0 n14 ho15 ⟨Z, Z, Z, Z, Z, Z, Z, Z, trivial⟩ (pk [0, 1, 2, 3, 4]) ?_ ?_
 ·skip
  rintro x35_1 rfl
  refine WQ.then (sr (wf fd91_0 Z (wl pl3 Z (Own.cell 1 Z Z) (wq Z (QV.build (ps := [(0, .tmp 50)]) (cells := [i_ p.pace, i_ 0, .slice none 0 0]) (ec Z eN) (by kernel_rfl)) (WL.effect Z ?_)))))
  refine (EV.alloc (by decide) ze31 (fun b16 => ?_))
  refine WL.effect Z ?_
  refine (EV.store 0 Z Z Z Z Z Z (vs := [i_ p.pace, i_ 0, .slice none 0 0]) (show Value.cells _ = List.toArray _ from Z) sz31 (nl Z) (oc Z (oc Z (oc Z one_nil))) ?_)
  refine nt (WC.seq (sr (wf fd25_1 Z (wl pl23 Z (Own.cell 4 Z Z) (wq Z (QV.lenS Try.underlying23 Z Z h_l_body.lenMap) (wm Z (nt ?_)))))))
  refine WK.of (fun w hw => hw.vecNil (E := 75) (sz := 10) (enc := Opr.cells)) ?_
  obtain ⟨o18, ho19, hm20⟩ := bd_some hm13; clear hm13; obtain ⟨n21, ho22⟩ := lp_some ho19
  refine WC.bloop5 (H2 := [blk b4 [i_ 0, i_ 0, .slice none 0 0] 31, blk b3 [i_ p.pace, v_p_times] 91, blk b2 t.cells 28, blk b1 [v_l_logs, v_l_body, v_l_outs] 25]) (τ := [u_ 3 _, u_ 5 _, u_ 6 _, u_ 8 _, u_ 12 _, u_ 53 _, u_ 54 _]) (fun (v17_5 : List Opr) (b16c1_5 : Int) (x55_5 : Int) (uv17_5 : Value) (k_5 : World) => [(55, (true, i_ x55_5))]) (fun v17_5 b16c1_5 x55_5 uv17_5 k_5 => [vec uv17_5 75 10 (List.map Opr.cells v17_5), blk b16 [i_ p.pace, i_ b16c1_5, uv17_5] 31, kn M w.heap.size K0 k_5]) (fun v17_5 b16c1_5 x55_5 uv17_5 k_5 m => iter (emit_Emit_L2 l t p dests) m (v17_5, b16c1_5, x55_5) = some o18 ∧ SliceLen uv17_5 v17_5.length ∧ Le K0 k_5) (fun v17_5 b16c1_5 x55_5 uv17_5 k_5 => o18 = .go (v17_5, b16c1_5, x55_5) ∧ SliceLen uv17_5 v17_5.length ∧ Le K0 k_5) [] 0 0 (.slice none 0 0) K0 n21 ⟨ho22, SliceLen.nil, (Le.refl _)⟩ ⟨Z, Z, Z, Z, Z, Z, Z, Z, trivial⟩ (pk [0, 1, 6, 2, 3, 4, 5]) ?_ ?_
  ·skip
   rintro v17_5 b16c1_5 x55_5 uv17_5 k_5 ⟨rfl, hlv17_5, hle_5⟩
   refine WQ.then (sr (wq Z (QV.loadAgg ag31 Z Z Z (Own.cellsBlk 1 Z)) (WL.effect Z ?_)))
   refine (EV.store 3 Z Z Z Z Z Z (vs := [i_ p.pace, i_ b16c1_5, uv17_5]) (show Value.cells _ = List.toArray _ from Z) sz31 (nl Z) (oc Z (oc Z (oc (SliceLen.one hlv17_5) one_nil))) ?_)
   refine wa Z (nt (WC.ret ?_))
   obtain rfl := (eq_of_some hm20).symm
   refine WK.of (C' := Own M w [kn M w.heap.size K0 k_5, vec uv17_5 75 10 (List.map Opr.cells v17_5), blk b16 [i_ p.pace, i_ b16c1_5, uv17_5] 31, blk b4 [i_ p.pace, i_ b16c1_5, uv17_5] 31, blk b3 [i_ p.pace, v_p_times] 91, blk b2 t.cells 28, blk b1 [v_l_logs, v_l_body, v_l_outs] 25]) (pk [2, 0, 1, 3, 4, 5, 6]) ?_
   refine WK.freeze hk (fun k23 hle23 hr23 => ?_)
   have hA23 := vec_arr hr23
   refine WQ.retCellTmp Z ag31 Z Z Z (Own.cellsBlk 2 Z) (fun w hw => ?_)
   exact ⟨(uv17_5, k23), Z, hw.pick [0] (by decide), hA23⟩
  rintro v17_5 b16c1_5 x55_5 uv17_5 k_5 m24 ⟨hI25, hlv17_5, hle_5⟩
  obtain ⟨m26, s27, rfl, hm28, hn29⟩ := iter_step hI25; clear hI25; unfold emit_Emit_L2 at hm28; simp only at hm28
  refine sr (wq Z (QV.lss Z Z Z Z) (nt (WC.seq ?_)))
  refine wc Z hm28 (fun h30 hm31 => ?_) (fun h30 hm121 => ?_) <;> clear hm28
  ·skip
   refine sk (WQ.then (WC.seq (WC.block (sr (wm Z ?_)))))
   obtain ⟨c32, hm33⟩ := cs hm31; clear hm31
   obtain ⟨p34, hp35⟩ := (h_l_body.le hle_5).lenMap.ix (sz := 9) ln_len c32
   refine wq Z (QV.indexSlice sl23 Z Z Z Z hp35) (wq Z (QV.loadAgg ag81 Z Z Z (fun w hw => ((Own.karr 2 Z hk (h_l_body.le hle_5)) w hw).ele hp35 c32)) (WL.effect Z ?_))
   refine (EV.alloc (by decide) ze81 (fun b36 => ?_))
   refine wa Z (WL.effect Z ?_)
   refine (EV.store 0 Z Z Z Z Z Z (vs := (Stm.cells (ele l.body x55_5))) (show Value.cells _ = List.toArray _ from Z) sz81 (nl Z) (oc Z (oc Z (oc Z (oc Z (oc Z (oc Z (oc Z (oc Z (oc Z one_nil))))))))) ?_)
   refine nt (WC.seq (WC.dr (m := 33) (S := Own M w [kn M w.heap.size K0 k_5, blk b36 (Stm.cells (ele l.body x55_5)) 81, vec uv17_5 75 10 (List.map Opr.cells v17_5), blk b16 [i_ p.pace, i_ b16c1_5, uv17_5] 31, blk b4 [i_ 0, i_ 0, .slice none 0 0] 31, blk b3 [i_ p.pace, v_p_times] 91, blk b2 t.cells 28, blk b1 [v_l_logs, v_l_body, v_l_outs] 25]) (by kernel_rfl) (by kernel_rfl) (pk [3, 0, 1, 2, 4, 5, 6, 7]) (zf 0 fd91_1 Z Z (zl 1 pl22 Z Z (Own.cell 5 Z Z) (zm 2 Z Z ?_)))))
   obtain ⟨c37, hm38⟩ := cs hm33; clear hm33
   obtain ⟨p39, hp40⟩ := (h_p_times.le hle_5).lenMap.ix (sz := 1) ln_len c37
   refine wz 3 Z Z (QV.indexSlice sl22 Z Z Z Z hp40) (zl 4 pl3 Z Z (fun w hw => CellsAt.one 0 (((Own.karr 0 Z hk (h_p_times.le hle_5)) w hw).ele hp40 c37) Z) (zf 5 fd91_0 Z Z (zl 6 pl3 Z Z (Own.cell 5 Z Z) ?_)))
   obtain ⟨c41, c43, hm44⟩ := cs2 hm38; clear hm38
   refine wz 7 Z Z (QV.rem Z Z Z Z c41) (zf 8 fd91_1 Z Z (zl 9 pl22 Z Z (Own.cell 5 Z Z) (zm 10 Z Z ?_)))
   obtain ⟨p45, hp46⟩ := (h_p_times.le hle_5).lenMap.ix (sz := 1) ln_len c43
   refine wz 11 Z Z (QV.indexSlice sl22 Z Z Z Z hp46) (zl 12 pl3 Z Z (fun w hw => CellsAt.one 0 (((Own.karr 0 Z hk (h_p_times.le hle_5)) w hw).ele hp46 c43) Z) (zf 13 fd91_0 Z Z (zl 14 pl3 Z Z (Own.cell 5 Z Z) ?_)))
   obtain ⟨c47, c49, c51, hm52⟩ := cs3 hm44; clear hm44
   refine wz 15 Z Z (QV.quo Z Z Z Z c47 c49) (zf 16 fd81_0 Z Z (zl 17 pl3 Z Z (Own.cell 1 Z Z) (zm 18 Z Z (zm 19 Z Z ?_))))
   obtain ⟨p53, hp54⟩ := (h_dests.le hle_5).lenMap.ix (sz := 1) ln_len c51
   refine wz 20 Z Z (QV.indexSlice sl22 Z Z Z Z hp54) (zl 21 pl3 Z Z (fun w hw => CellsAt.one 0 (((Own.karr 0 Z hk (h_dests.le hle_5)) w hw).ele hp54 c51) Z) (zf 22 fd81_3 Z Z (zl 23 pl3 Z Z (Own.cell 1 Z Z) (zf 24 fd81_4 Z Z (zl 25 pl3 Z Z (Own.cell 1 Z Z) (zf 26 fd81_5 Z Z (zl 27 pl3 Z Z (Own.cell 1 Z Z) (zf 28 fd81_6 Z Z (zl 29 pl2 Z Z (Own.cell 1 Z Z) ?_)))))))))
   refine wz 30 Z Z (QV.build (ps := [(0, .tmp 67), (1, .tmp 75), (2, .tmp 77), (3, .tmp 81), (6, .tmp 83), (7, .tmp 85), (8, .tmp 87), (9, .tmp 89)]) (cells := [i_ (Int.tmod (ele p.times x55_5) p.pace), i_ (Int.tdiv (ele p.times x55_5) p.pace), i_ ((ele l.body x55_5).op), i_ (ele dests x55_5), i_ 0, i_ 0, i_ ((ele l.body x55_5).ar), i_ ((ele l.body x55_5).sp), i_ ((ele l.body x55_5).pl), i_ ((ele l.body x55_5).n)]) (ec Z (ec Z (ec Z (ec Z (ec Z (ec Z (ec Z (ec Z eN)))))))) (by kernel_rfl)) ?_
   refine WD.o 31 Z (by kernel_rfl) Z ?_
   refine (EV.alloc (by decide) ze75 (fun b55 => ?_))
   refine WD.b (H' := [kn M w.heap.size K0 k_5, blk b55 [i_ 0, i_ 0, i_ 0, i_ 0, i_ 0, i_ 0, i_ 0, i_ 0, i_ 0, i_ 0] 75, blk b36 (Stm.cells (ele l.body x55_5)) 81, vec uv17_5 75 10 (List.map Opr.cells v17_5), blk b16 [i_ p.pace, i_ b16c1_5, uv17_5] 31, blk b4 [i_ 0, i_ 0, .slice none 0 0] 31, blk b3 [i_ p.pace, v_p_times] 91, blk b2 t.cells 28, blk b1 [v_l_logs, v_l_body, v_l_outs] 25]) (pk [4, 0, 1, 2, 3, 5, 6, 7, 8]) (pk [0, 2, 3, 4, 5, 6, 7, 8]) ?_
   refine WD.l 32 Z (by kernel_rfl) Z ?_
   refine (EV.store 0 Z Z Z Z Z Z (vs := [i_ (Int.tmod (ele p.times x55_5) p.pace), i_ (Int.tdiv (ele p.times x55_5) p.pace), i_ ((ele l.body x55_5).op), i_ (ele dests x55_5), i_ 0, i_ 0, i_ ((ele l.body x55_5).ar), i_ ((ele l.body x55_5).sp), i_ ((ele l.body x55_5).pl), i_ ((ele l.body x55_5).n)]) (show Value.cells _ = List.toArray _ from Z) sz75 (nl Z) (oc Z (oc Z (oc Z (oc Z (oc Z (oc Z (oc Z (oc Z (oc Z (oc Z one_nil)))))))))) ?_)
   refine WQ.then (WC.seq (sr (wq Z (QV.loadAgg ag81 Z Z Z (Own.cellsBlk 1 Z)) (WL.effect Z ?_))))
   obtain ⟨x56, hx57, hm58⟩ := bd_some hm52; clear hm52
   refine EV.of (C' := Own M w [kn M w.heap.size K0 k_5, blk b55 [i_ (Int.tmod (ele p.times x55_5) p.pace), i_ (Int.tdiv (ele p.times x55_5) p.pace), i_ ((ele l.body x55_5).op), i_ (ele dests x55_5), i_ 0, i_ 0, i_ ((ele l.body x55_5).ar), i_ ((ele l.body x55_5).sp), i_ ((ele l.body x55_5).pl), i_ ((ele l.body x55_5).n)] 75, blk b36 (Stm.cells (ele l.body x55_5)) 81, vec uv17_5 75 10 (List.map Opr.cells v17_5), blk b16 [i_ p.pace, i_ b16c1_5, uv17_5] 31, blk b4 [i_ 0, i_ 0, .slice none 0 0] 31, blk b3 [i_ p.pace, v_p_times] 91, blk b2 t.cells 28, blk b1 [v_l_logs, v_l_body, v_l_outs] 25]) (pk [4, 0, 1, 2, 3, 5, 6, 7, 8]) ?_
   refine (EV.callR (X := Value × World) (R := []) (fun X => X.1) (fun X => []) (fun X => X.2) (fun X => Arr X.2 X.1 2 (x56.map Rf.cells)) hk (fun _ h => by cases h; decide) en66 (ec Z eN) (fun M w h1 h2 => have h := loop_Uses_w hx57  M w h1 h2; h) (fun X59 hF59 hle59 => ?_))
   refine wq Z (QV.lenS Try.underlying76 Z Z hF59.lenMap) (wm Z (nt ?_))
   obtain ⟨o60, ho61, hm62⟩ := bd_some hm58; clear hm58; obtain ⟨n63, ho64⟩ := lp_some ho61
   refine WC.bloop2 (H2 := [kn M w.heap.size K0 X59.2, blk b36 (Stm.cells (ele l.body x55_5)) 81, vec uv17_5 75 10 (List.map Opr.cells v17_5), blk b16 [i_ p.pace, i_ b16c1_5, uv17_5] 31, blk b4 [i_ 0, i_ 0, .slice none 0 0] 31, blk b3 [i_ p.pace, v_p_times] 91, blk b2 t.cells 28, blk b1 [v_l_logs, v_l_body, v_l_outs] 25]) (τ := [u_ 3 _, u_ 5 _, u_ 6 _, u_ 8 _, u_ 12 _, u_ 15 _, u_ 53 _, u_ 54 _, u_ 55 _, u_ 92 _, u_ 93 _]) (fun (b55n_6 : List Int) (x94_6 : Int) => [(94, (true, i_ x94_6))]) (fun b55n_6 x94_6 => [blk b55 (List.map i64v b55n_6) 75]) (fun b55n_6 x94_6 m => iter (emit_Emit_L4 t p dests x56) m (b55n_6, x94_6) = some o60) (fun b55n_6 x94_6 => o60 = .go (b55n_6, x94_6)) ([(Int.tmod (ele p.times x55_5) p.pace), (Int.tdiv (ele p.times x55_5) p.pace), (ele l.body x55_5).op, (ele dests x55_5), 0, 0, (ele l.body x55_5).ar, (ele l.body x55_5).sp, (ele l.body x55_5).pl, (ele l.body x55_5).n] : List Int) 0 n63 ho64 ⟨Z, Z, Z, Z, Z, Z, Z, Z, Z, Z, Z, Z, trivial⟩ (pk [1, 0, 2, 3, 4, 5, 6, 7, 8]) ?_ ?_
   ·skip
    rintro b55n_6 x94_6 rfl
    refine WQ.then (sr (wf fd31_2 Z (wl pl29 Z (Own.cell 4 Z Z) ?_)))
    obtain ⟨c65, c68, c72, c74, c76, hm77⟩ := cs5 hm62; clear hm62
    refine wq Z (QV.loadAgg (cs := (oprOf b55n_6).cells) ag75 Z Z Z (Own.cellsL (c := i64v) (xs := b55n_6) 0 Z (oprOf_cells c65))) (WL.effect Z ?_)
    refine (EV.buildSlice (by decide) sz_29 (by decide) (by decide) (ps := [(0, .tmp 133)]) (cells := (Opr.cells (oprOf b55n_6))) (ec Z eN) (by kernel_rfl) (fun b67 => ?_))
    refine WL.effect Z ?_
    refine (EV.appendL (enc := Opr.cells) (xs := v17_5) (ys := [(oprOf b55n_6)]) ((v17_5 ++ [(oprOf b55n_6)])) 4 (by decide) ve29 Z Z Z Z Z (Own.blkArr 0 (rows := [(oprOf b55n_6)].map Opr.cells) Z Z (rows_len Opr.cells_len)) Opr.cells_len (Opr.cells_one _) Z c68.1 c68.2 (fun u70 hu71 => ?_))
    refine wf fd31_2 Z (WL.effect Z ?_)
    refine (EV.store 5 Z Z Z Z Z Z (vs := [u70]) (SliceLen.cells hu71) sz29 (nl Z) (oc (SliceLen.one hu71) one_nil) ?_)
    refine nr (wf fd31_1 Z (wl pl3 Z (Own.cell 5 Z Z) (wf fd75_1 Z (wl pl3 rfl (Own.cellG (c := i64v) (xs := b55n_6) 1 rfl c72 (by first | rfl | exact addr_lit _)) (wq Z (QV.add Z Z Z Z c74) (wq Z (QV.max2 Z Z Z Z) (wf fd31_1 Z (WL.effect Z ?_))))))))
    refine (EV.store 5 Z Z Z Z Z Z (vs := [i_ (max b16c1_5 ((ele b55n_6 1) + 1))]) (show Value.cells _ = List.toArray _ from Z) sz3 (nl Z) (oc Z one_nil) ?_)
    refine WL.nil (WQ.block (WQ.then (WC.region (wq Z (QV.add Z Z Z Z c76) (wm Z (WL.nil ?_))))))
    exact WQ.again5 (v17_5 ++ [(oprOf b55n_6)]) (max b16c1_5 ((ele b55n_6 1) + 1)) (x55_5 + 1) u70 X59.2 m26 ⟨up_next hm77 hn29, hu71, (hle_5.trans hle59)⟩ (Nat.lt_succ_self _) ⟨Z, Z, Z, Z, Z, Z, Z, Z, trivial⟩ (pk [4, 5, 2, 6, 7, 8, 9])
   rintro b55n_6 x94_6 m78 hI79
   obtain ⟨m80, s81, rfl, hm82, hn83⟩ := iter_step hI79; clear hI79; unfold emit_Emit_L4 at hm82; simp only at hm82
   refine sr (wq Z (QV.lss Z Z Z Z) (nt (WC.seq ?_)))
   refine wc Z hm82 (fun h84 hm85 => ?_) (fun h84 hm120 => ?_) <;> clear hm82
   ·skip
    refine sk (WQ.then (WC.seq (WC.block (sr (wm Z ?_)))))
    obtain ⟨c86, hm87⟩ := cs hm85; clear hm85
    obtain ⟨p88, hp89⟩ := hF59.lenMap.ix (sz := 2) ln_len c86
    refine wq Z (QV.indexSlice sl76 Z Z Z Z hp89) (wq Z (QV.loadAgg ag79 Z Z Z (fun w hw => ((Own.karr 1 Z hk hF59) w hw).ele hp89 c86)) (WL.effect Z ?_))
    refine (EV.alloc (by decide) ze79 (fun b90 => ?_))
    refine wa Z (WL.effect Z ?_)
    refine (EV.store 0 Z Z Z Z Z Z (vs := [i_ ((ele x56 x94_6).st), i_ ((ele x56 x94_6).bk)]) (show Value.cells _ = List.toArray _ from Z) sz79 (nl Z) (oc Z (oc Z one_nil)) ?_)
    refine nt (WC.seq (WC.dr (m := 25) (S := Own M w [kn M w.heap.size K0 X59.2, blk b90 [i_ ((ele x56 x94_6).st), i_ ((ele x56 x94_6).bk)] 79, blk b55 (List.map i64v b55n_6) 75, blk b36 (Stm.cells (ele l.body x55_5)) 81, vec uv17_5 75 10 (List.map Opr.cells v17_5), blk b16 [i_ p.pace, i_ b16c1_5, uv17_5] 31, blk b4 [i_ 0, i_ 0, .slice none 0 0] 31, blk b3 [i_ p.pace, v_p_times] 91, blk b2 t.cells 28, blk b1 [v_l_logs, v_l_body, v_l_outs] 25]) (by kernel_rfl) (by kernel_rfl) (pk [2, 0, 1, 3, 4, 5, 6, 7, 8, 9]) (zm 0 Z Z (zf 1 fd79_0 Z Z (zl 2 pl3 Z Z (Own.cell 1 Z Z) ?_)))))
    obtain ⟨c91, hm92⟩ := cs hm87; clear hm87
    obtain ⟨p93, hp94⟩ := (h_dests.le (hle_5.trans hle59)).lenMap.ix (sz := 1) ln_len c91
    refine wz 3 Z Z (QV.indexSlice sl22 Z Z Z Z hp94) (zl 4 pl3 Z Z (fun w hw => CellsAt.one 0 (((Own.karr 0 Z hk (h_dests.le (hle_5.trans hle59))) w hw).ele hp94 c91) Z) (zf 5 fd91_1 Z Z (zl 6 pl22 Z Z (Own.cell 7 Z Z) (zf 7 fd79_0 Z Z (zl 8 pl3 Z Z (Own.cell 1 Z Z) ?_)))))
    obtain ⟨c95, hm96⟩ := cs hm92; clear hm92
    obtain ⟨p97, hp98⟩ := (h_p_times.le (hle_5.trans hle59)).lenMap.ix (sz := 1) ln_len c95
    refine wz 9 Z Z (QV.indexSlice sl22 Z Z Z Z hp98) (zl 10 pl3 Z Z (fun w hw => CellsAt.one 0 (((Own.karr 0 Z hk (h_p_times.le (hle_5.trans hle59))) w hw).ele hp98 c95) Z) (zf 11 fd91_0 Z Z (zl 12 pl3 Z Z (Own.cell 7 Z Z) ?_)))
    obtain ⟨c99, c101, c103, c105, c107, c109, hm110⟩ := cs6 hm96; clear hm96
    refine wz 13 Z Z (QV.quo Z Z Z Z c99 c101) (wz 14 Z Z (QV.add Z Z Z Z c103) (zf 15 fd79_1 Z Z (zl 16 pl3 Z Z (Own.cell 1 Z Z) (wz 17 Z Z (QV.sub Z Z Z Z c105) (zf 18 fd75_1 Z Z (zl 19 pl3 rfl rfl (Own.cellG (c := i64v) (xs := b55n_6) 2 rfl c107 (by first | rfl | exact addr_lit _)) (wz 20 Z Z (QV.sub Z Z Z Z c109) (zf 21 fd28_2 Z Z (zl 22 pl3 Z Z (Own.cell 8 Z Z) ?_)))))))))
    obtain ⟨x111, hx112, hm113⟩ := bd_some hm110; clear hm110
    refine wz 23 Z Z (QV.call en37 (ec Z (ec Z eN)) (fun w hw => have h := emit_Rest_w w hx112 ; h)) (wz 24 Z Z (QV.assign Z Z) ?_)
    refine WD.e (by kernel_rfl) ?_
    refine WQ.then (WC.region (wf fd75_4 Z (wf fd75_5 Z (wq Z (QV.build (ps := [(0, .tmp 123), (1, .tmp 124)]) (cells := [.pointer (some (⟨b55, 4, none⟩)), .pointer (some (⟨b55, 5, none⟩))]) (ec Z (ec Z eN)) (by kernel_rfl)) (wm Z ?_)))))
    obtain ⟨c114, c116, c118, hm119⟩ := cs3 hm113; clear hm113
    refine wq Z (QV.indexPtrsO (b := b55) (m := 2) (off := 4) Try.underlying173 pl172 sz172 Z Z Z Z c114) (wm Z (wq Z (QV.nilCheck Z Z) (WL.effect Z ?_)))
    refine (EV.storeB (c := i64v) (xs := b55n_6) 1 (4 + x94_6) x111 rfl rfl rfl rfl rfl (by first | rfl | exact addr_dyn0 | exact addr_lit _ | exact addr_dyn (c114).1) c116 rfl rfl sz3 ?_)
    refine WL.nil (WQ.block (WQ.then (WC.region (wq Z (QV.add Z Z Z Z c118) (wm Z (WL.nil ?_))))))
    exact WQ.again2 (upd b55n_6 (4 + x94_6) x111) (x94_6 + 1) m80 (up_next hm119 hn83) (Nat.lt_succ_self _) ⟨Z, Z, Z, Z, Z, Z, Z, Z, Z, Z, Z, Z, trivial⟩ (pk [1, 2, 3, 4, 5, 6, 7, 8, 9])
   refine WC.exit (te (te (WQ.block_exit ?_)))
   exact WQ.out2 b55n_6 x94_6 (up_brk hm120 hn83) ⟨Z, Z, Z, Z, Z, Z, Z, Z, Z, Z, Z, Z, trivial⟩ (pk [0, 1, 2, 3, 4, 5, 6, 7, 8])
  refine WC.exit (te (te (WQ.block_exit ?_)))
  exact WQ.out5 v17_5 b16c1_5 x55_5 uv17_5 k_5 ⟨up_brk hm121 hn29, hlv17_5, hle_5⟩ ⟨Z, Z, Z, Z, Z, Z, Z, Z, trivial⟩ (pk [0, 1, 2, 3, 4, 5, 6])
 rintro x35_1 m122 hI123
 obtain ⟨m124, s125, rfl, hm126, hn127⟩ := iter_step hI123; clear hI123; unfold emit_Emit_L0 at hm126
 refine sr (wq Z (QV.lss Z Z Z Z) (nt (WC.seq ?_)))
 refine wc Z hm126 (fun h128 hm129 => ?_) (fun h128 hm139 => ?_) <;> clear hm126
 ·skip
  refine sk (WQ.then (WC.seq (WC.block (sr ?_))))
  obtain ⟨c130, hm131⟩ := cs hm129; clear hm129
  obtain ⟨p132, hp133⟩ := h_dests.lenMap.ix (sz := 1) ln_len c130
  refine wq Z (QV.indexSlice sl22 Z Z Z Z hp133) (wl pl3 Z (fun w hw => CellsAt.one 0 (((Own.karr 4 Z hk h_dests) w hw).ele hp133 c130) Z) (wa Z (ns (wm Z (wq Z (QV.lss Z Z Z Z) (wm Z (gn Z (fun hG => QV.move Z Z) (gn Z (fun hG => QV.fieldAddr fd28_2 Z Z) (gn Z (fun hG => QV.load pl3 Z hG (Own.cell 2 Z Z)) ?_)))))))))
  refine gn Z (fun hG => QV.geq Z hG Z hG) (wq Z (QV.pickOr Z Z Z (fun h => notF h)) (nt ?_))
  refine wc Z hm131 (fun h134 hm135 => ?_) (fun h134 hm136 => ?_) <;> clear hm131
  ·skip
   refine sr (wq Z (QV.build (ps := []) (cells := [i_ 0, i_ 0, .slice none 0 0]) eN (by kernel_rfl)) (WL.effect Z ?_))
   refine (EV.store 0 Z Z Z Z Z Z (vs := [i_ 0, i_ 0, .slice none 0 0]) (show Value.cells _ = List.toArray _ from Z) sz31 (nl Z) (oc Z (oc Z (oc Z one_nil))) ?_)
   refine wa Z (nt (WC.ret (kr (tr (tr (kr (tr (tr ?_))))))))
   obtain rfl := up_ret hm135 hn127
   obtain rfl := (eq_of_some hm13).symm
   refine WQ.retCellTmp Z ag31 Z Z Z (Own.cellsBlk 0 Z) (fun w hw => ?_)
   exact ⟨(.slice none 0 0, K0), Z, hw.pick [4] (by decide), Arr.nil⟩
  refine sk (WQ.block (WQ.then (WC.region ?_)))
  obtain ⟨c137, hm138⟩ := cs hm136; clear hm136
  refine wq Z (QV.add Z Z Z Z c137) (wm Z (WL.nil ?_))
  exact WQ.again1 (x35_1 + 1) m124 (up_next hm138 hn127) (Nat.lt_succ_self _) ⟨Z, Z, Z, Z, Z, Z, Z, Z, trivial⟩ (pk [0, 1, 2, 3, 4])
 refine WC.exit (te (te (WQ.block_exit ?_)))
 exact WQ.out1 x35_1 (up_brk hm139 hn127) ⟨Z, Z, Z, Z, Z, Z, Z, Z, trivial⟩ (pk [0, 1, 2, 3, 4])
end Go.Proofs.Ytaimbkndebaaiac
end
section
namespace Go.Proofs.Ytaimbkndebaaiac
open Go.Rd
open TNum TLoop TKern TKeep TOrd TCpt TDep TSched1 TEmit
namespace TCheck
theorem en28 : Go.Rd.Enters Try.prog 28 := eT Try.func28
theorem en56 : Go.Rd.Enters Try.prog 56 := eT Try.func56
theorem en60 : Go.Rd.Enters Try.prog 60 := eT Try.func60
theorem en61 : Go.Rd.Enters Try.prog 61 := eT Try.func61
theorem en63 : Go.Rd.Enters Try.prog 63 := eT Try.func63
theorem en64 : Go.Rd.Enters Try.prog 64 := eT Try.func64
theorem eq81 : EqT Try.prog 81 9 := ⟨by kernel_rfl, ⟨_, Try.underlying81⟩, by kernel_rfl, by kernel_rfl⟩
theorem sz22 : SizeT Try.prog 22 1 := by unfold SizeT; kernel_rfl
theorem ve22 : VecT Try.prog 22 3 1 8 := ⟨Try.underlying22, by kernel_rfl, by decide⟩
end TCheck
open TCheck
theorem check_layout_w {v_l_logs v_l_body v_l_outs v_k__ops v_order : Value} {l : Lp} {t : Tgt} {k_ : Krn} {order : List Int} {r : Option LayT × Bool} {K0 : World} (hm : check_layout_m l t k_ order = some r) (h_l_logs : Arr K0 v_l_logs 1 (l.logs.map icell)) (h_l_body : Arr K0 v_l_body 9 (l.body.map Stm.cells)) (h_l_outs : Arr K0 v_l_outs 1 (l.outs.map icell)) (h_k__ops : Arr K0 v_k__ops 10 (k_.ops.map Opr.cells)) (h_order : Arr K0 v_order 1 (order.map icell)) (M : Nat → Prop) (w : World) (hk : Base M K0 w) (hw0 : Own M w [] w) : Calls Try.prog 60 #[.agg #[v_l_logs, v_l_body, v_l_outs], .agg #[.int .i64 t.u0, .int .i64 t.u1, .int .i64 t.u2, .int .i64 t.w0, .int .i64 t.w1, .int .i64 t.w2, .int .i64 t.regs], .agg #[.int .i64 k_.pace, .int .i64 k_.stages, v_k__ops], v_order] w (fun e w' => ∃ X : Value × World, e = .returned (.tuple #[X.1, .bool r.2]) ∧ Own M w (kn M w.heap.size K0 X.2 :: []) w' ∧ LayAt X.2 X.1 r.1) := by
 unfold check_layout_m at hm
 refine calls_of_WC (n := 138) (args := [.agg #[v_l_logs, v_l_body, v_l_outs], .agg #[i_ t.u0, i_ t.u1, i_ t.u2, i_ t.w0, i_ t.w1, i_ t.w2, i_ t.regs], .agg #[i_ k_.pace, i_ k_.stages, v_k__ops], v_order]) Try.func60 Z Z (nl Z) ?_ (Own.startK hk hw0)
 refine sr (WL.effect Z ?_)
 refine (EV.boxAgg (by decide) Z Z (fun b1 => ?_))
 refine WL.effect Z ?_
 refine (EV.boxAgg (by decide) Z Z (fun b2 => ?_))
 refine WL.effect Z ?_
 refine (EV.boxAgg (by decide) Z Z (fun b3 => ?_))
 refine wa Z (wa Z (nt (WC.seq (sr (wq Z (QV.loadAgg ag25 Z Z Z (Own.cellsBlk 2 Z)) ?_)))))
 obtain ⟨x4, hx5, hm6⟩ := bd_some hm; clear hm
 refine wq Z (QV.call en38 (ec Z eN) (fun w hw => have h := loop_May_w w hx5 ((Own.karr 3 Z hk h_l_logs) w hw) ((Own.karr 3 Z hk h_l_body) w hw) ((Own.karr 3 Z hk h_l_outs) w hw); h)) (wq Z (QV.not Z Z) (wm Z (gn Z (fun hG => QV.loadAgg ag28 Z Z Z (Own.cellsBlk 1 Z)) (gn Z (fun hG => QV.loadAgg ag31 Z Z Z (Own.cellsBlk 0 Z)) (gn Z (fun hG => QV.fieldAddr fd25_0 Z Z) (gn Z (fun hG => QV.load pl22 Z hG (Own.cell 2 Z Z)) ?_))))))
 obtain ⟨x7, hx8, hm9⟩ := bdG_some hm6; clear hm6
 refine gn Z (fun hG => QV.call en56 (EvAll.cons Z hG (EvAll.cons Z hG (EvAll.cons Z hG eN))) (fun w hw => have h := kernel_May_w w (hx8 hG) ((Own.karr 3 Z hk h_k__ops) w hw) ((Own.karr 3 Z hk h_l_logs) w hw); h)) (gn Z (fun hG => QV.not Z hG) (wq Z (QV.pickOr Z Z Z (fun h => notF h)) (wm Z (gn Z (fun hG => QV.fieldAddr fd31_2 Z Z) (gn Z (fun hG => QV.load pl29 Z hG (Own.cell 0 Z Z)) (gn Z (fun hG => QV.lenS Try.underlying29 Z hG h_k__ops.lenMap) (gn Z (fun hG => QV.fieldAddr fd25_1 Z Z) (gn Z (fun hG => QV.load pl23 Z hG (Own.cell 2 Z Z)) (gn Z (fun hG => QV.lenS Try.underlying23 Z hG h_l_body.lenMap) ?_)))))))))
 refine gn Z (fun hG => QV.neq Z hG Z hG) (wq Z (QV.pickOr Z Z Z (fun h => notF h)) (wm Z (gn Z (fun hG => QV.move Z Z) (gn Z (fun hG => QV.lenS Try.underlying22 Z hG h_order.lenMap) (gn Z (fun hG => QV.fieldAddr fd25_1 Z Z) (gn Z (fun hG => QV.load pl23 Z hG (Own.cell 2 Z Z)) (gn Z (fun hG => QV.lenS Try.underlying23 Z hG h_l_body.lenMap) (gn Z (fun hG => QV.neq Z hG Z hG) (wq Z (QV.pickOr Z Z Z (fun h => notF h)) ?_)))))))))
 refine nt ?_
 refine wc Z hm9 (fun h10 hm11 => ?_) (fun h10 hm12 => ?_) <;> clear hm9
 ·skip
  refine sr (wa Z (wa Z (nt (WC.ret (tr ?_)))))
  obtain rfl := (eq_of_some hm11).symm
  refine WQ.ret2 Z Z Z (fun w hw => ?_)
  exact ⟨(.pointer none, K0), Z, hw.pick [3] (by decide), LayAt.none⟩
 refine sk (WQ.then (sr (wq Z (QV.loadAgg ag25 Z Z Z (Own.cellsBlk 2 Z)) (wf fd31_0 Z (wl pl3 Z (Own.cell 0 Z Z) (wf fd28_2 Z (wl pl3 Z (Own.cell 1 Z Z) (wq Z (QV.buildS (ps := [(0, .tmp 44), (1, .tmp 46), (2, .tmp 48)]) (cells := [v_l_logs, v_l_body, v_l_outs, i_ k_.pace, i_ t.regs, .slice none 0 0, .slice none 0 0, .slice none 0 0]) (css := [[v_l_logs, v_l_body, v_l_outs], [i_ k_.pace], [i_ t.regs]]) (ec Z (ec Z (ec Z eN))) (CellsAll.cons Z (CellsAll.cons Z (CellsAll.cons Z CellsAll.nil))) (by kernel_rfl)) (WL.effect Z ?_)))))))))
 refine (EV.boxAgg (by decide) Z Z (fun b13 => ?_))
 refine wa Z (ns (WL.effect Z ?_))
 refine (EV.makeMap (ke := kI) (ve := bv) (by decide) (fun b14 => ?_))
 refine wa Z (nt (WC.seq (sr (wm Z (wq Z (QV.lenS Try.underlying22 Z Z h_order.lenMap) (wm Z (nt ?_)))))))
 refine WK.of (fun w hw => hw.vecNil (E := 3) (sz := 1) (enc := icell)) ?_
 refine WK.of (fun w hw => hw.vecNil (E := 3) (sz := 1) (enc := icell)) ?_
 refine WK.of (fun w hw => hw.vecNil (E := 3) (sz := 1) (enc := icell)) ?_
 obtain ⟨o18, ho19, hm20⟩ := bd_some hm12; clear hm12; obtain ⟨n21, ho22⟩ := lp_some ho19
 refine WC.bloop8 (H2 := [blk b3 [i_ k_.pace, i_ k_.stages, v_k__ops] 31, blk b2 t.cells 28, blk b1 [v_l_logs, v_l_body, v_l_outs] 25, kn M w.heap.size K0 K0]) (τ := [u_ 4 _, u_ 5 _, u_ 6 _, u_ 10 _, u_ 11 _, u_ 52 _, u_ 53 _]) (fun (v17_1 : List Int) (v16_1 : List Int) (v15_1 : List Int) (m14n_1 : List (Int × Bool)) (x54_1 : Int) (uv17_1 : Value) (uv16_1 : Value) (uv15_1 : Value) => [(54, (true, i_ x54_1))]) (fun v17_1 v16_1 v15_1 m14n_1 x54_1 uv17_1 uv16_1 uv15_1 => [vec uv17_1 3 1 (List.map icell v17_1), vec uv16_1 3 1 (List.map icell v16_1), vec uv15_1 3 1 (List.map icell v15_1), mapR b14 kI bv m14n_1, blk b13 [v_l_logs, v_l_body, v_l_outs, i_ k_.pace, i_ t.regs, uv15_1, uv16_1, uv17_1] 87]) (fun v17_1 v16_1 v15_1 m14n_1 x54_1 uv17_1 uv16_1 uv15_1 m => iter (check_layout_L0 l t k_ order) m (v17_1, v16_1, v15_1, m14n_1, x54_1) = some o18 ∧ SliceLen uv17_1 v17_1.length ∧ SliceLen uv16_1 v16_1.length ∧ SliceLen uv15_1 v15_1.length) (fun v17_1 v16_1 v15_1 m14n_1 x54_1 uv17_1 uv16_1 uv15_1 => o18 = .go (v17_1, v16_1, v15_1, m14n_1, x54_1) ∧ SliceLen uv17_1 v17_1.length ∧ SliceLen uv16_1 v16_1.length ∧ SliceLen uv15_1 v15_1.length) [] [] [] ([] : List (Int × Bool)) 0 (.slice none 0 0) (.slice none 0 0) (.slice none 0 0) n21 ⟨ho22, SliceLen.nil, SliceLen.nil, SliceLen.nil⟩ ⟨Z, Z, Z, Z, Z, Z, Z, Z, trivial⟩ (pk [0, 1, 2, 3, 4, 5, 6, 7, 8]) ?_ ?_
 ·skip
  rintro v17_1 v16_1 v15_1 m14n_1 x54_1 uv17_1 uv16_1 uv15_1 ⟨rfl, hlv17_1, hlv16_1, hlv15_1⟩
  refine WQ.then (sr (wm Z (wa Z (wa Z (nt (WC.ret ?_))))))
  obtain rfl := (eq_of_some hm20).symm
  refine WK.of (C' := Own M w [kn M w.heap.size K0 K0, vec uv15_1 3 1 (List.map icell v15_1), vec uv17_1 3 1 (List.map icell v17_1), vec uv16_1 3 1 (List.map icell v16_1), mapR b14 kI bv m14n_1, blk b13 [v_l_logs, v_l_body, v_l_outs, i_ k_.pace, i_ t.regs, uv15_1, uv16_1, uv17_1] 87, blk b3 [i_ k_.pace, i_ k_.stages, v_k__ops] 31, blk b2 t.cells 28, blk b1 [v_l_logs, v_l_body, v_l_outs] 25]) (pk [8, 2, 0, 1, 3, 4, 5, 6, 7]) ?_
  refine WK.freeze hk (fun k23 hle23 hr23 => ?_)
  have hA23 := vec_arr hr23
  refine WK.of (C' := Own M w [kn M w.heap.size K0 k23, vec uv16_1 3 1 (List.map icell v16_1), vec uv17_1 3 1 (List.map icell v17_1), mapR b14 kI bv m14n_1, blk b13 [v_l_logs, v_l_body, v_l_outs, i_ k_.pace, i_ t.regs, uv15_1, uv16_1, uv17_1] 87, blk b3 [i_ k_.pace, i_ k_.stages, v_k__ops] 31, blk b2 t.cells 28, blk b1 [v_l_logs, v_l_body, v_l_outs] 25]) (pk [0, 2, 1, 3, 4, 5, 6, 7]) ?_
  refine WK.freeze hk (fun k24 hle24 hr24 => ?_)
  have hA24 := vec_arr hr24
  refine WK.freeze hk (fun k25 hle25 hr25 => ?_)
  have hA25 := vec_arr hr25
  refine WK.of (C' := Own M w [kn M w.heap.size K0 k25, blk b13 [v_l_logs, v_l_body, v_l_outs, i_ k_.pace, i_ t.regs, uv15_1, uv16_1, uv17_1] 87, mapR b14 kI bv m14n_1, blk b3 [i_ k_.pace, i_ k_.stages, v_k__ops] 31, blk b2 t.cells 28, blk b1 [v_l_logs, v_l_body, v_l_outs] 25]) (pk [0, 2, 1, 3, 4, 5]) ?_
  refine WK.freeze hk (fun k26 hle26 hr26 => ?_)
  have hc26 := blk_cells hr26
  refine WQ.ret2 Z Z Z (fun w hw => ?_)
  exact ⟨(.pointer (some (⟨b13, 0, none⟩)), k26), Z, hw.pick [0] (by decide), (LayAt.mk hc26 (h_l_logs.le (((hle23.trans hle24).trans hle25).trans hle26)) (h_l_body.le (((hle23.trans hle24).trans hle25).trans hle26)) (h_l_outs.le (((hle23.trans hle24).trans hle25).trans hle26)) (hA23.le ((hle24.trans hle25).trans hle26)) (hA24.le (hle25.trans hle26)) (hA25.le hle26))⟩
 rintro v17_1 v16_1 v15_1 m14n_1 x54_1 uv17_1 uv16_1 uv15_1 m27 ⟨hI28, hlv17_1, hlv16_1, hlv15_1⟩
 obtain ⟨m29, s30, rfl, hm31, hn32⟩ := iter_step hI28; clear hI28; unfold check_layout_L0 at hm31; simp only at hm31
 refine sr (wq Z (QV.lss Z Z Z Z) (nt (WC.seq ?_)))
 refine wc Z hm31 (fun h33 hm34 => ?_) (fun h33 hm92 => ?_) <;> clear hm31
 ·skip
  refine sk (WQ.then (WC.seq (WC.block (sr (wm Z ?_)))))
  obtain ⟨c35, hm36⟩ := cs hm34; clear hm34
  obtain ⟨p37, hp38⟩ := h_order.lenMap.ix (sz := 1) ln_len c35
  refine wq Z (QV.indexSlice sl22 Z Z Z Z hp38) (wl pl3 Z (fun w hw => CellsAt.one 0 (((Own.karr 8 Z hk h_order) w hw).ele hp38 c35) Z) (wa Z (wa Z (nt (WC.seq (sr (wm Z (wq Z (QV.lss Z Z Z Z) (wm Z (gn Z (fun hG => QV.move Z Z) (gn Z (fun hG => QV.fieldAddr fd31_2 Z Z) ?_)))))))))))
  refine gn Z (fun hG => QV.load pl29 Z hG (Own.cell 5 Z Z)) (gn Z (fun hG => QV.lenS Try.underlying29 Z hG h_k__ops.lenMap) (gn Z (fun hG => QV.geq Z hG Z hG) (wq Z (QV.pickOr Z Z Z (fun h => notF h)) (wm Z (gn Z (fun hG => QV.move Z Z) (gn Z (fun hG => QV.move Z Z) (gn Z (fun hG => QV.lookup (k := (ele order x54_1)) 3 false mt154 kt3 zv4bv Z hG Z hG Z) (wq Z (QV.pickOr Z Z Z (fun h => notF h)) (nt ?_)))))))))
  refine wc Z hm36 (fun h39 hm40 => ?_) (fun h39 hm41 => ?_) <;> clear hm36
  ·skip
   refine sr (wa Z (wa Z (nt (WC.ret (tr (kr (tr (tr (kr (tr (tr ?_)))))))))))
   obtain rfl := up_ret hm40 hn32
   obtain rfl := (eq_of_some hm20).symm
   refine WQ.ret2 Z Z Z (fun w hw => ?_)
   exact ⟨(.pointer none, K0), Z, hw.pick [8] (by decide), LayAt.none⟩
  refine sk (WQ.then (sr (wm Z (wm Z (WL.effect Z ?_)))))
  refine (EV.mapUpdate (ke := kI) (ve := bv) (ele order x54_1) 3 true mt154 kt3 Z Z Z Z Z Z Z ?_)
  refine nt (WC.seq (WC.dr (m := 14) (S := Own M w [kn M w.heap.size K0 K0, vec uv17_1 3 1 (List.map icell v17_1), vec uv16_1 3 1 (List.map icell v16_1), vec uv15_1 3 1 (List.map icell v15_1), mapR b14 kI bv (mput m14n_1 (ele order x54_1) true), blk b13 [v_l_logs, v_l_body, v_l_outs, i_ k_.pace, i_ t.regs, uv15_1, uv16_1, uv17_1] 87, blk b3 [i_ k_.pace, i_ k_.stages, v_k__ops] 31, blk b2 t.cells 28, blk b1 [v_l_logs, v_l_body, v_l_outs] 25]) (by kernel_rfl) (by kernel_rfl) (pk [8, 0, 1, 2, 3, 4, 5, 6, 7]) ?_))
  refine WD.toL 0 (by kernel_rfl) ?_
  refine WD.qL 0 0 1 Z (by kernel_rfl) Z Z Z (QV.fieldAddr fd31_2 Z Z) ?_
  refine WD.qL 1 1 3 Z (by kernel_rfl) Z Z Z (QV.load pl29 Z Z (Own.cell 6 Z Z)) ?_
  refine WD.qL 2 3 7 Z (by kernel_rfl) Z Z Z (QV.move Z Z) ?_
  obtain ⟨c42, hm43⟩ := cs hm41; clear hm41
  obtain ⟨p44, hp45⟩ := h_k__ops.lenMap.ix (sz := 10) ln_len c42
  refine WD.qL 3 7 15 Z (by kernel_rfl) Z Z Z (QV.indexSlice sl29 Z Z Z Z hp45) ?_
  refine WD.qL 4 15 31 Z (by kernel_rfl) Z Z Z (QV.loadAgg ag75 Z Z Z (fun w hw => ((Own.karr 0 Z hk h_k__ops) w hw).ele hp45 c42)) ?_
  refine WD.qL 5 31 63 Z (by kernel_rfl) Z Z Z (QV.fieldAddr fd25_1 Z Z) ?_
  refine WD.qL 6 63 127 Z (by kernel_rfl) Z Z Z (QV.load pl23 Z Z (Own.cell 8 Z Z)) ?_
  refine WD.qL 7 127 255 Z (by kernel_rfl) Z Z Z (QV.move Z Z) ?_
  obtain ⟨c46, hm47⟩ := cs hm43; clear hm43
  obtain ⟨p48, hp49⟩ := h_l_body.lenMap.ix (sz := 9) ln_len c46
  refine WD.qL 8 255 511 Z (by kernel_rfl) Z Z Z (QV.indexSlice sl23 Z Z Z Z hp49) ?_
  refine WD.qL 9 511 1023 Z (by kernel_rfl) Z Z Z (QV.loadAgg ag81 Z Z Z (fun w hw => ((Own.karr 0 Z hk h_l_body) w hw).ele hp49 c46)) ?_
  refine WD.cut2 (fun (b50 : Nat) (b51 : Nat) => [(4, (true, .pointer (some (⟨b1, 0, none⟩)))), (5, (true, .pointer (some (⟨b2, 0, none⟩)))), (6, (true, .pointer (some (⟨b3, 0, none⟩)))), (10, (true, .pointer (some (⟨b13, 0, none⟩)))), (11, (true, .map (some b14))), (14, (true, .pointer (some (⟨b50, 0, none⟩)))), (15, (true, .pointer (some (⟨b51, 0, none⟩)))), (52, (true, v_order)), (53, (true, i_ (ln order))), (54, (true, i_ x54_1))]) (fun (b50 : Nat) (b51 : Nat) => Own M w [blk b51 (Stm.cells (ele l.body x54_1)) 81, blk b50 (Opr.cells (ele k_.ops (ele order x54_1))) 75, vec uv17_1 3 1 (List.map icell v17_1), vec uv16_1 3 1 (List.map icell v16_1), vec uv15_1 3 1 (List.map icell v15_1), mapR b14 kI bv (mput m14n_1 (ele order x54_1) true), blk b13 [v_l_logs, v_l_body, v_l_outs, i_ k_.pace, i_ t.regs, uv15_1, uv16_1, uv17_1] 87, blk b3 [i_ k_.pace, i_ k_.stages, v_k__ops] 31, blk b2 t.cells 28, blk b1 [v_l_logs, v_l_body, v_l_outs] 25, kn M w.heap.size K0 K0]) ?_ ?_
  ·skip
   rintro b50 b51
   refine WQ.then (sr (wq Z (QV.build (ps := []) (cells := [i_ 0, i_ 0]) eN (by kernel_rfl)) (wq Z (QV.build (ps := []) (cells := [i_ 0, i_ 0]) eN (by kernel_rfl)) (wf fd81_1 Z (WL.effect Z ?_)))))
   refine (EV.store 0 Z Z Z Z Z Z (vs := [i_ 0, i_ 0]) (show Value.cells _ = List.toArray _ from Z) sz79 (nl Z) (oc Z (oc Z one_nil)) ?_)
   refine wf fd81_2 Z (WL.effect Z ?_)
   refine (EV.store 0 Z Z Z Z Z Z (vs := [i_ 0, i_ 0]) (show Value.cells _ = List.toArray _ from Z) sz79 (nl Z) (oc Z (oc Z one_nil)) ?_)
   refine nt (WC.seq (WC.seq (WC.dr (m := 4) (S := Own M w [kn M w.heap.size K0 K0, blk b51 [i_ ((ele l.body x54_1).op), i_ 0, i_ 0, i_ 0, i_ 0, i_ ((ele l.body x54_1).ar), i_ ((ele l.body x54_1).sp), i_ ((ele l.body x54_1).pl), i_ ((ele l.body x54_1).n)] 81, blk b50 (Opr.cells (ele k_.ops (ele order x54_1))) 75, vec uv17_1 3 1 (List.map icell v17_1), vec uv16_1 3 1 (List.map icell v16_1), vec uv15_1 3 1 (List.map icell v15_1), mapR b14 kI bv (mput m14n_1 (ele order x54_1) true), blk b13 [v_l_logs, v_l_body, v_l_outs, i_ k_.pace, i_ t.regs, uv15_1, uv16_1, uv17_1] 87, blk b3 [i_ k_.pace, i_ k_.stages, v_k__ops] 31, blk b2 t.cells 28, blk b1 [v_l_logs, v_l_body, v_l_outs] 25]) (by kernel_rfl) (by kernel_rfl) (pk [10, 0, 1, 2, 3, 4, 5, 6, 7, 8, 9]) ?_)))
   refine wz 0 Z Z (QV.loadAgg ag75 Z Z Z (Own.cellsBlk 2 Z)) ?_
   obtain ⟨x52, hx53, hm54⟩ := bd_some hm47; clear hm47
   refine wz 1 Z Z (QV.call en95 (ec Z eN) (fun w hw => have h := kernel_Stmt_w w hx53 ; h)) (wz 2 Z Z (QV.loadAgg ag81 Z Z Z (Own.cellsBlk 1 Z)) (wz 3 Z Z (QV.neqF eq81 (ns := [x52.op, x52.a.st, x52.a.bk, x52.b.st, x52.b.bk, x52.ar, x52.sp, x52.pl, x52.n]) (ms := [(ele l.body x54_1).op, 0, 0, 0, 0, (ele l.body x54_1).ar, (ele l.body x54_1).sp, (ele l.body x54_1).pl, (ele l.body x54_1).n]) Z Z Z Z Z Z) ?_))
   refine WD.e (by kernel_rfl) ?_
   refine WQ.then ?_
   refine wc Z hm54 (fun h55 hm56 => ?_) (fun h55 hm57 => ?_) <;> clear hm54
   ·skip
    refine sr (wa Z (wa Z (nt (WC.ret (tr (kr (tr (tr (kr (tr (tr ?_)))))))))))
    obtain rfl := up_ret hm56 hn32
    obtain rfl := (eq_of_some hm20).symm
    refine WQ.ret2 Z Z Z (fun w hw => ?_)
    exact ⟨(.pointer none, K0), Z, hw.pick [10] (by decide), LayAt.none⟩
   refine sk (WQ.then (WC.seq (WC.dr (m := 13) (S := Own M w [kn M w.heap.size K0 K0, blk b51 [i_ ((ele l.body x54_1).op), i_ 0, i_ 0, i_ 0, i_ 0, i_ ((ele l.body x54_1).ar), i_ ((ele l.body x54_1).sp), i_ ((ele l.body x54_1).pl), i_ ((ele l.body x54_1).n)] 81, blk b50 (Opr.cells (ele k_.ops (ele order x54_1))) 75, vec uv17_1 3 1 (List.map icell v17_1), vec uv16_1 3 1 (List.map icell v16_1), mapR b14 kI bv (mput m14n_1 (ele order x54_1) true), blk b13 [v_l_logs, v_l_body, v_l_outs, i_ k_.pace, i_ t.regs, uv15_1, uv16_1, uv17_1] 87, blk b3 [i_ k_.pace, i_ k_.stages, v_k__ops] 31, blk b2 t.cells 28, blk b1 [v_l_logs, v_l_body, v_l_outs] 25]) (by kernel_rfl) (by kernel_rfl) (pk [10, 0, 1, 2, 3, 5, 6, 7, 8, 9]) ?_)))
   refine zm 0 Z Z (zm 1 Z Z (wz 2 Z Z (QV.nilCheck Z Z) (zf 3 fd87_3 Z Z (zl 4 pl22 Z Z (Own.cell 6 Z Z) (wz 5 Z Z (QV.loadAgg ag31 Z Z Z (Own.cellsBlk 7 Z)) (wz 6 Z Z (QV.loadAgg ag75 Z Z Z (Own.cellsBlk 2 Z)) ?_))))))
   obtain ⟨x58, hx59, hm60⟩ := bd_some hm57; clear hm57
   refine wz 7 Z Z (QV.call en96 (ec Z (ec Z eN)) (fun w hw => have h := kernel_Time_w w hx59 ((Own.karr 0 Z hk h_k__ops) w hw); h)) ?_
   refine WD.o 8 Z (by kernel_rfl) Z ?_
   refine (EV.buildSlice (by decide) sz_22 (by decide) (by decide) (ps := [(0, .tmp 100)]) (cells := [i_ x58]) (ec Z eN) (by kernel_rfl) (fun b61 => ?_))
   refine WD.b (H' := [kn M w.heap.size K0 K0, blk b61 [i_ x58] 3, blk b51 [i_ ((ele l.body x54_1).op), i_ 0, i_ 0, i_ 0, i_ 0, i_ ((ele l.body x54_1).ar), i_ ((ele l.body x54_1).sp), i_ ((ele l.body x54_1).pl), i_ ((ele l.body x54_1).n)] 81, blk b50 (Opr.cells (ele k_.ops (ele order x54_1))) 75, vec uv17_1 3 1 (List.map icell v17_1), vec uv16_1 3 1 (List.map icell v16_1), mapR b14 kI bv (mput m14n_1 (ele order x54_1) true), blk b13 [v_l_logs, v_l_body, v_l_outs, i_ k_.pace, i_ t.regs, uv15_1, uv16_1, uv17_1] 87, blk b3 [i_ k_.pace, i_ k_.stages, v_k__ops] 31, blk b2 t.cells 28, blk b1 [v_l_logs, v_l_body, v_l_outs] 25]) (pk [11, 0, 1, 2, 3, 4, 6, 7, 8, 9, 10]) (pk [0, 2, 3, 4, 5, 6, 7, 8, 9, 10]) ?_
   refine WD.o 9 Z (by kernel_rfl) Z ?_
   obtain ⟨c62, hm63⟩ := cs hm60; clear hm60
   refine (EV.appendL (enc := icell) (xs := v15_1) (ys := [x58]) ((v15_1 ++ [x58])) 5 (by decide) ve22 Z Z Z Z Z (Own.blkArr 0 (rows := [x58].map icell) Z Z (rows_len icell_len)) icell_len (icell_one _) Z c62.1 c62.2 (fun u64 hu65 => ?_))
   refine WD.b (H' := [kn M w.heap.size K0 K0, blk b61 [i_ x58] 3, blk b51 [i_ ((ele l.body x54_1).op), i_ 0, i_ 0, i_ 0, i_ 0, i_ ((ele l.body x54_1).ar), i_ ((ele l.body x54_1).sp), i_ ((ele l.body x54_1).pl), i_ ((ele l.body x54_1).n)] 81, blk b50 (Opr.cells (ele k_.ops (ele order x54_1))) 75, vec uv17_1 3 1 (List.map icell v17_1), vec uv16_1 3 1 (List.map icell v16_1), vec u64 3 1 (List.map icell (v15_1 ++ [x58])), mapR b14 kI bv (mput m14n_1 (ele order x54_1) true), blk b13 [v_l_logs, v_l_body, v_l_outs, i_ k_.pace, i_ t.regs, uv15_1, uv16_1, uv17_1] 87, blk b3 [i_ k_.pace, i_ k_.stages, v_k__ops] 31, blk b2 t.cells 28, blk b1 [v_l_logs, v_l_body, v_l_outs] 25]) (pk [11, 0, 1, 2, 3, 4, 5, 6, 7, 8, 9, 10]) (pk [0, 1, 2, 3, 4, 5, 7, 8, 9, 10, 11]) ?_
   refine wz 10 Z Z (QV.nilCheck Z Z) (zf 11 fd87_3 Z Z ?_)
   refine WD.l 12 Z (by kernel_rfl) Z ?_
   refine (EV.store 7 Z Z Z Z Z Z (vs := [u64]) (SliceLen.cells hu65) sz22 (nl Z) (oc (SliceLen.one hu65) one_nil) ?_)
   refine WQ.then (WC.seq (WC.dr (m := 18) (S := Own M w [kn M w.heap.size K0 K0, blk b61 [i_ x58] 3, blk b51 [i_ ((ele l.body x54_1).op), i_ 0, i_ 0, i_ 0, i_ 0, i_ ((ele l.body x54_1).ar), i_ ((ele l.body x54_1).sp), i_ ((ele l.body x54_1).pl), i_ ((ele l.body x54_1).n)] 81, blk b50 (Opr.cells (ele k_.ops (ele order x54_1))) 75, vec uv17_1 3 1 (List.map icell v17_1), vec u64 3 1 (List.map icell (v15_1 ++ [x58])), mapR b14 kI bv (mput m14n_1 (ele order x54_1) true), blk b13 [v_l_logs, v_l_body, v_l_outs, i_ k_.pace, i_ t.regs, u64, uv16_1, uv17_1] 87, blk b3 [i_ k_.pace, i_ k_.stages, v_k__ops] 31, blk b2 t.cells 28, blk b1 [v_l_logs, v_l_body, v_l_outs] 25]) (by kernel_rfl) (by kernel_rfl) (pk [11, 0, 1, 2, 3, 5, 6, 7, 8, 9, 10]) ?_))
   refine zm 0 Z Z (zm 1 Z Z (wz 2 Z Z (QV.nilCheck Z Z) (zf 3 fd87_4 Z Z (zl 4 pl22 Z Z (Own.cell 7 Z Z) (wz 5 Z Z (QV.loadAgg ag31 Z Z Z (Own.cellsBlk 8 Z)) (wz 6 Z Z (QV.loadAgg ag75 Z Z Z (Own.cellsBlk 3 Z)) ?_))))))
   obtain ⟨x66, hx67, hm68⟩ := bd_some hm63; clear hm63
   refine wz 7 Z Z (QV.call en96 (ec Z (ec Z eN)) (fun w hw => have h := kernel_Time_w w hx67 ((Own.karr 0 Z hk h_k__ops) w hw); h)) (wz 8 Z Z (QV.loadAgg ag28 Z Z Z (Own.cellsBlk 9 Z)) (zf 9 fd75_2 Z Z (zl 10 pl3 Z Z (Own.cell 3 Z Z) ?_)))
   obtain ⟨x69, hx70, hm71⟩ := bd_some hm68; clear hm68
   refine wz 11 Z Z (QV.call en69 (ec Z (ec Z eN)) (fun w hw => have h := target_Wait_w w hx70 ; h)) ?_
   obtain ⟨c72, c75, c79, c82, c86, hm87⟩ := cs5 hm71; clear hm71
   refine wz 12 Z Z (QV.add Z Z Z Z c72) ?_
   refine WD.o 13 Z (by kernel_rfl) Z ?_
   refine (EV.buildSlice (by decide) sz_22 (by decide) (by decide) (ps := [(0, .tmp 117)]) (cells := [i_ (x66 + x69)]) (ec Z eN) (by kernel_rfl) (fun b74 => ?_))
   refine WD.b (H' := [kn M w.heap.size K0 K0, blk b74 [i_ (x66 + x69)] 3, blk b61 [i_ x58] 3, blk b51 [i_ ((ele l.body x54_1).op), i_ 0, i_ 0, i_ 0, i_ 0, i_ ((ele l.body x54_1).ar), i_ ((ele l.body x54_1).sp), i_ ((ele l.body x54_1).pl), i_ ((ele l.body x54_1).n)] 81, blk b50 (Opr.cells (ele k_.ops (ele order x54_1))) 75, vec uv17_1 3 1 (List.map icell v17_1), vec u64 3 1 (List.map icell (v15_1 ++ [x58])), mapR b14 kI bv (mput m14n_1 (ele order x54_1) true), blk b13 [v_l_logs, v_l_body, v_l_outs, i_ k_.pace, i_ t.regs, u64, uv16_1, uv17_1] 87, blk b3 [i_ k_.pace, i_ k_.stages, v_k__ops] 31, blk b2 t.cells 28, blk b1 [v_l_logs, v_l_body, v_l_outs] 25]) (pk [12, 0, 1, 2, 3, 4, 6, 7, 8, 9, 10, 11]) (pk [0, 2, 3, 4, 5, 6, 7, 8, 9, 10, 11]) ?_
   refine WD.o 14 Z (by kernel_rfl) Z ?_
   refine (EV.appendL (enc := icell) (xs := v16_1) (ys := [(x66 + x69)]) ((v16_1 ++ [(x66 + x69)])) 5 (by decide) ve22 Z Z Z Z Z (Own.blkArr 0 (rows := [(x66 + x69)].map icell) Z Z (rows_len icell_len)) icell_len (icell_one _) Z c75.1 c75.2 (fun u77 hu78 => ?_))
   refine WD.b (H' := [kn M w.heap.size K0 K0, blk b74 [i_ (x66 + x69)] 3, blk b61 [i_ x58] 3, blk b51 [i_ ((ele l.body x54_1).op), i_ 0, i_ 0, i_ 0, i_ 0, i_ ((ele l.body x54_1).ar), i_ ((ele l.body x54_1).sp), i_ ((ele l.body x54_1).pl), i_ ((ele l.body x54_1).n)] 81, blk b50 (Opr.cells (ele k_.ops (ele order x54_1))) 75, vec uv17_1 3 1 (List.map icell v17_1), vec u77 3 1 (List.map icell (v16_1 ++ [(x66 + x69)])), vec u64 3 1 (List.map icell (v15_1 ++ [x58])), mapR b14 kI bv (mput m14n_1 (ele order x54_1) true), blk b13 [v_l_logs, v_l_body, v_l_outs, i_ k_.pace, i_ t.regs, u64, uv16_1, uv17_1] 87, blk b3 [i_ k_.pace, i_ k_.stages, v_k__ops] 31, blk b2 t.cells 28, blk b1 [v_l_logs, v_l_body, v_l_outs] 25]) (pk [12, 0, 1, 2, 3, 4, 5, 6, 7, 8, 9, 10, 11]) (pk [0, 1, 2, 3, 4, 5, 7, 8, 9, 10, 11, 12]) ?_
   refine wz 15 Z Z (QV.nilCheck Z Z) (zf 16 fd87_4 Z Z ?_)
   refine WD.l 17 Z (by kernel_rfl) Z ?_
   refine (EV.store 8 Z Z Z Z Z Z (vs := [u77]) (SliceLen.cells hu78) sz22 (nl Z) (oc (SliceLen.one hu78) one_nil) ?_)
   refine WQ.then (WC.dr (m := 15) (S := Own M w [kn M w.heap.size K0 K0, blk b74 [i_ (x66 + x69)] 3, blk b61 [i_ x58] 3, blk b51 [i_ ((ele l.body x54_1).op), i_ 0, i_ 0, i_ 0, i_ 0, i_ ((ele l.body x54_1).ar), i_ ((ele l.body x54_1).sp), i_ ((ele l.body x54_1).pl), i_ ((ele l.body x54_1).n)] 81, blk b50 (Opr.cells (ele k_.ops (ele order x54_1))) 75, vec u77 3 1 (List.map icell (v16_1 ++ [(x66 + x69)])), vec u64 3 1 (List.map icell (v15_1 ++ [x58])), mapR b14 kI bv (mput m14n_1 (ele order x54_1) true), blk b13 [v_l_logs, v_l_body, v_l_outs, i_ k_.pace, i_ t.regs, u64, u77, uv17_1] 87, blk b3 [i_ k_.pace, i_ k_.stages, v_k__ops] 31, blk b2 t.cells 28, blk b1 [v_l_logs, v_l_body, v_l_outs] 25]) (by kernel_rfl) (by kernel_rfl) (pk [12, 0, 1, 2, 3, 5, 6, 7, 8, 9, 10, 11]) ?_)
   refine zm 0 Z Z (zm 1 Z Z (wz 2 Z Z (QV.nilCheck Z Z) (zf 3 fd87_5 Z Z (zl 4 pl22 Z Z (Own.cell 8 Z Z) (zf 5 fd75_3 Z Z (zl 6 pl3 Z Z (Own.cell 4 Z Z) (zf 7 fd75_1 Z Z (zl 8 pl3 Z Z (Own.cell 4 Z Z) (wz 9 Z Z (QV.add Z Z Z Z c79) ?_)))))))))
   refine WD.o 10 Z (by kernel_rfl) Z ?_
   refine (EV.buildSlice (by decide) sz_22 (by decide) (by decide) (ps := [(0, .tmp 131)]) (cells := [i_ ((ele k_.ops (ele order x54_1)).dest + (ele k_.ops (ele order x54_1)).stage)]) (ec Z eN) (by kernel_rfl) (fun b81 => ?_))
   refine WD.b (H' := [kn M w.heap.size K0 K0, blk b81 [i_ ((ele k_.ops (ele order x54_1)).dest + (ele k_.ops (ele order x54_1)).stage)] 3, blk b74 [i_ (x66 + x69)] 3, blk b61 [i_ x58] 3, blk b51 [i_ ((ele l.body x54_1).op), i_ 0, i_ 0, i_ 0, i_ 0, i_ ((ele l.body x54_1).ar), i_ ((ele l.body x54_1).sp), i_ ((ele l.body x54_1).pl), i_ ((ele l.body x54_1).n)] 81, blk b50 (Opr.cells (ele k_.ops (ele order x54_1))) 75, vec u77 3 1 (List.map icell (v16_1 ++ [(x66 + x69)])), vec u64 3 1 (List.map icell (v15_1 ++ [x58])), mapR b14 kI bv (mput m14n_1 (ele order x54_1) true), blk b13 [v_l_logs, v_l_body, v_l_outs, i_ k_.pace, i_ t.regs, u64, u77, uv17_1] 87, blk b3 [i_ k_.pace, i_ k_.stages, v_k__ops] 31, blk b2 t.cells 28, blk b1 [v_l_logs, v_l_body, v_l_outs] 25]) (pk [13, 0, 1, 2, 3, 4, 6, 7, 8, 9, 10, 11, 12]) (pk [0, 2, 3, 4, 5, 6, 7, 8, 9, 10, 11, 12]) ?_
   refine WD.o 11 Z (by kernel_rfl) Z ?_
   refine (EV.appendL (enc := icell) (xs := v17_1) (ys := [((ele k_.ops (ele order x54_1)).dest + (ele k_.ops (ele order x54_1)).stage)]) ((v17_1 ++ [((ele k_.ops (ele order x54_1)).dest + (ele k_.ops (ele order x54_1)).stage)])) 5 (by decide) ve22 Z Z Z Z Z (Own.blkArr 0 (rows := [((ele k_.ops (ele order x54_1)).dest + (ele k_.ops (ele order x54_1)).stage)].map icell) Z Z (rows_len icell_len)) icell_len (icell_one _) Z c82.1 c82.2 (fun u84 hu85 => ?_))
   refine WD.b (H' := [kn M w.heap.size K0 K0, blk b81 [i_ ((ele k_.ops (ele order x54_1)).dest + (ele k_.ops (ele order x54_1)).stage)] 3, blk b74 [i_ (x66 + x69)] 3, blk b61 [i_ x58] 3, blk b51 [i_ ((ele l.body x54_1).op), i_ 0, i_ 0, i_ 0, i_ 0, i_ ((ele l.body x54_1).ar), i_ ((ele l.body x54_1).sp), i_ ((ele l.body x54_1).pl), i_ ((ele l.body x54_1).n)] 81, blk b50 (Opr.cells (ele k_.ops (ele order x54_1))) 75, vec u84 3 1 (List.map icell (v17_1 ++ [((ele k_.ops (ele order x54_1)).dest + (ele k_.ops (ele order x54_1)).stage)])), vec u77 3 1 (List.map icell (v16_1 ++ [(x66 + x69)])), vec u64 3 1 (List.map icell (v15_1 ++ [x58])), mapR b14 kI bv (mput m14n_1 (ele order x54_1) true), blk b13 [v_l_logs, v_l_body, v_l_outs, i_ k_.pace, i_ t.regs, u64, u77, uv17_1] 87, blk b3 [i_ k_.pace, i_ k_.stages, v_k__ops] 31, blk b2 t.cells 28, blk b1 [v_l_logs, v_l_body, v_l_outs] 25]) (pk [13, 0, 1, 2, 3, 4, 5, 6, 7, 8, 9, 10, 11, 12]) (pk [0, 1, 2, 3, 4, 5, 7, 8, 9, 10, 11, 12, 13]) ?_
   refine wz 12 Z Z (QV.nilCheck Z Z) (zf 13 fd87_5 Z Z ?_)
   refine WD.l 14 Z (by kernel_rfl) Z ?_
   refine (EV.store 9 Z Z Z Z Z Z (vs := [u84]) (SliceLen.cells hu85) sz22 (nl Z) (oc (SliceLen.one hu85) one_nil) ?_)
   refine WQ.block (WQ.then (WC.region (wq Z (QV.add Z Z Z Z c86) (wm Z (WL.nil ?_)))))
   exact WQ.again8 (v17_1 ++ [((ele k_.ops (ele order x54_1)).dest + (ele k_.ops (ele order x54_1)).stage)]) (v16_1 ++ [(x66 + x69)]) (v15_1 ++ [x58]) (mput m14n_1 (ele order x54_1) true) (x54_1 + 1) u84 u77 u64 m29 ⟨up_next hm87 hn32, hu85, hu78, hu65⟩ (Nat.lt_succ_self _) ⟨Z, Z, Z, Z, Z, Z, Z, Z, trivial⟩ (pk [5, 6, 7, 8, 9, 10, 11, 12, 13])
  refine WD.two 10 11 1023 2047 3071 (by kernel_rfl) Z Z Z Z (by kernel_rfl) (by kernel_rfl) ?_ ?_
  ·skip
   refine (EV.alloc (by decide) ze75 (fun b88 => ?_))
   refine WD.b (H' := [kn M w.heap.size K0 K0, vec uv17_1 3 1 (List.map icell v17_1), vec uv16_1 3 1 (List.map icell v16_1), vec uv15_1 3 1 (List.map icell v15_1), mapR b14 kI bv (mput m14n_1 (ele order x54_1) true), blk b13 [v_l_logs, v_l_body, v_l_outs, i_ k_.pace, i_ t.regs, uv15_1, uv16_1, uv17_1] 87, blk b3 [i_ k_.pace, i_ k_.stages, v_k__ops] 31, blk b2 t.cells 28, blk b1 [v_l_logs, v_l_body, v_l_outs] 25]) (pk [9, 1, 2, 3, 4, 5, 6, 7, 8]) (fun w hw => hw) ?_
   refine WD.oL 11 2047 4095 Z (by kernel_rfl) Z ?_
   refine (EV.alloc (by decide) ze81 (fun b89 => ?_))
   refine WD.b (H' := [kn M w.heap.size K0 K0, vec uv17_1 3 1 (List.map icell v17_1), vec uv16_1 3 1 (List.map icell v16_1), vec uv15_1 3 1 (List.map icell v15_1), mapR b14 kI bv (mput m14n_1 (ele order x54_1) true), blk b13 [v_l_logs, v_l_body, v_l_outs, i_ k_.pace, i_ t.regs, uv15_1, uv16_1, uv17_1] 87, blk b3 [i_ k_.pace, i_ k_.stages, v_k__ops] 31, blk b2 t.cells 28, blk b1 [v_l_logs, v_l_body, v_l_outs] 25]) (pk [10, 2, 3, 4, 5, 6, 7, 8, 9]) (fun w hw => hw) ?_
   refine WD.oL 12 4095 8191 Z (by kernel_rfl) Z ?_
   refine (EV.store 1 Z Z Z Z Z Z (vs := (Opr.cells (ele k_.ops (ele order x54_1)))) (show Value.cells _ = List.toArray _ from Z) sz75 (nl Z) (oc Z (oc Z (oc Z (oc Z (oc Z (oc Z (oc Z (oc Z (oc Z (oc Z one_nil)))))))))) ?_)
   refine WD.b (H' := [kn M w.heap.size K0 K0, vec uv17_1 3 1 (List.map icell v17_1), vec uv16_1 3 1 (List.map icell v16_1), vec uv15_1 3 1 (List.map icell v15_1), mapR b14 kI bv (mput m14n_1 (ele order x54_1) true), blk b13 [v_l_logs, v_l_body, v_l_outs, i_ k_.pace, i_ t.regs, uv15_1, uv16_1, uv17_1] 87, blk b3 [i_ k_.pace, i_ k_.stages, v_k__ops] 31, blk b2 t.cells 28, blk b1 [v_l_logs, v_l_body, v_l_outs] 25]) (pk [10, 2, 3, 4, 5, 6, 7, 8, 9]) (fun w hw => hw) ?_
   refine WD.oL 13 8191 16383 Z (by kernel_rfl) Z ?_
   refine (EV.store 0 Z Z Z Z Z Z (vs := (Stm.cells (ele l.body x54_1))) (show Value.cells _ = List.toArray _ from Z) sz81 (nl Z) (oc Z (oc Z (oc Z (oc Z (oc Z (oc Z (oc Z (oc Z (oc Z one_nil))))))))) ?_)
   refine WD.b (H' := [kn M w.heap.size K0 K0, vec uv17_1 3 1 (List.map icell v17_1), vec uv16_1 3 1 (List.map icell v16_1), vec uv15_1 3 1 (List.map icell v15_1), mapR b14 kI bv (mput m14n_1 (ele order x54_1) true), blk b13 [v_l_logs, v_l_body, v_l_outs, i_ k_.pace, i_ t.regs, uv15_1, uv16_1, uv17_1] 87, blk b3 [i_ k_.pace, i_ k_.stages, v_k__ops] 31, blk b2 t.cells 28, blk b1 [v_l_logs, v_l_body, v_l_outs] 25]) (pk [10, 2, 3, 4, 5, 6, 7, 8, 9]) (fun w hw => hw) ?_
   refine WD.eL (by kernel_rfl) ?_
   exact WQ.cutEnd2 b88 b89 ⟨Z, Z, Z, Z, Z, Z, Z, Z, Z, Z, trivial⟩ (pk [0, 1, 2, 3, 4, 5, 6, 7, 8, 9, 10])
  refine (EV.alloc (by decide) ze81 (fun b90 => ?_))
  refine WD.b (H' := [kn M w.heap.size K0 K0, vec uv17_1 3 1 (List.map icell v17_1), vec uv16_1 3 1 (List.map icell v16_1), vec uv15_1 3 1 (List.map icell v15_1), mapR b14 kI bv (mput m14n_1 (ele order x54_1) true), blk b13 [v_l_logs, v_l_body, v_l_outs, i_ k_.pace, i_ t.regs, uv15_1, uv16_1, uv17_1] 87, blk b3 [i_ k_.pace, i_ k_.stages, v_k__ops] 31, blk b2 t.cells 28, blk b1 [v_l_logs, v_l_body, v_l_outs] 25]) (pk [9, 1, 2, 3, 4, 5, 6, 7, 8]) (fun w hw => hw) ?_
  refine WD.oL 10 3071 4095 Z (by kernel_rfl) Z ?_
  refine (EV.alloc (by decide) ze75 (fun b91 => ?_))
  refine WD.b (H' := [kn M w.heap.size K0 K0, vec uv17_1 3 1 (List.map icell v17_1), vec uv16_1 3 1 (List.map icell v16_1), vec uv15_1 3 1 (List.map icell v15_1), mapR b14 kI bv (mput m14n_1 (ele order x54_1) true), blk b13 [v_l_logs, v_l_body, v_l_outs, i_ k_.pace, i_ t.regs, uv15_1, uv16_1, uv17_1] 87, blk b3 [i_ k_.pace, i_ k_.stages, v_k__ops] 31, blk b2 t.cells 28, blk b1 [v_l_logs, v_l_body, v_l_outs] 25]) (pk [10, 2, 3, 4, 5, 6, 7, 8, 9]) (fun w hw => hw) ?_
  refine WD.oL 12 4095 8191 Z (by kernel_rfl) Z ?_
  refine (EV.store 0 Z Z Z Z Z Z (vs := (Opr.cells (ele k_.ops (ele order x54_1)))) (show Value.cells _ = List.toArray _ from Z) sz75 (nl Z) (oc Z (oc Z (oc Z (oc Z (oc Z (oc Z (oc Z (oc Z (oc Z (oc Z one_nil)))))))))) ?_)
  refine WD.b (H' := [kn M w.heap.size K0 K0, vec uv17_1 3 1 (List.map icell v17_1), vec uv16_1 3 1 (List.map icell v16_1), vec uv15_1 3 1 (List.map icell v15_1), mapR b14 kI bv (mput m14n_1 (ele order x54_1) true), blk b13 [v_l_logs, v_l_body, v_l_outs, i_ k_.pace, i_ t.regs, uv15_1, uv16_1, uv17_1] 87, blk b3 [i_ k_.pace, i_ k_.stages, v_k__ops] 31, blk b2 t.cells 28, blk b1 [v_l_logs, v_l_body, v_l_outs] 25]) (pk [10, 2, 3, 4, 5, 6, 7, 8, 9]) (fun w hw => hw) ?_
  refine WD.oL 13 8191 16383 Z (by kernel_rfl) Z ?_
  refine (EV.store 1 Z Z Z Z Z Z (vs := (Stm.cells (ele l.body x54_1))) (show Value.cells _ = List.toArray _ from Z) sz81 (nl Z) (oc Z (oc Z (oc Z (oc Z (oc Z (oc Z (oc Z (oc Z (oc Z one_nil))))))))) ?_)
  refine WD.b (H' := [kn M w.heap.size K0 K0, vec uv17_1 3 1 (List.map icell v17_1), vec uv16_1 3 1 (List.map icell v16_1), vec uv15_1 3 1 (List.map icell v15_1), mapR b14 kI bv (mput m14n_1 (ele order x54_1) true), blk b13 [v_l_logs, v_l_body, v_l_outs, i_ k_.pace, i_ t.regs, uv15_1, uv16_1, uv17_1] 87, blk b3 [i_ k_.pace, i_ k_.stages, v_k__ops] 31, blk b2 t.cells 28, blk b1 [v_l_logs, v_l_body, v_l_outs] 25]) (pk [10, 2, 3, 4, 5, 6, 7, 8, 9]) (fun w hw => hw) ?_
  refine WD.eL (by kernel_rfl) ?_
  exact WQ.cutEnd2 b91 b90 ⟨Z, Z, Z, Z, Z, Z, Z, Z, Z, Z, trivial⟩ (pk [1, 0, 2, 3, 4, 5, 6, 7, 8, 9, 10])
 refine WC.exit (te (te (WQ.block_exit ?_)))
 exact WQ.out8 v17_1 v16_1 v15_1 m14n_1 x54_1 uv17_1 uv16_1 uv15_1 ⟨up_brk hm92 hn32, hlv17_1, hlv16_1, hlv15_1⟩ ⟨Z, Z, Z, Z, Z, Z, Z, Z, trivial⟩ (pk [0, 1, 2, 3, 4, 5, 6, 7, 8])
theorem check_named_w {v_l_logs v_l_body v_l_outs v_k__ops v_order : Value} {p_y : Addr} {v_y_Loop_Logs v_y_Loop_Body v_y_Loop_Outs v_y_Time v_y_Ready v_y_Places : Value} {l : Lp} {t : Tgt} {k_ : Krn} {order : List Int} {y_Pace y_Regs : Int} {y_Places : List Int} {r : Bool} (w : World) (hm : check_named_m l t k_ order y_Pace y_Regs y_Places = some r) (h_l_logs : Arr w v_l_logs 1 (l.logs.map icell)) (h_l_body : Arr w v_l_body 9 (l.body.map Stm.cells)) (h_l_outs : Arr w v_l_outs 1 (l.outs.map icell)) (h_k__ops : Arr w v_k__ops 10 (k_.ops.map Opr.cells)) (h_order : Arr w v_order 1 (order.map icell)) (h_y_Places : Arr w v_y_Places 1 (y_Places.map icell)) (hp_y : CellsAt w p_y [v_y_Loop_Logs, v_y_Loop_Body, v_y_Loop_Outs, .int .i64 y_Pace, .int .i64 y_Regs, v_y_Time, v_y_Ready, v_y_Places] 0) : Calls Try.prog 61 #[.agg #[v_l_logs, v_l_body, v_l_outs], .agg #[.int .i64 t.u0, .int .i64 t.u1, .int .i64 t.u2, .int .i64 t.w0, .int .i64 t.w1, .int .i64 t.w2, .int .i64 t.regs], .agg #[.int .i64 k_.pace, .int .i64 k_.stages, v_k__ops], v_order, .pointer (some p_y)] w (fun e w' => e = .returned (.bool r) ∧ Grow w w') := by
 unfold check_named_m at hm
 have hk := Base.rfl (w := w)
 refine calls_of_WC (n := 67) (args := [.agg #[v_l_logs, v_l_body, v_l_outs], .agg #[i_ t.u0, i_ t.u1, i_ t.u2, i_ t.w0, i_ t.w1, i_ t.w2, i_ t.regs], .agg #[i_ k_.pace, i_ k_.stages, v_k__ops], v_order, .pointer (some p_y)]) Try.func61 Z Z (nl Z) ?_ (Own.startK hk (Own.start w))
 refine sr (WL.effect Z ?_)
 refine (EV.boxAgg (by decide) Z Z (fun b1 => ?_))
 refine WL.effect Z ?_
 refine (EV.boxAgg (by decide) Z Z (fun b2 => ?_))
 refine WL.effect Z ?_
 refine (EV.boxAgg (by decide) Z Z (fun b3 => ?_))
 refine wa Z (nt (WC.seq (sr (wf fd25_1 Z (wl pl23 Z (Own.cell 2 Z Z) (wq Z (QV.lenS Try.underlying23 Z Z h_l_body.lenMap) (wm Z (nt ?_))))))))
 obtain ⟨o4, ho5, hm6⟩ := bd_some hm; clear hm; obtain ⟨n7, ho8⟩ := lp_some ho5
 refine WC.bloop2 (H2 := [blk b3 [i_ k_.pace, i_ k_.stages, v_k__ops] 31, blk b2 t.cells 28, blk b1 [v_l_logs, v_l_body, v_l_outs] 25]) (τ := [u_ 3 _, u_ 4 _, u_ 6 _, u_ 7 _, u_ 17 _, u_ 18 _]) (fun (x19_3 : Int) (k_3 : World) => [(19, (true, i_ x19_3))]) (fun x19_3 k_3 => [kn noM w.heap.size w k_3]) (fun x19_3 k_3 m => iter (check_named_L0 l t k_ order y_Places) m x19_3 = some o4 ∧ Le w k_3) (fun x19_3 k_3 => o4 = .go x19_3 ∧ Le w k_3) 0 w n7 ⟨ho8, (Le.refl _)⟩ ⟨Z, Z, Z, Z, Z, Z, Z, trivial⟩ (pk [3, 0, 1, 2]) ?_ ?_
 ·skip
  rintro x19_3 k_3 ⟨rfl, hle_3⟩
  refine WQ.then (sr (wa Z (nt (WC.ret ?_))))
  obtain rfl := (eq_of_some hm6).symm
  exact WQ.ret1 Z Z fun w hw => kg hw
 rintro x19_3 k_3 m9 ⟨hI10, hle_3⟩
 obtain ⟨m11, s12, rfl, hm13, hn14⟩ := iter_step hI10; clear hI10; unfold check_named_L0 at hm13
 refine sr (wq Z (QV.lss Z Z Z Z) (nt (WC.seq ?_)))
 refine wc Z hm13 (fun h15 hm16 => ?_) (fun h15 hm74 => ?_) <;> clear hm13
 ·skip
  refine sk (WQ.then (WC.seq (WC.block (sr (wm Z ?_)))))
  obtain ⟨c17, hm18⟩ := cs hm16; clear hm16
  obtain ⟨p19, hp20⟩ := (h_l_body.le hle_3).lenMap.ix (sz := 9) ln_len c17
  refine wq Z (QV.indexSlice sl23 Z Z Z Z hp20) (wq Z (QV.loadAgg ag81 Z Z Z (fun w hw => ((Own.karr 0 Z hk (h_l_body.le hle_3)) w hw).ele hp20 c17)) (WL.effect Z ?_))
  refine (EV.alloc (by decide) ze81 (fun b21 => ?_))
  refine wa Z (WL.effect Z ?_)
  refine (EV.store 0 Z Z Z Z Z Z (vs := (Stm.cells (ele l.body x19_3))) (show Value.cells _ = List.toArray _ from Z) sz81 (nl Z) (oc Z (oc Z (oc Z (oc Z (oc Z (oc Z (oc Z (oc Z (oc Z one_nil))))))))) ?_)
  refine nt (WC.seq (WC.dr (m := 10) (S := Own noM w [kn noM w.heap.size w k_3, blk b21 (Stm.cells (ele l.body x19_3)) 81, blk b3 [i_ k_.pace, i_ k_.stages, v_k__ops] 31, blk b2 t.cells 28, blk b1 [v_l_logs, v_l_body, v_l_outs] 25]) (by kernel_rfl) (by kernel_rfl) (pk [1, 0, 2, 3, 4]) (zf 0 fd31_2 Z Z (zl 1 pl29 Z Z (Own.cell 2 Z Z) (zm 2 Z Z (zm 3 Z Z ?_))))))
  obtain ⟨c22, hm23⟩ := cs hm18; clear hm18
  obtain ⟨p24, hp25⟩ := (h_order.le hle_3).lenMap.ix (sz := 1) ln_len c22
  refine wz 4 Z Z (QV.indexSlice sl22 Z Z Z Z hp25) (zl 5 pl3 Z Z (fun w hw => CellsAt.one 0 (((Own.karr 0 Z hk (h_order.le hle_3)) w hw).ele hp25 c22) Z) ?_)
  obtain ⟨c26, hm27⟩ := cs hm23; clear hm23
  obtain ⟨p28, hp29⟩ := (h_k__ops.le hle_3).lenMap.ix (sz := 10) ln_len c26
  refine wz 6 Z Z (QV.indexSlice sl29 Z Z Z Z hp29) (wz 7 Z Z (QV.loadAgg ag75 Z Z Z (fun w hw => ((Own.karr 0 Z hk (h_k__ops.le hle_3)) w hw).ele hp29 c26)) ?_)
  refine WD.o 8 Z (by kernel_rfl) Z ?_
  refine (EV.alloc (by decide) ze75 (fun b30 => ?_))
  refine WD.b (H' := [kn noM w.heap.size w k_3, blk b30 [i_ 0, i_ 0, i_ 0, i_ 0, i_ 0, i_ 0, i_ 0, i_ 0, i_ 0, i_ 0] 75, blk b21 (Stm.cells (ele l.body x19_3)) 81, blk b3 [i_ k_.pace, i_ k_.stages, v_k__ops] 31, blk b2 t.cells 28, blk b1 [v_l_logs, v_l_body, v_l_outs] 25]) (pk [2, 0, 1, 3, 4, 5]) (pk [0, 2, 3, 4, 5]) ?_
  refine WD.l 9 Z (by kernel_rfl) Z ?_
  refine (EV.store 0 Z Z Z Z Z Z (vs := (Opr.cells (ele k_.ops (ele order x19_3)))) (show Value.cells _ = List.toArray _ from Z) sz75 (nl Z) (oc Z (oc Z (oc Z (oc Z (oc Z (oc Z (oc Z (oc Z (oc Z (oc Z one_nil)))))))))) ?_)
  refine WQ.then (sr (wq Z (QV.loadAgg ag81 Z Z Z (Own.cellsBlk 1 Z)) (WL.effect Z ?_)))
  obtain ⟨x31, hx32, hm33⟩ := bd_some hm27; clear hm27
  refine EV.of (C' := Own noM w [kn noM w.heap.size w k_3, blk b30 (Opr.cells (ele k_.ops (ele order x19_3))) 75, blk b21 (Stm.cells (ele l.body x19_3)) 81, blk b3 [i_ k_.pace, i_ k_.stages, v_k__ops] 31, blk b2 t.cells 28, blk b1 [v_l_logs, v_l_body, v_l_outs] 25]) (pk [2, 0, 1, 3, 4, 5]) ?_
  refine (EV.callR (X := Value × World) (R := []) (fun X => X.1) (fun X => []) (fun X => X.2) (fun X => Arr X.2 X.1 2 (x31.map Rf.cells)) hk (fun _ h => by cases h; decide) en66 (ec Z eN) (fun M w h1 h2 => have h := loop_Uses_w hx32  M w h1 h2; h) (fun X34 hF34 hle34 => ?_))
  refine wq Z (QV.lenS Try.underlying76 Z Z hF34.lenMap) (wm Z (nt ?_))
  obtain ⟨o35, ho36, hm37⟩ := bd_some hm33; clear hm33; obtain ⟨n38, ho39⟩ := lp_some ho36
  refine WC.bloop1 (H2 := [kn noM w.heap.size w X34.2, blk b30 (Opr.cells (ele k_.ops (ele order x19_3))) 75, blk b21 (Stm.cells (ele l.body x19_3)) 81, blk b3 [i_ k_.pace, i_ k_.stages, v_k__ops] 31, blk b2 t.cells 28, blk b1 [v_l_logs, v_l_body, v_l_outs] 25]) (τ := [u_ 3 _, u_ 4 _, u_ 6 _, u_ 7 _, u_ 13 _, u_ 17 _, u_ 18 _, u_ 19 _, u_ 33 _, u_ 34 _]) (fun (x35_4 : Int) => [(35, (true, i_ x35_4))]) (fun x35_4 => []) (fun x35_4 m => iter (check_named_L2 t k_ order y_Places x19_3 x31) m x35_4 = some o35) (fun x35_4 => o35 = .go x35_4) 0 n38 ho39 ⟨Z, Z, Z, Z, Z, Z, Z, Z, Z, Z, Z, trivial⟩ (pk [0, 1, 2, 3, 4, 5]) ?_ ?_
  ·skip
   rintro x35_4 rfl
   refine WQ.block (WQ.then (WC.region ?_))
   obtain ⟨c40, hm41⟩ := cs hm37; clear hm37
   refine wq Z (QV.add Z Z Z Z c40) (wm Z (WL.nil ?_))
   exact WQ.again2 (x19_3 + 1) X34.2 m11 ⟨up_next hm41 hn14, (hle_3.trans hle34)⟩ (Nat.lt_succ_self _) ⟨Z, Z, Z, Z, Z, Z, Z, trivial⟩ (pk [0, 3, 4, 5])
  rintro x35_4 m42 hI43
  obtain ⟨m44, s45, rfl, hm46, hn47⟩ := iter_step hI43; clear hI43; unfold check_named_L2 at hm46
  refine sr (wq Z (QV.lss Z Z Z Z) (nt (WC.seq ?_)))
  refine wc Z hm46 (fun h48 hm49 => ?_) (fun h48 hm73 => ?_) <;> clear hm46
  ·skip
   refine sk (WQ.then (WC.seq (WC.block (sr (wm Z ?_)))))
   obtain ⟨c50, hm51⟩ := cs hm49; clear hm49
   obtain ⟨p52, hp53⟩ := hF34.lenMap.ix (sz := 2) ln_len c50
   refine wq Z (QV.indexSlice sl76 Z Z Z Z hp53) (wq Z (QV.loadAgg ag79 Z Z Z (fun w hw => ((Own.karr 0 Z hk hF34) w hw).ele hp53 c50)) (WL.effect Z ?_))
   refine (EV.alloc (by decide) ze79 (fun b54 => ?_))
   refine wa Z (WL.effect Z ?_)
   refine (EV.store 0 Z Z Z Z Z Z (vs := [i_ ((ele x31 x35_4).st), i_ ((ele x31 x35_4).bk)]) (show Value.cells _ = List.toArray _ from Z) sz79 (nl Z) (oc Z (oc Z one_nil)) ?_)
   refine nt (WC.seq (WC.dr (m := 25) (S := Own noM w [kn noM w.heap.size w X34.2, blk b54 [i_ ((ele x31 x35_4).st), i_ ((ele x31 x35_4).bk)] 79, blk b30 (Opr.cells (ele k_.ops (ele order x19_3))) 75, blk b21 (Stm.cells (ele l.body x19_3)) 81, blk b3 [i_ k_.pace, i_ k_.stages, v_k__ops] 31, blk b2 t.cells 28, blk b1 [v_l_logs, v_l_body, v_l_outs] 25]) (by kernel_rfl) (by kernel_rfl) (pk [1, 0, 2, 3, 4, 5, 6]) (zf 0 fd75_4 Z Z (zl 1 pl3 Z Z (Own.cell 2 Z Z) (zf 2 fd75_5 Z Z (zl 3 pl3 Z Z (Own.cell 2 Z Z) (wz 4 Z Z (QV.build (ps := [(0, .tmp 41), (1, .tmp 43)]) (cells := [i_ ((ele k_.ops (ele order x19_3)).a), i_ ((ele k_.ops (ele order x19_3)).b)]) (ec Z (ec Z eN)) (by kernel_rfl)) (zm 5 Z Z ?_))))))))
   obtain ⟨c55, c57, hm58⟩ := cs2 hm51; clear hm51
   refine wz 6 Z Z (QV.indexL (xs := ([(ele k_.ops (ele order x19_3)).a, (ele k_.ops (ele order x19_3)).b] : List Int)) Try.underlying146 pl3 sz3 Z Z Z Z Z c55) (zm 7 Z Z (wz 8 Z Z (QV.nilCheck Z Z) (zf 9 fd87_5 Z Z (zl 10 pl22 Z Z (fun w hw => CellsAt.one 7 ((Own.kcells 0 Z hk (hp_y.le (hle_3.trans hle34))) w hw) Z) (zf 11 fd79_0 Z Z (zl 12 pl3 Z Z (Own.cell 1 Z Z) ?_))))))
   obtain ⟨p59, hp60⟩ := (h_y_Places.le (hle_3.trans hle34)).lenMap.ix (sz := 1) ln_len c57
   refine wz 13 Z Z (QV.indexSlice sl22 Z Z Z Z hp60) (zl 14 pl3 Z Z (fun w hw => CellsAt.one 0 (((Own.karr 0 Z hk (h_y_Places.le (hle_3.trans hle34))) w hw).ele hp60 c57) Z) (zf 15 fd79_1 Z Z (zl 16 pl3 Z Z (Own.cell 1 Z Z) ?_)))
   obtain ⟨c61, c63, hm64⟩ := cs2 hm58; clear hm58
   refine wz 17 Z Z (QV.sub Z Z Z Z c61) (zf 18 fd75_1 Z Z (zl 19 pl3 Z Z (Own.cell 2 Z Z) (wz 20 Z Z (QV.sub Z Z Z Z c63) (zf 21 fd28_2 Z Z (zl 22 pl3 Z Z (Own.cell 5 Z Z) ?_)))))
   obtain ⟨x65, hx66, hm67⟩ := bd_some hm64; clear hm64
   refine wz 23 Z Z (QV.call en37 (ec Z (ec Z eN)) (fun w hw => have h := emit_Rest_w w hx66 ; h)) (wz 24 Z Z (QV.neq Z Z Z Z) ?_)
   refine WD.e (by kernel_rfl) ?_
   refine WQ.then ?_
   refine wc Z hm67 (fun h68 hm69 => ?_) (fun h68 hm70 => ?_) <;> clear hm67
   ·skip
    refine sr (wa Z (nt (WC.ret (kr (tr (tr (kr (tr (kr (tr (tr (kr (tr (tr ?_))))))))))))))
    obtain rfl := up_ret hm69 hn47
    obtain rfl := up_ret hm37 hn14
    obtain rfl := (eq_of_some hm6).symm
    exact WQ.ret1 Z Z fun w hw => kg hw
   refine sk (WQ.block (WQ.then (WC.region ?_)))
   obtain ⟨c71, hm72⟩ := cs hm70; clear hm70
   refine wq Z (QV.add Z Z Z Z c71) (wm Z (WL.nil ?_))
   exact WQ.again1 (x35_4 + 1) m44 (up_next hm72 hn47) (Nat.lt_succ_self _) ⟨Z, Z, Z, Z, Z, Z, Z, Z, Z, Z, Z, trivial⟩ (pk [1, 2, 3, 4, 5, 6])
  refine WC.exit (te (te (WQ.block_exit ?_)))
  exact WQ.out1 x35_4 (up_brk hm73 hn47) ⟨Z, Z, Z, Z, Z, Z, Z, Z, Z, Z, Z, trivial⟩ (pk [0, 1, 2, 3, 4, 5])
 refine WC.exit (te (te (WQ.block_exit ?_)))
 exact WQ.out2 x19_3 k_3 ⟨up_brk hm74 hn14, hle_3⟩ ⟨Z, Z, Z, Z, Z, Z, Z, trivial⟩ (pk [0, 1, 2, 3])
theorem check_takes_w {v_l_logs v_l_body v_l_outs v_k__ops v_order : Value} {l : Lp} {t : Tgt} {k_ : Krn} {order : List Int} {r : Option LayT × Bool} {K0 : World} (hm : check_takes_m l t k_ order = some r) (h_l_logs : Arr K0 v_l_logs 1 (l.logs.map icell)) (h_l_body : Arr K0 v_l_body 9 (l.body.map Stm.cells)) (h_l_outs : Arr K0 v_l_outs 1 (l.outs.map icell)) (h_k__ops : Arr K0 v_k__ops 10 (k_.ops.map Opr.cells)) (h_order : Arr K0 v_order 1 (order.map icell)) (M : Nat → Prop) (w : World) (hk : Base M K0 w) (hw0 : Own M w [] w) : Calls Try.prog 28 #[.agg #[v_l_logs, v_l_body, v_l_outs], .agg #[.int .i64 t.u0, .int .i64 t.u1, .int .i64 t.u2, .int .i64 t.w0, .int .i64 t.w1, .int .i64 t.w2, .int .i64 t.regs], .agg #[.int .i64 k_.pace, .int .i64 k_.stages, v_k__ops], v_order] w (fun e w' => ∃ X : Value × World, e = .returned (.tuple #[X.1, .bool r.2]) ∧ Own M w (kn M w.heap.size K0 X.2 :: []) w' ∧ LayAt X.2 X.1 r.1) := by
 unfold check_takes_m at hm
 refine calls_of_WC (n := 104) (args := [.agg #[v_l_logs, v_l_body, v_l_outs], .agg #[i_ t.u0, i_ t.u1, i_ t.u2, i_ t.w0, i_ t.w1, i_ t.w2, i_ t.regs], .agg #[i_ k_.pace, i_ k_.stages, v_k__ops], v_order]) Try.func28 Z Z (nl Z) ?_ (Own.startK hk hw0)
 refine sr (WL.effect Z ?_)
 refine (EV.boxAgg (by decide) Z Z (fun b1 => ?_))
 refine WL.effect Z ?_
 refine (EV.boxAgg (by decide) Z Z (fun b2 => ?_))
 refine WL.effect Z ?_
 refine (EV.boxAgg (by decide) Z Z (fun b3 => ?_))
 refine wa Z (wa Z (ns (wq Z (QV.loadAgg ag25 Z Z Z (Own.cellsBlk 2 Z)) (wq Z (QV.loadAgg ag28 Z Z Z (Own.cellsBlk 1 Z)) (wq Z (QV.loadAgg ag31 Z Z Z (Own.cellsBlk 0 Z)) (wm Z (WL.effect Z ?_)))))))
 obtain ⟨x4, hx5, hm6⟩ := bd_some hm; clear hm
 refine EV.of (C' := Own M w [kn M w.heap.size K0 K0, blk b3 [i_ k_.pace, i_ k_.stages, v_k__ops] 31, blk b2 t.cells 28, blk b1 [v_l_logs, v_l_body, v_l_outs] 25]) (pk [3, 0, 1, 2]) ?_
 refine (EV.callR (X := Value × World) (R := []) (fun X => .tuple #[X.1, .bool x4.2]) (fun X => []) (fun X => X.2) (fun X => LayAt X.2 X.1 x4.1) hk (fun _ h => by cases h; decide) en60 (ec Z (ec Z (ec Z (ec Z eN)))) (fun M w h1 h2 => have h := check_layout_w hx5 h_l_logs h_l_body h_l_outs h_k__ops h_order M w h1 h2; h) (fun X7 hF7 hle7 => ?_))
 rcases hE8 : x4.1 with _ | y9
 ·skip
  have hm10 := optC_none hE8 hm6; clear hm6
  obtain ⟨c11, hm12⟩ := cs hm10; clear hm10
  have e13 := LayAt.nil hF7 hE8
  rw [e13, c11]
  refine wm Z (wq Z (QV.extract Z Z Z) (wq Z (QV.extract Z Z Z) (wa Z (wa Z (nt (WC.seq (sr (wm Z (wq Z (QV.not Z Z) (wm Z (gn Z (fun hG => QV.loadAgg ag25 Z Z Z (Own.cellsBlk 3 Z)) ?_)))))))))))
  refine gn Z (fun hG => QV.loadAgg ag28 Z Z Z (Own.cellsBlk 2 Z)) (gn Z (fun hG => QV.loadAgg ag31 Z Z Z (Own.cellsBlk 1 Z)) (gn Z (fun hG => QV.move Z Z) (gn Z (fun hG => QV.move Z Z) ?_)))
  obtain ⟨c14, hm15⟩ := cs hm12; clear hm12
  refine gn Z (fun hG => show QV Try.prog _ _ _ (.bool false) from (c14 hG).elim) (gn Z (fun hG => QV.not Z hG) (wq Z (QV.pickOr Z Z Z (fun h => notF h)) (nt ?_)))
  refine WC.cond Z (fun h16 => ?_) (fun h16 => ?_)
  ·skip
   refine sr (wa Z (wa Z (nt (WC.ret (tr ?_)))))
   obtain rfl := (eq_of_some hm15).symm
   refine WQ.ret2 Z Z Z (fun w hw => ?_)
   exact ⟨(.pointer none, X7.2), Z, hw.pick [0] (by decide), LayAt.none⟩
  exact absurd h16 (by simp)
 have hm17 := optC_some hE8 hm6; clear hm6
 obtain ⟨p18, u18_1, u18_2, u18_3, u18_4, u18_5, u18_6, hP18, hC18, hA18_1, hA18_2, hA18_3, hA18_4, hA18_5, hA18_6⟩ := LayAt.at hF7 hE8
 rw [hP18]
 refine wm Z (wq Z (QV.extract Z Z Z) (wq Z (QV.extract Z Z Z) (wa Z (wa Z (nt (WC.seq (sr (wm Z (wq Z (QV.not Z Z) (wm Z (gn Z (fun hG => QV.loadAgg ag25 Z Z Z (Own.cellsBlk 3 Z)) ?_)))))))))))
 refine gn Z (fun hG => QV.loadAgg ag28 Z Z Z (Own.cellsBlk 2 Z)) (gn Z (fun hG => QV.loadAgg ag31 Z Z Z (Own.cellsBlk 1 Z)) (gn Z (fun hG => QV.move Z Z) (gn Z (fun hG => QV.move Z Z) ?_)))
 obtain ⟨x19, hx20, hm21⟩ := bdG_some hm17; clear hm17
 refine gn Z (fun hG => QV.call en61 (EvAll.cons Z hG (EvAll.cons Z hG (EvAll.cons Z hG (EvAll.cons Z hG (EvAll.cons Z hG eN))))) (fun w hw => have h := check_named_w w (hx20 hG) ((Own.karr 0 Z hk (h_l_logs.le hle7)) w hw) ((Own.karr 0 Z hk (h_l_body.le hle7)) w hw) ((Own.karr 0 Z hk (h_l_outs.le hle7)) w hw) ((Own.karr 0 Z hk (h_k__ops.le hle7)) w hw) ((Own.karr 0 Z hk (h_order.le hle7)) w hw) ((Own.karr 0 Z hk hA18_6) w hw) (Own.kcells 0 Z hk hC18 w hw); h)) (gn Z (fun hG => QV.not Z hG) (wq Z (QV.pickOr Z Z Z (fun h => notF h)) (nt ?_)))
 refine wc Z hm21 (fun h22 hm23 => ?_) (fun h22 hm24 => ?_) <;> clear hm21
 ·skip
  refine sr (wa Z (wa Z (nt (WC.ret (tr ?_)))))
  obtain rfl := (eq_of_some hm23).symm
  refine WQ.ret2 Z Z Z (fun w hw => ?_)
  exact ⟨(.pointer none, X7.2), Z, hw.pick [0] (by decide), LayAt.none⟩
 refine sk (WQ.then (sr (wq Z (QV.loadAgg ag25 Z Z Z (Own.cellsBlk 3 Z)) (wq Z (QV.loadAgg ag28 Z Z Z (Own.cellsBlk 2 Z)) (WL.effect Z ?_)))))
 obtain ⟨x25, hx26, hm27⟩ := bd_some hm24; clear hm24
 refine (EV.callR (X := Value × World) (R := []) (fun X => .tuple #[X.1, i_ x25.2]) (fun X => []) (fun X => X.2) (fun X => Arr X.2 X.1 4 (x25.1.map Edg.cells)) hk (fun _ h => by cases h; decide) en62 (ec Z (ec Z eN)) (fun M w h1 h2 => have h := dep_Edges_w hx26 (h_l_logs.le hle7) (h_l_body.le hle7) (h_l_outs.le hle7) M w h1 h2; h) (fun X28 hF28 hle28 => ?_))
 refine wm Z (wq Z (QV.extract Z Z Z) (wq Z (QV.extract Z Z Z) (wa Z (wa Z (nt (WC.seq (sr (wm Z (wq Z (QV.lenS Try.underlying68 Z Z hF28.lenMap) (wm Z (nt ?_)))))))))))
 obtain ⟨o29, ho30, hm31⟩ := bd_some hm27; clear hm27; obtain ⟨n32, ho33⟩ := lp_some ho30
 refine WC.bloop1 (H2 := [kn M w.heap.size K0 X28.2, blk b3 [i_ k_.pace, i_ k_.stages, v_k__ops] 31, blk b2 t.cells 28, blk b1 [v_l_logs, v_l_body, v_l_outs] 25]) (τ := [u_ 4 _, u_ 6 _, u_ 10 _, u_ 44 _, u_ 45 _]) (fun (x46_1 : Int) => [(46, (true, i_ x46_1))]) (fun x46_1 => []) (fun x46_1 m => iter (check_takes_L0 k_ y9 x25) m x46_1 = some o29) (fun x46_1 => o29 = .go x46_1) 0 n32 ho33 ⟨Z, Z, Z, Z, Z, Z, trivial⟩ (pk [0, 1, 2, 3]) ?_ ?_
 ·skip
  rintro x46_1 rfl
  refine WQ.then (sr (wa Z (nt (WC.seq (sr (wf fd25_1 Z (wl pl23 Z (Own.cell 3 Z Z) (wq Z (QV.lenS Try.underlying23 Z Z (h_l_body.le (hle7.trans hle28)).lenMap) (wm Z (nt ?_))))))))))
  refine WK.of (fun w hw => hw.vecNil (E := 3) (sz := 1) (enc := icell)) ?_
  obtain ⟨o35, ho36, hm37⟩ := bd_some hm31; clear hm31; obtain ⟨n38, ho39⟩ := lp_some ho36
  refine WC.bloop3 (H2 := [kn M w.heap.size K0 X28.2, blk b3 [i_ k_.pace, i_ k_.stages, v_k__ops] 31, blk b2 t.cells 28, blk b1 [v_l_logs, v_l_body, v_l_outs] 25]) (τ := [u_ 4 _, u_ 10 _, u_ 79 _]) (fun (v34_5 : List Int) (x80_5 : Int) (uv34_5 : Value) => [(16, (true, uv34_5)), (80, (true, i_ x80_5))]) (fun v34_5 x80_5 uv34_5 => [vec uv34_5 3 1 (List.map icell v34_5)]) (fun v34_5 x80_5 uv34_5 m => iter (check_takes_L2 l y9) m (v34_5, x80_5) = some o35 ∧ SliceLen uv34_5 v34_5.length) (fun v34_5 x80_5 uv34_5 => o35 = .go (v34_5, x80_5) ∧ SliceLen uv34_5 v34_5.length) [] 0 (.slice none 0 0) n38 ⟨ho39, SliceLen.nil⟩ ⟨Z, Z, Z, Z, Z, trivial⟩ (pk [0, 1, 2, 3, 4]) ?_ ?_
  ·skip
   rintro v34_5 x80_5 uv34_5 ⟨rfl, hlv34_5⟩
   refine WQ.then (sr (wm Z (wm Z (wm Z ?_))))
   obtain ⟨x40, hx41, hm42⟩ := bd_some hm37; clear hm37
   refine wq Z (QV.call en64 (ec Z (ec Z eN)) (fun w hw => have h := KL_Firsts_w w hx41 ((Own.karr 1 Z hk (hA18_1.le hle28)) w hw) ((Own.karr 1 Z hk (hA18_2.le hle28)) w hw) ((Own.karr 1 Z hk (hA18_3.le hle28)) w hw) ((Own.karr 1 Z hk (hA18_6.le hle28)) w hw) (Own.kcells 1 Z hk (hC18.le hle28) w hw) ((Own.vecArr 0 Z) w hw); h)) (wa Z (wa Z (nt (WC.ret ?_))))
   obtain rfl := (eq_of_some hm42).symm
   refine WQ.ret2 Z Z Z (fun w hw => ?_)
   exact ⟨(.pointer (some p18), X28.2), Z, hw.pick [1] (by decide), (LayAt.mk (hC18.le hle28) (hA18_1.le hle28) (hA18_2.le hle28) (hA18_3.le hle28) (hA18_4.le hle28) (hA18_5.le hle28) (hA18_6.le hle28))⟩
  rintro v34_5 x80_5 uv34_5 m43 ⟨hI44, hlv34_5⟩
  obtain ⟨m45, s46, rfl, hm47, hn48⟩ := iter_step hI44; clear hI44; unfold check_takes_L2 at hm47; simp only at hm47
  refine sr (wq Z (QV.lss Z Z Z Z) (nt (WC.seq ?_)))
  refine wc Z hm47 (fun h49 hm50 => ?_) (fun h49 hm80 => ?_) <;> clear hm47
  ·skip
   refine sk (WQ.then (WC.seq (WC.block (sr (wm Z (wa Z (ns (wm Z (wm Z (WL.effect Z ?_))))))))))
   refine (EV.buildSlice (by decide) sz_22 (by decide) (by decide) (ps := [(0, .tmp 84)]) (cells := [i_ x80_5]) (ec Z eN) (by kernel_rfl) (fun b51 => ?_))
   refine WL.effect Z ?_
   obtain ⟨c52, hm53⟩ := cs hm50; clear hm50
   refine (EV.appendL (enc := icell) (xs := v34_5) (ys := [x80_5]) ((v34_5 ++ [x80_5])) 1 (by decide) ve22 Z Z Z Z Z (Own.blkArr 0 (rows := [x80_5].map icell) Z Z (rows_len icell_len)) icell_len (icell_one _) Z c52.1 c52.2 (fun u54 hu55 => ?_))
   refine wa Z (ns (wf fd25_1 Z (wl pl23 Z (Own.cell 5 Z Z) (wq Z (QV.lenS Try.underlying23 Z Z (h_l_body.le (hle7.trans hle28)).lenMap) (wm Z (nt ?_))))))
   obtain ⟨o56, ho57, hm58⟩ := bd_some hm53; clear hm53; obtain ⟨n59, ho60⟩ := lp_some ho57
   refine WC.bloop1 (H2 := [blk b51 [i_ x80_5] 3, vec u54 3 1 (List.map icell (v34_5 ++ [x80_5])), kn M w.heap.size K0 X28.2, blk b3 [i_ k_.pace, i_ k_.stages, v_k__ops] 31, blk b2 t.cells 28, blk b1 [v_l_logs, v_l_body, v_l_outs] 25]) (τ := [u_ 4 _, u_ 10 _, u_ 16 _, u_ 17 _, u_ 79 _, u_ 80 _, u_ 89 _]) (fun (x90_6 : Int) => [(90, (true, i_ x90_6))]) (fun x90_6 => []) (fun x90_6 m => iter (check_takes_L4 l y9 x80_5) m x90_6 = some o56) (fun x90_6 => o56 = .go x90_6) 0 n59 ho60 ⟨Z, Z, Z, Z, Z, Z, Z, Z, trivial⟩ (pk [0, 1, 2, 3, 4, 5]) ?_ ?_
   ·skip
    rintro x90_6 rfl
    refine WQ.block (WQ.then (WC.region ?_))
    obtain ⟨c61, hm62⟩ := cs hm58; clear hm58
    refine wq Z (QV.add Z Z Z Z c61) (wm Z (WL.nil ?_))
    exact WQ.again3 (v34_5 ++ [x80_5]) (x80_5 + 1) u54 m45 ⟨up_next hm62 hn48, hu55⟩ (Nat.lt_succ_self _) ⟨Z, Z, Z, Z, Z, trivial⟩ (pk [1, 2, 3, 4, 5])
   rintro x90_6 m63 hI64
   obtain ⟨m65, s66, rfl, hm67, hn68⟩ := iter_step hI64; clear hI64; unfold check_takes_L4 at hm67
   refine sr (wq Z (QV.lss Z Z Z Z) (nt (WC.seq ?_)))
   refine wc Z hm67 (fun h69 hm70 => ?_) (fun h69 hm79 => ?_) <;> clear hm67
   ·skip
    refine sk (WQ.then (WC.seq (WC.block (sr (wm Z (wa Z (ns (wm Z (wm Z (wm Z ?_))))))))))
    obtain ⟨x71, hx72, hm73⟩ := bd_some hm70; clear hm70
    refine wq Z (QV.call en63 (ec Z (ec Z (ec Z eN))) (fun w hw => have h := KL_Apart_w w hx72 ((Own.karr 2 Z hk (hA18_2.le hle28)) w hw) ((Own.karr 2 Z hk (hA18_3.le hle28)) w hw) ((Own.karr 2 Z hk (hA18_4.le hle28)) w hw) ((Own.karr 2 Z hk (hA18_5.le hle28)) w hw) ((Own.karr 2 Z hk (hA18_6.le hle28)) w hw) (Own.kcells 2 Z hk (hC18.le hle28) w hw); h)) (wq Z (QV.not Z Z) (nt ?_))
    refine wc Z hm73 (fun h74 hm75 => ?_) (fun h74 hm76 => ?_) <;> clear hm73
    ·skip
     refine sr (wa Z (wa Z (nt (WC.ret (kr (tr (tr (kr (tr (kr (tr (tr (kr (tr (tr ?_)))))))))))))))
     obtain rfl := up_ret hm75 hn68
     obtain rfl := up_ret hm58 hn48
     obtain rfl := (eq_of_some hm37).symm
     refine WQ.ret2 Z Z Z (fun w hw => ?_)
     exact ⟨(.pointer none, X28.2), Z, hw.pick [2] (by decide), LayAt.none⟩
    refine sk (WQ.block (WQ.then (WC.region ?_)))
    obtain ⟨c77, hm78⟩ := cs hm76; clear hm76
    refine wq Z (QV.add Z Z Z Z c77) (wm Z (WL.nil ?_))
    exact WQ.again1 (x90_6 + 1) m65 (up_next hm78 hn68) (Nat.lt_succ_self _) ⟨Z, Z, Z, Z, Z, Z, Z, Z, trivial⟩ (pk [0, 1, 2, 3, 4, 5])
   refine WC.exit (te (te (WQ.block_exit ?_)))
   exact WQ.out1 x90_6 (up_brk hm79 hn68) ⟨Z, Z, Z, Z, Z, Z, Z, Z, trivial⟩ (pk [0, 1, 2, 3, 4, 5])
  refine WC.exit (te (te (WQ.block_exit ?_)))
  exact WQ.out3 v34_5 x80_5 uv34_5 ⟨up_brk hm80 hn48, hlv34_5⟩ ⟨Z, Z, Z, Z, Z, trivial⟩ (pk [0, 1, 2, 3, 4])
 rintro x46_1 m81 hI82
 obtain ⟨m83, s84, rfl, hm85, hn86⟩ := iter_step hI82; clear hI82; unfold check_takes_L0 at hm85
 refine sr (wq Z (QV.lss Z Z Z Z) (nt (WC.seq ?_)))
 refine wc Z hm85 (fun h87 hm88 => ?_) (fun h87 hm113 => ?_) <;> clear hm85
 ·skip
  refine sk (WQ.then (WC.seq (WC.block (sr ?_))))
  obtain ⟨c89, hm90⟩ := cs hm88; clear hm88
  obtain ⟨p91, hp92⟩ := hF28.lenMap.ix (sz := 4) ln_len c89
  refine wq Z (QV.indexSlice sl68 Z Z Z Z hp92) (wq Z (QV.loadAgg ag71 Z Z Z (fun w hw => ((Own.karr 0 Z hk hF28) w hw).ele hp92 c89)) (WL.effect Z ?_))
  refine (EV.alloc (by decide) ze71 (fun b93 => ?_))
  refine WL.effect Z ?_
  refine (EV.store 0 Z Z Z Z Z Z (vs := (Edg.cells (ele x25.1 x46_1))) (show Value.cells _ = List.toArray _ from Z) sz71 (nl Z) (oc Z (oc Z (oc Z (oc Z one_nil)))) ?_)
  refine nt (WC.seq (WC.dr (m := 26) (S := Own M w [kn M w.heap.size K0 X28.2, blk b93 (Edg.cells (ele x25.1 x46_1)) 71, blk b3 [i_ k_.pace, i_ k_.stages, v_k__ops] 31, blk b2 t.cells 28, blk b1 [v_l_logs, v_l_body, v_l_outs] 25]) (by kernel_rfl) (by kernel_rfl) (pk [1, 0, 2, 3, 4]) (zm 0 Z Z (wz 1 Z Z (QV.nilCheck Z Z) (zf 2 fd87_3 Z Z (zl 3 pl22 Z Z (fun w hw => CellsAt.one 5 ((Own.kcells 0 Z hk (hC18.le hle28)) w hw) Z) (zf 4 fd71_1 Z Z (zl 5 pl3 Z Z (Own.cell 1 Z Z) ?_))))))))
  obtain ⟨c94, hm95⟩ := cs hm90; clear hm90
  obtain ⟨p96, hp97⟩ := (hA18_4.le hle28).lenMap.ix (sz := 1) ln_len c94
  refine wz 6 Z Z (QV.indexSlice sl22 Z Z Z Z hp97) (zl 7 pl3 Z Z (fun w hw => CellsAt.one 0 (((Own.karr 0 Z hk (hA18_4.le hle28)) w hw).ele hp97 c94) Z) (zf 8 fd71_2 Z Z (zl 9 pl3 Z Z (Own.cell 1 Z Z) (zf 10 fd31_0 Z Z (zl 11 pl3 Z Z (Own.cell 2 Z Z) ?_)))))
  obtain ⟨c98, c100, c102, hm103⟩ := cs3 hm95; clear hm95
  refine wz 12 Z Z (QV.mul Z Z Z Z c98) (wz 13 Z Z (QV.add Z Z Z Z c100) (zm 14 Z Z (wz 15 Z Z (QV.nilCheck Z Z) (zf 16 fd87_3 Z Z (zl 17 pl22 Z Z (fun w hw => CellsAt.one 5 ((Own.kcells 0 Z hk (hC18.le hle28)) w hw) Z) (zf 18 fd71_0 Z Z (zl 19 pl3 Z Z (Own.cell 1 Z Z) ?_)))))))
  obtain ⟨p104, hp105⟩ := (hA18_4.le hle28).lenMap.ix (sz := 1) ln_len c102
  refine wz 20 Z Z (QV.indexSlice sl22 Z Z Z Z hp105) (zl 21 pl3 Z Z (fun w hw => CellsAt.one 0 (((Own.karr 0 Z hk (hA18_4.le hle28)) w hw).ele hp105 c102) Z) (zf 22 fd71_3 Z Z (zl 23 pl3 Z Z (Own.cell 1 Z Z) ?_)))
  obtain ⟨c106, hm107⟩ := cs hm103; clear hm103
  refine wz 24 Z Z (QV.add Z Z Z Z c106) (wz 25 Z Z (QV.lss Z Z Z Z) ?_)
  refine WD.e (by kernel_rfl) ?_
  refine WQ.then ?_
  refine wc Z hm107 (fun h108 hm109 => ?_) (fun h108 hm110 => ?_) <;> clear hm107
  ·skip
   refine sr (wa Z (wa Z (nt (WC.ret (kr (tr (tr (kr (tr (tr ?_))))))))))
   obtain rfl := up_ret hm109 hn86
   obtain rfl := (eq_of_some hm31).symm
   refine WQ.ret2 Z Z Z (fun w hw => ?_)
   exact ⟨(.pointer none, X28.2), Z, hw.pick [1] (by decide), LayAt.none⟩
  refine sk (WQ.block (WQ.then (WC.region ?_)))
  obtain ⟨c111, hm112⟩ := cs hm110; clear hm110
  refine wq Z (QV.add Z Z Z Z c111) (wm Z (WL.nil ?_))
  exact WQ.again1 (x46_1 + 1) m83 (up_next hm112 hn86) (Nat.lt_succ_self _) ⟨Z, Z, Z, Z, Z, Z, trivial⟩ (pk [1, 2, 3, 4])
 refine WC.exit (te (te (WQ.block_exit ?_)))
 exact WQ.out1 x46_1 (up_brk hm113 hn86) ⟨Z, Z, Z, Z, Z, Z, trivial⟩ (pk [0, 1, 2, 3])
theorem check_Takes_w {v_l_logs v_l_body v_l_outs v_k__ops v_order : Value} {l : Lp} {t : Tgt} {k_ : Krn} {order : List Int} {r : Bool} (w : World) (hm : check_Takes_m l t k_ order = some r) (h_l_logs : Arr w v_l_logs 1 (l.logs.map icell)) (h_l_body : Arr w v_l_body 9 (l.body.map Stm.cells)) (h_l_outs : Arr w v_l_outs 1 (l.outs.map icell)) (h_k__ops : Arr w v_k__ops 10 (k_.ops.map Opr.cells)) (h_order : Arr w v_order 1 (order.map icell)) : Calls Try.prog 7 #[.agg #[v_l_logs, v_l_body, v_l_outs], .agg #[.int .i64 t.u0, .int .i64 t.u1, .int .i64 t.u2, .int .i64 t.w0, .int .i64 t.w1, .int .i64 t.w2, .int .i64 t.regs], .agg #[.int .i64 k_.pace, .int .i64 k_.stages, v_k__ops], v_order] w (fun e w' => e = .returned (.bool r) ∧ Grow w w') := by
 unfold check_Takes_m at hm
 have hk := Base.rfl (w := w)
 refine calls_of_WC (n := 20) (args := [.agg #[v_l_logs, v_l_body, v_l_outs], .agg #[i_ t.u0, i_ t.u1, i_ t.u2, i_ t.w0, i_ t.w1, i_ t.w2, i_ t.regs], .agg #[i_ k_.pace, i_ k_.stages, v_k__ops], v_order]) Try.func7 Z Z (nl Z) ?_ (Own.startK hk (Own.start w))
 refine sr (WL.effect Z ?_)
 refine (EV.boxAgg (by decide) Z Z (fun b1 => ?_))
 refine WL.effect Z ?_
 refine (EV.boxAgg (by decide) Z Z (fun b2 => ?_))
 refine WL.effect Z ?_
 refine (EV.boxAgg (by decide) Z Z (fun b3 => ?_))
 refine wa Z (ns (wq Z (QV.loadAgg ag25 Z Z Z (Own.cellsBlk 2 Z)) (wq Z (QV.loadAgg ag28 Z Z Z (Own.cellsBlk 1 Z)) (wq Z (QV.loadAgg ag31 Z Z Z (Own.cellsBlk 0 Z)) (wm Z (WL.effect Z ?_))))))
 obtain ⟨x4, hx5, hm6⟩ := bd_some hm; clear hm
 refine EV.of (C' := Own noM w [kn noM w.heap.size w w, blk b3 [i_ k_.pace, i_ k_.stages, v_k__ops] 31, blk b2 t.cells 28, blk b1 [v_l_logs, v_l_body, v_l_outs] 25]) (pk [3, 0, 1, 2]) ?_
 refine (EV.callR (X := Value × World) (R := []) (fun X => .tuple #[X.1, .bool x4.2]) (fun X => []) (fun X => X.2) (fun X => LayAt X.2 X.1 x4.1) hk (fun _ h => by cases h; decide) en28 (ec Z (ec Z (ec Z (ec Z eN)))) (fun M w h1 h2 => have h := check_takes_w hx5 h_l_logs h_l_body h_l_outs h_k__ops h_order M w h1 h2; h) (fun X7 hF7 hle7 => ?_))
 rcases hE8 : x4.1 with _ | y9
 ·skip
  have hm10 := optC_none hE8 hm6; clear hm6
  obtain ⟨c11, hm12⟩ := cs hm10; clear hm10
  have e13 := LayAt.nil hF7 hE8
  rw [e13, c11]
  refine wm Z (wq Z (QV.extract Z Z Z) (wq Z (QV.extract Z Z Z) (wa Z (wa Z (ns (wm Z (wa Z (nt (WC.ret ?_)))))))))
  obtain rfl := (eq_of_some hm12).symm
  exact WQ.ret1 Z Z fun w hw => kg hw
 have hm14 := optC_some hE8 hm6; clear hm6
 obtain ⟨p15, u15_1, u15_2, u15_3, u15_4, u15_5, u15_6, hP15, hC15, hA15_1, hA15_2, hA15_3, hA15_4, hA15_5, hA15_6⟩ := LayAt.at hF7 hE8
 rw [hP15]
 refine wm Z (wq Z (QV.extract Z Z Z) (wq Z (QV.extract Z Z Z) (wa Z (wa Z (ns (wm Z (wa Z (nt (WC.ret ?_)))))))))
 obtain rfl := (eq_of_some hm14).symm
 exact WQ.ret1 Z Z fun w hw => kg hw
end Go.Proofs.Ytaimbkndebaaiac
end
section
namespace Go.Proofs.Ytaimbkndebaaiac
open Go.Rd
open TNum TLoop TKern TKeep TOrd TCpt TDep TSched1 TEmit TCheck
namespace TRegs
theorem en108 : Go.Rd.Enters Try.prog 108 := eT Try.func108
theorem en109 : Go.Rd.Enters Try.prog 109 := eT Try.func109
theorem en110 : Go.Rd.Enters Try.prog 110 := eT Try.func110
theorem en111 : Go.Rd.Enters Try.prog 111 := eT Try.func111
theorem en126 : Go.Rd.Enters Try.prog 126 := eT Try.func126
end TRegs
open TRegs
theorem regs_layout_w {v_l_logs v_l_body v_l_outs v_p_times : Value} {l : Lp} {t : Tgt} {p : Pln} {r : (List Int × List Stm × List Int × Int × Int × List Int × List Int × List Int)} {K0 : World} (hm : regs_layout_m l t p = some r) (h_l_logs : Arr K0 v_l_logs 1 (l.logs.map icell)) (h_l_body : Arr K0 v_l_body 9 (l.body.map Stm.cells)) (h_l_outs : Arr K0 v_l_outs 1 (l.outs.map icell)) (h_p_times : Arr K0 v_p_times 1 (p.times.map icell)) (M : Nat → Prop) (w : World) (hk : Base M K0 w) (hw0 : Own M w [] w) : Calls Try.prog 108 #[.agg #[v_l_logs, v_l_body, v_l_outs], .agg #[.int .i64 t.u0, .int .i64 t.u1, .int .i64 t.u2, .int .i64 t.w0, .int .i64 t.w1, .int .i64 t.w2, .int .i64 t.regs], .agg #[.int .i64 p.pace, v_p_times]] w (fun e w' => ∃ X : Nat × Value × Value × Value × Value × Value × Value × World, e = .returned (.pointer (some (⟨X.1, 0, none⟩))) ∧ Own M w (kn M w.heap.size K0 X.2.2.2.2.2.2.2 :: [blk X.1 [X.2.1, X.2.2.1, X.2.2.2.1, .int .i64 r.2.2.2.1, .int .i64 r.2.2.2.2.1, X.2.2.2.2.1, X.2.2.2.2.2.1, X.2.2.2.2.2.2.1] 87, vec X.2.2.2.2.2.2.1 3 1 (List.map icell r.2.2.2.2.2.2.2)]) w' ∧ Arr X.2.2.2.2.2.2.2 X.2.1 1 (r.1.map icell) ∧ Arr X.2.2.2.2.2.2.2 X.2.2.1 9 (r.2.1.map Stm.cells) ∧ Arr X.2.2.2.2.2.2.2 X.2.2.2.1 1 (r.2.2.1.map icell) ∧ Arr X.2.2.2.2.2.2.2 X.2.2.2.2.1 1 (r.2.2.2.2.2.1.map icell) ∧ Arr X.2.2.2.2.2.2.2 X.2.2.2.2.2.1 1 (r.2.2.2.2.2.2.1.map icell) ∧ SliceLen X.2.2.2.2.2.2.1 (r.2.2.2.2.2.2.2).length) := by
 unfold regs_layout_m at hm
 refine calls_of_WC (n := 52) (args := [.agg #[v_l_logs, v_l_body, v_l_outs], .agg #[i_ t.u0, i_ t.u1, i_ t.u2, i_ t.w0, i_ t.w1, i_ t.w2, i_ t.regs], .agg #[i_ p.pace, v_p_times]]) Try.func108 Z Z (nl Z) ?_ (Own.startK hk hw0)
 refine sr (WL.effect Z ?_)
 refine (EV.boxAgg (by decide) Z Z (fun b1 => ?_))
 refine WL.effect Z ?_
 refine (EV.boxAgg (by decide) Z Z (fun b2 => ?_))
 refine WL.effect Z ?_
 refine (EV.boxAgg (by decide) Z Z (fun b3 => ?_))
 refine wa Z (nt (WC.seq (WC.dr (m := 14) (S := Own M w [kn M w.heap.size K0 K0, blk b3 [i_ p.pace, v_p_times] 91, blk b2 t.cells 28, blk b1 [v_l_logs, v_l_body, v_l_outs] 25]) (by kernel_rfl) (by kernel_rfl) (pk [3, 0, 1, 2]) (wz 0 Z Z (QV.loadAgg ag25 Z Z Z (Own.cellsBlk 3 Z)) (zf 1 fd91_0 Z Z (zl 2 pl3 Z Z (Own.cell 1 Z Z) (zf 3 fd28_2 Z Z (zl 4 pl3 Z Z (Own.cell 2 Z Z) (zf 5 fd91_1 Z Z (zl 6 pl22 Z Z (Own.cell 1 Z Z) ?_))))))))))
 refine zf 7 fd25_1 Z Z (zl 8 pl23 Z Z (Own.cell 3 Z Z) (wz 9 Z Z (QV.lenS Try.underlying23 Z Z h_l_body.lenMap) ?_))
 refine WD.o 10 Z (by kernel_rfl) Z ?_
 obtain ⟨c4, c6, hm7⟩ := cs2 hm; clear hm
 refine (EV.makeSlice (enc := icell) (0 : Int) (by decide) ve22 ze3 Z Z c4 Z c6 (fun u8 hu9 => ?_))
 refine WD.b (H' := [kn M w.heap.size K0 K0, vec u8 3 1 (List.map icell (List.replicate (ln l.body).toNat (0 : Int))), blk b3 [i_ p.pace, v_p_times] 91, blk b2 t.cells 28, blk b1 [v_l_logs, v_l_body, v_l_outs] 25]) (pk [4, 0, 1, 2, 3]) (pk [0, 2, 3, 4]) ?_
 refine wz 11 Z Z (QV.buildS (ps := [(0, .tmp 10), (1, .tmp 12), (2, .tmp 14), (3, .tmp 16), (5, .tmp 20)]) (cells := [v_l_logs, v_l_body, v_l_outs, i_ p.pace, i_ t.regs, v_p_times, .slice none 0 0, u8]) (css := [[v_l_logs, v_l_body, v_l_outs], [i_ p.pace], [i_ t.regs], [v_p_times], [u8]]) (ec Z (ec Z (ec Z (ec Z (ec Z eN))))) (CellsAll.cons Z (CellsAll.cons Z (CellsAll.cons Z (CellsAll.cons (SliceLen.cells h_p_times.lenMap) (CellsAll.cons (SliceLen.cells hu9) CellsAll.nil))))) (by kernel_rfl)) ?_
 refine WD.o 12 Z (by kernel_rfl) Z ?_
 refine (EV.boxAgg (by decide) Z Z (fun b11 => ?_))
 refine WD.b (H' := [kn M w.heap.size K0 K0, blk b11 [v_l_logs, v_l_body, v_l_outs, i_ p.pace, i_ t.regs, v_p_times, .slice none 0 0, u8] 87, vec u8 3 1 (List.map icell (List.replicate (ln l.body).toNat (0 : Int))), blk b3 [i_ p.pace, v_p_times] 91, blk b2 t.cells 28, blk b1 [v_l_logs, v_l_body, v_l_outs] 25]) (pk [5, 0, 1, 2, 3, 4]) (pk [0, 2, 3, 4, 5]) ?_
 refine wz 13 Z Z (QV.assign Z Z) ?_
 refine WD.e (by kernel_rfl) ?_
 refine WQ.then (WC.seq (sr (wf fd25_1 Z (wl pl23 Z (Own.cell 4 Z Z) (wq Z (QV.lenS Try.underlying23 Z Z h_l_body.lenMap) (wm Z (nt ?_)))))))
 refine WK.of (fun w hw => hw.vecNil (E := 3) (sz := 1) (enc := icell)) ?_
 obtain ⟨o13, ho14, hm15⟩ := bd_some hm7; clear hm7; obtain ⟨n16, ho17⟩ := lp_some ho14
 refine WC.bloop3 (H2 := [vec u8 3 1 (List.map icell (List.replicate (ln l.body).toNat (0 : Int))), blk b3 [i_ p.pace, v_p_times] 91, blk b2 t.cells 28, blk b1 [v_l_logs, v_l_body, v_l_outs] 25, kn M w.heap.size K0 K0]) (τ := [u_ 4 _, u_ 5 _, u_ 7 _, u_ 24 _, u_ 25 _]) (fun (v12_1 : List Int) (x26_1 : Int) (uv12_1 : Value) => [(26, (true, i_ x26_1))]) (fun v12_1 x26_1 uv12_1 => [vec uv12_1 3 1 (List.map icell v12_1), blk b11 [v_l_logs, v_l_body, v_l_outs, i_ p.pace, i_ t.regs, v_p_times, uv12_1, u8] 87]) (fun v12_1 x26_1 uv12_1 m => iter (regs_layout_L0 l t p) m (v12_1, x26_1) = some o13 ∧ SliceLen uv12_1 v12_1.length) (fun v12_1 x26_1 uv12_1 => o13 = .go (v12_1, x26_1) ∧ SliceLen uv12_1 v12_1.length) [] 0 (.slice none 0 0) n16 ⟨ho17, SliceLen.nil⟩ ⟨Z, Z, Z, Z, Z, Z, trivial⟩ (pk [0, 1, 2, 3, 4, 5, 6]) ?_ ?_
 ·skip
  rintro v12_1 x26_1 uv12_1 ⟨rfl, hlv12_1⟩
  refine WQ.then (sr (wm Z (wa Z (nt (WC.ret ?_)))))
  obtain rfl := (eq_of_some hm15).symm
  refine WK.of (C' := Own M w [kn M w.heap.size K0 K0, vec uv12_1 3 1 (List.map icell v12_1), blk b11 [v_l_logs, v_l_body, v_l_outs, i_ p.pace, i_ t.regs, v_p_times, uv12_1, u8] 87, vec u8 3 1 (List.map icell (List.replicate (ln l.body).toNat (0 : Int))), blk b3 [i_ p.pace, v_p_times] 91, blk b2 t.cells 28, blk b1 [v_l_logs, v_l_body, v_l_outs] 25]) (pk [6, 0, 1, 2, 3, 4, 5]) ?_
  refine WK.freeze hk (fun k18 hle18 hr18 => ?_)
  have hA18 := vec_arr hr18
  refine WQ.ret1 Z Z (fun w hw => ?_)
  exact ⟨(b11, v_l_logs, v_l_body, v_l_outs, v_p_times, uv12_1, u8, k18), Z, hw.pick [0, 1, 2] (by decide), (h_l_logs.le hle18), (h_l_body.le hle18), (h_l_outs.le hle18), (h_p_times.le hle18), hA18, hu9⟩
 rintro v12_1 x26_1 uv12_1 m19 ⟨hI20, hlv12_1⟩
 obtain ⟨m21, s22, rfl, hm23, hn24⟩ := iter_step hI20; clear hI20; unfold regs_layout_L0 at hm23; simp only at hm23
 refine sr (wq Z (QV.lss Z Z Z Z) (nt (WC.seq ?_)))
 refine wc Z hm23 (fun h25 hm26 => ?_) (fun h25 hm48 => ?_) <;> clear hm23
 ·skip
  refine sk (WQ.then (WC.seq (WC.block (sr (wm Z ?_)))))
  obtain ⟨c27, hm28⟩ := cs hm26; clear hm26
  obtain ⟨p29, hp30⟩ := h_l_body.lenMap.ix (sz := 9) ln_len c27
  refine wq Z (QV.indexSlice sl23 Z Z Z Z hp30) (wq Z (QV.loadAgg ag81 Z Z Z (fun w hw => ((Own.karr 6 Z hk h_l_body) w hw).ele hp30 c27)) (WL.effect Z ?_))
  refine (EV.alloc (by decide) ze81 (fun b31 => ?_))
  refine wa Z (WL.effect Z ?_)
  refine (EV.store 0 Z Z Z Z Z Z (vs := (Stm.cells (ele l.body x26_1))) (show Value.cells _ = List.toArray _ from Z) sz81 (nl Z) (oc Z (oc Z (oc Z (oc Z (oc Z (oc Z (oc Z (oc Z (oc Z one_nil))))))))) ?_)
  refine nt (WC.dr (m := 20) (S := Own M w [kn M w.heap.size K0 K0, blk b31 (Stm.cells (ele l.body x26_1)) 81, blk b11 [v_l_logs, v_l_body, v_l_outs, i_ p.pace, i_ t.regs, v_p_times, uv12_1, u8] 87, vec u8 3 1 (List.map icell (List.replicate (ln l.body).toNat (0 : Int))), blk b3 [i_ p.pace, v_p_times] 91, blk b2 t.cells 28, blk b1 [v_l_logs, v_l_body, v_l_outs] 25]) (by kernel_rfl) (by kernel_rfl) (pk [7, 0, 2, 3, 4, 5, 6]) (zm 0 Z Z (zm 1 Z Z (wz 2 Z Z (QV.nilCheck Z Z) (zf 3 fd87_4 Z Z (zl 4 pl22 Z Z (Own.cell 2 Z Z) (zf 5 fd91_1 Z Z (zl 6 pl22 Z Z (Own.cell 4 Z Z) (zm 7 Z Z ?_)))))))))
  obtain ⟨c32, hm33⟩ := cs hm28; clear hm28
  obtain ⟨p34, hp35⟩ := h_p_times.lenMap.ix (sz := 1) ln_len c32
  refine wz 8 Z Z (QV.indexSlice sl22 Z Z Z Z hp35) (zl 9 pl3 Z Z (fun w hw => CellsAt.one 0 (((Own.karr 0 Z hk h_p_times) w hw).ele hp35 c32) Z) (wz 10 Z Z (QV.loadAgg ag28 Z Z Z (Own.cellsBlk 5 Z)) (zf 11 fd81_0 Z Z (zl 12 pl3 Z Z (Own.cell 1 Z Z) ?_))))
  obtain ⟨x36, hx37, hm38⟩ := bd_some hm33; clear hm33
  refine wz 13 Z Z (QV.call en69 (ec Z (ec Z eN)) (fun w hw => have h := target_Wait_w w hx37 ; h)) ?_
  obtain ⟨c39, c42, c46, hm47⟩ := cs3 hm38; clear hm38
  refine wz 14 Z Z (QV.add Z Z Z Z c39) ?_
  refine WD.o 15 Z (by kernel_rfl) Z ?_
  refine (EV.buildSlice (by decide) sz_22 (by decide) (by decide) (ps := [(0, .tmp 45)]) (cells := [i_ ((ele p.times x26_1) + x36)]) (ec Z eN) (by kernel_rfl) (fun b41 => ?_))
  refine WD.b (H' := [kn M w.heap.size K0 K0, blk b41 [i_ ((ele p.times x26_1) + x36)] 3, blk b31 (Stm.cells (ele l.body x26_1)) 81, blk b11 [v_l_logs, v_l_body, v_l_outs, i_ p.pace, i_ t.regs, v_p_times, uv12_1, u8] 87, vec u8 3 1 (List.map icell (List.replicate (ln l.body).toNat (0 : Int))), blk b3 [i_ p.pace, v_p_times] 91, blk b2 t.cells 28, blk b1 [v_l_logs, v_l_body, v_l_outs] 25]) (pk [8, 0, 1, 3, 4, 5, 6, 7]) (pk [0, 2, 3, 4, 5, 6, 7]) ?_
  refine WD.o 16 Z (by kernel_rfl) Z ?_
  refine (EV.appendL (enc := icell) (xs := v12_1) (ys := [((ele p.times x26_1) + x36)]) ((v12_1 ++ [((ele p.times x26_1) + x36)])) 2 (by decide) ve22 Z Z Z Z Z (Own.blkArr 0 (rows := [((ele p.times x26_1) + x36)].map icell) Z Z (rows_len icell_len)) icell_len (icell_one _) Z c42.1 c42.2 (fun u44 hu45 => ?_))
  refine WD.b (H' := [kn M w.heap.size K0 K0, blk b41 [i_ ((ele p.times x26_1) + x36)] 3, blk b31 (Stm.cells (ele l.body x26_1)) 81, vec u44 3 1 (List.map icell (v12_1 ++ [((ele p.times x26_1) + x36)])), blk b11 [v_l_logs, v_l_body, v_l_outs, i_ p.pace, i_ t.regs, v_p_times, uv12_1, u8] 87, vec u8 3 1 (List.map icell (List.replicate (ln l.body).toNat (0 : Int))), blk b3 [i_ p.pace, v_p_times] 91, blk b2 t.cells 28, blk b1 [v_l_logs, v_l_body, v_l_outs] 25]) (pk [8, 0, 1, 2, 3, 4, 5, 6, 7]) (pk [0, 1, 2, 4, 5, 6, 7, 8]) ?_
  refine wz 17 Z Z (QV.nilCheck Z Z) (zf 18 fd87_4 Z Z ?_)
  refine WD.l 19 Z (by kernel_rfl) Z ?_
  refine (EV.store 3 Z Z Z Z Z Z (vs := [u44]) (SliceLen.cells hu45) sz22 (nl Z) (oc (SliceLen.one hu45) one_nil) ?_)
  refine WQ.block (WQ.then (WC.region (wq Z (QV.add Z Z Z Z c46) (wm Z (WL.nil ?_)))))
  exact WQ.again3 (v12_1 ++ [((ele p.times x26_1) + x36)]) (x26_1 + 1) u44 m21 ⟨up_next hm47 hn24, hu45⟩ (Nat.lt_succ_self _) ⟨Z, Z, Z, Z, Z, Z, trivial⟩ (pk [2, 3, 4, 5, 6, 7, 8])
 refine WC.exit (te (te (WQ.block_exit ?_)))
 exact WQ.out3 v12_1 x26_1 uv12_1 ⟨up_brk hm48 hn24, hlv12_1⟩ ⟨Z, Z, Z, Z, Z, Z, trivial⟩ (pk [0, 1, 2, 3, 4, 5, 6])
theorem regs_fine_w {p_y : Addr} {v_y_Loop_Logs v_y_Loop_Body v_y_Loop_Outs v_y_Time v_y_Ready v_y_Places : Value} {y_Loop_Logs : List Int} {y_Loop_Body : List Stm} {y_Loop_Outs : List Int} {y_Pace y_Regs : Int} {y_Time y_Ready y_Places : List Int} {k_ : Int} {r : Bool} (w : World) (hm : regs_fine_m y_Loop_Logs y_Loop_Body y_Loop_Outs y_Pace y_Regs y_Time y_Ready y_Places k_ = some r) (h_y_Loop_Logs : Arr w v_y_Loop_Logs 1 (y_Loop_Logs.map icell)) (h_y_Loop_Body : Arr w v_y_Loop_Body 9 (y_Loop_Body.map Stm.cells)) (h_y_Loop_Outs : Arr w v_y_Loop_Outs 1 (y_Loop_Outs.map icell)) (h_y_Time : Arr w v_y_Time 1 (y_Time.map icell)) (h_y_Ready : Arr w v_y_Ready 1 (y_Ready.map icell)) (h_y_Places : Arr w v_y_Places 1 (y_Places.map icell)) (hp_y : CellsAt w p_y [v_y_Loop_Logs, v_y_Loop_Body, v_y_Loop_Outs, .int .i64 y_Pace, .int .i64 y_Regs, v_y_Time, v_y_Ready, v_y_Places] 0) : Calls Try.prog 126 #[.pointer (some p_y), .int .i64 k_] w (fun e w' => e = .returned (.bool r) ∧ Grow w w') := by
 unfold regs_fine_m at hm
 have hk := Base.rfl (w := w)
 refine calls_of_WC (n := 32) (args := [.pointer (some p_y), i_ k_]) Try.func126 Z Z (nl Z) ?_ (Own.startK hk (Own.start w))
 refine sr (wa Z (ns (wa Z (nt (WC.seq (sr (wm Z ?_)))))))
 obtain ⟨c1, hm2⟩ := cs hm; clear hm
 refine wq Z (QV.add Z Z Z Z c1) (wm Z (nt ?_))
 refine WK.of (fun w hw => hw.vecNil (E := 3) (sz := 1) (enc := icell)) ?_
 obtain ⟨o4, ho5, hm6⟩ := bd_some hm2; clear hm2; obtain ⟨n7, ho8⟩ := lp_some ho5
 refine WC.bloop3 (H2 := [kn noM w.heap.size w w]) (τ := [u_ 0 _, u_ 1 _, u_ 8 _]) (fun (v3_1 : List Int) (x9_1 : Int) (uv3_1 : Value) => [(5, (true, uv3_1)), (9, (true, i_ x9_1))]) (fun v3_1 x9_1 uv3_1 => [vec uv3_1 3 1 (List.map icell v3_1)]) (fun v3_1 x9_1 uv3_1 m => iter (regs_fine_L0 y_Loop_Body y_Loop_Outs y_Pace y_Regs y_Time y_Ready y_Places k_) m (v3_1, x9_1) = some o4 ∧ SliceLen uv3_1 v3_1.length) (fun v3_1 x9_1 uv3_1 => o4 = .go (v3_1, x9_1) ∧ SliceLen uv3_1 v3_1.length) [] 0 (.slice none 0 0) n7 ⟨ho8, SliceLen.nil⟩ ⟨Z, Z, Z, Z, Z, trivial⟩ (pk [0, 1]) ?_ ?_
 ·skip
  rintro v3_1 x9_1 uv3_1 ⟨rfl, hlv3_1⟩
  refine WQ.then (sr (wm Z (wm Z ?_)))
  obtain ⟨x9, hx10, hm11⟩ := bd_some hm6; clear hm6
  refine wq Z (QV.call en64 (ec Z (ec Z eN)) (fun w hw => have h := KL_Firsts_w w hx10 ((Own.karr 1 Z hk h_y_Loop_Logs) w hw) ((Own.karr 1 Z hk h_y_Loop_Body) w hw) ((Own.karr 1 Z hk h_y_Loop_Outs) w hw) ((Own.karr 1 Z hk h_y_Places) w hw) (Own.kcells 1 Z hk hp_y w hw) ((Own.vecArr 0 Z) w hw); h)) (wa Z (nt (WC.ret ?_)))
  obtain rfl := (eq_of_some hm11).symm
  exact WQ.ret1 Z Z fun w hw => kg hw
 rintro v3_1 x9_1 uv3_1 m12 ⟨hI13, hlv3_1⟩
 obtain ⟨m14, s15, rfl, hm16, hn17⟩ := iter_step hI13; clear hI13; unfold regs_fine_L0 at hm16; simp only at hm16
 refine sr (wq Z (QV.lss Z Z Z Z) (nt (WC.seq ?_)))
 refine wc Z hm16 (fun h18 hm19 => ?_) (fun h18 hm36 => ?_) <;> clear hm16
 ·skip
  refine sk (WQ.then (WC.seq (WC.block (sr (wm Z (wa Z (ns (wm Z (wm Z (WL.effect Z ?_))))))))))
  refine (EV.buildSlice (by decide) sz_22 (by decide) (by decide) (ps := [(0, .tmp 13)]) (cells := [i_ x9_1]) (ec Z eN) (by kernel_rfl) (fun b20 => ?_))
  refine WL.effect Z ?_
  obtain ⟨c21, hm22⟩ := cs hm19; clear hm19
  refine (EV.appendL (enc := icell) (xs := v3_1) (ys := [x9_1]) ((v3_1 ++ [x9_1])) 1 (by decide) ve22 Z Z Z Z Z (Own.blkArr 0 (rows := [x9_1].map icell) Z Z (rows_len icell_len)) icell_len (icell_one _) Z c21.1 c21.2 (fun u23 hu24 => ?_))
  refine wa Z (ns (wm Z (wm Z (wm Z ?_))))
  obtain ⟨x25, hx26, hm27⟩ := bd_some hm22; clear hm22
  refine wq Z (QV.call en63 (ec Z (ec Z (ec Z eN))) (fun w hw => have h := KL_Apart_w w hx26 ((Own.karr 2 Z hk h_y_Loop_Body) w hw) ((Own.karr 2 Z hk h_y_Loop_Outs) w hw) ((Own.karr 2 Z hk h_y_Time) w hw) ((Own.karr 2 Z hk h_y_Ready) w hw) ((Own.karr 2 Z hk h_y_Places) w hw) (Own.kcells 2 Z hk hp_y w hw); h)) (wq Z (QV.not Z Z) (wm Z (gn Z (fun hG => QV.move Z Z) (gn Z (fun hG => QV.move Z Z) (gn Z (fun hG => QV.move Z Z) ?_)))))
  obtain ⟨x28, hx29, hm30⟩ := bdG_some hm27; clear hm27
  refine gn Z (fun hG => QV.call en63 (EvAll.cons Z hG (EvAll.cons Z hG (EvAll.cons Z hG eN))) (fun w hw => have h := KL_Apart_w w (hx29 hG) ((Own.karr 2 Z hk h_y_Loop_Body) w hw) ((Own.karr 2 Z hk h_y_Loop_Outs) w hw) ((Own.karr 2 Z hk h_y_Time) w hw) ((Own.karr 2 Z hk h_y_Ready) w hw) ((Own.karr 2 Z hk h_y_Places) w hw) (Own.kcells 2 Z hk hp_y w hw); h)) (gn Z (fun hG => QV.not Z hG) (wq Z (QV.pickOr Z Z Z (fun h => notF h)) (nt ?_)))
  refine wc Z hm30 (fun h31 hm32 => ?_) (fun h31 hm33 => ?_) <;> clear hm30
  ·skip
   refine sr (wa Z (nt (WC.ret (kr (tr (tr (kr (tr (tr ?_)))))))))
   obtain rfl := up_ret hm32 hn17
   obtain rfl := (eq_of_some hm6).symm
   exact WQ.ret1 Z Z fun w hw => kg hw
  refine sk (WQ.block (WQ.then (WC.region ?_)))
  obtain ⟨c34, hm35⟩ := cs hm33; clear hm33
  refine wq Z (QV.add Z Z Z Z c34) (wm Z (WL.nil ?_))
  exact WQ.again3 (v3_1 ++ [x9_1]) (x9_1 + 1) u23 m14 ⟨up_next hm35 hn17, hu24⟩ (Nat.lt_succ_self _) ⟨Z, Z, Z, Z, Z, trivial⟩ (pk [1, 2])
 refine WC.exit (te (te (WQ.block_exit ?_)))
 exact WQ.out3 v3_1 x9_1 uv3_1 ⟨up_brk hm36 hn17, hlv3_1⟩ ⟨Z, Z, Z, Z, Z, trivial⟩ (pk [0, 1])
theorem regs_dests_w {p_y : Addr} {v_y_Loop_Logs v_y_Loop_Body v_y_Loop_Outs v_y_Time v_y_Ready v_y_Places : Value} {y_Pace y_Regs : Int} {y_Time y_Places r : List Int} {K0 : World} (hm : regs_dests_m y_Pace y_Regs y_Time y_Places = some r) (h_y_Time : Arr K0 v_y_Time 1 (y_Time.map icell)) (h_y_Places : Arr K0 v_y_Places 1 (y_Places.map icell)) (hp_y : CellsAt K0 p_y [v_y_Loop_Logs, v_y_Loop_Body, v_y_Loop_Outs, .int .i64 y_Pace, .int .i64 y_Regs, v_y_Time, v_y_Ready, v_y_Places] 0) (M : Nat → Prop) (w : World) (hk : Base M K0 w) (hw0 : Own M w [] w) : Calls Try.prog 111 #[.pointer (some p_y)] w (fun e w' => ∃ X : Value × World, e = .returned (X.1) ∧ Own M w (kn M w.heap.size K0 X.2 :: []) w' ∧ Arr X.2 X.1 1 (r.map icell)) := by
 unfold regs_dests_m at hm
 refine calls_of_WC (n := 40) (args := [.pointer (some p_y)]) Try.func111 Z Z (nl Z) ?_ (Own.startK hk hw0)
 refine sr (wa Z (ns (wa Z (nt (WC.seq (sr (wm Z (wq Z (QV.nilCheck Z Z) (wf fd87_5 Z (wl pl22 Z (fun w hw => CellsAt.one 7 ((Own.kcells 0 Z hk hp_y) w hw) Z) (wq Z (QV.lenS Try.underlying22 Z Z h_y_Places.lenMap) ?_)))))))))))
 refine wm Z (nt ?_)
 refine WK.of (fun w hw => hw.vecNil (E := 3) (sz := 1) (enc := icell)) ?_
 obtain ⟨o2, ho3, hm4⟩ := bd_some hm; clear hm; obtain ⟨n5, ho6⟩ := lp_some ho3
 refine WC.bloop3 (H2 := [kn M w.heap.size K0 K0]) (τ := [u_ 0 _, u_ 9 _, u_ 10 _]) (fun (v1_1 : List Int) (x11_1 : Int) (uv1_1 : Value) => [(3, (true, uv1_1)), (11, (true, i_ x11_1))]) (fun v1_1 x11_1 uv1_1 => [vec uv1_1 3 1 (List.map icell v1_1)]) (fun v1_1 x11_1 uv1_1 m => iter (regs_dests_L0 y_Pace y_Regs y_Time y_Places) m (v1_1, x11_1) = some o2 ∧ SliceLen uv1_1 v1_1.length) (fun v1_1 x11_1 uv1_1 => o2 = .go (v1_1, x11_1) ∧ SliceLen uv1_1 v1_1.length) [] 0 (.slice none 0 0) n5 ⟨ho6, SliceLen.nil⟩ ⟨Z, Z, Z, Z, Z, trivial⟩ (pk [0, 1]) ?_ ?_
 ·skip
  rintro v1_1 x11_1 uv1_1 ⟨rfl, hlv1_1⟩
  refine WQ.then (sr (wm Z (wa Z (nt (WC.ret ?_)))))
  obtain rfl := (eq_of_some hm4).symm
  refine WK.of (C' := Own M w [kn M w.heap.size K0 K0, vec uv1_1 3 1 (List.map icell v1_1)]) (pk [1, 0]) ?_
  refine WK.freeze hk (fun k7 hle7 hr7 => ?_)
  have hA7 := vec_arr hr7
  refine WQ.ret1 Z Z (fun w hw => ?_)
  exact ⟨(uv1_1, k7), Z, hw.pick [0] (by decide), hA7⟩
 rintro v1_1 x11_1 uv1_1 m8 ⟨hI9, hlv1_1⟩
 obtain ⟨m10, s11, rfl, hm12, hn13⟩ := iter_step hI9; clear hI9; unfold regs_dests_L0 at hm12; simp only at hm12
 refine sr (wq Z (QV.lss Z Z Z Z) (nt (WC.seq ?_)))
 refine wc Z hm12 (fun h14 hm15 => ?_) (fun h14 hm40 => ?_) <;> clear hm12
 ·skip
  refine sk (WQ.then (WC.seq (WC.block (sr (wm Z ?_)))))
  obtain ⟨c16, hm17⟩ := cs hm15; clear hm15
  obtain ⟨p18, hp19⟩ := h_y_Places.lenMap.ix (sz := 1) ln_len c16
  refine wq Z (QV.indexSlice sl22 Z Z Z Z hp19) (wl pl3 Z (fun w hw => CellsAt.one 0 (((Own.karr 1 Z hk h_y_Places) w hw).ele hp19 c16) Z) (wa Z (wa Z (nt (WC.dr (m := 23) (S := Own M w [kn M w.heap.size K0 K0]) (by kernel_rfl) (by kernel_rfl) (pk [1]) (zm 0 Z Z (zm 1 Z Z (zm 2 Z Z (wz 3 Z Z (QV.nilCheck Z Z) ?_)))))))))
  refine zf 4 fd87_3 Z Z (zl 5 pl22 Z Z (fun w hw => CellsAt.one 5 ((Own.kcells 0 Z hk hp_y) w hw) Z) (zm 6 Z Z ?_))
  obtain ⟨c20, hm21⟩ := cs hm17; clear hm17
  obtain ⟨p22, hp23⟩ := h_y_Time.lenMap.ix (sz := 1) ln_len c20
  refine wz 7 Z Z (QV.indexSlice sl22 Z Z Z Z hp23) (zl 8 pl3 Z Z (fun w hw => CellsAt.one 0 (((Own.karr 0 Z hk h_y_Time) w hw).ele hp23 c20) Z) (zm 9 Z Z (wz 10 Z Z (QV.nilCheck Z Z) (zf 11 fd87_1 Z Z (zl 12 pl3 Z Z (fun w hw => CellsAt.one 3 ((Own.kcells 0 Z hk hp_y) w hw) Z) ?_)))))
  obtain ⟨c24, c26, c28, hm29⟩ := cs3 hm21; clear hm21
  refine wz 13 Z Z (QV.quo Z Z Z Z c24 c26) (wz 14 Z Z (QV.sub Z Z Z Z c28) (zm 15 Z Z (wz 16 Z Z (QV.nilCheck Z Z) (zf 17 fd87_2 Z Z (zl 18 pl3 Z Z (fun w hw => CellsAt.one 4 ((Own.kcells 0 Z hk hp_y) w hw) Z) ?_)))))
  obtain ⟨x30, hx31, hm32⟩ := bd_some hm29; clear hm29
  refine wz 19 Z Z (QV.call en37 (ec Z (ec Z eN)) (fun w hw => have h := emit_Rest_w w hx31 ; h)) ?_
  refine WD.o 20 Z (by kernel_rfl) Z ?_
  refine (EV.buildSlice (by decide) sz_22 (by decide) (by decide) (ps := [(0, .tmp 35)]) (cells := [i_ x30]) (ec Z eN) (by kernel_rfl) (fun b33 => ?_))
  refine WD.b (H' := [kn M w.heap.size K0 K0, blk b33 [i_ x30] 3]) (pk [2, 0]) (pk [0]) ?_
  refine WD.o 21 Z (by kernel_rfl) Z ?_
  obtain ⟨c34, c38, hm39⟩ := cs2 hm32; clear hm32
  refine (EV.appendL (enc := icell) (xs := v1_1) (ys := [x30]) ((v1_1 ++ [x30])) 1 (by decide) ve22 Z Z Z Z Z (Own.blkArr 0 (rows := [x30].map icell) Z Z (rows_len icell_len)) icell_len (icell_one _) Z c34.1 c34.2 (fun u36 hu37 => ?_))
  refine WD.b (H' := [kn M w.heap.size K0 K0, blk b33 [i_ x30] 3, vec u36 3 1 (List.map icell (v1_1 ++ [x30]))]) (pk [2, 0, 1]) (pk [0, 1]) ?_
  refine wz 22 Z Z (QV.assign Z Z) ?_
  refine WD.e (by kernel_rfl) ?_
  refine WQ.block (WQ.then (WC.region (wq Z (QV.add Z Z Z Z c38) (wm Z (WL.nil ?_)))))
  exact WQ.again3 (v1_1 ++ [x30]) (x11_1 + 1) u36 m10 ⟨up_next hm39 hn13, hu37⟩ (Nat.lt_succ_self _) ⟨Z, Z, Z, Z, Z, trivial⟩ (pk [1, 2])
 refine WC.exit (te (te (WQ.block_exit ?_)))
 exact WQ.out3 v1_1 x11_1 uv1_1 ⟨up_brk hm40 hn13, hlv1_1⟩ ⟨Z, Z, Z, Z, Z, trivial⟩ (pk [0, 1])
theorem regs_first_w {v_y_Loop_Logs v_y_Loop_Body v_y_Loop_Outs v_y_Time v_y_Ready v_y_Places : Value} {b_y : Nat} {y_Loop_Logs : List Int} {y_Loop_Body : List Stm} {y_Loop_Outs : List Int} {y_Pace y_Regs : Int} {y_Time y_Ready y_Places : List Int} {r : Bool × List Int} {K0 : World} (hm : regs_first_m y_Loop_Logs y_Loop_Body y_Loop_Outs y_Pace y_Regs y_Time y_Ready y_Places = some r) (h_y_Loop_Logs : Arr K0 v_y_Loop_Logs 1 (y_Loop_Logs.map icell)) (h_y_Loop_Body : Arr K0 v_y_Loop_Body 9 (y_Loop_Body.map Stm.cells)) (h_y_Loop_Outs : Arr K0 v_y_Loop_Outs 1 (y_Loop_Outs.map icell)) (h_y_Time : Arr K0 v_y_Time 1 (y_Time.map icell)) (h_y_Ready : Arr K0 v_y_Ready 1 (y_Ready.map icell)) (h_y_Places : SliceLen v_y_Places y_Places.length) (M : Nat → Prop) (w : World) (hk : Base M K0 w) (hw0 : Own M w [blk b_y [v_y_Loop_Logs, v_y_Loop_Body, v_y_Loop_Outs, .int .i64 y_Pace, .int .i64 y_Regs, v_y_Time, v_y_Ready, v_y_Places] 87, vec v_y_Places 3 1 (List.map icell y_Places)] w) : Calls Try.prog 109 #[.pointer (some (⟨b_y, 0, none⟩))] w (fun e w' => ∃ X : Value × World, e = .returned (.bool r.1) ∧ Own M w (kn M w.heap.size K0 X.2 :: [blk b_y [v_y_Loop_Logs, v_y_Loop_Body, v_y_Loop_Outs, .int .i64 y_Pace, .int .i64 y_Regs, v_y_Time, v_y_Ready, X.1] 87, vec X.1 3 1 (List.map icell r.2)]) w' ∧ SliceLen X.1 (r.2).length) := by
 unfold regs_first_m at hm
 refine calls_of_WC (n := 46) (args := [.pointer (some (⟨b_y, 0, none⟩))]) Try.func109 Z Z (nl Z) ?_ (Own.startK hk hw0)
 refine sr (wa Z (nt (WC.seq (sr (wm Z (wq Z (QV.nilCheck Z Z) (wf fd87_0 Z (wf fd25_1 Z (wl pl23 Z (Own.cell 1 Z Z) (wq Z (QV.lenS Try.underlying23 Z Z h_y_Loop_Body.lenMap) (wm Z ?_)))))))))))
 refine nt ?_
 obtain ⟨o1, ho2, hm3⟩ := bd_some hm; clear hm; obtain ⟨n4, ho5⟩ := lp_some ho2
 refine WC.bloop2 (H2 := [kn M w.heap.size K0 K0, blk b_y [v_y_Loop_Logs, v_y_Loop_Body, v_y_Loop_Outs, i_ y_Pace, i_ y_Regs, v_y_Time, v_y_Ready, v_y_Places] 87]) (τ := [u_ 0 _, u_ 9 _]) (fun (own0v7_3 : List Int) (x10_3 : Int) => [(10, (true, i_ x10_3))]) (fun own0v7_3 x10_3 => [vec v_y_Places 3 1 (List.map icell own0v7_3)]) (fun own0v7_3 x10_3 m => iter (regs_first_L0 y_Loop_Logs y_Loop_Body y_Loop_Outs y_Pace y_Regs y_Time y_Ready) m (own0v7_3, x10_3) = some o1 ∧ SliceLen v_y_Places own0v7_3.length) (fun own0v7_3 x10_3 => o1 = .go (own0v7_3, x10_3) ∧ SliceLen v_y_Places own0v7_3.length) y_Places 0 n4 ⟨ho5, h_y_Places⟩ ⟨Z, Z, Z, trivial⟩ (pk [2, 0, 1]) ?_ ?_
 ·skip
  rintro own0v7_3 x10_3 ⟨rfl, hlown0v7_3⟩
  refine WQ.then (sr (wa Z (nt (WC.ret ?_))))
  obtain rfl := (eq_of_some hm3).symm
  refine WQ.ret1 Z Z (fun w hw => ?_)
  exact ⟨(v_y_Places, K0), Z, hw.pick [1, 2, 0] (by decide), hlown0v7_3⟩
 rintro own0v7_3 x10_3 m6 ⟨hI7, hlown0v7_3⟩
 obtain ⟨m8, s9, rfl, hm10, hn11⟩ := iter_step hI7; clear hI7; unfold regs_first_L0 at hm10; simp only at hm10
 refine sr (wq Z (QV.lss Z Z Z Z) (nt (WC.seq ?_)))
 refine wc Z hm10 (fun h12 hm13 => ?_) (fun h12 hm58 => ?_) <;> clear hm10
 ·skip
  refine sk (WQ.then (WC.seq (WC.block (sr (wm Z (wa Z (ns (wm Z (wq Z (QV.nilCheck Z Z) (wf fd87_5 Z (wl pl22 Z (Own.cell 2 Z Z) (wm Z ?_))))))))))))
  obtain ⟨c14, hm15⟩ := cs hm13; clear hm13
  obtain ⟨p16, hp17⟩ := hlown0v7_3.ix (sz := 1) ln_len c14
  refine wq Z (QV.indexSlice sl22 Z Z Z Z hp17) (WL.effect Z ?_)
  refine (EV.storeV 0 0 icell_eq Z Z Z Z Z hp17 Z Z sz3 ?_)
  have hl18 : SliceLen v_y_Places (upd own0v7_3 x10_3 0).length := slen_upd hlown0v7_3
  refine nt ?_
  obtain ⟨o19, ho20, hm21⟩ := bd_some hm15; clear hm15; obtain ⟨n22, ho23⟩ := lp_some ho20
  refine WC.bloop1 (H2 := [kn M w.heap.size K0 K0, blk b_y [v_y_Loop_Logs, v_y_Loop_Body, v_y_Loop_Outs, i_ y_Pace, i_ y_Regs, v_y_Time, v_y_Ready, v_y_Places] 87]) (τ := [u_ 0 _, u_ 3 _, u_ 9 _, u_ 10 _]) (fun (own0v7_4 : List Int) => []) (fun own0v7_4 => [vec v_y_Places 3 1 (List.map icell own0v7_4)]) (fun own0v7_4 m => iter (regs_first_L2 y_Loop_Logs y_Loop_Body y_Loop_Outs y_Pace y_Regs y_Time y_Ready x10_3) m own0v7_4 = some o19 ∧ SliceLen v_y_Places own0v7_4.length) (fun own0v7_4 => o19 = .go own0v7_4 ∧ SliceLen v_y_Places own0v7_4.length) (upd own0v7_3 x10_3 0) n22 ⟨ho23, hl18⟩ ⟨Z, Z, Z, Z, trivial⟩ (pk [0, 1, 2]) ?_ ?_
  ·skip
   rintro own0v7_4 ⟨rfl, hlown0v7_4⟩
   refine WQ.block (WQ.then (WC.region ?_))
   obtain ⟨c24, hm25⟩ := cs hm21; clear hm21
   refine wq Z (QV.add Z Z Z Z c24) (wm Z (WL.nil ?_))
   exact WQ.again2 own0v7_4 (x10_3 + 1) m8 ⟨up_next hm25 hn11, hlown0v7_4⟩ (Nat.lt_succ_self _) ⟨Z, Z, Z, trivial⟩ (pk [0, 1, 2])
  rintro own0v7_4 m26 ⟨hI27, hlown0v7_4⟩
  obtain ⟨m28, s29, rfl, hm30, hn31⟩ := iter_step hI27; clear hI27; unfold regs_first_L2 at hm30
  refine WC.seq (sr (wm Z (wm Z ?_)))
  obtain ⟨x32, hx33, hm34⟩ := bd_some hm30; clear hm30
  refine wq Z (QV.call en126 (ec Z (ec Z eN)) (fun w hw => have h := regs_fine_w w hx33 ((Own.karr 1 Z hk h_y_Loop_Logs) w hw) ((Own.karr 1 Z hk h_y_Loop_Body) w hw) ((Own.karr 1 Z hk h_y_Loop_Outs) w hw) ((Own.karr 1 Z hk h_y_Time) w hw) ((Own.karr 1 Z hk h_y_Ready) w hw) ((Own.vecArr 0 Z) w hw) (Own.cellsBlk 2 Z w hw); h)) (wq Z (QV.not Z Z) (nt ?_))
  refine wc Z hm34 (fun h35 hm36 => ?_) (fun h35 hm57 => ?_) <;> clear hm34
  ·skip
   refine sk (WQ.then (WC.seq (WC.block (WC.seq (WC.dr (m := 13) (S := Own M w [kn M w.heap.size K0 K0, vec v_y_Places 3 1 (List.map icell own0v7_4), blk b_y [v_y_Loop_Logs, v_y_Loop_Body, v_y_Loop_Outs, i_ y_Pace, i_ y_Regs, v_y_Time, v_y_Ready, v_y_Places] 87]) (by kernel_rfl) (by kernel_rfl) (pk [1, 0, 2]) (zm 0 Z Z (wz 1 Z Z (QV.nilCheck Z Z) (zf 2 fd87_5 Z Z (zl 3 pl22 Z Z (Own.cell 2 Z Z) (zm 4 Z Z ?_))))))))))
   obtain ⟨c37, hm38⟩ := cs hm36; clear hm36
   obtain ⟨p39, hp40⟩ := hlown0v7_4.ix (sz := 1) ln_len c37
   refine wz 5 Z Z (QV.indexSlice sl22 Z Z Z Z hp40) (zl 6 pl3 Z Z (fun w hw => CellsAt.one 0 (((Own.vecArr 1 Z) w hw).ele hp40 c37) Z) ?_)
   obtain ⟨c41, hm42⟩ := cs hm38; clear hm38
   refine wz 7 Z Z (QV.add Z Z Z Z c41) (zm 8 Z Z (wz 9 Z Z (QV.nilCheck Z Z) (zf 10 fd87_2 Z Z (zl 11 pl3 Z Z (Own.cell 2 Z Z) (wz 12 Z Z (QV.geq Z Z Z Z) ?_)))))
   refine WD.e (by kernel_rfl) ?_
   refine WQ.then ?_
   refine wc Z hm42 (fun h43 hm44 => ?_) (fun h43 hm45 => ?_) <;> clear hm42
   ·skip
    refine sr (wa Z (nt (WC.ret (kr (tr (tr (kr (tr (kr (tr (tr (kr (tr (tr ?_))))))))))))))
    obtain rfl := up_ret hm44 hn31
    obtain rfl := up_ret hm21 hn11
    obtain rfl := (eq_of_some hm3).symm
    refine WQ.ret1 Z Z (fun w hw => ?_)
    exact ⟨(v_y_Places, K0), Z, hw.pick [1, 2, 0] (by decide), hlown0v7_4⟩
   refine sk (WQ.block (WQ.then (WC.region (wm Z (wq Z (QV.nilCheck Z Z) (wf fd87_5 Z (wl pl22 Z (Own.cell 2 Z Z) (wm Z ?_))))))))
   obtain ⟨c46, hm47⟩ := cs hm45; clear hm45
   obtain ⟨p48, hp49⟩ := hlown0v7_4.ix (sz := 1) ln_len c46
   refine wq Z (QV.indexSlice sl22 Z Z Z Z hp49) (wl pl3 Z (fun w hw => CellsAt.one 0 (((Own.vecArr 0 Z) w hw).ele hp49 c46) Z) ?_)
   obtain ⟨c50, c52, hm53⟩ := cs2 hm47; clear hm47
   refine wq Z (QV.add Z Z Z Z c50) ?_
   obtain ⟨p54, hp55⟩ := hlown0v7_4.ix (sz := 1) ln_len c52
   refine wq Z (QV.indexSlice sl22 Z Z Z Z hp55) (WL.effect Z ?_)
   refine (EV.storeV 0 ((ele own0v7_4 x10_3) + 1) icell_eq Z Z Z Z Z hp55 Z Z sz3 ?_)
   have hl56 : SliceLen v_y_Places (upd own0v7_4 x10_3 ((ele own0v7_4 x10_3) + 1)).length := slen_upd hlown0v7_4
   refine WL.nil ?_
   exact WQ.again1 (upd own0v7_4 x10_3 ((ele own0v7_4 x10_3) + 1)) m28 ⟨up_next hm53 hn31, hl56⟩ (Nat.lt_succ_self _) ⟨Z, Z, Z, Z, trivial⟩ (pk [0, 1, 2])
  refine WC.exit (te (te (WQ.block_exit ?_)))
  exact WQ.out1 own0v7_4 ⟨up_brk hm57 hn31, hlown0v7_4⟩ ⟨Z, Z, Z, Z, trivial⟩ (pk [0, 1, 2])
 refine WC.exit (te (te (WQ.block_exit ?_)))
 exact WQ.out2 own0v7_3 x10_3 ⟨up_brk hm58 hn11, hlown0v7_3⟩ ⟨Z, Z, Z, trivial⟩ (pk [0, 1, 2])
theorem regs_spaced_w {v_y_Loop_Logs v_y_Loop_Body v_y_Loop_Outs v_y_Time v_y_Ready v_y_Places : Value} {b_y : Nat} {y_Loop_Logs : List Int} {y_Loop_Body : List Stm} {y_Loop_Outs : List Int} {y_Pace y_Regs : Int} {y_Time y_Ready y_Places : List Int} {r : Bool × List Int} {K0 : World} (hm : regs_spaced_m y_Loop_Logs y_Loop_Body y_Loop_Outs y_Pace y_Regs y_Time y_Ready y_Places = some r) (h_y_Loop_Logs : Arr K0 v_y_Loop_Logs 1 (y_Loop_Logs.map icell)) (h_y_Loop_Body : Arr K0 v_y_Loop_Body 9 (y_Loop_Body.map Stm.cells)) (h_y_Loop_Outs : Arr K0 v_y_Loop_Outs 1 (y_Loop_Outs.map icell)) (h_y_Time : Arr K0 v_y_Time 1 (y_Time.map icell)) (h_y_Ready : Arr K0 v_y_Ready 1 (y_Ready.map icell)) (h_y_Places : SliceLen v_y_Places y_Places.length) (M : Nat → Prop) (w : World) (hk : Base M K0 w) (hw0 : Own M w [blk b_y [v_y_Loop_Logs, v_y_Loop_Body, v_y_Loop_Outs, .int .i64 y_Pace, .int .i64 y_Regs, v_y_Time, v_y_Ready, v_y_Places] 87, vec v_y_Places 3 1 (List.map icell y_Places)] w) : Calls Try.prog 110 #[.pointer (some (⟨b_y, 0, none⟩))] w (fun e w' => ∃ X : Value × World, e = .returned (.bool r.1) ∧ Own M w (kn M w.heap.size K0 X.2 :: [blk b_y [v_y_Loop_Logs, v_y_Loop_Body, v_y_Loop_Outs, .int .i64 y_Pace, .int .i64 y_Regs, v_y_Time, v_y_Ready, X.1] 87, vec X.1 3 1 (List.map icell r.2)]) w' ∧ SliceLen X.1 (r.2).length) := by
 unfold regs_spaced_m at hm
 refine calls_of_WC (n := 37) (args := [.pointer (some (⟨b_y, 0, none⟩))]) Try.func110 Z Z (nl Z) ?_ (Own.startK hk hw0)
 refine sr (wa Z (nt (WC.seq (sr (wm Z (wq Z (QV.nilCheck Z Z) (wf fd87_0 Z (wf fd25_1 Z (wl pl23 Z (Own.cell 1 Z Z) (wq Z (QV.lenS Try.underlying23 Z Z h_y_Loop_Body.lenMap) (wm Z ?_)))))))))))
 refine nt ?_
 obtain ⟨o1, ho2, hm3⟩ := bd_some hm; clear hm; obtain ⟨n4, ho5⟩ := lp_some ho2
 refine WC.bloop2 (H2 := [kn M w.heap.size K0 K0, blk b_y [v_y_Loop_Logs, v_y_Loop_Body, v_y_Loop_Outs, i_ y_Pace, i_ y_Regs, v_y_Time, v_y_Ready, v_y_Places] 87]) (τ := [u_ 0 _, u_ 10 _]) (fun (own0v7_1 : List Int) (x11_1 : Int) => [(11, (true, i_ x11_1))]) (fun own0v7_1 x11_1 => [vec v_y_Places 3 1 (List.map icell own0v7_1)]) (fun own0v7_1 x11_1 m => iter (regs_spaced_L0 y_Loop_Body) m (own0v7_1, x11_1) = some o1 ∧ SliceLen v_y_Places own0v7_1.length) (fun own0v7_1 x11_1 => o1 = .go (own0v7_1, x11_1) ∧ SliceLen v_y_Places own0v7_1.length) y_Places 0 n4 ⟨ho5, h_y_Places⟩ ⟨Z, Z, Z, trivial⟩ (pk [2, 0, 1]) ?_ ?_
 ·skip
  rintro own0v7_1 x11_1 ⟨rfl, hlown0v7_1⟩
  refine WQ.then (WC.seq (sr (wm Z (wq Z (QV.nilCheck Z Z) (wf fd87_0 Z (wf fd25_1 Z (wl pl23 Z (Own.cell 2 Z Z) (wq Z (QV.lenS Try.underlying23 Z Z h_y_Loop_Body.lenMap) (wm Z (nt ?_))))))))))
  obtain ⟨o6, ho7, hm8⟩ := bd_some hm3; clear hm3; obtain ⟨n9, ho10⟩ := lp_some ho7
  refine WC.bloop1 (H2 := [vec v_y_Places 3 1 (List.map icell own0v7_1), kn M w.heap.size K0 K0, blk b_y [v_y_Loop_Logs, v_y_Loop_Body, v_y_Loop_Outs, i_ y_Pace, i_ y_Regs, v_y_Time, v_y_Ready, v_y_Places] 87]) (τ := [u_ 0 _, u_ 28 _]) (fun (x29_2 : Int) => [(29, (true, i_ x29_2))]) (fun x29_2 => []) (fun x29_2 m => iter (regs_spaced_L2 y_Loop_Logs y_Loop_Body y_Loop_Outs y_Pace y_Regs y_Time y_Ready own0v7_1) m x29_2 = some o6) (fun x29_2 => o6 = .go x29_2) 0 n9 ho10 ⟨Z, Z, Z, trivial⟩ (pk [0, 1, 2]) ?_ ?_
  ·skip
   rintro x29_2 rfl
   refine WQ.then (sr (wa Z (nt (WC.ret ?_))))
   obtain rfl := (eq_of_some hm8).symm
   refine WQ.ret1 Z Z (fun w hw => ?_)
   exact ⟨(v_y_Places, K0), Z, hw.pick [1, 2, 0] (by decide), hlown0v7_1⟩
  rintro x29_2 m11 hI12
  obtain ⟨m13, s14, rfl, hm15, hn16⟩ := iter_step hI12; clear hI12; unfold regs_spaced_L2 at hm15
  refine sr (wq Z (QV.lss Z Z Z Z) (nt (WC.seq ?_)))
  refine wc Z hm15 (fun h17 hm18 => ?_) (fun h17 hm27 => ?_) <;> clear hm15
  ·skip
   refine sk (WQ.then (WC.seq (WC.block (sr (wm Z (wa Z (ns (wm Z (wm Z ?_)))))))))
   obtain ⟨x19, hx20, hm21⟩ := bd_some hm18; clear hm18
   refine wq Z (QV.call en126 (ec Z (ec Z eN)) (fun w hw => have h := regs_fine_w w hx20 ((Own.karr 1 Z hk h_y_Loop_Logs) w hw) ((Own.karr 1 Z hk h_y_Loop_Body) w hw) ((Own.karr 1 Z hk h_y_Loop_Outs) w hw) ((Own.karr 1 Z hk h_y_Time) w hw) ((Own.karr 1 Z hk h_y_Ready) w hw) ((Own.vecArr 0 Z) w hw) (Own.cellsBlk 2 Z w hw); h)) (wq Z (QV.not Z Z) (nt ?_))
   refine wc Z hm21 (fun h22 hm23 => ?_) (fun h22 hm24 => ?_) <;> clear hm21
   ·skip
    refine sr (wa Z (nt (WC.ret (kr (tr (tr (kr (tr (tr ?_)))))))))
    obtain rfl := up_ret hm23 hn16
    obtain rfl := (eq_of_some hm8).symm
    refine WQ.ret1 Z Z (fun w hw => ?_)
    exact ⟨(v_y_Places, K0), Z, hw.pick [1, 2, 0] (by decide), hlown0v7_1⟩
   refine sk (WQ.block (WQ.then (WC.region ?_)))
   obtain ⟨c25, hm26⟩ := cs hm24; clear hm24
   refine wq Z (QV.add Z Z Z Z c25) (wm Z (WL.nil ?_))
   exact WQ.again1 (x29_2 + 1) m13 (up_next hm26 hn16) (Nat.lt_succ_self _) ⟨Z, Z, Z, trivial⟩ (pk [0, 1, 2])
  refine WC.exit (te (te (WQ.block_exit ?_)))
  exact WQ.out1 x29_2 (up_brk hm27 hn16) ⟨Z, Z, Z, trivial⟩ (pk [0, 1, 2])
 rintro own0v7_1 x11_1 m28 ⟨hI29, hlown0v7_1⟩
 obtain ⟨m30, s31, rfl, hm32, hn33⟩ := iter_step hI29; clear hI29; unfold regs_spaced_L0 at hm32; simp only at hm32
 refine sr (wq Z (QV.lss Z Z Z Z) (nt (WC.seq ?_)))
 refine wc Z hm32 (fun h34 hm35 => ?_) (fun h34 hm45 => ?_) <;> clear hm32
 ·skip
  refine sk (WQ.then (WC.seq (WC.block (sr (wm Z (wa Z (nr (wm Z (wq Z (QV.nilCheck Z Z) (wf fd87_5 Z (wl pl22 Z (Own.cell 2 Z Z) (wm Z (wm Z ?_)))))))))))))
  obtain ⟨c36, c38, hm39⟩ := cs2 hm35; clear hm35
  refine wq Z (QV.mul Z Z Z Z c36) ?_
  obtain ⟨p40, hp41⟩ := hlown0v7_1.ix (sz := 1) ln_len c38
  refine wq Z (QV.indexSlice sl22 Z Z Z Z hp41) (WL.effect Z ?_)
  refine (EV.storeV 0 (5 * x11_1) icell_eq Z Z Z Z Z hp41 Z Z sz3 ?_)
  have hl42 : SliceLen v_y_Places (upd own0v7_1 x11_1 (5 * x11_1)).length := slen_upd hlown0v7_1
  refine WL.nil (WQ.block (WQ.then (WC.region ?_)))
  obtain ⟨c43, hm44⟩ := cs hm39; clear hm39
  refine wq Z (QV.add Z Z Z Z c43) (wm Z (WL.nil ?_))
  exact WQ.again2 (upd own0v7_1 x11_1 (5 * x11_1)) (x11_1 + 1) m30 ⟨up_next hm44 hn33, hl42⟩ (Nat.lt_succ_self _) ⟨Z, Z, Z, trivial⟩ (pk [0, 1, 2])
 refine WC.exit (te (te (WQ.block_exit ?_)))
 exact WQ.out2 own0v7_1 x11_1 ⟨up_brk hm45 hn33, hlown0v7_1⟩ ⟨Z, Z, Z, trivial⟩ (pk [0, 1, 2])
theorem regs_Make_w {v_l_logs v_l_body v_l_outs v_p_times : Value} {l : Lp} {t : Tgt} {p : Pln} {r : List Int × Int} {K0 : World} (hm : regs_Make_m l t p = some r) (h_l_logs : Arr K0 v_l_logs 1 (l.logs.map icell)) (h_l_body : Arr K0 v_l_body 9 (l.body.map Stm.cells)) (h_l_outs : Arr K0 v_l_outs 1 (l.outs.map icell)) (h_p_times : Arr K0 v_p_times 1 (p.times.map icell)) (M : Nat → Prop) (w : World) (hk : Base M K0 w) (hw0 : Own M w [] w) : Calls Try.prog 74 #[.agg #[v_l_logs, v_l_body, v_l_outs], .agg #[.int .i64 t.u0, .int .i64 t.u1, .int .i64 t.u2, .int .i64 t.w0, .int .i64 t.w1, .int .i64 t.w2, .int .i64 t.regs], .agg #[.int .i64 p.pace, v_p_times]] w (fun e w' => ∃ X : Value × World, e = .returned (.tuple #[X.1, .int .i64 r.2]) ∧ Own M w (kn M w.heap.size K0 X.2 :: []) w' ∧ Arr X.2 X.1 1 (r.1.map icell)) := by
 unfold regs_Make_m at hm
 refine calls_of_WC (n := 26) (args := [.agg #[v_l_logs, v_l_body, v_l_outs], .agg #[i_ t.u0, i_ t.u1, i_ t.u2, i_ t.w0, i_ t.w1, i_ t.w2, i_ t.regs], .agg #[i_ p.pace, v_p_times]]) Try.func74 Z Z (nl Z) ?_ (Own.startK hk hw0)
 refine sr (WL.effect Z ?_)
 refine (EV.boxAgg (by decide) Z Z (fun b1 => ?_))
 refine WL.effect Z ?_
 refine (EV.boxAgg (by decide) Z Z (fun b2 => ?_))
 refine WL.effect Z ?_
 refine (EV.boxAgg (by decide) Z Z (fun b3 => ?_))
 refine wa Z (wa Z (nt (WC.seq (sr (wq Z (QV.loadAgg ag25 Z Z Z (Own.cellsBlk 2 Z)) (wq Z (QV.loadAgg ag28 Z Z Z (Own.cellsBlk 1 Z)) (wq Z (QV.loadAgg ag91 Z Z Z (Own.cellsBlk 0 Z)) ?_)))))))
 obtain ⟨x4, hx5, hm6⟩ := bd_some hm; clear hm
 refine wq Z (QV.call en107 (ec Z (ec Z (ec Z eN))) (fun w hw => have h := sched_Legal_w w hx5 ((Own.karr 3 Z hk h_l_logs) w hw) ((Own.karr 3 Z hk h_l_body) w hw) ((Own.karr 3 Z hk h_l_outs) w hw) ((Own.karr 3 Z hk h_p_times) w hw); h)) (wq Z (QV.not Z Z) (nt ?_))
 refine wc Z hm6 (fun h7 hm8 => ?_) (fun h7 hm9 => ?_) <;> clear hm6
 ·skip
  refine sr (wa Z (wa Z (nt (WC.ret (tr ?_)))))
  obtain rfl := (eq_of_some hm8).symm
  refine WQ.ret2 Z Z Z (fun w hw => ?_)
  exact ⟨(.slice none 0 0, K0), Z, hw.pick [3] (by decide), Arr.nil⟩
 refine sk (WQ.then (sr (wq Z (QV.loadAgg ag25 Z Z Z (Own.cellsBlk 2 Z)) (wq Z (QV.loadAgg ag28 Z Z Z (Own.cellsBlk 1 Z)) (wq Z (QV.loadAgg ag91 Z Z Z (Own.cellsBlk 0 Z)) (WL.effect Z ?_))))))
 obtain ⟨x10, hx11, hm12⟩ := bd_some hm9; clear hm9
 refine EV.of (C' := Own M w [kn M w.heap.size K0 K0, blk b3 [i_ p.pace, v_p_times] 91, blk b2 t.cells 28, blk b1 [v_l_logs, v_l_body, v_l_outs] 25]) (pk [3, 0, 1, 2]) ?_
 refine (EV.callR (X := Nat × Value × Value × Value × Value × Value × Value × World) (R := []) (fun X => .pointer (some (⟨X.1, 0, none⟩))) (fun X => [blk X.1 [X.2.1, X.2.2.1, X.2.2.2.1, i_ x10.2.2.2.1, i_ x10.2.2.2.2.1, X.2.2.2.2.1, X.2.2.2.2.2.1, X.2.2.2.2.2.2.1] 87, vec X.2.2.2.2.2.2.1 3 1 (List.map icell x10.2.2.2.2.2.2.2)]) (fun X => X.2.2.2.2.2.2.2) (fun X => Arr X.2.2.2.2.2.2.2 X.2.1 1 (x10.1.map icell) ∧ Arr X.2.2.2.2.2.2.2 X.2.2.1 9 (x10.2.1.map Stm.cells) ∧ Arr X.2.2.2.2.2.2.2 X.2.2.2.1 1 (x10.2.2.1.map icell) ∧ Arr X.2.2.2.2.2.2.2 X.2.2.2.2.1 1 (x10.2.2.2.2.2.1.map icell) ∧ Arr X.2.2.2.2.2.2.2 X.2.2.2.2.2.1 1 (x10.2.2.2.2.2.2.1.map icell) ∧ SliceLen X.2.2.2.2.2.2.1 (x10.2.2.2.2.2.2.2).length) hk (fun _ h => by cases h; decide) en108 (ec Z (ec Z (ec Z eN))) (fun M w h1 h2 => have h := regs_layout_w hx11 h_l_logs h_l_body h_l_outs h_p_times M w h1 h2; h) (fun X13 hF13 hle13 => ?_))
 refine wa Z (nt (WC.seq (sr (wm Z (WL.effect Z ?_)))))
 obtain ⟨x16, hx17, hm18⟩ := bd_some hm12; clear hm12
 refine (EV.callR (X := Value × World) (R := [blk X13.1 [X13.2.1, X13.2.2.1, X13.2.2.2.1, i_ x10.2.2.2.1, i_ x10.2.2.2.2.1, X13.2.2.2.2.1, X13.2.2.2.2.2.1, X13.2.2.2.2.2.2.1] 87, vec X13.2.2.2.2.2.2.1 3 1 (List.map icell x10.2.2.2.2.2.2.2)]) (fun X => .bool x16.1) (fun X => [blk X13.1 [X13.2.1, X13.2.2.1, X13.2.2.2.1, i_ x10.2.2.2.1, i_ x10.2.2.2.2.1, X13.2.2.2.2.1, X13.2.2.2.2.2.1, X.1] 87, vec X.1 3 1 (List.map icell x16.2)]) (fun X => X.2) (fun X => SliceLen X.1 (x16.2).length) hk (fun _ h => by cases h; decide) en109 (ec Z eN) (fun M w h1 h2 => have h := regs_first_w hx17 hF13.1 hF13.2.1 hF13.2.2.1 hF13.2.2.2.1 hF13.2.2.2.2.1 hF13.2.2.2.2.2 M w h1 h2; h) (fun X19 hF19 hle19 => ?_))
 refine wm Z (gn Z (fun hG => QV.move Z Z) ?_)
 refine bothWays (!x16.1) (fun hb20 => ?_) (fun hb20 => ?_)
 ·skip
  have hm21 := br_t hb20 hm18; clear hm18
  refine WL.effectG (GuardIs.neg Z Z) hb20 ?_
  obtain ⟨x22, hx23, hm24⟩ := bd_some hm21; clear hm21
  refine (EV.callR (X := Value × World) (R := [blk X13.1 [X13.2.1, X13.2.2.1, X13.2.2.2.1, i_ x10.2.2.2.1, i_ x10.2.2.2.2.1, X13.2.2.2.2.1, X13.2.2.2.2.2.1, X19.1] 87, vec X19.1 3 1 (List.map icell x16.2)]) (fun X => .bool x22.1) (fun X => [blk X13.1 [X13.2.1, X13.2.2.1, X13.2.2.2.1, i_ x10.2.2.2.1, i_ x10.2.2.2.2.1, X13.2.2.2.2.1, X13.2.2.2.2.2.1, X.1] 87, vec X.1 3 1 (List.map icell x22.2)]) (fun X => X.2) (fun X => SliceLen X.1 (x22.2).length) hk (fun _ h => by cases h; decide) en110 (EvAll.cons Z hb20 eN) (fun M w h1 h2 => have h := regs_spaced_w hx23 (hF13.1.le hle19) (hF13.2.1.le hle19) (hF13.2.2.1.le hle19) (hF13.2.2.2.1.le hle19) (hF13.2.2.2.2.1.le hle19) hF19 M w h1 h2; h) (fun X25 hF25 hle25 => ?_))
  refine wq Z (QV.pickOr Z Z Z (fun _ => Z)) (nt ?_)
  refine wc Z hm24 (fun h26 hm27 => ?_) (fun h26 hm34 => ?_) <;> clear hm24
  ·skip
   refine sr (wm Z (WL.effect Z ?_))
   refine EV.of (C' := Own M w [kn M w.heap.size K0 X25.2, vec X25.1 3 1 (List.map icell x22.2), blk X13.1 [X13.2.1, X13.2.2.1, X13.2.2.2.1, i_ x10.2.2.2.1, i_ x10.2.2.2.2.1, X13.2.2.2.2.1, X13.2.2.2.2.2.1, X25.1] 87, blk b3 [i_ p.pace, v_p_times] 91, blk b2 t.cells 28, blk b1 [v_l_logs, v_l_body, v_l_outs] 25]) (pk [0, 2, 1, 3, 4, 5]) ?_
   refine EV.freeze hk (fun k28 hle28 hr28 => ?_)
   have hA28 := vec_arr hr28
   refine EV.freeze hk (fun k29 hle29 hr29 => ?_)
   have hc29 := blk_cells hr29
   obtain ⟨x30, hx31, hm32⟩ := bd_some hm27; clear hm27
   refine (EV.callR (X := Value × World) (R := []) (fun X => X.1) (fun X => []) (fun X => X.2) (fun X => Arr X.2 X.1 1 (x30.map icell)) hk (fun _ h => by cases h; decide) en111 (ec Z eN) (fun M w h1 h2 => have h := regs_dests_w hx31 (hF13.2.2.2.1.le (((hle19.trans hle25).trans hle28).trans hle29)) (hA28.le hle29) hc29 M w h1 h2; h) (fun X33 hF33 hle33 => ?_))
   refine wa Z (wa Z (nt (WC.ret (tr ?_))))
   obtain rfl := (eq_of_some hm32).symm
   refine WQ.ret2 Z Z Z (fun w hw => ?_)
   exact ⟨(X33.1, X33.2), Z, hw.pick [0] (by decide), hF33⟩
  refine sk (WQ.then (sr (wa Z (wa Z (nt (WC.ret ?_))))))
  obtain rfl := (eq_of_some hm34).symm
  refine WQ.ret2 Z Z Z (fun w hw => ?_)
  exact ⟨(.slice none 0 0, X25.2), Z, hw.pick [0] (by decide), Arr.nil⟩
 have hm35 := br_f hb20 hm18; clear hm18
 refine WL.g (v := .bool false) Z Z (GuardIs.neg Z Z) (fun hG => absurd (hb20.symm.trans hG) (by decide)) ?_
 refine wq Z (QV.pickOr Z Z Z (fun h => notF h)) (nt ?_)
 refine wc Z hm35 (fun h36 hm37 => ?_) (fun h36 hm44 => ?_) <;> clear hm35
 ·skip
  refine sr (wm Z (WL.effect Z ?_))
  refine EV.of (C' := Own M w [kn M w.heap.size K0 X19.2, vec X19.1 3 1 (List.map icell x16.2), blk X13.1 [X13.2.1, X13.2.2.1, X13.2.2.2.1, i_ x10.2.2.2.1, i_ x10.2.2.2.2.1, X13.2.2.2.2.1, X13.2.2.2.2.2.1, X19.1] 87, blk b3 [i_ p.pace, v_p_times] 91, blk b2 t.cells 28, blk b1 [v_l_logs, v_l_body, v_l_outs] 25]) (pk [0, 2, 1, 3, 4, 5]) ?_
  refine EV.freeze hk (fun k38 hle38 hr38 => ?_)
  have hA38 := vec_arr hr38
  refine EV.freeze hk (fun k39 hle39 hr39 => ?_)
  have hc39 := blk_cells hr39
  obtain ⟨x40, hx41, hm42⟩ := bd_some hm37; clear hm37
  refine (EV.callR (X := Value × World) (R := []) (fun X => X.1) (fun X => []) (fun X => X.2) (fun X => Arr X.2 X.1 1 (x40.map icell)) hk (fun _ h => by cases h; decide) en111 (ec Z eN) (fun M w h1 h2 => have h := regs_dests_w hx41 (hF13.2.2.2.1.le ((hle19.trans hle38).trans hle39)) (hA38.le hle39) hc39 M w h1 h2; h) (fun X43 hF43 hle43 => ?_))
  refine wa Z (wa Z (nt (WC.ret (tr ?_))))
  obtain rfl := (eq_of_some hm42).symm
  refine WQ.ret2 Z Z Z (fun w hw => ?_)
  exact ⟨(X43.1, X43.2), Z, hw.pick [0] (by decide), hF43⟩
 refine sk (WQ.then (sr (wa Z (wa Z (nt (WC.ret ?_))))))
 obtain rfl := (eq_of_some hm44).symm
 refine WQ.ret2 Z Z Z (fun w hw => ?_)
 exact ⟨(.slice none 0 0, X19.2), Z, hw.pick [0] (by decide), Arr.nil⟩
end Go.Proofs.Ytaimbkndebaaiac
end
section
namespace Go.Proofs.Ytaimbkndebaaiac
open Go.Rd
open TNum TLoop TKern TKeep TOrd TCpt TDep TSched1 TEmit TCheck TRegs
namespace TBound
theorem ag26 : AggT Try.prog 26 3 := ⟨_, Try.underlying26, rfl, by kernel_rfl⟩
theorem en106 : Go.Rd.Enters Try.prog 106 := eT Try.func106
theorem sl187 : SliceT Try.prog 187 22 1 := ⟨Try.underlying187, by kernel_rfl⟩
theorem ve187 : VecT Try.prog 187 22 1 24 := ⟨Try.underlying187, by kernel_rfl, by decide⟩
theorem ze22 : ZeroT Try.prog 22 [.slice none 0 0] := by unfold ZeroT; kernel_rfl
theorem ze26 : ZeroT Try.prog 26 [.int .i64 0, .int .i64 0, .int .i64 0] := by unfold ZeroT; kernel_rfl
end TBound
open TBound
theorem bound_rounds_w {v_edges : Value} {n_ : Int} {edges : List Edg} {pace : Int} {r : Bool} (w : World) (hm : bound_rounds_m n_ edges pace = some r) (h_edges : Arr w v_edges 4 (edges.map Edg.cells)) : Calls Try.prog 106 #[.int .i64 n_, v_edges, .int .i64 pace] w (fun e w' => e = .returned (.bool r) ∧ Grow w w') := by
 unfold bound_rounds_m at hm
 have hk := Base.rfl (w := w)
 refine calls_of_WC (n := 152) (args := [i_ n_, v_edges, i_ pace]) Try.func106 Z Z (nl Z) ?_ (Own.startK hk (Own.start w))
 refine sr (wa Z (ns (wm Z (WL.effect Z ?_))))
 obtain ⟨c1, c3, hm4⟩ := cs2 hm; clear hm
 refine (EV.makeSlice (enc := hcell) nilS (by decide) ve187 ze22 Z Z c1 Z c3 (fun u5 hu6 => ?_))
 refine WK.of (fun w hw => hw.gridRep 3) ?_
 have hg8 := GL.rep n_.toNat
 have hl9 : SliceLen u5 (List.replicate n_.toNat ([] : List Int)).length := by rw [List.length_replicate]; simpa using hu6
 refine wa Z (nt (WC.seq (sr (wm Z (wq Z (QV.lenS Try.underlying187 Z Z hl9) (wm Z (nt ?_)))))))
 obtain ⟨o10, ho11, hm12⟩ := bd_some hm4; clear hm4; obtain ⟨n13, ho14⟩ := lp_some ho11
 refine WC.bloop3 (H2 := [kn noM w.heap.size w w]) (τ := [u_ 0 _, u_ 1 _, u_ 2 _, u_ 7 _, u_ 19 _]) (fun (v7_3 : List (List Int)) (x20_3 : Int) (hsv7_3 : List Value) => [(20, (true, i_ x20_3))]) (fun v7_3 x20_3 hsv7_3 => [grid u5 hsv7_3 22 3 v7_3]) (fun v7_3 x20_3 hsv7_3 m => iter (bound_rounds_L0 n_) m (v7_3, x20_3) = some o10 ∧ SliceLen u5 v7_3.length ∧ GL hsv7_3 v7_3) (fun v7_3 x20_3 hsv7_3 => o10 = .go (v7_3, x20_3) ∧ SliceLen u5 v7_3.length ∧ GL hsv7_3 v7_3) (List.replicate n_.toNat ([] : List Int)) 0 (List.replicate n_.toNat nilS) n13 ⟨ho14, hl9, hg8⟩ ⟨Z, Z, Z, Z, Z, Z, trivial⟩ (pk [0, 1]) ?_ ?_
 ·skip
  rintro v7_3 x20_3 hsv7_3 ⟨rfl, hlv7_3, hgv7_3⟩
  refine WQ.then (WC.seq (sr (wm Z (wq Z (QV.lenS Try.underlying68 Z Z h_edges.lenMap) (wm Z (nt ?_))))))
  obtain ⟨o15, ho16, hm17⟩ := bd_some hm12; clear hm12; obtain ⟨n18, ho19⟩ := lp_some ho16
  refine WC.bloop2 (H2 := [kn noM w.heap.size w w]) (τ := [u_ 0 _, u_ 2 _, u_ 7 _, u_ 44 _, u_ 45 _]) (fun (v7_4 : List (List Int)) (x46_4 : Int) => [(46, (true, i_ x46_4))]) (fun v7_4 x46_4 => [grid u5 hsv7_3 22 3 v7_4]) (fun v7_4 x46_4 m => iter (bound_rounds_L4 edges pace) m (v7_4, x46_4) = some o15 ∧ SliceLen u5 v7_4.length ∧ GL hsv7_3 v7_4) (fun v7_4 x46_4 => o15 = .go (v7_4, x46_4) ∧ SliceLen u5 v7_4.length ∧ GL hsv7_3 v7_4) v7_3 0 n18 ⟨ho19, hlv7_3, hgv7_3⟩ ⟨Z, Z, Z, Z, Z, Z, trivial⟩ (pk [0, 1]) ?_ ?_
  ·skip
   rintro v7_4 x46_4 ⟨rfl, hlv7_4, hgv7_4⟩
   refine WQ.then (WC.seq (sr (wm Z (wm Z (nt ?_)))))
   obtain ⟨o20, ho21, hm22⟩ := bd_some hm17; clear hm17; obtain ⟨n23, ho24⟩ := lp_some ho21
   refine WC.bloop2 (H2 := [kn noM w.heap.size w w]) (τ := [u_ 0 _, u_ 7 _, u_ 76 _]) (fun (v7_13 : List (List Int)) (x77_13 : Int) => [(77, (true, i_ x77_13))]) (fun v7_13 x77_13 => [grid u5 hsv7_3 22 3 v7_13]) (fun v7_13 x77_13 m => iter (bound_rounds_L6 n_) m (v7_13, x77_13) = some o20 ∧ SliceLen u5 v7_13.length ∧ GL hsv7_3 v7_13) (fun v7_13 x77_13 => o20 = .go (v7_13, x77_13) ∧ SliceLen u5 v7_13.length ∧ GL hsv7_3 v7_13) v7_4 0 n23 ⟨ho24, hlv7_4, hgv7_4⟩ ⟨Z, Z, Z, Z, trivial⟩ (pk [0, 1]) ?_ ?_
   ·skip
    rintro v7_13 x77_13 ⟨rfl, hlv7_13, hgv7_13⟩
    refine WQ.then (WC.seq (sr (wm Z (wm Z (nt ?_)))))
    obtain ⟨o25, ho26, hm27⟩ := bd_some hm22; clear hm22; obtain ⟨n28, ho29⟩ := lp_some ho26
    refine WC.bloop1 (H2 := [grid u5 hsv7_3 22 3 v7_13, kn noM w.heap.size w w]) (τ := [u_ 7 _, u_ 139 _]) (fun (x140_14 : Int) => [(140, (true, i_ x140_14))]) (fun x140_14 => []) (fun x140_14 m => iter (bound_rounds_L12 n_ v7_13) m x140_14 = some o25) (fun x140_14 => o25 = .go x140_14) 0 n28 ho29 ⟨Z, Z, Z, trivial⟩ (pk [0, 1]) ?_ ?_
    ·skip
     rintro x140_14 rfl
     refine WQ.then (sr (wa Z (nt (WC.ret ?_))))
     obtain rfl := (eq_of_some hm27).symm
     exact WQ.ret1 Z Z fun w hw => kg hw
    rintro x140_14 m30 hI31
    obtain ⟨m32, s33, rfl, hm34, hn35⟩ := iter_step hI31; clear hI31; unfold bound_rounds_L12 at hm34
    refine sr (wq Z (QV.lss Z Z Z Z) (nt (WC.seq ?_)))
    refine wc Z hm34 (fun h36 hm37 => ?_) (fun h36 hm51 => ?_) <;> clear hm34
    ·skip
     refine sk (WQ.then (WC.seq (WC.block (sr (wm Z (wa Z (ns (wm Z (wm Z ?_)))))))))
     obtain ⟨c38, hm39⟩ := cs hm37; clear hm37
     obtain ⟨p40, hp41⟩ := hlv7_13.ix (sz := 1) ln_len c38
     refine wq Z (QV.indexSlice sl187 Z Z Z Z hp41) (wl pl22 Z (Own.gridHdr 0 Z hp41 c38) (wm Z ?_))
     obtain ⟨c42, hm43⟩ := cs hm39; clear hm39
     obtain ⟨p44, hp45⟩ := (hgv7_13.ix x140_14).ix (sz := 1) ln_len c42
     refine wq Z (QV.indexSlice sl22 Z Z Z Z hp45) (wl pl3 Z (fun w hw => CellsAt.one 0 (((Own.gridArr 0 Z c38) w hw).ele hp45 c42) Z) (wq Z (QV.gtr Z Z Z Z) (nt ?_)))
     refine wc Z hm43 (fun h46 hm47 => ?_) (fun h46 hm48 => ?_) <;> clear hm43
     ·skip
      refine sr (wa Z (nt (WC.ret (kr (tr (tr (kr (tr (tr ?_)))))))))
      obtain rfl := up_ret hm47 hn35
      obtain rfl := (eq_of_some hm27).symm
      exact WQ.ret1 Z Z fun w hw => kg hw
     refine sk (WQ.block (WQ.then (WC.region ?_)))
     obtain ⟨c49, hm50⟩ := cs hm48; clear hm48
     refine wq Z (QV.add Z Z Z Z c49) (wm Z (WL.nil ?_))
     exact WQ.again1 (x140_14 + 1) m32 (up_next hm50 hn35) (Nat.lt_succ_self _) ⟨Z, Z, Z, trivial⟩ (pk [0, 1])
    refine WC.exit (te (te (WQ.block_exit ?_)))
    exact WQ.out1 x140_14 (up_brk hm51 hn35) ⟨Z, Z, Z, trivial⟩ (pk [0, 1])
   rintro v7_13 x77_13 m52 ⟨hI53, hlv7_13, hgv7_13⟩
   obtain ⟨m54, s55, rfl, hm56, hn57⟩ := iter_step hI53; clear hI53; unfold bound_rounds_L6 at hm56; simp only at hm56
   refine sr (wq Z (QV.lss Z Z Z Z) (nt (WC.seq ?_)))
   refine wc Z hm56 (fun h58 hm59 => ?_) (fun h58 hm151 => ?_) <;> clear hm56
   ·skip
    refine sk (WQ.then (WC.seq (WC.block (sr (wm Z (wa Z (ns (wm Z (wm Z (nt ?_))))))))))
    obtain ⟨o60, ho61, hm62⟩ := bd_some hm59; clear hm59; obtain ⟨n63, ho64⟩ := lp_some ho61
    refine WC.bloop2 (H2 := [kn noM w.heap.size w w]) (τ := [u_ 0 _, u_ 7 _, u_ 12 _, u_ 76 _, u_ 77 _, u_ 80 _]) (fun (v7_17 : List (List Int)) (x81_17 : Int) => [(81, (true, i_ x81_17))]) (fun v7_17 x81_17 => [grid u5 hsv7_3 22 3 v7_17]) (fun v7_17 x81_17 m => iter (bound_rounds_L8 n_ x77_13) m (v7_17, x81_17) = some o60 ∧ SliceLen u5 v7_17.length ∧ GL hsv7_3 v7_17) (fun v7_17 x81_17 => o60 = .go (v7_17, x81_17) ∧ SliceLen u5 v7_17.length ∧ GL hsv7_3 v7_17) v7_13 0 n63 ⟨ho64, hlv7_13, hgv7_13⟩ ⟨Z, Z, Z, Z, Z, Z, Z, trivial⟩ (pk [0, 1]) ?_ ?_
    ·skip
     rintro v7_17 x81_17 ⟨rfl, hlv7_17, hgv7_17⟩
     refine WQ.block (WQ.then (WC.region ?_))
     obtain ⟨c65, hm66⟩ := cs hm62; clear hm62
     refine wq Z (QV.add Z Z Z Z c65) (wm Z (WL.nil ?_))
     exact WQ.again2 v7_17 (x77_13 + 1) m54 ⟨up_next hm66 hn57, hlv7_17, hgv7_17⟩ (Nat.lt_succ_self _) ⟨Z, Z, Z, Z, trivial⟩ (pk [0, 1])
    rintro v7_17 x81_17 m67 ⟨hI68, hlv7_17, hgv7_17⟩
    obtain ⟨m69, s70, rfl, hm71, hn72⟩ := iter_step hI68; clear hI68; unfold bound_rounds_L8 at hm71; simp only at hm71
    refine sr (wq Z (QV.lss Z Z Z Z) (nt (WC.seq ?_)))
    refine wc Z hm71 (fun h73 hm74 => ?_) (fun h73 hm150 => ?_) <;> clear hm71
    ·skip
     refine sk (WQ.then (WC.seq (WC.block (sr (wm Z (wa Z (ns (wm Z (wm Z (nt ?_))))))))))
     obtain ⟨o75, ho76, hm77⟩ := bd_some hm74; clear hm74; obtain ⟨n78, ho79⟩ := lp_some ho76
     refine WC.bloop2 (H2 := [kn noM w.heap.size w w]) (τ := [u_ 0 _, u_ 7 _, u_ 12 _, u_ 13 _, u_ 76 _, u_ 77 _, u_ 80 _, u_ 81 _, u_ 84 _]) (fun (v7_18 : List (List Int)) (x85_18 : Int) => [(85, (true, i_ x85_18))]) (fun v7_18 x85_18 => [grid u5 hsv7_3 22 3 v7_18]) (fun v7_18 x85_18 m => iter (bound_rounds_L10 n_ x77_13 x81_17) m (v7_18, x85_18) = some o75 ∧ SliceLen u5 v7_18.length ∧ GL hsv7_3 v7_18) (fun v7_18 x85_18 => o75 = .go (v7_18, x85_18) ∧ SliceLen u5 v7_18.length ∧ GL hsv7_3 v7_18) v7_17 0 n78 ⟨ho79, hlv7_17, hgv7_17⟩ ⟨Z, Z, Z, Z, Z, Z, Z, Z, Z, Z, trivial⟩ (pk [0, 1]) ?_ ?_
     ·skip
      rintro v7_18 x85_18 ⟨rfl, hlv7_18, hgv7_18⟩
      refine WQ.block (WQ.then (WC.region ?_))
      obtain ⟨c80, hm81⟩ := cs hm77; clear hm77
      refine wq Z (QV.add Z Z Z Z c80) (wm Z (WL.nil ?_))
      exact WQ.again2 v7_18 (x81_17 + 1) m69 ⟨up_next hm81 hn72, hlv7_18, hgv7_18⟩ (Nat.lt_succ_self _) ⟨Z, Z, Z, Z, Z, Z, Z, trivial⟩ (pk [0, 1])
     rintro v7_18 x85_18 m82 ⟨hI83, hlv7_18, hgv7_18⟩
     obtain ⟨m84, s85, rfl, hm86, hn87⟩ := iter_step hI83; clear hI83; unfold bound_rounds_L10 at hm86; simp only at hm86
     refine sr (wq Z (QV.lss Z Z Z Z) (nt (WC.seq ?_)))
     refine wc Z hm86 (fun h88 hm89 => ?_) (fun h88 hm149 => ?_) <;> clear hm86
     ·skip
      refine sk (WQ.then (WC.seq (WC.block (sr (wm Z (wa Z (ns (wm Z (wm Z ?_)))))))))
      obtain ⟨c90, hm91⟩ := cs hm89; clear hm89
      obtain ⟨p92, hp93⟩ := hlv7_18.ix (sz := 1) ln_len c90
      refine wq Z (QV.indexSlice sl187 Z Z Z Z hp93) (wl pl22 Z (Own.gridHdr 0 Z hp93 c90) (wm Z ?_))
      obtain ⟨c94, hm95⟩ := cs hm91; clear hm91
      obtain ⟨p96, hp97⟩ := (hgv7_18.ix x81_17).ix (sz := 1) ln_len c94
      refine wq Z (QV.indexSlice sl22 Z Z Z Z hp97) (wl pl3 Z (fun w hw => CellsAt.one 0 (((Own.gridArr 0 Z c90) w hw).ele hp97 c94) Z) (wq Z (QV.gtr Z Z Z Z) (wm Z (gp Z (fun hG => QV.move Z Z) (gp Z (fun hG => QV.move Z Z) ?_)))))
      obtain ⟨c98, hm99⟩ := cs hm95; clear hm95
      obtain ⟨p100, hp101⟩ := hlv7_18.ixG (sz := 1) ln_len c98
      refine gp Z (fun hG => QV.indexSlice sl187 Z hG Z hG (hp101 hG)) (gp Z (fun hG => QV.load pl22 Z hG (Own.gridHdr 0 Z (hp101 hG) (c98 hG))) (gp Z (fun hG => QV.move Z Z) ?_))
      obtain ⟨c102, hm103⟩ := cs hm99; clear hm99
      obtain ⟨p104, hp105⟩ := (hgv7_18.ix x77_13).ixG (sz := 1) ln_len c102
      refine gp Z (fun hG => QV.indexSlice sl22 Z hG Z hG (hp105 hG)) (gp Z (fun hG => QV.load pl3 Z hG (fun w hw => CellsAt.one 0 (((Own.gridArr 0 Z (c98 hG)) w hw).ele (hp105 hG) (c102 hG)) Z)) (gp Z (fun hG => QV.gtr Z hG Z Z) (wq Z (QV.pickAnd Z Z Z (fun h => h)) (nt ?_))))
      refine wc Z hm103 (fun h106 hm107 => ?_) (fun h106 hm146 => ?_) <;> clear hm103
      ·skip
       refine WC.dr (m := 31) (S := Own noM w [kn noM w.heap.size w w, grid u5 hsv7_3 22 3 v7_18]) (by kernel_rfl) (by kernel_rfl) (pk [1, 0]) (zm 0 Z Z (zm 1 Z Z ?_))
       obtain ⟨c108, hm109⟩ := cs hm107; clear hm107
       obtain ⟨p110, hp111⟩ := hlv7_18.ix (sz := 1) ln_len c108
       refine wz 2 Z Z (QV.indexSlice sl187 Z Z Z Z hp111) (zl 3 pl22 Z Z (Own.gridHdr 1 Z hp111 c108) (zm 4 Z Z (zm 5 Z Z (zm 6 Z Z ?_))))
       obtain ⟨c112, hm113⟩ := cs hm109; clear hm109
       obtain ⟨p114, hp115⟩ := hlv7_18.ix (sz := 1) ln_len c112
       refine wz 7 Z Z (QV.indexSlice sl187 Z Z Z Z hp115) (zl 8 pl22 Z Z (Own.gridHdr 1 Z hp115 c112) (zm 9 Z Z ?_))
       obtain ⟨c116, hm117⟩ := cs hm113; clear hm113
       obtain ⟨p118, hp119⟩ := (hgv7_18.ix x81_17).ix (sz := 1) ln_len c116
       refine wz 10 Z Z (QV.indexSlice sl22 Z Z Z Z hp119) (zl 11 pl3 Z Z (fun w hw => CellsAt.one 0 (((Own.gridArr 1 Z c112) w hw).ele hp119 c116) Z) (zm 12 Z Z (zm 13 Z Z ?_)))
       obtain ⟨c120, hm121⟩ := cs hm117; clear hm117
       obtain ⟨p122, hp123⟩ := hlv7_18.ix (sz := 1) ln_len c120
       refine wz 14 Z Z (QV.indexSlice sl187 Z Z Z Z hp123) (zl 15 pl22 Z Z (Own.gridHdr 1 Z hp123 c120) (zm 16 Z Z ?_))
       obtain ⟨c124, hm125⟩ := cs hm121; clear hm121
       obtain ⟨p126, hp127⟩ := (hgv7_18.ix x81_17).ix (sz := 1) ln_len c124
       refine wz 17 Z Z (QV.indexSlice sl22 Z Z Z Z hp127) (zl 18 pl3 Z Z (fun w hw => CellsAt.one 0 (((Own.gridArr 1 Z c120) w hw).ele hp127 c124) Z) (zm 19 Z Z (zm 20 Z Z ?_)))
       obtain ⟨c128, hm129⟩ := cs hm125; clear hm125
       obtain ⟨p130, hp131⟩ := hlv7_18.ix (sz := 1) ln_len c128
       refine wz 21 Z Z (QV.indexSlice sl187 Z Z Z Z hp131) (zl 22 pl22 Z Z (Own.gridHdr 1 Z hp131 c128) (zm 23 Z Z ?_))
       obtain ⟨c132, hm133⟩ := cs hm129; clear hm129
       obtain ⟨p134, hp135⟩ := (hgv7_18.ix x77_13).ix (sz := 1) ln_len c132
       refine wz 24 Z Z (QV.indexSlice sl22 Z Z Z Z hp135) (zl 25 pl3 Z Z (fun w hw => CellsAt.one 0 (((Own.gridArr 1 Z c128) w hw).ele hp135 c132) Z) ?_)
       obtain ⟨c136, c138, hm139⟩ := cs2 hm133; clear hm133
       refine wz 26 Z Z (QV.add Z Z Z Z c136) (wz 27 Z Z (QV.min2 Z Z Z Z) (wz 28 Z Z (QV.max2 Z Z Z Z) ?_))
       obtain ⟨p140, hp141⟩ := (hgv7_18.ix x81_17).ix (sz := 1) ln_len c138
       refine wz 29 Z Z (QV.indexSlice sl22 Z Z Z Z hp141) ?_
       refine WD.l 30 Z (by kernel_rfl) Z ?_
       refine (EV.storeG 0 (max (ele (ele v7_18 x81_17) x85_18) (min ((ele (ele v7_18 x81_17) x77_13) + (ele (ele v7_18 x77_13) x85_18)) 1048576)) Z Z Z Z Z c108 hp141 sz3 ?_)
       have hg143 := hgv7_18.updG x81_17 x85_18 (max (ele (ele v7_18 x81_17) x85_18) (min ((ele (ele v7_18 x81_17) x77_13) + (ele (ele v7_18 x77_13) x85_18)) 1048576))
       have hl142 : SliceLen u5 (updG v7_18 x81_17 x85_18 (max (ele (ele v7_18 x81_17) x85_18) (min ((ele (ele v7_18 x81_17) x77_13) + (ele (ele v7_18 x77_13) x85_18)) 1048576))).length := slen_updG hlv7_18
       refine WQ.block (WQ.then (WC.region ?_))
       obtain ⟨c144, hm145⟩ := cs hm139; clear hm139
       refine wq Z (QV.add Z Z Z Z c144) (wm Z (WL.nil ?_))
       exact WQ.again2 (updG v7_18 x81_17 x85_18 (max (ele (ele v7_18 x81_17) x85_18) (min ((ele (ele v7_18 x81_17) x77_13) + (ele (ele v7_18 x77_13) x85_18)) 1048576))) (x85_18 + 1) m84 ⟨up_next hm145 hn87, hl142, hg143⟩ (Nat.lt_succ_self _) ⟨Z, Z, Z, Z, Z, Z, Z, Z, Z, Z, trivial⟩ (pk [0, 1])
      refine sk (WQ.block (WQ.then (WC.region ?_)))
      obtain ⟨c147, hm148⟩ := cs hm146; clear hm146
      refine wq Z (QV.add Z Z Z Z c147) (wm Z (WL.nil ?_))
      exact WQ.again2 v7_18 (x85_18 + 1) m84 ⟨up_next hm148 hn87, hlv7_18, hgv7_18⟩ (Nat.lt_succ_self _) ⟨Z, Z, Z, Z, Z, Z, Z, Z, Z, Z, trivial⟩ (pk [0, 1])
     refine WC.exit (te (te (WQ.block_exit ?_)))
     exact WQ.out2 v7_18 x85_18 ⟨up_brk hm149 hn87, hlv7_18, hgv7_18⟩ ⟨Z, Z, Z, Z, Z, Z, Z, Z, Z, Z, trivial⟩ (pk [0, 1])
    refine WC.exit (te (te (WQ.block_exit ?_)))
    exact WQ.out2 v7_17 x81_17 ⟨up_brk hm150 hn72, hlv7_17, hgv7_17⟩ ⟨Z, Z, Z, Z, Z, Z, Z, trivial⟩ (pk [0, 1])
   refine WC.exit (te (te (WQ.block_exit ?_)))
   exact WQ.out2 v7_13 x77_13 ⟨up_brk hm151 hn57, hlv7_13, hgv7_13⟩ ⟨Z, Z, Z, Z, trivial⟩ (pk [0, 1])
  rintro v7_4 x46_4 m152 ⟨hI153, hlv7_4, hgv7_4⟩
  obtain ⟨m154, s155, rfl, hm156, hn157⟩ := iter_step hI153; clear hI153; unfold bound_rounds_L4 at hm156; simp only at hm156
  refine sr (wq Z (QV.lss Z Z Z Z) (nt (WC.seq ?_)))
  refine wc Z hm156 (fun h158 hm159 => ?_) (fun h158 hm189 => ?_) <;> clear hm156
  ·skip
   refine sk (WQ.then (WC.seq (WC.block (sr ?_))))
   obtain ⟨c160, hm161⟩ := cs hm159; clear hm159
   obtain ⟨p162, hp163⟩ := h_edges.lenMap.ix (sz := 4) ln_len c160
   refine wq Z (QV.indexSlice sl68 Z Z Z Z hp163) (wq Z (QV.loadAgg ag71 Z Z Z (fun w hw => ((Own.karr 1 Z hk h_edges) w hw).ele hp163 c160)) (WL.effect Z ?_))
   refine (EV.alloc (by decide) ze71 (fun b164 => ?_))
   refine WL.effect Z ?_
   refine (EV.store 0 Z Z Z Z Z Z (vs := (Edg.cells (ele edges x46_4))) (show Value.cells _ = List.toArray _ from Z) sz71 (nl Z) (oc Z (oc Z (oc Z (oc Z one_nil)))) ?_)
   refine nt (WC.dr (m := 26) (S := Own noM w [kn noM w.heap.size w w, blk b164 (Edg.cells (ele edges x46_4)) 71, grid u5 hsv7_3 22 3 v7_4]) (by kernel_rfl) (by kernel_rfl) (pk [2, 0, 1]) (zm 0 Z Z (zf 1 fd71_0 Z Z (zl 2 pl3 Z Z (Own.cell 1 Z Z) ?_))))
   obtain ⟨c165, hm166⟩ := cs hm161; clear hm161
   obtain ⟨p167, hp168⟩ := hlv7_4.ix (sz := 1) ln_len c165
   refine wz 3 Z Z (QV.indexSlice sl187 Z Z Z Z hp168) (zl 4 pl22 Z Z (Own.gridHdr 2 Z hp168 c165) (zf 5 fd71_1 Z Z (zl 6 pl3 Z Z (Own.cell 1 Z Z) (zm 7 Z Z (zf 8 fd71_0 Z Z (zl 9 pl3 Z Z (Own.cell 1 Z Z) ?_))))))
   obtain ⟨c169, hm170⟩ := cs hm166; clear hm166
   obtain ⟨p171, hp172⟩ := hlv7_4.ix (sz := 1) ln_len c169
   refine wz 10 Z Z (QV.indexSlice sl187 Z Z Z Z hp172) (zl 11 pl22 Z Z (Own.gridHdr 2 Z hp172 c169) (zf 12 fd71_1 Z Z (zl 13 pl3 Z Z (Own.cell 1 Z Z) ?_)))
   obtain ⟨c173, hm174⟩ := cs hm170; clear hm170
   obtain ⟨p175, hp176⟩ := (hgv7_4.ix ((ele edges x46_4).fr)).ix (sz := 1) ln_len c173
   refine wz 14 Z Z (QV.indexSlice sl22 Z Z Z Z hp176) (zl 15 pl3 Z Z (fun w hw => CellsAt.one 0 (((Own.gridArr 2 Z c169) w hw).ele hp176 c173) Z) (zf 16 fd71_3 Z Z (zl 17 pl3 Z Z (Own.cell 1 Z Z) (zm 18 Z Z (zf 19 fd71_2 Z Z (zl 20 pl3 Z Z (Own.cell 1 Z Z) ?_))))))
   obtain ⟨c177, c179, c181, hm182⟩ := cs3 hm174; clear hm174
   refine wz 21 Z Z (QV.mul Z Z Z Z c177) (wz 22 Z Z (QV.sub Z Z Z Z c179) (wz 23 Z Z (QV.max2 Z Z Z Z) ?_))
   obtain ⟨p183, hp184⟩ := (hgv7_4.ix ((ele edges x46_4).fr)).ix (sz := 1) ln_len c181
   refine wz 24 Z Z (QV.indexSlice sl22 Z Z Z Z hp184) ?_
   refine WD.l 25 Z (by kernel_rfl) Z ?_
   refine (EV.storeG 1 (max (ele (ele v7_4 ((ele edges x46_4).fr)) ((ele edges x46_4).to)) ((ele edges x46_4).wt - (pace * (ele edges x46_4).bk))) Z Z Z Z Z c165 hp184 sz3 ?_)
   have hg186 := hgv7_4.updG ((ele edges x46_4).fr) ((ele edges x46_4).to) (max (ele (ele v7_4 ((ele edges x46_4).fr)) ((ele edges x46_4).to)) ((ele edges x46_4).wt - (pace * (ele edges x46_4).bk)))
   have hl185 : SliceLen u5 (updG v7_4 ((ele edges x46_4).fr) ((ele edges x46_4).to) (max (ele (ele v7_4 ((ele edges x46_4).fr)) ((ele edges x46_4).to)) ((ele edges x46_4).wt - (pace * (ele edges x46_4).bk)))).length := slen_updG hlv7_4
   refine WQ.block (WQ.then (WC.region ?_))
   obtain ⟨c187, hm188⟩ := cs hm182; clear hm182
   refine wq Z (QV.add Z Z Z Z c187) (wm Z (WL.nil ?_))
   exact WQ.again2 (updG v7_4 ((ele edges x46_4).fr) ((ele edges x46_4).to) (max (ele (ele v7_4 ((ele edges x46_4).fr)) ((ele edges x46_4).to)) ((ele edges x46_4).wt - (pace * (ele edges x46_4).bk)))) (x46_4 + 1) m154 ⟨up_next hm188 hn157, hl185, hg186⟩ (Nat.lt_succ_self _) ⟨Z, Z, Z, Z, Z, Z, trivial⟩ (pk [1, 2])
  refine WC.exit (te (te (WQ.block_exit ?_)))
  exact WQ.out2 v7_4 x46_4 ⟨up_brk hm189 hn157, hlv7_4, hgv7_4⟩ ⟨Z, Z, Z, Z, Z, Z, trivial⟩ (pk [0, 1])
 rintro v7_3 x20_3 hsv7_3 m190 ⟨hI191, hlv7_3, hgv7_3⟩
 obtain ⟨m192, s193, rfl, hm194, hn195⟩ := iter_step hI191; clear hI191; unfold bound_rounds_L0 at hm194; simp only at hm194
 refine sr (wq Z (QV.lss Z Z Z Z) (nt (WC.seq ?_)))
 refine wc Z hm194 (fun h196 hm197 => ?_) (fun h196 hm243 => ?_) <;> clear hm194
 ·skip
  refine sk (WQ.then (WC.seq (WC.block (sr (wm Z (wa Z (ns (wm Z (wm Z (wm Z (WL.effect Z ?_)))))))))))
  obtain ⟨c198, c200, c205, hm206⟩ := cs3 hm197; clear hm197
  refine (EV.makeSlice (enc := icell) (0 : Int) (by decide) ve22 ze3 Z Z c198 Z c200 (fun u202 hu203 => ?_))
  obtain ⟨p207, hp208⟩ := hlv7_3.ix (sz := 1) ln_len c205
  refine wq Z (QV.indexSlice sl187 Z Z Z Z hp208) (WL.effect Z ?_)
  refine EV.of (C' := Own noM w [grid u5 hsv7_3 22 3 v7_3, vec u202 3 1 (List.map icell (List.replicate n_.toNat (0 : Int))), kn noM w.heap.size w w]) (pk [1, 0, 2]) ?_
  refine (EV.storeRow Z Z Z Z hp208 c205 hu203 sz22 ?_)
  have hg210 := GL.upd hgv7_3 hu203 x20_3
  have hl209 : SliceLen u5 (upd v7_3 x20_3 (List.replicate n_.toNat (0 : Int))).length := slen_upd hlv7_3
  refine ns (wm Z (wm Z ?_))
  obtain ⟨c211, hm212⟩ := cs hm206; clear hm206
  obtain ⟨p213, hp214⟩ := hl209.ix (sz := 1) ln_len c211
  refine wq Z (QV.indexSlice sl187 Z Z Z Z hp214) (wl pl22 Z (Own.gridHdr 0 Z hp214 c211) (wq Z (QV.lenS Try.underlying22 Z Z (hg210.ix x20_3)) (wm Z (nt ?_))))
  obtain ⟨o215, ho216, hm217⟩ := bd_some hm212; clear hm212; obtain ⟨n218, ho219⟩ := lp_some ho216
  refine WC.bloop2 (H2 := [kn noM w.heap.size w w]) (τ := [u_ 0 _, u_ 1 _, u_ 2 _, u_ 7 _, u_ 8 _, u_ 19 _, u_ 20 _, u_ 32 _]) (fun (v7_19 : List (List Int)) (x33_19 : Int) => [(33, (true, i_ x33_19))]) (fun v7_19 x33_19 => [grid u5 (upd hsv7_3 x20_3 u202) 22 3 v7_19]) (fun v7_19 x33_19 m => iter (bound_rounds_L2 n_ v7_3 x20_3) m (v7_19, x33_19) = some o215 ∧ SliceLen u5 v7_19.length ∧ GL (upd hsv7_3 x20_3 u202) v7_19) (fun v7_19 x33_19 => o215 = .go (v7_19, x33_19) ∧ SliceLen u5 v7_19.length ∧ GL (upd hsv7_3 x20_3 u202) v7_19) (upd v7_3 x20_3 (List.replicate n_.toNat (0 : Int))) 0 n218 ⟨ho219, hl209, hg210⟩ ⟨Z, Z, Z, Z, Z, Z, Z, Z, Z, trivial⟩ (pk [0, 1]) ?_ ?_
  ·skip
   rintro v7_19 x33_19 ⟨rfl, hlv7_19, hgv7_19⟩
   refine WQ.block (WQ.then (WC.region ?_))
   obtain ⟨c220, hm221⟩ := cs hm217; clear hm217
   refine wq Z (QV.add Z Z Z Z c220) (wm Z (WL.nil ?_))
   exact WQ.again3 v7_19 (x20_3 + 1) (upd hsv7_3 x20_3 u202) m192 ⟨up_next hm221 hn195, hlv7_19, hgv7_19⟩ (Nat.lt_succ_self _) ⟨Z, Z, Z, Z, Z, Z, trivial⟩ (pk [0, 1])
  rintro v7_19 x33_19 m222 ⟨hI223, hlv7_19, hgv7_19⟩
  obtain ⟨m224, s225, rfl, hm226, hn227⟩ := iter_step hI223; clear hI223; unfold bound_rounds_L2 at hm226; simp only at hm226
  refine sr (wq Z (QV.lss Z Z Z Z) (nt (WC.seq ?_)))
  refine wc Z hm226 (fun h228 hm229 => ?_) (fun h228 hm242 => ?_) <;> clear hm226
  ·skip
   refine sk (WQ.then (WC.seq (WC.block (sr (wm Z (wa Z (nr (wm Z (wm Z ?_)))))))))
   obtain ⟨c230, hm231⟩ := cs hm229; clear hm229
   obtain ⟨p232, hp233⟩ := hlv7_19.ix (sz := 1) ln_len c230
   refine wq Z (QV.indexSlice sl187 Z Z Z Z hp233) (wl pl22 Z (Own.gridHdr 0 Z hp233 c230) (wm Z ?_))
   obtain ⟨c234, hm235⟩ := cs hm231; clear hm231
   obtain ⟨p236, hp237⟩ := (hgv7_19.ix x20_3).ix (sz := 1) ln_len c234
   refine wq Z (QV.indexSlice sl22 Z Z Z Z hp237) (WL.effect Z ?_)
   refine (EV.storeG 0 (-1099511627776) Z Z Z Z Z c230 hp237 sz3 ?_)
   have hg239 := hgv7_19.updG x20_3 x33_19 (-1099511627776)
   have hl238 : SliceLen u5 (updG v7_19 x20_3 x33_19 (-1099511627776)).length := slen_updG hlv7_19
   refine WL.nil (WQ.block (WQ.then (WC.region ?_)))
   obtain ⟨c240, hm241⟩ := cs hm235; clear hm235
   refine wq Z (QV.add Z Z Z Z c240) (wm Z (WL.nil ?_))
   exact WQ.again2 (updG v7_19 x20_3 x33_19 (-1099511627776)) (x33_19 + 1) m224 ⟨up_next hm241 hn227, hl238, hg239⟩ (Nat.lt_succ_self _) ⟨Z, Z, Z, Z, Z, Z, Z, Z, Z, trivial⟩ (pk [0, 1])
  refine WC.exit (te (te (WQ.block_exit ?_)))
  exact WQ.out2 v7_19 x33_19 ⟨up_brk hm242 hn227, hlv7_19, hgv7_19⟩ ⟨Z, Z, Z, Z, Z, Z, Z, Z, Z, trivial⟩ (pk [0, 1])
 refine WC.exit (te (te (WQ.block_exit ?_)))
 exact WQ.out3 v7_3 x20_3 hsv7_3 ⟨up_brk hm243 hn195, hlv7_3, hgv7_3⟩ ⟨Z, Z, Z, Z, Z, Z, trivial⟩ (pk [0, 1])
theorem bound_Bound_w {v_l_logs v_l_body v_l_outs : Value} {l : Lp} {t : Tgt} {r : Int × Int × Int} (w : World) (hm : bound_Bound_m l t = some r) (h_l_logs : Arr w v_l_logs 1 (l.logs.map icell)) (h_l_body : Arr w v_l_body 9 (l.body.map Stm.cells)) (h_l_outs : Arr w v_l_outs 1 (l.outs.map icell)) : Calls Try.prog 70 #[.agg #[v_l_logs, v_l_body, v_l_outs], .agg #[.int .i64 t.u0, .int .i64 t.u1, .int .i64 t.u2, .int .i64 t.w0, .int .i64 t.w1, .int .i64 t.w2, .int .i64 t.regs]] w (fun e w' => e = .returned (.tuple #[.int .i64 r.1, .int .i64 r.2.1, .int .i64 r.2.2]) ∧ Grow w w') := by
 unfold bound_Bound_m at hm
 have hk := Base.rfl (w := w)
 refine calls_of_WC (n := 68) (args := [.agg #[v_l_logs, v_l_body, v_l_outs], .agg #[i_ t.u0, i_ t.u1, i_ t.u2, i_ t.w0, i_ t.w1, i_ t.w2, i_ t.regs]]) Try.func70 Z Z (nl Z) ?_ (Own.startK hk (Own.start w))
 refine sr (WL.effect Z ?_)
 refine (EV.boxAgg (by decide) Z Z (fun b1 => ?_))
 refine WL.effect Z ?_
 refine (EV.boxAgg (by decide) Z Z (fun b2 => ?_))
 refine wa Z (wa Z (wa Z (ns (wq Z (QV.loadAgg ag25 Z Z Z (Own.cellsBlk 1 Z)) (wq Z (QV.loadAgg ag28 Z Z Z (Own.cellsBlk 0 Z)) (WL.effect Z ?_))))))
 obtain ⟨x3, hx4, hm5⟩ := bd_some hm; clear hm
 refine EV.of (C' := Own noM w [kn noM w.heap.size w w, blk b2 t.cells 28, blk b1 [v_l_logs, v_l_body, v_l_outs] 25]) (pk [2, 0, 1]) ?_
 refine (EV.callR (X := Value × World) (R := []) (fun X => .tuple #[X.1, i_ x3.2]) (fun X => []) (fun X => X.2) (fun X => Arr X.2 X.1 4 (x3.1.map Edg.cells)) hk (fun _ h => by cases h; decide) en62 (ec Z (ec Z eN)) (fun M w h1 h2 => have h := dep_Edges_w hx4 h_l_logs h_l_body h_l_outs M w h1 h2; h) (fun X6 hF6 hle6 => ?_))
 refine wm Z (wq Z (QV.extract Z Z Z) (wq Z (QV.extract Z Z Z) (wa Z (wa Z (nt (WC.seq (sr (wm Z (wq Z (QV.neq Z Z Z Z) (nt ?_))))))))))
 refine wc Z hm5 (fun h7 hm8 => ?_) (fun h7 hm9 => ?_) <;> clear hm5
 ·skip
  refine sr (wm Z (wa Z (wa Z (wa Z (nt (WC.ret (tr ?_)))))))
  obtain rfl := (eq_of_some hm8).symm
  exact WQ.ret3 Z Z Z Z fun w hw => kg hw
 refine sk (WQ.then (sr (WL.effect Z ?_)))
 refine (EV.alloc (by decide) ze26 (fun b10 => ?_))
 refine nt (WC.seq (sr (wf fd25_1 Z (wl pl23 Z (Own.cell 3 Z Z) (wq Z (QV.lenS Try.underlying23 Z Z (h_l_body.le hle6).lenMap) (wm Z (nt ?_)))))))
 obtain ⟨o11, ho12, hm13⟩ := bd_some hm9; clear hm9; obtain ⟨n14, ho15⟩ := lp_some ho12
 refine WC.bloop2 (H2 := [kn noM w.heap.size w X6.2, blk b2 t.cells 28, blk b1 [v_l_logs, v_l_body, v_l_outs] 25]) (τ := [u_ 2 _, u_ 3 _, u_ 7 _, u_ 8 _, u_ 23 _, u_ 24 _]) (fun (b10n_1 : List Int) (x25_1 : Int) => [(25, (true, i_ x25_1))]) (fun b10n_1 x25_1 => [blk b10 (List.map i64v b10n_1) 26]) (fun b10n_1 x25_1 m => iter (bound_Bound_L0 l) m (b10n_1, x25_1) = some o11) (fun b10n_1 x25_1 => o11 = .go (b10n_1, x25_1)) ([0, 0, 0] : List Int) 0 n14 ho15 ⟨Z, Z, Z, Z, Z, Z, Z, trivial⟩ (pk [0, 1, 2, 3]) ?_ ?_
 ·skip
  rintro b10n_1 x25_1 rfl
  refine WQ.then (sr (wa Z (wa Z (nt (WC.seq (sr ?_))))))
  obtain ⟨c16, hm17⟩ := cs hm13; clear hm13
  refine wq Z (QV.loadAgg (cs := List.map i64v b10n_1) ag26 ((List.length_map _).trans c16) Z Z (Own.cellsL (c := i64v) (xs := b10n_1) 0 Z Z)) (wm Z (nt ?_))
  obtain ⟨o18, ho19, hm20⟩ := bd_some hm17; clear hm17; obtain ⟨n21, ho22⟩ := lp_some ho19
  refine WC.bloop2 (H2 := [blk b10 (List.map i64v b10n_1) 26, kn noM w.heap.size w X6.2, blk b2 t.cells 28, blk b1 [v_l_logs, v_l_body, v_l_outs] 25]) (τ := [u_ 2 _, u_ 3 _, u_ 5 _, u_ 7 _, u_ 37 _]) (fun (units4_2 : Int) (x38_2 : Int) => [(4, (true, i_ units4_2)), (38, (true, i_ x38_2))]) (fun units4_2 x38_2 => []) (fun units4_2 x38_2 m => iter (bound_Bound_L2 t b10n_1) m (units4_2, x38_2) = some o18) (fun units4_2 x38_2 => o18 = .go (units4_2, x38_2)) 1 0 n21 ho22 ⟨Z, Z, Z, Z, Z, Z, Z, trivial⟩ (pk [0, 1, 2, 3]) ?_ ?_
  ·skip
   rintro units4_2 x38_2 rfl
   refine WQ.then (WC.seq ?_)
   obtain ⟨o23, ho24, hm25⟩ := bd_some hm20; clear hm20; obtain ⟨n26, ho27⟩ := lp_some ho24
   refine WC.bloop1 (H2 := [blk b10 (List.map i64v b10n_1) 26, kn noM w.heap.size w X6.2, blk b2 t.cells 28, blk b1 [v_l_logs, v_l_body, v_l_outs] 25]) (τ := [u_ 2 _, u_ 4 _, u_ 7 _]) (fun (least5_3 : Int) => [(5, (true, i_ least5_3))]) (fun least5_3 => []) (fun least5_3 m => iter (bound_Bound_L4 l x3) m least5_3 = some o23) (fun least5_3 => o23 = .go least5_3) 1 n26 ho27 ⟨Z, Z, Z, Z, trivial⟩ (pk [0, 1, 2, 3]) ?_ ?_
   ·skip
    rintro least5_3 rfl
    refine WQ.then (sr (wm Z (wm Z (wa Z (wa Z (wa Z (nt (WC.ret ?_))))))))
    obtain rfl := (eq_of_some hm25).symm
    exact WQ.ret3 Z Z Z Z fun w hw => kg hw
   rintro least5_3 m28 hI29
   obtain ⟨m30, s31, rfl, hm32, hn33⟩ := iter_step hI29; clear hI29; unfold bound_Bound_L4 at hm32
   refine WC.seq (sr (wf fd25_1 Z (wl pl23 Z (Own.cell 3 Z Z) (wq Z (QV.lenS Try.underlying23 Z Z (h_l_body.le hle6).lenMap) (wm Z (wm Z ?_))))))
   obtain ⟨x34, hx35, hm36⟩ := bd_some hm32; clear hm32
   refine wq Z (QV.call en106 (ec Z (ec Z (ec Z eN))) (fun w hw => have h := bound_rounds_w w hx35 ((Own.karr 1 Z hk hF6) w hw); h)) (wq Z (QV.not Z Z) (nt ?_))
   refine wc Z hm36 (fun h37 hm38 => ?_) (fun h37 hm41 => ?_) <;> clear hm36
   ·skip
    refine sk (WQ.then (WC.block (WC.region (wm Z ?_))))
    obtain ⟨c39, hm40⟩ := cs hm38; clear hm38
    refine wq Z (QV.add Z Z Z Z c39) (wa Z (WL.nil (WQ.block ?_)))
    exact WQ.again1 (least5_3 + 1) m30 (up_next hm40 hn33) (Nat.lt_succ_self _) ⟨Z, Z, Z, Z, trivial⟩ (pk [0, 1, 2, 3])
   refine WC.exit (te (te (WQ.block_exit ?_)))
   exact WQ.out1 least5_3 (up_brk hm41 hn33) ⟨Z, Z, Z, Z, trivial⟩ (pk [0, 1, 2, 3])
  rintro units4_2 x38_2 m42 hI43
  obtain ⟨m44, s45, rfl, hm46, hn47⟩ := iter_step hI43; clear hI43; unfold bound_Bound_L2 at hm46; simp only at hm46
  refine sr (wq Z (QV.lss Z Z Z Z) (nt (WC.seq ?_)))
  refine wc Z hm46 (fun h48 hm49 => ?_) (fun h48 hm66 => ?_) <;> clear hm46
  ·skip
   refine sk (WQ.then (WC.seq (WC.block (sr (wm Z ?_)))))
   obtain ⟨c50, c52, c54, c56, c58, c60, c62, c64, hm65⟩ := cs8 hm49; clear hm49
   refine wq Z (QV.indexL (xs := b10n_1) Try.underlying26 pl3 sz3 Z Z Z Z c16 c50) (wa Z (wa Z (nt (WC.dr (m := 15) (S := Own noM w [kn noM w.heap.size w X6.2, blk b10 (List.map i64v b10n_1) 26, blk b2 t.cells 28, blk b1 [v_l_logs, v_l_body, v_l_outs] 25]) (by kernel_rfl) (by kernel_rfl) (pk [1, 0, 2, 3]) (zm 0 Z Z (zm 1 Z Z (zm 2 Z Z (zf 3 fd28_0 Z Z (wz 4 Z Z (QV.indexArray ar26 Z Z Z Z c52.1 c52.2) ?_)))))))))
   refine zl 5 pl3 Z Z (Own.cellSym 2 Z (sel3_get (off := 0) (i := x38_2) c52.1 c52.2 Z Z Z) (addr_sym _ _ _)) (wz 6 Z Z (QV.add Z Z Z Z c54) (wz 7 Z Z (QV.sub Z Z Z Z c56) (zm 8 Z Z (zf 9 fd28_0 Z Z (wz 10 Z Z (QV.indexArray ar26 Z Z Z Z c58.1 c58.2) (zl 11 pl3 Z Z (Own.cellSym 2 Z (sel3_get (off := 0) (i := x38_2) c58.1 c58.2 Z Z Z) (addr_sym _ _ _)) (wz 12 Z Z (QV.quo Z Z Z Z c60 c62) (wz 13 Z Z (QV.max2 Z Z Z Z) (wz 14 Z Z (QV.assign Z Z) ?_)))))))))
   refine WD.e (by kernel_rfl) ?_
   refine WQ.block (WQ.then (WC.region (wq Z (QV.add Z Z Z Z c64) (wm Z (WL.nil ?_)))))
   exact WQ.again2 (max units4_2 (Int.tdiv (((ele b10n_1 x38_2) + (sel3 t.u0 t.u1 t.u2 x38_2)) - 1) (sel3 t.u0 t.u1 t.u2 x38_2))) (x38_2 + 1) m44 (up_next hm65 hn47) (Nat.lt_succ_self _) ⟨Z, Z, Z, Z, Z, Z, Z, trivial⟩ (pk [0, 1, 2, 3])
  refine WC.exit (te (te (WQ.block_exit ?_)))
  exact WQ.out2 units4_2 x38_2 (up_brk hm66 hn47) ⟨Z, Z, Z, Z, Z, Z, Z, trivial⟩ (pk [0, 1, 2, 3])
 rintro b10n_1 x25_1 m67 hI68
 obtain ⟨m69, s70, rfl, hm71, hn72⟩ := iter_step hI68; clear hI68; unfold bound_Bound_L0 at hm71; simp only at hm71
 refine sr (wq Z (QV.lss Z Z Z Z) (nt (WC.seq ?_)))
 refine wc Z hm71 (fun h73 hm74 => ?_) (fun h73 hm95 => ?_) <;> clear hm71
 ·skip
  refine sk (WQ.then (WC.seq (WC.block (sr ?_))))
  obtain ⟨c75, hm76⟩ := cs hm74; clear hm74
  obtain ⟨p77, hp78⟩ := (h_l_body.le hle6).lenMap.ix (sz := 9) ln_len c75
  refine wq Z (QV.indexSlice sl23 Z Z Z Z hp78) (wq Z (QV.loadAgg ag81 Z Z Z (fun w hw => ((Own.karr 1 Z hk (h_l_body.le hle6)) w hw).ele hp78 c75)) (WL.effect Z ?_))
  refine (EV.alloc (by decide) ze81 (fun b79 => ?_))
  refine WL.effect Z ?_
  refine (EV.store 0 Z Z Z Z Z Z (vs := (Stm.cells (ele l.body x25_1))) (show Value.cells _ = List.toArray _ from Z) sz81 (nl Z) (oc Z (oc Z (oc Z (oc Z (oc Z (oc Z (oc Z (oc Z (oc Z one_nil))))))))) ?_)
  refine nr (wf fd81_0 Z (wl pl3 Z (Own.cell 0 Z Z) ?_))
  obtain ⟨x80, hx81, hm82⟩ := bd_some hm76; clear hm76
  refine wq Z (QV.call en89 (ec Z eN) (fun w hw => have h := num_Class_w w hx81 ; h)) ?_
  obtain ⟨c83, c85, c87, c89, c91, c93, hm94⟩ := cs6 hm82; clear hm82
  refine wq Z (QV.indexArray ar26 Z Z Z Z c83.1 c83.2) (wl pl3 rfl (Own.cellG (c := i64v) (xs := b10n_1) 1 rfl c85 (by first | rfl | exact addr_dyn0 | exact addr_dyn c83.1)) (wq Z (QV.add Z Z Z Z c87) (wq Z (QV.indexArray ar26 Z Z Z Z c89.1 c89.2) (WL.effect Z ?_))))
  refine (EV.storeB (c := i64v) (xs := b10n_1) 1 x80 ((ele b10n_1 x80) + 1) rfl rfl rfl rfl rfl (by first | rfl | exact addr_dyn0 | exact addr_lit _ | exact addr_dyn (c89).1) c91 rfl rfl sz3 ?_)
  refine WL.nil (WQ.block (WQ.then (WC.region (wq Z (QV.add Z Z Z Z c93) (wm Z (WL.nil ?_))))))
  exact WQ.again2 (upd b10n_1 x80 ((ele b10n_1 x80) + 1)) (x25_1 + 1) m69 (up_next hm94 hn72) (Nat.lt_succ_self _) ⟨Z, Z, Z, Z, Z, Z, Z, trivial⟩ (pk [1, 2, 3, 4])
 refine WC.exit (te (te (WQ.block_exit ?_)))
 exact WQ.out2 b10n_1 x25_1 (up_brk hm95 hn72) ⟨Z, Z, Z, Z, Z, Z, Z, trivial⟩ (pk [0, 1, 2, 3])
end Go.Proofs.Ytaimbkndebaaiac
end
section
namespace Go.Proofs.Ytaimbkndebaaiac
open Go.Rd
open TNum TLoop TKern TKeep TOrd TCpt TDep TSched1 TEmit TCheck TRegs TBound
namespace TMake
theorem en70 : Go.Rd.Enters Try.prog 70 := eT Try.func70
theorem en71 : Go.Rd.Enters Try.prog 71 := eT Try.func71
theorem en72 : Go.Rd.Enters Try.prog 72 := eT Try.func72
theorem sz91 : SizeT Try.prog 91 2 := by unfold SizeT; kernel_rfl
theorem ze91 : ZeroT Try.prog 91 [.int .i64 0, .slice none 0 0] := by unfold ZeroT; kernel_rfl
end TMake
open TMake
theorem sched_early_w {v_l_logs v_l_body v_l_outs v_edges : Value} {l : Lp} {t : Tgt} {pace : Int} {edges : List Edg} {r : Pln} {K0 : World} (hm : sched_early_m l t pace edges = some r) (h_l_logs : Arr K0 v_l_logs 1 (l.logs.map icell)) (h_l_body : Arr K0 v_l_body 9 (l.body.map Stm.cells)) (h_l_outs : Arr K0 v_l_outs 1 (l.outs.map icell)) (h_edges : Arr K0 v_edges 4 (edges.map Edg.cells)) (M : Nat → Prop) (w : World) (hk : Base M K0 w) (hw0 : Own M w [] w) : Calls Try.prog 72 #[.agg #[v_l_logs, v_l_body, v_l_outs], .agg #[.int .i64 t.u0, .int .i64 t.u1, .int .i64 t.u2, .int .i64 t.w0, .int .i64 t.w1, .int .i64 t.w2, .int .i64 t.regs], .int .i64 pace, v_edges] w (fun e w' => ∃ X : Value × World, e = .returned (.agg #[.int .i64 r.pace, X.1]) ∧ Own M w (kn M w.heap.size K0 X.2 :: []) w' ∧ Arr X.2 X.1 1 (r.times.map icell)) := by
 unfold sched_early_m at hm
 refine calls_of_WC (n := 96) (args := [.agg #[v_l_logs, v_l_body, v_l_outs], .agg #[i_ t.u0, i_ t.u1, i_ t.u2, i_ t.w0, i_ t.w1, i_ t.w2, i_ t.regs], i_ pace, v_edges]) Try.func72 Z Z (nl Z) ?_ (Own.startK hk hw0)
 refine sr (WL.effect Z ?_)
 refine (EV.boxAgg (by decide) Z Z (fun b1 => ?_))
 refine WL.effect Z ?_
 refine (EV.boxAgg (by decide) Z Z (fun b2 => ?_))
 refine WL.effect Z ?_
 refine (EV.alloc (by decide) ze91 (fun b3 => ?_))
 refine ns (wm Z (wq Z (QV.build (ps := [(0, .tmp 17)]) (cells := [i_ pace, .slice none 0 0]) (ec Z eN) (by kernel_rfl)) (WL.effect Z ?_)))
 refine (EV.alloc (by decide) ze91 (fun b4 => ?_))
 refine WL.effect Z ?_
 refine (EV.store 0 Z Z Z Z Z Z (vs := [i_ pace, .slice none 0 0]) (show Value.cells _ = List.toArray _ from Z) sz91 (nl Z) (oc Z (oc Z one_nil)) ?_)
 refine ns (WL.effect Z ?_)
 refine (EV.makeMap (ke := kP) (ve := i64v) (by decide) (fun b5 => ?_))
 refine wa Z (nt (WC.seq (sr (wf fd25_1 Z (wl pl23 Z (Own.cell 4 Z Z) (wq Z (QV.lenS Try.underlying23 Z Z h_l_body.lenMap) (wm Z (nt ?_))))))))
 refine WK.of (fun w hw => hw.vecNil (E := 3) (sz := 1) (enc := icell)) ?_
 obtain ⟨o7, ho8, hm9⟩ := bd_some hm; clear hm; obtain ⟨n10, ho11⟩ := lp_some ho8
 refine WC.bloop4 (H2 := [blk b3 [i_ 0, .slice none 0 0] 91, blk b2 t.cells 28, blk b1 [v_l_logs, v_l_body, v_l_outs] 25, kn M w.heap.size K0 K0]) (τ := [u_ 2 _, u_ 3 _, u_ 5 _, u_ 8 _, u_ 9 _, u_ 10 _, u_ 21 _, u_ 22 _]) (fun (v6_7 : List Int) (m5n_7 : List ((Int × Int) × Int)) (x23_7 : Int) (uv6_7 : Value) => [(23, (true, i_ x23_7))]) (fun v6_7 m5n_7 x23_7 uv6_7 => [vec uv6_7 3 1 (List.map icell v6_7), mapR b5 kP i64v m5n_7, blk b4 [i_ pace, uv6_7] 91]) (fun v6_7 m5n_7 x23_7 uv6_7 m => iter (sched_early_L0 l t pace edges) m (v6_7, m5n_7, x23_7) = some o7 ∧ SliceLen uv6_7 v6_7.length) (fun v6_7 m5n_7 x23_7 uv6_7 => o7 = .go (v6_7, m5n_7, x23_7) ∧ SliceLen uv6_7 v6_7.length) [] ([] : List ((Int × Int) × Int)) 0 (.slice none 0 0) n10 ⟨ho11, SliceLen.nil⟩ ⟨Z, Z, Z, Z, Z, Z, Z, Z, Z, trivial⟩ (pk [0, 1, 2, 3, 4, 5, 6]) ?_ ?_
 ·skip
  rintro v6_7 m5n_7 x23_7 uv6_7 ⟨rfl, hlv6_7⟩
  refine WQ.then (sr (wq Z (QV.loadAgg ag91 Z Z Z (Own.cellsBlk 2 Z)) (WL.effect Z ?_)))
  refine (EV.store 3 Z Z Z Z Z Z (vs := [i_ pace, uv6_7]) (show Value.cells _ = List.toArray _ from Z) sz91 (nl Z) (oc Z (oc (SliceLen.one hlv6_7) one_nil)) ?_)
  refine nt (WC.ret ?_)
  obtain rfl := (eq_of_some hm9).symm
  refine WK.of (C' := Own M w [kn M w.heap.size K0 K0, vec uv6_7 3 1 (List.map icell v6_7), mapR b5 kP i64v m5n_7, blk b4 [i_ pace, uv6_7] 91, blk b3 [i_ pace, uv6_7] 91, blk b2 t.cells 28, blk b1 [v_l_logs, v_l_body, v_l_outs] 25]) (pk [6, 0, 1, 2, 3, 4, 5]) ?_
  refine WK.freeze hk (fun k12 hle12 hr12 => ?_)
  have hA12 := vec_arr hr12
  refine WQ.retCell Z ag91 Z Z (Own.cellsBlk 3 Z) (fun w hw => ?_)
  exact ⟨(uv6_7, k12), Z, hw.pick [0] (by decide), hA12⟩
 rintro v6_7 m5n_7 x23_7 uv6_7 m13 ⟨hI14, hlv6_7⟩
 obtain ⟨m15, s16, rfl, hm17, hn18⟩ := iter_step hI14; clear hI14; unfold sched_early_L0 at hm17; simp only at hm17
 refine sr (wq Z (QV.lss Z Z Z Z) (nt (WC.seq ?_)))
 refine wc Z hm17 (fun h19 hm20 => ?_) (fun h19 hm97 => ?_) <;> clear hm17
 ·skip
  refine sk (WQ.then (WC.seq (WC.block (sr (wm Z ?_)))))
  obtain ⟨c21, hm22⟩ := cs hm20; clear hm20
  obtain ⟨p23, hp24⟩ := h_l_body.lenMap.ix (sz := 9) ln_len c21
  refine wq Z (QV.indexSlice sl23 Z Z Z Z hp24) (wq Z (QV.loadAgg ag81 Z Z Z (fun w hw => ((Own.karr 6 Z hk h_l_body) w hw).ele hp24 c21)) (WL.effect Z ?_))
  refine (EV.alloc (by decide) ze81 (fun b25 => ?_))
  refine wa Z (WL.effect Z ?_)
  refine (EV.store 0 Z Z Z Z Z Z (vs := (Stm.cells (ele l.body x23_7))) (show Value.cells _ = List.toArray _ from Z) sz81 (nl Z) (oc Z (oc Z (oc Z (oc Z (oc Z (oc Z (oc Z (oc Z (oc Z one_nil))))))))) ?_)
  refine ns (wa Z (nt (WC.seq (sr (wm Z (wq Z (QV.lenS Try.underlying68 Z Z h_edges.lenMap) (wm Z (nt ?_))))))))
  obtain ⟨o26, ho27, hm28⟩ := bd_some hm22; clear hm22; obtain ⟨n29, ho30⟩ := lp_some ho27
  refine WC.bloop2 (H2 := [blk b25 (Stm.cells (ele l.body x23_7)) 81, vec uv6_7 3 1 (List.map icell v6_7), mapR b5 kP i64v m5n_7, blk b4 [i_ pace, uv6_7] 91, blk b3 [i_ 0, .slice none 0 0] 91, blk b2 t.cells 28, blk b1 [v_l_logs, v_l_body, v_l_outs] 25, kn M w.heap.size K0 K0]) (τ := [u_ 2 _, u_ 3 _, u_ 5 _, u_ 8 _, u_ 9 _, u_ 10 _, u_ 11 _, u_ 12 _, u_ 21 _, u_ 22 _, u_ 23 _, u_ 28 _, u_ 29 _]) (fun (time13_8 : Int) (x30_8 : Int) => [(13, (true, i_ time13_8)), (30, (true, i_ x30_8))]) (fun time13_8 x30_8 => []) (fun time13_8 x30_8 m => iter (sched_early_L2 pace edges v6_7 x23_7) m (time13_8, x30_8) = some o26) (fun time13_8 x30_8 => o26 = .go (time13_8, x30_8)) 0 0 n29 ho30 ⟨Z, Z, Z, Z, Z, Z, Z, Z, Z, Z, Z, Z, Z, Z, Z, trivial⟩ (pk [0, 1, 2, 3, 4, 5, 6, 7]) ?_ ?_
  ·skip
   rintro time13_8 x30_8 rfl
   refine WQ.then (sr (wf fd81_0 Z (wl pl3 Z (Own.cell 0 Z Z) ?_)))
   obtain ⟨x31, hx32, hm33⟩ := bd_some hm28; clear hm28
   refine wq Z (QV.call en89 (ec Z eN) (fun w hw => have h := num_Class_w w hx32 ; h)) (wa Z (nt (WC.seq ?_)))
   obtain ⟨o34, ho35, hm36⟩ := bd_some hm33; clear hm33; obtain ⟨n37, ho38⟩ := lp_some ho35
   refine WC.bloop1 (H2 := [blk b25 (Stm.cells (ele l.body x23_7)) 81, vec uv6_7 3 1 (List.map icell v6_7), mapR b5 kP i64v m5n_7, blk b4 [i_ pace, uv6_7] 91, blk b3 [i_ 0, .slice none 0 0] 91, blk b2 t.cells 28, blk b1 [v_l_logs, v_l_body, v_l_outs] 25, kn M w.heap.size K0 K0]) (τ := [u_ 2 _, u_ 3 _, u_ 5 _, u_ 8 _, u_ 9 _, u_ 10 _, u_ 16 _, u_ 21 _, u_ 22 _, u_ 23 _]) (fun (time13_9 : Int) => [(13, (true, i_ time13_9))]) (fun time13_9 => []) (fun time13_9 m => iter (sched_early_L4 t pace m5n_7 x31) m time13_9 = some o34) (fun time13_9 => o34 = .go time13_9) time13_8 n37 ho38 ⟨Z, Z, Z, Z, Z, Z, Z, Z, Z, Z, Z, trivial⟩ (pk [0, 1, 2, 3, 4, 5, 6, 7]) ?_ ?_
   ·skip
    rintro time13_9 rfl
    refine WQ.then (WC.seq (WC.dr (m := 11) (S := Own M w [kn M w.heap.size K0 K0, blk b25 (Stm.cells (ele l.body x23_7)) 81, vec uv6_7 3 1 (List.map icell v6_7), mapW b5 kP i64v 0 m5n_7, blk b4 [i_ pace, uv6_7] 91, blk b3 [i_ 0, .slice none 0 0] 91, blk b2 t.cells 28, blk b1 [v_l_logs, v_l_body, v_l_outs] 25]) (by kernel_rfl) (by kernel_rfl) (fun w hw => Own.mapWeak 3 0 Z (hw.pick [7, 0, 1, 2, 3, 4, 5, 6] (by decide))) (zm 0 Z Z (zm 1 Z Z (zm 2 Z Z ?_)))))
    obtain ⟨c39, c41, c45, c49, hm50⟩ := cs4 hm36; clear hm36
    refine wz 3 Z Z (QV.rem Z Z Z Z c39) (zm 4 Z Z (wz 5 Z Z (QV.build (ps := [(0, .tmp 81), (1, .tmp 82)]) (cells := [i_ (Int.tmod time13_9 pace), i_ x31]) (ec Z (ec Z eN)) (by kernel_rfl)) (wz 6 Z Z (QV.lookupW (k := ((Int.tmod time13_9 pace), x31)) 3 0 mt145 kt146 zv3i64v Z Z Z Z Z) (wz 7 Z Z (QV.add Z Z Z Z c41) ?_))))
    refine WD.o 8 Z (by kernel_rfl) Z ?_
    refine (EV.mapEntry (by decide) ((Int.tmod time13_9 pace), x31) 2 0 mt145 kt146 zv3i64v Z Z Z Z Z (fun s43 => ?_))
    refine WD.b (H' := [kn M w.heap.size K0 K0, blk b25 (Stm.cells (ele l.body x23_7)) 81, vec uv6_7 3 1 (List.map icell v6_7), mapW b5 kP i64v 0 m5n_7, blk b4 [i_ pace, uv6_7] 91, blk b3 [i_ 0, .slice none 0 0] 91, blk b2 t.cells 28, blk b1 [v_l_logs, v_l_body, v_l_outs] 25]) (fun w hw => Own.midWeak 3 Z (hw.pick [7, 0, 1, 2, 3, 4, 5, 6] (by decide))) (pk [0, 1, 2, 3, 4, 5, 6, 7]) ?_
    refine wz 9 Z Z (QV.extract Z Z Z) ?_
    refine WD.l 10 Z (by kernel_rfl) Z ?_
    refine (EV.entryStore (ke := kP) (ve := i64v) ((Int.tmod time13_9 pace), x31) 2 ((mget m5n_7 ((Int.tmod time13_9 pace), x31) 0) + 1) s43 Z Z Z Z Z Z Z ?_)
    refine WQ.then (WC.region (wf fd91_1 Z (wl pl22 Z (Own.cell 3 Z Z) (wm Z (WL.effect Z ?_)))))
    refine (EV.buildSlice (by decide) sz_22 (by decide) (by decide) (ps := [(0, .tmp 90)]) (cells := [i_ time13_9]) (ec Z eN) (by kernel_rfl) (fun b44 => ?_))
    refine WL.effect Z ?_
    refine (EV.appendL (enc := icell) (xs := v6_7) (ys := [time13_9]) ((v6_7 ++ [time13_9])) 2 (by decide) ve22 Z Z Z Z Z (Own.blkArr 0 (rows := [time13_9].map icell) Z Z (rows_len icell_len)) icell_len (icell_one _) Z c45.1 c45.2 (fun u47 hu48 => ?_))
    refine wf fd91_1 Z (WL.effect Z ?_)
    refine (EV.store 4 Z Z Z Z Z Z (vs := [u47]) (SliceLen.cells hu48) sz22 (nl Z) (oc (SliceLen.one hu48) one_nil) ?_)
    refine WL.nil (WQ.block (WQ.then (WC.region (wq Z (QV.add Z Z Z Z c49) (wm Z (WL.nil ?_))))))
    exact WQ.again4 (v6_7 ++ [time13_9]) (mput m5n_7 ((Int.tmod time13_9 pace), x31) ((mget m5n_7 ((Int.tmod time13_9 pace), x31) 0) + 1)) (x23_7 + 1) u47 m15 ⟨up_next hm50 hn18, hu48⟩ (Nat.lt_succ_self _) ⟨Z, Z, Z, Z, Z, Z, Z, Z, Z, trivial⟩ (pk [2, 3, 4, 5, 6, 7, 8])
   rintro time13_9 m51 hI52
   obtain ⟨m53, s54, rfl, hm55, hn56⟩ := iter_step hI52; clear hI52; unfold sched_early_L4 at hm55
   refine WC.seq (WC.seq (WC.dr (m := 12) (S := Own M w [kn M w.heap.size K0 K0, blk b25 (Stm.cells (ele l.body x23_7)) 81, vec uv6_7 3 1 (List.map icell v6_7), mapR b5 kP i64v m5n_7, blk b4 [i_ pace, uv6_7] 91, blk b3 [i_ 0, .slice none 0 0] 91, blk b2 t.cells 28, blk b1 [v_l_logs, v_l_body, v_l_outs] 25]) (by kernel_rfl) (by kernel_rfl) (pk [7, 0, 1, 2, 3, 4, 5, 6]) (zm 0 Z Z (zm 1 Z Z (zm 2 Z Z ?_)))))
   obtain ⟨c57, c59, hm60⟩ := cs2 hm55; clear hm55
   refine wz 3 Z Z (QV.rem Z Z Z Z c57) (zm 4 Z Z (wz 5 Z Z (QV.build (ps := [(0, .tmp 67), (1, .tmp 68)]) (cells := [i_ (Int.tmod time13_9 pace), i_ x31]) (ec Z (ec Z eN)) (by kernel_rfl)) (wz 6 Z Z (QV.lookup (k := ((Int.tmod time13_9 pace), x31)) 3 0 mt145 kt146 zv3i64v Z Z Z Z Z) (zm 7 Z Z (zf 8 fd28_0 Z Z (wz 9 Z Z (QV.indexArray ar26 Z Z Z Z c59.1 c59.2) (zl 10 pl3 Z Z (Own.cellSym 6 Z (sel3_get (off := 0) (i := x31) c59.1 c59.2 Z Z Z) (addr_sym _ _ _)) (wz 11 Z Z (QV.geq Z Z Z Z) ?_))))))))
   refine WD.e (by kernel_rfl) ?_
   refine WQ.then ?_
   refine wc Z hm60 (fun h61 hm62 => ?_) (fun h61 hm65 => ?_) <;> clear hm60
   ·skip
    refine sk (WQ.then (WC.block (WC.region (wm Z ?_))))
    obtain ⟨c63, hm64⟩ := cs hm62; clear hm62
    refine wq Z (QV.add Z Z Z Z c63) (wa Z (WL.nil (WQ.block ?_)))
    exact WQ.again1 (time13_9 + 1) m53 (up_next hm64 hn56) (Nat.lt_succ_self _) ⟨Z, Z, Z, Z, Z, Z, Z, Z, Z, Z, Z, trivial⟩ (pk [0, 1, 2, 3, 4, 5, 6, 7])
   refine WC.exit (te (te (WQ.block_exit ?_)))
   exact WQ.out1 time13_9 (up_brk hm65 hn56) ⟨Z, Z, Z, Z, Z, Z, Z, Z, Z, Z, Z, trivial⟩ (pk [0, 1, 2, 3, 4, 5, 6, 7])
  rintro time13_8 x30_8 m66 hI67
  obtain ⟨m68, s69, rfl, hm70, hn71⟩ := iter_step hI67; clear hI67; unfold sched_early_L2 at hm70; simp only at hm70
  refine sr (wq Z (QV.lss Z Z Z Z) (nt (WC.seq ?_)))
  refine wc Z hm70 (fun h72 hm73 => ?_) (fun h72 hm96 => ?_) <;> clear hm70
  ·skip
   refine sk (WQ.then (WC.seq (WC.block (sr ?_))))
   obtain ⟨c74, hm75⟩ := cs hm73; clear hm73
   obtain ⟨p76, hp77⟩ := h_edges.lenMap.ix (sz := 4) ln_len c74
   refine wq Z (QV.indexSlice sl68 Z Z Z Z hp77) (wq Z (QV.loadAgg ag71 Z Z Z (fun w hw => ((Own.karr 7 Z hk h_edges) w hw).ele hp77 c74)) (WL.effect Z ?_))
   refine (EV.alloc (by decide) ze71 (fun b78 => ?_))
   refine WL.effect Z ?_
   refine (EV.store 0 Z Z Z Z Z Z (vs := (Edg.cells (ele edges x30_8))) (show Value.cells _ = List.toArray _ from Z) sz71 (nl Z) (oc Z (oc Z (oc Z (oc Z one_nil)))) ?_)
   refine ns (wf fd71_1 Z (wl pl3 Z (Own.cell 0 Z Z) (wm Z (wq Z (QV.eql Z Z Z Z) (wm Z (gp Z (fun hG => QV.fieldAddr fd71_0 Z Z) (gp Z (fun hG => QV.load pl3 Z hG (Own.cell 0 Z Z)) (gp Z (fun hG => QV.move Z Z) (gp Z (fun hG => QV.lss Z hG Z hG) ?_)))))))))
   refine wq Z (QV.pickAnd Z Z Z (fun h => h)) (nt ?_)
   refine wc Z hm75 (fun h79 hm80 => ?_) (fun h79 hm93 => ?_) <;> clear hm75
   ·skip
    refine WC.dr (m := 17) (S := Own M w [kn M w.heap.size K0 K0, blk b78 (Edg.cells (ele edges x30_8)) 71, blk b25 (Stm.cells (ele l.body x23_7)) 81, vec uv6_7 3 1 (List.map icell v6_7), mapR b5 kP i64v m5n_7, blk b4 [i_ pace, uv6_7] 91, blk b3 [i_ 0, .slice none 0 0] 91, blk b2 t.cells 28, blk b1 [v_l_logs, v_l_body, v_l_outs] 25]) (by kernel_rfl) (by kernel_rfl) (pk [8, 0, 1, 2, 3, 4, 5, 6, 7]) (zm 0 Z Z (zf 1 fd91_1 Z Z (zl 2 pl22 Z Z (Own.cell 5 Z Z) (zf 3 fd71_0 Z Z (zl 4 pl3 Z Z (Own.cell 1 Z Z) ?_)))))
    obtain ⟨c81, hm82⟩ := cs hm80; clear hm80
    obtain ⟨p83, hp84⟩ := hlv6_7.ix (sz := 1) ln_len c81
    refine wz 5 Z Z (QV.indexSlice sl22 Z Z Z Z hp84) (zl 6 pl3 Z Z (fun w hw => CellsAt.one 0 (((Own.vecArr 3 Z) w hw).ele hp84 c81) Z) (zf 7 fd71_3 Z Z (zl 8 pl3 Z Z (Own.cell 1 Z Z) ?_)))
    obtain ⟨c85, c87, c89, c91, hm92⟩ := cs4 hm82; clear hm82
    refine wz 9 Z Z (QV.add Z Z Z Z c85) (zm 10 Z Z (zf 11 fd71_2 Z Z (zl 12 pl3 Z Z (Own.cell 1 Z Z) (wz 13 Z Z (QV.mul Z Z Z Z c87) (wz 14 Z Z (QV.sub Z Z Z Z c89) (wz 15 Z Z (QV.max2 Z Z Z Z) (wz 16 Z Z (QV.assign Z Z) ?_)))))))
    refine WD.e (by kernel_rfl) ?_
    refine WQ.block (WQ.then (WC.region (wq Z (QV.add Z Z Z Z c91) (wm Z (WL.nil ?_)))))
    exact WQ.again2 (max time13_8 (((ele v6_7 ((ele edges x30_8).fr)) + (ele edges x30_8).wt) - (pace * (ele edges x30_8).bk))) (x30_8 + 1) m68 (up_next hm92 hn71) (Nat.lt_succ_self _) ⟨Z, Z, Z, Z, Z, Z, Z, Z, Z, Z, Z, Z, Z, Z, Z, trivial⟩ (pk [1, 2, 3, 4, 5, 6, 7, 8])
   refine sk (WQ.block (WQ.then (WC.region ?_)))
   obtain ⟨c94, hm95⟩ := cs hm93; clear hm93
   refine wq Z (QV.add Z Z Z Z c94) (wm Z (WL.nil ?_))
   exact WQ.again2 time13_8 (x30_8 + 1) m68 (up_next hm95 hn71) (Nat.lt_succ_self _) ⟨Z, Z, Z, Z, Z, Z, Z, Z, Z, Z, Z, Z, Z, Z, Z, trivial⟩ (pk [1, 2, 3, 4, 5, 6, 7, 8])
  refine WC.exit (te (te (WQ.block_exit ?_)))
  exact WQ.out2 time13_8 x30_8 (up_brk hm96 hn71) ⟨Z, Z, Z, Z, Z, Z, Z, Z, Z, Z, Z, Z, Z, Z, Z, trivial⟩ (pk [0, 1, 2, 3, 4, 5, 6, 7])
 refine WC.exit (te (te (WQ.block_exit ?_)))
 exact WQ.out4 v6_7 m5n_7 x23_7 uv6_7 ⟨up_brk hm97 hn18, hlv6_7⟩ ⟨Z, Z, Z, Z, Z, Z, Z, Z, Z, trivial⟩ (pk [0, 1, 2, 3, 4, 5, 6])
theorem sched_straight_w {v_l_logs v_l_body v_l_outs : Value} {l : Lp} {t : Tgt} {pace : Int} {r : Pln × Int} {K0 : World} (hm : sched_straight_m l t pace = some r) (h_l_logs : Arr K0 v_l_logs 1 (l.logs.map icell)) (h_l_body : Arr K0 v_l_body 9 (l.body.map Stm.cells)) (h_l_outs : Arr K0 v_l_outs 1 (l.outs.map icell)) (M : Nat → Prop) (w : World) (hk : Base M K0 w) (hw0 : Own M w [] w) : Calls Try.prog 71 #[.agg #[v_l_logs, v_l_body, v_l_outs], .agg #[.int .i64 t.u0, .int .i64 t.u1, .int .i64 t.u2, .int .i64 t.w0, .int .i64 t.w1, .int .i64 t.w2, .int .i64 t.regs], .int .i64 pace] w (fun e w' => ∃ X : Value × World, e = .returned (.tuple #[.agg #[.int .i64 r.1.pace, X.1], .int .i64 r.2]) ∧ Own M w (kn M w.heap.size K0 X.2 :: []) w' ∧ Arr X.2 X.1 1 (r.1.times.map icell)) := by
 unfold sched_straight_m at hm
 refine calls_of_WC (n := 36) (args := [.agg #[v_l_logs, v_l_body, v_l_outs], .agg #[i_ t.u0, i_ t.u1, i_ t.u2, i_ t.w0, i_ t.w1, i_ t.w2, i_ t.regs], i_ pace]) Try.func71 Z Z (nl Z) ?_ (Own.startK hk hw0)
 refine sr (WL.effect Z ?_)
 refine (EV.boxAgg (by decide) Z Z (fun b1 => ?_))
 refine WL.effect Z ?_
 refine (EV.boxAgg (by decide) Z Z (fun b2 => ?_))
 refine WL.effect Z ?_
 refine (EV.alloc (by decide) ze91 (fun b3 => ?_))
 refine wa Z (ns (wm Z (wq Z (QV.build (ps := [(0, .tmp 12)]) (cells := [i_ pace, .slice none 0 0]) (ec Z eN) (by kernel_rfl)) (WL.effect Z ?_))))
 refine (EV.alloc (by decide) ze91 (fun b4 => ?_))
 refine WL.effect Z ?_
 refine (EV.store 0 Z Z Z Z Z Z (vs := [i_ pace, .slice none 0 0]) (show Value.cells _ = List.toArray _ from Z) sz91 (nl Z) (oc Z (oc Z one_nil)) ?_)
 refine ns (wa Z (nt (WC.seq (sr (wf fd25_1 Z (wl pl23 Z (Own.cell 3 Z Z) (wq Z (QV.lenS Try.underlying23 Z Z h_l_body.lenMap) (wm Z (nt ?_)))))))))
 refine WK.of (fun w hw => hw.vecNil (E := 3) (sz := 1) (enc := icell)) ?_
 obtain ⟨o6, ho7, hm8⟩ := bd_some hm; clear hm; obtain ⟨n9, ho10⟩ := lp_some ho7
 refine WC.bloop4 (H2 := [blk b3 [i_ 0, .slice none 0 0] 91, blk b2 t.cells 28, blk b1 [v_l_logs, v_l_body, v_l_outs] 25, kn M w.heap.size K0 K0]) (τ := [u_ 4 _, u_ 6 _, u_ 8 _, u_ 15 _, u_ 16 _]) (fun (v5_1 : List Int) (time9_1 : Int) (x17_1 : Int) (uv5_1 : Value) => [(9, (true, i_ time9_1)), (17, (true, i_ x17_1))]) (fun v5_1 time9_1 x17_1 uv5_1 => [vec uv5_1 3 1 (List.map icell v5_1), blk b4 [i_ pace, uv5_1] 91]) (fun v5_1 time9_1 x17_1 uv5_1 m => iter (sched_straight_L0 l t) m (v5_1, time9_1, x17_1) = some o6 ∧ SliceLen uv5_1 v5_1.length) (fun v5_1 time9_1 x17_1 uv5_1 => o6 = .go (v5_1, time9_1, x17_1) ∧ SliceLen uv5_1 v5_1.length) [] 0 0 (.slice none 0 0) n9 ⟨ho10, SliceLen.nil⟩ ⟨Z, Z, Z, Z, Z, Z, Z, trivial⟩ (pk [0, 1, 2, 3, 4, 5]) ?_ ?_
 ·skip
  rintro v5_1 time9_1 x17_1 uv5_1 ⟨rfl, hlv5_1⟩
  refine WQ.then (sr (wq Z (QV.loadAgg ag91 Z Z Z (Own.cellsBlk 1 Z)) (wm Z (WL.effect Z ?_))))
  refine (EV.store 2 Z Z Z Z Z Z (vs := [i_ pace, uv5_1]) (show Value.cells _ = List.toArray _ from Z) sz91 (nl Z) (oc Z (oc (SliceLen.one hlv5_1) one_nil)) ?_)
  refine wa Z (nt (WC.ret ?_))
  obtain rfl := (eq_of_some hm8).symm
  refine WK.of (C' := Own M w [kn M w.heap.size K0 K0, vec uv5_1 3 1 (List.map icell v5_1), blk b4 [i_ pace, uv5_1] 91, blk b3 [i_ pace, uv5_1] 91, blk b2 t.cells 28, blk b1 [v_l_logs, v_l_body, v_l_outs] 25]) (pk [5, 0, 1, 2, 3, 4]) ?_
  refine WK.freeze hk (fun k11 hle11 hr11 => ?_)
  have hA11 := vec_arr hr11
  refine WQ.retCellTmp Z ag91 Z Z Z (Own.cellsBlk 2 Z) (fun w hw => ?_)
  exact ⟨(uv5_1, k11), Z, hw.pick [0] (by decide), hA11⟩
 rintro v5_1 time9_1 x17_1 uv5_1 m12 ⟨hI13, hlv5_1⟩
 obtain ⟨m14, s15, rfl, hm16, hn17⟩ := iter_step hI13; clear hI13; unfold sched_straight_L0 at hm16; simp only at hm16
 refine sr (wq Z (QV.lss Z Z Z Z) (nt (WC.seq ?_)))
 refine wc Z hm16 (fun h18 hm19 => ?_) (fun h18 hm37 => ?_) <;> clear hm16
 ·skip
  refine sk (WQ.then (WC.seq (WC.block (sr ?_))))
  obtain ⟨c20, hm21⟩ := cs hm19; clear hm19
  obtain ⟨p22, hp23⟩ := h_l_body.lenMap.ix (sz := 9) ln_len c20
  refine wq Z (QV.indexSlice sl23 Z Z Z Z hp23) (wq Z (QV.loadAgg ag81 Z Z Z (fun w hw => ((Own.karr 5 Z hk h_l_body) w hw).ele hp23 c20)) (WL.effect Z ?_))
  refine (EV.alloc (by decide) ze81 (fun b24 => ?_))
  refine WL.effect Z ?_
  refine (EV.store 0 Z Z Z Z Z Z (vs := (Stm.cells (ele l.body x17_1))) (show Value.cells _ = List.toArray _ from Z) sz81 (nl Z) (oc Z (oc Z (oc Z (oc Z (oc Z (oc Z (oc Z (oc Z (oc Z one_nil))))))))) ?_)
  refine ns (wf fd91_1 Z (wl pl22 Z (Own.cell 2 Z Z) (wm Z (WL.effect Z ?_))))
  refine (EV.buildSlice (by decide) sz_22 (by decide) (by decide) (ps := [(0, .tmp 23)]) (cells := [i_ time9_1]) (ec Z eN) (by kernel_rfl) (fun b25 => ?_))
  refine WL.effect Z ?_
  obtain ⟨c26, hm27⟩ := cs hm21; clear hm21
  refine (EV.appendL (enc := icell) (xs := v5_1) (ys := [time9_1]) ((v5_1 ++ [time9_1])) 2 (by decide) ve22 Z Z Z Z Z (Own.blkArr 0 (rows := [time9_1].map icell) Z Z (rows_len icell_len)) icell_len (icell_one _) Z c26.1 c26.2 (fun u28 hu29 => ?_))
  refine wf fd91_1 Z (WL.effect Z ?_)
  refine (EV.store 3 Z Z Z Z Z Z (vs := [u28]) (SliceLen.cells hu29) sz22 (nl Z) (oc (SliceLen.one hu29) one_nil) ?_)
  refine nr (wm Z (wq Z (QV.loadAgg ag28 Z Z Z (Own.cellsBlk 5 Z)) (wf fd81_0 Z (wl pl3 Z (Own.cell 1 Z Z) ?_))))
  obtain ⟨x30, hx31, hm32⟩ := bd_some hm27; clear hm27
  refine wq Z (QV.call en69 (ec Z (ec Z eN)) (fun w hw => have h := target_Wait_w w hx31 ; h)) ?_
  obtain ⟨c33, c35, hm36⟩ := cs2 hm32; clear hm32
  refine wq Z (QV.add Z Z Z Z c33) (wa Z (WL.nil (WQ.block (WQ.then (WC.region (wq Z (QV.add Z Z Z Z c35) (wm Z (WL.nil ?_))))))))
  exact WQ.again4 (v5_1 ++ [time9_1]) (time9_1 + x30) (x17_1 + 1) u28 m14 ⟨up_next hm36 hn17, hu29⟩ (Nat.lt_succ_self _) ⟨Z, Z, Z, Z, Z, Z, Z, trivial⟩ (pk [2, 3, 4, 5, 6, 7])
 refine WC.exit (te (te (WQ.block_exit ?_)))
 exact WQ.out4 v5_1 time9_1 x17_1 uv5_1 ⟨up_brk hm37 hn17, hlv5_1⟩ ⟨Z, Z, Z, Z, Z, Z, Z, trivial⟩ (pk [0, 1, 2, 3, 4, 5])
theorem sched_Make_w {v_l_logs v_l_body v_l_outs : Value} {l : Lp} {t : Tgt} {least : Int} {r : Pln × Int} {K0 : World} (hm : sched_Make_m l t least = some r) (h_l_logs : Arr K0 v_l_logs 1 (l.logs.map icell)) (h_l_body : Arr K0 v_l_body 9 (l.body.map Stm.cells)) (h_l_outs : Arr K0 v_l_outs 1 (l.outs.map icell)) (M : Nat → Prop) (w : World) (hk : Base M K0 w) (hw0 : Own M w [] w) : Calls Try.prog 41 #[.agg #[v_l_logs, v_l_body, v_l_outs], .agg #[.int .i64 t.u0, .int .i64 t.u1, .int .i64 t.u2, .int .i64 t.w0, .int .i64 t.w1, .int .i64 t.w2, .int .i64 t.regs], .int .i64 least] w (fun e w' => ∃ X : Value × World, e = .returned (.tuple #[.agg #[.int .i64 r.1.pace, X.1], .int .i64 r.2]) ∧ Own M w (kn M w.heap.size K0 X.2 :: []) w' ∧ Arr X.2 X.1 1 (r.1.times.map icell)) := by
 unfold sched_Make_m at hm
 refine calls_of_WC (n := 84) (args := [.agg #[v_l_logs, v_l_body, v_l_outs], .agg #[i_ t.u0, i_ t.u1, i_ t.u2, i_ t.w0, i_ t.w1, i_ t.w2, i_ t.regs], i_ least]) Try.func41 Z Z (nl Z) ?_ (Own.startK hk hw0)
 refine sr (WL.effect Z ?_)
 refine (EV.boxAgg (by decide) Z Z (fun b1 => ?_))
 refine WL.effect Z ?_
 refine (EV.boxAgg (by decide) Z Z (fun b2 => ?_))
 refine WL.effect Z ?_
 refine (EV.alloc (by decide) ze91 (fun b3 => ?_))
 refine wa Z (ns (wq Z (QV.loadAgg ag25 Z Z Z (Own.cellsBlk 2 Z)) (wq Z (QV.loadAgg ag28 Z Z Z (Own.cellsBlk 1 Z)) (WL.effect Z ?_))))
 obtain ⟨x4, hx5, hm6⟩ := bd_some hm; clear hm
 refine EV.of (C' := Own M w [kn M w.heap.size K0 K0, blk b3 [i_ 0, .slice none 0 0] 91, blk b2 t.cells 28, blk b1 [v_l_logs, v_l_body, v_l_outs] 25]) (pk [3, 0, 1, 2]) ?_
 refine (EV.callR (X := Value × World) (R := []) (fun X => .tuple #[X.1, i_ x4.2]) (fun X => []) (fun X => X.2) (fun X => Arr X.2 X.1 4 (x4.1.map Edg.cells)) hk (fun _ h => by cases h; decide) en62 (ec Z (ec Z eN)) (fun M w h1 h2 => have h := dep_Edges_w hx5 h_l_logs h_l_body h_l_outs M w h1 h2; h) (fun X7 hF7 hle7 => ?_))
 refine wm Z (wq Z (QV.extract Z Z Z) (wq Z (QV.extract Z Z Z) (wa Z (wa Z (nt (WC.seq (WC.block (sr (wm Z (wq Z (QV.neq Z Z Z Z) (wa Z (nt ?_))))))))))))
 refine wc Z hm6 (fun h8 hm9 => ?_) (fun h8 hm10 => ?_) <;> clear hm6
 ·skip
  refine sr (wq Z (QV.build (ps := []) (cells := [i_ 0, .slice none 0 0]) eN (by kernel_rfl)) (wm Z (WL.effect Z ?_)))
  refine (EV.store 1 Z Z Z Z Z Z (vs := [i_ 0, .slice none 0 0]) (show Value.cells _ = List.toArray _ from Z) sz91 (nl Z) (oc Z (oc Z one_nil)) ?_)
  refine wa Z (nt (WC.ret (kr (tr ?_))))
  obtain rfl := (eq_of_some hm9).symm
  refine WQ.retCellTmp Z ag91 Z Z Z (Own.cellsBlk 1 Z) (fun w hw => ?_)
  exact ⟨(.slice none 0 0, X7.2), Z, hw.pick [0] (by decide), Arr.nil⟩
 refine sr (wm Z (wq Z (QV.lss Z Z Z Z) (wm Z (gn Z (fun hG => QV.move Z Z) (gn Z (fun hG => QV.gtr Z hG Z Z) (wq Z (QV.pickOr Z Z Z (fun h => notF h)) (wa Z (nt ?_))))))))
 refine wc Z hm10 (fun h11 hm12 => ?_) (fun h11 hm13 => ?_) <;> clear hm10
 ·skip
  refine sr (wq Z (QV.build (ps := []) (cells := [i_ 0, .slice none 0 0]) eN (by kernel_rfl)) (WL.effect Z ?_))
  refine (EV.store 1 Z Z Z Z Z Z (vs := [i_ 0, .slice none 0 0]) (show Value.cells _ = List.toArray _ from Z) sz91 (nl Z) (oc Z (oc Z one_nil)) ?_)
  refine wa Z (nt (WC.ret (kr (tr ?_))))
  obtain rfl := (eq_of_some hm12).symm
  refine WQ.retCellTmp Z ag91 Z Z Z (Own.cellsBlk 1 Z) (fun w hw => ?_)
  exact ⟨(.slice none 0 0, X7.2), Z, hw.pick [0] (by decide), Arr.nil⟩
 refine sk (WQ.block (WQ.then (sr (wq Z (QV.loadAgg ag25 Z Z Z (Own.cellsBlk 3 Z)) (wq Z (QV.loadAgg ag28 Z Z Z (Own.cellsBlk 2 Z)) ?_)))))
 obtain ⟨x14, hx15, hm16⟩ := bd_some hm13; clear hm13
 refine wq Z (QV.call en70 (ec Z (ec Z eN)) (fun w hw => have h := bound_Bound_w w hx15 ((Own.karr 0 Z hk (h_l_logs.le hle7)) w hw) ((Own.karr 0 Z hk (h_l_body.le hle7)) w hw) ((Own.karr 0 Z hk (h_l_outs.le hle7)) w hw); h)) (wm Z (wq Z (QV.extract Z Z Z) (wq Z (QV.extract Z Z Z) (wq Z (QV.extract Z Z Z) (wa Z (wa Z (wa Z (ns (wq Z (QV.loadAgg ag25 Z Z Z (Own.cellsBlk 3 Z)) ?_)))))))))
 refine wq Z (QV.loadAgg ag28 Z Z Z (Own.cellsBlk 2 Z)) (WL.effect Z ?_)
 obtain ⟨x17, hx18, hm19⟩ := bd_some hm16; clear hm16
 refine (EV.callR (X := Value × World) (R := []) (fun X => .tuple #[.agg #[i_ x17.1.pace, X.1], i_ x17.2]) (fun X => []) (fun X => X.2) (fun X => Arr X.2 X.1 1 (x17.1.times.map icell)) hk (fun _ h => by cases h; decide) en71 (ec Z (ec Z (ec Z eN))) (fun M w h1 h2 => have h := sched_straight_w hx18 (h_l_logs.le hle7) (h_l_body.le hle7) (h_l_outs.le hle7) M w h1 h2; h) (fun X20 hF20 hle20 => ?_))
 refine wm Z (wq Z (QV.extract Z Z Z) (wq Z (QV.extract Z Z Z) (WL.effect Z ?_)))
 refine (EV.alloc (by decide) ze91 (fun b21 => ?_))
 refine WL.effect Z ?_
 refine (EV.store 0 Z Z Z Z Z Z (vs := [i_ x17.1.pace, X20.1]) (show Value.cells _ = List.toArray _ from Z) sz91 (nl Z) (oc Z (oc (SliceLen.one hF20.lenMap) one_nil)) ?_)
 refine wa Z (nt (WC.seq (sr (wm Z (wm Z (wm Z (wq Z (QV.max3 Z Z Z Z Z Z) (wa Z (nt ?_)))))))))
 obtain ⟨o22, ho23, hm24⟩ := bd_some hm19; clear hm19; obtain ⟨n25, ho26⟩ := lp_some ho23
 refine WC.bloop2 (H2 := [blk b21 [i_ x17.1.pace, X20.1] 91, blk b3 [i_ 0, .slice none 0 0] 91, blk b2 t.cells 28, blk b1 [v_l_logs, v_l_body, v_l_outs] 25]) (τ := [u_ 2 _, u_ 3 _, u_ 4 _, u_ 6 _, u_ 8 _, u_ 14 _]) (fun (pace15_1 : Int) (k_1 : World) => [(15, (true, i_ pace15_1))]) (fun pace15_1 k_1 => [kn M w.heap.size K0 k_1]) (fun pace15_1 k_1 m => iter (sched_Make_L1 l t least x4 x17) m pace15_1 = some o22 ∧ Le X20.2 k_1) (fun pace15_1 k_1 => o22 = .go pace15_1 ∧ Le X20.2 k_1) (max (max least x14.1) x14.2.1) X20.2 n25 ⟨ho26, (Le.refl _)⟩ ⟨Z, Z, Z, Z, Z, Z, Z, trivial⟩ (pk [1, 0, 2, 3, 4]) ?_ ?_
 ·skip
  rintro pace15_1 k_1 ⟨rfl, hle_1⟩
  refine WQ.then (sr (wq Z (QV.loadAgg ag25 Z Z Z (Own.cellsBlk 4 Z)) (wq Z (QV.loadAgg ag28 Z Z Z (Own.cellsBlk 3 Z)) (wm Z (wm Z (wq Z (QV.max2 Z Z Z Z) (WL.effect Z ?_)))))))
  obtain ⟨x27, hx28, hm29⟩ := bd_some hm24; clear hm24
  refine (EV.callR (X := Value × World) (R := []) (fun X => .tuple #[.agg #[i_ x27.1.pace, X.1], i_ x27.2]) (fun X => []) (fun X => X.2) (fun X => Arr X.2 X.1 1 (x27.1.times.map icell)) hk (fun _ h => by cases h; decide) en71 (ec Z (ec Z (ec Z eN))) (fun M w h1 h2 => have h := sched_straight_w hx28 (h_l_logs.le ((hle7.trans hle20).trans hle_1)) (h_l_body.le ((hle7.trans hle20).trans hle_1)) (h_l_outs.le ((hle7.trans hle20).trans hle_1)) M w h1 h2; h) (fun X30 hF30 hle30 => ?_))
  refine wm Z (wq Z (QV.extract Z Z Z) (wq Z (QV.extract Z Z Z) (WL.effect Z ?_)))
  refine (EV.alloc (by decide) ze91 (fun b31 => ?_))
  refine WL.effect Z ?_
  refine (EV.store 0 Z Z Z Z Z Z (vs := [i_ x27.1.pace, X30.1]) (show Value.cells _ = List.toArray _ from Z) sz91 (nl Z) (oc Z (oc (SliceLen.one hF30.lenMap) one_nil)) ?_)
  refine wa Z (ns (wq Z (QV.loadAgg ag91 Z Z Z (Own.cellsBlk 0 Z)) (WL.effect Z ?_)))
  refine (EV.store 3 Z Z Z Z Z Z (vs := [i_ x27.1.pace, X30.1]) (show Value.cells _ = List.toArray _ from Z) sz91 (nl Z) (oc Z (oc (SliceLen.one hF30.lenMap) one_nil)) ?_)
  refine wa Z (nt (WC.ret ?_))
  obtain rfl := (eq_of_some hm29).symm
  refine WQ.retCellTmp Z ag91 Z Z Z (Own.cellsBlk 3 Z) (fun w hw => ?_)
  exact ⟨(X30.1, X30.2), Z, hw.pick [1] (by decide), hF30⟩
 rintro pace15_1 k_1 m32 ⟨hI33, hle_1⟩
 obtain ⟨m34, s35, rfl, hm36, hn37⟩ := iter_step hI33; clear hI33; unfold sched_Make_L1 at hm36
 refine WC.seq (sr (wm Z (wm Z ?_)))
 obtain ⟨c38, hm39⟩ := cs hm36; clear hm36
 refine wq Z (QV.add Z Z Z Z c38) (wm Z (wq Z (QV.max2 Z Z Z Z) (wq Z (QV.lss Z Z Z Z) (nt ?_))))
 refine wc Z hm39 (fun h40 hm41 => ?_) (fun h40 hm55 => ?_) <;> clear hm39
 ·skip
  refine sk (WQ.then (WC.seq (WC.block (sr (wq Z (QV.loadAgg ag25 Z Z Z (Own.cellsBlk 4 Z)) (wq Z (QV.loadAgg ag28 Z Z Z (Own.cellsBlk 3 Z)) (wm Z (wm Z (WL.effect Z ?_)))))))))
  obtain ⟨x42, hx43, hm44⟩ := bd_some hm41; clear hm41
  refine (EV.callR (X := Value × World) (R := []) (fun X => .agg #[i_ x42.pace, X.1]) (fun X => []) (fun X => X.2) (fun X => Arr X.2 X.1 1 (x42.times.map icell)) hk (fun _ h => by cases h; decide) en72 (ec Z (ec Z (ec Z (ec Z eN)))) (fun M w h1 h2 => have h := sched_early_w hx43 (h_l_logs.le ((hle7.trans hle20).trans hle_1)) (h_l_body.le ((hle7.trans hle20).trans hle_1)) (h_l_outs.le ((hle7.trans hle20).trans hle_1)) (hF7.le (hle20.trans hle_1)) M w h1 h2; h) (fun X45 hF45 hle45 => ?_))
  refine WL.effect Z ?_
  refine (EV.alloc (by decide) ze91 (fun b46 => ?_))
  refine WL.effect Z ?_
  refine (EV.store 0 Z Z Z Z Z Z (vs := [i_ x42.pace, X45.1]) (show Value.cells _ = List.toArray _ from Z) sz91 (nl Z) (oc Z (oc (SliceLen.one hF45.lenMap) one_nil)) ?_)
  refine ns (wq Z (QV.loadAgg ag25 Z Z Z (Own.cellsBlk 5 Z)) (wq Z (QV.loadAgg ag28 Z Z Z (Own.cellsBlk 4 Z)) (wq Z (QV.loadAgg ag91 Z Z Z (Own.cellsBlk 0 Z)) (wm Z ?_))))
  obtain ⟨x47, hx48, hm49⟩ := bd_some hm44; clear hm44
  refine wq Z (QV.call en73 (ec Z (ec Z (ec Z (ec Z eN)))) (fun w hw => have h := sched_fits_w w hx48 ((Own.karr 1 Z hk (h_l_logs.le (((hle7.trans hle20).trans hle_1).trans hle45))) w hw) ((Own.karr 1 Z hk (h_l_body.le (((hle7.trans hle20).trans hle_1).trans hle45))) w hw) ((Own.karr 1 Z hk (h_l_outs.le (((hle7.trans hle20).trans hle_1).trans hle45))) w hw) ((Own.karr 1 Z hk hF45) w hw) ((Own.karr 1 Z hk (hF7.le ((hle20.trans hle_1).trans hle45))) w hw); h)) (nt ?_)
  refine wc Z hm49 (fun h50 hm51 => ?_) (fun h50 hm52 => ?_) <;> clear hm49
  ·skip
   refine sr (wq Z (QV.loadAgg ag91 Z Z Z (Own.cellsBlk 0 Z)) (WL.effect Z ?_))
   refine (EV.store 3 Z Z Z Z Z Z (vs := [i_ x42.pace, X45.1]) (show Value.cells _ = List.toArray _ from Z) sz91 (nl Z) (oc Z (oc (SliceLen.one hF45.lenMap) one_nil)) ?_)
   refine wa Z (nt (WC.ret (kr (tr (tr (kr (tr (tr ?_))))))))
   obtain rfl := up_ret hm51 hn37
   obtain rfl := (eq_of_some hm24).symm
   refine WQ.retCellTmp Z ag91 Z Z Z (Own.cellsBlk 3 Z) (fun w hw => ?_)
   exact ⟨(X45.1, X45.2), Z, hw.pick [1] (by decide), hF45⟩
  refine sk (WQ.block (WQ.then (WC.region (wm Z ?_))))
  obtain ⟨c53, hm54⟩ := cs hm52; clear hm52
  refine wq Z (QV.add Z Z Z Z c53) (wa Z (WL.nil ?_))
  exact WQ.again2 (pace15_1 + 1) X45.2 m34 ⟨up_next hm54 hn37, (hle_1.trans hle45)⟩ (Nat.lt_succ_self _) ⟨Z, Z, Z, Z, Z, Z, Z, trivial⟩ (pk [1, 2, 3, 4, 5])
 refine WC.exit (te (te (WQ.block_exit ?_)))
 exact WQ.out2 pace15_1 k_1 ⟨up_brk hm55 hn37, hle_1⟩ ⟨Z, Z, Z, Z, Z, Z, Z, trivial⟩ (pk [0, 1, 2, 3, 4])
end Go.Proofs.Ytaimbkndebaaiac
end
section
namespace Go.Proofs.Ytaimbkndebaaiac
open Go.Rd
open TNum TLoop TKern TKeep TOrd TCpt TDep TSched1 TEmit TCheck TRegs TBound TMake
namespace TBuild
theorem en40 : Go.Rd.Enters Try.prog 40 := eT Try.func40
theorem en41 : Go.Rd.Enters Try.prog 41 := eT Try.func41
theorem en42 : Go.Rd.Enters Try.prog 42 := eT Try.func42
theorem en7 : Go.Rd.Enters Try.prog 7 := eT Try.func7
theorem en74 : Go.Rd.Enters Try.prog 74 := eT Try.func74
theorem en75 : Go.Rd.Enters Try.prog 75 := eT Try.func75
end TBuild
open TBuild
theorem build_try_w {v_l_logs v_l_body v_l_outs v_p_times : Value} {l : Lp} {t : Tgt} {p : Pln} {r : Krn × List Int × Bool} {K0 : World} (hm : build_try_m l t p = some r) (h_l_logs : Arr K0 v_l_logs 1 (l.logs.map icell)) (h_l_body : Arr K0 v_l_body 9 (l.body.map Stm.cells)) (h_l_outs : Arr K0 v_l_outs 1 (l.outs.map icell)) (h_p_times : Arr K0 v_p_times 1 (p.times.map icell)) (M : Nat → Prop) (w : World) (hk : Base M K0 w) (hw0 : Own M w [] w) : Calls Try.prog 42 #[.agg #[v_l_logs, v_l_body, v_l_outs], .agg #[.int .i64 t.u0, .int .i64 t.u1, .int .i64 t.u2, .int .i64 t.w0, .int .i64 t.w1, .int .i64 t.w2, .int .i64 t.regs], .agg #[.int .i64 p.pace, v_p_times]] w (fun e w' => ∃ X : Value × Value × World, e = .returned (.tuple #[.agg #[.int .i64 r.1.pace, .int .i64 r.1.stages, X.1], X.2.1, .bool r.2.2]) ∧ Own M w (kn M w.heap.size K0 X.2.2 :: []) w' ∧ Arr X.2.2 X.1 10 (r.1.ops.map Opr.cells) ∧ Arr X.2.2 X.2.1 1 (r.2.1.map icell)) := by
 unfold build_try_m at hm
 refine calls_of_WC (n := 54) (args := [.agg #[v_l_logs, v_l_body, v_l_outs], .agg #[i_ t.u0, i_ t.u1, i_ t.u2, i_ t.w0, i_ t.w1, i_ t.w2, i_ t.regs], .agg #[i_ p.pace, v_p_times]]) Try.func42 Z Z (nl Z) ?_ (Own.startK hk hw0)
 refine sr (WL.effect Z ?_)
 refine (EV.boxAgg (by decide) Z Z (fun b1 => ?_))
 refine WL.effect Z ?_
 refine (EV.boxAgg (by decide) Z Z (fun b2 => ?_))
 refine WL.effect Z ?_
 refine (EV.boxAgg (by decide) Z Z (fun b3 => ?_))
 refine WL.effect Z ?_
 refine (EV.alloc (by decide) ze31 (fun b4 => ?_))
 refine wa Z (wa Z (ns (wq Z (QV.loadAgg ag25 Z Z Z (Own.cellsBlk 3 Z)) (wq Z (QV.loadAgg ag28 Z Z Z (Own.cellsBlk 2 Z)) (wq Z (QV.loadAgg ag91 Z Z Z (Own.cellsBlk 1 Z)) (WL.effect Z ?_))))))
 obtain ⟨x5, hx6, hm7⟩ := bd_some hm; clear hm
 refine EV.of (C' := Own M w [kn M w.heap.size K0 K0, blk b4 [i_ 0, i_ 0, .slice none 0 0] 31, blk b3 [i_ p.pace, v_p_times] 91, blk b2 t.cells 28, blk b1 [v_l_logs, v_l_body, v_l_outs] 25]) (pk [4, 0, 1, 2, 3]) ?_
 refine (EV.callR (X := Value × World) (R := []) (fun X => .tuple #[X.1, i_ x5.2]) (fun X => []) (fun X => X.2) (fun X => Arr X.2 X.1 1 (x5.1.map icell)) hk (fun _ h => by cases h; decide) en74 (ec Z (ec Z (ec Z eN))) (fun M w h1 h2 => have h := regs_Make_w hx6 h_l_logs h_l_body h_l_outs h_p_times M w h1 h2; h) (fun X8 hF8 hle8 => ?_))
 refine wm Z (wq Z (QV.extract Z Z Z) (wq Z (QV.extract Z Z Z) (wa Z (wa Z (nt (WC.seq (sr (wm Z (wq Z (QV.neq Z Z Z Z) (nt ?_))))))))))
 refine wc Z hm7 (fun h9 hm10 => ?_) (fun h9 hm11 => ?_) <;> clear hm7
 ·skip
  refine sr (wq Z (QV.build (ps := []) (cells := [i_ 0, i_ 0, .slice none 0 0]) eN (by kernel_rfl)) (WL.effect Z ?_))
  refine (EV.store 1 Z Z Z Z Z Z (vs := [i_ 0, i_ 0, .slice none 0 0]) (show Value.cells _ = List.toArray _ from Z) sz31 (nl Z) (oc Z (oc Z (oc Z one_nil))) ?_)
  refine wa Z (wa Z (nt (WC.ret (tr ?_))))
  obtain rfl := (eq_of_some hm10).symm
  refine WQ.retCellTmp2 Z ag31 Z Z Z Z (Own.cellsBlk 1 Z) (fun w hw => ?_)
  exact ⟨(.slice none 0 0, .slice none 0 0, X8.2), Z, hw.pick [0] (by decide), Arr.nil, Arr.nil⟩
 refine sk (WQ.then (sr (wq Z (QV.loadAgg ag25 Z Z Z (Own.cellsBlk 4 Z)) (wq Z (QV.loadAgg ag28 Z Z Z (Own.cellsBlk 3 Z)) (wq Z (QV.loadAgg ag91 Z Z Z (Own.cellsBlk 2 Z)) (wm Z (WL.effect Z ?_)))))))
 obtain ⟨x12, hx13, hm14⟩ := bd_some hm11; clear hm11
 refine (EV.callR (X := Value × World) (R := []) (fun X => .tuple #[.agg #[i_ x12.1.pace, i_ x12.1.stages, X.1], i_ x12.2]) (fun X => []) (fun X => X.2) (fun X => Arr X.2 X.1 10 (x12.1.ops.map Opr.cells)) hk (fun _ h => by cases h; decide) en75 (ec Z (ec Z (ec Z (ec Z eN)))) (fun M w h1 h2 => have h := emit_Emit_w hx13 (h_l_logs.le hle8) (h_l_body.le hle8) (h_l_outs.le hle8) (h_p_times.le hle8) hF8 M w h1 h2; h) (fun X15 hF15 hle15 => ?_))
 refine wm Z (wq Z (QV.extract Z Z Z) (wq Z (QV.extract Z Z Z) (WL.effect Z ?_)))
 refine (EV.alloc (by decide) ze31 (fun b16 => ?_))
 refine WL.effect Z ?_
 refine (EV.store 0 Z Z Z Z Z Z (vs := [i_ x12.1.pace, i_ x12.1.stages, X15.1]) (show Value.cells _ = List.toArray _ from Z) sz31 (nl Z) (oc Z (oc Z (oc (SliceLen.one hF15.lenMap) one_nil))) ?_)
 refine wa Z (ns (wa Z (nt (WC.seq (sr (wf fd25_1 Z (wl pl23 Z (Own.cell 5 Z Z) (wq Z (QV.lenS Try.underlying23 Z Z (h_l_body.le (hle8.trans hle15)).lenMap) (wm Z (nt ?_))))))))))
 refine WK.of (fun w hw => hw.vecNil (E := 3) (sz := 1) (enc := icell)) ?_
 obtain ⟨o18, ho19, hm20⟩ := bd_some hm14; clear hm14; obtain ⟨n21, ho22⟩ := lp_some ho19
 refine WC.bloop3 (H2 := [blk b16 [i_ x12.1.pace, i_ x12.1.stages, X15.1] 31, kn M w.heap.size K0 X15.2, blk b4 [i_ 0, i_ 0, .slice none 0 0] 31, blk b3 [i_ p.pace, v_p_times] 91, blk b2 t.cells 28, blk b1 [v_l_logs, v_l_body, v_l_outs] 25]) (τ := [u_ 3 _, u_ 4 _, u_ 6 _, u_ 10 _, u_ 11 _, u_ 34 _]) (fun (v17_1 : List Int) (x35_1 : Int) (uv17_1 : Value) => [(12, (true, uv17_1)), (35, (true, i_ x35_1))]) (fun v17_1 x35_1 uv17_1 => [vec uv17_1 3 1 (List.map icell v17_1)]) (fun v17_1 x35_1 uv17_1 m => iter (build_try_L0 l) m (v17_1, x35_1) = some o18 ∧ SliceLen uv17_1 v17_1.length) (fun v17_1 x35_1 uv17_1 => o18 = .go (v17_1, x35_1) ∧ SliceLen uv17_1 v17_1.length) [] 0 (.slice none 0 0) n21 ⟨ho22, SliceLen.nil⟩ ⟨Z, Z, Z, Z, Z, Z, Z, Z, trivial⟩ (pk [0, 1, 2, 3, 4, 5, 6]) ?_ ?_
 ·skip
  rintro v17_1 x35_1 uv17_1 ⟨rfl, hlv17_1⟩
  refine WQ.then (WC.seq (WC.dr (m := 14) (S := Own M w [kn M w.heap.size K0 X15.2, vec uv17_1 3 1 (List.map icell v17_1), blk b16 [i_ x12.1.pace, i_ x12.1.stages, X15.1] 31, blk b3 [i_ p.pace, v_p_times] 91, blk b2 t.cells 28, blk b1 [v_l_logs, v_l_body, v_l_outs] 25]) (by kernel_rfl) (by kernel_rfl) (pk [2, 0, 1, 4, 5, 6]) (wz 0 Z Z (QV.loadAgg ag31 Z Z Z (Own.cellsBlk 2 Z)) (zm 1 Z Z (zm 2 Z Z (wz 3 Z Z (QV.eql Z Z Z Z) (zm 4 Z Z (zp 5 Z Z (fun hG => QV.loadAgg ag25 Z Z Z (Own.cellsBlk 5 Z)) (zp 6 Z Z (fun hG => QV.loadAgg ag28 Z Z Z (Own.cellsBlk 4 Z)) (zp 7 Z Z (fun hG => QV.loadAgg ag31 Z Z Z (Own.cellsBlk 2 Z)) ?_))))))))))
  refine zp 8 Z Z (fun hG => QV.move Z Z) ?_
  obtain ⟨x23, hx24, hm25⟩ := bdG_some hm20; clear hm20
  refine zp 9 Z Z (fun hG => QV.call en7 (EvAll.cons Z hG (EvAll.cons Z hG (EvAll.cons Z hG (EvAll.cons Z hG eN)))) (fun w hw => have h := check_Takes_w w (hx24 hG) ((Own.karr 0 Z hk (h_l_logs.le (hle8.trans hle15))) w hw) ((Own.karr 0 Z hk (h_l_body.le (hle8.trans hle15))) w hw) ((Own.karr 0 Z hk (h_l_outs.le (hle8.trans hle15))) w hw) ((Own.karr 0 Z hk hF15) w hw) ((Own.vecArr 1 Z) w hw); h)) (wz 10 Z Z (QV.pickAnd Z Z Z (fun h => h)) ?_)
  refine WD.o 11 Z (by kernel_rfl) Z ?_
  refine (EV.store 3 Z Z Z Z Z Z (vs := [i_ x12.1.pace, i_ x12.1.stages, X15.1]) (show Value.cells _ = List.toArray _ from Z) sz31 (nl Z) (oc Z (oc Z (oc (SliceLen.one hF15.lenMap) one_nil))) ?_)
  refine WD.b (H' := [kn M w.heap.size K0 X15.2, vec uv17_1 3 1 (List.map icell v17_1), blk b16 [i_ x12.1.pace, i_ x12.1.stages, X15.1] 31, blk b4 [i_ x12.1.pace, i_ x12.1.stages, X15.1] 31, blk b3 [i_ p.pace, v_p_times] 91, blk b2 t.cells 28, blk b1 [v_l_logs, v_l_body, v_l_outs] 25]) (pk [2, 0, 1, 3, 4, 5, 6]) (pk [0, 1, 2, 4, 5, 6]) ?_
  refine wz 12 Z Z (QV.assign Z Z) (wz 13 Z Z (QV.assign Z Z) ?_)
  refine WD.e (by kernel_rfl) ?_
  refine WQ.then (WC.ret ?_)
  obtain rfl := (eq_of_some hm25).symm
  refine WK.of (C' := Own M w [kn M w.heap.size K0 X15.2, vec uv17_1 3 1 (List.map icell v17_1), blk b16 [i_ x12.1.pace, i_ x12.1.stages, X15.1] 31, blk b4 [i_ x12.1.pace, i_ x12.1.stages, X15.1] 31, blk b3 [i_ p.pace, v_p_times] 91, blk b2 t.cells 28, blk b1 [v_l_logs, v_l_body, v_l_outs] 25]) (pk [2, 0, 1, 3, 4, 5, 6]) ?_
  refine WK.freeze hk (fun k26 hle26 hr26 => ?_)
  have hA26 := vec_arr hr26
  refine WQ.retCellTmp2 Z ag31 Z Z Z Z (Own.cellsBlk 2 Z) (fun w hw => ?_)
  exact ⟨(X15.1, uv17_1, k26), Z, hw.pick [0] (by decide), (hF15.le hle26), hA26⟩
 rintro v17_1 x35_1 uv17_1 m27 ⟨hI28, hlv17_1⟩
 obtain ⟨m29, s30, rfl, hm31, hn32⟩ := iter_step hI28; clear hI28; unfold build_try_L0 at hm31; simp only at hm31
 refine sr (wq Z (QV.lss Z Z Z Z) (nt (WC.seq ?_)))
 refine wc Z hm31 (fun h33 hm34 => ?_) (fun h33 hm42 => ?_) <;> clear hm31
 ·skip
  refine sk (WQ.then (WC.seq (WC.block (sr (wm Z (wa Z (nr (wm Z (wm Z (WL.effect Z ?_))))))))))
  refine (EV.buildSlice (by decide) sz_22 (by decide) (by decide) (ps := [(0, .tmp 39)]) (cells := [i_ x35_1]) (ec Z eN) (by kernel_rfl) (fun b35 => ?_))
  refine WL.effect Z ?_
  obtain ⟨c36, c40, hm41⟩ := cs2 hm34; clear hm34
  refine (EV.appendL (enc := icell) (xs := v17_1) (ys := [x35_1]) ((v17_1 ++ [x35_1])) 1 (by decide) ve22 Z Z Z Z Z (Own.blkArr 0 (rows := [x35_1].map icell) Z Z (rows_len icell_len)) icell_len (icell_one _) Z c36.1 c36.2 (fun u38 hu39 => ?_))
  refine wa Z (WL.nil (WQ.block (WQ.then (WC.region (wq Z (QV.add Z Z Z Z c40) (wm Z (WL.nil ?_)))))))
  exact WQ.again3 (v17_1 ++ [x35_1]) (x35_1 + 1) u38 m29 ⟨up_next hm41 hn32, hu39⟩ (Nat.lt_succ_self _) ⟨Z, Z, Z, Z, Z, Z, Z, Z, trivial⟩ (pk [1, 2, 3, 4, 5, 6, 7])
 refine WC.exit (te (te (WQ.block_exit ?_)))
 exact WQ.out3 v17_1 x35_1 uv17_1 ⟨up_brk hm42 hn32, hlv17_1⟩ ⟨Z, Z, Z, Z, Z, Z, Z, Z, trivial⟩ (pk [0, 1, 2, 3, 4, 5, 6])
theorem build_straight_w {v_l_logs v_l_body v_l_outs : Value} {l : Lp} {t : Tgt} {r : Pln} {K0 : World} (hm : build_straight_m l t = some r) (h_l_logs : Arr K0 v_l_logs 1 (l.logs.map icell)) (h_l_body : Arr K0 v_l_body 9 (l.body.map Stm.cells)) (h_l_outs : Arr K0 v_l_outs 1 (l.outs.map icell)) (M : Nat → Prop) (w : World) (hk : Base M K0 w) (hw0 : Own M w [] w) : Calls Try.prog 40 #[.agg #[v_l_logs, v_l_body, v_l_outs], .agg #[.int .i64 t.u0, .int .i64 t.u1, .int .i64 t.u2, .int .i64 t.w0, .int .i64 t.w1, .int .i64 t.w2, .int .i64 t.regs]] w (fun e w' => ∃ X : Value × World, e = .returned (.agg #[.int .i64 r.pace, X.1]) ∧ Own M w (kn M w.heap.size K0 X.2 :: []) w' ∧ Arr X.2 X.1 1 (r.times.map icell)) := by
 unfold build_straight_m at hm
 refine calls_of_WC (n := 32) (args := [.agg #[v_l_logs, v_l_body, v_l_outs], .agg #[i_ t.u0, i_ t.u1, i_ t.u2, i_ t.w0, i_ t.w1, i_ t.w2, i_ t.regs]]) Try.func40 Z Z (nl Z) ?_ (Own.startK hk hw0)
 refine sr (WL.effect Z ?_)
 refine (EV.boxAgg (by decide) Z Z (fun b1 => ?_))
 refine WL.effect Z ?_
 refine (EV.boxAgg (by decide) Z Z (fun b2 => ?_))
 refine WL.effect Z ?_
 refine (EV.alloc (by decide) ze91 (fun b3 => ?_))
 refine ns (WL.effect Z ?_)
 refine (EV.alloc (by decide) ze91 (fun b4 => ?_))
 refine nt (WC.seq (sr (wf fd25_1 Z (wl pl23 Z (Own.cell 3 Z Z) (wq Z (QV.lenS Try.underlying23 Z Z h_l_body.lenMap) (wm Z (nt ?_)))))))
 refine WK.of (fun w hw => hw.vecNil (E := 3) (sz := 1) (enc := icell)) ?_
 obtain ⟨o6, ho7, hm8⟩ := bd_some hm; clear hm; obtain ⟨n9, ho10⟩ := lp_some ho7
 refine WC.bloop4 (H2 := [blk b3 [i_ 0, .slice none 0 0] 91, blk b2 t.cells 28, blk b1 [v_l_logs, v_l_body, v_l_outs] 25, kn M w.heap.size K0 K0]) (τ := [u_ 3 _, u_ 4 _, u_ 5 _, u_ 9 _, u_ 10 _]) (fun (v5_1 : List Int) (b4c0_1 : Int) (x11_1 : Int) (uv5_1 : Value) => [(11, (true, i_ x11_1))]) (fun v5_1 b4c0_1 x11_1 uv5_1 => [vec uv5_1 3 1 (List.map icell v5_1), blk b4 [i_ b4c0_1, uv5_1] 91]) (fun v5_1 b4c0_1 x11_1 uv5_1 m => iter (build_straight_L0 l t) m (v5_1, b4c0_1, x11_1) = some o6 ∧ SliceLen uv5_1 v5_1.length) (fun v5_1 b4c0_1 x11_1 uv5_1 => o6 = .go (v5_1, b4c0_1, x11_1) ∧ SliceLen uv5_1 v5_1.length) [] 0 0 (.slice none 0 0) n9 ⟨ho10, SliceLen.nil⟩ ⟨Z, Z, Z, Z, Z, Z, trivial⟩ (pk [0, 1, 2, 3, 4, 5]) ?_ ?_
 ·skip
  rintro v5_1 b4c0_1 x11_1 uv5_1 ⟨rfl, hlv5_1⟩
  refine WQ.then (sr (wq Z (QV.loadAgg ag91 Z Z Z (Own.cellsBlk 1 Z)) (WL.effect Z ?_)))
  refine (EV.store 2 Z Z Z Z Z Z (vs := [i_ b4c0_1, uv5_1]) (show Value.cells _ = List.toArray _ from Z) sz91 (nl Z) (oc Z (oc (SliceLen.one hlv5_1) one_nil)) ?_)
  refine nt (WC.ret ?_)
  obtain rfl := (eq_of_some hm8).symm
  refine WK.of (C' := Own M w [kn M w.heap.size K0 K0, vec uv5_1 3 1 (List.map icell v5_1), blk b4 [i_ b4c0_1, uv5_1] 91, blk b3 [i_ b4c0_1, uv5_1] 91, blk b2 t.cells 28, blk b1 [v_l_logs, v_l_body, v_l_outs] 25]) (pk [5, 0, 1, 2, 3, 4]) ?_
  refine WK.freeze hk (fun k11 hle11 hr11 => ?_)
  have hA11 := vec_arr hr11
  refine WQ.retCell Z ag91 Z Z (Own.cellsBlk 2 Z) (fun w hw => ?_)
  exact ⟨(uv5_1, k11), Z, hw.pick [0] (by decide), hA11⟩
 rintro v5_1 b4c0_1 x11_1 uv5_1 m12 ⟨hI13, hlv5_1⟩
 obtain ⟨m14, s15, rfl, hm16, hn17⟩ := iter_step hI13; clear hI13; unfold build_straight_L0 at hm16; simp only at hm16
 refine sr (wq Z (QV.lss Z Z Z Z) (nt (WC.seq ?_)))
 refine wc Z hm16 (fun h18 hm19 => ?_) (fun h18 hm37 => ?_) <;> clear hm16
 ·skip
  refine sk (WQ.then (WC.seq (WC.block (sr ?_))))
  obtain ⟨c20, hm21⟩ := cs hm19; clear hm19
  obtain ⟨p22, hp23⟩ := h_l_body.lenMap.ix (sz := 9) ln_len c20
  refine wq Z (QV.indexSlice sl23 Z Z Z Z hp23) (wq Z (QV.loadAgg ag81 Z Z Z (fun w hw => ((Own.karr 5 Z hk h_l_body) w hw).ele hp23 c20)) (WL.effect Z ?_))
  refine (EV.alloc (by decide) ze81 (fun b24 => ?_))
  refine WL.effect Z ?_
  refine (EV.store 0 Z Z Z Z Z Z (vs := (Stm.cells (ele l.body x11_1))) (show Value.cells _ = List.toArray _ from Z) sz81 (nl Z) (oc Z (oc Z (oc Z (oc Z (oc Z (oc Z (oc Z (oc Z (oc Z one_nil))))))))) ?_)
  refine ns (wf fd91_1 Z (wl pl22 Z (Own.cell 2 Z Z) (wf fd91_0 Z (wl pl3 Z (Own.cell 2 Z Z) (WL.effect Z ?_)))))
  refine (EV.buildSlice (by decide) sz_22 (by decide) (by decide) (ps := [(0, .tmp 18)]) (cells := [i_ b4c0_1]) (ec Z eN) (by kernel_rfl) (fun b25 => ?_))
  refine WL.effect Z ?_
  obtain ⟨c26, hm27⟩ := cs hm21; clear hm21
  refine (EV.appendL (enc := icell) (xs := v5_1) (ys := [b4c0_1]) ((v5_1 ++ [b4c0_1])) 2 (by decide) ve22 Z Z Z Z Z (Own.blkArr 0 (rows := [b4c0_1].map icell) Z Z (rows_len icell_len)) icell_len (icell_one _) Z c26.1 c26.2 (fun u28 hu29 => ?_))
  refine wf fd91_1 Z (WL.effect Z ?_)
  refine (EV.store 3 Z Z Z Z Z Z (vs := [u28]) (SliceLen.cells hu29) sz22 (nl Z) (oc (SliceLen.one hu29) one_nil) ?_)
  refine nt (WC.dr (m := 9) (S := Own M w [kn M w.heap.size K0 K0, blk b25 [i_ b4c0_1] 3, blk b24 (Stm.cells (ele l.body x11_1)) 81, vec u28 3 1 (List.map icell (v5_1 ++ [b4c0_1])), blk b4 [i_ b4c0_1, u28] 91, blk b3 [i_ 0, .slice none 0 0] 91, blk b2 t.cells 28, blk b1 [v_l_logs, v_l_body, v_l_outs] 25]) (by kernel_rfl) (by kernel_rfl) (pk [7, 0, 1, 2, 3, 4, 5, 6]) (zf 0 fd91_0 Z Z (zl 1 pl3 Z Z (Own.cell 4 Z Z) (wz 2 Z Z (QV.loadAgg ag28 Z Z Z (Own.cellsBlk 6 Z)) (zf 3 fd81_0 Z Z (zl 4 pl3 Z Z (Own.cell 2 Z Z) ?_))))))
  obtain ⟨x30, hx31, hm32⟩ := bd_some hm27; clear hm27
  refine wz 5 Z Z (QV.call en69 (ec Z (ec Z eN)) (fun w hw => have h := target_Wait_w w hx31 ; h)) ?_
  obtain ⟨c33, c35, hm36⟩ := cs2 hm32; clear hm32
  refine wz 6 Z Z (QV.add Z Z Z Z c33) (zf 7 fd91_0 Z Z ?_)
  refine WD.l 8 Z (by kernel_rfl) Z ?_
  refine (EV.store 3 Z Z Z Z Z Z (vs := [i_ (b4c0_1 + x30)]) (show Value.cells _ = List.toArray _ from Z) sz3 (nl Z) (oc Z one_nil) ?_)
  refine WQ.block (WQ.then (WC.region (wq Z (QV.add Z Z Z Z c35) (wm Z (WL.nil ?_)))))
  exact WQ.again4 (v5_1 ++ [b4c0_1]) (b4c0_1 + x30) (x11_1 + 1) u28 m14 ⟨up_next hm36 hn17, hu29⟩ (Nat.lt_succ_self _) ⟨Z, Z, Z, Z, Z, Z, trivial⟩ (pk [2, 3, 4, 5, 6, 7])
 refine WC.exit (te (te (WQ.block_exit ?_)))
 exact WQ.out4 v5_1 b4c0_1 x11_1 uv5_1 ⟨up_brk hm37 hn17, hlv5_1⟩ ⟨Z, Z, Z, Z, Z, Z, trivial⟩ (pk [0, 1, 2, 3, 4, 5])
theorem build_Build_w {v_l_logs v_l_body v_l_outs : Value} {l : Lp} {t : Tgt} {r : Krn × List Int × Int} {K0 : World} (hm : build_Build_m l t = some r) (h_l_logs : Arr K0 v_l_logs 1 (l.logs.map icell)) (h_l_body : Arr K0 v_l_body 9 (l.body.map Stm.cells)) (h_l_outs : Arr K0 v_l_outs 1 (l.outs.map icell)) (M : Nat → Prop) (w : World) (hk : Base M K0 w) (hw0 : Own M w [] w) : Calls Try.prog 15 #[.agg #[v_l_logs, v_l_body, v_l_outs], .agg #[.int .i64 t.u0, .int .i64 t.u1, .int .i64 t.u2, .int .i64 t.w0, .int .i64 t.w1, .int .i64 t.w2, .int .i64 t.regs]] w (fun e w' => ∃ X : Value × Value × World, e = .returned (.tuple #[.agg #[.int .i64 r.1.pace, .int .i64 r.1.stages, X.1], X.2.1, .int .i64 r.2.2]) ∧ Own M w (kn M w.heap.size K0 X.2.2 :: []) w' ∧ Arr X.2.2 X.1 10 (r.1.ops.map Opr.cells) ∧ Arr X.2.2 X.2.1 1 (r.2.1.map icell)) := by
 unfold build_Build_m at hm
 refine calls_of_WC (n := 71) (args := [.agg #[v_l_logs, v_l_body, v_l_outs], .agg #[i_ t.u0, i_ t.u1, i_ t.u2, i_ t.w0, i_ t.w1, i_ t.w2, i_ t.regs]]) Try.func15 Z Z (nl Z) ?_ (Own.startK hk hw0)
 refine sr (WL.effect Z ?_)
 refine (EV.boxAgg (by decide) Z Z (fun b1 => ?_))
 refine WL.effect Z ?_
 refine (EV.boxAgg (by decide) Z Z (fun b2 => ?_))
 refine WL.effect Z ?_
 refine (EV.alloc (by decide) ze31 (fun b3 => ?_))
 refine wa Z (wa Z (nt (WC.seq (sr (wq Z (QV.loadAgg ag25 Z Z Z (Own.cellsBlk 2 Z)) ?_)))))
 obtain ⟨x4, hx5, hm6⟩ := bd_some hm; clear hm
 refine wq Z (QV.call en38 (ec Z eN) (fun w hw => have h := loop_May_w w hx5 ((Own.karr 3 Z hk h_l_logs) w hw) ((Own.karr 3 Z hk h_l_body) w hw) ((Own.karr 3 Z hk h_l_outs) w hw); h)) (wq Z (QV.not Z Z) (wm Z (gn Z (fun hG => QV.loadAgg ag28 Z Z Z (Own.cellsBlk 1 Z)) ?_)))
 obtain ⟨x7, hx8, hm9⟩ := bdG_some hm6; clear hm6
 refine gn Z (fun hG => QV.call en39 (EvAll.cons Z hG eN) (fun w hw => have h := target_May_w w (hx8 hG) ; h)) (gn Z (fun hG => QV.not Z hG) (wq Z (QV.pickOr Z Z Z (fun h => notF h)) (nt ?_)))
 refine wc Z hm9 (fun h10 hm11 => ?_) (fun h10 hm12 => ?_) <;> clear hm9
 ·skip
  refine sr (wq Z (QV.build (ps := []) (cells := [i_ 0, i_ 0, .slice none 0 0]) eN (by kernel_rfl)) (WL.effect Z ?_))
  refine (EV.store 0 Z Z Z Z Z Z (vs := [i_ 0, i_ 0, .slice none 0 0]) (show Value.cells _ = List.toArray _ from Z) sz31 (nl Z) (oc Z (oc Z (oc Z one_nil))) ?_)
  refine wa Z (wa Z (nt (WC.ret (tr ?_))))
  obtain rfl := (eq_of_some hm11).symm
  refine WQ.retCellTmp2 Z ag31 Z Z Z Z (Own.cellsBlk 0 Z) (fun w hw => ?_)
  exact ⟨(.slice none 0 0, .slice none 0 0, K0), Z, hw.pick [3] (by decide), Arr.nil, Arr.nil⟩
 refine sk (WQ.then (sr (wq Z (QV.loadAgg ag25 Z Z Z (Own.cellsBlk 2 Z)) (wq Z (QV.loadAgg ag28 Z Z Z (Own.cellsBlk 1 Z)) (WL.effect Z ?_)))))
 obtain ⟨x13, hx14, hm15⟩ := bd_some hm12; clear hm12
 refine EV.of (C' := Own M w [kn M w.heap.size K0 K0, blk b3 [i_ 0, i_ 0, .slice none 0 0] 31, blk b2 t.cells 28, blk b1 [v_l_logs, v_l_body, v_l_outs] 25]) (pk [3, 0, 1, 2]) ?_
 refine (EV.callR (X := Value × World) (R := []) (fun X => .agg #[i_ x13.pace, X.1]) (fun X => []) (fun X => X.2) (fun X => Arr X.2 X.1 1 (x13.times.map icell)) hk (fun _ h => by cases h; decide) en40 (ec Z (ec Z eN)) (fun M w h1 h2 => have h := build_straight_w hx14 h_l_logs h_l_body h_l_outs M w h1 h2; h) (fun X16 hF16 hle16 => ?_))
 refine WL.effect Z ?_
 refine (EV.alloc (by decide) ze91 (fun b17 => ?_))
 refine WL.effect Z ?_
 refine (EV.store 0 Z Z Z Z Z Z (vs := [i_ x13.pace, X16.1]) (show Value.cells _ = List.toArray _ from Z) sz91 (nl Z) (oc Z (oc (SliceLen.one hF16.lenMap) one_nil)) ?_)
 refine nt (WC.seq (sr (wa Z (nt ?_))))
 obtain ⟨o18, ho19, hm20⟩ := bd_some hm15; clear hm15; obtain ⟨n21, ho22⟩ := lp_some ho19
 refine WC.bloop2 (H2 := [blk b17 [i_ x13.pace, X16.1] 91, blk b3 [i_ 0, i_ 0, .slice none 0 0] 31, blk b2 t.cells 28, blk b1 [v_l_logs, v_l_body, v_l_outs] 25]) (τ := [u_ 2 _, u_ 3 _, u_ 4 _, u_ 7 _]) (fun (least8_1 : Int) (k_1 : World) => [(8, (true, i_ least8_1))]) (fun least8_1 k_1 => [kn M w.heap.size K0 k_1]) (fun least8_1 k_1 m => iter (build_Build_L0 l t x13) m least8_1 = some o18 ∧ Le X16.2 k_1) (fun least8_1 k_1 => o18 = .go least8_1 ∧ Le X16.2 k_1) 1 X16.2 n21 ⟨ho22, (Le.refl _)⟩ ⟨Z, Z, Z, Z, Z, trivial⟩ (pk [1, 0, 2, 3, 4]) ?_ ?_
 ·skip
  rintro least8_1 k_1 ⟨rfl, hle_1⟩
  refine WQ.then (WC.seq (sr (wq Z (QV.loadAgg ag25 Z Z Z (Own.cellsBlk 4 Z)) (wq Z (QV.loadAgg ag28 Z Z Z (Own.cellsBlk 3 Z)) (wq Z (QV.loadAgg ag91 Z Z Z (Own.cellsBlk 1 Z)) (WL.effect Z ?_))))))
  obtain ⟨x23, hx24, hm25⟩ := bd_some hm20; clear hm20
  refine (EV.callR (X := Value × Value × World) (R := []) (fun X => .tuple #[.agg #[i_ x23.1.pace, i_ x23.1.stages, X.1], X.2.1, .bool x23.2.2]) (fun X => []) (fun X => X.2.2) (fun X => Arr X.2.2 X.1 10 (x23.1.ops.map Opr.cells) ∧ Arr X.2.2 X.2.1 1 (x23.2.1.map icell)) hk (fun _ h => by cases h; decide) en42 (ec Z (ec Z (ec Z eN))) (fun M w h1 h2 => have h := build_try_w hx24 (h_l_logs.le (hle16.trans hle_1)) (h_l_body.le (hle16.trans hle_1)) (h_l_outs.le (hle16.trans hle_1)) (hF16.le hle_1) M w h1 h2; h) (fun X26 hF26 hle26 => ?_))
  refine wm Z (wq Z (QV.extract Z Z Z) (wq Z (QV.extract Z Z Z) (wq Z (QV.extract Z Z Z) (WL.effect Z ?_))))
  refine (EV.alloc (by decide) ze31 (fun b27 => ?_))
  refine WL.effect Z ?_
  refine (EV.store 0 Z Z Z Z Z Z (vs := [i_ x23.1.pace, i_ x23.1.stages, X26.1]) (show Value.cells _ = List.toArray _ from Z) sz31 (nl Z) (oc Z (oc Z (oc (SliceLen.one hF26.1.lenMap) one_nil))) ?_)
  refine wa Z (wa Z (ns (wm Z (nt ?_))))
  refine wc Z hm25 (fun h28 hm29 => ?_) (fun h28 hm30 => ?_) <;> clear hm25
  ·skip
   refine sr (wq Z (QV.loadAgg ag31 Z Z Z (Own.cellsBlk 0 Z)) (wm Z (WL.effect Z ?_)))
   refine (EV.store 3 Z Z Z Z Z Z (vs := [i_ x23.1.pace, i_ x23.1.stages, X26.1]) (show Value.cells _ = List.toArray _ from Z) sz31 (nl Z) (oc Z (oc Z (oc (SliceLen.one hF26.1.lenMap) one_nil))) ?_)
   refine wa Z (wa Z (nt (WC.ret (tr ?_))))
   obtain rfl := (eq_of_some hm29).symm
   refine WQ.retCellTmp2 Z ag31 Z Z Z Z (Own.cellsBlk 3 Z) (fun w hw => ?_)
   exact ⟨(X26.1, X26.2.1, X26.2.2), Z, hw.pick [1] (by decide), hF26.1, hF26.2⟩
  refine sk (WQ.then (sr (wq Z (QV.build (ps := []) (cells := [i_ 0, i_ 0, .slice none 0 0]) eN (by kernel_rfl)) (WL.effect Z ?_))))
  refine (EV.store 3 Z Z Z Z Z Z (vs := [i_ 0, i_ 0, .slice none 0 0]) (show Value.cells _ = List.toArray _ from Z) sz31 (nl Z) (oc Z (oc Z (oc Z one_nil))) ?_)
  refine wa Z (wa Z (nt (WC.ret ?_)))
  obtain rfl := (eq_of_some hm30).symm
  refine WQ.retCellTmp2 Z ag31 Z Z Z Z (Own.cellsBlk 3 Z) (fun w hw => ?_)
  exact ⟨(.slice none 0 0, .slice none 0 0, X26.2.2), Z, hw.pick [1] (by decide), Arr.nil, Arr.nil⟩
 rintro least8_1 k_1 m31 ⟨hI32, hle_1⟩
 obtain ⟨m33, s34, rfl, hm35, hn36⟩ := iter_step hI32; clear hI32; unfold build_Build_L0 at hm35
 refine WC.seq (sr (wm Z (wf fd91_0 Z (wl pl3 Z (Own.cell 1 Z Z) (wq Z (QV.leq Z Z Z Z) (nt ?_))))))
 refine wc Z hm35 (fun h37 hm38 => ?_) (fun h37 hm58 => ?_) <;> clear hm35
 ·skip
  refine sk (WQ.then (WC.block (sr (wq Z (QV.loadAgg ag25 Z Z Z (Own.cellsBlk 4 Z)) (wq Z (QV.loadAgg ag28 Z Z Z (Own.cellsBlk 3 Z)) (wm Z (WL.effect Z ?_)))))))
  obtain ⟨x39, hx40, hm41⟩ := bd_some hm38; clear hm38
  refine (EV.callR (X := Value × World) (R := []) (fun X => .tuple #[.agg #[i_ x39.1.pace, X.1], i_ x39.2]) (fun X => []) (fun X => X.2) (fun X => Arr X.2 X.1 1 (x39.1.times.map icell)) hk (fun _ h => by cases h; decide) en41 (ec Z (ec Z (ec Z eN))) (fun M w h1 h2 => have h := sched_Make_w hx40 (h_l_logs.le (hle16.trans hle_1)) (h_l_body.le (hle16.trans hle_1)) (h_l_outs.le (hle16.trans hle_1)) M w h1 h2; h) (fun X42 hF42 hle42 => ?_))
  refine wm Z (wq Z (QV.extract Z Z Z) (wq Z (QV.extract Z Z Z) (WL.effect Z ?_)))
  refine (EV.alloc (by decide) ze91 (fun b43 => ?_))
  refine WL.effect Z ?_
  refine (EV.store 0 Z Z Z Z Z Z (vs := [i_ x39.1.pace, X42.1]) (show Value.cells _ = List.toArray _ from Z) sz91 (nl Z) (oc Z (oc (SliceLen.one hF42.lenMap) one_nil)) ?_)
  refine wa Z (nt (WC.seq (sr (wq Z (QV.loadAgg ag25 Z Z Z (Own.cellsBlk 5 Z)) (wq Z (QV.loadAgg ag28 Z Z Z (Own.cellsBlk 4 Z)) (wq Z (QV.loadAgg ag91 Z Z Z (Own.cellsBlk 0 Z)) (WL.effect Z ?_)))))))
  obtain ⟨x44, hx45, hm46⟩ := bd_some hm41; clear hm41
  refine EV.of (C' := Own M w [kn M w.heap.size K0 X42.2, blk b43 [i_ x39.1.pace, X42.1] 91, blk b17 [i_ x13.pace, X16.1] 91, blk b3 [i_ 0, i_ 0, .slice none 0 0] 31, blk b2 t.cells 28, blk b1 [v_l_logs, v_l_body, v_l_outs] 25]) (pk [1, 0, 2, 3, 4, 5]) ?_
  refine (EV.callR (X := Value × Value × World) (R := []) (fun X => .tuple #[.agg #[i_ x44.1.pace, i_ x44.1.stages, X.1], X.2.1, .bool x44.2.2]) (fun X => []) (fun X => X.2.2) (fun X => Arr X.2.2 X.1 10 (x44.1.ops.map Opr.cells) ∧ Arr X.2.2 X.2.1 1 (x44.2.1.map icell)) hk (fun _ h => by cases h; decide) en42 (ec Z (ec Z (ec Z eN))) (fun M w h1 h2 => have h := build_try_w hx45 (h_l_logs.le ((hle16.trans hle_1).trans hle42)) (h_l_body.le ((hle16.trans hle_1).trans hle42)) (h_l_outs.le ((hle16.trans hle_1).trans hle42)) hF42 M w h1 h2; h) (fun X47 hF47 hle47 => ?_))
  refine wm Z (wq Z (QV.extract Z Z Z) (wq Z (QV.extract Z Z Z) (wq Z (QV.extract Z Z Z) (WL.effect Z ?_))))
  refine (EV.alloc (by decide) ze31 (fun b48 => ?_))
  refine WL.effect Z ?_
  refine (EV.store 0 Z Z Z Z Z Z (vs := [i_ x44.1.pace, i_ x44.1.stages, X47.1]) (show Value.cells _ = List.toArray _ from Z) sz31 (nl Z) (oc Z (oc Z (oc (SliceLen.one hF47.1.lenMap) one_nil))) ?_)
  refine wa Z (wa Z (ns (wm Z (nt ?_))))
  refine wc Z hm46 (fun h49 hm50 => ?_) (fun h49 hm51 => ?_) <;> clear hm46
  ·skip
   refine sr (wq Z (QV.loadAgg ag31 Z Z Z (Own.cellsBlk 0 Z)) (wm Z (WL.effect Z ?_)))
   refine (EV.store 4 Z Z Z Z Z Z (vs := [i_ x44.1.pace, i_ x44.1.stages, X47.1]) (show Value.cells _ = List.toArray _ from Z) sz31 (nl Z) (oc Z (oc Z (oc (SliceLen.one hF47.1.lenMap) one_nil))) ?_)
   refine wa Z (wa Z (nt (WC.ret (tr (kr (tr (kr (tr (tr ?_)))))))))
   obtain rfl := up_ret hm50 hn36
   obtain rfl := (eq_of_some hm20).symm
   refine WQ.retCellTmp2 Z ag31 Z Z Z Z (Own.cellsBlk 4 Z) (fun w hw => ?_)
   exact ⟨(X47.1, X47.2.1, X47.2.2), Z, hw.pick [1] (by decide), hF47.1, hF47.2⟩
  refine sk (WQ.then (WC.region (wf fd91_0 Z (wl pl3 Z (Own.cell 2 Z Z) ?_))))
  obtain ⟨c52, c54, c56, hm57⟩ := cs3 hm51; clear hm51
  refine wq Z (QV.add Z Z Z Z c52) (wf fd91_0 Z (wl pl3 Z (Own.cell 2 Z Z) (wq Z (QV.mul Z Z Z Z c54) (wq Z (QV.quo Z Z Z Z (by decide) c56) (wq Z (QV.max2 Z Z Z Z) (wa Z (WL.nil (WQ.block ?_))))))))
  exact WQ.again2 (max (x39.1.pace + 1) (Int.tdiv (x39.1.pace * 5) 4)) X47.2.2 m33 ⟨up_next hm57 hn36, ((hle_1.trans hle42).trans hle47)⟩ (Nat.lt_succ_self _) ⟨Z, Z, Z, Z, Z, trivial⟩ (pk [1, 3, 4, 5, 6])
 refine WC.exit (te (te (WQ.block_exit ?_)))
 exact WQ.out2 least8_1 k_1 ⟨up_brk hm58 hn36, hle_1⟩ ⟨Z, Z, Z, Z, Z, trivial⟩ (pk [0, 1, 2, 3, 4])
end Go.Proofs.Ytaimbkndebaaiac
end
section
namespace Go.Proofs.Ytaimbkndebaaiac
open Go.Rd
open TNum TLoop TKern TKeep TOrd TCpt TDep TSched1 TEmit TCheck TRegs TBound TMake TBuild
namespace TRDep
theorem en47 : Go.Rd.Enters Try.prog 47 := eT Try.func47
end TRDep
open TRDep
theorem R6_May_w {v_l_logs v_l_body v_l_outs : Value} {l : Lp} {t : Tgt} {r : Bool} (w : World) (hm : R6_May_m l t = some r) (h_l_logs : Arr w v_l_logs 1 (l.logs.map icell)) (h_l_body : Arr w v_l_body 9 (l.body.map Stm.cells)) (h_l_outs : Arr w v_l_outs 1 (l.outs.map icell)) : Calls Try.prog 16 #[.agg #[v_l_logs, v_l_body, v_l_outs], .agg #[.int .i64 t.u0, .int .i64 t.u1, .int .i64 t.u2, .int .i64 t.w0, .int .i64 t.w1, .int .i64 t.w2, .int .i64 t.regs]] w (fun e w' => e = .returned (.bool r) ∧ Grow w w') := by
 unfold R6_May_m at hm
 have hk := Base.rfl (w := w)
 refine calls_of_WC (n := 11) (args := [.agg #[v_l_logs, v_l_body, v_l_outs], .agg #[i_ t.u0, i_ t.u1, i_ t.u2, i_ t.w0, i_ t.w1, i_ t.w2, i_ t.regs]]) Try.func16 Z Z (nl Z) ?_ (Own.startK hk (Own.start w))
 refine sr (WL.effect Z ?_)
 refine (EV.boxAgg (by decide) Z Z (fun b1 => ?_))
 refine WL.effect Z ?_
 refine (EV.boxAgg (by decide) Z Z (fun b2 => ?_))
 refine wa Z (ns (wq Z (QV.loadAgg ag25 Z Z Z (Own.cellsBlk 1 Z)) ?_))
 obtain ⟨x3, hx4, hm5⟩ := bd_some hm; clear hm
 refine wq Z (QV.call en43 (ec Z eN) (fun w hw => have h := R2_May_w w hx4 ((Own.karr 2 Z hk h_l_logs) w hw) ((Own.karr 2 Z hk h_l_body) w hw) ((Own.karr 2 Z hk h_l_outs) w hw); h)) (wm Z (gp Z (fun hG => QV.loadAgg ag28 Z Z Z (Own.cellsBlk 0 Z)) ?_))
 obtain ⟨x6, hx7, hm8⟩ := bdG_some hm5; clear hm5
 refine gp Z (fun hG => QV.call en44 (EvAll.cons Z hG eN) (fun w hw => have h := R4_May_w w (hx7 hG) ; h)) (wq Z (QV.pickAnd Z Z Z (fun h => h)) (wa Z (nt (WC.ret ?_))))
 obtain rfl := (eq_of_some hm8).symm
 exact WQ.ret1 Z Z fun w hw => kg hw
end Go.Proofs.Ytaimbkndebaaiac
end