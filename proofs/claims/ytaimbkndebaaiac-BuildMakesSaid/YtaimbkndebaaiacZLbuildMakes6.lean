/- Texts that the law stands on: part 6. -/
import Derived.Test.YtaimbkndebaaiacZLbuildMakes5
import Derived.Test.YtaimbkndebaaiacProg
import Derived.KernelRfl
set_option linter.unusedVariables false
set_option linter.unusedSimpArgs false
set_option maxRecDepth 8000
section
namespace Go.Proofs.Ytaimbkndebaaiac
open Go.Rd
open TNum TLoop TKern TKeep TOrd TCpt TDep TSched1 TEmit TCheck
namespace TRegs
theorem en108 : Go.Rd.Enters Try.prog 108 := ⟨Try.f108, Try.func108, by kernel_rfl, by kernel_rfl⟩
theorem en109 : Go.Rd.Enters Try.prog 109 := ⟨Try.f109, Try.func109, by kernel_rfl, by kernel_rfl⟩
theorem en110 : Go.Rd.Enters Try.prog 110 := ⟨Try.f110, Try.func110, by kernel_rfl, by kernel_rfl⟩
theorem en111 : Go.Rd.Enters Try.prog 111 := ⟨Try.f111, Try.func111, by kernel_rfl, by kernel_rfl⟩
theorem en126 : Go.Rd.Enters Try.prog 126 := ⟨Try.f126, Try.func126, by kernel_rfl, by kernel_rfl⟩
end TRegs
open TRegs
theorem regs_layout_w {v_l_logs : Value} {v_l_body : Value} {v_l_outs : Value} {v_p_times : Value} {l : Lp} {t : Tgt} {p : Pln} {r : (List Int × List Stm × List Int × Int × Int × List Int × List Int × List Int)} {K0 : World} (hm : regs_layout_m l t p = some r) (h_l_logs : Arr K0 v_l_logs 1 (l.logs.map icell)) (h_l_body : Arr K0 v_l_body 9 (l.body.map Stm.cells)) (h_l_outs : Arr K0 v_l_outs 1 (l.outs.map icell)) (h_p_times : Arr K0 v_p_times 1 (p.times.map icell)) (M : Nat → Prop) (w : World) (hk : Base M K0 w) (hw0 : Own M w [] w) : Calls Try.prog 108 #[.agg #[v_l_logs, v_l_body, v_l_outs], .agg #[.int .i64 t.u0, .int .i64 t.u1, .int .i64 t.u2, .int .i64 t.w0, .int .i64 t.w1, .int .i64 t.w2, .int .i64 t.regs], .agg #[.int .i64 p.pace, v_p_times]] w (fun e w' => ∃ X : Nat × Value × Value × Value × Value × Value × Value × World, e = .returned (.pointer (some (⟨X.1, 0, none⟩))) ∧ Own M w (kn M w.heap.size K0 X.2.2.2.2.2.2.2 :: [blk X.1 [X.2.1, X.2.2.1, X.2.2.2.1, .int .i64 r.2.2.2.1, .int .i64 r.2.2.2.2.1, X.2.2.2.2.1, X.2.2.2.2.2.1, X.2.2.2.2.2.2.1] 87, vec X.2.2.2.2.2.2.1 3 1 (List.map icell r.2.2.2.2.2.2.2)]) w' ∧ Arr X.2.2.2.2.2.2.2 X.2.1 1 (r.1.map icell) ∧ Arr X.2.2.2.2.2.2.2 X.2.2.1 9 (r.2.1.map Stm.cells) ∧ Arr X.2.2.2.2.2.2.2 X.2.2.2.1 1 (r.2.2.1.map icell) ∧ Arr X.2.2.2.2.2.2.2 X.2.2.2.2.1 1 (r.2.2.2.2.2.1.map icell) ∧ Arr X.2.2.2.2.2.2.2 X.2.2.2.2.2.1 1 (r.2.2.2.2.2.2.1.map icell) ∧ SliceLen X.2.2.2.2.2.2.1 (r.2.2.2.2.2.2.2).length) := by
 unfold regs_layout_m at hm
 refine calls_of_WC (n := 52) (args := [.agg #[v_l_logs, v_l_body, v_l_outs], .agg #[.int .i64 t.u0, .int .i64 t.u1, .int .i64 t.u2, .int .i64 t.w0, .int .i64 t.w1, .int .i64 t.w2, .int .i64 t.regs], .agg #[.int .i64 p.pace, v_p_times]]) Try.func108 Z Z (Nat.le_of_ble_eq_true Z) ?_ (Own.startK hk hw0)
 refine sr ?_
 refine WL.effect Z ?_
 refine (EV.boxAgg (by decide) Z Z (fun b1 => ?_))
 refine WL.effect Z ?_
 refine (EV.boxAgg (by decide) Z Z (fun b2 => ?_))
 refine WL.effect Z ?_
 refine (EV.boxAgg (by decide) Z Z (fun b3 => ?_))
 refine wa Z ?_
 refine nt (WC.seq ?_)
 refine WC.dr (m := 14) (S := Own M w [kn M w.heap.size K0 K0, blk b3 [.int .i64 p.pace, v_p_times] 91, blk b2 t.cells 28, blk b1 [v_l_logs, v_l_body, v_l_outs] 25]) (by kernel_rfl) (by kernel_rfl) (fun w hw => hw.pick [3, 0, 1, 2] (by decide)) ?_
 refine wz 0 Z Z (QV.loadAgg ag25 Z Z Z (Own.cellsBlk 3 Z)) ?_
 refine wz 1 Z Z (QV.fieldAddr fd91_0 Z Z) ?_
 refine wz 2 Z Z (QV.load pl3 Z Z (Own.cell 1 Z Z)) ?_
 refine wz 3 Z Z (QV.fieldAddr fd28_2 Z Z) ?_
 refine wz 4 Z Z (QV.load pl3 Z Z (Own.cell 2 Z Z)) ?_
 refine wz 5 Z Z (QV.fieldAddr fd91_1 Z Z) ?_
 refine wz 6 Z Z (QV.load pl22 Z Z (Own.cell 1 Z Z)) ?_
 refine wz 7 Z Z (QV.fieldAddr fd25_1 Z Z) ?_
 refine wz 8 Z Z (QV.load pl23 Z Z (Own.cell 3 Z Z)) ?_
 refine wz 9 Z Z (QV.lenS Try.underlying23 Z Z h_l_body.lenMap) ?_
 refine WD.o 10 Z (by kernel_rfl) Z ?_
 obtain ⟨c4, hm5⟩ := cs hm; clear hm
 obtain ⟨c6, hm7⟩ := cs hm5; clear hm5
 refine (EV.makeSlice (enc := icell) (0 : Int) (by decide) ve22 ze3 Z Z c4 Z c6 (fun u8 hu9 => ?_))
 refine WD.b (H' := [kn M w.heap.size K0 K0, vec u8 3 1 (List.map icell (List.replicate (ln l.body).toNat (0 : Int))), blk b3 [.int .i64 p.pace, v_p_times] 91, blk b2 t.cells 28, blk b1 [v_l_logs, v_l_body, v_l_outs] 25]) (fun w hw => hw.pick [4, 0, 1, 2, 3] (by decide)) (fun w hw => hw.pick [0, 2, 3, 4] (by decide)) ?_
 refine wz 11 Z Z (QV.buildS (ps := [(0, .tmp 10), (1, .tmp 12), (2, .tmp 14), (3, .tmp 16), (5, .tmp 20)]) (cells := [v_l_logs, v_l_body, v_l_outs, .int .i64 p.pace, .int .i64 t.regs, v_p_times, .slice none 0 0, u8]) (css := [[v_l_logs, v_l_body, v_l_outs], [.int .i64 p.pace], [.int .i64 t.regs], [v_p_times], [u8]]) (EvAll.cons Z Z (EvAll.cons Z Z (EvAll.cons Z Z (EvAll.cons Z Z (EvAll.cons Z Z EvAll.nil))))) (CellsAll.cons Z (CellsAll.cons Z (CellsAll.cons Z (CellsAll.cons (SliceLen.cells h_p_times.lenMap) (CellsAll.cons (SliceLen.cells hu9) CellsAll.nil))))) (by kernel_rfl)) ?_
 refine WD.o 12 Z (by kernel_rfl) Z ?_
 refine (EV.boxAgg (by decide) Z Z (fun b11 => ?_))
 refine WD.b (H' := [kn M w.heap.size K0 K0, blk b11 [v_l_logs, v_l_body, v_l_outs, .int .i64 p.pace, .int .i64 t.regs, v_p_times, .slice none 0 0, u8] 87, vec u8 3 1 (List.map icell (List.replicate (ln l.body).toNat (0 : Int))), blk b3 [.int .i64 p.pace, v_p_times] 91, blk b2 t.cells 28, blk b1 [v_l_logs, v_l_body, v_l_outs] 25]) (fun w hw => hw.pick [5, 0, 1, 2, 3, 4] (by decide)) (fun w hw => hw.pick [0, 2, 3, 4, 5] (by decide)) ?_
 refine wz 13 Z Z (QV.assign Z Z) ?_
 refine WD.e (by kernel_rfl) ?_
 refine WQ.then (WC.seq (sr ?_))
 refine wf fd25_1 Z ?_
 refine wl pl23 Z (Own.cell 4 Z Z) ?_
 refine wq Z (QV.lenS Try.underlying23 Z Z h_l_body.lenMap) ?_
 refine wm Z ?_
 refine nt ?_
 refine WK.of (fun w hw => hw.vecNil (E := 3) (sz := 1) (enc := icell)) ?_
 obtain ⟨o13, ho14, hm15⟩ := bd_some hm7; clear hm7; obtain ⟨n16, ho17⟩ := lp_some ho14
 refine WC.bloop3 (H2 := [vec u8 3 1 (List.map icell (List.replicate (ln l.body).toNat (0 : Int))), blk b3 [.int .i64 p.pace, v_p_times] 91, blk b2 t.cells 28, blk b1 [v_l_logs, v_l_body, v_l_outs] 25, kn M w.heap.size K0 K0]) (τ := [(4, (true, _)), (5, (true, _)), (7, (true, _)), (24, (true, _)), (25, (true, _))]) (fun (v12_1 : List Int) (x26_1 : Int) (uv12_1 : Value) => [(26, (true, .int .i64 x26_1))]) (fun v12_1 x26_1 uv12_1 => [vec uv12_1 3 1 (List.map icell v12_1), blk b11 [v_l_logs, v_l_body, v_l_outs, .int .i64 p.pace, .int .i64 t.regs, v_p_times, uv12_1, u8] 87]) (fun v12_1 x26_1 uv12_1 m => iter (regs_layout_L0 l t p) m (v12_1, x26_1) = some o13 ∧ SliceLen uv12_1 v12_1.length) (fun v12_1 x26_1 uv12_1 => o13 = .go (v12_1, x26_1) ∧ SliceLen uv12_1 v12_1.length) [] 0 (.slice none 0 0) n16 ⟨ho17, SliceLen.nil⟩ ⟨Z, Z, Z, Z, Z, Z, trivial⟩ (fun w hw => hw.pick [0, 1, 2, 3, 4, 5, 6] (by decide)) ?_ ?_
 ·skip
  rintro v12_1 x26_1 uv12_1 ⟨rfl, hlv12_1⟩
  refine WQ.then (sr ?_)
  refine wm Z ?_
  refine wa Z ?_
  refine nt (WC.ret ?_)
  obtain rfl := (eq_of_some hm15).symm
  refine WK.of (C' := Own M w [kn M w.heap.size K0 K0, vec uv12_1 3 1 (List.map icell v12_1), blk b11 [v_l_logs, v_l_body, v_l_outs, .int .i64 p.pace, .int .i64 t.regs, v_p_times, uv12_1, u8] 87, vec u8 3 1 (List.map icell (List.replicate (ln l.body).toNat (0 : Int))), blk b3 [.int .i64 p.pace, v_p_times] 91, blk b2 t.cells 28, blk b1 [v_l_logs, v_l_body, v_l_outs] 25]) (fun w hw => hw.pick [6, 0, 1, 2, 3, 4, 5] (by decide)) ?_
  refine WK.freeze hk (fun k18 hle18 hr18 => ?_)
  have hA18 := vec_arr hr18
  refine WQ.ret1 Z Z (fun w hw => ?_)
  exact ⟨(b11, v_l_logs, v_l_body, v_l_outs, v_p_times, uv12_1, u8, k18), Z, hw.pick [0, 1, 2] (by decide), (h_l_logs.le hle18), (h_l_body.le hle18), (h_l_outs.le hle18), (h_p_times.le hle18), hA18, hu9⟩
 rintro v12_1 x26_1 uv12_1 m19 ⟨hI20, hlv12_1⟩
 obtain ⟨m21, s22, rfl, hm23, hn24⟩ := iter_step hI20; clear hI20; unfold regs_layout_L0 at hm23; simp only at hm23
 refine sr ?_
 refine wq Z (QV.lss Z Z Z Z) ?_
 refine nt (WC.seq ?_)
 refine WC.cond Z (fun h25 => ?_) (fun h25 => ?_)
 ·skip
  have hm26 := br_t h25 hm23; clear hm23
  refine sk (WQ.then (WC.seq (WC.block (sr ?_))))
  refine wm Z ?_
  obtain ⟨c27, hm28⟩ := cs hm26; clear hm26
  obtain ⟨p29, hp30⟩ := h_l_body.lenMap.ix (sz := 9) ln_len c27
  refine wq Z (QV.indexSlice sl23 Z Z Z Z hp30) ?_
  refine wq Z (QV.loadAgg ag81 Z Z Z (fun w hw => ((Own.karr 6 Z hk h_l_body) w hw).ele hp30 c27)) ?_
  refine WL.effect Z ?_
  refine (EV.alloc (by decide) ze81 (fun b31 => ?_))
  refine wa Z ?_
  refine WL.effect Z ?_
  refine (EV.store 0 Z Z Z Z Z Z (vs := (Stm.cells (ele l.body x26_1))) (show Value.cells _ = List.toArray _ from Z) sz81 (Nat.le_of_ble_eq_true Z) (one_cons Z (one_cons Z (one_cons Z (one_cons Z (one_cons Z (one_cons Z (one_cons Z (one_cons Z (one_cons Z one_nil))))))))) ?_)
  refine nt ?_
  refine WC.dr (m := 20) (S := Own M w [kn M w.heap.size K0 K0, blk b31 (Stm.cells (ele l.body x26_1)) 81, blk b11 [v_l_logs, v_l_body, v_l_outs, .int .i64 p.pace, .int .i64 t.regs, v_p_times, uv12_1, u8] 87, vec u8 3 1 (List.map icell (List.replicate (ln l.body).toNat (0 : Int))), blk b3 [.int .i64 p.pace, v_p_times] 91, blk b2 t.cells 28, blk b1 [v_l_logs, v_l_body, v_l_outs] 25]) (by kernel_rfl) (by kernel_rfl) (fun w hw => hw.pick [7, 0, 2, 3, 4, 5, 6] (by decide)) ?_
  refine wz 0 Z Z (QV.move Z Z) ?_
  refine wz 1 Z Z (QV.move Z Z) ?_
  refine wz 2 Z Z (QV.nilCheck Z Z) ?_
  refine wz 3 Z Z (QV.fieldAddr fd87_4 Z Z) ?_
  refine wz 4 Z Z (QV.load pl22 Z Z (Own.cell 2 Z Z)) ?_
  refine wz 5 Z Z (QV.fieldAddr fd91_1 Z Z) ?_
  refine wz 6 Z Z (QV.load pl22 Z Z (Own.cell 4 Z Z)) ?_
  refine wz 7 Z Z (QV.move Z Z) ?_
  obtain ⟨c32, hm33⟩ := cs hm28; clear hm28
  obtain ⟨p34, hp35⟩ := h_p_times.lenMap.ix (sz := 1) ln_len c32
  refine wz 8 Z Z (QV.indexSlice sl22 Z Z Z Z hp35) ?_
  refine wz 9 Z Z (QV.load pl3 Z Z (fun w hw => CellsAt.one 0 (((Own.karr 0 Z hk h_p_times) w hw).ele hp35 c32) Z)) ?_
  refine wz 10 Z Z (QV.loadAgg ag28 Z Z Z (Own.cellsBlk 5 Z)) ?_
  refine wz 11 Z Z (QV.fieldAddr fd81_0 Z Z) ?_
  refine wz 12 Z Z (QV.load pl3 Z Z (Own.cell 1 Z Z)) ?_
  obtain ⟨x36, hx37, hm38⟩ := bd_some hm33; clear hm33
  refine wz 13 Z Z (QV.call en69 (EvAll.cons Z Z (EvAll.cons Z Z EvAll.nil)) (fun w hw => have h := target_Wait_w w hx37 ; h)) ?_
  obtain ⟨c39, hm40⟩ := cs hm38; clear hm38
  refine wz 14 Z Z (QV.add Z Z Z Z c39) ?_
  refine WD.o 15 Z (by kernel_rfl) Z ?_
  refine (EV.buildSlice (by decide) sz_22 (by decide) (by decide) (ps := [(0, .tmp 45)]) (cells := [.int .i64 ((ele p.times x26_1) + x36)]) (EvAll.cons Z Z EvAll.nil) (by kernel_rfl) (fun b41 => ?_))
  refine WD.b (H' := [kn M w.heap.size K0 K0, blk b41 [.int .i64 ((ele p.times x26_1) + x36)] 3, blk b31 (Stm.cells (ele l.body x26_1)) 81, blk b11 [v_l_logs, v_l_body, v_l_outs, .int .i64 p.pace, .int .i64 t.regs, v_p_times, uv12_1, u8] 87, vec u8 3 1 (List.map icell (List.replicate (ln l.body).toNat (0 : Int))), blk b3 [.int .i64 p.pace, v_p_times] 91, blk b2 t.cells 28, blk b1 [v_l_logs, v_l_body, v_l_outs] 25]) (fun w hw => hw.pick [8, 0, 1, 3, 4, 5, 6, 7] (by decide)) (fun w hw => hw.pick [0, 2, 3, 4, 5, 6, 7] (by decide)) ?_
  refine WD.o 16 Z (by kernel_rfl) Z ?_
  obtain ⟨c42, hm43⟩ := cs hm40; clear hm40
  refine (EV.appendL (enc := icell) (xs := v12_1) (ys := [((ele p.times x26_1) + x36)]) ((v12_1 ++ [((ele p.times x26_1) + x36)])) 2 (by decide) ve22 Z Z Z Z Z (Own.blkArr 0 (rows := [((ele p.times x26_1) + x36)].map icell) Z Z (rows_len icell_len)) icell_len (icell_one _) Z c42.1 c42.2 (fun u44 hu45 => ?_))
  refine WD.b (H' := [kn M w.heap.size K0 K0, blk b41 [.int .i64 ((ele p.times x26_1) + x36)] 3, blk b31 (Stm.cells (ele l.body x26_1)) 81, vec u44 3 1 (List.map icell (v12_1 ++ [((ele p.times x26_1) + x36)])), blk b11 [v_l_logs, v_l_body, v_l_outs, .int .i64 p.pace, .int .i64 t.regs, v_p_times, uv12_1, u8] 87, vec u8 3 1 (List.map icell (List.replicate (ln l.body).toNat (0 : Int))), blk b3 [.int .i64 p.pace, v_p_times] 91, blk b2 t.cells 28, blk b1 [v_l_logs, v_l_body, v_l_outs] 25]) (fun w hw => hw.pick [8, 0, 1, 2, 3, 4, 5, 6, 7] (by decide)) (fun w hw => hw.pick [0, 1, 2, 4, 5, 6, 7, 8] (by decide)) ?_
  refine wz 17 Z Z (QV.nilCheck Z Z) ?_
  refine wz 18 Z Z (QV.fieldAddr fd87_4 Z Z) ?_
  refine WD.l 19 Z (by kernel_rfl) Z ?_
  refine (EV.store 3 Z Z Z Z Z Z (vs := [u44]) (SliceLen.cells hu45) sz22 (Nat.le_of_ble_eq_true Z) (one_cons (SliceLen.one hu45) one_nil) ?_)
  refine WQ.block (WQ.then (WC.region ?_))
  obtain ⟨c46, hm47⟩ := cs hm43; clear hm43
  refine wq Z (QV.add Z Z Z Z c46) ?_
  refine wm Z ?_
  refine WL.nil ?_
  exact WQ.again3 (v12_1 ++ [((ele p.times x26_1) + x36)]) (x26_1 + 1) u44 m21 ⟨up_next hm47 hn24, hu45⟩ (Nat.lt_succ_self _) ⟨Z, Z, Z, Z, Z, Z, trivial⟩ (fun w hw => hw.pick [2, 3, 4, 5, 6, 7, 8] (by decide))
 have hm48 := br_f h25 hm23; clear hm23
 refine WC.exit (te (te (WQ.block_exit ?_)))
 exact WQ.out3 v12_1 x26_1 uv12_1 ⟨up_brk hm48 hn24, hlv12_1⟩ ⟨Z, Z, Z, Z, Z, Z, trivial⟩ (fun w hw => hw.pick [0, 1, 2, 3, 4, 5, 6] (by decide))
theorem regs_fine_w {p_y : Addr} {v_y_Loop_Logs : Value} {v_y_Loop_Body : Value} {v_y_Loop_Outs : Value} {v_y_Time : Value} {v_y_Ready : Value} {v_y_Places : Value} {y_Loop_Logs : List Int} {y_Loop_Body : List Stm} {y_Loop_Outs : List Int} {y_Pace : Int} {y_Regs : Int} {y_Time : List Int} {y_Ready : List Int} {y_Places : List Int} {k_ : Int} {r : Bool} (w : World) (hm : regs_fine_m y_Loop_Logs y_Loop_Body y_Loop_Outs y_Pace y_Regs y_Time y_Ready y_Places k_ = some r) (h_y_Loop_Logs : Arr w v_y_Loop_Logs 1 (y_Loop_Logs.map icell)) (h_y_Loop_Body : Arr w v_y_Loop_Body 9 (y_Loop_Body.map Stm.cells)) (h_y_Loop_Outs : Arr w v_y_Loop_Outs 1 (y_Loop_Outs.map icell)) (h_y_Time : Arr w v_y_Time 1 (y_Time.map icell)) (h_y_Ready : Arr w v_y_Ready 1 (y_Ready.map icell)) (h_y_Places : Arr w v_y_Places 1 (y_Places.map icell)) (hp_y : CellsAt w p_y [v_y_Loop_Logs, v_y_Loop_Body, v_y_Loop_Outs, .int .i64 y_Pace, .int .i64 y_Regs, v_y_Time, v_y_Ready, v_y_Places] 0) : Calls Try.prog 126 #[.pointer (some p_y), .int .i64 k_] w (fun e w' => e = .returned (.bool r) ∧ Grow w w') := by
 unfold regs_fine_m at hm
 have hk := Base.rfl (w := w)
 refine calls_of_WC (n := 32) (args := [.pointer (some p_y), .int .i64 k_]) Try.func126 Z Z (Nat.le_of_ble_eq_true Z) ?_ (Own.startK hk (Own.start w))
 refine sr ?_
 refine wa Z ?_
 refine ns ?_
 refine wa Z ?_
 refine nt (WC.seq (sr ?_))
 refine wm Z ?_
 obtain ⟨c1, hm2⟩ := cs hm; clear hm
 refine wq Z (QV.add Z Z Z Z c1) ?_
 refine wm Z ?_
 refine nt ?_
 refine WK.of (fun w hw => hw.vecNil (E := 3) (sz := 1) (enc := icell)) ?_
 obtain ⟨o4, ho5, hm6⟩ := bd_some hm2; clear hm2; obtain ⟨n7, ho8⟩ := lp_some ho5
 refine WC.bloop3 (H2 := [kn noM w.heap.size w w]) (τ := [(0, (true, _)), (1, (true, _)), (8, (true, _))]) (fun (v3_1 : List Int) (x9_1 : Int) (uv3_1 : Value) => [(5, (true, uv3_1)), (9, (true, .int .i64 x9_1))]) (fun v3_1 x9_1 uv3_1 => [vec uv3_1 3 1 (List.map icell v3_1)]) (fun v3_1 x9_1 uv3_1 m => iter (regs_fine_L0 y_Loop_Body y_Loop_Outs y_Pace y_Regs y_Time y_Ready y_Places k_) m (v3_1, x9_1) = some o4 ∧ SliceLen uv3_1 v3_1.length) (fun v3_1 x9_1 uv3_1 => o4 = .go (v3_1, x9_1) ∧ SliceLen uv3_1 v3_1.length) [] 0 (.slice none 0 0) n7 ⟨ho8, SliceLen.nil⟩ ⟨Z, Z, Z, Z, Z, trivial⟩ (fun w hw => hw.pick [0, 1] (by decide)) ?_ ?_
 ·skip
  rintro v3_1 x9_1 uv3_1 ⟨rfl, hlv3_1⟩
  refine WQ.then (sr ?_)
  refine wm Z ?_
  refine wm Z ?_
  obtain ⟨x9, hx10, hm11⟩ := bd_some hm6; clear hm6
  refine wq Z (QV.call en64 (EvAll.cons Z Z (EvAll.cons Z Z EvAll.nil)) (fun w hw => have h := keep_Layout_Firsts_w w hx10 ((Own.karr 1 Z hk h_y_Loop_Logs) w hw) ((Own.karr 1 Z hk h_y_Loop_Body) w hw) ((Own.karr 1 Z hk h_y_Loop_Outs) w hw) ((Own.karr 1 Z hk h_y_Places) w hw) (Own.kcells 1 Z hk hp_y w hw) ((Own.vecArr 0 Z) w hw); h)) ?_
  refine wa Z ?_
  refine nt (WC.ret ?_)
  obtain rfl := (eq_of_some hm11).symm
  refine WQ.ret1 Z Z (fun w hw => ?_)
  exact ⟨Z, Own.kgrow (fun _ x => x) hw⟩
 rintro v3_1 x9_1 uv3_1 m12 ⟨hI13, hlv3_1⟩
 obtain ⟨m14, s15, rfl, hm16, hn17⟩ := iter_step hI13; clear hI13; unfold regs_fine_L0 at hm16; simp only at hm16
 refine sr ?_
 refine wq Z (QV.lss Z Z Z Z) ?_
 refine nt (WC.seq ?_)
 refine WC.cond Z (fun h18 => ?_) (fun h18 => ?_)
 ·skip
  have hm19 := br_t h18 hm16; clear hm16
  refine sk (WQ.then (WC.seq (WC.block (sr ?_))))
  refine wm Z ?_
  refine wa Z ?_
  refine ns ?_
  refine wm Z ?_
  refine wm Z ?_
  refine WL.effect Z ?_
  refine (EV.buildSlice (by decide) sz_22 (by decide) (by decide) (ps := [(0, .tmp 13)]) (cells := [.int .i64 x9_1]) (EvAll.cons Z Z EvAll.nil) (by kernel_rfl) (fun b20 => ?_))
  refine WL.effect Z ?_
  obtain ⟨c21, hm22⟩ := cs hm19; clear hm19
  refine (EV.appendL (enc := icell) (xs := v3_1) (ys := [x9_1]) ((v3_1 ++ [x9_1])) 1 (by decide) ve22 Z Z Z Z Z (Own.blkArr 0 (rows := [x9_1].map icell) Z Z (rows_len icell_len)) icell_len (icell_one _) Z c21.1 c21.2 (fun u23 hu24 => ?_))
  refine wa Z ?_
  refine ns ?_
  refine wm Z ?_
  refine wm Z ?_
  refine wm Z ?_
  obtain ⟨x25, hx26, hm27⟩ := bd_some hm22; clear hm22
  refine wq Z (QV.call en63 (EvAll.cons Z Z (EvAll.cons Z Z (EvAll.cons Z Z EvAll.nil))) (fun w hw => have h := keep_Layout_Apart_w w hx26 ((Own.karr 2 Z hk h_y_Loop_Body) w hw) ((Own.karr 2 Z hk h_y_Loop_Outs) w hw) ((Own.karr 2 Z hk h_y_Time) w hw) ((Own.karr 2 Z hk h_y_Ready) w hw) ((Own.karr 2 Z hk h_y_Places) w hw) (Own.kcells 2 Z hk hp_y w hw); h)) ?_
  refine wq Z (QV.not Z Z) ?_
  refine wm Z ?_
  refine gn Z (fun hG => QV.move Z Z) ?_
  refine gn Z (fun hG => QV.move Z Z) ?_
  refine gn Z (fun hG => QV.move Z Z) ?_
  obtain ⟨x28, hx29, hm30⟩ := bdG_some hm27; clear hm27
  refine gn Z (fun hG => QV.call en63 (EvAll.cons Z hG (EvAll.cons Z hG (EvAll.cons Z hG EvAll.nil))) (fun w hw => have h := keep_Layout_Apart_w w (hx29 hG) ((Own.karr 2 Z hk h_y_Loop_Body) w hw) ((Own.karr 2 Z hk h_y_Loop_Outs) w hw) ((Own.karr 2 Z hk h_y_Time) w hw) ((Own.karr 2 Z hk h_y_Ready) w hw) ((Own.karr 2 Z hk h_y_Places) w hw) (Own.kcells 2 Z hk hp_y w hw); h)) ?_
  refine gn Z (fun hG => QV.not Z hG) ?_
  refine wq Z (QV.pickOr Z Z Z (fun h => notF h)) ?_
  refine nt ?_
  refine WC.cond Z (fun h31 => ?_) (fun h31 => ?_)
  ·skip
   have hm32 := br_t h31 hm30; clear hm30
   refine sr ?_
   refine wa Z ?_
   refine nt (WC.ret (kr (tr (tr (kr (tr (tr ?_)))))))
   obtain rfl := up_ret hm32 hn17
   obtain rfl := (eq_of_some hm6).symm
   refine WQ.ret1 Z Z (fun w hw => ?_)
   exact ⟨Z, Own.kgrow (fun _ x => x) hw⟩
  have hm33 := br_f h31 hm30; clear hm30
  refine sk (WQ.block (WQ.then (WC.region ?_)))
  obtain ⟨c34, hm35⟩ := cs hm33; clear hm33
  refine wq Z (QV.add Z Z Z Z c34) ?_
  refine wm Z ?_
  refine WL.nil ?_
  exact WQ.again3 (v3_1 ++ [x9_1]) (x9_1 + 1) u23 m14 ⟨up_next hm35 hn17, hu24⟩ (Nat.lt_succ_self _) ⟨Z, Z, Z, Z, Z, trivial⟩ (fun w hw => hw.pick [1, 2] (by decide))
 have hm36 := br_f h18 hm16; clear hm16
 refine WC.exit (te (te (WQ.block_exit ?_)))
 exact WQ.out3 v3_1 x9_1 uv3_1 ⟨up_brk hm36 hn17, hlv3_1⟩ ⟨Z, Z, Z, Z, Z, trivial⟩ (fun w hw => hw.pick [0, 1] (by decide))
theorem regs_dests_w {p_y : Addr} {v_y_Loop_Logs : Value} {v_y_Loop_Body : Value} {v_y_Loop_Outs : Value} {v_y_Time : Value} {v_y_Ready : Value} {v_y_Places : Value} {y_Pace : Int} {y_Regs : Int} {y_Time : List Int} {y_Places : List Int} {r : List Int} {K0 : World} (hm : regs_dests_m y_Pace y_Regs y_Time y_Places = some r) (h_y_Time : Arr K0 v_y_Time 1 (y_Time.map icell)) (h_y_Places : Arr K0 v_y_Places 1 (y_Places.map icell)) (hp_y : CellsAt K0 p_y [v_y_Loop_Logs, v_y_Loop_Body, v_y_Loop_Outs, .int .i64 y_Pace, .int .i64 y_Regs, v_y_Time, v_y_Ready, v_y_Places] 0) (M : Nat → Prop) (w : World) (hk : Base M K0 w) (hw0 : Own M w [] w) : Calls Try.prog 111 #[.pointer (some p_y)] w (fun e w' => ∃ X : Value × World, e = .returned (X.1) ∧ Own M w (kn M w.heap.size K0 X.2 :: []) w' ∧ Arr X.2 X.1 1 (r.map icell)) := by
 unfold regs_dests_m at hm
 refine calls_of_WC (n := 40) (args := [.pointer (some p_y)]) Try.func111 Z Z (Nat.le_of_ble_eq_true Z) ?_ (Own.startK hk hw0)
 refine sr ?_
 refine wa Z ?_
 refine ns ?_
 refine wa Z ?_
 refine nt (WC.seq (sr ?_))
 refine wm Z ?_
 refine wq Z (QV.nilCheck Z Z) ?_
 refine wf fd87_5 Z ?_
 refine wl pl22 Z (fun w hw => CellsAt.one 7 ((Own.kcells 0 Z hk hp_y) w hw) Z) ?_
 refine wq Z (QV.lenS Try.underlying22 Z Z h_y_Places.lenMap) ?_
 refine wm Z ?_
 refine nt ?_
 refine WK.of (fun w hw => hw.vecNil (E := 3) (sz := 1) (enc := icell)) ?_
 obtain ⟨o2, ho3, hm4⟩ := bd_some hm; clear hm; obtain ⟨n5, ho6⟩ := lp_some ho3
 refine WC.bloop3 (H2 := [kn M w.heap.size K0 K0]) (τ := [(0, (true, _)), (9, (true, _)), (10, (true, _))]) (fun (v1_1 : List Int) (x11_1 : Int) (uv1_1 : Value) => [(3, (true, uv1_1)), (11, (true, .int .i64 x11_1))]) (fun v1_1 x11_1 uv1_1 => [vec uv1_1 3 1 (List.map icell v1_1)]) (fun v1_1 x11_1 uv1_1 m => iter (regs_dests_L0 y_Pace y_Regs y_Time y_Places) m (v1_1, x11_1) = some o2 ∧ SliceLen uv1_1 v1_1.length) (fun v1_1 x11_1 uv1_1 => o2 = .go (v1_1, x11_1) ∧ SliceLen uv1_1 v1_1.length) [] 0 (.slice none 0 0) n5 ⟨ho6, SliceLen.nil⟩ ⟨Z, Z, Z, Z, Z, trivial⟩ (fun w hw => hw.pick [0, 1] (by decide)) ?_ ?_
 ·skip
  rintro v1_1 x11_1 uv1_1 ⟨rfl, hlv1_1⟩
  refine WQ.then (sr ?_)
  refine wm Z ?_
  refine wa Z ?_
  refine nt (WC.ret ?_)
  obtain rfl := (eq_of_some hm4).symm
  refine WK.of (C' := Own M w [kn M w.heap.size K0 K0, vec uv1_1 3 1 (List.map icell v1_1)]) (fun w hw => hw.pick [1, 0] (by decide)) ?_
  refine WK.freeze hk (fun k7 hle7 hr7 => ?_)
  have hA7 := vec_arr hr7
  refine WQ.ret1 Z Z (fun w hw => ?_)
  exact ⟨(uv1_1, k7), Z, hw.pick [0] (by decide), hA7⟩
 rintro v1_1 x11_1 uv1_1 m8 ⟨hI9, hlv1_1⟩
 obtain ⟨m10, s11, rfl, hm12, hn13⟩ := iter_step hI9; clear hI9; unfold regs_dests_L0 at hm12; simp only at hm12
 refine sr ?_
 refine wq Z (QV.lss Z Z Z Z) ?_
 refine nt (WC.seq ?_)
 refine WC.cond Z (fun h14 => ?_) (fun h14 => ?_)
 ·skip
  have hm15 := br_t h14 hm12; clear hm12
  refine sk (WQ.then (WC.seq (WC.block (sr ?_))))
  refine wm Z ?_
  obtain ⟨c16, hm17⟩ := cs hm15; clear hm15
  obtain ⟨p18, hp19⟩ := h_y_Places.lenMap.ix (sz := 1) ln_len c16
  refine wq Z (QV.indexSlice sl22 Z Z Z Z hp19) ?_
  refine wl pl3 Z (fun w hw => CellsAt.one 0 (((Own.karr 1 Z hk h_y_Places) w hw).ele hp19 c16) Z) ?_
  refine wa Z ?_
  refine wa Z ?_
  refine nt ?_
  refine WC.dr (m := 23) (S := Own M w [kn M w.heap.size K0 K0]) (by kernel_rfl) (by kernel_rfl) (fun w hw => hw.pick [1] (by decide)) ?_
  refine wz 0 Z Z (QV.move Z Z) ?_
  refine wz 1 Z Z (QV.move Z Z) ?_
  refine wz 2 Z Z (QV.move Z Z) ?_
  refine wz 3 Z Z (QV.nilCheck Z Z) ?_
  refine wz 4 Z Z (QV.fieldAddr fd87_3 Z Z) ?_
  refine wz 5 Z Z (QV.load pl22 Z Z (fun w hw => CellsAt.one 5 ((Own.kcells 0 Z hk hp_y) w hw) Z)) ?_
  refine wz 6 Z Z (QV.move Z Z) ?_
  obtain ⟨c20, hm21⟩ := cs hm17; clear hm17
  obtain ⟨p22, hp23⟩ := h_y_Time.lenMap.ix (sz := 1) ln_len c20
  refine wz 7 Z Z (QV.indexSlice sl22 Z Z Z Z hp23) ?_
  refine wz 8 Z Z (QV.load pl3 Z Z (fun w hw => CellsAt.one 0 (((Own.karr 0 Z hk h_y_Time) w hw).ele hp23 c20) Z)) ?_
  refine wz 9 Z Z (QV.move Z Z) ?_
  refine wz 10 Z Z (QV.nilCheck Z Z) ?_
  refine wz 11 Z Z (QV.fieldAddr fd87_1 Z Z) ?_
  refine wz 12 Z Z (QV.load pl3 Z Z (fun w hw => CellsAt.one 3 ((Own.kcells 0 Z hk hp_y) w hw) Z)) ?_
  obtain ⟨c24, hm25⟩ := cs hm21; clear hm21
  obtain ⟨c26, hm27⟩ := cs hm25; clear hm25
  refine wz 13 Z Z (QV.quo Z Z Z Z c24 c26) ?_
  obtain ⟨c28, hm29⟩ := cs hm27; clear hm27
  refine wz 14 Z Z (QV.sub Z Z Z Z c28) ?_
  refine wz 15 Z Z (QV.move Z Z) ?_
  refine wz 16 Z Z (QV.nilCheck Z Z) ?_
  refine wz 17 Z Z (QV.fieldAddr fd87_2 Z Z) ?_
  refine wz 18 Z Z (QV.load pl3 Z Z (fun w hw => CellsAt.one 4 ((Own.kcells 0 Z hk hp_y) w hw) Z)) ?_
  obtain ⟨x30, hx31, hm32⟩ := bd_some hm29; clear hm29
  refine wz 19 Z Z (QV.call en37 (EvAll.cons Z Z (EvAll.cons Z Z EvAll.nil)) (fun w hw => have h := emit_Rest_w w hx31 ; h)) ?_
  refine WD.o 20 Z (by kernel_rfl) Z ?_
  refine (EV.buildSlice (by decide) sz_22 (by decide) (by decide) (ps := [(0, .tmp 35)]) (cells := [.int .i64 x30]) (EvAll.cons Z Z EvAll.nil) (by kernel_rfl) (fun b33 => ?_))
  refine WD.b (H' := [kn M w.heap.size K0 K0, blk b33 [.int .i64 x30] 3]) (fun w hw => hw.pick [2, 0] (by decide)) (fun w hw => hw.pick [0] (by decide)) ?_
  refine WD.o 21 Z (by kernel_rfl) Z ?_
  obtain ⟨c34, hm35⟩ := cs hm32; clear hm32
  refine (EV.appendL (enc := icell) (xs := v1_1) (ys := [x30]) ((v1_1 ++ [x30])) 1 (by decide) ve22 Z Z Z Z Z (Own.blkArr 0 (rows := [x30].map icell) Z Z (rows_len icell_len)) icell_len (icell_one _) Z c34.1 c34.2 (fun u36 hu37 => ?_))
  refine WD.b (H' := [kn M w.heap.size K0 K0, blk b33 [.int .i64 x30] 3, vec u36 3 1 (List.map icell (v1_1 ++ [x30]))]) (fun w hw => hw.pick [2, 0, 1] (by decide)) (fun w hw => hw.pick [0, 1] (by decide)) ?_
  refine wz 22 Z Z (QV.assign Z Z) ?_
  refine WD.e (by kernel_rfl) ?_
  refine WQ.block (WQ.then (WC.region ?_))
  obtain ⟨c38, hm39⟩ := cs hm35; clear hm35
  refine wq Z (QV.add Z Z Z Z c38) ?_
  refine wm Z ?_
  refine WL.nil ?_
  exact WQ.again3 (v1_1 ++ [x30]) (x11_1 + 1) u36 m10 ⟨up_next hm39 hn13, hu37⟩ (Nat.lt_succ_self _) ⟨Z, Z, Z, Z, Z, trivial⟩ (fun w hw => hw.pick [1, 2] (by decide))
 have hm40 := br_f h14 hm12; clear hm12
 refine WC.exit (te (te (WQ.block_exit ?_)))
 exact WQ.out3 v1_1 x11_1 uv1_1 ⟨up_brk hm40 hn13, hlv1_1⟩ ⟨Z, Z, Z, Z, Z, trivial⟩ (fun w hw => hw.pick [0, 1] (by decide))
theorem regs_first_w {v_y_Loop_Logs : Value} {v_y_Loop_Body : Value} {v_y_Loop_Outs : Value} {v_y_Time : Value} {v_y_Ready : Value} {v_y_Places : Value} {b_y : Nat} {y_Loop_Logs : List Int} {y_Loop_Body : List Stm} {y_Loop_Outs : List Int} {y_Pace : Int} {y_Regs : Int} {y_Time : List Int} {y_Ready : List Int} {y_Places : List Int} {r : Bool × List Int} {K0 : World} (hm : regs_first_m y_Loop_Logs y_Loop_Body y_Loop_Outs y_Pace y_Regs y_Time y_Ready y_Places = some r) (h_y_Loop_Logs : Arr K0 v_y_Loop_Logs 1 (y_Loop_Logs.map icell)) (h_y_Loop_Body : Arr K0 v_y_Loop_Body 9 (y_Loop_Body.map Stm.cells)) (h_y_Loop_Outs : Arr K0 v_y_Loop_Outs 1 (y_Loop_Outs.map icell)) (h_y_Time : Arr K0 v_y_Time 1 (y_Time.map icell)) (h_y_Ready : Arr K0 v_y_Ready 1 (y_Ready.map icell)) (h_y_Places : SliceLen v_y_Places y_Places.length) (M : Nat → Prop) (w : World) (hk : Base M K0 w) (hw0 : Own M w [blk b_y [v_y_Loop_Logs, v_y_Loop_Body, v_y_Loop_Outs, .int .i64 y_Pace, .int .i64 y_Regs, v_y_Time, v_y_Ready, v_y_Places] 87, vec v_y_Places 3 1 (List.map icell y_Places)] w) : Calls Try.prog 109 #[.pointer (some (⟨b_y, 0, none⟩))] w (fun e w' => ∃ X : Value × World, e = .returned (.bool r.1) ∧ Own M w (kn M w.heap.size K0 X.2 :: [blk b_y [v_y_Loop_Logs, v_y_Loop_Body, v_y_Loop_Outs, .int .i64 y_Pace, .int .i64 y_Regs, v_y_Time, v_y_Ready, X.1] 87, vec X.1 3 1 (List.map icell r.2)]) w' ∧ SliceLen X.1 (r.2).length) := by
 unfold regs_first_m at hm
 refine calls_of_WC (n := 46) (args := [.pointer (some (⟨b_y, 0, none⟩))]) Try.func109 Z Z (Nat.le_of_ble_eq_true Z) ?_ (Own.startK hk hw0)
 refine sr ?_
 refine wa Z ?_
 refine nt (WC.seq (sr ?_))
 refine wm Z ?_
 refine wq Z (QV.nilCheck Z Z) ?_
 refine wf fd87_0 Z ?_
 refine wf fd25_1 Z ?_
 refine wl pl23 Z (Own.cell 1 Z Z) ?_
 refine wq Z (QV.lenS Try.underlying23 Z Z h_y_Loop_Body.lenMap) ?_
 refine wm Z ?_
 refine nt ?_
 obtain ⟨o1, ho2, hm3⟩ := bd_some hm; clear hm; obtain ⟨n4, ho5⟩ := lp_some ho2
 refine WC.bloop2 (H2 := [kn M w.heap.size K0 K0, blk b_y [v_y_Loop_Logs, v_y_Loop_Body, v_y_Loop_Outs, .int .i64 y_Pace, .int .i64 y_Regs, v_y_Time, v_y_Ready, v_y_Places] 87]) (τ := [(0, (true, _)), (9, (true, _))]) (fun (own0v7_3 : List Int) (x10_3 : Int) => [(10, (true, .int .i64 x10_3))]) (fun own0v7_3 x10_3 => [vec v_y_Places 3 1 (List.map icell own0v7_3)]) (fun own0v7_3 x10_3 m => iter (regs_first_L0 y_Loop_Logs y_Loop_Body y_Loop_Outs y_Pace y_Regs y_Time y_Ready) m (own0v7_3, x10_3) = some o1 ∧ SliceLen v_y_Places own0v7_3.length) (fun own0v7_3 x10_3 => o1 = .go (own0v7_3, x10_3) ∧ SliceLen v_y_Places own0v7_3.length) y_Places 0 n4 ⟨ho5, h_y_Places⟩ ⟨Z, Z, Z, trivial⟩ (fun w hw => hw.pick [2, 0, 1] (by decide)) ?_ ?_
 ·skip
  rintro own0v7_3 x10_3 ⟨rfl, hlown0v7_3⟩
  refine WQ.then (sr ?_)
  refine wa Z ?_
  refine nt (WC.ret ?_)
  obtain rfl := (eq_of_some hm3).symm
  refine WQ.ret1 Z Z (fun w hw => ?_)
  exact ⟨(v_y_Places, K0), Z, hw.pick [1, 2, 0] (by decide), hlown0v7_3⟩
 rintro own0v7_3 x10_3 m6 ⟨hI7, hlown0v7_3⟩
 obtain ⟨m8, s9, rfl, hm10, hn11⟩ := iter_step hI7; clear hI7; unfold regs_first_L0 at hm10; simp only at hm10
 refine sr ?_
 refine wq Z (QV.lss Z Z Z Z) ?_
 refine nt (WC.seq ?_)
 refine WC.cond Z (fun h12 => ?_) (fun h12 => ?_)
 ·skip
  have hm13 := br_t h12 hm10; clear hm10
  refine sk (WQ.then (WC.seq (WC.block (sr ?_))))
  refine wm Z ?_
  refine wa Z ?_
  refine ns ?_
  refine wm Z ?_
  refine wq Z (QV.nilCheck Z Z) ?_
  refine wf fd87_5 Z ?_
  refine wl pl22 Z (Own.cell 2 Z Z) ?_
  refine wm Z ?_
  obtain ⟨c14, hm15⟩ := cs hm13; clear hm13
  obtain ⟨p16, hp17⟩ := hlown0v7_3.ix (sz := 1) ln_len c14
  refine wq Z (QV.indexSlice sl22 Z Z Z Z hp17) ?_
  refine WL.effect Z ?_
  refine (EV.storeV 0 0 icell_eq Z Z Z Z Z hp17 Z Z sz3 ?_)
  have hl18 : SliceLen v_y_Places (upd own0v7_3 x10_3 0).length := slen_upd hlown0v7_3
  refine nt ?_
  obtain ⟨o19, ho20, hm21⟩ := bd_some hm15; clear hm15; obtain ⟨n22, ho23⟩ := lp_some ho20
  refine WC.bloop1 (H2 := [kn M w.heap.size K0 K0, blk b_y [v_y_Loop_Logs, v_y_Loop_Body, v_y_Loop_Outs, .int .i64 y_Pace, .int .i64 y_Regs, v_y_Time, v_y_Ready, v_y_Places] 87]) (τ := [(0, (true, _)), (3, (true, _)), (9, (true, _)), (10, (true, _))]) (fun (own0v7_4 : List Int) => []) (fun own0v7_4 => [vec v_y_Places 3 1 (List.map icell own0v7_4)]) (fun own0v7_4 m => iter (regs_first_L2 y_Loop_Logs y_Loop_Body y_Loop_Outs y_Pace y_Regs y_Time y_Ready x10_3) m own0v7_4 = some o19 ∧ SliceLen v_y_Places own0v7_4.length) (fun own0v7_4 => o19 = .go own0v7_4 ∧ SliceLen v_y_Places own0v7_4.length) (upd own0v7_3 x10_3 0) n22 ⟨ho23, hl18⟩ ⟨Z, Z, Z, Z, trivial⟩ (fun w hw => hw.pick [0, 1, 2] (by decide)) ?_ ?_
  ·skip
   rintro own0v7_4 ⟨rfl, hlown0v7_4⟩
   refine WQ.block (WQ.then (WC.region ?_))
   obtain ⟨c24, hm25⟩ := cs hm21; clear hm21
   refine wq Z (QV.add Z Z Z Z c24) ?_
   refine wm Z ?_
   refine WL.nil ?_
   exact WQ.again2 own0v7_4 (x10_3 + 1) m8 ⟨up_next hm25 hn11, hlown0v7_4⟩ (Nat.lt_succ_self _) ⟨Z, Z, Z, trivial⟩ (fun w hw => hw.pick [0, 1, 2] (by decide))
  rintro own0v7_4 m26 ⟨hI27, hlown0v7_4⟩
  obtain ⟨m28, s29, rfl, hm30, hn31⟩ := iter_step hI27; clear hI27; unfold regs_first_L2 at hm30
  refine WC.seq (sr ?_)
  refine wm Z ?_
  refine wm Z ?_
  obtain ⟨x32, hx33, hm34⟩ := bd_some hm30; clear hm30
  refine wq Z (QV.call en126 (EvAll.cons Z Z (EvAll.cons Z Z EvAll.nil)) (fun w hw => have h := regs_fine_w w hx33 ((Own.karr 1 Z hk h_y_Loop_Logs) w hw) ((Own.karr 1 Z hk h_y_Loop_Body) w hw) ((Own.karr 1 Z hk h_y_Loop_Outs) w hw) ((Own.karr 1 Z hk h_y_Time) w hw) ((Own.karr 1 Z hk h_y_Ready) w hw) ((Own.vecArr 0 Z) w hw) (Own.cellsBlk 2 Z w hw); h)) ?_
  refine wq Z (QV.not Z Z) ?_
  refine nt ?_
  refine WC.cond Z (fun h35 => ?_) (fun h35 => ?_)
  ·skip
   have hm36 := br_t h35 hm34; clear hm34
   refine sk (WQ.then (WC.seq (WC.block (WC.seq ?_))))
   refine WC.dr (m := 13) (S := Own M w [kn M w.heap.size K0 K0, vec v_y_Places 3 1 (List.map icell own0v7_4), blk b_y [v_y_Loop_Logs, v_y_Loop_Body, v_y_Loop_Outs, .int .i64 y_Pace, .int .i64 y_Regs, v_y_Time, v_y_Ready, v_y_Places] 87]) (by kernel_rfl) (by kernel_rfl) (fun w hw => hw.pick [1, 0, 2] (by decide)) ?_
   refine wz 0 Z Z (QV.move Z Z) ?_
   refine wz 1 Z Z (QV.nilCheck Z Z) ?_
   refine wz 2 Z Z (QV.fieldAddr fd87_5 Z Z) ?_
   refine wz 3 Z Z (QV.load pl22 Z Z (Own.cell 2 Z Z)) ?_
   refine wz 4 Z Z (QV.move Z Z) ?_
   obtain ⟨c37, hm38⟩ := cs hm36; clear hm36
   obtain ⟨p39, hp40⟩ := hlown0v7_4.ix (sz := 1) ln_len c37
   refine wz 5 Z Z (QV.indexSlice sl22 Z Z Z Z hp40) ?_
   refine wz 6 Z Z (QV.load pl3 Z Z (fun w hw => CellsAt.one 0 (((Own.vecArr 1 Z) w hw).ele hp40 c37) Z)) ?_
   obtain ⟨c41, hm42⟩ := cs hm38; clear hm38
   refine wz 7 Z Z (QV.add Z Z Z Z c41) ?_
   refine wz 8 Z Z (QV.move Z Z) ?_
   refine wz 9 Z Z (QV.nilCheck Z Z) ?_
   refine wz 10 Z Z (QV.fieldAddr fd87_2 Z Z) ?_
   refine wz 11 Z Z (QV.load pl3 Z Z (Own.cell 2 Z Z)) ?_
   refine wz 12 Z Z (QV.geq Z Z Z Z) ?_
   refine WD.e (by kernel_rfl) ?_
   refine WQ.then ?_
   refine WC.cond Z (fun h43 => ?_) (fun h43 => ?_)
   ·skip
    have hm44 := br_t h43 hm42; clear hm42
    refine sr ?_
    refine wa Z ?_
    refine nt (WC.ret (kr (tr (tr (kr (tr (kr (tr (tr (kr (tr (tr ?_))))))))))))
    obtain rfl := up_ret hm44 hn31
    obtain rfl := up_ret hm21 hn11
    obtain rfl := (eq_of_some hm3).symm
    refine WQ.ret1 Z Z (fun w hw => ?_)
    exact ⟨(v_y_Places, K0), Z, hw.pick [1, 2, 0] (by decide), hlown0v7_4⟩
   have hm45 := br_f h43 hm42; clear hm42
   refine sk (WQ.block (WQ.then (WC.region ?_)))
   refine wm Z ?_
   refine wq Z (QV.nilCheck Z Z) ?_
   refine wf fd87_5 Z ?_
   refine wl pl22 Z (Own.cell 2 Z Z) ?_
   refine wm Z ?_
   obtain ⟨c46, hm47⟩ := cs hm45; clear hm45
   obtain ⟨p48, hp49⟩ := hlown0v7_4.ix (sz := 1) ln_len c46
   refine wq Z (QV.indexSlice sl22 Z Z Z Z hp49) ?_
   refine wl pl3 Z (fun w hw => CellsAt.one 0 (((Own.vecArr 0 Z) w hw).ele hp49 c46) Z) ?_
   obtain ⟨c50, hm51⟩ := cs hm47; clear hm47
   refine wq Z (QV.add Z Z Z Z c50) ?_
   obtain ⟨c52, hm53⟩ := cs hm51; clear hm51
   obtain ⟨p54, hp55⟩ := hlown0v7_4.ix (sz := 1) ln_len c52
   refine wq Z (QV.indexSlice sl22 Z Z Z Z hp55) ?_
   refine WL.effect Z ?_
   refine (EV.storeV 0 ((ele own0v7_4 x10_3) + 1) icell_eq Z Z Z Z Z hp55 Z Z sz3 ?_)
   have hl56 : SliceLen v_y_Places (upd own0v7_4 x10_3 ((ele own0v7_4 x10_3) + 1)).length := slen_upd hlown0v7_4
   refine WL.nil ?_
   exact WQ.again1 (upd own0v7_4 x10_3 ((ele own0v7_4 x10_3) + 1)) m28 ⟨up_next hm53 hn31, hl56⟩ (Nat.lt_succ_self _) ⟨Z, Z, Z, Z, trivial⟩ (fun w hw => hw.pick [0, 1, 2] (by decide))
  have hm57 := br_f h35 hm34; clear hm34
  refine WC.exit (te (te (WQ.block_exit ?_)))
  exact WQ.out1 own0v7_4 ⟨up_brk hm57 hn31, hlown0v7_4⟩ ⟨Z, Z, Z, Z, trivial⟩ (fun w hw => hw.pick [0, 1, 2] (by decide))
 have hm58 := br_f h12 hm10; clear hm10
 refine WC.exit (te (te (WQ.block_exit ?_)))
 exact WQ.out2 own0v7_3 x10_3 ⟨up_brk hm58 hn11, hlown0v7_3⟩ ⟨Z, Z, Z, trivial⟩ (fun w hw => hw.pick [0, 1, 2] (by decide))
theorem regs_spaced_w {v_y_Loop_Logs : Value} {v_y_Loop_Body : Value} {v_y_Loop_Outs : Value} {v_y_Time : Value} {v_y_Ready : Value} {v_y_Places : Value} {b_y : Nat} {y_Loop_Logs : List Int} {y_Loop_Body : List Stm} {y_Loop_Outs : List Int} {y_Pace : Int} {y_Regs : Int} {y_Time : List Int} {y_Ready : List Int} {y_Places : List Int} {r : Bool × List Int} {K0 : World} (hm : regs_spaced_m y_Loop_Logs y_Loop_Body y_Loop_Outs y_Pace y_Regs y_Time y_Ready y_Places = some r) (h_y_Loop_Logs : Arr K0 v_y_Loop_Logs 1 (y_Loop_Logs.map icell)) (h_y_Loop_Body : Arr K0 v_y_Loop_Body 9 (y_Loop_Body.map Stm.cells)) (h_y_Loop_Outs : Arr K0 v_y_Loop_Outs 1 (y_Loop_Outs.map icell)) (h_y_Time : Arr K0 v_y_Time 1 (y_Time.map icell)) (h_y_Ready : Arr K0 v_y_Ready 1 (y_Ready.map icell)) (h_y_Places : SliceLen v_y_Places y_Places.length) (M : Nat → Prop) (w : World) (hk : Base M K0 w) (hw0 : Own M w [blk b_y [v_y_Loop_Logs, v_y_Loop_Body, v_y_Loop_Outs, .int .i64 y_Pace, .int .i64 y_Regs, v_y_Time, v_y_Ready, v_y_Places] 87, vec v_y_Places 3 1 (List.map icell y_Places)] w) : Calls Try.prog 110 #[.pointer (some (⟨b_y, 0, none⟩))] w (fun e w' => ∃ X : Value × World, e = .returned (.bool r.1) ∧ Own M w (kn M w.heap.size K0 X.2 :: [blk b_y [v_y_Loop_Logs, v_y_Loop_Body, v_y_Loop_Outs, .int .i64 y_Pace, .int .i64 y_Regs, v_y_Time, v_y_Ready, X.1] 87, vec X.1 3 1 (List.map icell r.2)]) w' ∧ SliceLen X.1 (r.2).length) := by
 unfold regs_spaced_m at hm
 refine calls_of_WC (n := 37) (args := [.pointer (some (⟨b_y, 0, none⟩))]) Try.func110 Z Z (Nat.le_of_ble_eq_true Z) ?_ (Own.startK hk hw0)
 refine sr ?_
 refine wa Z ?_
 refine nt (WC.seq (sr ?_))
 refine wm Z ?_
 refine wq Z (QV.nilCheck Z Z) ?_
 refine wf fd87_0 Z ?_
 refine wf fd25_1 Z ?_
 refine wl pl23 Z (Own.cell 1 Z Z) ?_
 refine wq Z (QV.lenS Try.underlying23 Z Z h_y_Loop_Body.lenMap) ?_
 refine wm Z ?_
 refine nt ?_
 obtain ⟨o1, ho2, hm3⟩ := bd_some hm; clear hm; obtain ⟨n4, ho5⟩ := lp_some ho2
 refine WC.bloop2 (H2 := [kn M w.heap.size K0 K0, blk b_y [v_y_Loop_Logs, v_y_Loop_Body, v_y_Loop_Outs, .int .i64 y_Pace, .int .i64 y_Regs, v_y_Time, v_y_Ready, v_y_Places] 87]) (τ := [(0, (true, _)), (10, (true, _))]) (fun (own0v7_1 : List Int) (x11_1 : Int) => [(11, (true, .int .i64 x11_1))]) (fun own0v7_1 x11_1 => [vec v_y_Places 3 1 (List.map icell own0v7_1)]) (fun own0v7_1 x11_1 m => iter (regs_spaced_L0 y_Loop_Body) m (own0v7_1, x11_1) = some o1 ∧ SliceLen v_y_Places own0v7_1.length) (fun own0v7_1 x11_1 => o1 = .go (own0v7_1, x11_1) ∧ SliceLen v_y_Places own0v7_1.length) y_Places 0 n4 ⟨ho5, h_y_Places⟩ ⟨Z, Z, Z, trivial⟩ (fun w hw => hw.pick [2, 0, 1] (by decide)) ?_ ?_
 ·skip
  rintro own0v7_1 x11_1 ⟨rfl, hlown0v7_1⟩
  refine WQ.then (WC.seq (sr ?_))
  refine wm Z ?_
  refine wq Z (QV.nilCheck Z Z) ?_
  refine wf fd87_0 Z ?_
  refine wf fd25_1 Z ?_
  refine wl pl23 Z (Own.cell 2 Z Z) ?_
  refine wq Z (QV.lenS Try.underlying23 Z Z h_y_Loop_Body.lenMap) ?_
  refine wm Z ?_
  refine nt ?_
  obtain ⟨o6, ho7, hm8⟩ := bd_some hm3; clear hm3; obtain ⟨n9, ho10⟩ := lp_some ho7
  refine WC.bloop1 (H2 := [vec v_y_Places 3 1 (List.map icell own0v7_1), kn M w.heap.size K0 K0, blk b_y [v_y_Loop_Logs, v_y_Loop_Body, v_y_Loop_Outs, .int .i64 y_Pace, .int .i64 y_Regs, v_y_Time, v_y_Ready, v_y_Places] 87]) (τ := [(0, (true, _)), (28, (true, _))]) (fun (x29_2 : Int) => [(29, (true, .int .i64 x29_2))]) (fun x29_2 => []) (fun x29_2 m => iter (regs_spaced_L2 y_Loop_Logs y_Loop_Body y_Loop_Outs y_Pace y_Regs y_Time y_Ready own0v7_1) m x29_2 = some o6) (fun x29_2 => o6 = .go x29_2) 0 n9 ho10 ⟨Z, Z, Z, trivial⟩ (fun w hw => hw.pick [0, 1, 2] (by decide)) ?_ ?_
  ·skip
   rintro x29_2 rfl
   refine WQ.then (sr ?_)
   refine wa Z ?_
   refine nt (WC.ret ?_)
   obtain rfl := (eq_of_some hm8).symm
   refine WQ.ret1 Z Z (fun w hw => ?_)
   exact ⟨(v_y_Places, K0), Z, hw.pick [1, 2, 0] (by decide), hlown0v7_1⟩
  rintro x29_2 m11 hI12
  obtain ⟨m13, s14, rfl, hm15, hn16⟩ := iter_step hI12; clear hI12; unfold regs_spaced_L2 at hm15
  refine sr ?_
  refine wq Z (QV.lss Z Z Z Z) ?_
  refine nt (WC.seq ?_)
  refine WC.cond Z (fun h17 => ?_) (fun h17 => ?_)
  ·skip
   have hm18 := br_t h17 hm15; clear hm15
   refine sk (WQ.then (WC.seq (WC.block (sr ?_))))
   refine wm Z ?_
   refine wa Z ?_
   refine ns ?_
   refine wm Z ?_
   refine wm Z ?_
   obtain ⟨x19, hx20, hm21⟩ := bd_some hm18; clear hm18
   refine wq Z (QV.call en126 (EvAll.cons Z Z (EvAll.cons Z Z EvAll.nil)) (fun w hw => have h := regs_fine_w w hx20 ((Own.karr 1 Z hk h_y_Loop_Logs) w hw) ((Own.karr 1 Z hk h_y_Loop_Body) w hw) ((Own.karr 1 Z hk h_y_Loop_Outs) w hw) ((Own.karr 1 Z hk h_y_Time) w hw) ((Own.karr 1 Z hk h_y_Ready) w hw) ((Own.vecArr 0 Z) w hw) (Own.cellsBlk 2 Z w hw); h)) ?_
   refine wq Z (QV.not Z Z) ?_
   refine nt ?_
   refine WC.cond Z (fun h22 => ?_) (fun h22 => ?_)
   ·skip
    have hm23 := br_t h22 hm21; clear hm21
    refine sr ?_
    refine wa Z ?_
    refine nt (WC.ret (kr (tr (tr (kr (tr (tr ?_)))))))
    obtain rfl := up_ret hm23 hn16
    obtain rfl := (eq_of_some hm8).symm
    refine WQ.ret1 Z Z (fun w hw => ?_)
    exact ⟨(v_y_Places, K0), Z, hw.pick [1, 2, 0] (by decide), hlown0v7_1⟩
   have hm24 := br_f h22 hm21; clear hm21
   refine sk (WQ.block (WQ.then (WC.region ?_)))
   obtain ⟨c25, hm26⟩ := cs hm24; clear hm24
   refine wq Z (QV.add Z Z Z Z c25) ?_
   refine wm Z ?_
   refine WL.nil ?_
   exact WQ.again1 (x29_2 + 1) m13 (up_next hm26 hn16) (Nat.lt_succ_self _) ⟨Z, Z, Z, trivial⟩ (fun w hw => hw.pick [0, 1, 2] (by decide))
  have hm27 := br_f h17 hm15; clear hm15
  refine WC.exit (te (te (WQ.block_exit ?_)))
  exact WQ.out1 x29_2 (up_brk hm27 hn16) ⟨Z, Z, Z, trivial⟩ (fun w hw => hw.pick [0, 1, 2] (by decide))
 rintro own0v7_1 x11_1 m28 ⟨hI29, hlown0v7_1⟩
 obtain ⟨m30, s31, rfl, hm32, hn33⟩ := iter_step hI29; clear hI29; unfold regs_spaced_L0 at hm32; simp only at hm32
 refine sr ?_
 refine wq Z (QV.lss Z Z Z Z) ?_
 refine nt (WC.seq ?_)
 refine WC.cond Z (fun h34 => ?_) (fun h34 => ?_)
 ·skip
  have hm35 := br_t h34 hm32; clear hm32
  refine sk (WQ.then (WC.seq (WC.block (sr ?_))))
  refine wm Z ?_
  refine wa Z ?_
  refine nr ?_
  refine wm Z ?_
  refine wq Z (QV.nilCheck Z Z) ?_
  refine wf fd87_5 Z ?_
  refine wl pl22 Z (Own.cell 2 Z Z) ?_
  refine wm Z ?_
  refine wm Z ?_
  obtain ⟨c36, hm37⟩ := cs hm35; clear hm35
  refine wq Z (QV.mul Z Z Z Z c36) ?_
  obtain ⟨c38, hm39⟩ := cs hm37; clear hm37
  obtain ⟨p40, hp41⟩ := hlown0v7_1.ix (sz := 1) ln_len c38
  refine wq Z (QV.indexSlice sl22 Z Z Z Z hp41) ?_
  refine WL.effect Z ?_
  refine (EV.storeV 0 (5 * x11_1) icell_eq Z Z Z Z Z hp41 Z Z sz3 ?_)
  have hl42 : SliceLen v_y_Places (upd own0v7_1 x11_1 (5 * x11_1)).length := slen_upd hlown0v7_1
  refine WL.nil (WQ.block (WQ.then (WC.region ?_)))
  obtain ⟨c43, hm44⟩ := cs hm39; clear hm39
  refine wq Z (QV.add Z Z Z Z c43) ?_
  refine wm Z ?_
  refine WL.nil ?_
  exact WQ.again2 (upd own0v7_1 x11_1 (5 * x11_1)) (x11_1 + 1) m30 ⟨up_next hm44 hn33, hl42⟩ (Nat.lt_succ_self _) ⟨Z, Z, Z, trivial⟩ (fun w hw => hw.pick [0, 1, 2] (by decide))
 have hm45 := br_f h34 hm32; clear hm32
 refine WC.exit (te (te (WQ.block_exit ?_)))
 exact WQ.out2 own0v7_1 x11_1 ⟨up_brk hm45 hn33, hlown0v7_1⟩ ⟨Z, Z, Z, trivial⟩ (fun w hw => hw.pick [0, 1, 2] (by decide))
theorem regs_Make_w {v_l_logs : Value} {v_l_body : Value} {v_l_outs : Value} {v_p_times : Value} {l : Lp} {t : Tgt} {p : Pln} {r : List Int × Int} {K0 : World} (hm : regs_Make_m l t p = some r) (h_l_logs : Arr K0 v_l_logs 1 (l.logs.map icell)) (h_l_body : Arr K0 v_l_body 9 (l.body.map Stm.cells)) (h_l_outs : Arr K0 v_l_outs 1 (l.outs.map icell)) (h_p_times : Arr K0 v_p_times 1 (p.times.map icell)) (M : Nat → Prop) (w : World) (hk : Base M K0 w) (hw0 : Own M w [] w) : Calls Try.prog 74 #[.agg #[v_l_logs, v_l_body, v_l_outs], .agg #[.int .i64 t.u0, .int .i64 t.u1, .int .i64 t.u2, .int .i64 t.w0, .int .i64 t.w1, .int .i64 t.w2, .int .i64 t.regs], .agg #[.int .i64 p.pace, v_p_times]] w (fun e w' => ∃ X : Value × World, e = .returned (.tuple #[X.1, .int .i64 r.2]) ∧ Own M w (kn M w.heap.size K0 X.2 :: []) w' ∧ Arr X.2 X.1 1 (r.1.map icell)) := by
 unfold regs_Make_m at hm
 refine calls_of_WC (n := 26) (args := [.agg #[v_l_logs, v_l_body, v_l_outs], .agg #[.int .i64 t.u0, .int .i64 t.u1, .int .i64 t.u2, .int .i64 t.w0, .int .i64 t.w1, .int .i64 t.w2, .int .i64 t.regs], .agg #[.int .i64 p.pace, v_p_times]]) Try.func74 Z Z (Nat.le_of_ble_eq_true Z) ?_ (Own.startK hk hw0)
 refine sr ?_
 refine WL.effect Z ?_
 refine (EV.boxAgg (by decide) Z Z (fun b1 => ?_))
 refine WL.effect Z ?_
 refine (EV.boxAgg (by decide) Z Z (fun b2 => ?_))
 refine WL.effect Z ?_
 refine (EV.boxAgg (by decide) Z Z (fun b3 => ?_))
 refine wa Z ?_
 refine wa Z ?_
 refine nt (WC.seq (sr ?_))
 refine wq Z (QV.loadAgg ag25 Z Z Z (Own.cellsBlk 2 Z)) ?_
 refine wq Z (QV.loadAgg ag28 Z Z Z (Own.cellsBlk 1 Z)) ?_
 refine wq Z (QV.loadAgg ag91 Z Z Z (Own.cellsBlk 0 Z)) ?_
 obtain ⟨x4, hx5, hm6⟩ := bd_some hm; clear hm
 refine wq Z (QV.call en107 (EvAll.cons Z Z (EvAll.cons Z Z (EvAll.cons Z Z EvAll.nil))) (fun w hw => have h := sched_Legal_w w hx5 ((Own.karr 3 Z hk h_l_logs) w hw) ((Own.karr 3 Z hk h_l_body) w hw) ((Own.karr 3 Z hk h_l_outs) w hw) ((Own.karr 3 Z hk h_p_times) w hw); h)) ?_
 refine wq Z (QV.not Z Z) ?_
 refine nt ?_
 refine WC.cond Z (fun h7 => ?_) (fun h7 => ?_)
 ·skip
  have hm8 := br_t h7 hm6; clear hm6
  refine sr ?_
  refine wa Z ?_
  refine wa Z ?_
  refine nt (WC.ret (tr ?_))
  obtain rfl := (eq_of_some hm8).symm
  refine WQ.ret2 Z Z Z (fun w hw => ?_)
  exact ⟨(.slice none 0 0, K0), Z, hw.pick [3] (by decide), Arr.nil⟩
 have hm9 := br_f h7 hm6; clear hm6
 refine sk (WQ.then (sr ?_))
 refine wq Z (QV.loadAgg ag25 Z Z Z (Own.cellsBlk 2 Z)) ?_
 refine wq Z (QV.loadAgg ag28 Z Z Z (Own.cellsBlk 1 Z)) ?_
 refine wq Z (QV.loadAgg ag91 Z Z Z (Own.cellsBlk 0 Z)) ?_
 refine WL.effect Z ?_
 obtain ⟨x10, hx11, hm12⟩ := bd_some hm9; clear hm9
 refine EV.of (C' := Own M w [kn M w.heap.size K0 K0, blk b3 [.int .i64 p.pace, v_p_times] 91, blk b2 t.cells 28, blk b1 [v_l_logs, v_l_body, v_l_outs] 25]) (fun w hw => hw.pick [3, 0, 1, 2] (by decide)) ?_
 refine (EV.callR (X := Nat × Value × Value × Value × Value × Value × Value × World) (R := []) (fun X => .pointer (some (⟨X.1, 0, none⟩))) (fun X => [blk X.1 [X.2.1, X.2.2.1, X.2.2.2.1, .int .i64 x10.2.2.2.1, .int .i64 x10.2.2.2.2.1, X.2.2.2.2.1, X.2.2.2.2.2.1, X.2.2.2.2.2.2.1] 87, vec X.2.2.2.2.2.2.1 3 1 (List.map icell x10.2.2.2.2.2.2.2)]) (fun X => X.2.2.2.2.2.2.2) (fun X => Arr X.2.2.2.2.2.2.2 X.2.1 1 (x10.1.map icell) ∧ Arr X.2.2.2.2.2.2.2 X.2.2.1 9 (x10.2.1.map Stm.cells) ∧ Arr X.2.2.2.2.2.2.2 X.2.2.2.1 1 (x10.2.2.1.map icell) ∧ Arr X.2.2.2.2.2.2.2 X.2.2.2.2.1 1 (x10.2.2.2.2.2.1.map icell) ∧ Arr X.2.2.2.2.2.2.2 X.2.2.2.2.2.1 1 (x10.2.2.2.2.2.2.1.map icell) ∧ SliceLen X.2.2.2.2.2.2.1 (x10.2.2.2.2.2.2.2).length) hk (fun _ h => by cases h; decide) en108 (EvAll.cons Z Z (EvAll.cons Z Z (EvAll.cons Z Z EvAll.nil))) (fun M w h1 h2 => have h := regs_layout_w hx11 h_l_logs h_l_body h_l_outs h_p_times M w h1 h2; h) (fun X13 hF13 hle13 => ?_))
 refine wa Z ?_
 refine nt (WC.seq (sr ?_))
 refine wm Z ?_
 refine WL.effect Z ?_
 obtain ⟨x16, hx17, hm18⟩ := bd_some hm12; clear hm12
 refine (EV.callR (X := Value × World) (R := [blk X13.1 [X13.2.1, X13.2.2.1, X13.2.2.2.1, .int .i64 x10.2.2.2.1, .int .i64 x10.2.2.2.2.1, X13.2.2.2.2.1, X13.2.2.2.2.2.1, X13.2.2.2.2.2.2.1] 87, vec X13.2.2.2.2.2.2.1 3 1 (List.map icell x10.2.2.2.2.2.2.2)]) (fun X => .bool x16.1) (fun X => [blk X13.1 [X13.2.1, X13.2.2.1, X13.2.2.2.1, .int .i64 x10.2.2.2.1, .int .i64 x10.2.2.2.2.1, X13.2.2.2.2.1, X13.2.2.2.2.2.1, X.1] 87, vec X.1 3 1 (List.map icell x16.2)]) (fun X => X.2) (fun X => SliceLen X.1 (x16.2).length) hk (fun _ h => by cases h; decide) en109 (EvAll.cons Z Z EvAll.nil) (fun M w h1 h2 => have h := regs_first_w hx17 hF13.1 hF13.2.1 hF13.2.2.1 hF13.2.2.2.1 hF13.2.2.2.2.1 hF13.2.2.2.2.2 M w h1 h2; h) (fun X19 hF19 hle19 => ?_))
 refine wm Z ?_
 refine gn Z (fun hG => QV.move Z Z) ?_
 refine bothWays (!x16.1) (fun hb20 => ?_) (fun hb20 => ?_)
 ·skip
  have hm21 := br_t hb20 hm18; clear hm18
  refine WL.effectG (GuardIs.neg Z Z) hb20 ?_
  obtain ⟨x22, hx23, hm24⟩ := bd_some hm21; clear hm21
  refine (EV.callR (X := Value × World) (R := [blk X13.1 [X13.2.1, X13.2.2.1, X13.2.2.2.1, .int .i64 x10.2.2.2.1, .int .i64 x10.2.2.2.2.1, X13.2.2.2.2.1, X13.2.2.2.2.2.1, X19.1] 87, vec X19.1 3 1 (List.map icell x16.2)]) (fun X => .bool x22.1) (fun X => [blk X13.1 [X13.2.1, X13.2.2.1, X13.2.2.2.1, .int .i64 x10.2.2.2.1, .int .i64 x10.2.2.2.2.1, X13.2.2.2.2.1, X13.2.2.2.2.2.1, X.1] 87, vec X.1 3 1 (List.map icell x22.2)]) (fun X => X.2) (fun X => SliceLen X.1 (x22.2).length) hk (fun _ h => by cases h; decide) en110 (EvAll.cons Z hb20 EvAll.nil) (fun M w h1 h2 => have h := regs_spaced_w hx23 (hF13.1.le hle19) (hF13.2.1.le hle19) (hF13.2.2.1.le hle19) (hF13.2.2.2.1.le hle19) (hF13.2.2.2.2.1.le hle19) hF19 M w h1 h2; h) (fun X25 hF25 hle25 => ?_))
  refine wq Z (QV.pickOr Z Z Z (fun _ => Z)) ?_
  refine nt ?_
  refine WC.cond Z (fun h26 => ?_) (fun h26 => ?_)
  ·skip
   have hm27 := br_t h26 hm24; clear hm24
   refine sr ?_
   refine wm Z ?_
   refine WL.effect Z ?_
   refine EV.of (C' := Own M w [kn M w.heap.size K0 X25.2, vec X25.1 3 1 (List.map icell x22.2), blk X13.1 [X13.2.1, X13.2.2.1, X13.2.2.2.1, .int .i64 x10.2.2.2.1, .int .i64 x10.2.2.2.2.1, X13.2.2.2.2.1, X13.2.2.2.2.2.1, X25.1] 87, blk b3 [.int .i64 p.pace, v_p_times] 91, blk b2 t.cells 28, blk b1 [v_l_logs, v_l_body, v_l_outs] 25]) (fun w hw => hw.pick [0, 2, 1, 3, 4, 5] (by decide)) ?_
   refine EV.freeze hk (fun k28 hle28 hr28 => ?_)
   have hA28 := vec_arr hr28
   refine EV.freeze hk (fun k29 hle29 hr29 => ?_)
   have hc29 := blk_cells hr29
   obtain ⟨x30, hx31, hm32⟩ := bd_some hm27; clear hm27
   refine (EV.callR (X := Value × World) (R := []) (fun X => X.1) (fun X => []) (fun X => X.2) (fun X => Arr X.2 X.1 1 (x30.map icell)) hk (fun _ h => by cases h; decide) en111 (EvAll.cons Z Z EvAll.nil) (fun M w h1 h2 => have h := regs_dests_w hx31 (hF13.2.2.2.1.le (((hle19.trans hle25).trans hle28).trans hle29)) (hA28.le hle29) hc29 M w h1 h2; h) (fun X33 hF33 hle33 => ?_))
   refine wa Z ?_
   refine wa Z ?_
   refine nt (WC.ret (tr ?_))
   obtain rfl := (eq_of_some hm32).symm
   refine WQ.ret2 Z Z Z (fun w hw => ?_)
   exact ⟨(X33.1, X33.2), Z, hw.pick [0] (by decide), hF33⟩
  have hm34 := br_f h26 hm24; clear hm24
  refine sk (WQ.then (sr ?_))
  refine wa Z ?_
  refine wa Z ?_
  refine nt (WC.ret ?_)
  obtain rfl := (eq_of_some hm34).symm
  refine WQ.ret2 Z Z Z (fun w hw => ?_)
  exact ⟨(.slice none 0 0, X25.2), Z, hw.pick [0] (by decide), Arr.nil⟩
 have hm35 := br_f hb20 hm18; clear hm18
 refine WL.g (v := .bool false) Z Z (GuardIs.neg Z Z) (fun hG => absurd (hb20.symm.trans hG) (by decide)) ?_
 refine wq Z (QV.pickOr Z Z Z (fun h => notF h)) ?_
 refine nt ?_
 refine WC.cond Z (fun h36 => ?_) (fun h36 => ?_)
 ·skip
  have hm37 := br_t h36 hm35; clear hm35
  refine sr ?_
  refine wm Z ?_
  refine WL.effect Z ?_
  refine EV.of (C' := Own M w [kn M w.heap.size K0 X19.2, vec X19.1 3 1 (List.map icell x16.2), blk X13.1 [X13.2.1, X13.2.2.1, X13.2.2.2.1, .int .i64 x10.2.2.2.1, .int .i64 x10.2.2.2.2.1, X13.2.2.2.2.1, X13.2.2.2.2.2.1, X19.1] 87, blk b3 [.int .i64 p.pace, v_p_times] 91, blk b2 t.cells 28, blk b1 [v_l_logs, v_l_body, v_l_outs] 25]) (fun w hw => hw.pick [0, 2, 1, 3, 4, 5] (by decide)) ?_
  refine EV.freeze hk (fun k38 hle38 hr38 => ?_)
  have hA38 := vec_arr hr38
  refine EV.freeze hk (fun k39 hle39 hr39 => ?_)
  have hc39 := blk_cells hr39
  obtain ⟨x40, hx41, hm42⟩ := bd_some hm37; clear hm37
  refine (EV.callR (X := Value × World) (R := []) (fun X => X.1) (fun X => []) (fun X => X.2) (fun X => Arr X.2 X.1 1 (x40.map icell)) hk (fun _ h => by cases h; decide) en111 (EvAll.cons Z Z EvAll.nil) (fun M w h1 h2 => have h := regs_dests_w hx41 (hF13.2.2.2.1.le ((hle19.trans hle38).trans hle39)) (hA38.le hle39) hc39 M w h1 h2; h) (fun X43 hF43 hle43 => ?_))
  refine wa Z ?_
  refine wa Z ?_
  refine nt (WC.ret (tr ?_))
  obtain rfl := (eq_of_some hm42).symm
  refine WQ.ret2 Z Z Z (fun w hw => ?_)
  exact ⟨(X43.1, X43.2), Z, hw.pick [0] (by decide), hF43⟩
 have hm44 := br_f h36 hm35; clear hm35
 refine sk (WQ.then (sr ?_))
 refine wa Z ?_
 refine wa Z ?_
 refine nt (WC.ret ?_)
 obtain rfl := (eq_of_some hm44).symm
 refine WQ.ret2 Z Z Z (fun w hw => ?_)
 exact ⟨(.slice none 0 0, X19.2), Z, hw.pick [0] (by decide), Arr.nil⟩
end Go.Proofs.Ytaimbkndebaaiac
end
section
namespace Go.Proofs.Ytaimbkndebaaiac
open Go.Rd
open TNum TLoop TKern TKeep TOrd TCpt TDep TSched1 TEmit TCheck TRegs
namespace TBound
theorem ag26 : AggT Try.prog 26 3 := ⟨_, Try.underlying26, rfl, by kernel_rfl⟩
theorem en106 : Go.Rd.Enters Try.prog 106 := ⟨Try.f106, Try.func106, by kernel_rfl, by kernel_rfl⟩
theorem sl187 : SliceT Try.prog 187 22 1 := ⟨Try.underlying187, by kernel_rfl⟩
theorem ve187 : VecT Try.prog 187 22 1 24 := ⟨Try.underlying187, by kernel_rfl, by decide⟩
theorem ze22 : ZeroT Try.prog 22 [.slice none 0 0] := by unfold ZeroT; kernel_rfl
theorem ze26 : ZeroT Try.prog 26 [.int .i64 0, .int .i64 0, .int .i64 0] := by unfold ZeroT; kernel_rfl
end TBound
open TBound
theorem bound_rounds_w {v_edges : Value} {n_ : Int} {edges : List Edg} {pace : Int} {r : Bool} (w : World) (hm : bound_rounds_m n_ edges pace = some r) (h_edges : Arr w v_edges 4 (edges.map Edg.cells)) : Calls Try.prog 106 #[.int .i64 n_, v_edges, .int .i64 pace] w (fun e w' => e = .returned (.bool r) ∧ Grow w w') := by
 unfold bound_rounds_m at hm
 have hk := Base.rfl (w := w)
 refine calls_of_WC (n := 152) (args := [.int .i64 n_, v_edges, .int .i64 pace]) Try.func106 Z Z (Nat.le_of_ble_eq_true Z) ?_ (Own.startK hk (Own.start w))
 refine sr ?_
 refine wa Z ?_
 refine ns ?_
 refine wm Z ?_
 refine WL.effect Z ?_
 obtain ⟨c1, hm2⟩ := cs hm; clear hm
 obtain ⟨c3, hm4⟩ := cs hm2; clear hm2
 refine (EV.makeSlice (enc := hcell) nilS (by decide) ve187 ze22 Z Z c1 Z c3 (fun u5 hu6 => ?_))
 refine WK.of (fun w hw => hw.gridRep 3) ?_
 have hg8 := GL.rep n_.toNat
 have hl9 : SliceLen u5 (List.replicate n_.toNat ([] : List Int)).length := by rw [List.length_replicate]; simpa using hu6
 refine wa Z ?_
 refine nt (WC.seq (sr ?_))
 refine wm Z ?_
 refine wq Z (QV.lenS Try.underlying187 Z Z hl9) ?_
 refine wm Z ?_
 refine nt ?_
 obtain ⟨o10, ho11, hm12⟩ := bd_some hm4; clear hm4; obtain ⟨n13, ho14⟩ := lp_some ho11
 refine WC.bloop3 (H2 := [kn noM w.heap.size w w]) (τ := [(0, (true, _)), (1, (true, _)), (2, (true, _)), (7, (true, _)), (19, (true, _))]) (fun (v7_3 : List (List Int)) (x20_3 : Int) (hsv7_3 : List Value) => [(20, (true, .int .i64 x20_3))]) (fun v7_3 x20_3 hsv7_3 => [grid u5 hsv7_3 22 3 v7_3]) (fun v7_3 x20_3 hsv7_3 m => iter (bound_rounds_L0 n_) m (v7_3, x20_3) = some o10 ∧ SliceLen u5 v7_3.length ∧ GL hsv7_3 v7_3) (fun v7_3 x20_3 hsv7_3 => o10 = .go (v7_3, x20_3) ∧ SliceLen u5 v7_3.length ∧ GL hsv7_3 v7_3) (List.replicate n_.toNat ([] : List Int)) 0 (List.replicate n_.toNat nilS) n13 ⟨ho14, hl9, hg8⟩ ⟨Z, Z, Z, Z, Z, Z, trivial⟩ (fun w hw => hw.pick [0, 1] (by decide)) ?_ ?_
 ·skip
  rintro v7_3 x20_3 hsv7_3 ⟨rfl, hlv7_3, hgv7_3⟩
  refine WQ.then (WC.seq (sr ?_))
  refine wm Z ?_
  refine wq Z (QV.lenS Try.underlying68 Z Z h_edges.lenMap) ?_
  refine wm Z ?_
  refine nt ?_
  obtain ⟨o15, ho16, hm17⟩ := bd_some hm12; clear hm12; obtain ⟨n18, ho19⟩ := lp_some ho16
  refine WC.bloop2 (H2 := [kn noM w.heap.size w w]) (τ := [(0, (true, _)), (2, (true, _)), (7, (true, _)), (44, (true, _)), (45, (true, _))]) (fun (v7_4 : List (List Int)) (x46_4 : Int) => [(46, (true, .int .i64 x46_4))]) (fun v7_4 x46_4 => [grid u5 hsv7_3 22 3 v7_4]) (fun v7_4 x46_4 m => iter (bound_rounds_L4 edges pace) m (v7_4, x46_4) = some o15 ∧ SliceLen u5 v7_4.length ∧ GL hsv7_3 v7_4) (fun v7_4 x46_4 => o15 = .go (v7_4, x46_4) ∧ SliceLen u5 v7_4.length ∧ GL hsv7_3 v7_4) v7_3 0 n18 ⟨ho19, hlv7_3, hgv7_3⟩ ⟨Z, Z, Z, Z, Z, Z, trivial⟩ (fun w hw => hw.pick [0, 1] (by decide)) ?_ ?_
  ·skip
   rintro v7_4 x46_4 ⟨rfl, hlv7_4, hgv7_4⟩
   refine WQ.then (WC.seq (sr ?_))
   refine wm Z ?_
   refine wm Z ?_
   refine nt ?_
   obtain ⟨o20, ho21, hm22⟩ := bd_some hm17; clear hm17; obtain ⟨n23, ho24⟩ := lp_some ho21
   refine WC.bloop2 (H2 := [kn noM w.heap.size w w]) (τ := [(0, (true, _)), (7, (true, _)), (76, (true, _))]) (fun (v7_13 : List (List Int)) (x77_13 : Int) => [(77, (true, .int .i64 x77_13))]) (fun v7_13 x77_13 => [grid u5 hsv7_3 22 3 v7_13]) (fun v7_13 x77_13 m => iter (bound_rounds_L6 n_) m (v7_13, x77_13) = some o20 ∧ SliceLen u5 v7_13.length ∧ GL hsv7_3 v7_13) (fun v7_13 x77_13 => o20 = .go (v7_13, x77_13) ∧ SliceLen u5 v7_13.length ∧ GL hsv7_3 v7_13) v7_4 0 n23 ⟨ho24, hlv7_4, hgv7_4⟩ ⟨Z, Z, Z, Z, trivial⟩ (fun w hw => hw.pick [0, 1] (by decide)) ?_ ?_
   ·skip
    rintro v7_13 x77_13 ⟨rfl, hlv7_13, hgv7_13⟩
    refine WQ.then (WC.seq (sr ?_))
    refine wm Z ?_
    refine wm Z ?_
    refine nt ?_
    obtain ⟨o25, ho26, hm27⟩ := bd_some hm22; clear hm22; obtain ⟨n28, ho29⟩ := lp_some ho26
    refine WC.bloop1 (H2 := [grid u5 hsv7_3 22 3 v7_13, kn noM w.heap.size w w]) (τ := [(7, (true, _)), (139, (true, _))]) (fun (x140_14 : Int) => [(140, (true, .int .i64 x140_14))]) (fun x140_14 => []) (fun x140_14 m => iter (bound_rounds_L12 n_ v7_13) m x140_14 = some o25) (fun x140_14 => o25 = .go x140_14) 0 n28 ho29 ⟨Z, Z, Z, trivial⟩ (fun w hw => hw.pick [0, 1] (by decide)) ?_ ?_
    ·skip
     rintro x140_14 rfl
     refine WQ.then (sr ?_)
     refine wa Z ?_
     refine nt (WC.ret ?_)
     obtain rfl := (eq_of_some hm27).symm
     refine WQ.ret1 Z Z (fun w hw => ?_)
     exact ⟨Z, Own.kgrow (fun _ x => x) hw⟩
    rintro x140_14 m30 hI31
    obtain ⟨m32, s33, rfl, hm34, hn35⟩ := iter_step hI31; clear hI31; unfold bound_rounds_L12 at hm34
    refine sr ?_
    refine wq Z (QV.lss Z Z Z Z) ?_
    refine nt (WC.seq ?_)
    refine WC.cond Z (fun h36 => ?_) (fun h36 => ?_)
    ·skip
     have hm37 := br_t h36 hm34; clear hm34
     refine sk (WQ.then (WC.seq (WC.block (sr ?_))))
     refine wm Z ?_
     refine wa Z ?_
     refine ns ?_
     refine wm Z ?_
     refine wm Z ?_
     obtain ⟨c38, hm39⟩ := cs hm37; clear hm37
     obtain ⟨p40, hp41⟩ := hlv7_13.ix (sz := 1) ln_len c38
     refine wq Z (QV.indexSlice sl187 Z Z Z Z hp41) ?_
     refine wl pl22 Z (Own.gridHdr 0 Z hp41 c38) ?_
     refine wm Z ?_
     obtain ⟨c42, hm43⟩ := cs hm39; clear hm39
     obtain ⟨p44, hp45⟩ := (hgv7_13.ix x140_14).ix (sz := 1) ln_len c42
     refine wq Z (QV.indexSlice sl22 Z Z Z Z hp45) ?_
     refine wl pl3 Z (fun w hw => CellsAt.one 0 (((Own.gridArr 0 Z c38) w hw).ele hp45 c42) Z) ?_
     refine wq Z (QV.gtr Z Z Z Z) ?_
     refine nt ?_
     refine WC.cond Z (fun h46 => ?_) (fun h46 => ?_)
     ·skip
      have hm47 := br_t h46 hm43; clear hm43
      refine sr ?_
      refine wa Z ?_
      refine nt (WC.ret (kr (tr (tr (kr (tr (tr ?_)))))))
      obtain rfl := up_ret hm47 hn35
      obtain rfl := (eq_of_some hm27).symm
      refine WQ.ret1 Z Z (fun w hw => ?_)
      exact ⟨Z, Own.kgrow (fun _ x => x) hw⟩
     have hm48 := br_f h46 hm43; clear hm43
     refine sk (WQ.block (WQ.then (WC.region ?_)))
     obtain ⟨c49, hm50⟩ := cs hm48; clear hm48
     refine wq Z (QV.add Z Z Z Z c49) ?_
     refine wm Z ?_
     refine WL.nil ?_
     exact WQ.again1 (x140_14 + 1) m32 (up_next hm50 hn35) (Nat.lt_succ_self _) ⟨Z, Z, Z, trivial⟩ (fun w hw => hw.pick [0, 1] (by decide))
    have hm51 := br_f h36 hm34; clear hm34
    refine WC.exit (te (te (WQ.block_exit ?_)))
    exact WQ.out1 x140_14 (up_brk hm51 hn35) ⟨Z, Z, Z, trivial⟩ (fun w hw => hw.pick [0, 1] (by decide))
   rintro v7_13 x77_13 m52 ⟨hI53, hlv7_13, hgv7_13⟩
   obtain ⟨m54, s55, rfl, hm56, hn57⟩ := iter_step hI53; clear hI53; unfold bound_rounds_L6 at hm56; simp only at hm56
   refine sr ?_
   refine wq Z (QV.lss Z Z Z Z) ?_
   refine nt (WC.seq ?_)
   refine WC.cond Z (fun h58 => ?_) (fun h58 => ?_)
   ·skip
    have hm59 := br_t h58 hm56; clear hm56
    refine sk (WQ.then (WC.seq (WC.block (sr ?_))))
    refine wm Z ?_
    refine wa Z ?_
    refine ns ?_
    refine wm Z ?_
    refine wm Z ?_
    refine nt ?_
    obtain ⟨o60, ho61, hm62⟩ := bd_some hm59; clear hm59; obtain ⟨n63, ho64⟩ := lp_some ho61
    refine WC.bloop2 (H2 := [kn noM w.heap.size w w]) (τ := [(0, (true, _)), (7, (true, _)), (12, (true, _)), (76, (true, _)), (77, (true, _)), (80, (true, _))]) (fun (v7_17 : List (List Int)) (x81_17 : Int) => [(81, (true, .int .i64 x81_17))]) (fun v7_17 x81_17 => [grid u5 hsv7_3 22 3 v7_17]) (fun v7_17 x81_17 m => iter (bound_rounds_L8 n_ x77_13) m (v7_17, x81_17) = some o60 ∧ SliceLen u5 v7_17.length ∧ GL hsv7_3 v7_17) (fun v7_17 x81_17 => o60 = .go (v7_17, x81_17) ∧ SliceLen u5 v7_17.length ∧ GL hsv7_3 v7_17) v7_13 0 n63 ⟨ho64, hlv7_13, hgv7_13⟩ ⟨Z, Z, Z, Z, Z, Z, Z, trivial⟩ (fun w hw => hw.pick [0, 1] (by decide)) ?_ ?_
    ·skip
     rintro v7_17 x81_17 ⟨rfl, hlv7_17, hgv7_17⟩
     refine WQ.block (WQ.then (WC.region ?_))
     obtain ⟨c65, hm66⟩ := cs hm62; clear hm62
     refine wq Z (QV.add Z Z Z Z c65) ?_
     refine wm Z ?_
     refine WL.nil ?_
     exact WQ.again2 v7_17 (x77_13 + 1) m54 ⟨up_next hm66 hn57, hlv7_17, hgv7_17⟩ (Nat.lt_succ_self _) ⟨Z, Z, Z, Z, trivial⟩ (fun w hw => hw.pick [0, 1] (by decide))
    rintro v7_17 x81_17 m67 ⟨hI68, hlv7_17, hgv7_17⟩
    obtain ⟨m69, s70, rfl, hm71, hn72⟩ := iter_step hI68; clear hI68; unfold bound_rounds_L8 at hm71; simp only at hm71
    refine sr ?_
    refine wq Z (QV.lss Z Z Z Z) ?_
    refine nt (WC.seq ?_)
    refine WC.cond Z (fun h73 => ?_) (fun h73 => ?_)
    ·skip
     have hm74 := br_t h73 hm71; clear hm71
     refine sk (WQ.then (WC.seq (WC.block (sr ?_))))
     refine wm Z ?_
     refine wa Z ?_
     refine ns ?_
     refine wm Z ?_
     refine wm Z ?_
     refine nt ?_
     obtain ⟨o75, ho76, hm77⟩ := bd_some hm74; clear hm74; obtain ⟨n78, ho79⟩ := lp_some ho76
     refine WC.bloop2 (H2 := [kn noM w.heap.size w w]) (τ := [(0, (true, _)), (7, (true, _)), (12, (true, _)), (13, (true, _)), (76, (true, _)), (77, (true, _)), (80, (true, _)), (81, (true, _)), (84, (true, _))]) (fun (v7_18 : List (List Int)) (x85_18 : Int) => [(85, (true, .int .i64 x85_18))]) (fun v7_18 x85_18 => [grid u5 hsv7_3 22 3 v7_18]) (fun v7_18 x85_18 m => iter (bound_rounds_L10 n_ x77_13 x81_17) m (v7_18, x85_18) = some o75 ∧ SliceLen u5 v7_18.length ∧ GL hsv7_3 v7_18) (fun v7_18 x85_18 => o75 = .go (v7_18, x85_18) ∧ SliceLen u5 v7_18.length ∧ GL hsv7_3 v7_18) v7_17 0 n78 ⟨ho79, hlv7_17, hgv7_17⟩ ⟨Z, Z, Z, Z, Z, Z, Z, Z, Z, Z, trivial⟩ (fun w hw => hw.pick [0, 1] (by decide)) ?_ ?_
     ·skip
      rintro v7_18 x85_18 ⟨rfl, hlv7_18, hgv7_18⟩
      refine WQ.block (WQ.then (WC.region ?_))
      obtain ⟨c80, hm81⟩ := cs hm77; clear hm77
      refine wq Z (QV.add Z Z Z Z c80) ?_
      refine wm Z ?_
      refine WL.nil ?_
      exact WQ.again2 v7_18 (x81_17 + 1) m69 ⟨up_next hm81 hn72, hlv7_18, hgv7_18⟩ (Nat.lt_succ_self _) ⟨Z, Z, Z, Z, Z, Z, Z, trivial⟩ (fun w hw => hw.pick [0, 1] (by decide))
     rintro v7_18 x85_18 m82 ⟨hI83, hlv7_18, hgv7_18⟩
     obtain ⟨m84, s85, rfl, hm86, hn87⟩ := iter_step hI83; clear hI83; unfold bound_rounds_L10 at hm86; simp only at hm86
     refine sr ?_
     refine wq Z (QV.lss Z Z Z Z) ?_
     refine nt (WC.seq ?_)
     refine WC.cond Z (fun h88 => ?_) (fun h88 => ?_)
     ·skip
      have hm89 := br_t h88 hm86; clear hm86
      refine sk (WQ.then (WC.seq (WC.block (sr ?_))))
      refine wm Z ?_
      refine wa Z ?_
      refine ns ?_
      refine wm Z ?_
      refine wm Z ?_
      obtain ⟨c90, hm91⟩ := cs hm89; clear hm89
      obtain ⟨p92, hp93⟩ := hlv7_18.ix (sz := 1) ln_len c90
      refine wq Z (QV.indexSlice sl187 Z Z Z Z hp93) ?_
      refine wl pl22 Z (Own.gridHdr 0 Z hp93 c90) ?_
      refine wm Z ?_
      obtain ⟨c94, hm95⟩ := cs hm91; clear hm91
      obtain ⟨p96, hp97⟩ := (hgv7_18.ix x81_17).ix (sz := 1) ln_len c94
      refine wq Z (QV.indexSlice sl22 Z Z Z Z hp97) ?_
      refine wl pl3 Z (fun w hw => CellsAt.one 0 (((Own.gridArr 0 Z c90) w hw).ele hp97 c94) Z) ?_
      refine wq Z (QV.gtr Z Z Z Z) ?_
      refine wm Z ?_
      refine gp Z (fun hG => QV.move Z Z) ?_
      refine gp Z (fun hG => QV.move Z Z) ?_
      obtain ⟨c98, hm99⟩ := cs hm95; clear hm95
      obtain ⟨p100, hp101⟩ := hlv7_18.ixG (sz := 1) ln_len c98
      refine gp Z (fun hG => QV.indexSlice sl187 Z hG Z hG (hp101 hG)) ?_
      refine gp Z (fun hG => QV.load pl22 Z hG (Own.gridHdr 0 Z (hp101 hG) (c98 hG))) ?_
      refine gp Z (fun hG => QV.move Z Z) ?_
      obtain ⟨c102, hm103⟩ := cs hm99; clear hm99
      obtain ⟨p104, hp105⟩ := (hgv7_18.ix x77_13).ixG (sz := 1) ln_len c102
      refine gp Z (fun hG => QV.indexSlice sl22 Z hG Z hG (hp105 hG)) ?_
      refine gp Z (fun hG => QV.load pl3 Z hG (fun w hw => CellsAt.one 0 (((Own.gridArr 0 Z (c98 hG)) w hw).ele (hp105 hG) (c102 hG)) Z)) ?_
      refine gp Z (fun hG => QV.gtr Z hG Z Z) ?_
      refine wq Z (QV.pickAnd Z Z Z (fun h => h)) ?_
      refine nt ?_
      refine WC.cond Z (fun h106 => ?_) (fun h106 => ?_)
      ·skip
       have hm107 := br_t h106 hm103; clear hm103
       refine WC.dr (m := 31) (S := Own noM w [kn noM w.heap.size w w, grid u5 hsv7_3 22 3 v7_18]) (by kernel_rfl) (by kernel_rfl) (fun w hw => hw.pick [1, 0] (by decide)) ?_
       refine wz 0 Z Z (QV.move Z Z) ?_
       refine wz 1 Z Z (QV.move Z Z) ?_
       obtain ⟨c108, hm109⟩ := cs hm107; clear hm107
       obtain ⟨p110, hp111⟩ := hlv7_18.ix (sz := 1) ln_len c108
       refine wz 2 Z Z (QV.indexSlice sl187 Z Z Z Z hp111) ?_
       refine wz 3 Z Z (QV.load pl22 Z Z (Own.gridHdr 1 Z hp111 c108)) ?_
       refine wz 4 Z Z (QV.move Z Z) ?_
       refine wz 5 Z Z (QV.move Z Z) ?_
       refine wz 6 Z Z (QV.move Z Z) ?_
       obtain ⟨c112, hm113⟩ := cs hm109; clear hm109
       obtain ⟨p114, hp115⟩ := hlv7_18.ix (sz := 1) ln_len c112
       refine wz 7 Z Z (QV.indexSlice sl187 Z Z Z Z hp115) ?_
       refine wz 8 Z Z (QV.load pl22 Z Z (Own.gridHdr 1 Z hp115 c112)) ?_
       refine wz 9 Z Z (QV.move Z Z) ?_
       obtain ⟨c116, hm117⟩ := cs hm113; clear hm113
       obtain ⟨p118, hp119⟩ := (hgv7_18.ix x81_17).ix (sz := 1) ln_len c116
       refine wz 10 Z Z (QV.indexSlice sl22 Z Z Z Z hp119) ?_
       refine wz 11 Z Z (QV.load pl3 Z Z (fun w hw => CellsAt.one 0 (((Own.gridArr 1 Z c112) w hw).ele hp119 c116) Z)) ?_
       refine wz 12 Z Z (QV.move Z Z) ?_
       refine wz 13 Z Z (QV.move Z Z) ?_
       obtain ⟨c120, hm121⟩ := cs hm117; clear hm117
       obtain ⟨p122, hp123⟩ := hlv7_18.ix (sz := 1) ln_len c120
       refine wz 14 Z Z (QV.indexSlice sl187 Z Z Z Z hp123) ?_
       refine wz 15 Z Z (QV.load pl22 Z Z (Own.gridHdr 1 Z hp123 c120)) ?_
       refine wz 16 Z Z (QV.move Z Z) ?_
       obtain ⟨c124, hm125⟩ := cs hm121; clear hm121
       obtain ⟨p126, hp127⟩ := (hgv7_18.ix x81_17).ix (sz := 1) ln_len c124
       refine wz 17 Z Z (QV.indexSlice sl22 Z Z Z Z hp127) ?_
       refine wz 18 Z Z (QV.load pl3 Z Z (fun w hw => CellsAt.one 0 (((Own.gridArr 1 Z c120) w hw).ele hp127 c124) Z)) ?_
       refine wz 19 Z Z (QV.move Z Z) ?_
       refine wz 20 Z Z (QV.move Z Z) ?_
       obtain ⟨c128, hm129⟩ := cs hm125; clear hm125
       obtain ⟨p130, hp131⟩ := hlv7_18.ix (sz := 1) ln_len c128
       refine wz 21 Z Z (QV.indexSlice sl187 Z Z Z Z hp131) ?_
       refine wz 22 Z Z (QV.load pl22 Z Z (Own.gridHdr 1 Z hp131 c128)) ?_
       refine wz 23 Z Z (QV.move Z Z) ?_
       obtain ⟨c132, hm133⟩ := cs hm129; clear hm129
       obtain ⟨p134, hp135⟩ := (hgv7_18.ix x77_13).ix (sz := 1) ln_len c132
       refine wz 24 Z Z (QV.indexSlice sl22 Z Z Z Z hp135) ?_
       refine wz 25 Z Z (QV.load pl3 Z Z (fun w hw => CellsAt.one 0 (((Own.gridArr 1 Z c128) w hw).ele hp135 c132) Z)) ?_
       obtain ⟨c136, hm137⟩ := cs hm133; clear hm133
       refine wz 26 Z Z (QV.add Z Z Z Z c136) ?_
       refine wz 27 Z Z (QV.min2 Z Z Z Z) ?_
       refine wz 28 Z Z (QV.max2 Z Z Z Z) ?_
       obtain ⟨c138, hm139⟩ := cs hm137; clear hm137
       obtain ⟨p140, hp141⟩ := (hgv7_18.ix x81_17).ix (sz := 1) ln_len c138
       refine wz 29 Z Z (QV.indexSlice sl22 Z Z Z Z hp141) ?_
       refine WD.l 30 Z (by kernel_rfl) Z ?_
       refine (EV.storeG 0 (max (ele (ele v7_18 x81_17) x85_18) (min ((ele (ele v7_18 x81_17) x77_13) + (ele (ele v7_18 x77_13) x85_18)) 1048576)) Z Z Z Z Z c108 hp141 sz3 ?_)
       have hg143 := hgv7_18.updG x81_17 x85_18 (max (ele (ele v7_18 x81_17) x85_18) (min ((ele (ele v7_18 x81_17) x77_13) + (ele (ele v7_18 x77_13) x85_18)) 1048576))
       have hl142 : SliceLen u5 (updG v7_18 x81_17 x85_18 (max (ele (ele v7_18 x81_17) x85_18) (min ((ele (ele v7_18 x81_17) x77_13) + (ele (ele v7_18 x77_13) x85_18)) 1048576))).length := slen_updG hlv7_18
       refine WQ.block (WQ.then (WC.region ?_))
       obtain ⟨c144, hm145⟩ := cs hm139; clear hm139
       refine wq Z (QV.add Z Z Z Z c144) ?_
       refine wm Z ?_
       refine WL.nil ?_
       exact WQ.again2 (updG v7_18 x81_17 x85_18 (max (ele (ele v7_18 x81_17) x85_18) (min ((ele (ele v7_18 x81_17) x77_13) + (ele (ele v7_18 x77_13) x85_18)) 1048576))) (x85_18 + 1) m84 ⟨up_next hm145 hn87, hl142, hg143⟩ (Nat.lt_succ_self _) ⟨Z, Z, Z, Z, Z, Z, Z, Z, Z, Z, trivial⟩ (fun w hw => hw.pick [0, 1] (by decide))
      have hm146 := br_f h106 hm103; clear hm103
      refine sk (WQ.block (WQ.then (WC.region ?_)))
      obtain ⟨c147, hm148⟩ := cs hm146; clear hm146
      refine wq Z (QV.add Z Z Z Z c147) ?_
      refine wm Z ?_
      refine WL.nil ?_
      exact WQ.again2 v7_18 (x85_18 + 1) m84 ⟨up_next hm148 hn87, hlv7_18, hgv7_18⟩ (Nat.lt_succ_self _) ⟨Z, Z, Z, Z, Z, Z, Z, Z, Z, Z, trivial⟩ (fun w hw => hw.pick [0, 1] (by decide))
     have hm149 := br_f h88 hm86; clear hm86
     refine WC.exit (te (te (WQ.block_exit ?_)))
     exact WQ.out2 v7_18 x85_18 ⟨up_brk hm149 hn87, hlv7_18, hgv7_18⟩ ⟨Z, Z, Z, Z, Z, Z, Z, Z, Z, Z, trivial⟩ (fun w hw => hw.pick [0, 1] (by decide))
    have hm150 := br_f h73 hm71; clear hm71
    refine WC.exit (te (te (WQ.block_exit ?_)))
    exact WQ.out2 v7_17 x81_17 ⟨up_brk hm150 hn72, hlv7_17, hgv7_17⟩ ⟨Z, Z, Z, Z, Z, Z, Z, trivial⟩ (fun w hw => hw.pick [0, 1] (by decide))
   have hm151 := br_f h58 hm56; clear hm56
   refine WC.exit (te (te (WQ.block_exit ?_)))
   exact WQ.out2 v7_13 x77_13 ⟨up_brk hm151 hn57, hlv7_13, hgv7_13⟩ ⟨Z, Z, Z, Z, trivial⟩ (fun w hw => hw.pick [0, 1] (by decide))
  rintro v7_4 x46_4 m152 ⟨hI153, hlv7_4, hgv7_4⟩
  obtain ⟨m154, s155, rfl, hm156, hn157⟩ := iter_step hI153; clear hI153; unfold bound_rounds_L4 at hm156; simp only at hm156
  refine sr ?_
  refine wq Z (QV.lss Z Z Z Z) ?_
  refine nt (WC.seq ?_)
  refine WC.cond Z (fun h158 => ?_) (fun h158 => ?_)
  ·skip
   have hm159 := br_t h158 hm156; clear hm156
   refine sk (WQ.then (WC.seq (WC.block (sr ?_))))
   obtain ⟨c160, hm161⟩ := cs hm159; clear hm159
   obtain ⟨p162, hp163⟩ := h_edges.lenMap.ix (sz := 4) ln_len c160
   refine wq Z (QV.indexSlice sl68 Z Z Z Z hp163) ?_
   refine wq Z (QV.loadAgg ag71 Z Z Z (fun w hw => ((Own.karr 1 Z hk h_edges) w hw).ele hp163 c160)) ?_
   refine WL.effect Z ?_
   refine (EV.alloc (by decide) ze71 (fun b164 => ?_))
   refine WL.effect Z ?_
   refine (EV.store 0 Z Z Z Z Z Z (vs := (Edg.cells (ele edges x46_4))) (show Value.cells _ = List.toArray _ from Z) sz71 (Nat.le_of_ble_eq_true Z) (one_cons Z (one_cons Z (one_cons Z (one_cons Z one_nil)))) ?_)
   refine nt ?_
   refine WC.dr (m := 26) (S := Own noM w [kn noM w.heap.size w w, blk b164 (Edg.cells (ele edges x46_4)) 71, grid u5 hsv7_3 22 3 v7_4]) (by kernel_rfl) (by kernel_rfl) (fun w hw => hw.pick [2, 0, 1] (by decide)) ?_
   refine wz 0 Z Z (QV.move Z Z) ?_
   refine wz 1 Z Z (QV.fieldAddr fd71_0 Z Z) ?_
   refine wz 2 Z Z (QV.load pl3 Z Z (Own.cell 1 Z Z)) ?_
   obtain ⟨c165, hm166⟩ := cs hm161; clear hm161
   obtain ⟨p167, hp168⟩ := hlv7_4.ix (sz := 1) ln_len c165
   refine wz 3 Z Z (QV.indexSlice sl187 Z Z Z Z hp168) ?_
   refine wz 4 Z Z (QV.load pl22 Z Z (Own.gridHdr 2 Z hp168 c165)) ?_
   refine wz 5 Z Z (QV.fieldAddr fd71_1 Z Z) ?_
   refine wz 6 Z Z (QV.load pl3 Z Z (Own.cell 1 Z Z)) ?_
   refine wz 7 Z Z (QV.move Z Z) ?_
   refine wz 8 Z Z (QV.fieldAddr fd71_0 Z Z) ?_
   refine wz 9 Z Z (QV.load pl3 Z Z (Own.cell 1 Z Z)) ?_
   obtain ⟨c169, hm170⟩ := cs hm166; clear hm166
   obtain ⟨p171, hp172⟩ := hlv7_4.ix (sz := 1) ln_len c169
   refine wz 10 Z Z (QV.indexSlice sl187 Z Z Z Z hp172) ?_
   refine wz 11 Z Z (QV.load pl22 Z Z (Own.gridHdr 2 Z hp172 c169)) ?_
   refine wz 12 Z Z (QV.fieldAddr fd71_1 Z Z) ?_
   refine wz 13 Z Z (QV.load pl3 Z Z (Own.cell 1 Z Z)) ?_
   obtain ⟨c173, hm174⟩ := cs hm170; clear hm170
   obtain ⟨p175, hp176⟩ := (hgv7_4.ix ((ele edges x46_4).fr)).ix (sz := 1) ln_len c173
   refine wz 14 Z Z (QV.indexSlice sl22 Z Z Z Z hp176) ?_
   refine wz 15 Z Z (QV.load pl3 Z Z (fun w hw => CellsAt.one 0 (((Own.gridArr 2 Z c169) w hw).ele hp176 c173) Z)) ?_
   refine wz 16 Z Z (QV.fieldAddr fd71_3 Z Z) ?_
   refine wz 17 Z Z (QV.load pl3 Z Z (Own.cell 1 Z Z)) ?_
   refine wz 18 Z Z (QV.move Z Z) ?_
   refine wz 19 Z Z (QV.fieldAddr fd71_2 Z Z) ?_
   refine wz 20 Z Z (QV.load pl3 Z Z (Own.cell 1 Z Z)) ?_
   obtain ⟨c177, hm178⟩ := cs hm174; clear hm174
   refine wz 21 Z Z (QV.mul Z Z Z Z c177) ?_
   obtain ⟨c179, hm180⟩ := cs hm178; clear hm178
   refine wz 22 Z Z (QV.sub Z Z Z Z c179) ?_
   refine wz 23 Z Z (QV.max2 Z Z Z Z) ?_
   obtain ⟨c181, hm182⟩ := cs hm180; clear hm180
   obtain ⟨p183, hp184⟩ := (hgv7_4.ix ((ele edges x46_4).fr)).ix (sz := 1) ln_len c181
   refine wz 24 Z Z (QV.indexSlice sl22 Z Z Z Z hp184) ?_
   refine WD.l 25 Z (by kernel_rfl) Z ?_
   refine (EV.storeG 1 (max (ele (ele v7_4 ((ele edges x46_4).fr)) ((ele edges x46_4).to)) ((ele edges x46_4).wt - (pace * (ele edges x46_4).bk))) Z Z Z Z Z c165 hp184 sz3 ?_)
   have hg186 := hgv7_4.updG ((ele edges x46_4).fr) ((ele edges x46_4).to) (max (ele (ele v7_4 ((ele edges x46_4).fr)) ((ele edges x46_4).to)) ((ele edges x46_4).wt - (pace * (ele edges x46_4).bk)))
   have hl185 : SliceLen u5 (updG v7_4 ((ele edges x46_4).fr) ((ele edges x46_4).to) (max (ele (ele v7_4 ((ele edges x46_4).fr)) ((ele edges x46_4).to)) ((ele edges x46_4).wt - (pace * (ele edges x46_4).bk)))).length := slen_updG hlv7_4
   refine WQ.block (WQ.then (WC.region ?_))
   obtain ⟨c187, hm188⟩ := cs hm182; clear hm182
   refine wq Z (QV.add Z Z Z Z c187) ?_
   refine wm Z ?_
   refine WL.nil ?_
   exact WQ.again2 (updG v7_4 ((ele edges x46_4).fr) ((ele edges x46_4).to) (max (ele (ele v7_4 ((ele edges x46_4).fr)) ((ele edges x46_4).to)) ((ele edges x46_4).wt - (pace * (ele edges x46_4).bk)))) (x46_4 + 1) m154 ⟨up_next hm188 hn157, hl185, hg186⟩ (Nat.lt_succ_self _) ⟨Z, Z, Z, Z, Z, Z, trivial⟩ (fun w hw => hw.pick [1, 2] (by decide))
  have hm189 := br_f h158 hm156; clear hm156
  refine WC.exit (te (te (WQ.block_exit ?_)))
  exact WQ.out2 v7_4 x46_4 ⟨up_brk hm189 hn157, hlv7_4, hgv7_4⟩ ⟨Z, Z, Z, Z, Z, Z, trivial⟩ (fun w hw => hw.pick [0, 1] (by decide))
 rintro v7_3 x20_3 hsv7_3 m190 ⟨hI191, hlv7_3, hgv7_3⟩
 obtain ⟨m192, s193, rfl, hm194, hn195⟩ := iter_step hI191; clear hI191; unfold bound_rounds_L0 at hm194; simp only at hm194
 refine sr ?_
 refine wq Z (QV.lss Z Z Z Z) ?_
 refine nt (WC.seq ?_)
 refine WC.cond Z (fun h196 => ?_) (fun h196 => ?_)
 ·skip
  have hm197 := br_t h196 hm194; clear hm194
  refine sk (WQ.then (WC.seq (WC.block (sr ?_))))
  refine wm Z ?_
  refine wa Z ?_
  refine ns ?_
  refine wm Z ?_
  refine wm Z ?_
  refine wm Z ?_
  refine WL.effect Z ?_
  obtain ⟨c198, hm199⟩ := cs hm197; clear hm197
  obtain ⟨c200, hm201⟩ := cs hm199; clear hm199
  refine (EV.makeSlice (enc := icell) (0 : Int) (by decide) ve22 ze3 Z Z c198 Z c200 (fun u202 hu203 => ?_))
  obtain ⟨c205, hm206⟩ := cs hm201; clear hm201
  obtain ⟨p207, hp208⟩ := hlv7_3.ix (sz := 1) ln_len c205
  refine wq Z (QV.indexSlice sl187 Z Z Z Z hp208) ?_
  refine WL.effect Z ?_
  refine EV.of (C' := Own noM w [grid u5 hsv7_3 22 3 v7_3, vec u202 3 1 (List.map icell (List.replicate n_.toNat (0 : Int))), kn noM w.heap.size w w]) (fun w hw => hw.pick [1, 0, 2] (by decide)) ?_
  refine (EV.storeRow Z Z Z Z hp208 c205 hu203 sz22 ?_)
  have hg210 := GL.upd hgv7_3 hu203 x20_3
  have hl209 : SliceLen u5 (upd v7_3 x20_3 (List.replicate n_.toNat (0 : Int))).length := slen_upd hlv7_3
  refine ns ?_
  refine wm Z ?_
  refine wm Z ?_
  obtain ⟨c211, hm212⟩ := cs hm206; clear hm206
  obtain ⟨p213, hp214⟩ := hl209.ix (sz := 1) ln_len c211
  refine wq Z (QV.indexSlice sl187 Z Z Z Z hp214) ?_
  refine wl pl22 Z (Own.gridHdr 0 Z hp214 c211) ?_
  refine wq Z (QV.lenS Try.underlying22 Z Z (hg210.ix x20_3)) ?_
  refine wm Z ?_
  refine nt ?_
  obtain ⟨o215, ho216, hm217⟩ := bd_some hm212; clear hm212; obtain ⟨n218, ho219⟩ := lp_some ho216
  refine WC.bloop2 (H2 := [kn noM w.heap.size w w]) (τ := [(0, (true, _)), (1, (true, _)), (2, (true, _)), (7, (true, _)), (8, (true, _)), (19, (true, _)), (20, (true, _)), (32, (true, _))]) (fun (v7_19 : List (List Int)) (x33_19 : Int) => [(33, (true, .int .i64 x33_19))]) (fun v7_19 x33_19 => [grid u5 (upd hsv7_3 x20_3 u202) 22 3 v7_19]) (fun v7_19 x33_19 m => iter (bound_rounds_L2 n_ v7_3 x20_3) m (v7_19, x33_19) = some o215 ∧ SliceLen u5 v7_19.length ∧ GL (upd hsv7_3 x20_3 u202) v7_19) (fun v7_19 x33_19 => o215 = .go (v7_19, x33_19) ∧ SliceLen u5 v7_19.length ∧ GL (upd hsv7_3 x20_3 u202) v7_19) (upd v7_3 x20_3 (List.replicate n_.toNat (0 : Int))) 0 n218 ⟨ho219, hl209, hg210⟩ ⟨Z, Z, Z, Z, Z, Z, Z, Z, Z, trivial⟩ (fun w hw => hw.pick [0, 1] (by decide)) ?_ ?_
  ·skip
   rintro v7_19 x33_19 ⟨rfl, hlv7_19, hgv7_19⟩
   refine WQ.block (WQ.then (WC.region ?_))
   obtain ⟨c220, hm221⟩ := cs hm217; clear hm217
   refine wq Z (QV.add Z Z Z Z c220) ?_
   refine wm Z ?_
   refine WL.nil ?_
   exact WQ.again3 v7_19 (x20_3 + 1) (upd hsv7_3 x20_3 u202) m192 ⟨up_next hm221 hn195, hlv7_19, hgv7_19⟩ (Nat.lt_succ_self _) ⟨Z, Z, Z, Z, Z, Z, trivial⟩ (fun w hw => hw.pick [0, 1] (by decide))
  rintro v7_19 x33_19 m222 ⟨hI223, hlv7_19, hgv7_19⟩
  obtain ⟨m224, s225, rfl, hm226, hn227⟩ := iter_step hI223; clear hI223; unfold bound_rounds_L2 at hm226; simp only at hm226
  refine sr ?_
  refine wq Z (QV.lss Z Z Z Z) ?_
  refine nt (WC.seq ?_)
  refine WC.cond Z (fun h228 => ?_) (fun h228 => ?_)
  ·skip
   have hm229 := br_t h228 hm226; clear hm226
   refine sk (WQ.then (WC.seq (WC.block (sr ?_))))
   refine wm Z ?_
   refine wa Z ?_
   refine nr ?_
   refine wm Z ?_
   refine wm Z ?_
   obtain ⟨c230, hm231⟩ := cs hm229; clear hm229
   obtain ⟨p232, hp233⟩ := hlv7_19.ix (sz := 1) ln_len c230
   refine wq Z (QV.indexSlice sl187 Z Z Z Z hp233) ?_
   refine wl pl22 Z (Own.gridHdr 0 Z hp233 c230) ?_
   refine wm Z ?_
   obtain ⟨c234, hm235⟩ := cs hm231; clear hm231
   obtain ⟨p236, hp237⟩ := (hgv7_19.ix x20_3).ix (sz := 1) ln_len c234
   refine wq Z (QV.indexSlice sl22 Z Z Z Z hp237) ?_
   refine WL.effect Z ?_
   refine (EV.storeG 0 (-1099511627776) Z Z Z Z Z c230 hp237 sz3 ?_)
   have hg239 := hgv7_19.updG x20_3 x33_19 (-1099511627776)
   have hl238 : SliceLen u5 (updG v7_19 x20_3 x33_19 (-1099511627776)).length := slen_updG hlv7_19
   refine WL.nil (WQ.block (WQ.then (WC.region ?_)))
   obtain ⟨c240, hm241⟩ := cs hm235; clear hm235
   refine wq Z (QV.add Z Z Z Z c240) ?_
   refine wm Z ?_
   refine WL.nil ?_
   exact WQ.again2 (updG v7_19 x20_3 x33_19 (-1099511627776)) (x33_19 + 1) m224 ⟨up_next hm241 hn227, hl238, hg239⟩ (Nat.lt_succ_self _) ⟨Z, Z, Z, Z, Z, Z, Z, Z, Z, trivial⟩ (fun w hw => hw.pick [0, 1] (by decide))
  have hm242 := br_f h228 hm226; clear hm226
  refine WC.exit (te (te (WQ.block_exit ?_)))
  exact WQ.out2 v7_19 x33_19 ⟨up_brk hm242 hn227, hlv7_19, hgv7_19⟩ ⟨Z, Z, Z, Z, Z, Z, Z, Z, Z, trivial⟩ (fun w hw => hw.pick [0, 1] (by decide))
 have hm243 := br_f h196 hm194; clear hm194
 refine WC.exit (te (te (WQ.block_exit ?_)))
 exact WQ.out3 v7_3 x20_3 hsv7_3 ⟨up_brk hm243 hn195, hlv7_3, hgv7_3⟩ ⟨Z, Z, Z, Z, Z, Z, trivial⟩ (fun w hw => hw.pick [0, 1] (by decide))
theorem bound_Bound_w {v_l_logs : Value} {v_l_body : Value} {v_l_outs : Value} {l : Lp} {t : Tgt} {r : Int × Int × Int} (w : World) (hm : bound_Bound_m l t = some r) (h_l_logs : Arr w v_l_logs 1 (l.logs.map icell)) (h_l_body : Arr w v_l_body 9 (l.body.map Stm.cells)) (h_l_outs : Arr w v_l_outs 1 (l.outs.map icell)) : Calls Try.prog 70 #[.agg #[v_l_logs, v_l_body, v_l_outs], .agg #[.int .i64 t.u0, .int .i64 t.u1, .int .i64 t.u2, .int .i64 t.w0, .int .i64 t.w1, .int .i64 t.w2, .int .i64 t.regs]] w (fun e w' => e = .returned (.tuple #[.int .i64 r.1, .int .i64 r.2.1, .int .i64 r.2.2]) ∧ Grow w w') := by
 unfold bound_Bound_m at hm
 have hk := Base.rfl (w := w)
 refine calls_of_WC (n := 68) (args := [.agg #[v_l_logs, v_l_body, v_l_outs], .agg #[.int .i64 t.u0, .int .i64 t.u1, .int .i64 t.u2, .int .i64 t.w0, .int .i64 t.w1, .int .i64 t.w2, .int .i64 t.regs]]) Try.func70 Z Z (Nat.le_of_ble_eq_true Z) ?_ (Own.startK hk (Own.start w))
 refine sr ?_
 refine WL.effect Z ?_
 refine (EV.boxAgg (by decide) Z Z (fun b1 => ?_))
 refine WL.effect Z ?_
 refine (EV.boxAgg (by decide) Z Z (fun b2 => ?_))
 refine wa Z ?_
 refine wa Z ?_
 refine wa Z ?_
 refine ns ?_
 refine wq Z (QV.loadAgg ag25 Z Z Z (Own.cellsBlk 1 Z)) ?_
 refine wq Z (QV.loadAgg ag28 Z Z Z (Own.cellsBlk 0 Z)) ?_
 refine WL.effect Z ?_
 obtain ⟨x3, hx4, hm5⟩ := bd_some hm; clear hm
 refine EV.of (C' := Own noM w [kn noM w.heap.size w w, blk b2 t.cells 28, blk b1 [v_l_logs, v_l_body, v_l_outs] 25]) (fun w hw => hw.pick [2, 0, 1] (by decide)) ?_
 refine (EV.callR (X := Value × World) (R := []) (fun X => .tuple #[X.1, .int .i64 x3.2]) (fun X => []) (fun X => X.2) (fun X => Arr X.2 X.1 4 (x3.1.map Edg.cells)) hk (fun _ h => by cases h; decide) en62 (EvAll.cons Z Z (EvAll.cons Z Z EvAll.nil)) (fun M w h1 h2 => have h := dep_Edges_w hx4 h_l_logs h_l_body h_l_outs M w h1 h2; h) (fun X6 hF6 hle6 => ?_))
 refine wm Z ?_
 refine wq Z (QV.extract Z Z Z) ?_
 refine wq Z (QV.extract Z Z Z) ?_
 refine wa Z ?_
 refine wa Z ?_
 refine nt (WC.seq (sr ?_))
 refine wm Z ?_
 refine wq Z (QV.neq Z Z Z Z) ?_
 refine nt ?_
 refine WC.cond Z (fun h7 => ?_) (fun h7 => ?_)
 ·skip
  have hm8 := br_t h7 hm5; clear hm5
  refine sr ?_
  refine wm Z ?_
  refine wa Z ?_
  refine wa Z ?_
  refine wa Z ?_
  refine nt (WC.ret (tr ?_))
  obtain rfl := (eq_of_some hm8).symm
  refine WQ.ret3 Z Z Z Z (fun w hw => ?_)
  exact ⟨Z, Own.kgrow (fun _ x => x) hw⟩
 have hm9 := br_f h7 hm5; clear hm5
 refine sk (WQ.then (sr ?_))
 refine WL.effect Z ?_
 refine (EV.alloc (by decide) ze26 (fun b10 => ?_))
 refine nt (WC.seq (sr ?_))
 refine wf fd25_1 Z ?_
 refine wl pl23 Z (Own.cell 3 Z Z) ?_
 refine wq Z (QV.lenS Try.underlying23 Z Z (h_l_body.le hle6).lenMap) ?_
 refine wm Z ?_
 refine nt ?_
 obtain ⟨o11, ho12, hm13⟩ := bd_some hm9; clear hm9; obtain ⟨n14, ho15⟩ := lp_some ho12
 refine WC.bloop2 (H2 := [kn noM w.heap.size w X6.2, blk b2 t.cells 28, blk b1 [v_l_logs, v_l_body, v_l_outs] 25]) (τ := [(2, (true, _)), (3, (true, _)), (7, (true, _)), (8, (true, _)), (23, (true, _)), (24, (true, _))]) (fun (b10n_1 : List Int) (x25_1 : Int) => [(25, (true, .int .i64 x25_1))]) (fun b10n_1 x25_1 => [blk b10 (List.map i64v b10n_1) 26]) (fun b10n_1 x25_1 m => iter (bound_Bound_L0 l) m (b10n_1, x25_1) = some o11) (fun b10n_1 x25_1 => o11 = .go (b10n_1, x25_1)) ([0, 0, 0] : List Int) 0 n14 ho15 ⟨Z, Z, Z, Z, Z, Z, Z, trivial⟩ (fun w hw => hw.pick [0, 1, 2, 3] (by decide)) ?_ ?_
 ·skip
  rintro b10n_1 x25_1 rfl
  refine WQ.then (sr ?_)
  refine wa Z ?_
  refine wa Z ?_
  refine nt (WC.seq (sr ?_))
  obtain ⟨c16, hm17⟩ := cs hm13; clear hm13
  refine wq Z (QV.loadAgg (cs := List.map i64v b10n_1) ag26 ((List.length_map _).trans c16) Z Z (Own.cellsL (c := i64v) (xs := b10n_1) 0 Z Z)) ?_
  refine wm Z ?_
  refine nt ?_
  obtain ⟨o18, ho19, hm20⟩ := bd_some hm17; clear hm17; obtain ⟨n21, ho22⟩ := lp_some ho19
  refine WC.bloop2 (H2 := [blk b10 (List.map i64v b10n_1) 26, kn noM w.heap.size w X6.2, blk b2 t.cells 28, blk b1 [v_l_logs, v_l_body, v_l_outs] 25]) (τ := [(2, (true, _)), (3, (true, _)), (5, (true, _)), (7, (true, _)), (37, (true, _))]) (fun (units4_2 : Int) (x38_2 : Int) => [(4, (true, .int .i64 units4_2)), (38, (true, .int .i64 x38_2))]) (fun units4_2 x38_2 => []) (fun units4_2 x38_2 m => iter (bound_Bound_L2 t b10n_1) m (units4_2, x38_2) = some o18) (fun units4_2 x38_2 => o18 = .go (units4_2, x38_2)) 1 0 n21 ho22 ⟨Z, Z, Z, Z, Z, Z, Z, trivial⟩ (fun w hw => hw.pick [0, 1, 2, 3] (by decide)) ?_ ?_
  ·skip
   rintro units4_2 x38_2 rfl
   refine WQ.then (WC.seq ?_)
   obtain ⟨o23, ho24, hm25⟩ := bd_some hm20; clear hm20; obtain ⟨n26, ho27⟩ := lp_some ho24
   refine WC.bloop1 (H2 := [blk b10 (List.map i64v b10n_1) 26, kn noM w.heap.size w X6.2, blk b2 t.cells 28, blk b1 [v_l_logs, v_l_body, v_l_outs] 25]) (τ := [(2, (true, _)), (4, (true, _)), (7, (true, _))]) (fun (least5_3 : Int) => [(5, (true, .int .i64 least5_3))]) (fun least5_3 => []) (fun least5_3 m => iter (bound_Bound_L4 l x3) m least5_3 = some o23) (fun least5_3 => o23 = .go least5_3) 1 n26 ho27 ⟨Z, Z, Z, Z, trivial⟩ (fun w hw => hw.pick [0, 1, 2, 3] (by decide)) ?_ ?_
   ·skip
    rintro least5_3 rfl
    refine WQ.then (sr ?_)
    refine wm Z ?_
    refine wm Z ?_
    refine wa Z ?_
    refine wa Z ?_
    refine wa Z ?_
    refine nt (WC.ret ?_)
    obtain rfl := (eq_of_some hm25).symm
    refine WQ.ret3 Z Z Z Z (fun w hw => ?_)
    exact ⟨Z, Own.kgrow (fun _ x => x) hw⟩
   rintro least5_3 m28 hI29
   obtain ⟨m30, s31, rfl, hm32, hn33⟩ := iter_step hI29; clear hI29; unfold bound_Bound_L4 at hm32
   refine WC.seq (sr ?_)
   refine wf fd25_1 Z ?_
   refine wl pl23 Z (Own.cell 3 Z Z) ?_
   refine wq Z (QV.lenS Try.underlying23 Z Z (h_l_body.le hle6).lenMap) ?_
   refine wm Z ?_
   refine wm Z ?_
   obtain ⟨x34, hx35, hm36⟩ := bd_some hm32; clear hm32
   refine wq Z (QV.call en106 (EvAll.cons Z Z (EvAll.cons Z Z (EvAll.cons Z Z EvAll.nil))) (fun w hw => have h := bound_rounds_w w hx35 ((Own.karr 1 Z hk hF6) w hw); h)) ?_
   refine wq Z (QV.not Z Z) ?_
   refine nt ?_
   refine WC.cond Z (fun h37 => ?_) (fun h37 => ?_)
   ·skip
    have hm38 := br_t h37 hm36; clear hm36
    refine sk (WQ.then (WC.block (WC.region ?_)))
    refine wm Z ?_
    obtain ⟨c39, hm40⟩ := cs hm38; clear hm38
    refine wq Z (QV.add Z Z Z Z c39) ?_
    refine wa Z ?_
    refine WL.nil (WQ.block ?_)
    exact WQ.again1 (least5_3 + 1) m30 (up_next hm40 hn33) (Nat.lt_succ_self _) ⟨Z, Z, Z, Z, trivial⟩ (fun w hw => hw.pick [0, 1, 2, 3] (by decide))
   have hm41 := br_f h37 hm36; clear hm36
   refine WC.exit (te (te (WQ.block_exit ?_)))
   exact WQ.out1 least5_3 (up_brk hm41 hn33) ⟨Z, Z, Z, Z, trivial⟩ (fun w hw => hw.pick [0, 1, 2, 3] (by decide))
  rintro units4_2 x38_2 m42 hI43
  obtain ⟨m44, s45, rfl, hm46, hn47⟩ := iter_step hI43; clear hI43; unfold bound_Bound_L2 at hm46; simp only at hm46
  refine sr ?_
  refine wq Z (QV.lss Z Z Z Z) ?_
  refine nt (WC.seq ?_)
  refine WC.cond Z (fun h48 => ?_) (fun h48 => ?_)
  ·skip
   have hm49 := br_t h48 hm46; clear hm46
   refine sk (WQ.then (WC.seq (WC.block (sr ?_))))
   refine wm Z ?_
   obtain ⟨c50, hm51⟩ := cs hm49; clear hm49
   refine wq Z (QV.indexL (xs := b10n_1) Try.underlying26 pl3 sz3 Z Z Z Z c16 c50) ?_
   refine wa Z ?_
   refine wa Z ?_
   refine nt ?_
   refine WC.dr (m := 15) (S := Own noM w [kn noM w.heap.size w X6.2, blk b10 (List.map i64v b10n_1) 26, blk b2 t.cells 28, blk b1 [v_l_logs, v_l_body, v_l_outs] 25]) (by kernel_rfl) (by kernel_rfl) (fun w hw => hw.pick [1, 0, 2, 3] (by decide)) ?_
   refine wz 0 Z Z (QV.move Z Z) ?_
   refine wz 1 Z Z (QV.move Z Z) ?_
   refine wz 2 Z Z (QV.move Z Z) ?_
   refine wz 3 Z Z (QV.fieldAddr fd28_0 Z Z) ?_
   obtain ⟨c52, hm53⟩ := cs hm51; clear hm51
   refine wz 4 Z Z (QV.indexArray ar26 Z Z Z Z c52.1 c52.2) ?_
   refine wz 5 Z Z (QV.load pl3 Z Z (Own.cellSym 2 Z (sel3_get (off := 0) (i := x38_2) c52.1 c52.2 Z Z Z) (addr_sym _ _ _))) ?_
   obtain ⟨c54, hm55⟩ := cs hm53; clear hm53
   refine wz 6 Z Z (QV.add Z Z Z Z c54) ?_
   obtain ⟨c56, hm57⟩ := cs hm55; clear hm55
   refine wz 7 Z Z (QV.sub Z Z Z Z c56) ?_
   refine wz 8 Z Z (QV.move Z Z) ?_
   refine wz 9 Z Z (QV.fieldAddr fd28_0 Z Z) ?_
   obtain ⟨c58, hm59⟩ := cs hm57; clear hm57
   refine wz 10 Z Z (QV.indexArray ar26 Z Z Z Z c58.1 c58.2) ?_
   refine wz 11 Z Z (QV.load pl3 Z Z (Own.cellSym 2 Z (sel3_get (off := 0) (i := x38_2) c58.1 c58.2 Z Z Z) (addr_sym _ _ _))) ?_
   obtain ⟨c60, hm61⟩ := cs hm59; clear hm59
   obtain ⟨c62, hm63⟩ := cs hm61; clear hm61
   refine wz 12 Z Z (QV.quo Z Z Z Z c60 c62) ?_
   refine wz 13 Z Z (QV.max2 Z Z Z Z) ?_
   refine wz 14 Z Z (QV.assign Z Z) ?_
   refine WD.e (by kernel_rfl) ?_
   refine WQ.block (WQ.then (WC.region ?_))
   obtain ⟨c64, hm65⟩ := cs hm63; clear hm63
   refine wq Z (QV.add Z Z Z Z c64) ?_
   refine wm Z ?_
   refine WL.nil ?_
   exact WQ.again2 (max units4_2 (Int.tdiv (((ele b10n_1 x38_2) + (sel3 t.u0 t.u1 t.u2 x38_2)) - 1) (sel3 t.u0 t.u1 t.u2 x38_2))) (x38_2 + 1) m44 (up_next hm65 hn47) (Nat.lt_succ_self _) ⟨Z, Z, Z, Z, Z, Z, Z, trivial⟩ (fun w hw => hw.pick [0, 1, 2, 3] (by decide))
  have hm66 := br_f h48 hm46; clear hm46
  refine WC.exit (te (te (WQ.block_exit ?_)))
  exact WQ.out2 units4_2 x38_2 (up_brk hm66 hn47) ⟨Z, Z, Z, Z, Z, Z, Z, trivial⟩ (fun w hw => hw.pick [0, 1, 2, 3] (by decide))
 rintro b10n_1 x25_1 m67 hI68
 obtain ⟨m69, s70, rfl, hm71, hn72⟩ := iter_step hI68; clear hI68; unfold bound_Bound_L0 at hm71; simp only at hm71
 refine sr ?_
 refine wq Z (QV.lss Z Z Z Z) ?_
 refine nt (WC.seq ?_)
 refine WC.cond Z (fun h73 => ?_) (fun h73 => ?_)
 ·skip
  have hm74 := br_t h73 hm71; clear hm71
  refine sk (WQ.then (WC.seq (WC.block (sr ?_))))
  obtain ⟨c75, hm76⟩ := cs hm74; clear hm74
  obtain ⟨p77, hp78⟩ := (h_l_body.le hle6).lenMap.ix (sz := 9) ln_len c75
  refine wq Z (QV.indexSlice sl23 Z Z Z Z hp78) ?_
  refine wq Z (QV.loadAgg ag81 Z Z Z (fun w hw => ((Own.karr 1 Z hk (h_l_body.le hle6)) w hw).ele hp78 c75)) ?_
  refine WL.effect Z ?_
  refine (EV.alloc (by decide) ze81 (fun b79 => ?_))
  refine WL.effect Z ?_
  refine (EV.store 0 Z Z Z Z Z Z (vs := (Stm.cells (ele l.body x25_1))) (show Value.cells _ = List.toArray _ from Z) sz81 (Nat.le_of_ble_eq_true Z) (one_cons Z (one_cons Z (one_cons Z (one_cons Z (one_cons Z (one_cons Z (one_cons Z (one_cons Z (one_cons Z one_nil))))))))) ?_)
  refine nr ?_
  refine wf fd81_0 Z ?_
  refine wl pl3 Z (Own.cell 0 Z Z) ?_
  obtain ⟨x80, hx81, hm82⟩ := bd_some hm76; clear hm76
  refine wq Z (QV.call en89 (EvAll.cons Z Z EvAll.nil) (fun w hw => have h := num_Class_w w hx81 ; h)) ?_
  obtain ⟨c83, hm84⟩ := cs hm82; clear hm82
  refine wq Z (QV.indexArray ar26 Z Z Z Z c83.1 c83.2) ?_
  obtain ⟨c85, hm86⟩ := cs hm84; clear hm84
  refine wl pl3 rfl (Own.cellG (c := i64v) (xs := b10n_1) 1 rfl c85 (by first | rfl | exact addr_dyn0 | exact addr_dyn c83.1)) ?_
  obtain ⟨c87, hm88⟩ := cs hm86; clear hm86
  refine wq Z (QV.add Z Z Z Z c87) ?_
  obtain ⟨c89, hm90⟩ := cs hm88; clear hm88
  refine wq Z (QV.indexArray ar26 Z Z Z Z c89.1 c89.2) ?_
  refine WL.effect Z ?_
  obtain ⟨c91, hm92⟩ := cs hm90; clear hm90
  refine (EV.storeB (c := i64v) (xs := b10n_1) 1 x80 ((ele b10n_1 x80) + 1) rfl rfl rfl rfl rfl (by first | rfl | exact addr_dyn0 | exact addr_lit _ | exact addr_dyn (c89).1) c91 rfl rfl sz3 ?_)
  refine WL.nil (WQ.block (WQ.then (WC.region ?_)))
  obtain ⟨c93, hm94⟩ := cs hm92; clear hm92
  refine wq Z (QV.add Z Z Z Z c93) ?_
  refine wm Z ?_
  refine WL.nil ?_
  exact WQ.again2 (upd b10n_1 x80 ((ele b10n_1 x80) + 1)) (x25_1 + 1) m69 (up_next hm94 hn72) (Nat.lt_succ_self _) ⟨Z, Z, Z, Z, Z, Z, Z, trivial⟩ (fun w hw => hw.pick [1, 2, 3, 4] (by decide))
 have hm95 := br_f h73 hm71; clear hm71
 refine WC.exit (te (te (WQ.block_exit ?_)))
 exact WQ.out2 b10n_1 x25_1 (up_brk hm95 hn72) ⟨Z, Z, Z, Z, Z, Z, Z, trivial⟩ (fun w hw => hw.pick [0, 1, 2, 3] (by decide))
end Go.Proofs.Ytaimbkndebaaiac
end
section
namespace Go.Proofs.Ytaimbkndebaaiac
open Go.Rd
open TNum TLoop TKern TKeep TOrd TCpt TDep TSched1 TEmit TCheck TRegs TBound
namespace TMake
theorem en70 : Go.Rd.Enters Try.prog 70 := ⟨Try.f70, Try.func70, by kernel_rfl, by kernel_rfl⟩
theorem en71 : Go.Rd.Enters Try.prog 71 := ⟨Try.f71, Try.func71, by kernel_rfl, by kernel_rfl⟩
theorem en72 : Go.Rd.Enters Try.prog 72 := ⟨Try.f72, Try.func72, by kernel_rfl, by kernel_rfl⟩
theorem sz91 : SizeT Try.prog 91 2 := by unfold SizeT; kernel_rfl
theorem ze91 : ZeroT Try.prog 91 [.int .i64 0, .slice none 0 0] := by unfold ZeroT; kernel_rfl
end TMake
open TMake
theorem sched_early_w {v_l_logs : Value} {v_l_body : Value} {v_l_outs : Value} {v_edges : Value} {l : Lp} {t : Tgt} {pace : Int} {edges : List Edg} {r : Pln} {K0 : World} (hm : sched_early_m l t pace edges = some r) (h_l_logs : Arr K0 v_l_logs 1 (l.logs.map icell)) (h_l_body : Arr K0 v_l_body 9 (l.body.map Stm.cells)) (h_l_outs : Arr K0 v_l_outs 1 (l.outs.map icell)) (h_edges : Arr K0 v_edges 4 (edges.map Edg.cells)) (M : Nat → Prop) (w : World) (hk : Base M K0 w) (hw0 : Own M w [] w) : Calls Try.prog 72 #[.agg #[v_l_logs, v_l_body, v_l_outs], .agg #[.int .i64 t.u0, .int .i64 t.u1, .int .i64 t.u2, .int .i64 t.w0, .int .i64 t.w1, .int .i64 t.w2, .int .i64 t.regs], .int .i64 pace, v_edges] w (fun e w' => ∃ X : Value × World, e = .returned (.agg #[.int .i64 r.pace, X.1]) ∧ Own M w (kn M w.heap.size K0 X.2 :: []) w' ∧ Arr X.2 X.1 1 (r.times.map icell)) := by
 unfold sched_early_m at hm
 refine calls_of_WC (n := 96) (args := [.agg #[v_l_logs, v_l_body, v_l_outs], .agg #[.int .i64 t.u0, .int .i64 t.u1, .int .i64 t.u2, .int .i64 t.w0, .int .i64 t.w1, .int .i64 t.w2, .int .i64 t.regs], .int .i64 pace, v_edges]) Try.func72 Z Z (Nat.le_of_ble_eq_true Z) ?_ (Own.startK hk hw0)
 refine sr ?_
 refine WL.effect Z ?_
 refine (EV.boxAgg (by decide) Z Z (fun b1 => ?_))
 refine WL.effect Z ?_
 refine (EV.boxAgg (by decide) Z Z (fun b2 => ?_))
 refine WL.effect Z ?_
 refine (EV.alloc (by decide) ze91 (fun b3 => ?_))
 refine ns ?_
 refine wm Z ?_
 refine wq Z (QV.build (ps := [(0, .tmp 17)]) (cells := [.int .i64 pace, .slice none 0 0]) (EvAll.cons Z Z EvAll.nil) (by kernel_rfl)) ?_
 refine WL.effect Z ?_
 refine (EV.alloc (by decide) ze91 (fun b4 => ?_))
 refine WL.effect Z ?_
 refine (EV.store 0 Z Z Z Z Z Z (vs := [.int .i64 pace, .slice none 0 0]) (show Value.cells _ = List.toArray _ from Z) sz91 (Nat.le_of_ble_eq_true Z) (one_cons Z (one_cons Z one_nil)) ?_)
 refine ns ?_
 refine WL.effect Z ?_
 refine (EV.makeMap (ke := kP) (ve := i64v) (by decide) (fun b5 => ?_))
 refine wa Z ?_
 refine nt (WC.seq (sr ?_))
 refine wf fd25_1 Z ?_
 refine wl pl23 Z (Own.cell 4 Z Z) ?_
 refine wq Z (QV.lenS Try.underlying23 Z Z h_l_body.lenMap) ?_
 refine wm Z ?_
 refine nt ?_
 refine WK.of (fun w hw => hw.vecNil (E := 3) (sz := 1) (enc := icell)) ?_
 obtain ⟨o7, ho8, hm9⟩ := bd_some hm; clear hm; obtain ⟨n10, ho11⟩ := lp_some ho8
 refine WC.bloop4 (H2 := [blk b3 [.int .i64 0, .slice none 0 0] 91, blk b2 t.cells 28, blk b1 [v_l_logs, v_l_body, v_l_outs] 25, kn M w.heap.size K0 K0]) (τ := [(2, (true, _)), (3, (true, _)), (5, (true, _)), (8, (true, _)), (9, (true, _)), (10, (true, _)), (21, (true, _)), (22, (true, _))]) (fun (v6_7 : List Int) (m5n_7 : List ((Int × Int) × Int)) (x23_7 : Int) (uv6_7 : Value) => [(23, (true, .int .i64 x23_7))]) (fun v6_7 m5n_7 x23_7 uv6_7 => [vec uv6_7 3 1 (List.map icell v6_7), mapR b5 kP i64v m5n_7, blk b4 [.int .i64 pace, uv6_7] 91]) (fun v6_7 m5n_7 x23_7 uv6_7 m => iter (sched_early_L0 l t pace edges) m (v6_7, m5n_7, x23_7) = some o7 ∧ SliceLen uv6_7 v6_7.length) (fun v6_7 m5n_7 x23_7 uv6_7 => o7 = .go (v6_7, m5n_7, x23_7) ∧ SliceLen uv6_7 v6_7.length) [] ([] : List ((Int × Int) × Int)) 0 (.slice none 0 0) n10 ⟨ho11, SliceLen.nil⟩ ⟨Z, Z, Z, Z, Z, Z, Z, Z, Z, trivial⟩ (fun w hw => hw.pick [0, 1, 2, 3, 4, 5, 6] (by decide)) ?_ ?_
 ·skip
  rintro v6_7 m5n_7 x23_7 uv6_7 ⟨rfl, hlv6_7⟩
  refine WQ.then (sr ?_)
  refine wq Z (QV.loadAgg ag91 Z Z Z (Own.cellsBlk 2 Z)) ?_
  refine WL.effect Z ?_
  refine (EV.store 3 Z Z Z Z Z Z (vs := [.int .i64 pace, uv6_7]) (show Value.cells _ = List.toArray _ from Z) sz91 (Nat.le_of_ble_eq_true Z) (one_cons Z (one_cons (SliceLen.one hlv6_7) one_nil)) ?_)
  refine nt (WC.ret ?_)
  obtain rfl := (eq_of_some hm9).symm
  refine WK.of (C' := Own M w [kn M w.heap.size K0 K0, vec uv6_7 3 1 (List.map icell v6_7), mapR b5 kP i64v m5n_7, blk b4 [.int .i64 pace, uv6_7] 91, blk b3 [.int .i64 pace, uv6_7] 91, blk b2 t.cells 28, blk b1 [v_l_logs, v_l_body, v_l_outs] 25]) (fun w hw => hw.pick [6, 0, 1, 2, 3, 4, 5] (by decide)) ?_
  refine WK.freeze hk (fun k12 hle12 hr12 => ?_)
  have hA12 := vec_arr hr12
  refine WQ.retCell Z ag91 Z Z (Own.cellsBlk 3 Z) (fun w hw => ?_)
  exact ⟨(uv6_7, k12), Z, hw.pick [0] (by decide), hA12⟩
 rintro v6_7 m5n_7 x23_7 uv6_7 m13 ⟨hI14, hlv6_7⟩
 obtain ⟨m15, s16, rfl, hm17, hn18⟩ := iter_step hI14; clear hI14; unfold sched_early_L0 at hm17; simp only at hm17
 refine sr ?_
 refine wq Z (QV.lss Z Z Z Z) ?_
 refine nt (WC.seq ?_)
 refine WC.cond Z (fun h19 => ?_) (fun h19 => ?_)
 ·skip
  have hm20 := br_t h19 hm17; clear hm17
  refine sk (WQ.then (WC.seq (WC.block (sr ?_))))
  refine wm Z ?_
  obtain ⟨c21, hm22⟩ := cs hm20; clear hm20
  obtain ⟨p23, hp24⟩ := h_l_body.lenMap.ix (sz := 9) ln_len c21
  refine wq Z (QV.indexSlice sl23 Z Z Z Z hp24) ?_
  refine wq Z (QV.loadAgg ag81 Z Z Z (fun w hw => ((Own.karr 6 Z hk h_l_body) w hw).ele hp24 c21)) ?_
  refine WL.effect Z ?_
  refine (EV.alloc (by decide) ze81 (fun b25 => ?_))
  refine wa Z ?_
  refine WL.effect Z ?_
  refine (EV.store 0 Z Z Z Z Z Z (vs := (Stm.cells (ele l.body x23_7))) (show Value.cells _ = List.toArray _ from Z) sz81 (Nat.le_of_ble_eq_true Z) (one_cons Z (one_cons Z (one_cons Z (one_cons Z (one_cons Z (one_cons Z (one_cons Z (one_cons Z (one_cons Z one_nil))))))))) ?_)
  refine ns ?_
  refine wa Z ?_
  refine nt (WC.seq (sr ?_))
  refine wm Z ?_
  refine wq Z (QV.lenS Try.underlying68 Z Z h_edges.lenMap) ?_
  refine wm Z ?_
  refine nt ?_
  obtain ⟨o26, ho27, hm28⟩ := bd_some hm22; clear hm22; obtain ⟨n29, ho30⟩ := lp_some ho27
  refine WC.bloop2 (H2 := [blk b25 (Stm.cells (ele l.body x23_7)) 81, vec uv6_7 3 1 (List.map icell v6_7), mapR b5 kP i64v m5n_7, blk b4 [.int .i64 pace, uv6_7] 91, blk b3 [.int .i64 0, .slice none 0 0] 91, blk b2 t.cells 28, blk b1 [v_l_logs, v_l_body, v_l_outs] 25, kn M w.heap.size K0 K0]) (τ := [(2, (true, _)), (3, (true, _)), (5, (true, _)), (8, (true, _)), (9, (true, _)), (10, (true, _)), (11, (true, _)), (12, (true, _)), (21, (true, _)), (22, (true, _)), (23, (true, _)), (28, (true, _)), (29, (true, _))]) (fun (time13_8 : Int) (x30_8 : Int) => [(13, (true, .int .i64 time13_8)), (30, (true, .int .i64 x30_8))]) (fun time13_8 x30_8 => []) (fun time13_8 x30_8 m => iter (sched_early_L2 pace edges v6_7 x23_7) m (time13_8, x30_8) = some o26) (fun time13_8 x30_8 => o26 = .go (time13_8, x30_8)) 0 0 n29 ho30 ⟨Z, Z, Z, Z, Z, Z, Z, Z, Z, Z, Z, Z, Z, Z, Z, trivial⟩ (fun w hw => hw.pick [0, 1, 2, 3, 4, 5, 6, 7] (by decide)) ?_ ?_
  ·skip
   rintro time13_8 x30_8 rfl
   refine WQ.then (sr ?_)
   refine wf fd81_0 Z ?_
   refine wl pl3 Z (Own.cell 0 Z Z) ?_
   obtain ⟨x31, hx32, hm33⟩ := bd_some hm28; clear hm28
   refine wq Z (QV.call en89 (EvAll.cons Z Z EvAll.nil) (fun w hw => have h := num_Class_w w hx32 ; h)) ?_
   refine wa Z ?_
   refine nt (WC.seq ?_)
   obtain ⟨o34, ho35, hm36⟩ := bd_some hm33; clear hm33; obtain ⟨n37, ho38⟩ := lp_some ho35
   refine WC.bloop1 (H2 := [blk b25 (Stm.cells (ele l.body x23_7)) 81, vec uv6_7 3 1 (List.map icell v6_7), mapR b5 kP i64v m5n_7, blk b4 [.int .i64 pace, uv6_7] 91, blk b3 [.int .i64 0, .slice none 0 0] 91, blk b2 t.cells 28, blk b1 [v_l_logs, v_l_body, v_l_outs] 25, kn M w.heap.size K0 K0]) (τ := [(2, (true, _)), (3, (true, _)), (5, (true, _)), (8, (true, _)), (9, (true, _)), (10, (true, _)), (16, (true, _)), (21, (true, _)), (22, (true, _)), (23, (true, _))]) (fun (time13_9 : Int) => [(13, (true, .int .i64 time13_9))]) (fun time13_9 => []) (fun time13_9 m => iter (sched_early_L4 t pace m5n_7 x31) m time13_9 = some o34) (fun time13_9 => o34 = .go time13_9) time13_8 n37 ho38 ⟨Z, Z, Z, Z, Z, Z, Z, Z, Z, Z, Z, trivial⟩ (fun w hw => hw.pick [0, 1, 2, 3, 4, 5, 6, 7] (by decide)) ?_ ?_
   ·skip
    rintro time13_9 rfl
    refine WQ.then (WC.seq ?_)
    refine WC.dr (m := 11) (S := Own M w [kn M w.heap.size K0 K0, blk b25 (Stm.cells (ele l.body x23_7)) 81, vec uv6_7 3 1 (List.map icell v6_7), mapW b5 kP i64v 0 m5n_7, blk b4 [.int .i64 pace, uv6_7] 91, blk b3 [.int .i64 0, .slice none 0 0] 91, blk b2 t.cells 28, blk b1 [v_l_logs, v_l_body, v_l_outs] 25]) (by kernel_rfl) (by kernel_rfl) (fun w hw => Own.mapWeak 3 0 Z (hw.pick [7, 0, 1, 2, 3, 4, 5, 6] (by decide))) ?_
    refine wz 0 Z Z (QV.move Z Z) ?_
    refine wz 1 Z Z (QV.move Z Z) ?_
    refine wz 2 Z Z (QV.move Z Z) ?_
    obtain ⟨c39, hm40⟩ := cs hm36; clear hm36
    refine wz 3 Z Z (QV.rem Z Z Z Z c39) ?_
    refine wz 4 Z Z (QV.move Z Z) ?_
    refine wz 5 Z Z (QV.build (ps := [(0, .tmp 81), (1, .tmp 82)]) (cells := [.int .i64 (Int.tmod time13_9 pace), .int .i64 x31]) (EvAll.cons Z Z (EvAll.cons Z Z EvAll.nil)) (by kernel_rfl)) ?_
    refine wz 6 Z Z (QV.lookupW (k := ((Int.tmod time13_9 pace), x31)) 3 0 mt145 kt146 zv3i64v Z Z Z Z Z) ?_
    obtain ⟨c41, hm42⟩ := cs hm40; clear hm40
    refine wz 7 Z Z (QV.add Z Z Z Z c41) ?_
    refine WD.o 8 Z (by kernel_rfl) Z ?_
    refine (EV.mapEntry (by decide) ((Int.tmod time13_9 pace), x31) 2 0 mt145 kt146 zv3i64v Z Z Z Z Z (fun s43 => ?_))
    refine WD.b (H' := [kn M w.heap.size K0 K0, blk b25 (Stm.cells (ele l.body x23_7)) 81, vec uv6_7 3 1 (List.map icell v6_7), mapW b5 kP i64v 0 m5n_7, blk b4 [.int .i64 pace, uv6_7] 91, blk b3 [.int .i64 0, .slice none 0 0] 91, blk b2 t.cells 28, blk b1 [v_l_logs, v_l_body, v_l_outs] 25]) (fun w hw => Own.midWeak 3 Z (hw.pick [7, 0, 1, 2, 3, 4, 5, 6] (by decide))) (fun w hw => hw.pick [0, 1, 2, 3, 4, 5, 6, 7] (by decide)) ?_
    refine wz 9 Z Z (QV.extract Z Z Z) ?_
    refine WD.l 10 Z (by kernel_rfl) Z ?_
    refine (EV.entryStore (ke := kP) (ve := i64v) ((Int.tmod time13_9 pace), x31) 2 ((mget m5n_7 ((Int.tmod time13_9 pace), x31) 0) + 1) s43 Z Z Z Z Z Z Z ?_)
    refine WQ.then (WC.region ?_)
    refine wf fd91_1 Z ?_
    refine wl pl22 Z (Own.cell 3 Z Z) ?_
    refine wm Z ?_
    refine WL.effect Z ?_
    refine (EV.buildSlice (by decide) sz_22 (by decide) (by decide) (ps := [(0, .tmp 90)]) (cells := [.int .i64 time13_9]) (EvAll.cons Z Z EvAll.nil) (by kernel_rfl) (fun b44 => ?_))
    refine WL.effect Z ?_
    obtain ⟨c45, hm46⟩ := cs hm42; clear hm42
    refine (EV.appendL (enc := icell) (xs := v6_7) (ys := [time13_9]) ((v6_7 ++ [time13_9])) 2 (by decide) ve22 Z Z Z Z Z (Own.blkArr 0 (rows := [time13_9].map icell) Z Z (rows_len icell_len)) icell_len (icell_one _) Z c45.1 c45.2 (fun u47 hu48 => ?_))
    refine wf fd91_1 Z ?_
    refine WL.effect Z ?_
    refine (EV.store 4 Z Z Z Z Z Z (vs := [u47]) (SliceLen.cells hu48) sz22 (Nat.le_of_ble_eq_true Z) (one_cons (SliceLen.one hu48) one_nil) ?_)
    refine WL.nil (WQ.block (WQ.then (WC.region ?_)))
    obtain ⟨c49, hm50⟩ := cs hm46; clear hm46
    refine wq Z (QV.add Z Z Z Z c49) ?_
    refine wm Z ?_
    refine WL.nil ?_
    exact WQ.again4 (v6_7 ++ [time13_9]) (mput m5n_7 ((Int.tmod time13_9 pace), x31) ((mget m5n_7 ((Int.tmod time13_9 pace), x31) 0) + 1)) (x23_7 + 1) u47 m15 ⟨up_next hm50 hn18, hu48⟩ (Nat.lt_succ_self _) ⟨Z, Z, Z, Z, Z, Z, Z, Z, Z, trivial⟩ (fun w hw => hw.pick [2, 3, 4, 5, 6, 7, 8] (by decide))
   rintro time13_9 m51 hI52
   obtain ⟨m53, s54, rfl, hm55, hn56⟩ := iter_step hI52; clear hI52; unfold sched_early_L4 at hm55
   refine WC.seq (WC.seq ?_)
   refine WC.dr (m := 12) (S := Own M w [kn M w.heap.size K0 K0, blk b25 (Stm.cells (ele l.body x23_7)) 81, vec uv6_7 3 1 (List.map icell v6_7), mapR b5 kP i64v m5n_7, blk b4 [.int .i64 pace, uv6_7] 91, blk b3 [.int .i64 0, .slice none 0 0] 91, blk b2 t.cells 28, blk b1 [v_l_logs, v_l_body, v_l_outs] 25]) (by kernel_rfl) (by kernel_rfl) (fun w hw => hw.pick [7, 0, 1, 2, 3, 4, 5, 6] (by decide)) ?_
   refine wz 0 Z Z (QV.move Z Z) ?_
   refine wz 1 Z Z (QV.move Z Z) ?_
   refine wz 2 Z Z (QV.move Z Z) ?_
   obtain ⟨c57, hm58⟩ := cs hm55; clear hm55
   refine wz 3 Z Z (QV.rem Z Z Z Z c57) ?_
   refine wz 4 Z Z (QV.move Z Z) ?_
   refine wz 5 Z Z (QV.build (ps := [(0, .tmp 67), (1, .tmp 68)]) (cells := [.int .i64 (Int.tmod time13_9 pace), .int .i64 x31]) (EvAll.cons Z Z (EvAll.cons Z Z EvAll.nil)) (by kernel_rfl)) ?_
   refine wz 6 Z Z (QV.lookup (k := ((Int.tmod time13_9 pace), x31)) 3 0 mt145 kt146 zv3i64v Z Z Z Z Z) ?_
   refine wz 7 Z Z (QV.move Z Z) ?_
   refine wz 8 Z Z (QV.fieldAddr fd28_0 Z Z) ?_
   obtain ⟨c59, hm60⟩ := cs hm58; clear hm58
   refine wz 9 Z Z (QV.indexArray ar26 Z Z Z Z c59.1 c59.2) ?_
   refine wz 10 Z Z (QV.load pl3 Z Z (Own.cellSym 6 Z (sel3_get (off := 0) (i := x31) c59.1 c59.2 Z Z Z) (addr_sym _ _ _))) ?_
   refine wz 11 Z Z (QV.geq Z Z Z Z) ?_
   refine WD.e (by kernel_rfl) ?_
   refine WQ.then ?_
   refine WC.cond Z (fun h61 => ?_) (fun h61 => ?_)
   ·skip
    have hm62 := br_t h61 hm60; clear hm60
    refine sk (WQ.then (WC.block (WC.region ?_)))
    refine wm Z ?_
    obtain ⟨c63, hm64⟩ := cs hm62; clear hm62
    refine wq Z (QV.add Z Z Z Z c63) ?_
    refine wa Z ?_
    refine WL.nil (WQ.block ?_)
    exact WQ.again1 (time13_9 + 1) m53 (up_next hm64 hn56) (Nat.lt_succ_self _) ⟨Z, Z, Z, Z, Z, Z, Z, Z, Z, Z, Z, trivial⟩ (fun w hw => hw.pick [0, 1, 2, 3, 4, 5, 6, 7] (by decide))
   have hm65 := br_f h61 hm60; clear hm60
   refine WC.exit (te (te (WQ.block_exit ?_)))
   exact WQ.out1 time13_9 (up_brk hm65 hn56) ⟨Z, Z, Z, Z, Z, Z, Z, Z, Z, Z, Z, trivial⟩ (fun w hw => hw.pick [0, 1, 2, 3, 4, 5, 6, 7] (by decide))
  rintro time13_8 x30_8 m66 hI67
  obtain ⟨m68, s69, rfl, hm70, hn71⟩ := iter_step hI67; clear hI67; unfold sched_early_L2 at hm70; simp only at hm70
  refine sr ?_
  refine wq Z (QV.lss Z Z Z Z) ?_
  refine nt (WC.seq ?_)
  refine WC.cond Z (fun h72 => ?_) (fun h72 => ?_)
  ·skip
   have hm73 := br_t h72 hm70; clear hm70
   refine sk (WQ.then (WC.seq (WC.block (sr ?_))))
   obtain ⟨c74, hm75⟩ := cs hm73; clear hm73
   obtain ⟨p76, hp77⟩ := h_edges.lenMap.ix (sz := 4) ln_len c74
   refine wq Z (QV.indexSlice sl68 Z Z Z Z hp77) ?_
   refine wq Z (QV.loadAgg ag71 Z Z Z (fun w hw => ((Own.karr 7 Z hk h_edges) w hw).ele hp77 c74)) ?_
   refine WL.effect Z ?_
   refine (EV.alloc (by decide) ze71 (fun b78 => ?_))
   refine WL.effect Z ?_
   refine (EV.store 0 Z Z Z Z Z Z (vs := (Edg.cells (ele edges x30_8))) (show Value.cells _ = List.toArray _ from Z) sz71 (Nat.le_of_ble_eq_true Z) (one_cons Z (one_cons Z (one_cons Z (one_cons Z one_nil)))) ?_)
   refine ns ?_
   refine wf fd71_1 Z ?_
   refine wl pl3 Z (Own.cell 0 Z Z) ?_
   refine wm Z ?_
   refine wq Z (QV.eql Z Z Z Z) ?_
   refine wm Z ?_
   refine gp Z (fun hG => QV.fieldAddr fd71_0 Z Z) ?_
   refine gp Z (fun hG => QV.load pl3 Z hG (Own.cell 0 Z Z)) ?_
   refine gp Z (fun hG => QV.move Z Z) ?_
   refine gp Z (fun hG => QV.lss Z hG Z hG) ?_
   refine wq Z (QV.pickAnd Z Z Z (fun h => h)) ?_
   refine nt ?_
   refine WC.cond Z (fun h79 => ?_) (fun h79 => ?_)
   ·skip
    have hm80 := br_t h79 hm75; clear hm75
    refine WC.dr (m := 17) (S := Own M w [kn M w.heap.size K0 K0, blk b78 (Edg.cells (ele edges x30_8)) 71, blk b25 (Stm.cells (ele l.body x23_7)) 81, vec uv6_7 3 1 (List.map icell v6_7), mapR b5 kP i64v m5n_7, blk b4 [.int .i64 pace, uv6_7] 91, blk b3 [.int .i64 0, .slice none 0 0] 91, blk b2 t.cells 28, blk b1 [v_l_logs, v_l_body, v_l_outs] 25]) (by kernel_rfl) (by kernel_rfl) (fun w hw => hw.pick [8, 0, 1, 2, 3, 4, 5, 6, 7] (by decide)) ?_
    refine wz 0 Z Z (QV.move Z Z) ?_
    refine wz 1 Z Z (QV.fieldAddr fd91_1 Z Z) ?_
    refine wz 2 Z Z (QV.load pl22 Z Z (Own.cell 5 Z Z)) ?_
    refine wz 3 Z Z (QV.fieldAddr fd71_0 Z Z) ?_
    refine wz 4 Z Z (QV.load pl3 Z Z (Own.cell 1 Z Z)) ?_
    obtain ⟨c81, hm82⟩ := cs hm80; clear hm80
    obtain ⟨p83, hp84⟩ := hlv6_7.ix (sz := 1) ln_len c81
    refine wz 5 Z Z (QV.indexSlice sl22 Z Z Z Z hp84) ?_
    refine wz 6 Z Z (QV.load pl3 Z Z (fun w hw => CellsAt.one 0 (((Own.vecArr 3 Z) w hw).ele hp84 c81) Z)) ?_
    refine wz 7 Z Z (QV.fieldAddr fd71_3 Z Z) ?_
    refine wz 8 Z Z (QV.load pl3 Z Z (Own.cell 1 Z Z)) ?_
    obtain ⟨c85, hm86⟩ := cs hm82; clear hm82
    refine wz 9 Z Z (QV.add Z Z Z Z c85) ?_
    refine wz 10 Z Z (QV.move Z Z) ?_
    refine wz 11 Z Z (QV.fieldAddr fd71_2 Z Z) ?_
    refine wz 12 Z Z (QV.load pl3 Z Z (Own.cell 1 Z Z)) ?_
    obtain ⟨c87, hm88⟩ := cs hm86; clear hm86
    refine wz 13 Z Z (QV.mul Z Z Z Z c87) ?_
    obtain ⟨c89, hm90⟩ := cs hm88; clear hm88
    refine wz 14 Z Z (QV.sub Z Z Z Z c89) ?_
    refine wz 15 Z Z (QV.max2 Z Z Z Z) ?_
    refine wz 16 Z Z (QV.assign Z Z) ?_
    refine WD.e (by kernel_rfl) ?_
    refine WQ.block (WQ.then (WC.region ?_))
    obtain ⟨c91, hm92⟩ := cs hm90; clear hm90
    refine wq Z (QV.add Z Z Z Z c91) ?_
    refine wm Z ?_
    refine WL.nil ?_
    exact WQ.again2 (max time13_8 (((ele v6_7 ((ele edges x30_8).fr)) + (ele edges x30_8).wt) - (pace * (ele edges x30_8).bk))) (x30_8 + 1) m68 (up_next hm92 hn71) (Nat.lt_succ_self _) ⟨Z, Z, Z, Z, Z, Z, Z, Z, Z, Z, Z, Z, Z, Z, Z, trivial⟩ (fun w hw => hw.pick [1, 2, 3, 4, 5, 6, 7, 8] (by decide))
   have hm93 := br_f h79 hm75; clear hm75
   refine sk (WQ.block (WQ.then (WC.region ?_)))
   obtain ⟨c94, hm95⟩ := cs hm93; clear hm93
   refine wq Z (QV.add Z Z Z Z c94) ?_
   refine wm Z ?_
   refine WL.nil ?_
   exact WQ.again2 time13_8 (x30_8 + 1) m68 (up_next hm95 hn71) (Nat.lt_succ_self _) ⟨Z, Z, Z, Z, Z, Z, Z, Z, Z, Z, Z, Z, Z, Z, Z, trivial⟩ (fun w hw => hw.pick [1, 2, 3, 4, 5, 6, 7, 8] (by decide))
  have hm96 := br_f h72 hm70; clear hm70
  refine WC.exit (te (te (WQ.block_exit ?_)))
  exact WQ.out2 time13_8 x30_8 (up_brk hm96 hn71) ⟨Z, Z, Z, Z, Z, Z, Z, Z, Z, Z, Z, Z, Z, Z, Z, trivial⟩ (fun w hw => hw.pick [0, 1, 2, 3, 4, 5, 6, 7] (by decide))
 have hm97 := br_f h19 hm17; clear hm17
 refine WC.exit (te (te (WQ.block_exit ?_)))
 exact WQ.out4 v6_7 m5n_7 x23_7 uv6_7 ⟨up_brk hm97 hn18, hlv6_7⟩ ⟨Z, Z, Z, Z, Z, Z, Z, Z, Z, trivial⟩ (fun w hw => hw.pick [0, 1, 2, 3, 4, 5, 6] (by decide))
theorem sched_straight_w {v_l_logs : Value} {v_l_body : Value} {v_l_outs : Value} {l : Lp} {t : Tgt} {pace : Int} {r : Pln × Int} {K0 : World} (hm : sched_straight_m l t pace = some r) (h_l_logs : Arr K0 v_l_logs 1 (l.logs.map icell)) (h_l_body : Arr K0 v_l_body 9 (l.body.map Stm.cells)) (h_l_outs : Arr K0 v_l_outs 1 (l.outs.map icell)) (M : Nat → Prop) (w : World) (hk : Base M K0 w) (hw0 : Own M w [] w) : Calls Try.prog 71 #[.agg #[v_l_logs, v_l_body, v_l_outs], .agg #[.int .i64 t.u0, .int .i64 t.u1, .int .i64 t.u2, .int .i64 t.w0, .int .i64 t.w1, .int .i64 t.w2, .int .i64 t.regs], .int .i64 pace] w (fun e w' => ∃ X : Value × World, e = .returned (.tuple #[.agg #[.int .i64 r.1.pace, X.1], .int .i64 r.2]) ∧ Own M w (kn M w.heap.size K0 X.2 :: []) w' ∧ Arr X.2 X.1 1 (r.1.times.map icell)) := by
 unfold sched_straight_m at hm
 refine calls_of_WC (n := 36) (args := [.agg #[v_l_logs, v_l_body, v_l_outs], .agg #[.int .i64 t.u0, .int .i64 t.u1, .int .i64 t.u2, .int .i64 t.w0, .int .i64 t.w1, .int .i64 t.w2, .int .i64 t.regs], .int .i64 pace]) Try.func71 Z Z (Nat.le_of_ble_eq_true Z) ?_ (Own.startK hk hw0)
 refine sr ?_
 refine WL.effect Z ?_
 refine (EV.boxAgg (by decide) Z Z (fun b1 => ?_))
 refine WL.effect Z ?_
 refine (EV.boxAgg (by decide) Z Z (fun b2 => ?_))
 refine WL.effect Z ?_
 refine (EV.alloc (by decide) ze91 (fun b3 => ?_))
 refine wa Z ?_
 refine ns ?_
 refine wm Z ?_
 refine wq Z (QV.build (ps := [(0, .tmp 12)]) (cells := [.int .i64 pace, .slice none 0 0]) (EvAll.cons Z Z EvAll.nil) (by kernel_rfl)) ?_
 refine WL.effect Z ?_
 refine (EV.alloc (by decide) ze91 (fun b4 => ?_))
 refine WL.effect Z ?_
 refine (EV.store 0 Z Z Z Z Z Z (vs := [.int .i64 pace, .slice none 0 0]) (show Value.cells _ = List.toArray _ from Z) sz91 (Nat.le_of_ble_eq_true Z) (one_cons Z (one_cons Z one_nil)) ?_)
 refine ns ?_
 refine wa Z ?_
 refine nt (WC.seq (sr ?_))
 refine wf fd25_1 Z ?_
 refine wl pl23 Z (Own.cell 3 Z Z) ?_
 refine wq Z (QV.lenS Try.underlying23 Z Z h_l_body.lenMap) ?_
 refine wm Z ?_
 refine nt ?_
 refine WK.of (fun w hw => hw.vecNil (E := 3) (sz := 1) (enc := icell)) ?_
 obtain ⟨o6, ho7, hm8⟩ := bd_some hm; clear hm; obtain ⟨n9, ho10⟩ := lp_some ho7
 refine WC.bloop4 (H2 := [blk b3 [.int .i64 0, .slice none 0 0] 91, blk b2 t.cells 28, blk b1 [v_l_logs, v_l_body, v_l_outs] 25, kn M w.heap.size K0 K0]) (τ := [(4, (true, _)), (6, (true, _)), (8, (true, _)), (15, (true, _)), (16, (true, _))]) (fun (v5_1 : List Int) (time9_1 : Int) (x17_1 : Int) (uv5_1 : Value) => [(9, (true, .int .i64 time9_1)), (17, (true, .int .i64 x17_1))]) (fun v5_1 time9_1 x17_1 uv5_1 => [vec uv5_1 3 1 (List.map icell v5_1), blk b4 [.int .i64 pace, uv5_1] 91]) (fun v5_1 time9_1 x17_1 uv5_1 m => iter (sched_straight_L0 l t) m (v5_1, time9_1, x17_1) = some o6 ∧ SliceLen uv5_1 v5_1.length) (fun v5_1 time9_1 x17_1 uv5_1 => o6 = .go (v5_1, time9_1, x17_1) ∧ SliceLen uv5_1 v5_1.length) [] 0 0 (.slice none 0 0) n9 ⟨ho10, SliceLen.nil⟩ ⟨Z, Z, Z, Z, Z, Z, Z, trivial⟩ (fun w hw => hw.pick [0, 1, 2, 3, 4, 5] (by decide)) ?_ ?_
 ·skip
  rintro v5_1 time9_1 x17_1 uv5_1 ⟨rfl, hlv5_1⟩
  refine WQ.then (sr ?_)
  refine wq Z (QV.loadAgg ag91 Z Z Z (Own.cellsBlk 1 Z)) ?_
  refine wm Z ?_
  refine WL.effect Z ?_
  refine (EV.store 2 Z Z Z Z Z Z (vs := [.int .i64 pace, uv5_1]) (show Value.cells _ = List.toArray _ from Z) sz91 (Nat.le_of_ble_eq_true Z) (one_cons Z (one_cons (SliceLen.one hlv5_1) one_nil)) ?_)
  refine wa Z ?_
  refine nt (WC.ret ?_)
  obtain rfl := (eq_of_some hm8).symm
  refine WK.of (C' := Own M w [kn M w.heap.size K0 K0, vec uv5_1 3 1 (List.map icell v5_1), blk b4 [.int .i64 pace, uv5_1] 91, blk b3 [.int .i64 pace, uv5_1] 91, blk b2 t.cells 28, blk b1 [v_l_logs, v_l_body, v_l_outs] 25]) (fun w hw => hw.pick [5, 0, 1, 2, 3, 4] (by decide)) ?_
  refine WK.freeze hk (fun k11 hle11 hr11 => ?_)
  have hA11 := vec_arr hr11
  refine WQ.retCellTmp Z ag91 Z Z Z (Own.cellsBlk 2 Z) (fun w hw => ?_)
  exact ⟨(uv5_1, k11), Z, hw.pick [0] (by decide), hA11⟩
 rintro v5_1 time9_1 x17_1 uv5_1 m12 ⟨hI13, hlv5_1⟩
 obtain ⟨m14, s15, rfl, hm16, hn17⟩ := iter_step hI13; clear hI13; unfold sched_straight_L0 at hm16; simp only at hm16
 refine sr ?_
 refine wq Z (QV.lss Z Z Z Z) ?_
 refine nt (WC.seq ?_)
 refine WC.cond Z (fun h18 => ?_) (fun h18 => ?_)
 ·skip
  have hm19 := br_t h18 hm16; clear hm16
  refine sk (WQ.then (WC.seq (WC.block (sr ?_))))
  obtain ⟨c20, hm21⟩ := cs hm19; clear hm19
  obtain ⟨p22, hp23⟩ := h_l_body.lenMap.ix (sz := 9) ln_len c20
  refine wq Z (QV.indexSlice sl23 Z Z Z Z hp23) ?_
  refine wq Z (QV.loadAgg ag81 Z Z Z (fun w hw => ((Own.karr 5 Z hk h_l_body) w hw).ele hp23 c20)) ?_
  refine WL.effect Z ?_
  refine (EV.alloc (by decide) ze81 (fun b24 => ?_))
  refine WL.effect Z ?_
  refine (EV.store 0 Z Z Z Z Z Z (vs := (Stm.cells (ele l.body x17_1))) (show Value.cells _ = List.toArray _ from Z) sz81 (Nat.le_of_ble_eq_true Z) (one_cons Z (one_cons Z (one_cons Z (one_cons Z (one_cons Z (one_cons Z (one_cons Z (one_cons Z (one_cons Z one_nil))))))))) ?_)
  refine ns ?_
  refine wf fd91_1 Z ?_
  refine wl pl22 Z (Own.cell 2 Z Z) ?_
  refine wm Z ?_
  refine WL.effect Z ?_
  refine (EV.buildSlice (by decide) sz_22 (by decide) (by decide) (ps := [(0, .tmp 23)]) (cells := [.int .i64 time9_1]) (EvAll.cons Z Z EvAll.nil) (by kernel_rfl) (fun b25 => ?_))
  refine WL.effect Z ?_
  obtain ⟨c26, hm27⟩ := cs hm21; clear hm21
  refine (EV.appendL (enc := icell) (xs := v5_1) (ys := [time9_1]) ((v5_1 ++ [time9_1])) 2 (by decide) ve22 Z Z Z Z Z (Own.blkArr 0 (rows := [time9_1].map icell) Z Z (rows_len icell_len)) icell_len (icell_one _) Z c26.1 c26.2 (fun u28 hu29 => ?_))
  refine wf fd91_1 Z ?_
  refine WL.effect Z ?_
  refine (EV.store 3 Z Z Z Z Z Z (vs := [u28]) (SliceLen.cells hu29) sz22 (Nat.le_of_ble_eq_true Z) (one_cons (SliceLen.one hu29) one_nil) ?_)
  refine nr ?_
  refine wm Z ?_
  refine wq Z (QV.loadAgg ag28 Z Z Z (Own.cellsBlk 5 Z)) ?_
  refine wf fd81_0 Z ?_
  refine wl pl3 Z (Own.cell 1 Z Z) ?_
  obtain ⟨x30, hx31, hm32⟩ := bd_some hm27; clear hm27
  refine wq Z (QV.call en69 (EvAll.cons Z Z (EvAll.cons Z Z EvAll.nil)) (fun w hw => have h := target_Wait_w w hx31 ; h)) ?_
  obtain ⟨c33, hm34⟩ := cs hm32; clear hm32
  refine wq Z (QV.add Z Z Z Z c33) ?_
  refine wa Z ?_
  refine WL.nil (WQ.block (WQ.then (WC.region ?_)))
  obtain ⟨c35, hm36⟩ := cs hm34; clear hm34
  refine wq Z (QV.add Z Z Z Z c35) ?_
  refine wm Z ?_
  refine WL.nil ?_
  exact WQ.again4 (v5_1 ++ [time9_1]) (time9_1 + x30) (x17_1 + 1) u28 m14 ⟨up_next hm36 hn17, hu29⟩ (Nat.lt_succ_self _) ⟨Z, Z, Z, Z, Z, Z, Z, trivial⟩ (fun w hw => hw.pick [2, 3, 4, 5, 6, 7] (by decide))
 have hm37 := br_f h18 hm16; clear hm16
 refine WC.exit (te (te (WQ.block_exit ?_)))
 exact WQ.out4 v5_1 time9_1 x17_1 uv5_1 ⟨up_brk hm37 hn17, hlv5_1⟩ ⟨Z, Z, Z, Z, Z, Z, Z, trivial⟩ (fun w hw => hw.pick [0, 1, 2, 3, 4, 5] (by decide))
theorem sched_Make_w {v_l_logs : Value} {v_l_body : Value} {v_l_outs : Value} {l : Lp} {t : Tgt} {least : Int} {r : Pln × Int} {K0 : World} (hm : sched_Make_m l t least = some r) (h_l_logs : Arr K0 v_l_logs 1 (l.logs.map icell)) (h_l_body : Arr K0 v_l_body 9 (l.body.map Stm.cells)) (h_l_outs : Arr K0 v_l_outs 1 (l.outs.map icell)) (M : Nat → Prop) (w : World) (hk : Base M K0 w) (hw0 : Own M w [] w) : Calls Try.prog 41 #[.agg #[v_l_logs, v_l_body, v_l_outs], .agg #[.int .i64 t.u0, .int .i64 t.u1, .int .i64 t.u2, .int .i64 t.w0, .int .i64 t.w1, .int .i64 t.w2, .int .i64 t.regs], .int .i64 least] w (fun e w' => ∃ X : Value × World, e = .returned (.tuple #[.agg #[.int .i64 r.1.pace, X.1], .int .i64 r.2]) ∧ Own M w (kn M w.heap.size K0 X.2 :: []) w' ∧ Arr X.2 X.1 1 (r.1.times.map icell)) := by
 unfold sched_Make_m at hm
 refine calls_of_WC (n := 84) (args := [.agg #[v_l_logs, v_l_body, v_l_outs], .agg #[.int .i64 t.u0, .int .i64 t.u1, .int .i64 t.u2, .int .i64 t.w0, .int .i64 t.w1, .int .i64 t.w2, .int .i64 t.regs], .int .i64 least]) Try.func41 Z Z (Nat.le_of_ble_eq_true Z) ?_ (Own.startK hk hw0)
 refine sr ?_
 refine WL.effect Z ?_
 refine (EV.boxAgg (by decide) Z Z (fun b1 => ?_))
 refine WL.effect Z ?_
 refine (EV.boxAgg (by decide) Z Z (fun b2 => ?_))
 refine WL.effect Z ?_
 refine (EV.alloc (by decide) ze91 (fun b3 => ?_))
 refine wa Z ?_
 refine ns ?_
 refine wq Z (QV.loadAgg ag25 Z Z Z (Own.cellsBlk 2 Z)) ?_
 refine wq Z (QV.loadAgg ag28 Z Z Z (Own.cellsBlk 1 Z)) ?_
 refine WL.effect Z ?_
 obtain ⟨x4, hx5, hm6⟩ := bd_some hm; clear hm
 refine EV.of (C' := Own M w [kn M w.heap.size K0 K0, blk b3 [.int .i64 0, .slice none 0 0] 91, blk b2 t.cells 28, blk b1 [v_l_logs, v_l_body, v_l_outs] 25]) (fun w hw => hw.pick [3, 0, 1, 2] (by decide)) ?_
 refine (EV.callR (X := Value × World) (R := []) (fun X => .tuple #[X.1, .int .i64 x4.2]) (fun X => []) (fun X => X.2) (fun X => Arr X.2 X.1 4 (x4.1.map Edg.cells)) hk (fun _ h => by cases h; decide) en62 (EvAll.cons Z Z (EvAll.cons Z Z EvAll.nil)) (fun M w h1 h2 => have h := dep_Edges_w hx5 h_l_logs h_l_body h_l_outs M w h1 h2; h) (fun X7 hF7 hle7 => ?_))
 refine wm Z ?_
 refine wq Z (QV.extract Z Z Z) ?_
 refine wq Z (QV.extract Z Z Z) ?_
 refine wa Z ?_
 refine wa Z ?_
 refine nt (WC.seq (WC.block (sr ?_)))
 refine wm Z ?_
 refine wq Z (QV.neq Z Z Z Z) ?_
 refine wa Z ?_
 refine nt ?_
 refine WC.cond Z (fun h8 => ?_) (fun h8 => ?_)
 ·skip
  have hm9 := br_t h8 hm6; clear hm6
  refine sr ?_
  refine wq Z (QV.build (ps := []) (cells := [.int .i64 0, .slice none 0 0]) EvAll.nil (by kernel_rfl)) ?_
  refine wm Z ?_
  refine WL.effect Z ?_
  refine (EV.store 1 Z Z Z Z Z Z (vs := [.int .i64 0, .slice none 0 0]) (show Value.cells _ = List.toArray _ from Z) sz91 (Nat.le_of_ble_eq_true Z) (one_cons Z (one_cons Z one_nil)) ?_)
  refine wa Z ?_
  refine nt (WC.ret (kr (tr ?_)))
  obtain rfl := (eq_of_some hm9).symm
  refine WQ.retCellTmp Z ag91 Z Z Z (Own.cellsBlk 1 Z) (fun w hw => ?_)
  exact ⟨(.slice none 0 0, X7.2), Z, hw.pick [0] (by decide), Arr.nil⟩
 have hm10 := br_f h8 hm6; clear hm6
 refine sr ?_
 refine wm Z ?_
 refine wq Z (QV.lss Z Z Z Z) ?_
 refine wm Z ?_
 refine gn Z (fun hG => QV.move Z Z) ?_
 refine gn Z (fun hG => QV.gtr Z hG Z Z) ?_
 refine wq Z (QV.pickOr Z Z Z (fun h => notF h)) ?_
 refine wa Z ?_
 refine nt ?_
 refine WC.cond Z (fun h11 => ?_) (fun h11 => ?_)
 ·skip
  have hm12 := br_t h11 hm10; clear hm10
  refine sr ?_
  refine wq Z (QV.build (ps := []) (cells := [.int .i64 0, .slice none 0 0]) EvAll.nil (by kernel_rfl)) ?_
  refine WL.effect Z ?_
  refine (EV.store 1 Z Z Z Z Z Z (vs := [.int .i64 0, .slice none 0 0]) (show Value.cells _ = List.toArray _ from Z) sz91 (Nat.le_of_ble_eq_true Z) (one_cons Z (one_cons Z one_nil)) ?_)
  refine wa Z ?_
  refine nt (WC.ret (kr (tr ?_)))
  obtain rfl := (eq_of_some hm12).symm
  refine WQ.retCellTmp Z ag91 Z Z Z (Own.cellsBlk 1 Z) (fun w hw => ?_)
  exact ⟨(.slice none 0 0, X7.2), Z, hw.pick [0] (by decide), Arr.nil⟩
 have hm13 := br_f h11 hm10; clear hm10
 refine sk (WQ.block (WQ.then (sr ?_)))
 refine wq Z (QV.loadAgg ag25 Z Z Z (Own.cellsBlk 3 Z)) ?_
 refine wq Z (QV.loadAgg ag28 Z Z Z (Own.cellsBlk 2 Z)) ?_
 obtain ⟨x14, hx15, hm16⟩ := bd_some hm13; clear hm13
 refine wq Z (QV.call en70 (EvAll.cons Z Z (EvAll.cons Z Z EvAll.nil)) (fun w hw => have h := bound_Bound_w w hx15 ((Own.karr 0 Z hk (h_l_logs.le hle7)) w hw) ((Own.karr 0 Z hk (h_l_body.le hle7)) w hw) ((Own.karr 0 Z hk (h_l_outs.le hle7)) w hw); h)) ?_
 refine wm Z ?_
 refine wq Z (QV.extract Z Z Z) ?_
 refine wq Z (QV.extract Z Z Z) ?_
 refine wq Z (QV.extract Z Z Z) ?_
 refine wa Z ?_
 refine wa Z ?_
 refine wa Z ?_
 refine ns ?_
 refine wq Z (QV.loadAgg ag25 Z Z Z (Own.cellsBlk 3 Z)) ?_
 refine wq Z (QV.loadAgg ag28 Z Z Z (Own.cellsBlk 2 Z)) ?_
 refine WL.effect Z ?_
 obtain ⟨x17, hx18, hm19⟩ := bd_some hm16; clear hm16
 refine (EV.callR (X := Value × World) (R := []) (fun X => .tuple #[.agg #[.int .i64 x17.1.pace, X.1], .int .i64 x17.2]) (fun X => []) (fun X => X.2) (fun X => Arr X.2 X.1 1 (x17.1.times.map icell)) hk (fun _ h => by cases h; decide) en71 (EvAll.cons Z Z (EvAll.cons Z Z (EvAll.cons Z Z EvAll.nil))) (fun M w h1 h2 => have h := sched_straight_w hx18 (h_l_logs.le hle7) (h_l_body.le hle7) (h_l_outs.le hle7) M w h1 h2; h) (fun X20 hF20 hle20 => ?_))
 refine wm Z ?_
 refine wq Z (QV.extract Z Z Z) ?_
 refine wq Z (QV.extract Z Z Z) ?_
 refine WL.effect Z ?_
 refine (EV.alloc (by decide) ze91 (fun b21 => ?_))
 refine WL.effect Z ?_
 refine (EV.store 0 Z Z Z Z Z Z (vs := [.int .i64 x17.1.pace, X20.1]) (show Value.cells _ = List.toArray _ from Z) sz91 (Nat.le_of_ble_eq_true Z) (one_cons Z (one_cons (SliceLen.one hF20.lenMap) one_nil)) ?_)
 refine wa Z ?_
 refine nt (WC.seq (sr ?_))
 refine wm Z ?_
 refine wm Z ?_
 refine wm Z ?_
 refine wq Z (QV.max3 Z Z Z Z Z Z) ?_
 refine wa Z ?_
 refine nt ?_
 obtain ⟨o22, ho23, hm24⟩ := bd_some hm19; clear hm19; obtain ⟨n25, ho26⟩ := lp_some ho23
 refine WC.bloop2 (H2 := [blk b21 [.int .i64 x17.1.pace, X20.1] 91, blk b3 [.int .i64 0, .slice none 0 0] 91, blk b2 t.cells 28, blk b1 [v_l_logs, v_l_body, v_l_outs] 25]) (τ := [(2, (true, _)), (3, (true, _)), (4, (true, _)), (6, (true, _)), (8, (true, _)), (14, (true, _))]) (fun (pace15_1 : Int) (k_1 : World) => [(15, (true, .int .i64 pace15_1))]) (fun pace15_1 k_1 => [kn M w.heap.size K0 k_1]) (fun pace15_1 k_1 m => iter (sched_Make_L1 l t least x4 x17) m pace15_1 = some o22 ∧ Le X20.2 k_1) (fun pace15_1 k_1 => o22 = .go pace15_1 ∧ Le X20.2 k_1) (max (max least x14.1) x14.2.1) X20.2 n25 ⟨ho26, (Le.refl _)⟩ ⟨Z, Z, Z, Z, Z, Z, Z, trivial⟩ (fun w hw => hw.pick [1, 0, 2, 3, 4] (by decide)) ?_ ?_
 ·skip
  rintro pace15_1 k_1 ⟨rfl, hle_1⟩
  refine WQ.then (sr ?_)
  refine wq Z (QV.loadAgg ag25 Z Z Z (Own.cellsBlk 4 Z)) ?_
  refine wq Z (QV.loadAgg ag28 Z Z Z (Own.cellsBlk 3 Z)) ?_
  refine wm Z ?_
  refine wm Z ?_
  refine wq Z (QV.max2 Z Z Z Z) ?_
  refine WL.effect Z ?_
  obtain ⟨x27, hx28, hm29⟩ := bd_some hm24; clear hm24
  refine (EV.callR (X := Value × World) (R := []) (fun X => .tuple #[.agg #[.int .i64 x27.1.pace, X.1], .int .i64 x27.2]) (fun X => []) (fun X => X.2) (fun X => Arr X.2 X.1 1 (x27.1.times.map icell)) hk (fun _ h => by cases h; decide) en71 (EvAll.cons Z Z (EvAll.cons Z Z (EvAll.cons Z Z EvAll.nil))) (fun M w h1 h2 => have h := sched_straight_w hx28 (h_l_logs.le ((hle7.trans hle20).trans hle_1)) (h_l_body.le ((hle7.trans hle20).trans hle_1)) (h_l_outs.le ((hle7.trans hle20).trans hle_1)) M w h1 h2; h) (fun X30 hF30 hle30 => ?_))
  refine wm Z ?_
  refine wq Z (QV.extract Z Z Z) ?_
  refine wq Z (QV.extract Z Z Z) ?_
  refine WL.effect Z ?_
  refine (EV.alloc (by decide) ze91 (fun b31 => ?_))
  refine WL.effect Z ?_
  refine (EV.store 0 Z Z Z Z Z Z (vs := [.int .i64 x27.1.pace, X30.1]) (show Value.cells _ = List.toArray _ from Z) sz91 (Nat.le_of_ble_eq_true Z) (one_cons Z (one_cons (SliceLen.one hF30.lenMap) one_nil)) ?_)
  refine wa Z ?_
  refine ns ?_
  refine wq Z (QV.loadAgg ag91 Z Z Z (Own.cellsBlk 0 Z)) ?_
  refine WL.effect Z ?_
  refine (EV.store 3 Z Z Z Z Z Z (vs := [.int .i64 x27.1.pace, X30.1]) (show Value.cells _ = List.toArray _ from Z) sz91 (Nat.le_of_ble_eq_true Z) (one_cons Z (one_cons (SliceLen.one hF30.lenMap) one_nil)) ?_)
  refine wa Z ?_
  refine nt (WC.ret ?_)
  obtain rfl := (eq_of_some hm29).symm
  refine WQ.retCellTmp Z ag91 Z Z Z (Own.cellsBlk 3 Z) (fun w hw => ?_)
  exact ⟨(X30.1, X30.2), Z, hw.pick [1] (by decide), hF30⟩
 rintro pace15_1 k_1 m32 ⟨hI33, hle_1⟩
 obtain ⟨m34, s35, rfl, hm36, hn37⟩ := iter_step hI33; clear hI33; unfold sched_Make_L1 at hm36
 refine WC.seq (sr ?_)
 refine wm Z ?_
 refine wm Z ?_
 obtain ⟨c38, hm39⟩ := cs hm36; clear hm36
 refine wq Z (QV.add Z Z Z Z c38) ?_
 refine wm Z ?_
 refine wq Z (QV.max2 Z Z Z Z) ?_
 refine wq Z (QV.lss Z Z Z Z) ?_
 refine nt ?_
 refine WC.cond Z (fun h40 => ?_) (fun h40 => ?_)
 ·skip
  have hm41 := br_t h40 hm39; clear hm39
  refine sk (WQ.then (WC.seq (WC.block (sr ?_))))
  refine wq Z (QV.loadAgg ag25 Z Z Z (Own.cellsBlk 4 Z)) ?_
  refine wq Z (QV.loadAgg ag28 Z Z Z (Own.cellsBlk 3 Z)) ?_
  refine wm Z ?_
  refine wm Z ?_
  refine WL.effect Z ?_
  obtain ⟨x42, hx43, hm44⟩ := bd_some hm41; clear hm41
  refine (EV.callR (X := Value × World) (R := []) (fun X => .agg #[.int .i64 x42.pace, X.1]) (fun X => []) (fun X => X.2) (fun X => Arr X.2 X.1 1 (x42.times.map icell)) hk (fun _ h => by cases h; decide) en72 (EvAll.cons Z Z (EvAll.cons Z Z (EvAll.cons Z Z (EvAll.cons Z Z EvAll.nil)))) (fun M w h1 h2 => have h := sched_early_w hx43 (h_l_logs.le ((hle7.trans hle20).trans hle_1)) (h_l_body.le ((hle7.trans hle20).trans hle_1)) (h_l_outs.le ((hle7.trans hle20).trans hle_1)) (hF7.le (hle20.trans hle_1)) M w h1 h2; h) (fun X45 hF45 hle45 => ?_))
  refine WL.effect Z ?_
  refine (EV.alloc (by decide) ze91 (fun b46 => ?_))
  refine WL.effect Z ?_
  refine (EV.store 0 Z Z Z Z Z Z (vs := [.int .i64 x42.pace, X45.1]) (show Value.cells _ = List.toArray _ from Z) sz91 (Nat.le_of_ble_eq_true Z) (one_cons Z (one_cons (SliceLen.one hF45.lenMap) one_nil)) ?_)
  refine ns ?_
  refine wq Z (QV.loadAgg ag25 Z Z Z (Own.cellsBlk 5 Z)) ?_
  refine wq Z (QV.loadAgg ag28 Z Z Z (Own.cellsBlk 4 Z)) ?_
  refine wq Z (QV.loadAgg ag91 Z Z Z (Own.cellsBlk 0 Z)) ?_
  refine wm Z ?_
  obtain ⟨x47, hx48, hm49⟩ := bd_some hm44; clear hm44
  refine wq Z (QV.call en73 (EvAll.cons Z Z (EvAll.cons Z Z (EvAll.cons Z Z (EvAll.cons Z Z EvAll.nil)))) (fun w hw => have h := sched_fits_w w hx48 ((Own.karr 1 Z hk (h_l_logs.le (((hle7.trans hle20).trans hle_1).trans hle45))) w hw) ((Own.karr 1 Z hk (h_l_body.le (((hle7.trans hle20).trans hle_1).trans hle45))) w hw) ((Own.karr 1 Z hk (h_l_outs.le (((hle7.trans hle20).trans hle_1).trans hle45))) w hw) ((Own.karr 1 Z hk hF45) w hw) ((Own.karr 1 Z hk (hF7.le ((hle20.trans hle_1).trans hle45))) w hw); h)) ?_
  refine nt ?_
  refine WC.cond Z (fun h50 => ?_) (fun h50 => ?_)
  ·skip
   have hm51 := br_t h50 hm49; clear hm49
   refine sr ?_
   refine wq Z (QV.loadAgg ag91 Z Z Z (Own.cellsBlk 0 Z)) ?_
   refine WL.effect Z ?_
   refine (EV.store 3 Z Z Z Z Z Z (vs := [.int .i64 x42.pace, X45.1]) (show Value.cells _ = List.toArray _ from Z) sz91 (Nat.le_of_ble_eq_true Z) (one_cons Z (one_cons (SliceLen.one hF45.lenMap) one_nil)) ?_)
   refine wa Z ?_
   refine nt (WC.ret (kr (tr (tr (kr (tr (tr ?_)))))))
   obtain rfl := up_ret hm51 hn37
   obtain rfl := (eq_of_some hm24).symm
   refine WQ.retCellTmp Z ag91 Z Z Z (Own.cellsBlk 3 Z) (fun w hw => ?_)
   exact ⟨(X45.1, X45.2), Z, hw.pick [1] (by decide), hF45⟩
  have hm52 := br_f h50 hm49; clear hm49
  refine sk (WQ.block (WQ.then (WC.region ?_)))
  refine wm Z ?_
  obtain ⟨c53, hm54⟩ := cs hm52; clear hm52
  refine wq Z (QV.add Z Z Z Z c53) ?_
  refine wa Z ?_
  refine WL.nil ?_
  exact WQ.again2 (pace15_1 + 1) X45.2 m34 ⟨up_next hm54 hn37, (hle_1.trans hle45)⟩ (Nat.lt_succ_self _) ⟨Z, Z, Z, Z, Z, Z, Z, trivial⟩ (fun w hw => hw.pick [1, 2, 3, 4, 5] (by decide))
 have hm55 := br_f h40 hm39; clear hm39
 refine WC.exit (te (te (WQ.block_exit ?_)))
 exact WQ.out2 pace15_1 k_1 ⟨up_brk hm55 hn37, hle_1⟩ ⟨Z, Z, Z, Z, Z, Z, Z, trivial⟩ (fun w hw => hw.pick [0, 1, 2, 3, 4] (by decide))
end Go.Proofs.Ytaimbkndebaaiac
end
section
namespace Go.Proofs.Ytaimbkndebaaiac
open Go.Rd
open TNum TLoop TKern TKeep TOrd TCpt TDep TSched1 TEmit TCheck TRegs TBound TMake
namespace TBuild
theorem en40 : Go.Rd.Enters Try.prog 40 := ⟨Try.f40, Try.func40, by kernel_rfl, by kernel_rfl⟩
theorem en41 : Go.Rd.Enters Try.prog 41 := ⟨Try.f41, Try.func41, by kernel_rfl, by kernel_rfl⟩
theorem en42 : Go.Rd.Enters Try.prog 42 := ⟨Try.f42, Try.func42, by kernel_rfl, by kernel_rfl⟩
theorem en7 : Go.Rd.Enters Try.prog 7 := ⟨Try.f7, Try.func7, by kernel_rfl, by kernel_rfl⟩
theorem en74 : Go.Rd.Enters Try.prog 74 := ⟨Try.f74, Try.func74, by kernel_rfl, by kernel_rfl⟩
theorem en75 : Go.Rd.Enters Try.prog 75 := ⟨Try.f75, Try.func75, by kernel_rfl, by kernel_rfl⟩
end TBuild
open TBuild
theorem build_try_w {v_l_logs : Value} {v_l_body : Value} {v_l_outs : Value} {v_p_times : Value} {l : Lp} {t : Tgt} {p : Pln} {r : Krn × List Int × Bool} {K0 : World} (hm : build_try_m l t p = some r) (h_l_logs : Arr K0 v_l_logs 1 (l.logs.map icell)) (h_l_body : Arr K0 v_l_body 9 (l.body.map Stm.cells)) (h_l_outs : Arr K0 v_l_outs 1 (l.outs.map icell)) (h_p_times : Arr K0 v_p_times 1 (p.times.map icell)) (M : Nat → Prop) (w : World) (hk : Base M K0 w) (hw0 : Own M w [] w) : Calls Try.prog 42 #[.agg #[v_l_logs, v_l_body, v_l_outs], .agg #[.int .i64 t.u0, .int .i64 t.u1, .int .i64 t.u2, .int .i64 t.w0, .int .i64 t.w1, .int .i64 t.w2, .int .i64 t.regs], .agg #[.int .i64 p.pace, v_p_times]] w (fun e w' => ∃ X : Value × Value × World, e = .returned (.tuple #[.agg #[.int .i64 r.1.pace, .int .i64 r.1.stages, X.1], X.2.1, .bool r.2.2]) ∧ Own M w (kn M w.heap.size K0 X.2.2 :: []) w' ∧ Arr X.2.2 X.1 10 (r.1.ops.map Opr.cells) ∧ Arr X.2.2 X.2.1 1 (r.2.1.map icell)) := by
 unfold build_try_m at hm
 refine calls_of_WC (n := 54) (args := [.agg #[v_l_logs, v_l_body, v_l_outs], .agg #[.int .i64 t.u0, .int .i64 t.u1, .int .i64 t.u2, .int .i64 t.w0, .int .i64 t.w1, .int .i64 t.w2, .int .i64 t.regs], .agg #[.int .i64 p.pace, v_p_times]]) Try.func42 Z Z (Nat.le_of_ble_eq_true Z) ?_ (Own.startK hk hw0)
 refine sr ?_
 refine WL.effect Z ?_
 refine (EV.boxAgg (by decide) Z Z (fun b1 => ?_))
 refine WL.effect Z ?_
 refine (EV.boxAgg (by decide) Z Z (fun b2 => ?_))
 refine WL.effect Z ?_
 refine (EV.boxAgg (by decide) Z Z (fun b3 => ?_))
 refine WL.effect Z ?_
 refine (EV.alloc (by decide) ze31 (fun b4 => ?_))
 refine wa Z ?_
 refine wa Z ?_
 refine ns ?_
 refine wq Z (QV.loadAgg ag25 Z Z Z (Own.cellsBlk 3 Z)) ?_
 refine wq Z (QV.loadAgg ag28 Z Z Z (Own.cellsBlk 2 Z)) ?_
 refine wq Z (QV.loadAgg ag91 Z Z Z (Own.cellsBlk 1 Z)) ?_
 refine WL.effect Z ?_
 obtain ⟨x5, hx6, hm7⟩ := bd_some hm; clear hm
 refine EV.of (C' := Own M w [kn M w.heap.size K0 K0, blk b4 [.int .i64 0, .int .i64 0, .slice none 0 0] 31, blk b3 [.int .i64 p.pace, v_p_times] 91, blk b2 t.cells 28, blk b1 [v_l_logs, v_l_body, v_l_outs] 25]) (fun w hw => hw.pick [4, 0, 1, 2, 3] (by decide)) ?_
 refine (EV.callR (X := Value × World) (R := []) (fun X => .tuple #[X.1, .int .i64 x5.2]) (fun X => []) (fun X => X.2) (fun X => Arr X.2 X.1 1 (x5.1.map icell)) hk (fun _ h => by cases h; decide) en74 (EvAll.cons Z Z (EvAll.cons Z Z (EvAll.cons Z Z EvAll.nil))) (fun M w h1 h2 => have h := regs_Make_w hx6 h_l_logs h_l_body h_l_outs h_p_times M w h1 h2; h) (fun X8 hF8 hle8 => ?_))
 refine wm Z ?_
 refine wq Z (QV.extract Z Z Z) ?_
 refine wq Z (QV.extract Z Z Z) ?_
 refine wa Z ?_
 refine wa Z ?_
 refine nt (WC.seq (sr ?_))
 refine wm Z ?_
 refine wq Z (QV.neq Z Z Z Z) ?_
 refine nt ?_
 refine WC.cond Z (fun h9 => ?_) (fun h9 => ?_)
 ·skip
  have hm10 := br_t h9 hm7; clear hm7
  refine sr ?_
  refine wq Z (QV.build (ps := []) (cells := [.int .i64 0, .int .i64 0, .slice none 0 0]) EvAll.nil (by kernel_rfl)) ?_
  refine WL.effect Z ?_
  refine (EV.store 1 Z Z Z Z Z Z (vs := [.int .i64 0, .int .i64 0, .slice none 0 0]) (show Value.cells _ = List.toArray _ from Z) sz31 (Nat.le_of_ble_eq_true Z) (one_cons Z (one_cons Z (one_cons Z one_nil))) ?_)
  refine wa Z ?_
  refine wa Z ?_
  refine nt (WC.ret (tr ?_))
  obtain rfl := (eq_of_some hm10).symm
  refine WQ.retCellTmp2 Z ag31 Z Z Z Z (Own.cellsBlk 1 Z) (fun w hw => ?_)
  exact ⟨(.slice none 0 0, .slice none 0 0, X8.2), Z, hw.pick [0] (by decide), Arr.nil, Arr.nil⟩
 have hm11 := br_f h9 hm7; clear hm7
 refine sk (WQ.then (sr ?_))
 refine wq Z (QV.loadAgg ag25 Z Z Z (Own.cellsBlk 4 Z)) ?_
 refine wq Z (QV.loadAgg ag28 Z Z Z (Own.cellsBlk 3 Z)) ?_
 refine wq Z (QV.loadAgg ag91 Z Z Z (Own.cellsBlk 2 Z)) ?_
 refine wm Z ?_
 refine WL.effect Z ?_
 obtain ⟨x12, hx13, hm14⟩ := bd_some hm11; clear hm11
 refine (EV.callR (X := Value × World) (R := []) (fun X => .tuple #[.agg #[.int .i64 x12.1.pace, .int .i64 x12.1.stages, X.1], .int .i64 x12.2]) (fun X => []) (fun X => X.2) (fun X => Arr X.2 X.1 10 (x12.1.ops.map Opr.cells)) hk (fun _ h => by cases h; decide) en75 (EvAll.cons Z Z (EvAll.cons Z Z (EvAll.cons Z Z (EvAll.cons Z Z EvAll.nil)))) (fun M w h1 h2 => have h := emit_Emit_w hx13 (h_l_logs.le hle8) (h_l_body.le hle8) (h_l_outs.le hle8) (h_p_times.le hle8) hF8 M w h1 h2; h) (fun X15 hF15 hle15 => ?_))
 refine wm Z ?_
 refine wq Z (QV.extract Z Z Z) ?_
 refine wq Z (QV.extract Z Z Z) ?_
 refine WL.effect Z ?_
 refine (EV.alloc (by decide) ze31 (fun b16 => ?_))
 refine WL.effect Z ?_
 refine (EV.store 0 Z Z Z Z Z Z (vs := [.int .i64 x12.1.pace, .int .i64 x12.1.stages, X15.1]) (show Value.cells _ = List.toArray _ from Z) sz31 (Nat.le_of_ble_eq_true Z) (one_cons Z (one_cons Z (one_cons (SliceLen.one hF15.lenMap) one_nil))) ?_)
 refine wa Z ?_
 refine ns ?_
 refine wa Z ?_
 refine nt (WC.seq (sr ?_))
 refine wf fd25_1 Z ?_
 refine wl pl23 Z (Own.cell 5 Z Z) ?_
 refine wq Z (QV.lenS Try.underlying23 Z Z (h_l_body.le (hle8.trans hle15)).lenMap) ?_
 refine wm Z ?_
 refine nt ?_
 refine WK.of (fun w hw => hw.vecNil (E := 3) (sz := 1) (enc := icell)) ?_
 obtain ⟨o18, ho19, hm20⟩ := bd_some hm14; clear hm14; obtain ⟨n21, ho22⟩ := lp_some ho19
 refine WC.bloop3 (H2 := [blk b16 [.int .i64 x12.1.pace, .int .i64 x12.1.stages, X15.1] 31, kn M w.heap.size K0 X15.2, blk b4 [.int .i64 0, .int .i64 0, .slice none 0 0] 31, blk b3 [.int .i64 p.pace, v_p_times] 91, blk b2 t.cells 28, blk b1 [v_l_logs, v_l_body, v_l_outs] 25]) (τ := [(3, (true, _)), (4, (true, _)), (6, (true, _)), (10, (true, _)), (11, (true, _)), (34, (true, _))]) (fun (v17_1 : List Int) (x35_1 : Int) (uv17_1 : Value) => [(12, (true, uv17_1)), (35, (true, .int .i64 x35_1))]) (fun v17_1 x35_1 uv17_1 => [vec uv17_1 3 1 (List.map icell v17_1)]) (fun v17_1 x35_1 uv17_1 m => iter (build_try_L0 l) m (v17_1, x35_1) = some o18 ∧ SliceLen uv17_1 v17_1.length) (fun v17_1 x35_1 uv17_1 => o18 = .go (v17_1, x35_1) ∧ SliceLen uv17_1 v17_1.length) [] 0 (.slice none 0 0) n21 ⟨ho22, SliceLen.nil⟩ ⟨Z, Z, Z, Z, Z, Z, Z, Z, trivial⟩ (fun w hw => hw.pick [0, 1, 2, 3, 4, 5, 6] (by decide)) ?_ ?_
 ·skip
  rintro v17_1 x35_1 uv17_1 ⟨rfl, hlv17_1⟩
  refine WQ.then (WC.seq ?_)
  refine WC.dr (m := 14) (S := Own M w [kn M w.heap.size K0 X15.2, vec uv17_1 3 1 (List.map icell v17_1), blk b16 [.int .i64 x12.1.pace, .int .i64 x12.1.stages, X15.1] 31, blk b3 [.int .i64 p.pace, v_p_times] 91, blk b2 t.cells 28, blk b1 [v_l_logs, v_l_body, v_l_outs] 25]) (by kernel_rfl) (by kernel_rfl) (fun w hw => hw.pick [2, 0, 1, 4, 5, 6] (by decide)) ?_
  refine wz 0 Z Z (QV.loadAgg ag31 Z Z Z (Own.cellsBlk 2 Z)) ?_
  refine wz 1 Z Z (QV.move Z Z) ?_
  refine wz 2 Z Z (QV.move Z Z) ?_
  refine wz 3 Z Z (QV.eql Z Z Z Z) ?_
  refine wz 4 Z Z (QV.move Z Z) ?_
  refine WD.g 5 Z (by kernel_rfl) Z Z (GuardIs.pos Z Z) (fun hG => QV.loadAgg ag25 Z Z Z (Own.cellsBlk 5 Z)) ?_
  refine WD.g 6 Z (by kernel_rfl) Z Z (GuardIs.pos Z Z) (fun hG => QV.loadAgg ag28 Z Z Z (Own.cellsBlk 4 Z)) ?_
  refine WD.g 7 Z (by kernel_rfl) Z Z (GuardIs.pos Z Z) (fun hG => QV.loadAgg ag31 Z Z Z (Own.cellsBlk 2 Z)) ?_
  refine WD.g 8 Z (by kernel_rfl) Z Z (GuardIs.pos Z Z) (fun hG => QV.move Z Z) ?_
  obtain ⟨x23, hx24, hm25⟩ := bdG_some hm20; clear hm20
  refine WD.g 9 Z (by kernel_rfl) Z Z (GuardIs.pos Z Z) (fun hG => QV.call en7 (EvAll.cons Z hG (EvAll.cons Z hG (EvAll.cons Z hG (EvAll.cons Z hG EvAll.nil)))) (fun w hw => have h := check_Takes_w w (hx24 hG) ((Own.karr 0 Z hk (h_l_logs.le (hle8.trans hle15))) w hw) ((Own.karr 0 Z hk (h_l_body.le (hle8.trans hle15))) w hw) ((Own.karr 0 Z hk (h_l_outs.le (hle8.trans hle15))) w hw) ((Own.karr 0 Z hk hF15) w hw) ((Own.vecArr 1 Z) w hw); h)) ?_
  refine wz 10 Z Z (QV.pickAnd Z Z Z (fun h => h)) ?_
  refine WD.o 11 Z (by kernel_rfl) Z ?_
  refine (EV.store 3 Z Z Z Z Z Z (vs := [.int .i64 x12.1.pace, .int .i64 x12.1.stages, X15.1]) (show Value.cells _ = List.toArray _ from Z) sz31 (Nat.le_of_ble_eq_true Z) (one_cons Z (one_cons Z (one_cons (SliceLen.one hF15.lenMap) one_nil))) ?_)
  refine WD.b (H' := [kn M w.heap.size K0 X15.2, vec uv17_1 3 1 (List.map icell v17_1), blk b16 [.int .i64 x12.1.pace, .int .i64 x12.1.stages, X15.1] 31, blk b4 [.int .i64 x12.1.pace, .int .i64 x12.1.stages, X15.1] 31, blk b3 [.int .i64 p.pace, v_p_times] 91, blk b2 t.cells 28, blk b1 [v_l_logs, v_l_body, v_l_outs] 25]) (fun w hw => hw.pick [2, 0, 1, 3, 4, 5, 6] (by decide)) (fun w hw => hw.pick [0, 1, 2, 4, 5, 6] (by decide)) ?_
  refine wz 12 Z Z (QV.assign Z Z) ?_
  refine wz 13 Z Z (QV.assign Z Z) ?_
  refine WD.e (by kernel_rfl) ?_
  refine WQ.then (WC.ret ?_)
  obtain rfl := (eq_of_some hm25).symm
  refine WK.of (C' := Own M w [kn M w.heap.size K0 X15.2, vec uv17_1 3 1 (List.map icell v17_1), blk b16 [.int .i64 x12.1.pace, .int .i64 x12.1.stages, X15.1] 31, blk b4 [.int .i64 x12.1.pace, .int .i64 x12.1.stages, X15.1] 31, blk b3 [.int .i64 p.pace, v_p_times] 91, blk b2 t.cells 28, blk b1 [v_l_logs, v_l_body, v_l_outs] 25]) (fun w hw => hw.pick [2, 0, 1, 3, 4, 5, 6] (by decide)) ?_
  refine WK.freeze hk (fun k26 hle26 hr26 => ?_)
  have hA26 := vec_arr hr26
  refine WQ.retCellTmp2 Z ag31 Z Z Z Z (Own.cellsBlk 2 Z) (fun w hw => ?_)
  exact ⟨(X15.1, uv17_1, k26), Z, hw.pick [0] (by decide), (hF15.le hle26), hA26⟩
 rintro v17_1 x35_1 uv17_1 m27 ⟨hI28, hlv17_1⟩
 obtain ⟨m29, s30, rfl, hm31, hn32⟩ := iter_step hI28; clear hI28; unfold build_try_L0 at hm31; simp only at hm31
 refine sr ?_
 refine wq Z (QV.lss Z Z Z Z) ?_
 refine nt (WC.seq ?_)
 refine WC.cond Z (fun h33 => ?_) (fun h33 => ?_)
 ·skip
  have hm34 := br_t h33 hm31; clear hm31
  refine sk (WQ.then (WC.seq (WC.block (sr ?_))))
  refine wm Z ?_
  refine wa Z ?_
  refine nr ?_
  refine wm Z ?_
  refine wm Z ?_
  refine WL.effect Z ?_
  refine (EV.buildSlice (by decide) sz_22 (by decide) (by decide) (ps := [(0, .tmp 39)]) (cells := [.int .i64 x35_1]) (EvAll.cons Z Z EvAll.nil) (by kernel_rfl) (fun b35 => ?_))
  refine WL.effect Z ?_
  obtain ⟨c36, hm37⟩ := cs hm34; clear hm34
  refine (EV.appendL (enc := icell) (xs := v17_1) (ys := [x35_1]) ((v17_1 ++ [x35_1])) 1 (by decide) ve22 Z Z Z Z Z (Own.blkArr 0 (rows := [x35_1].map icell) Z Z (rows_len icell_len)) icell_len (icell_one _) Z c36.1 c36.2 (fun u38 hu39 => ?_))
  refine wa Z ?_
  refine WL.nil (WQ.block (WQ.then (WC.region ?_)))
  obtain ⟨c40, hm41⟩ := cs hm37; clear hm37
  refine wq Z (QV.add Z Z Z Z c40) ?_
  refine wm Z ?_
  refine WL.nil ?_
  exact WQ.again3 (v17_1 ++ [x35_1]) (x35_1 + 1) u38 m29 ⟨up_next hm41 hn32, hu39⟩ (Nat.lt_succ_self _) ⟨Z, Z, Z, Z, Z, Z, Z, Z, trivial⟩ (fun w hw => hw.pick [1, 2, 3, 4, 5, 6, 7] (by decide))
 have hm42 := br_f h33 hm31; clear hm31
 refine WC.exit (te (te (WQ.block_exit ?_)))
 exact WQ.out3 v17_1 x35_1 uv17_1 ⟨up_brk hm42 hn32, hlv17_1⟩ ⟨Z, Z, Z, Z, Z, Z, Z, Z, trivial⟩ (fun w hw => hw.pick [0, 1, 2, 3, 4, 5, 6] (by decide))
theorem build_straight_w {v_l_logs : Value} {v_l_body : Value} {v_l_outs : Value} {l : Lp} {t : Tgt} {r : Pln} {K0 : World} (hm : build_straight_m l t = some r) (h_l_logs : Arr K0 v_l_logs 1 (l.logs.map icell)) (h_l_body : Arr K0 v_l_body 9 (l.body.map Stm.cells)) (h_l_outs : Arr K0 v_l_outs 1 (l.outs.map icell)) (M : Nat → Prop) (w : World) (hk : Base M K0 w) (hw0 : Own M w [] w) : Calls Try.prog 40 #[.agg #[v_l_logs, v_l_body, v_l_outs], .agg #[.int .i64 t.u0, .int .i64 t.u1, .int .i64 t.u2, .int .i64 t.w0, .int .i64 t.w1, .int .i64 t.w2, .int .i64 t.regs]] w (fun e w' => ∃ X : Value × World, e = .returned (.agg #[.int .i64 r.pace, X.1]) ∧ Own M w (kn M w.heap.size K0 X.2 :: []) w' ∧ Arr X.2 X.1 1 (r.times.map icell)) := by
 unfold build_straight_m at hm
 refine calls_of_WC (n := 32) (args := [.agg #[v_l_logs, v_l_body, v_l_outs], .agg #[.int .i64 t.u0, .int .i64 t.u1, .int .i64 t.u2, .int .i64 t.w0, .int .i64 t.w1, .int .i64 t.w2, .int .i64 t.regs]]) Try.func40 Z Z (Nat.le_of_ble_eq_true Z) ?_ (Own.startK hk hw0)
 refine sr ?_
 refine WL.effect Z ?_
 refine (EV.boxAgg (by decide) Z Z (fun b1 => ?_))
 refine WL.effect Z ?_
 refine (EV.boxAgg (by decide) Z Z (fun b2 => ?_))
 refine WL.effect Z ?_
 refine (EV.alloc (by decide) ze91 (fun b3 => ?_))
 refine ns ?_
 refine WL.effect Z ?_
 refine (EV.alloc (by decide) ze91 (fun b4 => ?_))
 refine nt (WC.seq (sr ?_))
 refine wf fd25_1 Z ?_
 refine wl pl23 Z (Own.cell 3 Z Z) ?_
 refine wq Z (QV.lenS Try.underlying23 Z Z h_l_body.lenMap) ?_
 refine wm Z ?_
 refine nt ?_
 refine WK.of (fun w hw => hw.vecNil (E := 3) (sz := 1) (enc := icell)) ?_
 obtain ⟨o6, ho7, hm8⟩ := bd_some hm; clear hm; obtain ⟨n9, ho10⟩ := lp_some ho7
 refine WC.bloop4 (H2 := [blk b3 [.int .i64 0, .slice none 0 0] 91, blk b2 t.cells 28, blk b1 [v_l_logs, v_l_body, v_l_outs] 25, kn M w.heap.size K0 K0]) (τ := [(3, (true, _)), (4, (true, _)), (5, (true, _)), (9, (true, _)), (10, (true, _))]) (fun (v5_1 : List Int) (b4c0_1 : Int) (x11_1 : Int) (uv5_1 : Value) => [(11, (true, .int .i64 x11_1))]) (fun v5_1 b4c0_1 x11_1 uv5_1 => [vec uv5_1 3 1 (List.map icell v5_1), blk b4 [.int .i64 b4c0_1, uv5_1] 91]) (fun v5_1 b4c0_1 x11_1 uv5_1 m => iter (build_straight_L0 l t) m (v5_1, b4c0_1, x11_1) = some o6 ∧ SliceLen uv5_1 v5_1.length) (fun v5_1 b4c0_1 x11_1 uv5_1 => o6 = .go (v5_1, b4c0_1, x11_1) ∧ SliceLen uv5_1 v5_1.length) [] 0 0 (.slice none 0 0) n9 ⟨ho10, SliceLen.nil⟩ ⟨Z, Z, Z, Z, Z, Z, trivial⟩ (fun w hw => hw.pick [0, 1, 2, 3, 4, 5] (by decide)) ?_ ?_
 ·skip
  rintro v5_1 b4c0_1 x11_1 uv5_1 ⟨rfl, hlv5_1⟩
  refine WQ.then (sr ?_)
  refine wq Z (QV.loadAgg ag91 Z Z Z (Own.cellsBlk 1 Z)) ?_
  refine WL.effect Z ?_
  refine (EV.store 2 Z Z Z Z Z Z (vs := [.int .i64 b4c0_1, uv5_1]) (show Value.cells _ = List.toArray _ from Z) sz91 (Nat.le_of_ble_eq_true Z) (one_cons Z (one_cons (SliceLen.one hlv5_1) one_nil)) ?_)
  refine nt (WC.ret ?_)
  obtain rfl := (eq_of_some hm8).symm
  refine WK.of (C' := Own M w [kn M w.heap.size K0 K0, vec uv5_1 3 1 (List.map icell v5_1), blk b4 [.int .i64 b4c0_1, uv5_1] 91, blk b3 [.int .i64 b4c0_1, uv5_1] 91, blk b2 t.cells 28, blk b1 [v_l_logs, v_l_body, v_l_outs] 25]) (fun w hw => hw.pick [5, 0, 1, 2, 3, 4] (by decide)) ?_
  refine WK.freeze hk (fun k11 hle11 hr11 => ?_)
  have hA11 := vec_arr hr11
  refine WQ.retCell Z ag91 Z Z (Own.cellsBlk 2 Z) (fun w hw => ?_)
  exact ⟨(uv5_1, k11), Z, hw.pick [0] (by decide), hA11⟩
 rintro v5_1 b4c0_1 x11_1 uv5_1 m12 ⟨hI13, hlv5_1⟩
 obtain ⟨m14, s15, rfl, hm16, hn17⟩ := iter_step hI13; clear hI13; unfold build_straight_L0 at hm16; simp only at hm16
 refine sr ?_
 refine wq Z (QV.lss Z Z Z Z) ?_
 refine nt (WC.seq ?_)
 refine WC.cond Z (fun h18 => ?_) (fun h18 => ?_)
 ·skip
  have hm19 := br_t h18 hm16; clear hm16
  refine sk (WQ.then (WC.seq (WC.block (sr ?_))))
  obtain ⟨c20, hm21⟩ := cs hm19; clear hm19
  obtain ⟨p22, hp23⟩ := h_l_body.lenMap.ix (sz := 9) ln_len c20
  refine wq Z (QV.indexSlice sl23 Z Z Z Z hp23) ?_
  refine wq Z (QV.loadAgg ag81 Z Z Z (fun w hw => ((Own.karr 5 Z hk h_l_body) w hw).ele hp23 c20)) ?_
  refine WL.effect Z ?_
  refine (EV.alloc (by decide) ze81 (fun b24 => ?_))
  refine WL.effect Z ?_
  refine (EV.store 0 Z Z Z Z Z Z (vs := (Stm.cells (ele l.body x11_1))) (show Value.cells _ = List.toArray _ from Z) sz81 (Nat.le_of_ble_eq_true Z) (one_cons Z (one_cons Z (one_cons Z (one_cons Z (one_cons Z (one_cons Z (one_cons Z (one_cons Z (one_cons Z one_nil))))))))) ?_)
  refine ns ?_
  refine wf fd91_1 Z ?_
  refine wl pl22 Z (Own.cell 2 Z Z) ?_
  refine wf fd91_0 Z ?_
  refine wl pl3 Z (Own.cell 2 Z Z) ?_
  refine WL.effect Z ?_
  refine (EV.buildSlice (by decide) sz_22 (by decide) (by decide) (ps := [(0, .tmp 18)]) (cells := [.int .i64 b4c0_1]) (EvAll.cons Z Z EvAll.nil) (by kernel_rfl) (fun b25 => ?_))
  refine WL.effect Z ?_
  obtain ⟨c26, hm27⟩ := cs hm21; clear hm21
  refine (EV.appendL (enc := icell) (xs := v5_1) (ys := [b4c0_1]) ((v5_1 ++ [b4c0_1])) 2 (by decide) ve22 Z Z Z Z Z (Own.blkArr 0 (rows := [b4c0_1].map icell) Z Z (rows_len icell_len)) icell_len (icell_one _) Z c26.1 c26.2 (fun u28 hu29 => ?_))
  refine wf fd91_1 Z ?_
  refine WL.effect Z ?_
  refine (EV.store 3 Z Z Z Z Z Z (vs := [u28]) (SliceLen.cells hu29) sz22 (Nat.le_of_ble_eq_true Z) (one_cons (SliceLen.one hu29) one_nil) ?_)
  refine nt ?_
  refine WC.dr (m := 9) (S := Own M w [kn M w.heap.size K0 K0, blk b25 [.int .i64 b4c0_1] 3, blk b24 (Stm.cells (ele l.body x11_1)) 81, vec u28 3 1 (List.map icell (v5_1 ++ [b4c0_1])), blk b4 [.int .i64 b4c0_1, u28] 91, blk b3 [.int .i64 0, .slice none 0 0] 91, blk b2 t.cells 28, blk b1 [v_l_logs, v_l_body, v_l_outs] 25]) (by kernel_rfl) (by kernel_rfl) (fun w hw => hw.pick [7, 0, 1, 2, 3, 4, 5, 6] (by decide)) ?_
  refine wz 0 Z Z (QV.fieldAddr fd91_0 Z Z) ?_
  refine wz 1 Z Z (QV.load pl3 Z Z (Own.cell 4 Z Z)) ?_
  refine wz 2 Z Z (QV.loadAgg ag28 Z Z Z (Own.cellsBlk 6 Z)) ?_
  refine wz 3 Z Z (QV.fieldAddr fd81_0 Z Z) ?_
  refine wz 4 Z Z (QV.load pl3 Z Z (Own.cell 2 Z Z)) ?_
  obtain ⟨x30, hx31, hm32⟩ := bd_some hm27; clear hm27
  refine wz 5 Z Z (QV.call en69 (EvAll.cons Z Z (EvAll.cons Z Z EvAll.nil)) (fun w hw => have h := target_Wait_w w hx31 ; h)) ?_
  obtain ⟨c33, hm34⟩ := cs hm32; clear hm32
  refine wz 6 Z Z (QV.add Z Z Z Z c33) ?_
  refine wz 7 Z Z (QV.fieldAddr fd91_0 Z Z) ?_
  refine WD.l 8 Z (by kernel_rfl) Z ?_
  refine (EV.store 3 Z Z Z Z Z Z (vs := [.int .i64 (b4c0_1 + x30)]) (show Value.cells _ = List.toArray _ from Z) sz3 (Nat.le_of_ble_eq_true Z) (one_cons Z one_nil) ?_)
  refine WQ.block (WQ.then (WC.region ?_))
  obtain ⟨c35, hm36⟩ := cs hm34; clear hm34
  refine wq Z (QV.add Z Z Z Z c35) ?_
  refine wm Z ?_
  refine WL.nil ?_
  exact WQ.again4 (v5_1 ++ [b4c0_1]) (b4c0_1 + x30) (x11_1 + 1) u28 m14 ⟨up_next hm36 hn17, hu29⟩ (Nat.lt_succ_self _) ⟨Z, Z, Z, Z, Z, Z, trivial⟩ (fun w hw => hw.pick [2, 3, 4, 5, 6, 7] (by decide))
 have hm37 := br_f h18 hm16; clear hm16
 refine WC.exit (te (te (WQ.block_exit ?_)))
 exact WQ.out4 v5_1 b4c0_1 x11_1 uv5_1 ⟨up_brk hm37 hn17, hlv5_1⟩ ⟨Z, Z, Z, Z, Z, Z, trivial⟩ (fun w hw => hw.pick [0, 1, 2, 3, 4, 5] (by decide))
theorem build_Build_w {v_l_logs : Value} {v_l_body : Value} {v_l_outs : Value} {l : Lp} {t : Tgt} {r : Krn × List Int × Int} {K0 : World} (hm : build_Build_m l t = some r) (h_l_logs : Arr K0 v_l_logs 1 (l.logs.map icell)) (h_l_body : Arr K0 v_l_body 9 (l.body.map Stm.cells)) (h_l_outs : Arr K0 v_l_outs 1 (l.outs.map icell)) (M : Nat → Prop) (w : World) (hk : Base M K0 w) (hw0 : Own M w [] w) : Calls Try.prog 15 #[.agg #[v_l_logs, v_l_body, v_l_outs], .agg #[.int .i64 t.u0, .int .i64 t.u1, .int .i64 t.u2, .int .i64 t.w0, .int .i64 t.w1, .int .i64 t.w2, .int .i64 t.regs]] w (fun e w' => ∃ X : Value × Value × World, e = .returned (.tuple #[.agg #[.int .i64 r.1.pace, .int .i64 r.1.stages, X.1], X.2.1, .int .i64 r.2.2]) ∧ Own M w (kn M w.heap.size K0 X.2.2 :: []) w' ∧ Arr X.2.2 X.1 10 (r.1.ops.map Opr.cells) ∧ Arr X.2.2 X.2.1 1 (r.2.1.map icell)) := by
 unfold build_Build_m at hm
 refine calls_of_WC (n := 71) (args := [.agg #[v_l_logs, v_l_body, v_l_outs], .agg #[.int .i64 t.u0, .int .i64 t.u1, .int .i64 t.u2, .int .i64 t.w0, .int .i64 t.w1, .int .i64 t.w2, .int .i64 t.regs]]) Try.func15 Z Z (Nat.le_of_ble_eq_true Z) ?_ (Own.startK hk hw0)
 refine sr ?_
 refine WL.effect Z ?_
 refine (EV.boxAgg (by decide) Z Z (fun b1 => ?_))
 refine WL.effect Z ?_
 refine (EV.boxAgg (by decide) Z Z (fun b2 => ?_))
 refine WL.effect Z ?_
 refine (EV.alloc (by decide) ze31 (fun b3 => ?_))
 refine wa Z ?_
 refine wa Z ?_
 refine nt (WC.seq (sr ?_))
 refine wq Z (QV.loadAgg ag25 Z Z Z (Own.cellsBlk 2 Z)) ?_
 obtain ⟨x4, hx5, hm6⟩ := bd_some hm; clear hm
 refine wq Z (QV.call en38 (EvAll.cons Z Z EvAll.nil) (fun w hw => have h := loop_May_w w hx5 ((Own.karr 3 Z hk h_l_logs) w hw) ((Own.karr 3 Z hk h_l_body) w hw) ((Own.karr 3 Z hk h_l_outs) w hw); h)) ?_
 refine wq Z (QV.not Z Z) ?_
 refine wm Z ?_
 refine gn Z (fun hG => QV.loadAgg ag28 Z Z Z (Own.cellsBlk 1 Z)) ?_
 obtain ⟨x7, hx8, hm9⟩ := bdG_some hm6; clear hm6
 refine gn Z (fun hG => QV.call en39 (EvAll.cons Z hG EvAll.nil) (fun w hw => have h := target_May_w w (hx8 hG) ; h)) ?_
 refine gn Z (fun hG => QV.not Z hG) ?_
 refine wq Z (QV.pickOr Z Z Z (fun h => notF h)) ?_
 refine nt ?_
 refine WC.cond Z (fun h10 => ?_) (fun h10 => ?_)
 ·skip
  have hm11 := br_t h10 hm9; clear hm9
  refine sr ?_
  refine wq Z (QV.build (ps := []) (cells := [.int .i64 0, .int .i64 0, .slice none 0 0]) EvAll.nil (by kernel_rfl)) ?_
  refine WL.effect Z ?_
  refine (EV.store 0 Z Z Z Z Z Z (vs := [.int .i64 0, .int .i64 0, .slice none 0 0]) (show Value.cells _ = List.toArray _ from Z) sz31 (Nat.le_of_ble_eq_true Z) (one_cons Z (one_cons Z (one_cons Z one_nil))) ?_)
  refine wa Z ?_
  refine wa Z ?_
  refine nt (WC.ret (tr ?_))
  obtain rfl := (eq_of_some hm11).symm
  refine WQ.retCellTmp2 Z ag31 Z Z Z Z (Own.cellsBlk 0 Z) (fun w hw => ?_)
  exact ⟨(.slice none 0 0, .slice none 0 0, K0), Z, hw.pick [3] (by decide), Arr.nil, Arr.nil⟩
 have hm12 := br_f h10 hm9; clear hm9
 refine sk (WQ.then (sr ?_))
 refine wq Z (QV.loadAgg ag25 Z Z Z (Own.cellsBlk 2 Z)) ?_
 refine wq Z (QV.loadAgg ag28 Z Z Z (Own.cellsBlk 1 Z)) ?_
 refine WL.effect Z ?_
 obtain ⟨x13, hx14, hm15⟩ := bd_some hm12; clear hm12
 refine EV.of (C' := Own M w [kn M w.heap.size K0 K0, blk b3 [.int .i64 0, .int .i64 0, .slice none 0 0] 31, blk b2 t.cells 28, blk b1 [v_l_logs, v_l_body, v_l_outs] 25]) (fun w hw => hw.pick [3, 0, 1, 2] (by decide)) ?_
 refine (EV.callR (X := Value × World) (R := []) (fun X => .agg #[.int .i64 x13.pace, X.1]) (fun X => []) (fun X => X.2) (fun X => Arr X.2 X.1 1 (x13.times.map icell)) hk (fun _ h => by cases h; decide) en40 (EvAll.cons Z Z (EvAll.cons Z Z EvAll.nil)) (fun M w h1 h2 => have h := build_straight_w hx14 h_l_logs h_l_body h_l_outs M w h1 h2; h) (fun X16 hF16 hle16 => ?_))
 refine WL.effect Z ?_
 refine (EV.alloc (by decide) ze91 (fun b17 => ?_))
 refine WL.effect Z ?_
 refine (EV.store 0 Z Z Z Z Z Z (vs := [.int .i64 x13.pace, X16.1]) (show Value.cells _ = List.toArray _ from Z) sz91 (Nat.le_of_ble_eq_true Z) (one_cons Z (one_cons (SliceLen.one hF16.lenMap) one_nil)) ?_)
 refine nt (WC.seq (sr ?_))
 refine wa Z ?_
 refine nt ?_
 obtain ⟨o18, ho19, hm20⟩ := bd_some hm15; clear hm15; obtain ⟨n21, ho22⟩ := lp_some ho19
 refine WC.bloop2 (H2 := [blk b17 [.int .i64 x13.pace, X16.1] 91, blk b3 [.int .i64 0, .int .i64 0, .slice none 0 0] 31, blk b2 t.cells 28, blk b1 [v_l_logs, v_l_body, v_l_outs] 25]) (τ := [(2, (true, _)), (3, (true, _)), (4, (true, _)), (7, (true, _))]) (fun (least8_1 : Int) (k_1 : World) => [(8, (true, .int .i64 least8_1))]) (fun least8_1 k_1 => [kn M w.heap.size K0 k_1]) (fun least8_1 k_1 m => iter (build_Build_L0 l t x13) m least8_1 = some o18 ∧ Le X16.2 k_1) (fun least8_1 k_1 => o18 = .go least8_1 ∧ Le X16.2 k_1) 1 X16.2 n21 ⟨ho22, (Le.refl _)⟩ ⟨Z, Z, Z, Z, Z, trivial⟩ (fun w hw => hw.pick [1, 0, 2, 3, 4] (by decide)) ?_ ?_
 ·skip
  rintro least8_1 k_1 ⟨rfl, hle_1⟩
  refine WQ.then (WC.seq (sr ?_))
  refine wq Z (QV.loadAgg ag25 Z Z Z (Own.cellsBlk 4 Z)) ?_
  refine wq Z (QV.loadAgg ag28 Z Z Z (Own.cellsBlk 3 Z)) ?_
  refine wq Z (QV.loadAgg ag91 Z Z Z (Own.cellsBlk 1 Z)) ?_
  refine WL.effect Z ?_
  obtain ⟨x23, hx24, hm25⟩ := bd_some hm20; clear hm20
  refine (EV.callR (X := Value × Value × World) (R := []) (fun X => .tuple #[.agg #[.int .i64 x23.1.pace, .int .i64 x23.1.stages, X.1], X.2.1, .bool x23.2.2]) (fun X => []) (fun X => X.2.2) (fun X => Arr X.2.2 X.1 10 (x23.1.ops.map Opr.cells) ∧ Arr X.2.2 X.2.1 1 (x23.2.1.map icell)) hk (fun _ h => by cases h; decide) en42 (EvAll.cons Z Z (EvAll.cons Z Z (EvAll.cons Z Z EvAll.nil))) (fun M w h1 h2 => have h := build_try_w hx24 (h_l_logs.le (hle16.trans hle_1)) (h_l_body.le (hle16.trans hle_1)) (h_l_outs.le (hle16.trans hle_1)) (hF16.le hle_1) M w h1 h2; h) (fun X26 hF26 hle26 => ?_))
  refine wm Z ?_
  refine wq Z (QV.extract Z Z Z) ?_
  refine wq Z (QV.extract Z Z Z) ?_
  refine wq Z (QV.extract Z Z Z) ?_
  refine WL.effect Z ?_
  refine (EV.alloc (by decide) ze31 (fun b27 => ?_))
  refine WL.effect Z ?_
  refine (EV.store 0 Z Z Z Z Z Z (vs := [.int .i64 x23.1.pace, .int .i64 x23.1.stages, X26.1]) (show Value.cells _ = List.toArray _ from Z) sz31 (Nat.le_of_ble_eq_true Z) (one_cons Z (one_cons Z (one_cons (SliceLen.one hF26.1.lenMap) one_nil))) ?_)
  refine wa Z ?_
  refine wa Z ?_
  refine ns ?_
  refine wm Z ?_
  refine nt ?_
  refine WC.cond Z (fun h28 => ?_) (fun h28 => ?_)
  ·skip
   have hm29 := br_t h28 hm25; clear hm25
   refine sr ?_
   refine wq Z (QV.loadAgg ag31 Z Z Z (Own.cellsBlk 0 Z)) ?_
   refine wm Z ?_
   refine WL.effect Z ?_
   refine (EV.store 3 Z Z Z Z Z Z (vs := [.int .i64 x23.1.pace, .int .i64 x23.1.stages, X26.1]) (show Value.cells _ = List.toArray _ from Z) sz31 (Nat.le_of_ble_eq_true Z) (one_cons Z (one_cons Z (one_cons (SliceLen.one hF26.1.lenMap) one_nil))) ?_)
   refine wa Z ?_
   refine wa Z ?_
   refine nt (WC.ret (tr ?_))
   obtain rfl := (eq_of_some hm29).symm
   refine WQ.retCellTmp2 Z ag31 Z Z Z Z (Own.cellsBlk 3 Z) (fun w hw => ?_)
   exact ⟨(X26.1, X26.2.1, X26.2.2), Z, hw.pick [1] (by decide), hF26.1, hF26.2⟩
  have hm30 := br_f h28 hm25; clear hm25
  refine sk (WQ.then (sr ?_))
  refine wq Z (QV.build (ps := []) (cells := [.int .i64 0, .int .i64 0, .slice none 0 0]) EvAll.nil (by kernel_rfl)) ?_
  refine WL.effect Z ?_
  refine (EV.store 3 Z Z Z Z Z Z (vs := [.int .i64 0, .int .i64 0, .slice none 0 0]) (show Value.cells _ = List.toArray _ from Z) sz31 (Nat.le_of_ble_eq_true Z) (one_cons Z (one_cons Z (one_cons Z one_nil))) ?_)
  refine wa Z ?_
  refine wa Z ?_
  refine nt (WC.ret ?_)
  obtain rfl := (eq_of_some hm30).symm
  refine WQ.retCellTmp2 Z ag31 Z Z Z Z (Own.cellsBlk 3 Z) (fun w hw => ?_)
  exact ⟨(.slice none 0 0, .slice none 0 0, X26.2.2), Z, hw.pick [1] (by decide), Arr.nil, Arr.nil⟩
 rintro least8_1 k_1 m31 ⟨hI32, hle_1⟩
 obtain ⟨m33, s34, rfl, hm35, hn36⟩ := iter_step hI32; clear hI32; unfold build_Build_L0 at hm35
 refine WC.seq (sr ?_)
 refine wm Z ?_
 refine wf fd91_0 Z ?_
 refine wl pl3 Z (Own.cell 1 Z Z) ?_
 refine wq Z (QV.leq Z Z Z Z) ?_
 refine nt ?_
 refine WC.cond Z (fun h37 => ?_) (fun h37 => ?_)
 ·skip
  have hm38 := br_t h37 hm35; clear hm35
  refine sk (WQ.then (WC.block (sr ?_)))
  refine wq Z (QV.loadAgg ag25 Z Z Z (Own.cellsBlk 4 Z)) ?_
  refine wq Z (QV.loadAgg ag28 Z Z Z (Own.cellsBlk 3 Z)) ?_
  refine wm Z ?_
  refine WL.effect Z ?_
  obtain ⟨x39, hx40, hm41⟩ := bd_some hm38; clear hm38
  refine (EV.callR (X := Value × World) (R := []) (fun X => .tuple #[.agg #[.int .i64 x39.1.pace, X.1], .int .i64 x39.2]) (fun X => []) (fun X => X.2) (fun X => Arr X.2 X.1 1 (x39.1.times.map icell)) hk (fun _ h => by cases h; decide) en41 (EvAll.cons Z Z (EvAll.cons Z Z (EvAll.cons Z Z EvAll.nil))) (fun M w h1 h2 => have h := sched_Make_w hx40 (h_l_logs.le (hle16.trans hle_1)) (h_l_body.le (hle16.trans hle_1)) (h_l_outs.le (hle16.trans hle_1)) M w h1 h2; h) (fun X42 hF42 hle42 => ?_))
  refine wm Z ?_
  refine wq Z (QV.extract Z Z Z) ?_
  refine wq Z (QV.extract Z Z Z) ?_
  refine WL.effect Z ?_
  refine (EV.alloc (by decide) ze91 (fun b43 => ?_))
  refine WL.effect Z ?_
  refine (EV.store 0 Z Z Z Z Z Z (vs := [.int .i64 x39.1.pace, X42.1]) (show Value.cells _ = List.toArray _ from Z) sz91 (Nat.le_of_ble_eq_true Z) (one_cons Z (one_cons (SliceLen.one hF42.lenMap) one_nil)) ?_)
  refine wa Z ?_
  refine nt (WC.seq (sr ?_))
  refine wq Z (QV.loadAgg ag25 Z Z Z (Own.cellsBlk 5 Z)) ?_
  refine wq Z (QV.loadAgg ag28 Z Z Z (Own.cellsBlk 4 Z)) ?_
  refine wq Z (QV.loadAgg ag91 Z Z Z (Own.cellsBlk 0 Z)) ?_
  refine WL.effect Z ?_
  obtain ⟨x44, hx45, hm46⟩ := bd_some hm41; clear hm41
  refine EV.of (C' := Own M w [kn M w.heap.size K0 X42.2, blk b43 [.int .i64 x39.1.pace, X42.1] 91, blk b17 [.int .i64 x13.pace, X16.1] 91, blk b3 [.int .i64 0, .int .i64 0, .slice none 0 0] 31, blk b2 t.cells 28, blk b1 [v_l_logs, v_l_body, v_l_outs] 25]) (fun w hw => hw.pick [1, 0, 2, 3, 4, 5] (by decide)) ?_
  refine (EV.callR (X := Value × Value × World) (R := []) (fun X => .tuple #[.agg #[.int .i64 x44.1.pace, .int .i64 x44.1.stages, X.1], X.2.1, .bool x44.2.2]) (fun X => []) (fun X => X.2.2) (fun X => Arr X.2.2 X.1 10 (x44.1.ops.map Opr.cells) ∧ Arr X.2.2 X.2.1 1 (x44.2.1.map icell)) hk (fun _ h => by cases h; decide) en42 (EvAll.cons Z Z (EvAll.cons Z Z (EvAll.cons Z Z EvAll.nil))) (fun M w h1 h2 => have h := build_try_w hx45 (h_l_logs.le ((hle16.trans hle_1).trans hle42)) (h_l_body.le ((hle16.trans hle_1).trans hle42)) (h_l_outs.le ((hle16.trans hle_1).trans hle42)) hF42 M w h1 h2; h) (fun X47 hF47 hle47 => ?_))
  refine wm Z ?_
  refine wq Z (QV.extract Z Z Z) ?_
  refine wq Z (QV.extract Z Z Z) ?_
  refine wq Z (QV.extract Z Z Z) ?_
  refine WL.effect Z ?_
  refine (EV.alloc (by decide) ze31 (fun b48 => ?_))
  refine WL.effect Z ?_
  refine (EV.store 0 Z Z Z Z Z Z (vs := [.int .i64 x44.1.pace, .int .i64 x44.1.stages, X47.1]) (show Value.cells _ = List.toArray _ from Z) sz31 (Nat.le_of_ble_eq_true Z) (one_cons Z (one_cons Z (one_cons (SliceLen.one hF47.1.lenMap) one_nil))) ?_)
  refine wa Z ?_
  refine wa Z ?_
  refine ns ?_
  refine wm Z ?_
  refine nt ?_
  refine WC.cond Z (fun h49 => ?_) (fun h49 => ?_)
  ·skip
   have hm50 := br_t h49 hm46; clear hm46
   refine sr ?_
   refine wq Z (QV.loadAgg ag31 Z Z Z (Own.cellsBlk 0 Z)) ?_
   refine wm Z ?_
   refine WL.effect Z ?_
   refine (EV.store 4 Z Z Z Z Z Z (vs := [.int .i64 x44.1.pace, .int .i64 x44.1.stages, X47.1]) (show Value.cells _ = List.toArray _ from Z) sz31 (Nat.le_of_ble_eq_true Z) (one_cons Z (one_cons Z (one_cons (SliceLen.one hF47.1.lenMap) one_nil))) ?_)
   refine wa Z ?_
   refine wa Z ?_
   refine nt (WC.ret (tr (kr (tr (kr (tr (tr ?_)))))))
   obtain rfl := up_ret hm50 hn36
   obtain rfl := (eq_of_some hm20).symm
   refine WQ.retCellTmp2 Z ag31 Z Z Z Z (Own.cellsBlk 4 Z) (fun w hw => ?_)
   exact ⟨(X47.1, X47.2.1, X47.2.2), Z, hw.pick [1] (by decide), hF47.1, hF47.2⟩
  have hm51 := br_f h49 hm46; clear hm46
  refine sk (WQ.then (WC.region ?_))
  refine wf fd91_0 Z ?_
  refine wl pl3 Z (Own.cell 2 Z Z) ?_
  obtain ⟨c52, hm53⟩ := cs hm51; clear hm51
  refine wq Z (QV.add Z Z Z Z c52) ?_
  refine wf fd91_0 Z ?_
  refine wl pl3 Z (Own.cell 2 Z Z) ?_
  obtain ⟨c54, hm55⟩ := cs hm53; clear hm53
  refine wq Z (QV.mul Z Z Z Z c54) ?_
  obtain ⟨c56, hm57⟩ := cs hm55; clear hm55
  refine wq Z (QV.quo Z Z Z Z (by decide) c56) ?_
  refine wq Z (QV.max2 Z Z Z Z) ?_
  refine wa Z ?_
  refine WL.nil (WQ.block ?_)
  exact WQ.again2 (max (x39.1.pace + 1) (Int.tdiv (x39.1.pace * 5) 4)) X47.2.2 m33 ⟨up_next hm57 hn36, ((hle_1.trans hle42).trans hle47)⟩ (Nat.lt_succ_self _) ⟨Z, Z, Z, Z, Z, trivial⟩ (fun w hw => hw.pick [1, 3, 4, 5, 6] (by decide))
 have hm58 := br_f h37 hm35; clear hm35
 refine WC.exit (te (te (WQ.block_exit ?_)))
 exact WQ.out2 least8_1 k_1 ⟨up_brk hm58 hn36, hle_1⟩ ⟨Z, Z, Z, Z, Z, trivial⟩ (fun w hw => hw.pick [0, 1, 2, 3, 4] (by decide))
end Go.Proofs.Ytaimbkndebaaiac
end
section
namespace Go.Proofs.Ytaimbkndebaaiac
open Go.Rd
open TNum TLoop TKern TKeep TOrd TCpt TDep TSched1 TEmit TCheck TRegs TBound TMake TBuild
namespace TRDep
theorem en103 : Go.Rd.Enters Try.prog 103 := ⟨Try.f103, Try.func103, by kernel_rfl, by kernel_rfl⟩
theorem en104 : Go.Rd.Enters Try.prog 104 := ⟨Try.f104, Try.func104, by kernel_rfl, by kernel_rfl⟩
theorem en47 : Go.Rd.Enters Try.prog 47 := ⟨Try.f47, Try.func47, by kernel_rfl, by kernel_rfl⟩
theorem en65 : Go.Rd.Enters Try.prog 65 := ⟨Try.f65, Try.func65, by kernel_rfl, by kernel_rfl⟩
end TRDep
open TRDep
theorem R6_Meets_w {a : Stm} {b : Stm} {back : Int} {size : Int} {r : Bool} (w : World) (hm : R6_Meets_m a b back size = some r)  : Calls Try.prog 104 #[.agg #[.int .i64 a.op, .int .i64 a.a.st, .int .i64 a.a.bk, .int .i64 a.b.st, .int .i64 a.b.bk, .int .i64 a.ar, .int .i64 a.sp, .int .i64 a.pl, .int .i64 a.n], .agg #[.int .i64 b.op, .int .i64 b.a.st, .int .i64 b.a.bk, .int .i64 b.b.st, .int .i64 b.b.bk, .int .i64 b.ar, .int .i64 b.sp, .int .i64 b.pl, .int .i64 b.n], .int .i64 back, .int .i64 size] w (fun e w' => e = .returned (.bool r) ∧ Grow w w') := by
 unfold R6_Meets_m at hm
 have hk := Base.rfl (w := w)
 refine calls_of_WC (n := 40) (args := [.agg #[.int .i64 a.op, .int .i64 a.a.st, .int .i64 a.a.bk, .int .i64 a.b.st, .int .i64 a.b.bk, .int .i64 a.ar, .int .i64 a.sp, .int .i64 a.pl, .int .i64 a.n], .agg #[.int .i64 b.op, .int .i64 b.a.st, .int .i64 b.a.bk, .int .i64 b.b.st, .int .i64 b.b.bk, .int .i64 b.ar, .int .i64 b.sp, .int .i64 b.pl, .int .i64 b.n], .int .i64 back, .int .i64 size]) Try.func104 Z Z (Nat.le_of_ble_eq_true Z) ?_ (Own.startK hk (Own.start w))
 refine sr ?_
 refine WL.effect Z ?_
 refine (EV.boxAgg (by decide) Z Z (fun b1 => ?_))
 refine WL.effect Z ?_
 refine (EV.boxAgg (by decide) Z Z (fun b2 => ?_))
 refine wa Z ?_
 refine nt (WC.seq (sr ?_))
 refine wa Z ?_
 refine nt ?_
 obtain ⟨o3, ho4, hm5⟩ := bd_some hm; clear hm; obtain ⟨n6, ho7⟩ := lp_some ho4
 refine WC.bloop1 (H2 := [blk b2 b.cells 81, blk b1 a.cells 81, kn noM w.heap.size w w]) (τ := [(2, (true, _)), (3, (true, _)), (4, (true, _)), (5, (true, _))]) (fun (turn9_1 : Int) => [(9, (true, .int .i64 turn9_1))]) (fun turn9_1 => []) (fun turn9_1 m => iter (R6_Meets_L0 a b back size) m turn9_1 = some o3) (fun turn9_1 => o3 = .go turn9_1) 0 n6 ho7 ⟨Z, Z, Z, Z, Z, trivial⟩ (fun w hw => hw.pick [0, 1, 2] (by decide)) ?_ ?_
 ·skip
  rintro turn9_1 rfl
  refine WQ.then (sr ?_)
  refine wa Z ?_
  refine nt (WC.ret ?_)
  obtain rfl := (eq_of_some hm5).symm
  refine WQ.ret1 Z Z (fun w hw => ?_)
  exact ⟨Z, Own.kgrow (fun _ x => x) hw⟩
 rintro turn9_1 m8 hI9
 obtain ⟨m10, s11, rfl, hm12, hn13⟩ := iter_step hI9; clear hI9; unfold R6_Meets_L0 at hm12
 refine WC.seq (sr ?_)
 refine wm Z ?_
 refine wm Z ?_
 refine wq Z (QV.lss Z Z Z Z) ?_
 refine nt ?_
 refine WC.cond Z (fun h14 => ?_) (fun h14 => ?_)
 ·skip
  have hm15 := br_t h14 hm12; clear hm12
  refine sk (WQ.then (WC.seq (WC.block (sr ?_))))
  refine wf fd81_4 Z ?_
  refine wl pl3 Z (Own.cell 1 Z Z) ?_
  refine wm Z ?_
  obtain ⟨c16, hm17⟩ := cs hm15; clear hm15
  refine wq Z (QV.mul Z Z Z Z c16) ?_
  refine wf fd81_5 Z ?_
  refine wl pl3 Z (Own.cell 1 Z Z) ?_
  obtain ⟨c18, hm19⟩ := cs hm17; clear hm17
  refine wq Z (QV.add Z Z Z Z c18) ?_
  refine wm Z ?_
  obtain ⟨x20, hx21, hm22⟩ := bd_some hm19; clear hm19
  refine wq Z (QV.call en31 (EvAll.cons Z Z (EvAll.cons Z Z EvAll.nil)) (fun w hw => have h := R1_Rest_w w hx21 ; h)) ?_
  refine wa Z ?_
  refine ns ?_
  refine wf fd81_4 Z ?_
  refine wl pl3 Z (Own.cell 0 Z Z) ?_
  refine wm Z ?_
  refine wm Z ?_
  obtain ⟨c23, hm24⟩ := cs hm22; clear hm22
  refine wq Z (QV.add Z Z Z Z c23) ?_
  obtain ⟨c25, hm26⟩ := cs hm24; clear hm24
  refine wq Z (QV.mul Z Z Z Z c25) ?_
  refine wf fd81_5 Z ?_
  refine wl pl3 Z (Own.cell 0 Z Z) ?_
  obtain ⟨c27, hm28⟩ := cs hm26; clear hm26
  refine wq Z (QV.add Z Z Z Z c27) ?_
  refine wm Z ?_
  obtain ⟨x29, hx30, hm31⟩ := bd_some hm28; clear hm28
  refine wq Z (QV.call en31 (EvAll.cons Z Z (EvAll.cons Z Z EvAll.nil)) (fun w hw => have h := R1_Rest_w w hx30 ; h)) ?_
  refine wa Z ?_
  refine ns ?_
  refine wm Z ?_
  refine wm Z ?_
  refine wq Z (QV.eql Z Z Z Z) ?_
  refine nt ?_
  refine WC.cond Z (fun h32 => ?_) (fun h32 => ?_)
  ·skip
   have hm33 := br_t h32 hm31; clear hm31
   refine sr ?_
   refine wa Z ?_
   refine nt (WC.ret (kr (tr (tr (kr (tr (tr ?_)))))))
   obtain rfl := up_ret hm33 hn13
   obtain rfl := (eq_of_some hm5).symm
   refine WQ.ret1 Z Z (fun w hw => ?_)
   exact ⟨Z, Own.kgrow (fun _ x => x) hw⟩
  have hm34 := br_f h32 hm31; clear hm31
  refine sk (WQ.block (WQ.then (WC.region ?_)))
  refine wm Z ?_
  obtain ⟨c35, hm36⟩ := cs hm34; clear hm34
  refine wq Z (QV.add Z Z Z Z c35) ?_
  refine wa Z ?_
  refine WL.nil ?_
  exact WQ.again1 (turn9_1 + 1) m10 (up_next hm36 hn13) (Nat.lt_succ_self _) ⟨Z, Z, Z, Z, Z, trivial⟩ (fun w hw => hw.pick [0, 1, 2] (by decide))
 have hm37 := br_f h14 hm12; clear hm12
 refine WC.exit (te (te (WQ.block_exit ?_)))
 exact WQ.out1 turn9_1 (up_brk hm37 hn13) ⟨Z, Z, Z, Z, Z, trivial⟩ (fun w hw => hw.pick [0, 1, 2] (by decide))
theorem R6_Memory_w {a : Stm} {b : Stm} {r : Bool} (w : World) (hm : R6_Memory_m a b = some r)  : Calls Try.prog 103 #[.agg #[.int .i64 a.op, .int .i64 a.a.st, .int .i64 a.a.bk, .int .i64 a.b.st, .int .i64 a.b.bk, .int .i64 a.ar, .int .i64 a.sp, .int .i64 a.pl, .int .i64 a.n], .agg #[.int .i64 b.op, .int .i64 b.a.st, .int .i64 b.a.bk, .int .i64 b.b.st, .int .i64 b.b.bk, .int .i64 b.ar, .int .i64 b.sp, .int .i64 b.pl, .int .i64 b.n]] w (fun e w' => e = .returned (.bool r) ∧ Grow w w') := by
 unfold R6_Memory_m at hm
 have hk := Base.rfl (w := w)
 refine calls_of_WC (n := 44) (args := [.agg #[.int .i64 a.op, .int .i64 a.a.st, .int .i64 a.a.bk, .int .i64 a.b.st, .int .i64 a.b.bk, .int .i64 a.ar, .int .i64 a.sp, .int .i64 a.pl, .int .i64 a.n], .agg #[.int .i64 b.op, .int .i64 b.a.st, .int .i64 b.a.bk, .int .i64 b.b.st, .int .i64 b.b.bk, .int .i64 b.ar, .int .i64 b.sp, .int .i64 b.pl, .int .i64 b.n]]) Try.func103 Z Z (Nat.le_of_ble_eq_true Z) ?_ (Own.startK hk (Own.start w))
 refine sr ?_
 refine WL.effect Z ?_
 refine (EV.boxAgg (by decide) Z Z (fun b1 => ?_))
 refine WL.effect Z ?_
 refine (EV.boxAgg (by decide) Z Z (fun b2 => ?_))
 refine wa Z ?_
 refine ns ?_
 refine wf fd81_0 Z ?_
 refine wl pl3 Z (Own.cell 1 Z Z) ?_
 refine wq Z (QV.eql Z Z Z Z) ?_
 refine wm Z ?_
 refine gn Z (fun hG => QV.fieldAddr fd81_0 Z Z) ?_
 refine gn Z (fun hG => QV.load pl3 Z hG (Own.cell 1 Z Z)) ?_
 refine gn Z (fun hG => QV.eql Z hG Z Z) ?_
 refine wq Z (QV.pickOr Z Z Z (fun h => notF h)) ?_
 refine wa Z ?_
 refine ns ?_
 refine wf fd81_0 Z ?_
 refine wl pl3 Z (Own.cell 0 Z Z) ?_
 refine wq Z (QV.eql Z Z Z Z) ?_
 refine wm Z ?_
 refine gn Z (fun hG => QV.fieldAddr fd81_0 Z Z) ?_
 refine gn Z (fun hG => QV.load pl3 Z hG (Own.cell 0 Z Z)) ?_
 refine gn Z (fun hG => QV.eql Z hG Z Z) ?_
 refine wq Z (QV.pickOr Z Z Z (fun h => notF h)) ?_
 refine wa Z ?_
 refine ns ?_
 refine wm Z ?_
 refine wm Z ?_
 refine gp Z (fun hG => QV.move Z Z) ?_
 refine wq Z (QV.pickAnd Z Z Z (fun h => h)) ?_
 refine wm Z ?_
 refine gp Z (fun hG => QV.fieldAddr fd81_3 Z Z) ?_
 refine gp Z (fun hG => QV.load pl3 Z hG (Own.cell 1 Z Z)) ?_
 refine gp Z (fun hG => QV.fieldAddr fd81_3 Z Z) ?_
 refine gp Z (fun hG => QV.load pl3 Z hG (Own.cell 0 Z Z)) ?_
 refine gp Z (fun hG => QV.eql Z hG Z hG) ?_
 refine wq Z (QV.pickAnd Z Z Z (fun h => h)) ?_
 refine wm Z ?_
 refine gp Z (fun hG => QV.fieldAddr fd81_0 Z Z) ?_
 refine gp Z (fun hG => QV.load pl3 Z hG (Own.cell 1 Z Z)) ?_
 refine gp Z (fun hG => QV.eql Z hG Z Z) ?_
 refine gp Z (fun hG => QV.move Z hG) ?_
 refine WL.g Z Z (GuardIs.negC Z Z) (fun hG => QV.fieldAddr fd81_0 Z Z) ?_
 refine WL.g Z Z (GuardIs.negC Z Z) (fun hG => QV.load pl3 Z hG (Own.cell 0 Z Z)) ?_
 refine WL.g Z Z (GuardIs.negC Z Z) (fun hG => QV.eql Z hG Z Z) ?_
 refine gp Z (fun hG => QV.pickOr Z hG Z (fun h => andN hG h)) ?_
 refine wq Z (QV.pickAnd Z Z Z (fun h => h)) ?_
 refine wa Z ?_
 refine nt (WC.ret ?_)
 obtain rfl := (eq_of_some hm).symm
 refine WQ.ret1 Z Z (fun w hw => ?_)
 exact ⟨Z, Own.kgrow (fun _ x => x) hw⟩
theorem R6_is_w {v_l_logs : Value} {v_l_body : Value} {v_l_outs : Value} {l : Lp} {t : Tgt} {e_ : Edg} {r : Bool} (w : World) (hm : R6_is_m l t e_ = some r) (h_l_logs : Arr w v_l_logs 1 (l.logs.map icell)) (h_l_body : Arr w v_l_body 9 (l.body.map Stm.cells)) (h_l_outs : Arr w v_l_outs 1 (l.outs.map icell)) : Calls Try.prog 65 #[.agg #[v_l_logs, v_l_body, v_l_outs], .agg #[.int .i64 t.u0, .int .i64 t.u1, .int .i64 t.u2, .int .i64 t.w0, .int .i64 t.w1, .int .i64 t.w2, .int .i64 t.regs], .agg #[.int .i64 e_.fr, .int .i64 e_.to, .int .i64 e_.bk, .int .i64 e_.wt]] w (fun e w' => e = .returned (.bool r) ∧ Grow w w') := by
 unfold R6_is_m at hm
 have hk := Base.rfl (w := w)
 refine calls_of_WC (n := 128) (args := [.agg #[v_l_logs, v_l_body, v_l_outs], .agg #[.int .i64 t.u0, .int .i64 t.u1, .int .i64 t.u2, .int .i64 t.w0, .int .i64 t.w1, .int .i64 t.w2, .int .i64 t.regs], .agg #[.int .i64 e_.fr, .int .i64 e_.to, .int .i64 e_.bk, .int .i64 e_.wt]]) Try.func65 Z Z (Nat.le_of_ble_eq_true Z) ?_ (Own.startK hk (Own.start w))
 refine sr ?_
 refine WL.effect Z ?_
 refine (EV.boxAgg (by decide) Z Z (fun b1 => ?_))
 refine WL.effect Z ?_
 refine (EV.boxAgg (by decide) Z Z (fun b2 => ?_))
 refine WL.effect Z ?_
 refine (EV.boxAgg (by decide) Z Z (fun b3 => ?_))
 refine wa Z ?_
 refine ns ?_
 refine wf fd25_1 Z ?_
 refine wl pl23 Z (Own.cell 2 Z Z) ?_
 refine wf fd71_1 Z ?_
 refine wl pl3 Z (Own.cell 0 Z Z) ?_
 obtain ⟨c4, hm5⟩ := cs hm; clear hm
 obtain ⟨p6, hp7⟩ := h_l_body.lenMap.ix (sz := 9) ln_len c4
 refine wq Z (QV.indexSlice sl23 Z Z Z Z hp7) ?_
 refine wq Z (QV.loadAgg ag81 Z Z Z (fun w hw => ((Own.karr 3 Z hk h_l_body) w hw).ele hp7 c4)) ?_
 refine WL.effect Z ?_
 obtain ⟨x8, hx9, hm10⟩ := bd_some hm5; clear hm5
 refine EV.of (C' := Own noM w [kn noM w.heap.size w w, blk b3 e_.cells 71, blk b2 t.cells 28, blk b1 [v_l_logs, v_l_body, v_l_outs] 25]) (fun w hw => hw.pick [3, 0, 1, 2] (by decide)) ?_
 refine (EV.callR (X := Value × World) (R := []) (fun X => X.1) (fun X => []) (fun X => X.2) (fun X => Arr X.2 X.1 2 (x8.map Rf.cells)) hk (fun _ h => by cases h; decide) en30 (EvAll.cons Z Z EvAll.nil) (fun M w h1 h2 => have h := R2_Uses_w hx9  M w h1 h2; h) (fun X11 hF11 hle11 => ?_))
 refine wa Z ?_
 refine nt (WC.seq (sr ?_))
 refine wa Z ?_
 refine nt ?_
 obtain ⟨o12, ho13, hm14⟩ := bd_some hm10; clear hm10; obtain ⟨n15, ho16⟩ := lp_some ho13
 refine WC.bloop1 (H2 := [kn noM w.heap.size w X11.2, blk b3 e_.cells 71, blk b2 t.cells 28, blk b1 [v_l_logs, v_l_body, v_l_outs] 25]) (τ := [(3, (true, _)), (4, (true, _)), (5, (true, _)), (7, (true, _))]) (fun (i8_1 : Int) => [(8, (true, .int .i64 i8_1))]) (fun i8_1 => []) (fun i8_1 m => iter (R6_is_L0 l t e_ x8) m i8_1 = some o12) (fun i8_1 => o12 = .go i8_1) 0 n15 ho16 ⟨Z, Z, Z, Z, Z, trivial⟩ (fun w hw => hw.pick [0, 1, 2, 3] (by decide)) ?_ ?_
 ·skip
  rintro i8_1 rfl
  refine WQ.then (sr ?_)
  refine wf fd25_1 Z ?_
  refine wl pl23 Z (Own.cell 3 Z Z) ?_
  refine wf fd71_0 Z ?_
  refine wl pl3 Z (Own.cell 1 Z Z) ?_
  obtain ⟨c17, hm18⟩ := cs hm14; clear hm14
  obtain ⟨p19, hp20⟩ := (h_l_body.le hle11).lenMap.ix (sz := 9) ln_len c17
  refine wq Z (QV.indexSlice sl23 Z Z Z Z hp20) ?_
  refine wq Z (QV.loadAgg ag81 Z Z Z (fun w hw => ((Own.karr 0 Z hk (h_l_body.le hle11)) w hw).ele hp20 c17)) ?_
  refine WL.effect Z ?_
  refine (EV.alloc (by decide) ze81 (fun b21 => ?_))
  refine WL.effect Z ?_
  refine (EV.store 0 Z Z Z Z Z Z (vs := (Stm.cells (ele l.body e_.fr))) (show Value.cells _ = List.toArray _ from Z) sz81 (Nat.le_of_ble_eq_true Z) (one_cons Z (one_cons Z (one_cons Z (one_cons Z (one_cons Z (one_cons Z (one_cons Z (one_cons Z (one_cons Z one_nil))))))))) ?_)
  refine ns ?_
  refine wf fd25_1 Z ?_
  refine wl pl23 Z (Own.cell 4 Z Z) ?_
  refine wf fd71_1 Z ?_
  refine wl pl3 Z (Own.cell 2 Z Z) ?_
  obtain ⟨c22, hm23⟩ := cs hm18; clear hm18
  obtain ⟨p24, hp25⟩ := (h_l_body.le hle11).lenMap.ix (sz := 9) ln_len c22
  refine wq Z (QV.indexSlice sl23 Z Z Z Z hp25) ?_
  refine wq Z (QV.loadAgg ag81 Z Z Z (fun w hw => ((Own.karr 1 Z hk (h_l_body.le hle11)) w hw).ele hp25 c22)) ?_
  refine WL.effect Z ?_
  refine (EV.alloc (by decide) ze81 (fun b26 => ?_))
  refine WL.effect Z ?_
  refine (EV.store 0 Z Z Z Z Z Z (vs := (Stm.cells (ele l.body e_.to))) (show Value.cells _ = List.toArray _ from Z) sz81 (Nat.le_of_ble_eq_true Z) (one_cons Z (one_cons Z (one_cons Z (one_cons Z (one_cons Z (one_cons Z (one_cons Z (one_cons Z (one_cons Z one_nil))))))))) ?_)
  refine ns ?_
  refine wa Z ?_
  refine nt (WC.seq (sr ?_))
  refine wf fd81_0 Z ?_
  refine wl pl3 Z (Own.cell 1 Z Z) ?_
  refine wq Z (QV.eql Z Z Z Z) ?_
  refine nt ?_
  obtain ⟨o27, hj28, hm29⟩ := bd_some hm23; clear hm23
  refine WC.joint1 (H2 := [blk b26 (Stm.cells (ele l.body e_.to)) 81, blk b21 (Stm.cells (ele l.body e_.fr)) 81, kn noM w.heap.size w X11.2, blk b3 e_.cells 71, blk b2 t.cells 28, blk b1 [v_l_logs, v_l_body, v_l_outs] 25]) (τ := [(3, (true, _)), (5, (true, _)), (9, (true, _)), (10, (true, _))]) (fun (wait11_2 : Int) => [(11, (true, .int .i64 wait11_2))]) (fun wait11_2 => []) (fun wait11_2 => o27 = .go wait11_2) ⟨Z, Z, Z, Z, trivial⟩ (fun w hw => hw.pick [0, 1, 2, 3, 4, 5] (by decide)) ?_ ?_
  ·skip
   rintro wait11_2 rfl
   refine WC.seq (sr ?_)
   refine wq Z (QV.loadAgg ag81 Z Z Z (Own.cellsBlk 1 Z)) ?_
   refine wq Z (QV.loadAgg ag81 Z Z Z (Own.cellsBlk 0 Z)) ?_
   obtain ⟨x30, hx31, hm32⟩ := bd_some hm29; clear hm29
   refine wq Z (QV.call en103 (EvAll.cons Z Z (EvAll.cons Z Z EvAll.nil)) (fun w hw => have h := R6_Memory_w w hx31 ; h)) ?_
   refine wq Z (QV.not Z Z) ?_
   refine wm Z ?_
   refine gn Z (fun hG => QV.fieldAddr fd71_3 Z Z) ?_
   refine gn Z (fun hG => QV.load pl3 Z hG (Own.cell 3 Z Z)) ?_
   refine gn Z (fun hG => QV.move Z Z) ?_
   refine gn Z (fun hG => QV.neq Z hG Z hG) ?_
   refine wq Z (QV.pickOr Z Z Z (fun h => notF h)) ?_
   refine nt ?_
   refine WC.cond Z (fun h33 => ?_) (fun h33 => ?_)
   ·skip
    have hm34 := br_t h33 hm32; clear hm32
    refine sr ?_
    refine wa Z ?_
    refine nt (WC.ret (tr ?_))
    obtain rfl := (eq_of_some hm34).symm
    refine WQ.ret1 Z Z (fun w hw => ?_)
    exact ⟨Z, Own.kgrow (fun _ x => x) hw⟩
   have hm35 := br_f h33 hm32; clear hm32
   refine sk (WQ.then (sr ?_))
   refine wf fd25_0 Z ?_
   refine wl pl22 Z (Own.cell 5 Z Z) ?_
   refine wf fd81_3 Z ?_
   refine wl pl3 Z (Own.cell 1 Z Z) ?_
   obtain ⟨c36, hm37⟩ := cs hm35; clear hm35
   obtain ⟨p38, hp39⟩ := (h_l_logs.le hle11).lenMap.ix (sz := 1) ln_len c36
   refine wq Z (QV.indexSlice sl22 Z Z Z Z hp39) ?_
   refine wl pl3 Z (fun w hw => CellsAt.one 0 (((Own.karr 2 Z hk (h_l_logs.le hle11)) w hw).ele hp39 c36) Z) ?_
   obtain ⟨x40, hx41, hm42⟩ := bd_some hm37; clear hm37
   refine wq Z (QV.call en48 (EvAll.cons Z Z EvAll.nil) (fun w hw => have h := R1_Size_w w hx41 ; h)) ?_
   refine wa Z ?_
   refine ns ?_
   refine wa Z ?_
   refine nt (WC.seq (sr ?_))
   refine wf fd71_0 Z ?_
   refine wl pl3 Z (Own.cell 3 Z Z) ?_
   refine wf fd71_1 Z ?_
   refine wl pl3 Z (Own.cell 3 Z Z) ?_
   refine wq Z (QV.geq Z Z Z Z) ?_
   refine nt ?_
   obtain ⟨o43, hj44, hm45⟩ := bd_some hm42; clear hm42
   refine WC.joint1 (H2 := [blk b26 (Stm.cells (ele l.body e_.to)) 81, blk b21 (Stm.cells (ele l.body e_.fr)) 81, kn noM w.heap.size w X11.2, blk b3 e_.cells 71, blk b2 t.cells 28, blk b1 [v_l_logs, v_l_body, v_l_outs] 25]) (τ := [(5, (true, _)), (9, (true, _)), (10, (true, _)), (12, (true, _))]) (fun (least13_3 : Int) => [(13, (true, .int .i64 least13_3))]) (fun least13_3 => []) (fun least13_3 => o43 = .go least13_3) ⟨Z, Z, Z, Z, trivial⟩ (fun w hw => hw.pick [0, 1, 2, 3, 4, 5] (by decide)) ?_ ?_
   ·skip
    rintro least13_3 rfl
    refine WC.seq (sr ?_)
    refine wf fd71_2 Z ?_
    refine wl pl3 Z (Own.cell 3 Z Z) ?_
    refine wm Z ?_
    refine wq Z (QV.lss Z Z Z Z) ?_
    refine wm Z ?_
    refine gn Z (fun hG => QV.fieldAddr fd71_2 Z Z) ?_
    refine gn Z (fun hG => QV.load pl3 Z hG (Own.cell 3 Z Z)) ?_
    refine gn Z (fun hG => QV.move Z Z) ?_
    refine gn Z (fun hG => QV.gtr Z hG Z hG) ?_
    refine wq Z (QV.pickOr Z Z Z (fun h => notF h)) ?_
    refine wm Z ?_
    refine gn Z (fun hG => QV.loadAgg ag81 Z Z Z (Own.cellsBlk 1 Z)) ?_
    refine gn Z (fun hG => QV.loadAgg ag81 Z Z Z (Own.cellsBlk 0 Z)) ?_
    refine gn Z (fun hG => QV.fieldAddr fd71_2 Z Z) ?_
    refine gn Z (fun hG => QV.load pl3 Z hG (Own.cell 3 Z Z)) ?_
    refine gn Z (fun hG => QV.move Z Z) ?_
    obtain ⟨x46, hx47, hm48⟩ := bdG_some hm45; clear hm45
    refine gn Z (fun hG => QV.call en104 (EvAll.cons Z hG (EvAll.cons Z hG (EvAll.cons Z hG (EvAll.cons Z hG EvAll.nil)))) (fun w hw => have h := R6_Meets_w w (hx47 hG) ; h)) ?_
    refine gn Z (fun hG => QV.not Z hG) ?_
    refine wq Z (QV.pickOr Z Z Z (fun h => notF h)) ?_
    refine nt ?_
    refine WC.cond Z (fun h49 => ?_) (fun h49 => ?_)
    ·skip
     have hm50 := br_t h49 hm48; clear hm48
     refine sr ?_
     refine wa Z ?_
     refine nt (WC.ret (tr ?_))
     obtain rfl := (eq_of_some hm50).symm
     refine WQ.ret1 Z Z (fun w hw => ?_)
     exact ⟨Z, Own.kgrow (fun _ x => x) hw⟩
    have hm51 := br_f h49 hm48; clear hm48
    refine sk (WQ.then (WC.seq (sr ?_)))
    refine wm Z ?_
    refine wa Z ?_
    refine nt ?_
    obtain ⟨o52, ho53, hm54⟩ := bd_some hm51; clear hm51; obtain ⟨n55, ho56⟩ := lp_some ho53
    refine WC.bloop1 (H2 := [blk b26 (Stm.cells (ele l.body e_.to)) 81, blk b21 (Stm.cells (ele l.body e_.fr)) 81, kn noM w.heap.size w X11.2, blk b3 e_.cells 71, blk b2 t.cells 28, blk b1 [v_l_logs, v_l_body, v_l_outs] 25]) (τ := [(5, (true, _)), (9, (true, _)), (10, (true, _)), (12, (true, _))]) (fun (back14_4 : Int) => [(14, (true, .int .i64 back14_4))]) (fun back14_4 => []) (fun back14_4 m => iter (R6_is_L2 l e_ x40) m back14_4 = some o52) (fun back14_4 => o52 = .go back14_4) least13_3 n55 ho56 ⟨Z, Z, Z, Z, Z, trivial⟩ (fun w hw => hw.pick [0, 1, 2, 3, 4, 5] (by decide)) ?_ ?_
    ·skip
     rintro back14_4 rfl
     refine WQ.then (sr ?_)
     refine wa Z ?_
     refine nt (WC.ret ?_)
     obtain rfl := (eq_of_some hm54).symm
     refine WQ.ret1 Z Z (fun w hw => ?_)
     exact ⟨Z, Own.kgrow (fun _ x => x) hw⟩
    rintro back14_4 m57 hI58
    obtain ⟨m59, s60, rfl, hm61, hn62⟩ := iter_step hI58; clear hI58; unfold R6_is_L2 at hm61
    refine WC.seq (sr ?_)
    refine wm Z ?_
    refine wf fd71_2 Z ?_
    refine wl pl3 Z (Own.cell 3 Z Z) ?_
    refine wq Z (QV.lss Z Z Z Z) ?_
    refine nt ?_
    refine WC.cond Z (fun h63 => ?_) (fun h63 => ?_)
    ·skip
     have hm64 := br_t h63 hm61; clear hm61
     refine sk (WQ.then (WC.seq (WC.block (sr ?_))))
     refine wq Z (QV.loadAgg ag81 Z Z Z (Own.cellsBlk 1 Z)) ?_
     refine wq Z (QV.loadAgg ag81 Z Z Z (Own.cellsBlk 0 Z)) ?_
     refine wm Z ?_
     refine wm Z ?_
     obtain ⟨x65, hx66, hm67⟩ := bd_some hm64; clear hm64
     refine wq Z (QV.call en104 (EvAll.cons Z Z (EvAll.cons Z Z (EvAll.cons Z Z (EvAll.cons Z Z EvAll.nil)))) (fun w hw => have h := R6_Meets_w w hx66 ; h)) ?_
     refine nt ?_
     refine WC.cond Z (fun h68 => ?_) (fun h68 => ?_)
     ·skip
      have hm69 := br_t h68 hm67; clear hm67
      refine sr ?_
      refine wa Z ?_
      refine nt (WC.ret (kr (tr (tr (kr (tr (tr ?_)))))))
      obtain rfl := up_ret hm69 hn62
      obtain rfl := (eq_of_some hm54).symm
      refine WQ.ret1 Z Z (fun w hw => ?_)
      exact ⟨Z, Own.kgrow (fun _ x => x) hw⟩
     have hm70 := br_f h68 hm67; clear hm67
     refine sk (WQ.block (WQ.then (WC.region ?_)))
     refine wm Z ?_
     obtain ⟨c71, hm72⟩ := cs hm70; clear hm70
     refine wq Z (QV.add Z Z Z Z c71) ?_
     refine wa Z ?_
     refine WL.nil ?_
     exact WQ.again1 (back14_4 + 1) m59 (up_next hm72 hn62) (Nat.lt_succ_self _) ⟨Z, Z, Z, Z, Z, trivial⟩ (fun w hw => hw.pick [0, 1, 2, 3, 4, 5] (by decide))
    have hm73 := br_f h63 hm61; clear hm61
    refine WC.exit (te (te (WQ.block_exit ?_)))
    exact WQ.out1 back14_4 (up_brk hm73 hn62) ⟨Z, Z, Z, Z, Z, trivial⟩ (fun w hw => hw.pick [0, 1, 2, 3, 4, 5] (by decide))
   refine WC.cond Z (fun h74 => ?_) (fun h74 => ?_)
   ·skip
    have hm75 := br_t h74 hj44; clear hj44
    refine WC.region ?_
    refine wa Z ?_
    refine WL.nil ?_
    exact WQ.out1 1 (eq_of_some hm75) ⟨Z, Z, Z, Z, Z, trivial⟩ (fun w hw => hw.pick [0, 1, 2, 3, 4, 5] (by decide))
   have hm76 := br_f h74 hj44; clear hj44
   refine sk ?_
   exact WQ.out1 0 (eq_of_some hm76) ⟨Z, Z, Z, Z, Z, trivial⟩ (fun w hw => hw.pick [0, 1, 2, 3, 4, 5] (by decide))
  refine WC.cond Z (fun h77 => ?_) (fun h77 => ?_)
  ·skip
   have hm78 := br_t h77 hj28; clear hj28
   refine WC.region ?_
   refine wa Z ?_
   refine WL.nil ?_
   exact WQ.out1 1 (eq_of_some hm78) ⟨Z, Z, Z, Z, Z, trivial⟩ (fun w hw => hw.pick [0, 1, 2, 3, 4, 5] (by decide))
  have hm79 := br_f h77 hj28; clear hj28
  refine sk ?_
  exact WQ.out1 0 (eq_of_some hm79) ⟨Z, Z, Z, Z, Z, trivial⟩ (fun w hw => hw.pick [0, 1, 2, 3, 4, 5] (by decide))
 rintro i8_1 m80 hI81
 obtain ⟨m82, s83, rfl, hm84, hn85⟩ := iter_step hI81; clear hI81; unfold R6_is_L0 at hm84
 refine WC.seq (sr ?_)
 refine wm Z ?_
 refine wm Z ?_
 refine wq Z (QV.lenS Try.underlying76 Z Z hF11.lenMap) ?_
 refine wq Z (QV.lss Z Z Z Z) ?_
 refine nt ?_
 refine WC.cond Z (fun h86 => ?_) (fun h86 => ?_)
 ·skip
  have hm87 := br_t h86 hm84; clear hm84
  refine sk (WQ.then (WC.seq (WC.block (WC.seq ?_))))
  refine WC.dr (m := 32) (by kernel_rfl) (by kernel_rfl) (fun w hw => hw) ?_
  refine wz 0 Z Z (QV.move Z Z) ?_
  refine wz 1 Z Z (QV.move Z Z) ?_
  obtain ⟨c88, hm89⟩ := cs hm87; clear hm87
  obtain ⟨p90, hp91⟩ := hF11.lenMap.ix (sz := 2) ln_len c88
  refine wz 2 Z Z (QV.indexSlice sl76 Z Z Z Z hp91) ?_
  refine wz 3 Z Z (QV.fieldAddr fd79_0 Z Z) ?_
  refine wz 4 Z Z (QV.load pl3 Z Z (fun w hw => CellsAt.one 0 (((Own.karr 0 Z hk hF11) w hw).ele hp91 c88) Z)) ?_
  refine wz 5 Z Z (QV.fieldAddr fd71_0 Z Z) ?_
  refine wz 6 Z Z (QV.load pl3 Z Z (Own.cell 1 Z Z)) ?_
  refine wz 7 Z Z (QV.eql Z Z Z Z) ?_
  refine wz 8 Z Z (QV.move Z Z) ?_
  refine WD.g 9 Z (by kernel_rfl) Z Z (GuardIs.pos Z Z) (fun hG => QV.move Z Z) ?_
  refine WD.g 10 Z (by kernel_rfl) Z Z (GuardIs.pos Z Z) (fun hG => QV.move Z Z) ?_
  obtain ⟨c92, hm93⟩ := cs hm89; clear hm89
  obtain ⟨p94, hp95⟩ := hF11.lenMap.ixG (sz := 2) ln_len c92
  refine WD.g 11 Z (by kernel_rfl) Z Z (GuardIs.pos Z Z) (fun hG => QV.indexSlice sl76 Z hG Z hG (hp95 hG)) ?_
  refine WD.g 12 Z (by kernel_rfl) Z Z (GuardIs.pos Z Z) (fun hG => QV.fieldAddr fd79_1 Z hG) ?_
  refine WD.g 13 Z (by kernel_rfl) Z Z (GuardIs.pos Z Z) (fun hG => QV.load pl3 Z hG (fun w hw => CellsAt.one 1 (((Own.karr 0 Z hk hF11) w hw).ele (hp95 hG) (c92 hG)) Z)) ?_
  refine WD.g 14 Z (by kernel_rfl) Z Z (GuardIs.pos Z Z) (fun hG => QV.fieldAddr fd71_2 Z Z) ?_
  refine WD.g 15 Z (by kernel_rfl) Z Z (GuardIs.pos Z Z) (fun hG => QV.load pl3 Z hG (Own.cell 1 Z Z)) ?_
  refine WD.g 16 Z (by kernel_rfl) Z Z (GuardIs.pos Z Z) (fun hG => QV.eql Z hG Z hG) ?_
  refine wz 17 Z Z (QV.pickAnd Z Z Z (fun h => h)) ?_
  refine wz 18 Z Z (QV.move Z Z) ?_
  refine WD.g 19 Z (by kernel_rfl) Z Z (GuardIs.pos Z Z) (fun hG => QV.fieldAddr fd71_3 Z Z) ?_
  refine WD.g 20 Z (by kernel_rfl) Z Z (GuardIs.pos Z Z) (fun hG => QV.load pl3 Z hG (Own.cell 1 Z Z)) ?_
  refine WD.g 21 Z (by kernel_rfl) Z Z (GuardIs.pos Z Z) (fun hG => QV.loadAgg ag28 Z Z Z (Own.cellsBlk 2 Z)) ?_
  refine WD.g 22 Z (by kernel_rfl) Z Z (GuardIs.pos Z Z) (fun hG => QV.fieldAddr fd25_1 Z Z) ?_
  refine WD.g 23 Z (by kernel_rfl) Z Z (GuardIs.pos Z Z) (fun hG => QV.load pl23 Z hG (Own.cell 3 Z Z)) ?_
  refine WD.g 24 Z (by kernel_rfl) Z Z (GuardIs.pos Z Z) (fun hG => QV.fieldAddr fd71_0 Z Z) ?_
  refine WD.g 25 Z (by kernel_rfl) Z Z (GuardIs.pos Z Z) (fun hG => QV.load pl3 Z hG (Own.cell 1 Z Z)) ?_
  obtain ⟨c96, hm97⟩ := cs hm93; clear hm93
  obtain ⟨p98, hp99⟩ := (h_l_body.le hle11).lenMap.ixG (sz := 9) ln_len c96
  refine WD.g 26 Z (by kernel_rfl) Z Z (GuardIs.pos Z Z) (fun hG => QV.indexSlice sl23 Z hG Z hG (hp99 hG)) ?_
  refine WD.g 27 Z (by kernel_rfl) Z Z (GuardIs.pos Z Z) (fun hG => QV.fieldAddr fd81_0 Z hG) ?_
  refine WD.g 28 Z (by kernel_rfl) Z Z (GuardIs.pos Z Z) (fun hG => QV.load pl3 Z hG (fun w hw => CellsAt.one 0 (((Own.karr 0 Z hk (h_l_body.le hle11)) w hw).ele (hp99 hG) (c96 hG)) Z)) ?_
  obtain ⟨x100, hx101, hm102⟩ := bdG_some hm97; clear hm97
  refine WD.g 29 Z (by kernel_rfl) Z Z (GuardIs.pos Z Z) (fun hG => QV.call en47 (EvAll.cons Z hG (EvAll.cons Z hG EvAll.nil)) (fun w hw => have h := R4_Wait_w w (hx101 hG) ; h)) ?_
  refine WD.g 30 Z (by kernel_rfl) Z Z (GuardIs.pos Z Z) (fun hG => QV.eql Z hG Z hG) ?_
  refine wz 31 Z Z (QV.pickAnd Z Z Z (fun h => h)) ?_
  refine WD.e (by kernel_rfl) ?_
  refine WQ.then ?_
  refine WC.cond Z (fun h103 => ?_) (fun h103 => ?_)
  ·skip
   have hm104 := br_t h103 hm102; clear hm102
   refine sr ?_
   refine wa Z ?_
   refine nt (WC.ret (kr (tr (tr (kr (tr (tr ?_)))))))
   obtain rfl := up_ret hm104 hn85
   obtain rfl := (eq_of_some hm14).symm
   refine WQ.ret1 Z Z (fun w hw => ?_)
   exact ⟨Z, Own.kgrow (fun _ x => x) hw⟩
  have hm105 := br_f h103 hm102; clear hm102
  refine sk (WQ.block (WQ.then (WC.region ?_)))
  refine wm Z ?_
  obtain ⟨c106, hm107⟩ := cs hm105; clear hm105
  refine wq Z (QV.add Z Z Z Z c106) ?_
  refine wa Z ?_
  refine WL.nil ?_
  exact WQ.again1 (i8_1 + 1) m82 (up_next hm107 hn85) (Nat.lt_succ_self _) ⟨Z, Z, Z, Z, Z, trivial⟩ (fun w hw => hw.pick [0, 1, 2, 3] (by decide))
 have hm108 := br_f h86 hm84; clear hm84
 refine WC.exit (te (te (WQ.block_exit ?_)))
 exact WQ.out1 i8_1 (up_brk hm108 hn85) ⟨Z, Z, Z, Z, Z, trivial⟩ (fun w hw => hw.pick [0, 1, 2, 3] (by decide))
theorem R6_Edges_w {v_l_logs : Value} {v_l_body : Value} {v_l_outs : Value} {l : Lp} {t : Tgt} {r : List Edg} {K0 : World} (hm : R6_Edges_m l t = some r) (h_l_logs : Arr K0 v_l_logs 1 (l.logs.map icell)) (h_l_body : Arr K0 v_l_body 9 (l.body.map Stm.cells)) (h_l_outs : Arr K0 v_l_outs 1 (l.outs.map icell)) (M : Nat → Prop) (w : World) (hk : Base M K0 w) (hw0 : Own M w [] w) : Calls Try.prog 29 #[.agg #[v_l_logs, v_l_body, v_l_outs], .agg #[.int .i64 t.u0, .int .i64 t.u1, .int .i64 t.u2, .int .i64 t.w0, .int .i64 t.w1, .int .i64 t.w2, .int .i64 t.regs]] w (fun e w' => ∃ X : Value × World, e = .returned (X.1) ∧ Own M w (kn M w.heap.size K0 X.2 :: []) w' ∧ Arr X.2 X.1 4 (r.map Edg.cells)) := by
 unfold R6_Edges_m at hm
 refine calls_of_WC (n := 47) (args := [.agg #[v_l_logs, v_l_body, v_l_outs], .agg #[.int .i64 t.u0, .int .i64 t.u1, .int .i64 t.u2, .int .i64 t.w0, .int .i64 t.w1, .int .i64 t.w2, .int .i64 t.regs]]) Try.func29 Z Z (Nat.le_of_ble_eq_true Z) ?_ (Own.startK hk hw0)
 refine sr ?_
 refine WL.effect Z ?_
 refine (EV.boxAgg (by decide) Z Z (fun b1 => ?_))
 refine WL.effect Z ?_
 refine (EV.boxAgg (by decide) Z Z (fun b2 => ?_))
 refine wa Z ?_
 refine ns ?_
 refine wa Z ?_
 refine nt (WC.seq (sr ?_))
 refine wa Z ?_
 refine nt ?_
 refine WK.of (fun w hw => hw.vecNil (E := 71) (sz := 4) (enc := Edg.cells)) ?_
 obtain ⟨o4, ho5, hm6⟩ := bd_some hm; clear hm; obtain ⟨n7, ho8⟩ := lp_some ho5
 refine WC.bloop3 (H2 := [blk b2 t.cells 28, blk b1 [v_l_logs, v_l_body, v_l_outs] 25, kn M w.heap.size K0 K0]) (τ := [(2, (true, _)), (3, (true, _))]) (fun (v3_45 : List Edg) (from6_45 : Int) (uv3_45 : Value) => [(5, (true, uv3_45)), (6, (true, .int .i64 from6_45))]) (fun v3_45 from6_45 uv3_45 => [vec uv3_45 71 4 (List.map Edg.cells v3_45)]) (fun v3_45 from6_45 uv3_45 m => iter (R6_Edges_L0 l t) m (v3_45, from6_45) = some o4 ∧ SliceLen uv3_45 v3_45.length) (fun v3_45 from6_45 uv3_45 => o4 = .go (v3_45, from6_45) ∧ SliceLen uv3_45 v3_45.length) [] 0 (.slice none 0 0) n7 ⟨ho8, SliceLen.nil⟩ ⟨Z, Z, Z, Z, trivial⟩ (fun w hw => hw.pick [0, 1, 2, 3] (by decide)) ?_ ?_
 ·skip
  rintro v3_45 from6_45 uv3_45 ⟨rfl, hlv3_45⟩
  refine WQ.then (sr ?_)
  refine wm Z ?_
  refine wa Z ?_
  refine nt (WC.ret ?_)
  obtain rfl := (eq_of_some hm6).symm
  refine WK.of (C' := Own M w [kn M w.heap.size K0 K0, vec uv3_45 71 4 (List.map Edg.cells v3_45), blk b2 t.cells 28, blk b1 [v_l_logs, v_l_body, v_l_outs] 25]) (fun w hw => hw.pick [3, 0, 1, 2] (by decide)) ?_
  refine WK.freeze hk (fun k9 hle9 hr9 => ?_)
  have hA9 := vec_arr hr9
  refine WQ.ret1 Z Z (fun w hw => ?_)
  exact ⟨(uv3_45, k9), Z, hw.pick [0] (by decide), hA9⟩
 rintro v3_45 from6_45 uv3_45 m10 ⟨hI11, hlv3_45⟩
 obtain ⟨m12, s13, rfl, hm14, hn15⟩ := iter_step hI11; clear hI11; unfold R6_Edges_L0 at hm14; simp only at hm14
 refine WC.seq (sr ?_)
 refine wm Z ?_
 refine wf fd25_1 Z ?_
 refine wl pl23 Z (Own.cell 2 Z Z) ?_
 refine wq Z (QV.lenS Try.underlying23 Z Z h_l_body.lenMap) ?_
 refine wq Z (QV.lss Z Z Z Z) ?_
 refine nt ?_
 refine WC.cond Z (fun h16 => ?_) (fun h16 => ?_)
 ·skip
  have hm17 := br_t h16 hm14; clear hm14
  refine sk (WQ.then (WC.seq (WC.block (sr ?_))))
  refine wa Z ?_
  refine nt ?_
  obtain ⟨o18, ho19, hm20⟩ := bd_some hm17; clear hm17; obtain ⟨n21, ho22⟩ := lp_some ho19
  refine WC.bloop3 (H2 := [blk b2 t.cells 28, blk b1 [v_l_logs, v_l_body, v_l_outs] 25, kn M w.heap.size K0 K0]) (τ := [(2, (true, _)), (3, (true, _)), (6, (true, _))]) (fun (v3_54 : List Edg) (to7_54 : Int) (uv3_54 : Value) => [(5, (true, uv3_54)), (7, (true, .int .i64 to7_54))]) (fun v3_54 to7_54 uv3_54 => [vec uv3_54 71 4 (List.map Edg.cells v3_54)]) (fun v3_54 to7_54 uv3_54 m => iter (R6_Edges_L2 l t from6_45) m (v3_54, to7_54) = some o18 ∧ SliceLen uv3_54 v3_54.length) (fun v3_54 to7_54 uv3_54 => o18 = .go (v3_54, to7_54) ∧ SliceLen uv3_54 v3_54.length) v3_45 0 uv3_45 n21 ⟨ho22, hlv3_45⟩ ⟨Z, Z, Z, Z, Z, trivial⟩ (fun w hw => hw.pick [0, 1, 2, 3] (by decide)) ?_ ?_
  ·skip
   rintro v3_54 to7_54 uv3_54 ⟨rfl, hlv3_54⟩
   refine WQ.block (WQ.then (WC.region ?_))
   refine wm Z ?_
   obtain ⟨c23, hm24⟩ := cs hm20; clear hm20
   refine wq Z (QV.add Z Z Z Z c23) ?_
   refine wa Z ?_
   refine WL.nil ?_
   exact WQ.again3 v3_54 (from6_45 + 1) uv3_54 m12 ⟨up_next hm24 hn15, hlv3_54⟩ (Nat.lt_succ_self _) ⟨Z, Z, Z, Z, trivial⟩ (fun w hw => hw.pick [0, 1, 2, 3] (by decide))
  rintro v3_54 to7_54 uv3_54 m25 ⟨hI26, hlv3_54⟩
  obtain ⟨m27, s28, rfl, hm29, hn30⟩ := iter_step hI26; clear hI26; unfold R6_Edges_L2 at hm29; simp only at hm29
  refine WC.seq (sr ?_)
  refine wm Z ?_
  refine wf fd25_1 Z ?_
  refine wl pl23 Z (Own.cell 2 Z Z) ?_
  refine wq Z (QV.lenS Try.underlying23 Z Z h_l_body.lenMap) ?_
  refine wq Z (QV.lss Z Z Z Z) ?_
  refine nt ?_
  refine WC.cond Z (fun h31 => ?_) (fun h31 => ?_)
  ·skip
   have hm32 := br_t h31 hm29; clear hm29
   refine sk (WQ.then (WC.seq (WC.block (sr ?_))))
   refine wa Z ?_
   refine nt ?_
   obtain ⟨o33, ho34, hm35⟩ := bd_some hm32; clear hm32; obtain ⟨n36, ho37⟩ := lp_some ho34
   refine WC.bloop3 (H2 := [blk b2 t.cells 28, blk b1 [v_l_logs, v_l_body, v_l_outs] 25, kn M w.heap.size K0 K0]) (τ := [(2, (true, _)), (3, (true, _)), (6, (true, _)), (7, (true, _))]) (fun (v3_57 : List Edg) (back8_57 : Int) (uv3_57 : Value) => [(5, (true, uv3_57)), (8, (true, .int .i64 back8_57))]) (fun v3_57 back8_57 uv3_57 => [vec uv3_57 71 4 (List.map Edg.cells v3_57)]) (fun v3_57 back8_57 uv3_57 m => iter (R6_Edges_L4 l t from6_45 to7_54) m (v3_57, back8_57) = some o33 ∧ SliceLen uv3_57 v3_57.length) (fun v3_57 back8_57 uv3_57 => o33 = .go (v3_57, back8_57) ∧ SliceLen uv3_57 v3_57.length) v3_54 0 uv3_54 n36 ⟨ho37, hlv3_54⟩ ⟨Z, Z, Z, Z, Z, Z, trivial⟩ (fun w hw => hw.pick [0, 1, 2, 3] (by decide)) ?_ ?_
   ·skip
    rintro v3_57 back8_57 uv3_57 ⟨rfl, hlv3_57⟩
    refine WQ.block (WQ.then (WC.region ?_))
    refine wm Z ?_
    obtain ⟨c38, hm39⟩ := cs hm35; clear hm35
    refine wq Z (QV.add Z Z Z Z c38) ?_
    refine wa Z ?_
    refine WL.nil ?_
    exact WQ.again3 v3_57 (to7_54 + 1) uv3_57 m27 ⟨up_next hm39 hn30, hlv3_57⟩ (Nat.lt_succ_self _) ⟨Z, Z, Z, Z, Z, trivial⟩ (fun w hw => hw.pick [0, 1, 2, 3] (by decide))
   rintro v3_57 back8_57 uv3_57 m40 ⟨hI41, hlv3_57⟩
   obtain ⟨m42, s43, rfl, hm44, hn45⟩ := iter_step hI41; clear hI41; unfold R6_Edges_L4 at hm44; simp only at hm44
   refine WC.seq (sr ?_)
   refine wm Z ?_
   refine wq Z (QV.leq Z Z Z Z) ?_
   refine nt ?_
   refine WC.cond Z (fun h46 => ?_) (fun h46 => ?_)
   ·skip
    have hm47 := br_t h46 hm44; clear hm44
    refine sk (WQ.then (WC.seq (WC.block (sr ?_))))
    refine wa Z ?_
    refine nt ?_
    obtain ⟨o48, ho49, hm50⟩ := bd_some hm47; clear hm47; obtain ⟨n51, ho52⟩ := lp_some ho49
    refine WC.bloop3 (H2 := [blk b2 t.cells 28, blk b1 [v_l_logs, v_l_body, v_l_outs] 25, kn M w.heap.size K0 K0]) (τ := [(2, (true, _)), (3, (true, _)), (6, (true, _)), (7, (true, _)), (8, (true, _))]) (fun (v3_58 : List Edg) (wait9_58 : Int) (uv3_58 : Value) => [(5, (true, uv3_58)), (9, (true, .int .i64 wait9_58))]) (fun v3_58 wait9_58 uv3_58 => [vec uv3_58 71 4 (List.map Edg.cells v3_58)]) (fun v3_58 wait9_58 uv3_58 m => iter (R6_Edges_L6 l t from6_45 to7_54 back8_57) m (v3_58, wait9_58) = some o48 ∧ SliceLen uv3_58 v3_58.length) (fun v3_58 wait9_58 uv3_58 => o48 = .go (v3_58, wait9_58) ∧ SliceLen uv3_58 v3_58.length) v3_57 0 uv3_57 n51 ⟨ho52, hlv3_57⟩ ⟨Z, Z, Z, Z, Z, Z, Z, trivial⟩ (fun w hw => hw.pick [0, 1, 2, 3] (by decide)) ?_ ?_
    ·skip
     rintro v3_58 wait9_58 uv3_58 ⟨rfl, hlv3_58⟩
     refine WQ.block (WQ.then (WC.region ?_))
     refine wm Z ?_
     obtain ⟨c53, hm54⟩ := cs hm50; clear hm50
     refine wq Z (QV.add Z Z Z Z c53) ?_
     refine wa Z ?_
     refine WL.nil ?_
     exact WQ.again3 v3_58 (back8_57 + 1) uv3_58 m42 ⟨up_next hm54 hn45, hlv3_58⟩ (Nat.lt_succ_self _) ⟨Z, Z, Z, Z, Z, Z, trivial⟩ (fun w hw => hw.pick [0, 1, 2, 3] (by decide))
    rintro v3_58 wait9_58 uv3_58 m55 ⟨hI56, hlv3_58⟩
    obtain ⟨m57, s58, rfl, hm59, hn60⟩ := iter_step hI56; clear hI56; unfold R6_Edges_L6 at hm59; simp only at hm59
    refine WC.seq (sr ?_)
    refine wm Z ?_
    refine wq Z (QV.leq Z Z Z Z) ?_
    refine nt ?_
    refine WC.cond Z (fun h61 => ?_) (fun h61 => ?_)
    ·skip
     have hm62 := br_t h61 hm59; clear hm59
     refine sk (WQ.then (WC.seq (WC.block (sr ?_))))
     refine wm Z ?_
     refine wm Z ?_
     refine wm Z ?_
     refine wm Z ?_
     refine wq Z (QV.build (ps := [(0, .tmp 33), (1, .tmp 34), (2, .tmp 35), (3, .tmp 36)]) (cells := [.int .i64 from6_45, .int .i64 to7_54, .int .i64 back8_57, .int .i64 wait9_58]) (EvAll.cons Z Z (EvAll.cons Z Z (EvAll.cons Z Z (EvAll.cons Z Z EvAll.nil)))) (by kernel_rfl)) ?_
     refine WL.effect Z ?_
     refine (EV.alloc (by decide) ze71 (fun b63 => ?_))
     refine WL.effect Z ?_
     refine (EV.store 0 Z Z Z Z Z Z (vs := [.int .i64 from6_45, .int .i64 to7_54, .int .i64 back8_57, .int .i64 wait9_58]) (show Value.cells _ = List.toArray _ from Z) sz71 (Nat.le_of_ble_eq_true Z) (one_cons Z (one_cons Z (one_cons Z (one_cons Z one_nil)))) ?_)
     refine ns ?_
     refine wq Z (QV.loadAgg ag25 Z Z Z (Own.cellsBlk 3 Z)) ?_
     refine wq Z (QV.loadAgg ag28 Z Z Z (Own.cellsBlk 2 Z)) ?_
     refine wq Z (QV.loadAgg ag71 Z Z Z (Own.cellsBlk 0 Z)) ?_
     obtain ⟨x64, hx65, hm66⟩ := bd_some hm62; clear hm62
     refine wq Z (QV.call en65 (EvAll.cons Z Z (EvAll.cons Z Z (EvAll.cons Z Z EvAll.nil))) (fun w hw => have h := R6_is_w w hx65 ((Own.karr 4 Z hk h_l_logs) w hw) ((Own.karr 4 Z hk h_l_body) w hw) ((Own.karr 4 Z hk h_l_outs) w hw); h)) ?_
     refine nt ?_
     refine WC.cond Z (fun h67 => ?_) (fun h67 => ?_)
     ·skip
      have hm68 := br_t h67 hm66; clear hm66
      refine WC.region ?_
      refine wm Z ?_
      refine wq Z (QV.loadAgg ag71 Z Z Z (Own.cellsBlk 0 Z)) ?_
      refine WL.effect Z ?_
      refine (EV.buildSlice (by decide) sz_68 (by decide) (by decide) (ps := [(0, .tmp 43)]) (cells := [.int .i64 from6_45, .int .i64 to7_54, .int .i64 back8_57, .int .i64 wait9_58]) (EvAll.cons Z Z EvAll.nil) (by kernel_rfl) (fun b69 => ?_))
      refine WL.effect Z ?_
      obtain ⟨c70, hm71⟩ := cs hm68; clear hm68
      refine (EV.appendL (enc := Edg.cells) (xs := v3_58) (ys := [(Edg.mk from6_45 to7_54 back8_57 wait9_58)]) ((v3_58 ++ [(Edg.mk from6_45 to7_54 back8_57 wait9_58)])) 2 (by decide) ve68 Z Z Z Z Z (Own.blkArr 0 (rows := [(Edg.mk from6_45 to7_54 back8_57 wait9_58)].map Edg.cells) Z Z (rows_len Edg.cells_len)) Edg.cells_len (Edg.cells_one _) Z c70.1 c70.2 (fun u72 hu73 => ?_))
      refine wa Z ?_
      refine WL.nil (WQ.block (WQ.then (WC.region ?_)))
      refine wm Z ?_
      obtain ⟨c74, hm75⟩ := cs hm71; clear hm71
      refine wq Z (QV.add Z Z Z Z c74) ?_
      refine wa Z ?_
      refine WL.nil ?_
      exact WQ.again3 (v3_58 ++ [(Edg.mk from6_45 to7_54 back8_57 wait9_58)]) (wait9_58 + 1) u72 m57 ⟨up_next hm75 hn60, hu73⟩ (Nat.lt_succ_self _) ⟨Z, Z, Z, Z, Z, Z, Z, trivial⟩ (fun w hw => hw.pick [2, 3, 4, 5] (by decide))
     have hm76 := br_f h67 hm66; clear hm66
     refine sk (WQ.block (WQ.then (WC.region ?_)))
     refine wm Z ?_
     obtain ⟨c77, hm78⟩ := cs hm76; clear hm76
     refine wq Z (QV.add Z Z Z Z c77) ?_
     refine wa Z ?_
     refine WL.nil ?_
     exact WQ.again3 v3_58 (wait9_58 + 1) uv3_58 m57 ⟨up_next hm78 hn60, hlv3_58⟩ (Nat.lt_succ_self _) ⟨Z, Z, Z, Z, Z, Z, Z, trivial⟩ (fun w hw => hw.pick [1, 2, 3, 4] (by decide))
    have hm79 := br_f h61 hm59; clear hm59
    refine WC.exit (te (te (WQ.block_exit ?_)))
    exact WQ.out3 v3_58 wait9_58 uv3_58 ⟨up_brk hm79 hn60, hlv3_58⟩ ⟨Z, Z, Z, Z, Z, Z, Z, trivial⟩ (fun w hw => hw.pick [0, 1, 2, 3] (by decide))
   have hm80 := br_f h46 hm44; clear hm44
   refine WC.exit (te (te (WQ.block_exit ?_)))
   exact WQ.out3 v3_57 back8_57 uv3_57 ⟨up_brk hm80 hn45, hlv3_57⟩ ⟨Z, Z, Z, Z, Z, Z, trivial⟩ (fun w hw => hw.pick [0, 1, 2, 3] (by decide))
  have hm81 := br_f h31 hm29; clear hm29
  refine WC.exit (te (te (WQ.block_exit ?_)))
  exact WQ.out3 v3_54 to7_54 uv3_54 ⟨up_brk hm81 hn30, hlv3_54⟩ ⟨Z, Z, Z, Z, Z, trivial⟩ (fun w hw => hw.pick [0, 1, 2, 3] (by decide))
 have hm82 := br_f h16 hm14; clear hm14
 refine WC.exit (te (te (WQ.block_exit ?_)))
 exact WQ.out3 v3_45 from6_45 uv3_45 ⟨up_brk hm82 hn15, hlv3_45⟩ ⟨Z, Z, Z, Z, trivial⟩ (fun w hw => hw.pick [0, 1, 2, 3] (by decide))
theorem R6_May_w {v_l_logs : Value} {v_l_body : Value} {v_l_outs : Value} {l : Lp} {t : Tgt} {r : Bool} (w : World) (hm : R6_May_m l t = some r) (h_l_logs : Arr w v_l_logs 1 (l.logs.map icell)) (h_l_body : Arr w v_l_body 9 (l.body.map Stm.cells)) (h_l_outs : Arr w v_l_outs 1 (l.outs.map icell)) : Calls Try.prog 16 #[.agg #[v_l_logs, v_l_body, v_l_outs], .agg #[.int .i64 t.u0, .int .i64 t.u1, .int .i64 t.u2, .int .i64 t.w0, .int .i64 t.w1, .int .i64 t.w2, .int .i64 t.regs]] w (fun e w' => e = .returned (.bool r) ∧ Grow w w') := by
 unfold R6_May_m at hm
 have hk := Base.rfl (w := w)
 refine calls_of_WC (n := 11) (args := [.agg #[v_l_logs, v_l_body, v_l_outs], .agg #[.int .i64 t.u0, .int .i64 t.u1, .int .i64 t.u2, .int .i64 t.w0, .int .i64 t.w1, .int .i64 t.w2, .int .i64 t.regs]]) Try.func16 Z Z (Nat.le_of_ble_eq_true Z) ?_ (Own.startK hk (Own.start w))
 refine sr ?_
 refine WL.effect Z ?_
 refine (EV.boxAgg (by decide) Z Z (fun b1 => ?_))
 refine WL.effect Z ?_
 refine (EV.boxAgg (by decide) Z Z (fun b2 => ?_))
 refine wa Z ?_
 refine ns ?_
 refine wq Z (QV.loadAgg ag25 Z Z Z (Own.cellsBlk 1 Z)) ?_
 obtain ⟨x3, hx4, hm5⟩ := bd_some hm; clear hm
 refine wq Z (QV.call en43 (EvAll.cons Z Z EvAll.nil) (fun w hw => have h := R2_May_w w hx4 ((Own.karr 2 Z hk h_l_logs) w hw) ((Own.karr 2 Z hk h_l_body) w hw) ((Own.karr 2 Z hk h_l_outs) w hw); h)) ?_
 refine wm Z ?_
 refine gp Z (fun hG => QV.loadAgg ag28 Z Z Z (Own.cellsBlk 0 Z)) ?_
 obtain ⟨x6, hx7, hm8⟩ := bdG_some hm5; clear hm5
 refine gp Z (fun hG => QV.call en44 (EvAll.cons Z hG EvAll.nil) (fun w hw => have h := R4_May_w w (hx7 hG) ; h)) ?_
 refine wq Z (QV.pickAnd Z Z Z (fun h => h)) ?_
 refine wa Z ?_
 refine nt (WC.ret ?_)
 obtain rfl := (eq_of_some hm8).symm
 refine WQ.ret1 Z Z (fun w hw => ?_)
 exact ⟨Z, Own.kgrow (fun _ x => x) hw⟩
end Go.Proofs.Ytaimbkndebaaiac
end
section
namespace Go.Proofs.Ytaimbkndebaaiac
open Go.Rd
open TNum TLoop TKern TKeep TOrd TCpt TDep TSched1 TEmit TCheck TRegs TBound TMake TBuild TRDep
namespace TRSched
end TRSched
open TRSched
theorem R8_All_w {v_l_logs : Value} {v_l_body : Value} {v_l_outs : Value} {l : Lp} {t : Tgt} {r : Int} (w : World) (hm : R8_All_m l t = some r) (h_l_logs : Arr w v_l_logs 1 (l.logs.map icell)) (h_l_body : Arr w v_l_body 9 (l.body.map Stm.cells)) (h_l_outs : Arr w v_l_outs 1 (l.outs.map icell)) : Calls Try.prog 20 #[.agg #[v_l_logs, v_l_body, v_l_outs], .agg #[.int .i64 t.u0, .int .i64 t.u1, .int .i64 t.u2, .int .i64 t.w0, .int .i64 t.w1, .int .i64 t.w2, .int .i64 t.regs]] w (fun e w' => e = .returned (.int .i64 r) ∧ Grow w w') := by
 unfold R8_All_m at hm
 have hk := Base.rfl (w := w)
 refine calls_of_WC (n := 27) (args := [.agg #[v_l_logs, v_l_body, v_l_outs], .agg #[.int .i64 t.u0, .int .i64 t.u1, .int .i64 t.u2, .int .i64 t.w0, .int .i64 t.w1, .int .i64 t.w2, .int .i64 t.regs]]) Try.func20 Z Z (Nat.le_of_ble_eq_true Z) ?_ (Own.startK hk (Own.start w))
 refine sr ?_
 refine WL.effect Z ?_
 refine (EV.boxAgg (by decide) Z Z (fun b1 => ?_))
 refine WL.effect Z ?_
 refine (EV.boxAgg (by decide) Z Z (fun b2 => ?_))
 refine wa Z ?_
 refine ns ?_
 refine wa Z ?_
 refine nt (WC.seq (sr ?_))
 refine wa Z ?_
 refine nt ?_
 obtain ⟨o3, ho4, hm5⟩ := bd_some hm; clear hm; obtain ⟨n6, ho7⟩ := lp_some ho4
 refine WC.bloop2 (H2 := [blk b2 t.cells 28, blk b1 [v_l_logs, v_l_body, v_l_outs] 25, kn noM w.heap.size w w]) (τ := [(2, (true, _)), (3, (true, _))]) (fun (n5_1 : Int) (i6_1 : Int) => [(5, (true, .int .i64 n5_1)), (6, (true, .int .i64 i6_1))]) (fun n5_1 i6_1 => []) (fun n5_1 i6_1 m => iter (R8_All_L0 l t) m (n5_1, i6_1) = some o3) (fun n5_1 i6_1 => o3 = .go (n5_1, i6_1)) 0 0 n6 ho7 ⟨Z, Z, Z, Z, trivial⟩ (fun w hw => hw.pick [0, 1, 2] (by decide)) ?_ ?_
 ·skip
  rintro n5_1 i6_1 rfl
  refine WQ.then (sr ?_)
  refine wm Z ?_
  refine wa Z ?_
  refine nt (WC.ret ?_)
  obtain rfl := (eq_of_some hm5).symm
  refine WQ.ret1 Z Z (fun w hw => ?_)
  exact ⟨Z, Own.kgrow (fun _ x => x) hw⟩
 rintro n5_1 i6_1 m8 hI9
 obtain ⟨m10, s11, rfl, hm12, hn13⟩ := iter_step hI9; clear hI9; unfold R8_All_L0 at hm12; simp only at hm12
 refine WC.seq (sr ?_)
 refine wm Z ?_
 refine wf fd25_1 Z ?_
 refine wl pl23 Z (Own.cell 1 Z Z) ?_
 refine wq Z (QV.lenS Try.underlying23 Z Z h_l_body.lenMap) ?_
 refine wq Z (QV.lss Z Z Z Z) ?_
 refine nt ?_
 refine WC.cond Z (fun h14 => ?_) (fun h14 => ?_)
 ·skip
  have hm15 := br_t h14 hm12; clear hm12
  refine sk (WQ.then (WC.seq (WC.block (WC.seq ?_))))
  refine WC.dr (m := 9) (S := Own noM w [kn noM w.heap.size w w, blk b2 t.cells 28, blk b1 [v_l_logs, v_l_body, v_l_outs] 25]) (by kernel_rfl) (by kernel_rfl) (fun w hw => hw.pick [2, 0, 1] (by decide)) ?_
  refine wz 0 Z Z (QV.loadAgg ag28 Z Z Z (Own.cellsBlk 1 Z)) ?_
  refine wz 1 Z Z (QV.fieldAddr fd25_1 Z Z) ?_
  refine wz 2 Z Z (QV.load pl23 Z Z (Own.cell 2 Z Z)) ?_
  refine wz 3 Z Z (QV.move Z Z) ?_
  obtain ⟨c16, hm17⟩ := cs hm15; clear hm15
  obtain ⟨p18, hp19⟩ := h_l_body.lenMap.ix (sz := 9) ln_len c16
  refine wz 4 Z Z (QV.indexSlice sl23 Z Z Z Z hp19) ?_
  refine wz 5 Z Z (QV.fieldAddr fd81_0 Z Z) ?_
  refine wz 6 Z Z (QV.load pl3 Z Z (fun w hw => CellsAt.one 0 (((Own.karr 0 Z hk h_l_body) w hw).ele hp19 c16) Z)) ?_
  obtain ⟨x20, hx21, hm22⟩ := bd_some hm17; clear hm17
  refine wz 7 Z Z (QV.call en47 (EvAll.cons Z Z (EvAll.cons Z Z EvAll.nil)) (fun w hw => have h := R4_Wait_w w hx21 ; h)) ?_
  refine wz 8 Z Z (QV.assign Z Z) ?_
  refine WD.e (by kernel_rfl) ?_
  refine WQ.then (WC.region ?_)
  refine wm Z ?_
  refine wm Z ?_
  obtain ⟨c23, hm24⟩ := cs hm22; clear hm22
  refine wq Z (QV.add Z Z Z Z c23) ?_
  refine wa Z ?_
  refine WL.nil (WQ.block (WQ.then (WC.region ?_)))
  refine wm Z ?_
  obtain ⟨c25, hm26⟩ := cs hm24; clear hm24
  refine wq Z (QV.add Z Z Z Z c25) ?_
  refine wa Z ?_
  refine WL.nil ?_
  exact WQ.again2 (n5_1 + x20) (i6_1 + 1) m10 (up_next hm26 hn13) (Nat.lt_succ_self _) ⟨Z, Z, Z, Z, trivial⟩ (fun w hw => hw.pick [0, 1, 2] (by decide))
 have hm27 := br_f h14 hm12; clear hm12
 refine WC.exit (te (te (WQ.block_exit ?_)))
 exact WQ.out2 n5_1 i6_1 (up_brk hm27 hn13) ⟨Z, Z, Z, Z, trivial⟩ (fun w hw => hw.pick [0, 1, 2] (by decide))
end Go.Proofs.Ytaimbkndebaaiac
end
section
namespace Go.Proofs.Ytaimbkndebaaiac
open Go.Rd
open TNum TLoop TKern TKeep TOrd TCpt TDep TSched1 TEmit TCheck TRegs TBound TMake TBuild TRDep TRSched
namespace TRBound
theorem en29 : Go.Rd.Enters Try.prog 29 := ⟨Try.f29, Try.func29, by kernel_rfl, by kernel_rfl⟩
theorem en46 : Go.Rd.Enters Try.prog 46 := ⟨Try.f46, Try.func46, by kernel_rfl, by kernel_rfl⟩
end TRBound
open TRBound
theorem R7_Rounds_w {v_l : Value} {n_ : Int} {l : List Edg} {pace : Int} {r : Bool} (w : World) (hm : R7_Rounds_m n_ l pace = some r) (h_l : Arr w v_l 4 (l.map Edg.cells)) : Calls Try.prog 46 #[.int .i64 n_, v_l, .int .i64 pace] w (fun e w' => e = .returned (.bool r) ∧ Grow w w') := by
 unfold R7_Rounds_m at hm
 have hk := Base.rfl (w := w)
 refine calls_of_WC (n := 56) (args := [.int .i64 n_, v_l, .int .i64 pace]) Try.func46 Z Z (Nat.le_of_ble_eq_true Z) ?_ (Own.startK hk (Own.start w))
 refine sr ?_
 refine wa Z ?_
 refine ns ?_
 refine wm Z ?_
 refine WL.effect Z ?_
 obtain ⟨c1, hm2⟩ := cs hm; clear hm
 obtain ⟨c3, hm4⟩ := cs hm2; clear hm2
 refine (EV.makeSlice (enc := icell) (0 : Int) (by decide) ve22 ze3 Z Z c1 Z c3 (fun u5 hu6 => ?_))
 refine wa Z ?_
 refine nt (WC.seq (sr ?_))
 refine wa Z ?_
 refine nt ?_
 obtain ⟨o8, ho9, hm10⟩ := bd_some hm4; clear hm4; obtain ⟨n11, ho12⟩ := lp_some ho9
 refine WC.bloop2 (H2 := [kn noM w.heap.size w w]) (τ := [(0, (true, _)), (1, (true, _)), (2, (true, _)), (7, (true, _))]) (fun (v7_3 : List Int) (round8_3 : Int) => [(8, (true, .int .i64 round8_3))]) (fun v7_3 round8_3 => [vec u5 3 1 (List.map icell v7_3)]) (fun v7_3 round8_3 m => iter (R7_Rounds_L0 n_ l pace) m (v7_3, round8_3) = some o8 ∧ SliceLen u5 v7_3.length) (fun v7_3 round8_3 => o8 = .go (v7_3, round8_3) ∧ SliceLen u5 v7_3.length) (List.replicate n_.toNat (0 : Int)) 0 n11 ⟨ho12, hu6⟩ ⟨Z, Z, Z, Z, Z, trivial⟩ (fun w hw => hw.pick [0, 1] (by decide)) ?_ ?_
 ·skip
  rintro v7_3 round8_3 ⟨rfl, hlv7_3⟩
  refine WQ.then (sr ?_)
  refine wa Z ?_
  refine nt (WC.ret ?_)
  obtain rfl := (eq_of_some hm10).symm
  refine WQ.ret1 Z Z (fun w hw => ?_)
  exact ⟨Z, Own.kgrow (fun _ x => x) hw⟩
 rintro v7_3 round8_3 m13 ⟨hI14, hlv7_3⟩
 obtain ⟨m15, s16, rfl, hm17, hn18⟩ := iter_step hI14; clear hI14; unfold R7_Rounds_L0 at hm17; simp only at hm17
 refine WC.seq (sr ?_)
 refine wm Z ?_
 refine wm Z ?_
 refine wq Z (QV.leq Z Z Z Z) ?_
 refine nt ?_
 refine WC.cond Z (fun h19 => ?_) (fun h19 => ?_)
 ·skip
  have hm20 := br_t h19 hm17; clear hm17
  refine sk (WQ.then (WC.seq (WC.block (sr ?_))))
  refine wa Z ?_
  refine nt (WC.seq (sr ?_))
  refine wa Z ?_
  refine nt ?_
  obtain ⟨o21, ho22, hm23⟩ := bd_some hm20; clear hm20; obtain ⟨n24, ho25⟩ := lp_some ho22
  refine WC.bloop3 (H2 := [kn noM w.heap.size w w]) (τ := [(0, (true, _)), (1, (true, _)), (2, (true, _)), (7, (true, _)), (8, (true, _))]) (fun (v7_4 : List Int) (still9_4 : Bool) (i10_4 : Int) => [(9, (true, .bool still9_4)), (10, (true, .int .i64 i10_4))]) (fun v7_4 still9_4 i10_4 => [vec u5 3 1 (List.map icell v7_4)]) (fun v7_4 still9_4 i10_4 m => iter (R7_Rounds_L2 l pace) m (v7_4, still9_4, i10_4) = some o21 ∧ SliceLen u5 v7_4.length) (fun v7_4 still9_4 i10_4 => o21 = .go (v7_4, still9_4, i10_4) ∧ SliceLen u5 v7_4.length) v7_3 true 0 n24 ⟨ho25, hlv7_3⟩ ⟨Z, Z, Z, Z, Z, Z, Z, trivial⟩ (fun w hw => hw.pick [0, 1] (by decide)) ?_ ?_
  ·skip
   rintro v7_4 still9_4 i10_4 ⟨rfl, hlv7_4⟩
   refine WQ.then (sr ?_)
   refine wm Z ?_
   refine nt ?_
   refine WC.cond Z (fun h26 => ?_) (fun h26 => ?_)
   ·skip
    have hm27 := br_t h26 hm23; clear hm23
    refine sr ?_
    refine wa Z ?_
    refine nt (WC.ret (kr (tr (tr (kr (tr (tr ?_)))))))
    obtain rfl := up_ret hm27 hn18
    obtain rfl := (eq_of_some hm10).symm
    refine WQ.ret1 Z Z (fun w hw => ?_)
    exact ⟨Z, Own.kgrow (fun _ x => x) hw⟩
   have hm28 := br_f h26 hm23; clear hm23
   refine sk (WQ.block (WQ.then (WC.region ?_)))
   refine wm Z ?_
   obtain ⟨c29, hm30⟩ := cs hm28; clear hm28
   refine wq Z (QV.add Z Z Z Z c29) ?_
   refine wa Z ?_
   refine WL.nil ?_
   exact WQ.again2 v7_4 (round8_3 + 1) m15 ⟨up_next hm30 hn18, hlv7_4⟩ (Nat.lt_succ_self _) ⟨Z, Z, Z, Z, Z, trivial⟩ (fun w hw => hw.pick [0, 1] (by decide))
  rintro v7_4 still9_4 i10_4 m31 ⟨hI32, hlv7_4⟩
  obtain ⟨m33, s34, rfl, hm35, hn36⟩ := iter_step hI32; clear hI32; unfold R7_Rounds_L2 at hm35; simp only at hm35
  refine WC.seq (sr ?_)
  refine wm Z ?_
  refine wm Z ?_
  refine wq Z (QV.lenS Try.underlying68 Z Z h_l.lenMap) ?_
  refine wq Z (QV.lss Z Z Z Z) ?_
  refine nt ?_
  refine WC.cond Z (fun h37 => ?_) (fun h37 => ?_)
  ·skip
   have hm38 := br_t h37 hm35; clear hm35
   refine sk (WQ.then (WC.seq (WC.block (sr ?_))))
   refine wm Z ?_
   refine wm Z ?_
   obtain ⟨c39, hm40⟩ := cs hm38; clear hm38
   obtain ⟨p41, hp42⟩ := h_l.lenMap.ix (sz := 4) ln_len c39
   refine wq Z (QV.indexSlice sl68 Z Z Z Z hp42) ?_
   refine wq Z (QV.loadAgg ag71 Z Z Z (fun w hw => ((Own.karr 1 Z hk h_l) w hw).ele hp42 c39)) ?_
   refine WL.effect Z ?_
   refine (EV.alloc (by decide) ze71 (fun b43 => ?_))
   refine WL.effect Z ?_
   refine (EV.store 0 Z Z Z Z Z Z (vs := (Edg.cells (ele l i10_4))) (show Value.cells _ = List.toArray _ from Z) sz71 (Nat.le_of_ble_eq_true Z) (one_cons Z (one_cons Z (one_cons Z (one_cons Z one_nil)))) ?_)
   refine nt (WC.seq ?_)
   refine WC.dr (m := 14) (S := Own noM w [kn noM w.heap.size w w, blk b43 (Edg.cells (ele l i10_4)) 71, vec u5 3 1 (List.map icell v7_4)]) (by kernel_rfl) (by kernel_rfl) (fun w hw => hw.pick [2, 0, 1] (by decide)) ?_
   refine wz 0 Z Z (QV.move Z Z) ?_
   refine wz 1 Z Z (QV.fieldAddr fd71_0 Z Z) ?_
   refine wz 2 Z Z (QV.load pl3 Z Z (Own.cell 1 Z Z)) ?_
   obtain ⟨c44, hm45⟩ := cs hm40; clear hm40
   obtain ⟨p46, hp47⟩ := hlv7_4.ix (sz := 1) ln_len c44
   refine wz 3 Z Z (QV.indexSlice sl22 Z Z Z Z hp47) ?_
   refine wz 4 Z Z (QV.load pl3 Z Z (fun w hw => CellsAt.one 0 (((Own.vecArr 2 Z) w hw).ele hp47 c44) Z)) ?_
   refine wz 5 Z Z (QV.fieldAddr fd71_3 Z Z) ?_
   refine wz 6 Z Z (QV.load pl3 Z Z (Own.cell 1 Z Z)) ?_
   obtain ⟨c48, hm49⟩ := cs hm45; clear hm45
   refine wz 7 Z Z (QV.add Z Z Z Z c48) ?_
   refine wz 8 Z Z (QV.move Z Z) ?_
   refine wz 9 Z Z (QV.fieldAddr fd71_2 Z Z) ?_
   refine wz 10 Z Z (QV.load pl3 Z Z (Own.cell 1 Z Z)) ?_
   obtain ⟨c50, hm51⟩ := cs hm49; clear hm49
   refine wz 11 Z Z (QV.mul Z Z Z Z c50) ?_
   obtain ⟨c52, hm53⟩ := cs hm51; clear hm51
   refine wz 12 Z Z (QV.sub Z Z Z Z c52) ?_
   refine wz 13 Z Z (QV.assign Z Z) ?_
   refine WD.e (by kernel_rfl) ?_
   refine WQ.then (sr ?_)
   refine wm Z ?_
   refine wm Z ?_
   refine wf fd71_1 Z ?_
   refine wl pl3 Z (Own.cell 0 Z Z) ?_
   obtain ⟨c54, hm55⟩ := cs hm53; clear hm53
   obtain ⟨p56, hp57⟩ := hlv7_4.ix (sz := 1) ln_len c54
   refine wq Z (QV.indexSlice sl22 Z Z Z Z hp57) ?_
   refine wl pl3 Z (fun w hw => CellsAt.one 0 (((Own.vecArr 1 Z) w hw).ele hp57 c54) Z) ?_
   refine wq Z (QV.gtr Z Z Z Z) ?_
   refine nt ?_
   refine WC.cond Z (fun h58 => ?_) (fun h58 => ?_)
   ·skip
    have hm59 := br_t h58 hm55; clear hm55
    refine sr ?_
    refine wm Z ?_
    refine wf fd71_1 Z ?_
    refine wl pl3 Z (Own.cell 0 Z Z) ?_
    refine wm Z ?_
    obtain ⟨c60, hm61⟩ := cs hm59; clear hm59
    obtain ⟨p62, hp63⟩ := hlv7_4.ix (sz := 1) ln_len c60
    refine wq Z (QV.indexSlice sl22 Z Z Z Z hp63) ?_
    refine WL.effect Z ?_
    refine (EV.storeV 1 (((ele v7_4 ((ele l i10_4).fr)) + (ele l i10_4).wt) - (pace * (ele l i10_4).bk)) icell_eq Z Z Z Z Z hp63 Z Z sz3 ?_)
    have hl64 : SliceLen u5 (upd v7_4 ((ele l i10_4).to) (((ele v7_4 ((ele l i10_4).fr)) + (ele l i10_4).wt) - (pace * (ele l i10_4).bk))).length := slen_upd hlv7_4
    refine nr ?_
    refine wa Z ?_
    refine WL.nil (WQ.block (WQ.then (WC.region ?_)))
    refine wm Z ?_
    obtain ⟨c65, hm66⟩ := cs hm61; clear hm61
    refine wq Z (QV.add Z Z Z Z c65) ?_
    refine wa Z ?_
    refine WL.nil ?_
    exact WQ.again3 (upd v7_4 ((ele l i10_4).to) (((ele v7_4 ((ele l i10_4).fr)) + (ele l i10_4).wt) - (pace * (ele l i10_4).bk))) false (i10_4 + 1) m33 ⟨up_next hm66 hn36, hl64⟩ (Nat.lt_succ_self _) ⟨Z, Z, Z, Z, Z, Z, Z, trivial⟩ (fun w hw => hw.pick [1, 2] (by decide))
   have hm67 := br_f h58 hm55; clear hm55
   refine sk (WQ.block (WQ.then (WC.region ?_)))
   refine wm Z ?_
   obtain ⟨c68, hm69⟩ := cs hm67; clear hm67
   refine wq Z (QV.add Z Z Z Z c68) ?_
   refine wa Z ?_
   refine WL.nil ?_
   exact WQ.again3 v7_4 still9_4 (i10_4 + 1) m33 ⟨up_next hm69 hn36, hlv7_4⟩ (Nat.lt_succ_self _) ⟨Z, Z, Z, Z, Z, Z, Z, trivial⟩ (fun w hw => hw.pick [1, 2] (by decide))
  have hm70 := br_f h37 hm35; clear hm35
  refine WC.exit (te (te (WQ.block_exit ?_)))
  exact WQ.out3 v7_4 still9_4 i10_4 ⟨up_brk hm70 hn36, hlv7_4⟩ ⟨Z, Z, Z, Z, Z, Z, Z, trivial⟩ (fun w hw => hw.pick [0, 1] (by decide))
 have hm71 := br_f h19 hm17; clear hm17
 refine WC.exit (te (te (WQ.block_exit ?_)))
 exact WQ.out2 v7_3 round8_3 ⟨up_brk hm71 hn18, hlv7_3⟩ ⟨Z, Z, Z, Z, Z, trivial⟩ (fun w hw => hw.pick [0, 1] (by decide))
theorem R7_Units_w {v_l_logs : Value} {v_l_body : Value} {v_l_outs : Value} {l : Lp} {t : Tgt} {r : Int} (w : World) (hm : R7_Units_m l t = some r) (h_l_logs : Arr w v_l_logs 1 (l.logs.map icell)) (h_l_body : Arr w v_l_body 9 (l.body.map Stm.cells)) (h_l_outs : Arr w v_l_outs 1 (l.outs.map icell)) : Calls Try.prog 18 #[.agg #[v_l_logs, v_l_body, v_l_outs], .agg #[.int .i64 t.u0, .int .i64 t.u1, .int .i64 t.u2, .int .i64 t.w0, .int .i64 t.w1, .int .i64 t.w2, .int .i64 t.regs]] w (fun e w' => e = .returned (.int .i64 r) ∧ Grow w w') := by
 unfold R7_Units_m at hm
 have hk := Base.rfl (w := w)
 refine calls_of_WC (n := 42) (args := [.agg #[v_l_logs, v_l_body, v_l_outs], .agg #[.int .i64 t.u0, .int .i64 t.u1, .int .i64 t.u2, .int .i64 t.w0, .int .i64 t.w1, .int .i64 t.w2, .int .i64 t.regs]]) Try.func18 Z Z (Nat.le_of_ble_eq_true Z) ?_ (Own.startK hk (Own.start w))
 refine sr ?_
 refine WL.effect Z ?_
 refine (EV.boxAgg (by decide) Z Z (fun b1 => ?_))
 refine WL.effect Z ?_
 refine (EV.boxAgg (by decide) Z Z (fun b2 => ?_))
 refine wa Z ?_
 refine ns ?_
 refine wa Z ?_
 refine nt (WC.seq (sr ?_))
 refine wa Z ?_
 refine nt ?_
 obtain ⟨o3, ho4, hm5⟩ := bd_some hm; clear hm; obtain ⟨n6, ho7⟩ := lp_some ho4
 refine WC.bloop2 (H2 := [blk b2 t.cells 28, blk b1 [v_l_logs, v_l_body, v_l_outs] 25, kn noM w.heap.size w w]) (τ := [(2, (true, _)), (3, (true, _))]) (fun (pace5_3 : Int) (c6_3 : Int) => [(5, (true, .int .i64 pace5_3)), (6, (true, .int .i64 c6_3))]) (fun pace5_3 c6_3 => []) (fun pace5_3 c6_3 m => iter (R7_Units_L0 l t) m (pace5_3, c6_3) = some o3) (fun pace5_3 c6_3 => o3 = .go (pace5_3, c6_3)) 1 0 n6 ho7 ⟨Z, Z, Z, Z, trivial⟩ (fun w hw => hw.pick [0, 1, 2] (by decide)) ?_ ?_
 ·skip
  rintro pace5_3 c6_3 rfl
  refine WQ.then (sr ?_)
  refine wm Z ?_
  refine wa Z ?_
  refine nt (WC.ret ?_)
  obtain rfl := (eq_of_some hm5).symm
  refine WQ.ret1 Z Z (fun w hw => ?_)
  exact ⟨Z, Own.kgrow (fun _ x => x) hw⟩
 rintro pace5_3 c6_3 m8 hI9
 obtain ⟨m10, s11, rfl, hm12, hn13⟩ := iter_step hI9; clear hI9; unfold R7_Units_L0 at hm12; simp only at hm12
 refine WC.seq (sr ?_)
 refine wm Z ?_
 refine wq Z (QV.lss Z Z Z Z) ?_
 refine nt ?_
 refine WC.cond Z (fun h14 => ?_) (fun h14 => ?_)
 ·skip
  have hm15 := br_t h14 hm12; clear hm12
  refine sk (WQ.then (WC.seq (WC.block (sr ?_))))
  refine wa Z ?_
  refine nt (WC.seq (sr ?_))
  refine wa Z ?_
  refine nt ?_
  obtain ⟨o16, ho17, hm18⟩ := bd_some hm15; clear hm15; obtain ⟨n19, ho20⟩ := lp_some ho17
  refine WC.bloop2 (H2 := [blk b2 t.cells 28, blk b1 [v_l_logs, v_l_body, v_l_outs] 25, kn noM w.heap.size w w]) (τ := [(2, (true, _)), (3, (true, _)), (5, (true, _)), (6, (true, _))]) (fun (n7_4 : Int) (i8_4 : Int) => [(7, (true, .int .i64 n7_4)), (8, (true, .int .i64 i8_4))]) (fun n7_4 i8_4 => []) (fun n7_4 i8_4 m => iter (R7_Units_L2 l c6_3) m (n7_4, i8_4) = some o16) (fun n7_4 i8_4 => o16 = .go (n7_4, i8_4)) 0 0 n19 ho20 ⟨Z, Z, Z, Z, Z, Z, trivial⟩ (fun w hw => hw.pick [0, 1, 2] (by decide)) ?_ ?_
  ·skip
   rintro n7_4 i8_4 rfl
   refine WQ.then ?_
   obtain ⟨o21, ho22, hm23⟩ := bd_some hm18; clear hm18; obtain ⟨n24, ho25⟩ := lp_some ho22
   refine WC.bloop1 (H2 := [blk b2 t.cells 28, blk b1 [v_l_logs, v_l_body, v_l_outs] 25, kn noM w.heap.size w w]) (τ := [(2, (true, _)), (3, (true, _)), (6, (true, _)), (7, (true, _))]) (fun (pace5_5 : Int) => [(5, (true, .int .i64 pace5_5))]) (fun pace5_5 => []) (fun pace5_5 m => iter (R7_Units_L4 t c6_3 n7_4) m pace5_5 = some o21) (fun pace5_5 => o21 = .go pace5_5) pace5_3 n24 ho25 ⟨Z, Z, Z, Z, Z, trivial⟩ (fun w hw => hw.pick [0, 1, 2] (by decide)) ?_ ?_
   ·skip
    rintro pace5_5 rfl
    refine WQ.block (WQ.then (WC.region ?_))
    refine wm Z ?_
    obtain ⟨c26, hm27⟩ := cs hm23; clear hm23
    refine wq Z (QV.add Z Z Z Z c26) ?_
    refine wa Z ?_
    refine WL.nil ?_
    exact WQ.again2 pace5_5 (c6_3 + 1) m10 (up_next hm27 hn13) (Nat.lt_succ_self _) ⟨Z, Z, Z, Z, trivial⟩ (fun w hw => hw.pick [0, 1, 2] (by decide))
   rintro pace5_5 m28 hI29
   obtain ⟨m30, s31, rfl, hm32, hn33⟩ := iter_step hI29; clear hI29; unfold R7_Units_L4 at hm32
   refine WC.seq (sr ?_)
   refine wm Z ?_
   refine wm Z ?_
   refine wf fd28_0 Z ?_
   obtain ⟨c34, hm35⟩ := cs hm32; clear hm32
   refine wq Z (QV.indexArray ar26 Z Z Z Z c34.1 c34.2) ?_
   refine wl pl3 Z (Own.cellSym 0 Z (sel3_get (off := 0) (i := c6_3) c34.1 c34.2 Z Z Z) (addr_sym _ _ _)) ?_
   obtain ⟨c36, hm37⟩ := cs hm35; clear hm35
   refine wq Z (QV.mul Z Z Z Z c36) ?_
   refine wm Z ?_
   refine wq Z (QV.lss Z Z Z Z) ?_
   refine nt ?_
   refine WC.cond Z (fun h38 => ?_) (fun h38 => ?_)
   ·skip
    have hm39 := br_t h38 hm37; clear hm37
    refine sk (WQ.then (WC.block (WC.region ?_)))
    refine wm Z ?_
    obtain ⟨c40, hm41⟩ := cs hm39; clear hm39
    refine wq Z (QV.add Z Z Z Z c40) ?_
    refine wa Z ?_
    refine WL.nil (WQ.block ?_)
    exact WQ.again1 (pace5_5 + 1) m30 (up_next hm41 hn33) (Nat.lt_succ_self _) ⟨Z, Z, Z, Z, Z, trivial⟩ (fun w hw => hw.pick [0, 1, 2] (by decide))
   have hm42 := br_f h38 hm37; clear hm37
   refine WC.exit (te (te (WQ.block_exit ?_)))
   exact WQ.out1 pace5_5 (up_brk hm42 hn33) ⟨Z, Z, Z, Z, Z, trivial⟩ (fun w hw => hw.pick [0, 1, 2] (by decide))
  rintro n7_4 i8_4 m43 hI44
  obtain ⟨m45, s46, rfl, hm47, hn48⟩ := iter_step hI44; clear hI44; unfold R7_Units_L2 at hm47; simp only at hm47
  refine WC.seq (sr ?_)
  refine wm Z ?_
  refine wf fd25_1 Z ?_
  refine wl pl23 Z (Own.cell 1 Z Z) ?_
  refine wq Z (QV.lenS Try.underlying23 Z Z h_l_body.lenMap) ?_
  refine wq Z (QV.lss Z Z Z Z) ?_
  refine nt ?_
  refine WC.cond Z (fun h49 => ?_) (fun h49 => ?_)
  ·skip
   have hm50 := br_t h49 hm47; clear hm47
   refine sk (WQ.then (WC.seq (WC.block (sr ?_))))
   refine wf fd25_1 Z ?_
   refine wl pl23 Z (Own.cell 1 Z Z) ?_
   refine wm Z ?_
   obtain ⟨c51, hm52⟩ := cs hm50; clear hm50
   obtain ⟨p53, hp54⟩ := h_l_body.lenMap.ix (sz := 9) ln_len c51
   refine wq Z (QV.indexSlice sl23 Z Z Z Z hp54) ?_
   refine wf fd81_0 Z ?_
   refine wl pl3 Z (fun w hw => CellsAt.one 0 (((Own.karr 2 Z hk h_l_body) w hw).ele hp54 c51) Z) ?_
   obtain ⟨x55, hx56, hm57⟩ := bd_some hm52; clear hm52
   refine wq Z (QV.call en45 (EvAll.cons Z Z EvAll.nil) (fun w hw => have h := R1_Class_w w hx56 ; h)) ?_
   refine wm Z ?_
   refine wq Z (QV.eql Z Z Z Z) ?_
   refine nt ?_
   refine WC.cond Z (fun h58 => ?_) (fun h58 => ?_)
   ·skip
    have hm59 := br_t h58 hm57; clear hm57
    refine WC.region ?_
    refine wm Z ?_
    obtain ⟨c60, hm61⟩ := cs hm59; clear hm59
    refine wq Z (QV.add Z Z Z Z c60) ?_
    refine wa Z ?_
    refine WL.nil (WQ.block (WQ.then (WC.region ?_)))
    refine wm Z ?_
    obtain ⟨c62, hm63⟩ := cs hm61; clear hm61
    refine wq Z (QV.add Z Z Z Z c62) ?_
    refine wa Z ?_
    refine WL.nil ?_
    exact WQ.again2 (n7_4 + 1) (i8_4 + 1) m45 (up_next hm63 hn48) (Nat.lt_succ_self _) ⟨Z, Z, Z, Z, Z, Z, trivial⟩ (fun w hw => hw.pick [0, 1, 2] (by decide))
   have hm64 := br_f h58 hm57; clear hm57
   refine sk (WQ.block (WQ.then (WC.region ?_)))
   refine wm Z ?_
   obtain ⟨c65, hm66⟩ := cs hm64; clear hm64
   refine wq Z (QV.add Z Z Z Z c65) ?_
   refine wa Z ?_
   refine WL.nil ?_
   exact WQ.again2 n7_4 (i8_4 + 1) m45 (up_next hm66 hn48) (Nat.lt_succ_self _) ⟨Z, Z, Z, Z, Z, Z, trivial⟩ (fun w hw => hw.pick [0, 1, 2] (by decide))
  have hm67 := br_f h49 hm47; clear hm47
  refine WC.exit (te (te (WQ.block_exit ?_)))
  exact WQ.out2 n7_4 i8_4 (up_brk hm67 hn48) ⟨Z, Z, Z, Z, Z, Z, trivial⟩ (fun w hw => hw.pick [0, 1, 2] (by decide))
 have hm68 := br_f h14 hm12; clear hm12
 refine WC.exit (te (te (WQ.block_exit ?_)))
 exact WQ.out2 pace5_3 c6_3 (up_brk hm68 hn13) ⟨Z, Z, Z, Z, trivial⟩ (fun w hw => hw.pick [0, 1, 2] (by decide))
theorem R7_Least_w {v_l_logs : Value} {v_l_body : Value} {v_l_outs : Value} {l : Lp} {t : Tgt} {r : Int} (w : World) (hm : R7_Least_m l t = some r) (h_l_logs : Arr w v_l_logs 1 (l.logs.map icell)) (h_l_body : Arr w v_l_body 9 (l.body.map Stm.cells)) (h_l_outs : Arr w v_l_outs 1 (l.outs.map icell)) : Calls Try.prog 19 #[.agg #[v_l_logs, v_l_body, v_l_outs], .agg #[.int .i64 t.u0, .int .i64 t.u1, .int .i64 t.u2, .int .i64 t.w0, .int .i64 t.w1, .int .i64 t.w2, .int .i64 t.regs]] w (fun e w' => e = .returned (.int .i64 r) ∧ Grow w w') := by
 unfold R7_Least_m at hm
 have hk := Base.rfl (w := w)
 refine calls_of_WC (n := 20) (args := [.agg #[v_l_logs, v_l_body, v_l_outs], .agg #[.int .i64 t.u0, .int .i64 t.u1, .int .i64 t.u2, .int .i64 t.w0, .int .i64 t.w1, .int .i64 t.w2, .int .i64 t.regs]]) Try.func19 Z Z (Nat.le_of_ble_eq_true Z) ?_ (Own.startK hk (Own.start w))
 refine sr ?_
 refine WL.effect Z ?_
 refine (EV.boxAgg (by decide) Z Z (fun b1 => ?_))
 refine WL.effect Z ?_
 refine (EV.boxAgg (by decide) Z Z (fun b2 => ?_))
 refine wa Z ?_
 refine ns ?_
 refine wq Z (QV.loadAgg ag25 Z Z Z (Own.cellsBlk 1 Z)) ?_
 refine wq Z (QV.loadAgg ag28 Z Z Z (Own.cellsBlk 0 Z)) ?_
 refine WL.effect Z ?_
 obtain ⟨x3, hx4, hm5⟩ := bd_some hm; clear hm
 refine EV.of (C' := Own noM w [kn noM w.heap.size w w, blk b2 t.cells 28, blk b1 [v_l_logs, v_l_body, v_l_outs] 25]) (fun w hw => hw.pick [2, 0, 1] (by decide)) ?_
 refine (EV.callR (X := Value × World) (R := []) (fun X => X.1) (fun X => []) (fun X => X.2) (fun X => Arr X.2 X.1 4 (x3.map Edg.cells)) hk (fun _ h => by cases h; decide) en29 (EvAll.cons Z Z (EvAll.cons Z Z EvAll.nil)) (fun M w h1 h2 => have h := R6_Edges_w hx4 h_l_logs h_l_body h_l_outs M w h1 h2; h) (fun X6 hF6 hle6 => ?_))
 refine wa Z ?_
 refine ns ?_
 refine wa Z ?_
 refine nt (WC.seq ?_)
 obtain ⟨o7, ho8, hm9⟩ := bd_some hm5; clear hm5; obtain ⟨n10, ho11⟩ := lp_some ho8
 refine WC.bloop1 (H2 := [kn noM w.heap.size w X6.2, blk b2 t.cells 28, blk b1 [v_l_logs, v_l_body, v_l_outs] 25]) (τ := [(2, (true, _)), (5, (true, _))]) (fun (pace6_1 : Int) => [(6, (true, .int .i64 pace6_1))]) (fun pace6_1 => []) (fun pace6_1 m => iter (R7_Least_L0 l x3) m pace6_1 = some o7) (fun pace6_1 => o7 = .go pace6_1) 1 n10 ho11 ⟨Z, Z, Z, trivial⟩ (fun w hw => hw.pick [0, 1, 2] (by decide)) ?_ ?_
 ·skip
  rintro pace6_1 rfl
  refine WQ.then (sr ?_)
  refine wm Z ?_
  refine wa Z ?_
  refine nt (WC.ret ?_)
  obtain rfl := (eq_of_some hm9).symm
  refine WQ.ret1 Z Z (fun w hw => ?_)
  exact ⟨Z, Own.kgrow (fun _ x => x) hw⟩
 rintro pace6_1 m12 hI13
 obtain ⟨m14, s15, rfl, hm16, hn17⟩ := iter_step hI13; clear hI13; unfold R7_Least_L0 at hm16
 refine WC.seq (sr ?_)
 refine wf fd25_1 Z ?_
 refine wl pl23 Z (Own.cell 2 Z Z) ?_
 refine wq Z (QV.lenS Try.underlying23 Z Z (h_l_body.le hle6).lenMap) ?_
 refine wm Z ?_
 refine wm Z ?_
 obtain ⟨x18, hx19, hm20⟩ := bd_some hm16; clear hm16
 refine wq Z (QV.call en46 (EvAll.cons Z Z (EvAll.cons Z Z (EvAll.cons Z Z EvAll.nil))) (fun w hw => have h := R7_Rounds_w w hx19 ((Own.karr 0 Z hk hF6) w hw); h)) ?_
 refine wq Z (QV.not Z Z) ?_
 refine nt ?_
 refine WC.cond Z (fun h21 => ?_) (fun h21 => ?_)
 ·skip
  have hm22 := br_t h21 hm20; clear hm20
  refine sk (WQ.then (WC.block (WC.region ?_)))
  refine wm Z ?_
  obtain ⟨c23, hm24⟩ := cs hm22; clear hm22
  refine wq Z (QV.add Z Z Z Z c23) ?_
  refine wa Z ?_
  refine WL.nil (WQ.block ?_)
  exact WQ.again1 (pace6_1 + 1) m14 (up_next hm24 hn17) (Nat.lt_succ_self _) ⟨Z, Z, Z, trivial⟩ (fun w hw => hw.pick [0, 1, 2] (by decide))
 have hm25 := br_f h21 hm20; clear hm20
 refine WC.exit (te (te (WQ.block_exit ?_)))
 exact WQ.out1 pace6_1 (up_brk hm25 hn17) ⟨Z, Z, Z, trivial⟩ (fun w hw => hw.pick [0, 1, 2] (by decide))
end Go.Proofs.Ytaimbkndebaaiac
end