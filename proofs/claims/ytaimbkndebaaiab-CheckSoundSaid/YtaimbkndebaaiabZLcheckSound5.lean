/- Texts that the law stands on: part 5. -/
import Derived.Test.YtaimbkndebaaiabZLcheckSound4
import Derived.Test.YtaimbkndebaaiabProg
import Derived.KernelRfl
import Derived.Shelf.SlSortCmp.NoneTotal
section
namespace Go.Proofs.Ytaimbkndebaaiab
open Go.Rd
set_option linter.unusedVariables false
set_option linter.unusedSimpArgs false
open TNum TLoop TKern
namespace TKeep
theorem ag192 : AggT Try.prog 192 2 := ⟨_, Try.underlying192, rfl, by kernel_rfl⟩
theorem en133 : Go.Rd.Enters Try.prog 133 := ⟨Try.f133, Try.func133, by kernel_rfl, by kernel_rfl⟩
theorem en134 : Go.Rd.Enters Try.prog 134 := ⟨Try.f134, Try.func134, by kernel_rfl, by kernel_rfl⟩
theorem en135 : Go.Rd.Enters Try.prog 135 := ⟨Try.f135, Try.func135, by kernel_rfl, by kernel_rfl⟩
theorem en144 : Go.Rd.Enters Try.prog 144 := ⟨Try.f144, Try.func144, by kernel_rfl, by kernel_rfl⟩
theorem en147 : Go.Rd.Enters Try.prog 147 := ⟨Try.f147, Try.func147, by kernel_rfl, by kernel_rfl⟩
theorem fd159_0 : FieldT Try.prog 159 0 0 := ⟨_, _, 2, Try.underlying159, rfl, rfl, by kernel_rfl⟩
theorem fd159_1 : FieldT Try.prog 159 1 3 := ⟨_, _, 0, Try.underlying159, rfl, rfl, by kernel_rfl⟩
theorem fd159_2 : FieldT Try.prog 159 2 4 := ⟨_, _, 0, Try.underlying159, rfl, rfl, by kernel_rfl⟩
theorem fd159_3 : FieldT Try.prog 159 3 5 := ⟨_, _, 0, Try.underlying159, rfl, rfl, by kernel_rfl⟩
theorem fd159_4 : FieldT Try.prog 159 4 6 := ⟨_, _, 0, Try.underlying159, rfl, rfl, by kernel_rfl⟩
theorem fd159_5 : FieldT Try.prog 159 5 7 := ⟨_, _, 0, Try.underlying159, rfl, rfl, by kernel_rfl⟩
theorem fd192_0 : FieldT Try.prog 192 0 0 := ⟨_, _, 0, Try.underlying192, rfl, rfl, by kernel_rfl⟩
theorem fd192_1 : FieldT Try.prog 192 1 1 := ⟨_, _, 0, Try.underlying192, rfl, rfl, by kernel_rfl⟩
theorem kt3 : KeyT Try.prog 3 kI := KeyT.int Try.underlying3
theorem mt180 : MapT Try.prog 180 3 4 := Try.underlying180
theorem pl4 : Plain Try.prog 4 := ⟨_, Try.underlying4, rfl⟩
theorem sl181 : SliceT Try.prog 181 192 2 := ⟨Try.underlying181, by kernel_rfl⟩
theorem sz192 : SizeT Try.prog 192 2 := by unfold SizeT; kernel_rfl
theorem sz_181 : SliceZ Try.prog 181 192 2 [.int .i64 0, .bool false] := ⟨Try.underlying181, by kernel_rfl⟩
theorem ve181 : VecT Try.prog 181 192 2 16 := ⟨Try.underlying181, by kernel_rfl, by decide⟩
theorem ze192 : ZeroT Try.prog 192 [.int .i64 0, .bool false] := by unfold ZeroT; kernel_rfl
theorem zv4bv : ZVal Try.prog 4 (bv false) := by unfold ZVal; kernel_rfl
end TKeep
open TKeep
set_option maxRecDepth 8000 in
theorem keep_Far_w {v_l_logs : Value} {v_l_body : Value} {v_l_outs : Value} {l : Lp} {a : Int} {r : Int} (w : World) (hm : keep_Far_m l a = some r) (h_l_logs : Arr w v_l_logs 1 (l.logs.map icell)) (h_l_body : Arr w v_l_body 9 (l.body.map Stm.cells)) (h_l_outs : Arr w v_l_outs 1 (l.outs.map icell)) : Calls Try.prog 135 #[.agg #[v_l_logs, v_l_body, v_l_outs], .int .i64 a] w (fun e w' => e = .returned (.int .i64 r) ∧ Grow w w') := by
 unfold keep_Far_m at hm
 have hk := Base.rfl (w := w)
 refine calls_of_WC (n := 35) (args := [.agg #[v_l_logs, v_l_body, v_l_outs], .int .i64 a]) Try.func135 Z Z (Nat.le_of_ble_eq_true Z) ?_ (Own.startK hk (Own.start w))
 refine sr ?_
 refine WL.effect Z ?_
 refine (EV.boxAgg (by decide) Z Z (fun b1 => ?_))
 refine wa Z ?_
 refine ns ?_
 refine wa Z ?_
 refine nt (WC.seq (sr ?_))
 refine wf fd49_1 Z ?_
 refine wl pl47 Z (Own.cell 0 Z Z) ?_
 refine wq Z (QV.lenS Try.underlying47 Z Z h_l_body.lenMap) ?_
 refine wm Z ?_
 refine nt ?_
 obtain ⟨o2, ho3, hm4⟩ := bd_some hm; clear hm; obtain ⟨n5, ho6⟩ := lp_some ho3
 refine WC.bloop3 (H2 := [blk b1 [v_l_logs, v_l_body, v_l_outs] 49]) (τ := [(1, (true, _)), (11, (true, _)), (12, (true, _))]) (fun (far5_3 : Int) (x13_3 : Int) (k_3 : World) => [(5, (true, .int .i64 far5_3)), (13, (true, .int .i64 x13_3))]) (fun far5_3 x13_3 k_3 => [kn noM w.heap.size w k_3]) (fun far5_3 x13_3 k_3 m => iter (keep_Far_L0 l a) m (far5_3, x13_3) = some o2 ∧ Le w k_3) (fun far5_3 x13_3 k_3 => o2 = .go (far5_3, x13_3) ∧ Le w k_3) 0 0 w n5 ⟨ho6, (Le.refl _)⟩ ⟨Z, Z, Z, Z, Z, trivial⟩ (fun w hw => hw.pick [1, 0] (by decide)) ?_ ?_
 ·skip
  rintro far5_3 x13_3 k_3 ⟨rfl, hle_3⟩
  refine WQ.then (sr ?_)
  refine wm Z ?_
  refine wa Z ?_
  refine nt (WC.ret ?_)
  obtain rfl := (eq_of_some hm4).symm
  refine WQ.ret1 Z Z (fun w hw => ?_)
  exact ⟨Z, Own.kgrow (fun _ x => x) hw⟩
 rintro far5_3 x13_3 k_3 m7 ⟨hI8, hle_3⟩
 obtain ⟨m9, s10, rfl, hm11, hn12⟩ := iter_step hI8; clear hI8; unfold keep_Far_L0 at hm11; simp only at hm11
 refine sr ?_
 refine wq Z (QV.lss Z Z Z Z) ?_
 refine nt (WC.seq ?_)
 refine WC.cond Z (fun h13 => ?_) (fun h13 => ?_)
 ·skip
  have hm14 := br_t h13 hm11; clear hm11
  refine sk (WQ.then (WC.seq (WC.block (sr ?_))))
  obtain ⟨c15, hm16⟩ := cs hm14; clear hm14
  obtain ⟨p17, hp18⟩ := (h_l_body.le hle_3).lenMap.ix (sz := 9) ln_len c15
  refine wq Z (QV.indexSlice sl47 Z Z Z Z hp18) ?_
  refine wq Z (QV.loadAgg ag59 Z Z Z (fun w hw => ((Own.karr 0 Z hk (h_l_body.le hle_3)) w hw).ele hp18 c15)) ?_
  refine WL.effect Z ?_
  refine (EV.alloc (by decide) ze59 (fun b19 => ?_))
  refine WL.effect Z ?_
  refine (EV.store 0 Z Z Z Z Z Z (vs := (Stm.cells (ele l.body x13_3))) (show Value.cells _ = List.toArray _ from Z) sz59 (Nat.le_of_ble_eq_true Z) (one_cons Z (one_cons Z (one_cons Z (one_cons Z (one_cons Z (one_cons Z (one_cons Z (one_cons Z (one_cons Z one_nil))))))))) ?_)
  refine ns ?_
  refine wq Z (QV.loadAgg ag59 Z Z Z (Own.cellsBlk 0 Z)) ?_
  refine WL.effect Z ?_
  obtain ⟨x20, hx21, hm22⟩ := bd_some hm16; clear hm16
  refine EV.of (C' := Own noM w [kn noM w.heap.size w k_3, blk b19 (Stm.cells (ele l.body x13_3)) 59, blk b1 [v_l_logs, v_l_body, v_l_outs] 49]) (fun w hw => hw.pick [1, 0, 2] (by decide)) ?_
  refine (EV.callR (X := Value × World) (R := []) (fun X => X.1) (fun X => []) (fun X => X.2) (fun X => Arr X.2 X.1 2 (x20.map Rf.cells)) hk (fun _ h => by cases h; decide) en62 (EvAll.cons Z Z EvAll.nil) (fun M w h1 h2 => have h := loop_Uses_w hx21  M w h1 h2; h) (fun X23 hF23 hle23 => ?_))
  refine wq Z (QV.lenS Try.underlying106 Z Z hF23.lenMap) ?_
  refine wm Z ?_
  refine nt ?_
  obtain ⟨o24, ho25, hm26⟩ := bd_some hm22; clear hm22; obtain ⟨n27, ho28⟩ := lp_some ho25
  refine WC.bloop2 (H2 := [kn noM w.heap.size w X23.2, blk b19 (Stm.cells (ele l.body x13_3)) 59, blk b1 [v_l_logs, v_l_body, v_l_outs] 49]) (τ := [(1, (true, _)), (11, (true, _)), (12, (true, _)), (13, (true, _)), (18, (true, _)), (19, (true, _))]) (fun (far5_4 : Int) (x20_4 : Int) => [(5, (true, .int .i64 far5_4)), (20, (true, .int .i64 x20_4))]) (fun far5_4 x20_4 => []) (fun far5_4 x20_4 m => iter (keep_Far_L2 a x20) m (far5_4, x20_4) = some o24) (fun far5_4 x20_4 => o24 = .go (far5_4, x20_4)) far5_3 0 n27 ho28 ⟨Z, Z, Z, Z, Z, Z, Z, Z, trivial⟩ (fun w hw => hw.pick [0, 1, 2] (by decide)) ?_ ?_
  ·skip
   rintro far5_4 x20_4 rfl
   refine WQ.block (WQ.then (WC.region ?_))
   obtain ⟨c29, hm30⟩ := cs hm26; clear hm26
   refine wq Z (QV.add Z Z Z Z c29) ?_
   refine wm Z ?_
   refine WL.nil ?_
   exact WQ.again3 far5_4 (x13_3 + 1) X23.2 m9 ⟨up_next hm30 hn12, (hle_3.trans hle23)⟩ (Nat.lt_succ_self _) ⟨Z, Z, Z, Z, Z, trivial⟩ (fun w hw => hw.pick [0, 2] (by decide))
  rintro far5_4 x20_4 m31 hI32
  obtain ⟨m33, s34, rfl, hm35, hn36⟩ := iter_step hI32; clear hI32; unfold keep_Far_L2 at hm35; simp only at hm35
  refine sr ?_
  refine wq Z (QV.lss Z Z Z Z) ?_
  refine nt (WC.seq ?_)
  refine WC.cond Z (fun h37 => ?_) (fun h37 => ?_)
  ·skip
   have hm38 := br_t h37 hm35; clear hm35
   refine sk (WQ.then (WC.seq (WC.block (sr ?_))))
   obtain ⟨c39, hm40⟩ := cs hm38; clear hm38
   obtain ⟨p41, hp42⟩ := hF23.lenMap.ix (sz := 2) ln_len c39
   refine wq Z (QV.indexSlice sl106 Z Z Z Z hp42) ?_
   refine wq Z (QV.loadAgg ag57 Z Z Z (fun w hw => ((Own.karr 0 Z hk hF23) w hw).ele hp42 c39)) ?_
   refine WL.effect Z ?_
   refine (EV.alloc (by decide) ze57 (fun b43 => ?_))
   refine WL.effect Z ?_
   refine (EV.store 0 Z Z Z Z Z Z (vs := [.int .i64 ((ele x20 x20_4).st), .int .i64 ((ele x20 x20_4).bk)]) (show Value.cells _ = List.toArray _ from Z) sz57 (Nat.le_of_ble_eq_true Z) (one_cons Z (one_cons Z one_nil)) ?_)
   refine ns ?_
   refine wf fd57_0 Z ?_
   refine wl pl3 Z (Own.cell 0 Z Z) ?_
   refine wm Z ?_
   refine wq Z (QV.eql Z Z Z Z) ?_
   refine nt ?_
   refine WC.cond Z (fun h44 => ?_) (fun h44 => ?_)
   ·skip
    have hm45 := br_t h44 hm40; clear hm40
    refine WC.region ?_
    refine wm Z ?_
    refine wf fd57_1 Z ?_
    refine wl pl3 Z (Own.cell 0 Z Z) ?_
    refine wq Z (QV.max2 Z Z Z Z) ?_
    refine wa Z ?_
    refine WL.nil (WQ.block (WQ.then (WC.region ?_)))
    obtain ⟨c46, hm47⟩ := cs hm45; clear hm45
    refine wq Z (QV.add Z Z Z Z c46) ?_
    refine wm Z ?_
    refine WL.nil ?_
    exact WQ.again2 (max far5_4 ((ele x20 x20_4).bk)) (x20_4 + 1) m33 (up_next hm47 hn36) (Nat.lt_succ_self _) ⟨Z, Z, Z, Z, Z, Z, Z, Z, trivial⟩ (fun w hw => hw.pick [1, 2, 3] (by decide))
   have hm48 := br_f h44 hm40; clear hm40
   refine sk (WQ.block (WQ.then (WC.region ?_)))
   obtain ⟨c49, hm50⟩ := cs hm48; clear hm48
   refine wq Z (QV.add Z Z Z Z c49) ?_
   refine wm Z ?_
   refine WL.nil ?_
   exact WQ.again2 far5_4 (x20_4 + 1) m33 (up_next hm50 hn36) (Nat.lt_succ_self _) ⟨Z, Z, Z, Z, Z, Z, Z, Z, trivial⟩ (fun w hw => hw.pick [1, 2, 3] (by decide))
  have hm51 := br_f h37 hm35; clear hm35
  refine WC.exit (te (te (WQ.block_exit ?_)))
  exact WQ.out2 far5_4 x20_4 (up_brk hm51 hn36) ⟨Z, Z, Z, Z, Z, Z, Z, Z, trivial⟩ (fun w hw => hw.pick [0, 1, 2] (by decide))
 have hm52 := br_f h13 hm11; clear hm11
 refine WC.exit (te (te (WQ.block_exit ?_)))
 exact WQ.out3 far5_3 x13_3 k_3 ⟨up_brk hm52 hn12, hle_3⟩ ⟨Z, Z, Z, Z, Z, trivial⟩ (fun w hw => hw.pick [0, 1] (by decide))

set_option maxRecDepth 8000 in
theorem slices_Index___int_int__w {v_s : Value} {s : List Int} {v : Int} {r : Int} (w : World) (hm : slices_Index___int_int__m s v = some r) (h_s : Arr w v_s 1 (s.map icell)) : Calls Try.prog 147 #[v_s, .int .i64 v] w (fun e w' => e = .returned (.int .i64 r) ∧ Grow w w') := by
 unfold slices_Index___int_int__m at hm
 have hk := Base.rfl (w := w)
 refine calls_of_WC (n := 19) (args := [v_s, .int .i64 v]) Try.func147 Z Z (Nat.le_of_ble_eq_true Z) ?_ (Own.startK hk (Own.start w))
 refine sr ?_
 refine wa Z ?_
 refine nt (WC.seq (sr ?_))
 refine wm Z ?_
 refine wq Z (QV.lenS Try.underlying30 Z Z h_s.lenMap) ?_
 refine wm Z ?_
 refine nt ?_
 obtain ⟨o1, ho2, hm3⟩ := bd_some hm; clear hm; obtain ⟨n4, ho5⟩ := lp_some ho2
 refine WC.bloop1 (H2 := [kn noM w.heap.size w w]) (τ := [(0, (true, _)), (1, (true, _)), (7, (true, _))]) (fun (x8_1 : Int) => [(8, (true, .int .i64 x8_1))]) (fun x8_1 => []) (fun x8_1 m => iter (slices_Index___int_int__L0 s v) m x8_1 = some o1) (fun x8_1 => o1 = .go x8_1) 0 n4 ho5 ⟨Z, Z, Z, Z, trivial⟩ (fun w hw => hw.pick [0] (by decide)) ?_ ?_
 ·skip
  rintro x8_1 rfl
  refine WQ.then (sr ?_)
  refine wa Z ?_
  refine nt (WC.ret ?_)
  obtain rfl := (eq_of_some hm3).symm
  refine WQ.ret1 Z Z (fun w hw => ?_)
  exact ⟨Z, Own.kgrow (fun _ x => x) hw⟩
 rintro x8_1 m6 hI7
 obtain ⟨m8, s9, rfl, hm10, hn11⟩ := iter_step hI7; clear hI7; unfold slices_Index___int_int__L0 at hm10
 refine sr ?_
 refine wq Z (QV.lss Z Z Z Z) ?_
 refine nt (WC.seq ?_)
 refine WC.cond Z (fun h12 => ?_) (fun h12 => ?_)
 ·skip
  have hm13 := br_t h12 hm10; clear hm10
  refine sk (WQ.then (WC.seq (WC.block (sr ?_))))
  refine wm Z ?_
  refine wa Z ?_
  refine ns ?_
  refine wm Z ?_
  refine wm Z ?_
  refine wm Z ?_
  obtain ⟨c14, hm15⟩ := cs hm13; clear hm13
  obtain ⟨p16, hp17⟩ := h_s.lenMap.ix (sz := 1) ln_len c14
  refine wq Z (QV.indexSlice sl30 Z Z Z Z hp17) ?_
  refine wl pl3 Z (fun w hw => CellsAt.one 0 (((Own.karr 0 Z hk h_s) w hw).ele hp17 c14) Z) ?_
  refine wq Z (QV.eql Z Z Z Z) ?_
  refine nt ?_
  refine WC.cond Z (fun h18 => ?_) (fun h18 => ?_)
  ·skip
   have hm19 := br_t h18 hm15; clear hm15
   refine sr ?_
   refine wm Z ?_
   refine wa Z ?_
   refine nt (WC.ret (kr (tr (tr (kr (tr (tr ?_)))))))
   obtain rfl := up_ret hm19 hn11
   obtain rfl := (eq_of_some hm3).symm
   refine WQ.ret1 Z Z (fun w hw => ?_)
   exact ⟨Z, Own.kgrow (fun _ x => x) hw⟩
  have hm20 := br_f h18 hm15; clear hm15
  refine sk (WQ.block (WQ.then (WC.region ?_)))
  obtain ⟨c21, hm22⟩ := cs hm20; clear hm20
  refine wq Z (QV.add Z Z Z Z c21) ?_
  refine wm Z ?_
  refine WL.nil ?_
  exact WQ.again1 (x8_1 + 1) m8 (up_next hm22 hn11) (Nat.lt_succ_self _) ⟨Z, Z, Z, Z, trivial⟩ (fun w hw => hw.pick [0] (by decide))
 have hm23 := br_f h12 hm10; clear hm10
 refine WC.exit (te (te (WQ.block_exit ?_)))
 exact WQ.out1 x8_1 (up_brk hm23 hn11) ⟨Z, Z, Z, Z, trivial⟩ (fun w hw => hw.pick [0] (by decide))

set_option maxRecDepth 8000 in
theorem slices_Contains___int_int__w {v_s : Value} {s : List Int} {v : Int} {r : Bool} (w : World) (hm : slices_Contains___int_int__m s v = some r) (h_s : Arr w v_s 1 (s.map icell)) : Calls Try.prog 144 #[v_s, .int .i64 v] w (fun e w' => e = .returned (.bool r) ∧ Grow w w') := by
 unfold slices_Contains___int_int__m at hm
 have hk := Base.rfl (w := w)
 refine calls_of_WC (n := 9) (args := [v_s, .int .i64 v]) Try.func144 Z Z (Nat.le_of_ble_eq_true Z) ?_ (Own.startK hk (Own.start w))
 refine sr ?_
 refine wa Z ?_
 refine ns ?_
 refine wm Z ?_
 refine wm Z ?_
 obtain ⟨x1, hx2, hm3⟩ := bd_some hm; clear hm
 refine wq Z (QV.call en147 (EvAll.cons Z Z (EvAll.cons Z Z EvAll.nil)) (fun w hw => have h := slices_Index___int_int__w w hx2 ((Own.karr 0 Z hk h_s) w hw); h)) ?_
 refine wq Z (QV.geq Z Z Z Z) ?_
 refine wa Z ?_
 refine nt (WC.ret ?_)
 obtain rfl := (eq_of_some hm3).symm
 refine WQ.ret1 Z Z (fun w hw => ?_)
 exact ⟨Z, Own.kgrow (fun _ x => x) hw⟩

set_option maxRecDepth 8000 in
theorem keep_Layout_uses_w {p_y : Addr} {v_y_Loop_Logs : Value} {v_y_Loop_Body : Value} {v_y_Loop_Outs : Value} {v_y_Time : Value} {v_y_Ready : Value} {v_y_Places : Value} {y_Loop_Body : List Stm} {y_Pace : Int} {y_Regs : Int} {y_Time : List Int} {a : Int} {r : List Use} {K0 : World} (hm : keep_Layout_uses_m y_Loop_Body y_Pace y_Regs y_Time a = some r) (h_y_Loop_Body : Arr K0 v_y_Loop_Body 9 (y_Loop_Body.map Stm.cells)) (h_y_Time : Arr K0 v_y_Time 1 (y_Time.map icell)) (hp_y : CellsAt K0 p_y [v_y_Loop_Logs, v_y_Loop_Body, v_y_Loop_Outs, .int .i64 y_Pace, .int .i64 y_Regs, v_y_Time, v_y_Ready, v_y_Places] 0) (M : Nat → Prop) (w : World) (hk : Base M K0 w) (hw0 : Own M w [] w) : Calls Try.prog 133 #[.pointer (some p_y), .int .i64 a] w (fun e w' => ∃ X : Value × World, e = .returned (X.1) ∧ Own M w (kn M w.heap.size K0 X.2 :: []) w' ∧ Arr X.2 X.1 2 (r.map Use.cells)) := by
 unfold keep_Layout_uses_m at hm
 refine calls_of_WC (n := 57) (args := [.pointer (some p_y), .int .i64 a]) Try.func133 Z Z (Nat.le_of_ble_eq_true Z) ?_ (Own.startK hk hw0)
 refine sr ?_
 refine wa Z ?_
 refine ns ?_
 refine wa Z ?_
 refine nt (WC.seq (sr ?_))
 refine wm Z ?_
 refine wq Z (QV.nilCheck Z Z) ?_
 refine wf fd159_0 Z ?_
 refine wf fd49_1 Z ?_
 refine wl pl47 Z (fun w hw => CellsAt.one 1 ((Own.kcells 0 Z hk hp_y) w hw) Z) ?_
 refine wq Z (QV.lenS Try.underlying47 Z Z h_y_Loop_Body.lenMap) ?_
 refine wm Z ?_
 refine nt ?_
 refine WK.of (fun w hw => hw.vecNil (E := 192) (sz := 2) (enc := Use.cells)) ?_
 obtain ⟨o2, ho3, hm4⟩ := bd_some hm; clear hm; obtain ⟨n5, ho6⟩ := lp_some ho3
 refine WC.bloop4 (H2 := []) (τ := [(0, (true, _)), (1, (true, _)), (14, (true, _)), (15, (true, _))]) (fun (v1_4 : List Use) (x16_4 : Int) (uv1_4 : Value) (k_4 : World) => [(5, (true, uv1_4)), (16, (true, .int .i64 x16_4))]) (fun v1_4 x16_4 uv1_4 k_4 => [vec uv1_4 192 2 (List.map Use.cells v1_4), kn M w.heap.size K0 k_4]) (fun v1_4 x16_4 uv1_4 k_4 m => iter (keep_Layout_uses_L0 y_Loop_Body y_Pace y_Time a) m (v1_4, x16_4) = some o2 ∧ SliceLen uv1_4 v1_4.length ∧ Le K0 k_4) (fun v1_4 x16_4 uv1_4 k_4 => o2 = .go (v1_4, x16_4) ∧ SliceLen uv1_4 v1_4.length ∧ Le K0 k_4) [] 0 (.slice none 0 0) K0 n5 ⟨ho6, SliceLen.nil, (Le.refl _)⟩ ⟨Z, Z, Z, Z, Z, Z, trivial⟩ (fun w hw => hw.pick [0, 1] (by decide)) ?_ ?_
 ·skip
  rintro v1_4 x16_4 uv1_4 k_4 ⟨rfl, hlv1_4, hle_4⟩
  refine WQ.then (sr ?_)
  refine wm Z ?_
  refine wa Z ?_
  refine nt (WC.ret ?_)
  obtain rfl := (eq_of_some hm4).symm
  refine WK.of (C' := Own M w [kn M w.heap.size K0 k_4, vec uv1_4 192 2 (List.map Use.cells v1_4)]) (fun w hw => hw.pick [1, 0] (by decide)) ?_
  refine WK.freeze hk (fun k7 hle7 hr7 => ?_)
  have hA7 := vec_arr hr7
  refine WQ.ret1 Z Z (fun w hw => ?_)
  exact ⟨(uv1_4, k7), Z, hw.pick [0] (by decide), hA7⟩
 rintro v1_4 x16_4 uv1_4 k_4 m8 ⟨hI9, hlv1_4, hle_4⟩
 obtain ⟨m10, s11, rfl, hm12, hn13⟩ := iter_step hI9; clear hI9; unfold keep_Layout_uses_L0 at hm12; simp only at hm12
 refine sr ?_
 refine wq Z (QV.lss Z Z Z Z) ?_
 refine nt (WC.seq ?_)
 refine WC.cond Z (fun h14 => ?_) (fun h14 => ?_)
 ·skip
  have hm15 := br_t h14 hm12; clear hm12
  refine sk (WQ.then (WC.seq (WC.block (sr ?_))))
  refine wm Z ?_
  obtain ⟨c16, hm17⟩ := cs hm15; clear hm15
  obtain ⟨p18, hp19⟩ := (h_y_Loop_Body.le hle_4).lenMap.ix (sz := 9) ln_len c16
  refine wq Z (QV.indexSlice sl47 Z Z Z Z hp19) ?_
  refine wq Z (QV.loadAgg ag59 Z Z Z (fun w hw => ((Own.karr 1 Z hk (h_y_Loop_Body.le hle_4)) w hw).ele hp19 c16)) ?_
  refine WL.effect Z ?_
  refine (EV.alloc (by decide) ze59 (fun b20 => ?_))
  refine wa Z ?_
  refine WL.effect Z ?_
  refine (EV.store 0 Z Z Z Z Z Z (vs := (Stm.cells (ele y_Loop_Body x16_4))) (show Value.cells _ = List.toArray _ from Z) sz59 (Nat.le_of_ble_eq_true Z) (one_cons Z (one_cons Z (one_cons Z (one_cons Z (one_cons Z (one_cons Z (one_cons Z (one_cons Z (one_cons Z one_nil))))))))) ?_)
  refine ns ?_
  refine wq Z (QV.loadAgg ag59 Z Z Z (Own.cellsBlk 0 Z)) ?_
  refine WL.effect Z ?_
  obtain ⟨x21, hx22, hm23⟩ := bd_some hm17; clear hm17
  refine EV.of (C' := Own M w [kn M w.heap.size K0 k_4, blk b20 (Stm.cells (ele y_Loop_Body x16_4)) 59, vec uv1_4 192 2 (List.map Use.cells v1_4)]) (fun w hw => hw.pick [2, 0, 1] (by decide)) ?_
  refine (EV.callR (X := Value × World) (R := []) (fun X => X.1) (fun X => []) (fun X => X.2) (fun X => Arr X.2 X.1 2 (x21.map Rf.cells)) hk (fun _ h => by cases h; decide) en62 (EvAll.cons Z Z EvAll.nil) (fun M w h1 h2 => have h := loop_Uses_w hx22  M w h1 h2; h) (fun X24 hF24 hle24 => ?_))
  refine wq Z (QV.lenS Try.underlying106 Z Z hF24.lenMap) ?_
  refine wm Z ?_
  refine nt ?_
  obtain ⟨o25, ho26, hm27⟩ := bd_some hm23; clear hm23; obtain ⟨n28, ho29⟩ := lp_some ho26
  refine WC.bloop3 (H2 := [kn M w.heap.size K0 X24.2, blk b20 (Stm.cells (ele y_Loop_Body x16_4)) 59]) (τ := [(0, (true, _)), (1, (true, _)), (6, (true, _)), (14, (true, _)), (15, (true, _)), (16, (true, _)), (22, (true, _)), (23, (true, _))]) (fun (v1_5 : List Use) (x24_5 : Int) (uv1_5 : Value) => [(5, (true, uv1_5)), (24, (true, .int .i64 x24_5))]) (fun v1_5 x24_5 uv1_5 => [vec uv1_5 192 2 (List.map Use.cells v1_5)]) (fun v1_5 x24_5 uv1_5 m => iter (keep_Layout_uses_L2 y_Pace y_Time a x16_4 x21) m (v1_5, x24_5) = some o25 ∧ SliceLen uv1_5 v1_5.length) (fun v1_5 x24_5 uv1_5 => o25 = .go (v1_5, x24_5) ∧ SliceLen uv1_5 v1_5.length) v1_4 0 uv1_4 n28 ⟨ho29, hlv1_4⟩ ⟨Z, Z, Z, Z, Z, Z, Z, Z, Z, Z, trivial⟩ (fun w hw => hw.pick [2, 0, 1] (by decide)) ?_ ?_
  ·skip
   rintro v1_5 x24_5 uv1_5 ⟨rfl, hlv1_5⟩
   refine WQ.block (WQ.then (WC.region ?_))
   obtain ⟨c30, hm31⟩ := cs hm27; clear hm27
   refine wq Z (QV.add Z Z Z Z c30) ?_
   refine wm Z ?_
   refine WL.nil ?_
   exact WQ.again4 v1_5 (x16_4 + 1) uv1_5 X24.2 m10 ⟨up_next hm31 hn13, hlv1_5, (hle_4.trans hle24)⟩ (Nat.lt_succ_self _) ⟨Z, Z, Z, Z, Z, Z, trivial⟩ (fun w hw => hw.pick [0, 1] (by decide))
  rintro v1_5 x24_5 uv1_5 m32 ⟨hI33, hlv1_5⟩
  obtain ⟨m34, s35, rfl, hm36, hn37⟩ := iter_step hI33; clear hI33; unfold keep_Layout_uses_L2 at hm36; simp only at hm36
  refine sr ?_
  refine wq Z (QV.lss Z Z Z Z) ?_
  refine nt (WC.seq ?_)
  refine WC.cond Z (fun h38 => ?_) (fun h38 => ?_)
  ·skip
   have hm39 := br_t h38 hm36; clear hm36
   refine sk (WQ.then (WC.seq (WC.block (sr ?_))))
   obtain ⟨c40, hm41⟩ := cs hm39; clear hm39
   obtain ⟨p42, hp43⟩ := hF24.lenMap.ix (sz := 2) ln_len c40
   refine wq Z (QV.indexSlice sl106 Z Z Z Z hp43) ?_
   refine wq Z (QV.loadAgg ag57 Z Z Z (fun w hw => ((Own.karr 1 Z hk hF24) w hw).ele hp43 c40)) ?_
   refine WL.effect Z ?_
   refine (EV.alloc (by decide) ze57 (fun b44 => ?_))
   refine WL.effect Z ?_
   refine (EV.store 0 Z Z Z Z Z Z (vs := [.int .i64 ((ele x21 x24_5).st), .int .i64 ((ele x21 x24_5).bk)]) (show Value.cells _ = List.toArray _ from Z) sz57 (Nat.le_of_ble_eq_true Z) (one_cons Z (one_cons Z one_nil)) ?_)
   refine ns ?_
   refine wf fd57_0 Z ?_
   refine wl pl3 Z (Own.cell 0 Z Z) ?_
   refine wm Z ?_
   refine wq Z (QV.eql Z Z Z Z) ?_
   refine nt ?_
   refine WC.cond Z (fun h45 => ?_) (fun h45 => ?_)
   ·skip
    have hm46 := br_t h45 hm41; clear hm41
    refine WC.dr (m := 23) (S := Own M w [kn M w.heap.size K0 X24.2, blk b44 [.int .i64 ((ele x21 x24_5).st), .int .i64 ((ele x21 x24_5).bk)] 57, blk b20 (Stm.cells (ele y_Loop_Body x16_4)) 59]) (by kernel_rfl) (by kernel_rfl) (fun w hw => hw.pick [2, 0, 3] (by decide)) ?_
    refine wz 0 Z Z (QV.move Z Z) ?_
    refine wz 1 Z Z (QV.move Z Z) ?_
    refine wz 2 Z Z (QV.nilCheck Z Z) ?_
    refine wz 3 Z Z (QV.fieldAddr fd159_3 Z Z) ?_
    refine wz 4 Z Z (QV.load pl30 Z Z (fun w hw => CellsAt.one 5 ((Own.kcells 0 Z hk (hp_y.le (hle_4.trans hle24))) w hw) Z)) ?_
    refine wz 5 Z Z (QV.move Z Z) ?_
    obtain ⟨c47, hm48⟩ := cs hm46; clear hm46
    obtain ⟨p49, hp50⟩ := (h_y_Time.le (hle_4.trans hle24)).lenMap.ix (sz := 1) ln_len c47
    refine wz 6 Z Z (QV.indexSlice sl30 Z Z Z Z hp50) ?_
    refine wz 7 Z Z (QV.load pl3 Z Z (fun w hw => CellsAt.one 0 (((Own.karr 0 Z hk (h_y_Time.le (hle_4.trans hle24))) w hw).ele hp50 c47) Z)) ?_
    refine wz 8 Z Z (QV.fieldAddr fd57_1 Z Z) ?_
    refine wz 9 Z Z (QV.load pl3 Z Z (Own.cell 1 Z Z)) ?_
    refine wz 10 Z Z (QV.move Z Z) ?_
    refine wz 11 Z Z (QV.nilCheck Z Z) ?_
    refine wz 12 Z Z (QV.fieldAddr fd159_1 Z Z) ?_
    refine wz 13 Z Z (QV.load pl3 Z Z (fun w hw => CellsAt.one 3 ((Own.kcells 0 Z hk (hp_y.le (hle_4.trans hle24))) w hw) Z)) ?_
    obtain ⟨c51, hm52⟩ := cs hm48; clear hm48
    refine wz 14 Z Z (QV.mul Z Z Z Z c51) ?_
    obtain ⟨c53, hm54⟩ := cs hm52; clear hm52
    refine wz 15 Z Z (QV.add Z Z Z Z c53) ?_
    refine wz 16 Z Z (QV.fieldAddr fd57_1 Z Z) ?_
    refine wz 17 Z Z (QV.load pl3 Z Z (Own.cell 1 Z Z)) ?_
    refine wz 18 Z Z (QV.gtr Z Z Z Z) ?_
    refine wz 19 Z Z (QV.build (ps := [(0, .tmp 47), (1, .tmp 50)]) (cells := [.int .i64 ((ele y_Time x16_4) + ((ele x21 x24_5).bk * y_Pace)), .bool (decide ((ele x21 x24_5).bk > 0))]) (EvAll.cons Z Z (EvAll.cons Z Z EvAll.nil)) (by kernel_rfl)) ?_
    refine WD.o 20 Z (by kernel_rfl) Z ?_
    refine (EV.buildSlice (by decide) sz_181 (by decide) (by decide) (ps := [(0, .tmp 51)]) (cells := [.int .i64 ((ele y_Time x16_4) + ((ele x21 x24_5).bk * y_Pace)), .bool (decide ((ele x21 x24_5).bk > 0))]) (EvAll.cons Z Z EvAll.nil) (by kernel_rfl) (fun b55 => ?_))
    refine WD.b (H' := [kn M w.heap.size K0 X24.2, blk b55 [.int .i64 ((ele y_Time x16_4) + ((ele x21 x24_5).bk * y_Pace)), .bool (decide ((ele x21 x24_5).bk > 0))] 192, blk b44 [.int .i64 ((ele x21 x24_5).st), .int .i64 ((ele x21 x24_5).bk)] 57, blk b20 (Stm.cells (ele y_Loop_Body x16_4)) 59]) (fun w hw => hw.pick [3, 0, 1, 4] (by decide)) (fun w hw => hw.pick [0, 2, 3] (by decide)) ?_
    refine WD.o 21 Z (by kernel_rfl) Z ?_
    obtain ⟨c56, hm57⟩ := cs hm54; clear hm54
    refine (EV.appendL (enc := Use.cells) (xs := v1_5) (ys := [(Use.mk ((ele y_Time x16_4) + ((ele x21 x24_5).bk * y_Pace)) (decide ((ele x21 x24_5).bk > 0)))]) ((v1_5 ++ [(Use.mk ((ele y_Time x16_4) + ((ele x21 x24_5).bk * y_Pace)) (decide ((ele x21 x24_5).bk > 0)))])) 2 (by decide) ve181 Z Z Z Z Z (Own.blkArr 0 (rows := [(Use.mk ((ele y_Time x16_4) + ((ele x21 x24_5).bk * y_Pace)) (decide ((ele x21 x24_5).bk > 0)))].map Use.cells) Z Z (rows_len Use.cells_len)) Use.cells_len (Use.cells_one _) Z c56.1 c56.2 (fun u58 hu59 => ?_))
    refine WD.b (H' := [kn M w.heap.size K0 X24.2, blk b55 [.int .i64 ((ele y_Time x16_4) + ((ele x21 x24_5).bk * y_Pace)), .bool (decide ((ele x21 x24_5).bk > 0))] 192, blk b44 [.int .i64 ((ele x21 x24_5).st), .int .i64 ((ele x21 x24_5).bk)] 57, vec u58 192 2 (List.map Use.cells (v1_5 ++ [(Use.mk ((ele y_Time x16_4) + ((ele x21 x24_5).bk * y_Pace)) (decide ((ele x21 x24_5).bk > 0)))])), blk b20 (Stm.cells (ele y_Loop_Body x16_4)) 59]) (fun w hw => hw.pick [3, 0, 1, 2, 4] (by decide)) (fun w hw => hw.pick [0, 1, 2, 4] (by decide)) ?_
    refine wz 22 Z Z (QV.assign Z Z) ?_
    refine WD.e (by kernel_rfl) ?_
    refine WQ.block (WQ.then (WC.region ?_))
    obtain ⟨c60, hm61⟩ := cs hm57; clear hm57
    refine wq Z (QV.add Z Z Z Z c60) ?_
    refine wm Z ?_
    refine WL.nil ?_
    exact WQ.again3 (v1_5 ++ [(Use.mk ((ele y_Time x16_4) + ((ele x21 x24_5).bk * y_Pace)) (decide ((ele x21 x24_5).bk > 0)))]) (x24_5 + 1) u58 m34 ⟨up_next hm61 hn37, hu59⟩ (Nat.lt_succ_self _) ⟨Z, Z, Z, Z, Z, Z, Z, Z, Z, Z, trivial⟩ (fun w hw => hw.pick [2, 3, 4] (by decide))
   have hm62 := br_f h45 hm41; clear hm41
   refine sk (WQ.block (WQ.then (WC.region ?_)))
   obtain ⟨c63, hm64⟩ := cs hm62; clear hm62
   refine wq Z (QV.add Z Z Z Z c63) ?_
   refine wm Z ?_
   refine WL.nil ?_
   exact WQ.again3 v1_5 (x24_5 + 1) uv1_5 m34 ⟨up_next hm64 hn37, hlv1_5⟩ (Nat.lt_succ_self _) ⟨Z, Z, Z, Z, Z, Z, Z, Z, Z, Z, trivial⟩ (fun w hw => hw.pick [1, 2, 3] (by decide))
  have hm65 := br_f h38 hm36; clear hm36
  refine WC.exit (te (te (WQ.block_exit ?_)))
  exact WQ.out3 v1_5 x24_5 uv1_5 ⟨up_brk hm65 hn37, hlv1_5⟩ ⟨Z, Z, Z, Z, Z, Z, Z, Z, Z, Z, trivial⟩ (fun w hw => hw.pick [0, 1, 2] (by decide))
 have hm66 := br_f h14 hm12; clear hm12
 refine WC.exit (te (te (WQ.block_exit ?_)))
 exact WQ.out4 v1_4 x16_4 uv1_4 k_4 ⟨up_brk hm66 hn13, hlv1_4, hle_4⟩ ⟨Z, Z, Z, Z, Z, Z, trivial⟩ (fun w hw => hw.pick [0, 1] (by decide))

set_option maxRecDepth 8000 in
theorem keep_Layout_bad_w {p_y : Addr} {v_y_Loop_Logs : Value} {v_y_Loop_Body : Value} {v_y_Loop_Outs : Value} {v_y_Time : Value} {v_y_Ready : Value} {v_y_Places : Value} {v_uses : Value} {y_Loop_Outs : List Int} {y_Pace : Int} {y_Regs : Int} {y_Ready : List Int} {a : Int} {m_ : Int} {j : Int} {uses : List Use} {r : Bool} (w : World) (hm : keep_Layout_bad_m y_Loop_Outs y_Pace y_Regs y_Ready a m_ j uses = some r) (h_y_Loop_Outs : Arr w v_y_Loop_Outs 1 (y_Loop_Outs.map icell)) (h_y_Ready : Arr w v_y_Ready 1 (y_Ready.map icell)) (hp_y : CellsAt w p_y [v_y_Loop_Logs, v_y_Loop_Body, v_y_Loop_Outs, .int .i64 y_Pace, .int .i64 y_Regs, v_y_Time, v_y_Ready, v_y_Places] 0) (h_uses : Arr w v_uses 2 (uses.map Use.cells)) : Calls Try.prog 134 #[.pointer (some p_y), .int .i64 a, .int .i64 m_, .int .i64 j, v_uses] w (fun e w' => e = .returned (.bool r) ∧ Grow w w') := by
 unfold keep_Layout_bad_m at hm
 have hk := Base.rfl (w := w)
 refine calls_of_WC (n := 86) (args := [.pointer (some p_y), .int .i64 a, .int .i64 m_, .int .i64 j, v_uses]) Try.func134 Z Z (Nat.le_of_ble_eq_true Z) ?_ (Own.startK hk (Own.start w))
 refine sr ?_
 refine wa Z ?_
 refine nt (WC.seq ?_)
 refine WC.dr (m := 15) (by kernel_rfl) (by kernel_rfl) (fun w hw => hw) ?_
 refine wz 0 Z Z (QV.move Z Z) ?_
 refine wz 1 Z Z (QV.nilCheck Z Z) ?_
 refine wz 2 Z Z (QV.fieldAddr fd159_4 Z Z) ?_
 refine wz 3 Z Z (QV.load pl30 Z Z (fun w hw => CellsAt.one 6 ((Own.kcells 0 Z hk hp_y) w hw) Z)) ?_
 refine wz 4 Z Z (QV.move Z Z) ?_
 obtain ⟨c1, hm2⟩ := cs hm; clear hm
 obtain ⟨p3, hp4⟩ := h_y_Ready.lenMap.ix (sz := 1) ln_len c1
 refine wz 5 Z Z (QV.indexSlice sl30 Z Z Z Z hp4) ?_
 refine wz 6 Z Z (QV.load pl3 Z Z (fun w hw => CellsAt.one 0 (((Own.karr 0 Z hk h_y_Ready) w hw).ele hp4 c1) Z)) ?_
 refine wz 7 Z Z (QV.move Z Z) ?_
 refine wz 8 Z Z (QV.move Z Z) ?_
 refine wz 9 Z Z (QV.nilCheck Z Z) ?_
 refine wz 10 Z Z (QV.fieldAddr fd159_1 Z Z) ?_
 refine wz 11 Z Z (QV.load pl3 Z Z (fun w hw => CellsAt.one 3 ((Own.kcells 0 Z hk hp_y) w hw) Z)) ?_
 obtain ⟨c5, hm6⟩ := cs hm2; clear hm2
 refine wz 12 Z Z (QV.mul Z Z Z Z c5) ?_
 obtain ⟨c7, hm8⟩ := cs hm6; clear hm6
 refine wz 13 Z Z (QV.add Z Z Z Z c7) ?_
 refine wz 14 Z Z (QV.assign Z Z) ?_
 refine WD.e (by kernel_rfl) ?_
 refine WQ.then (WC.seq (sr ?_))
 refine wm Z ?_
 refine wq Z (QV.lenS Try.underlying181 Z Z h_uses.lenMap) ?_
 refine wm Z ?_
 refine nt ?_
 obtain ⟨o9, ho10, hm11⟩ := bd_some hm8; clear hm8; obtain ⟨n12, ho13⟩ := lp_some ho10
 refine WC.bloop1 (H2 := [kn noM w.heap.size w w]) (τ := [(0, (true, _)), (1, (true, _)), (3, (true, _)), (11, (true, _)), (28, (true, _)), (29, (true, _))]) (fun (x30_1 : Int) => [(30, (true, .int .i64 x30_1))]) (fun x30_1 => []) (fun x30_1 m => iter (keep_Layout_bad_L0 y_Pace y_Ready a m_ j uses) m x30_1 = some o9) (fun x30_1 => o9 = .go x30_1) 0 n12 ho13 ⟨Z, Z, Z, Z, Z, Z, Z, trivial⟩ (fun w hw => hw.pick [0] (by decide)) ?_ ?_
 ·skip
  rintro x30_1 rfl
  refine WQ.then (sr ?_)
  refine wm Z ?_
  refine wq Z (QV.leq Z Z Z Z) ?_
  refine wm Z ?_
  refine gp Z (fun hG => QV.move Z Z) ?_
  refine gp Z (fun hG => QV.move Z Z) ?_
  refine gp Z (fun hG => QV.nilCheck Z hG) ?_
  refine gp Z (fun hG => QV.fieldAddr fd159_4 Z hG) ?_
  refine gp Z (fun hG => QV.load pl30 Z hG (fun w hw => CellsAt.one 6 ((Own.kcells 0 Z hk hp_y) w hw) Z)) ?_
  refine gp Z (fun hG => QV.move Z Z) ?_
  obtain ⟨c14, hm15⟩ := cs hm11; clear hm11
  obtain ⟨p16, hp17⟩ := h_y_Ready.lenMap.ixG (sz := 1) ln_len c14
  refine gp Z (fun hG => QV.indexSlice sl30 Z hG Z hG (hp17 hG)) ?_
  refine gp Z (fun hG => QV.load pl3 Z hG (fun w hw => CellsAt.one 0 (((Own.karr 0 Z hk h_y_Ready) w hw).ele (hp17 hG) (c14 hG)) Z)) ?_
  refine gp Z (fun hG => QV.geq Z hG Z hG) ?_
  refine wq Z (QV.pickAnd Z Z Z (fun h => h)) ?_
  refine wm Z ?_
  refine gp Z (fun hG => QV.move Z Z) ?_
  refine gp Z (fun hG => QV.nilCheck Z hG) ?_
  refine gp Z (fun hG => QV.fieldAddr fd159_0 Z hG) ?_
  refine gp Z (fun hG => QV.fieldAddr fd49_2 Z hG) ?_
  refine gp Z (fun hG => QV.load pl30 Z hG (fun w hw => CellsAt.one 2 ((Own.kcells 0 Z hk hp_y) w hw) Z)) ?_
  refine gp Z (fun hG => QV.move Z Z) ?_
  obtain ⟨x18, hx19, hm20⟩ := bdG_some hm15; clear hm15
  refine gp Z (fun hG => QV.call en144 (EvAll.cons Z hG (EvAll.cons Z hG EvAll.nil)) (fun w hw => have h := slices_Contains___int_int__w w (hx19 hG) ((Own.karr 0 Z hk h_y_Loop_Outs) w hw); h)) ?_
  refine wq Z (QV.pickAnd Z Z Z (fun h => h)) ?_
  refine wa Z ?_
  refine nt (WC.ret ?_)
  obtain rfl := (eq_of_some hm20).symm
  refine WQ.ret1 Z Z (fun w hw => ?_)
  exact ⟨Z, Own.kgrow (fun _ x => x) hw⟩
 rintro x30_1 m21 hI22
 obtain ⟨m23, s24, rfl, hm25, hn26⟩ := iter_step hI22; clear hI22; unfold keep_Layout_bad_L0 at hm25
 refine sr ?_
 refine wq Z (QV.lss Z Z Z Z) ?_
 refine nt (WC.seq ?_)
 refine WC.cond Z (fun h27 => ?_) (fun h27 => ?_)
 ·skip
  have hm28 := br_t h27 hm25; clear hm25
  refine sk (WQ.then (WC.seq (WC.block (sr ?_))))
  obtain ⟨c29, hm30⟩ := cs hm28; clear hm28
  obtain ⟨p31, hp32⟩ := h_uses.lenMap.ix (sz := 2) ln_len c29
  refine wq Z (QV.indexSlice sl181 Z Z Z Z hp32) ?_
  refine wq Z (QV.loadAgg ag192 Z Z Z (fun w hw => ((Own.karr 0 Z hk h_uses) w hw).ele hp32 c29)) ?_
  refine WL.effect Z ?_
  refine (EV.alloc (by decide) ze192 (fun b33 => ?_))
  refine WL.effect Z ?_
  refine (EV.store 0 Z Z Z Z Z Z (vs := [.int .i64 ((ele uses x30_1).til), .bool ((ele uses x30_1).later)]) (show Value.cells _ = List.toArray _ from Z) sz192 (Nat.le_of_ble_eq_true Z) (one_cons Z (one_cons Z one_nil)) ?_)
  refine ns ?_
  refine wm Z ?_
  refine wm Z ?_
  refine wq Z (QV.nilCheck Z Z) ?_
  refine wf fd159_4 Z ?_
  refine wl pl30 Z (fun w hw => CellsAt.one 6 ((Own.kcells 1 Z hk hp_y) w hw) Z) ?_
  refine wm Z ?_
  obtain ⟨c34, hm35⟩ := cs hm30; clear hm30
  obtain ⟨p36, hp37⟩ := h_y_Ready.lenMap.ix (sz := 1) ln_len c34
  refine wq Z (QV.indexSlice sl30 Z Z Z Z hp37) ?_
  refine wl pl3 Z (fun w hw => CellsAt.one 0 (((Own.karr 1 Z hk h_y_Ready) w hw).ele hp37 c34) Z) ?_
  refine wq Z (QV.geq Z Z Z Z) ?_
  refine wm Z ?_
  refine gp Z (fun hG => QV.move Z Z) ?_
  refine gp Z (fun hG => QV.fieldAddr fd192_0 Z Z) ?_
  refine gp Z (fun hG => QV.load pl3 Z hG (Own.cell 0 Z Z)) ?_
  refine gp Z (fun hG => QV.leq Z hG Z hG) ?_
  refine wq Z (QV.pickAnd Z Z Z (fun h => h)) ?_
  refine wm Z ?_
  refine gn Z (fun hG => QV.fieldAddr fd192_1 Z Z) ?_
  refine gn Z (fun hG => QV.load pl4 Z hG (Own.cell 0 Z Z)) ?_
  refine gn Z (fun hG => QV.move Z hG) ?_
  refine WL.g Z Z (GuardIs.posC Z Z) (fun hG => QV.move Z Z) ?_
  refine WL.g Z Z (GuardIs.posC Z Z) (fun hG => QV.gtr Z hG Z Z) ?_
  refine gn Z (fun hG => QV.pickAnd Z hG Z (fun h => andT hG h)) ?_
  refine gn Z (fun hG => QV.move Z hG) ?_
  refine WL.g Z Z (GuardIs.posC Z Z) (fun hG => QV.move Z Z) ?_
  refine WL.g Z Z (GuardIs.posC Z Z) (fun hG => QV.fieldAddr fd192_0 Z Z) ?_
  refine WL.g Z Z (GuardIs.posC Z Z) (fun hG => QV.load pl3 Z hG (Own.cell 0 Z Z)) ?_
  refine WL.g Z Z (GuardIs.posC Z Z) (fun hG => QV.leq Z hG Z hG) ?_
  refine gn Z (fun hG => QV.pickAnd Z hG Z (fun h => andT hG h)) ?_
  refine wq Z (QV.pickOr Z Z Z (fun h => notF h)) ?_
  refine nt ?_
  refine WC.cond Z (fun h38 => ?_) (fun h38 => ?_)
  ·skip
   have hm39 := br_t h38 hm35; clear hm35
   refine sr ?_
   refine wa Z ?_
   refine nt (WC.ret (kr (tr (tr (kr (tr (tr ?_)))))))
   obtain rfl := up_ret hm39 hn26
   obtain rfl := (eq_of_some hm11).symm
   refine WQ.ret1 Z Z (fun w hw => ?_)
   exact ⟨Z, Own.kgrow (fun _ x => x) hw⟩
  have hm40 := br_f h38 hm35; clear hm35
  refine sk (WQ.block (WQ.then (WC.region ?_)))
  obtain ⟨c41, hm42⟩ := cs hm40; clear hm40
  refine wq Z (QV.add Z Z Z Z c41) ?_
  refine wm Z ?_
  refine WL.nil ?_
  exact WQ.again1 (x30_1 + 1) m23 (up_next hm42 hn26) (Nat.lt_succ_self _) ⟨Z, Z, Z, Z, Z, Z, Z, trivial⟩ (fun w hw => hw.pick [1] (by decide))
 have hm43 := br_f h27 hm25; clear hm25
 refine WC.exit (te (te (WQ.block_exit ?_)))
 exact WQ.out1 x30_1 (up_brk hm43 hn26) ⟨Z, Z, Z, Z, Z, Z, Z, trivial⟩ (fun w hw => hw.pick [0] (by decide))

set_option maxRecDepth 8000 in
theorem keep_Layout_Apart_w {p_y : Addr} {v_y_Loop_Logs : Value} {v_y_Loop_Body : Value} {v_y_Loop_Outs : Value} {v_y_Time : Value} {v_y_Ready : Value} {v_y_Places : Value} {y_Loop_Body : List Stm} {y_Loop_Outs : List Int} {y_Pace : Int} {y_Regs : Int} {y_Time : List Int} {y_Ready : List Int} {y_Places : List Int} {a : Int} {m_ : Int} {r : Bool} (w : World) (hm : keep_Layout_Apart_m y_Loop_Body y_Loop_Outs y_Pace y_Regs y_Time y_Ready y_Places a m_ = some r) (h_y_Loop_Body : Arr w v_y_Loop_Body 9 (y_Loop_Body.map Stm.cells)) (h_y_Loop_Outs : Arr w v_y_Loop_Outs 1 (y_Loop_Outs.map icell)) (h_y_Time : Arr w v_y_Time 1 (y_Time.map icell)) (h_y_Ready : Arr w v_y_Ready 1 (y_Ready.map icell)) (h_y_Places : Arr w v_y_Places 1 (y_Places.map icell)) (hp_y : CellsAt w p_y [v_y_Loop_Logs, v_y_Loop_Body, v_y_Loop_Outs, .int .i64 y_Pace, .int .i64 y_Regs, v_y_Time, v_y_Ready, v_y_Places] 0) : Calls Try.prog 115 #[.pointer (some p_y), .int .i64 a, .int .i64 m_] w (fun e w' => e = .returned (.bool r) ∧ Grow w w') := by
 unfold keep_Layout_Apart_m at hm
 have hk := Base.rfl (w := w)
 refine calls_of_WC (n := 88) (args := [.pointer (some p_y), .int .i64 a, .int .i64 m_]) Try.func115 Z Z (Nat.le_of_ble_eq_true Z) ?_ (Own.startK hk (Own.start w))
 refine sr ?_
 refine wa Z ?_
 refine ns ?_
 refine wm Z ?_
 refine wm Z ?_
 refine WL.effect Z ?_
 obtain ⟨x1, hx2, hm3⟩ := bd_some hm; clear hm
 refine (EV.callR (X := Value × World) (R := []) (fun X => X.1) (fun X => []) (fun X => X.2) (fun X => Arr X.2 X.1 2 (x1.map Use.cells)) hk (fun _ h => by cases h; decide) en133 (EvAll.cons Z Z (EvAll.cons Z Z EvAll.nil)) (fun M w h1 h2 => have h := keep_Layout_uses_w hx2 h_y_Loop_Body h_y_Time hp_y M w h1 h2; h) (fun X4 hF4 hle4 => ?_))
 refine wa Z ?_
 refine nt (WC.seq ?_)
 refine WC.dr (m := 31) (by kernel_rfl) (by kernel_rfl) (fun w hw => hw) ?_
 refine wz 0 Z Z (QV.move Z Z) ?_
 refine wz 1 Z Z (QV.nilCheck Z Z) ?_
 refine wz 2 Z Z (QV.fieldAddr fd159_5 Z Z) ?_
 refine wz 3 Z Z (QV.load pl30 Z Z (fun w hw => CellsAt.one 7 ((Own.kcells 0 Z hk (hp_y.le hle4)) w hw) Z)) ?_
 refine wz 4 Z Z (QV.move Z Z) ?_
 obtain ⟨c5, hm6⟩ := cs hm3; clear hm3
 obtain ⟨p7, hp8⟩ := (h_y_Places.le hle4).lenMap.ix (sz := 1) ln_len c5
 refine wz 5 Z Z (QV.indexSlice sl30 Z Z Z Z hp8) ?_
 refine wz 6 Z Z (QV.load pl3 Z Z (fun w hw => CellsAt.one 0 (((Own.karr 0 Z hk (h_y_Places.le hle4)) w hw).ele hp8 c5) Z)) ?_
 refine wz 7 Z Z (QV.move Z Z) ?_
 refine wz 8 Z Z (QV.nilCheck Z Z) ?_
 refine wz 9 Z Z (QV.fieldAddr fd159_5 Z Z) ?_
 refine wz 10 Z Z (QV.load pl30 Z Z (fun w hw => CellsAt.one 7 ((Own.kcells 0 Z hk (hp_y.le hle4)) w hw) Z)) ?_
 refine wz 11 Z Z (QV.move Z Z) ?_
 obtain ⟨c9, hm10⟩ := cs hm6; clear hm6
 obtain ⟨p11, hp12⟩ := (h_y_Places.le hle4).lenMap.ix (sz := 1) ln_len c9
 refine wz 12 Z Z (QV.indexSlice sl30 Z Z Z Z hp12) ?_
 refine wz 13 Z Z (QV.load pl3 Z Z (fun w hw => CellsAt.one 0 (((Own.karr 0 Z hk (h_y_Places.le hle4)) w hw).ele hp12 c9) Z)) ?_
 obtain ⟨c13, hm14⟩ := cs hm10; clear hm10
 refine wz 14 Z Z (QV.sub Z Z Z Z c13) ?_
 refine wz 15 Z Z (QV.move Z Z) ?_
 refine wz 16 Z Z (QV.nilCheck Z Z) ?_
 refine wz 17 Z Z (QV.fieldAddr fd159_2 Z Z) ?_
 refine wz 18 Z Z (QV.load pl3 Z Z (fun w hw => CellsAt.one 4 ((Own.kcells 0 Z hk (hp_y.le hle4)) w hw) Z)) ?_
 obtain ⟨c15, hm16⟩ := cs hm14; clear hm14
 refine wz 19 Z Z (QV.rem Z Z Z Z c15) ?_
 refine wz 20 Z Z (QV.move Z Z) ?_
 refine wz 21 Z Z (QV.nilCheck Z Z) ?_
 refine wz 22 Z Z (QV.fieldAddr fd159_2 Z Z) ?_
 refine wz 23 Z Z (QV.load pl3 Z Z (fun w hw => CellsAt.one 4 ((Own.kcells 0 Z hk (hp_y.le hle4)) w hw) Z)) ?_
 obtain ⟨c17, hm18⟩ := cs hm16; clear hm16
 refine wz 24 Z Z (QV.add Z Z Z Z c17) ?_
 refine wz 25 Z Z (QV.move Z Z) ?_
 refine wz 26 Z Z (QV.nilCheck Z Z) ?_
 refine wz 27 Z Z (QV.fieldAddr fd159_2 Z Z) ?_
 refine wz 28 Z Z (QV.load pl3 Z Z (fun w hw => CellsAt.one 4 ((Own.kcells 0 Z hk (hp_y.le hle4)) w hw) Z)) ?_
 obtain ⟨c19, hm20⟩ := cs hm18; clear hm18
 refine wz 29 Z Z (QV.rem Z Z Z Z c19) ?_
 refine wz 30 Z Z (QV.assign Z Z) ?_
 refine WD.e (by kernel_rfl) ?_
 refine WQ.then (sr ?_)
 refine wm Z ?_
 refine wq Z (QV.nilCheck Z Z) ?_
 refine wf fd159_1 Z ?_
 refine wl pl3 Z (fun w hw => CellsAt.one 3 ((Own.kcells 0 Z hk (hp_y.le hle4)) w hw) Z) ?_
 obtain ⟨c21, hm22⟩ := cs hm20; clear hm20
 obtain ⟨c23, hm24⟩ := cs hm22; clear hm22
 refine wq Z (QV.quo Z Z Z Z c21 c23) ?_
 obtain ⟨c25, hm26⟩ := cs hm24; clear hm24
 refine wq Z (QV.add Z Z Z Z c25) ?_
 refine wa Z ?_
 refine nt (WC.seq (WC.seq ?_))
 refine WC.dr (m := 15) (by kernel_rfl) (by kernel_rfl) (fun w hw => hw) ?_
 refine wz 0 Z Z (QV.move Z Z) ?_
 refine wz 1 Z Z (QV.move Z Z) ?_
 refine wz 2 Z Z (QV.move Z Z) ?_
 refine wz 3 Z Z (QV.nilCheck Z Z) ?_
 refine wz 4 Z Z (QV.fieldAddr fd159_2 Z Z) ?_
 refine wz 5 Z Z (QV.load pl3 Z Z (fun w hw => CellsAt.one 4 ((Own.kcells 0 Z hk (hp_y.le hle4)) w hw) Z)) ?_
 obtain ⟨c27, hm28⟩ := cs hm26; clear hm26
 obtain ⟨c29, hm30⟩ := cs hm28; clear hm28
 refine wz 6 Z Z (QV.quo Z Z Z Z c27 c29) ?_
 obtain ⟨c31, hm32⟩ := cs hm30; clear hm30
 refine wz 7 Z Z (QV.add Z Z Z Z c31) ?_
 refine wz 8 Z Z (QV.move Z Z) ?_
 refine wz 9 Z Z (QV.nilCheck Z Z) ?_
 refine wz 10 Z Z (QV.fieldAddr fd159_2 Z Z) ?_
 refine wz 11 Z Z (QV.load pl3 Z Z (fun w hw => CellsAt.one 4 ((Own.kcells 0 Z hk (hp_y.le hle4)) w hw) Z)) ?_
 obtain ⟨c33, hm34⟩ := cs hm32; clear hm32
 refine wz 12 Z Z (QV.mul Z Z Z Z c33) ?_
 obtain ⟨c35, hm36⟩ := cs hm34; clear hm34
 refine wz 13 Z Z (QV.sub Z Z Z Z c35) ?_
 refine wz 14 Z Z (QV.assign Z Z) ?_
 refine WD.e (by kernel_rfl) ?_
 refine WQ.then ?_
 obtain ⟨o37, ho38, hm39⟩ := bd_some hm36; clear hm36; obtain ⟨n40, ho41⟩ := lp_some ho38
 refine WC.bloop1 (H2 := [kn noM w.heap.size w X4.2]) (τ := [(0, (true, _)), (1, (true, _)), (2, (true, _)), (7, (true, _)), (9, (true, _))]) (fun (j10_1 : Int) => [(10, (true, .int .i64 j10_1))]) (fun j10_1 => []) (fun j10_1 m => iter (keep_Layout_Apart_L0 y_Loop_Outs y_Pace y_Regs y_Ready a m_ x1) m j10_1 = some o37) (fun j10_1 => o37 = .go j10_1) ((Int.tmod ((Int.tmod ((ele y_Places a) - (ele y_Places m_)) y_Regs) + y_Regs) y_Regs) - (((Int.tdiv ((Int.tdiv 4000 y_Pace) + 1) y_Regs) + 2) * y_Regs)) n40 ho41 ⟨Z, Z, Z, Z, Z, Z, trivial⟩ (fun w hw => hw.pick [0] (by decide)) ?_ ?_
 ·skip
  rintro j10_1 rfl
  refine WQ.then (sr ?_)
  refine wa Z ?_
  refine nt (WC.ret ?_)
  obtain rfl := (eq_of_some hm39).symm
  refine WQ.ret1 Z Z (fun w hw => ?_)
  exact ⟨Z, Own.kgrow (fun _ x => x) hw⟩
 rintro j10_1 m42 hI43
 obtain ⟨m44, s45, rfl, hm46, hn47⟩ := iter_step hI43; clear hI43; unfold keep_Layout_Apart_L0 at hm46
 refine WC.seq (sr ?_)
 refine wm Z ?_
 refine wm Z ?_
 refine wq Z (QV.leq Z Z Z Z) ?_
 refine nt ?_
 refine WC.cond Z (fun h48 => ?_) (fun h48 => ?_)
 ·skip
  have hm49 := br_t h48 hm46; clear hm46
  refine sk (WQ.then (WC.seq (WC.block (sr ?_))))
  refine wm Z ?_
  refine wm Z ?_
  refine wq Z (QV.neq Z Z Z Z) ?_
  refine wm Z ?_
  refine gn Z (fun hG => QV.move Z Z) ?_
  refine gn Z (fun hG => QV.neq Z hG Z Z) ?_
  refine wq Z (QV.pickOr Z Z Z (fun h => notF h)) ?_
  refine wm Z ?_
  refine gp Z (fun hG => QV.move Z Z) ?_
  refine gp Z (fun hG => QV.move Z Z) ?_
  refine gp Z (fun hG => QV.move Z Z) ?_
  refine gp Z (fun hG => QV.move Z Z) ?_
  refine gp Z (fun hG => QV.move Z Z) ?_
  obtain ⟨x50, hx51, hm52⟩ := bdG_some hm49; clear hm49
  refine gp Z (fun hG => QV.call en134 (EvAll.cons Z hG (EvAll.cons Z hG (EvAll.cons Z hG (EvAll.cons Z hG (EvAll.cons Z hG EvAll.nil))))) (fun w hw => have h := keep_Layout_bad_w w (hx51 hG) ((Own.karr 0 Z hk (h_y_Loop_Outs.le hle4)) w hw) ((Own.karr 0 Z hk (h_y_Ready.le hle4)) w hw) (Own.kcells 0 Z hk (hp_y.le hle4) w hw) ((Own.karr 0 Z hk hF4) w hw); h)) ?_
  refine wq Z (QV.pickAnd Z Z Z (fun h => h)) ?_
  refine nt ?_
  refine WC.cond Z (fun h53 => ?_) (fun h53 => ?_)
  ·skip
   have hm54 := br_t h53 hm52; clear hm52
   refine sr ?_
   refine wa Z ?_
   refine nt (WC.ret (kr (tr (tr (kr (tr (tr ?_)))))))
   obtain rfl := up_ret hm54 hn47
   obtain rfl := (eq_of_some hm39).symm
   refine WQ.ret1 Z Z (fun w hw => ?_)
   exact ⟨Z, Own.kgrow (fun _ x => x) hw⟩
  have hm55 := br_f h53 hm52; clear hm52
  refine sk (WQ.block (WQ.then (WC.region ?_)))
  refine wm Z ?_
  refine wm Z ?_
  refine wq Z (QV.nilCheck Z Z) ?_
  refine wf fd159_2 Z ?_
  refine wl pl3 Z (fun w hw => CellsAt.one 4 ((Own.kcells 0 Z hk (hp_y.le hle4)) w hw) Z) ?_
  obtain ⟨c56, hm57⟩ := cs hm55; clear hm55
  refine wq Z (QV.add Z Z Z Z c56) ?_
  refine wa Z ?_
  refine WL.nil ?_
  exact WQ.again1 (j10_1 + y_Regs) m44 (up_next hm57 hn47) (Nat.lt_succ_self _) ⟨Z, Z, Z, Z, Z, Z, trivial⟩ (fun w hw => hw.pick [0] (by decide))
 have hm58 := br_f h48 hm46; clear hm46
 refine WC.exit (te (te (WQ.block_exit ?_)))
 exact WQ.out1 j10_1 (up_brk hm58 hn47) ⟨Z, Z, Z, Z, Z, Z, trivial⟩ (fun w hw => hw.pick [0] (by decide))

set_option maxRecDepth 8000 in
theorem keep_Layout_Firsts_w {p_y : Addr} {v_y_Loop_Logs : Value} {v_y_Loop_Body : Value} {v_y_Loop_Outs : Value} {v_y_Time : Value} {v_y_Ready : Value} {v_y_Places : Value} {v_l : Value} {y_Loop_Logs : List Int} {y_Loop_Body : List Stm} {y_Loop_Outs : List Int} {y_Pace : Int} {y_Regs : Int} {y_Places : List Int} {l : List Int} {r : Bool} (w : World) (hm : keep_Layout_Firsts_m y_Loop_Logs y_Loop_Body y_Loop_Outs y_Pace y_Regs y_Places l = some r) (h_y_Loop_Logs : Arr w v_y_Loop_Logs 1 (y_Loop_Logs.map icell)) (h_y_Loop_Body : Arr w v_y_Loop_Body 9 (y_Loop_Body.map Stm.cells)) (h_y_Loop_Outs : Arr w v_y_Loop_Outs 1 (y_Loop_Outs.map icell)) (h_y_Places : Arr w v_y_Places 1 (y_Places.map icell)) (hp_y : CellsAt w p_y [v_y_Loop_Logs, v_y_Loop_Body, v_y_Loop_Outs, .int .i64 y_Pace, .int .i64 y_Regs, v_y_Time, v_y_Ready, v_y_Places] 0) (h_l : Arr w v_l 1 (l.map icell)) : Calls Try.prog 116 #[.pointer (some p_y), v_l] w (fun e w' => e = .returned (.bool r) ∧ Grow w w') := by
 unfold keep_Layout_Firsts_m at hm
 have hk := Base.rfl (w := w)
 refine calls_of_WC (n := 58) (args := [.pointer (some p_y), v_l]) Try.func116 Z Z (Nat.le_of_ble_eq_true Z) ?_ (Own.startK hk (Own.start w))
 refine sr ?_
 refine wa Z ?_
 refine ns ?_
 refine WL.effect Z ?_
 refine (EV.makeMap (ke := kI) (ve := bv) (by decide) (fun b1 => ?_))
 refine wa Z ?_
 refine nt (WC.seq (sr ?_))
 refine wm Z ?_
 refine wq Z (QV.lenS Try.underlying30 Z Z h_l.lenMap) ?_
 refine wm Z ?_
 refine nt ?_
 obtain ⟨o2, ho3, hm4⟩ := bd_some hm; clear hm; obtain ⟨n5, ho6⟩ := lp_some ho3
 refine WC.bloop2 (H2 := [kn noM w.heap.size w w]) (τ := [(0, (true, _)), (5, (true, _)), (11, (true, _)), (12, (true, _))]) (fun (m1n_3 : List (Int × Bool)) (x13_3 : Int) => [(13, (true, .int .i64 x13_3))]) (fun m1n_3 x13_3 => [mapR b1 kI bv m1n_3]) (fun m1n_3 x13_3 m => iter (keep_Layout_Firsts_L0 y_Loop_Logs y_Loop_Body y_Loop_Outs y_Regs y_Places l) m (m1n_3, x13_3) = some o2) (fun m1n_3 x13_3 => o2 = .go (m1n_3, x13_3)) ([] : List (Int × Bool)) 0 n5 ho6 ⟨Z, Z, Z, Z, Z, trivial⟩ (fun w hw => hw.pick [0, 1] (by decide)) ?_ ?_
 ·skip
  rintro m1n_3 x13_3 rfl
  refine WQ.then (sr ?_)
  refine wa Z ?_
  refine nt (WC.ret ?_)
  obtain rfl := (eq_of_some hm4).symm
  refine WQ.ret1 Z Z (fun w hw => ?_)
  exact ⟨Z, Own.kgrow (fun _ x => x) hw⟩
 rintro m1n_3 x13_3 m7 hI8
 obtain ⟨m9, s10, rfl, hm11, hn12⟩ := iter_step hI8; clear hI8; unfold keep_Layout_Firsts_L0 at hm11; simp only at hm11
 refine sr ?_
 refine wq Z (QV.lss Z Z Z Z) ?_
 refine nt (WC.seq ?_)
 refine WC.cond Z (fun h13 => ?_) (fun h13 => ?_)
 ·skip
  have hm14 := br_t h13 hm11; clear hm11
  refine sk (WQ.then (WC.seq (WC.block (sr ?_))))
  obtain ⟨c15, hm16⟩ := cs hm14; clear hm14
  obtain ⟨p17, hp18⟩ := h_l.lenMap.ix (sz := 1) ln_len c15
  refine wq Z (QV.indexSlice sl30 Z Z Z Z hp18) ?_
  refine wl pl3 Z (fun w hw => CellsAt.one 0 (((Own.karr 1 Z hk h_l) w hw).ele hp18 c15) Z) ?_
  refine wa Z ?_
  refine ns ?_
  refine wm Z ?_
  refine wq Z (QV.nilCheck Z Z) ?_
  refine wf fd159_0 Z ?_
  refine wq Z (QV.loadAgg ag49 Z Z Z (fun w hw => CellsAt.sub 0 3 ((Own.kcells 1 Z hk hp_y) w hw) Z)) ?_
  refine wm Z ?_
  obtain ⟨x19, hx20, hm21⟩ := bd_some hm16; clear hm16
  refine wq Z (QV.call en135 (EvAll.cons Z Z (EvAll.cons Z Z EvAll.nil)) (fun w hw => have h := keep_Far_w w hx20 ((Own.karr 1 Z hk h_y_Loop_Logs) w hw) ((Own.karr 1 Z hk h_y_Loop_Body) w hw) ((Own.karr 1 Z hk h_y_Loop_Outs) w hw); h)) ?_
  refine wm Z ?_
  refine nt ?_
  obtain ⟨o22, ho23, hm24⟩ := bd_some hm21; clear hm21; obtain ⟨n25, ho26⟩ := lp_some ho23
  refine WC.bloop2 (H2 := [kn noM w.heap.size w w]) (τ := [(0, (true, _)), (5, (true, _)), (7, (true, _)), (11, (true, _)), (12, (true, _)), (13, (true, _)), (22, (true, _))]) (fun (m1n_4 : List (Int × Bool)) (x23_4 : Int) => [(23, (true, .int .i64 x23_4))]) (fun m1n_4 x23_4 => [mapR b1 kI bv m1n_4]) (fun m1n_4 x23_4 m => iter (keep_Layout_Firsts_L2 y_Regs y_Places l x13_3 x19) m (m1n_4, x23_4) = some o22) (fun m1n_4 x23_4 => o22 = .go (m1n_4, x23_4)) m1n_3 0 n25 ho26 ⟨Z, Z, Z, Z, Z, Z, Z, Z, trivial⟩ (fun w hw => hw.pick [0, 1] (by decide)) ?_ ?_
  ·skip
   rintro m1n_4 x23_4 rfl
   refine WQ.block (WQ.then (WC.region ?_))
   obtain ⟨c27, hm28⟩ := cs hm24; clear hm24
   refine wq Z (QV.add Z Z Z Z c27) ?_
   refine wm Z ?_
   refine WL.nil ?_
   exact WQ.again2 m1n_4 (x13_3 + 1) m9 (up_next hm28 hn12) (Nat.lt_succ_self _) ⟨Z, Z, Z, Z, Z, trivial⟩ (fun w hw => hw.pick [0, 1] (by decide))
  rintro m1n_4 x23_4 m29 hI30
  obtain ⟨m31, s32, rfl, hm33, hn34⟩ := iter_step hI30; clear hI30; unfold keep_Layout_Firsts_L2 at hm33; simp only at hm33
  refine sr ?_
  refine wq Z (QV.lss Z Z Z Z) ?_
  refine nt (WC.seq ?_)
  refine WC.cond Z (fun h35 => ?_) (fun h35 => ?_)
  ·skip
   have hm36 := br_t h35 hm33; clear hm33
   refine sk (WQ.then (WC.seq (WC.block (sr ?_))))
   refine wm Z ?_
   refine wa Z ?_
   refine nt (WC.seq ?_)
   refine WC.dr (m := 26) (S := Own noM w [kn noM w.heap.size w w, mapR b1 kI bv m1n_4]) (by kernel_rfl) (by kernel_rfl) (fun w hw => hw.pick [1, 0] (by decide)) ?_
   refine wz 0 Z Z (QV.move Z Z) ?_
   refine wz 1 Z Z (QV.nilCheck Z Z) ?_
   refine wz 2 Z Z (QV.fieldAddr fd159_5 Z Z) ?_
   refine wz 3 Z Z (QV.load pl30 Z Z (fun w hw => CellsAt.one 7 ((Own.kcells 0 Z hk hp_y) w hw) Z)) ?_
   refine wz 4 Z Z (QV.move Z Z) ?_
   obtain ⟨c37, hm38⟩ := cs hm36; clear hm36
   obtain ⟨p39, hp40⟩ := h_y_Places.lenMap.ix (sz := 1) ln_len c37
   refine wz 5 Z Z (QV.indexSlice sl30 Z Z Z Z hp40) ?_
   refine wz 6 Z Z (QV.load pl3 Z Z (fun w hw => CellsAt.one 0 (((Own.karr 0 Z hk h_y_Places) w hw).ele hp40 c37) Z)) ?_
   refine wz 7 Z Z (QV.move Z Z) ?_
   obtain ⟨c41, hm42⟩ := cs hm38; clear hm38
   refine wz 8 Z Z (QV.sub Z Z Z Z c41) ?_
   obtain ⟨c43, hm44⟩ := cs hm42; clear hm42
   refine wz 9 Z Z (QV.sub Z Z Z Z c43) ?_
   refine wz 10 Z Z (QV.move Z Z) ?_
   refine wz 11 Z Z (QV.nilCheck Z Z) ?_
   refine wz 12 Z Z (QV.fieldAddr fd159_2 Z Z) ?_
   refine wz 13 Z Z (QV.load pl3 Z Z (fun w hw => CellsAt.one 4 ((Own.kcells 0 Z hk hp_y) w hw) Z)) ?_
   obtain ⟨c45, hm46⟩ := cs hm44; clear hm44
   refine wz 14 Z Z (QV.rem Z Z Z Z c45) ?_
   refine wz 15 Z Z (QV.move Z Z) ?_
   refine wz 16 Z Z (QV.nilCheck Z Z) ?_
   refine wz 17 Z Z (QV.fieldAddr fd159_2 Z Z) ?_
   refine wz 18 Z Z (QV.load pl3 Z Z (fun w hw => CellsAt.one 4 ((Own.kcells 0 Z hk hp_y) w hw) Z)) ?_
   obtain ⟨c47, hm48⟩ := cs hm46; clear hm46
   refine wz 19 Z Z (QV.add Z Z Z Z c47) ?_
   refine wz 20 Z Z (QV.move Z Z) ?_
   refine wz 21 Z Z (QV.nilCheck Z Z) ?_
   refine wz 22 Z Z (QV.fieldAddr fd159_2 Z Z) ?_
   refine wz 23 Z Z (QV.load pl3 Z Z (fun w hw => CellsAt.one 4 ((Own.kcells 0 Z hk hp_y) w hw) Z)) ?_
   obtain ⟨c49, hm50⟩ := cs hm48; clear hm48
   refine wz 24 Z Z (QV.rem Z Z Z Z c49) ?_
   refine wz 25 Z Z (QV.assign Z Z) ?_
   refine WD.e (by kernel_rfl) ?_
   refine WQ.then (WC.seq (sr ?_))
   refine wm Z ?_
   refine wm Z ?_
   refine wq Z (QV.lookup (k := (Int.tmod ((Int.tmod (((ele y_Places (ele l x13_3)) - x23_4) - 1) y_Regs) + y_Regs) y_Regs)) 0 false mt180 kt3 zv4bv Z Z Z Z Z) ?_
   refine nt ?_
   refine WC.cond Z (fun h51 => ?_) (fun h51 => ?_)
   ·skip
    have hm52 := br_t h51 hm50; clear hm50
    refine sr ?_
    refine wa Z ?_
    refine nt (WC.ret (tr (kr (tr (tr (kr (tr (kr (tr (tr (kr (tr (tr ?_)))))))))))))
    obtain rfl := up_ret hm52 hn34
    obtain rfl := up_ret hm24 hn12
    obtain rfl := (eq_of_some hm4).symm
    refine WQ.ret1 Z Z (fun w hw => ?_)
    exact ⟨Z, Own.kgrow (fun _ x => x) hw⟩
   have hm53 := br_f h51 hm50; clear hm50
   refine sk (WQ.then (WC.region ?_))
   refine wm Z ?_
   refine wm Z ?_
   refine WL.effect Z ?_
   refine (EV.mapUpdate (ke := kI) (ve := bv) (Int.tmod ((Int.tmod (((ele y_Places (ele l x13_3)) - x23_4) - 1) y_Regs) + y_Regs) y_Regs) 0 true mt180 kt3 Z Z Z Z Z Z Z ?_)
   refine WL.nil (WQ.block (WQ.then (WC.region ?_)))
   obtain ⟨c54, hm55⟩ := cs hm53; clear hm53
   refine wq Z (QV.add Z Z Z Z c54) ?_
   refine wm Z ?_
   refine WL.nil ?_
   exact WQ.again2 (mput m1n_4 (Int.tmod ((Int.tmod (((ele y_Places (ele l x13_3)) - x23_4) - 1) y_Regs) + y_Regs) y_Regs) true) (x23_4 + 1) m31 (up_next hm55 hn34) (Nat.lt_succ_self _) ⟨Z, Z, Z, Z, Z, Z, Z, Z, trivial⟩ (fun w hw => hw.pick [0, 1] (by decide))
  have hm56 := br_f h35 hm33; clear hm33
  refine WC.exit (te (te (WQ.block_exit ?_)))
  exact WQ.out2 m1n_4 x23_4 (up_brk hm56 hn34) ⟨Z, Z, Z, Z, Z, Z, Z, Z, trivial⟩ (fun w hw => hw.pick [0, 1] (by decide))
 have hm57 := br_f h13 hm11; clear hm11
 refine WC.exit (te (te (WQ.block_exit ?_)))
 exact WQ.out2 m1n_3 x13_3 (up_brk hm57 hn12) ⟨Z, Z, Z, Z, Z, trivial⟩ (fun w hw => hw.pick [0, 1] (by decide))
end Go.Proofs.Ytaimbkndebaaiab
end

section
namespace Go.Proofs.Ytaimbkndebaaiab
open Go.Rd
set_option linter.unusedVariables false
open TNum TLoop TKern TKeep
namespace TOrd
theorem en107 : Go.Rd.Enters Try.prog 107 := ⟨Try.f107, Try.func107, by kernel_rfl, by kernel_rfl⟩
theorem en108 : Go.Rd.Enters Try.prog 108 := ⟨Try.f108, Try.func108, by kernel_rfl, by kernel_rfl⟩
theorem en132 : Go.Rd.Enters Try.prog 132 := ⟨Try.f132, Try.func132, by kernel_rfl, by kernel_rfl⟩
theorem fd61_0 : FieldT Try.prog 61 0 0 := ⟨_, _, 0, Try.underlying61, rfl, rfl, by kernel_rfl⟩
theorem fd61_1 : FieldT Try.prog 61 1 1 := ⟨_, _, 0, Try.underlying61, rfl, rfl, by kernel_rfl⟩
theorem fd61_2 : FieldT Try.prog 61 2 2 := ⟨_, _, 0, Try.underlying61, rfl, rfl, by kernel_rfl⟩
theorem fd61_3 : FieldT Try.prog 61 3 3 := ⟨_, _, 0, Try.underlying61, rfl, rfl, by kernel_rfl⟩
theorem sz_30 : SliceZ Try.prog 30 3 1 [.int .i64 0] := ⟨Try.underlying30, by kernel_rfl⟩
end TOrd
open TOrd
set_option maxRecDepth 8000 in
theorem cmp_isNaN_int__w {x : Int} {r : Bool} (w : World) (hm : cmp_isNaN_int__m x = some r)  : Calls Try.prog 132 #[.int .i64 x] w (fun e w' => e = .returned (.bool r) ∧ Grow w w') := by
 unfold cmp_isNaN_int__m at hm
 have hk := Base.rfl (w := w)
 refine calls_of_WC (n := 6) (args := [.int .i64 x]) Try.func132 Z Z (Nat.le_of_ble_eq_true Z) ?_ (Own.startK hk (Own.start w))
 refine sr ?_
 refine wa Z ?_
 refine ns ?_
 refine wm Z ?_
 refine wm Z ?_
 refine wq Z (QV.neq Z Z Z Z) ?_
 refine wa Z ?_
 refine nt (WC.ret ?_)
 obtain rfl := (eq_of_some hm).symm
 refine WQ.ret1 Z Z (fun w hw => ?_)
 exact ⟨Z, Own.kgrow (fun _ x => x) hw⟩

set_option maxRecDepth 8000 in
theorem cmp_Compare_int__w {x : Int} {y : Int} {r : Int} (w : World) (hm : cmp_Compare_int__m x y = some r)  : Calls Try.prog 108 #[.int .i64 x, .int .i64 y] w (fun e w' => e = .returned (.int .i64 r) ∧ Grow w w') := by
 unfold cmp_Compare_int__m at hm
 have hk := Base.rfl (w := w)
 refine calls_of_WC (n := 20) (args := [.int .i64 x, .int .i64 y]) Try.func108 Z Z (Nat.le_of_ble_eq_true Z) ?_ (Own.startK hk (Own.start w))
 refine sr ?_
 refine wa Z ?_
 refine ns ?_
 refine wm Z ?_
 obtain ⟨x1, hx2, hm3⟩ := bd_some hm; clear hm
 refine wq Z (QV.call en132 (EvAll.cons Z Z EvAll.nil) (fun w hw => have h := cmp_isNaN_int__w w hx2 ; h)) ?_
 refine wa Z ?_
 refine ns ?_
 refine wm Z ?_
 obtain ⟨x4, hx5, hm6⟩ := bd_some hm3; clear hm3
 refine wq Z (QV.call en132 (EvAll.cons Z Z EvAll.nil) (fun w hw => have h := cmp_isNaN_int__w w hx5 ; h)) ?_
 refine wa Z ?_
 refine nt (WC.seq (sr ?_))
 refine wm Z ?_
 refine nt ?_
 refine WC.cond Z (fun h7 => ?_) (fun h7 => ?_)
 ·skip
  have hm8 := br_t h7 hm6; clear hm6
  refine WC.seq (sr ?_)
  refine wm Z ?_
  refine nt ?_
  refine WC.cond Z (fun h9 => ?_) (fun h9 => ?_)
  ·skip
   have hm10 := br_t h9 hm8; clear hm8
   refine sr ?_
   refine wa Z ?_
   refine nt (WC.ret (tr (tr ?_)))
   obtain rfl := (eq_of_some hm10).symm
   refine WQ.ret1 Z Z (fun w hw => ?_)
   exact ⟨Z, Own.kgrow (fun _ x => x) hw⟩
  have hm11 := br_f h9 hm8; clear hm8
  refine sk (WQ.then (sr ?_))
  refine wa Z ?_
  refine nt (WC.ret (tr ?_))
  obtain rfl := (eq_of_some hm11).symm
  refine WQ.ret1 Z Z (fun w hw => ?_)
  exact ⟨Z, Own.kgrow (fun _ x => x) hw⟩
 have hm12 := br_f h7 hm6; clear hm6
 refine sk (WQ.then (WC.seq (sr ?_)))
 refine wm Z ?_
 refine nt ?_
 refine WC.cond Z (fun h13 => ?_) (fun h13 => ?_)
 ·skip
  have hm14 := br_t h13 hm12; clear hm12
  refine sr ?_
  refine wa Z ?_
  refine nt (WC.ret (tr ?_))
  obtain rfl := (eq_of_some hm14).symm
  refine WQ.ret1 Z Z (fun w hw => ?_)
  exact ⟨Z, Own.kgrow (fun _ x => x) hw⟩
 have hm15 := br_f h13 hm12; clear hm12
 refine sk (WQ.then (WC.seq (sr ?_)))
 refine wm Z ?_
 refine wm Z ?_
 refine wq Z (QV.lss Z Z Z Z) ?_
 refine nt ?_
 refine WC.cond Z (fun h16 => ?_) (fun h16 => ?_)
 ·skip
  have hm17 := br_t h16 hm15; clear hm15
  refine sr ?_
  refine wa Z ?_
  refine nt (WC.ret (tr ?_))
  obtain rfl := (eq_of_some hm17).symm
  refine WQ.ret1 Z Z (fun w hw => ?_)
  exact ⟨Z, Own.kgrow (fun _ x => x) hw⟩
 have hm18 := br_f h16 hm15; clear hm15
 refine sk (WQ.then (WC.seq (sr ?_)))
 refine wm Z ?_
 refine wm Z ?_
 refine wq Z (QV.gtr Z Z Z Z) ?_
 refine nt ?_
 refine WC.cond Z (fun h19 => ?_) (fun h19 => ?_)
 ·skip
  have hm20 := br_t h19 hm18; clear hm18
  refine sr ?_
  refine wa Z ?_
  refine nt (WC.ret (tr ?_))
  obtain rfl := (eq_of_some hm20).symm
  refine WQ.ret1 Z Z (fun w hw => ?_)
  exact ⟨Z, Own.kgrow (fun _ x => x) hw⟩
 have hm21 := br_f h19 hm18; clear hm18
 refine sk (WQ.then (sr ?_))
 refine wa Z ?_
 refine nt (WC.ret ?_)
 obtain rfl := (eq_of_some hm21).symm
 refine WQ.ret1 Z Z (fun w hw => ?_)
 exact ⟨Z, Own.kgrow (fun _ x => x) hw⟩

set_option maxRecDepth 8000 in
theorem cmp_Or_int__w {v_vals : Value} {vals : List Int} {r : Int} (w : World) (hm : cmp_Or_int__m vals = some r) (h_vals : Arr w v_vals 1 (vals.map icell)) : Calls Try.prog 107 #[v_vals] w (fun e w' => e = .returned (.int .i64 r) ∧ Grow w w') := by
 unfold cmp_Or_int__m at hm
 have hk := Base.rfl (w := w)
 refine calls_of_WC (n := 18) (args := [v_vals]) Try.func107 Z Z (Nat.le_of_ble_eq_true Z) ?_ (Own.startK hk (Own.start w))
 refine sr ?_
 refine wa Z ?_
 refine ns ?_
 refine wa Z ?_
 refine nt (WC.seq (sr ?_))
 refine wm Z ?_
 refine wq Z (QV.lenS Try.underlying30 Z Z h_vals.lenMap) ?_
 refine wm Z ?_
 refine nt ?_
 obtain ⟨o1, ho2, hm3⟩ := bd_some hm; clear hm; obtain ⟨n4, ho5⟩ := lp_some ho2
 refine WC.bloop1 (H2 := [kn noM w.heap.size w w]) (τ := [(3, (true, _)), (6, (true, _)), (7, (true, _))]) (fun (x8_1 : Int) => [(8, (true, .int .i64 x8_1))]) (fun x8_1 => []) (fun x8_1 m => iter (cmp_Or_int__L0 vals) m x8_1 = some o1) (fun x8_1 => o1 = .go x8_1) 0 n4 ho5 ⟨Z, Z, Z, Z, trivial⟩ (fun w hw => hw.pick [0] (by decide)) ?_ ?_
 ·skip
  rintro x8_1 rfl
  refine WQ.then (sr ?_)
  refine wm Z ?_
  refine wa Z ?_
  refine nt (WC.ret ?_)
  obtain rfl := (eq_of_some hm3).symm
  refine WQ.ret1 Z Z (fun w hw => ?_)
  exact ⟨Z, Own.kgrow (fun _ x => x) hw⟩
 rintro x8_1 m6 hI7
 obtain ⟨m8, s9, rfl, hm10, hn11⟩ := iter_step hI7; clear hI7; unfold cmp_Or_int__L0 at hm10
 refine sr ?_
 refine wq Z (QV.lss Z Z Z Z) ?_
 refine nt (WC.seq ?_)
 refine WC.cond Z (fun h12 => ?_) (fun h12 => ?_)
 ·skip
  have hm13 := br_t h12 hm10; clear hm10
  refine sk (WQ.then (WC.seq (WC.block (sr ?_))))
  obtain ⟨c14, hm15⟩ := cs hm13; clear hm13
  obtain ⟨p16, hp17⟩ := h_vals.lenMap.ix (sz := 1) ln_len c14
  refine wq Z (QV.indexSlice sl30 Z Z Z Z hp17) ?_
  refine wl pl3 Z (fun w hw => CellsAt.one 0 (((Own.karr 0 Z hk h_vals) w hw).ele hp17 c14) Z) ?_
  refine wa Z ?_
  refine ns ?_
  refine wm Z ?_
  refine wm Z ?_
  refine wq Z (QV.neq Z Z Z Z) ?_
  refine nt ?_
  refine WC.cond Z (fun h18 => ?_) (fun h18 => ?_)
  ·skip
   have hm19 := br_t h18 hm15; clear hm15
   refine sr ?_
   refine wm Z ?_
   refine wa Z ?_
   refine nt (WC.ret (kr (tr (tr (kr (tr (tr ?_)))))))
   obtain rfl := up_ret hm19 hn11
   obtain rfl := (eq_of_some hm3).symm
   refine WQ.ret1 Z Z (fun w hw => ?_)
   exact ⟨Z, Own.kgrow (fun _ x => x) hw⟩
  have hm20 := br_f h18 hm15; clear hm15
  refine sk (WQ.block (WQ.then (WC.region ?_)))
  obtain ⟨c21, hm22⟩ := cs hm20; clear hm20
  refine wq Z (QV.add Z Z Z Z c21) ?_
  refine wm Z ?_
  refine WL.nil ?_
  exact WQ.again1 (x8_1 + 1) m8 (up_next hm22 hn11) (Nat.lt_succ_self _) ⟨Z, Z, Z, Z, trivial⟩ (fun w hw => hw.pick [0] (by decide))
 have hm23 := br_f h12 hm10; clear hm10
 refine WC.exit (te (te (WQ.block_exit ?_)))
 exact WQ.out1 x8_1 (up_brk hm23 hn11) ⟨Z, Z, Z, Z, trivial⟩ (fun w hw => hw.pick [0] (by decide))

set_option maxRecDepth 8000 in
theorem dep_order_w {a : Edg} {b : Edg} {r : Int} (w : World) (hm : dep_order_m a b = some r)  : Calls Try.prog 66 #[.agg #[.int .i64 a.fr, .int .i64 a.to, .int .i64 a.bk, .int .i64 a.wt], .agg #[.int .i64 b.fr, .int .i64 b.to, .int .i64 b.bk, .int .i64 b.wt]] w (fun e w' => e = .returned (.int .i64 r) ∧ Grow w w') := by
 unfold dep_order_m at hm
 have hk := Base.rfl (w := w)
 refine calls_of_WC (n := 27) (args := [.agg #[.int .i64 a.fr, .int .i64 a.to, .int .i64 a.bk, .int .i64 a.wt], .agg #[.int .i64 b.fr, .int .i64 b.to, .int .i64 b.bk, .int .i64 b.wt]]) Try.func66 Z Z (Nat.le_of_ble_eq_true Z) ?_ (Own.startK hk (Own.start w))
 refine sr ?_
 refine WL.effect Z ?_
 refine (EV.boxAgg (by decide) Z Z (fun b1 => ?_))
 refine WL.effect Z ?_
 refine (EV.boxAgg (by decide) Z Z (fun b2 => ?_))
 refine wa Z ?_
 refine nt (WC.seq ?_)
 refine WC.dr (m := 23) (S := Own noM w [kn noM w.heap.size w w, blk b2 b.cells 61, blk b1 a.cells 61]) (by kernel_rfl) (by kernel_rfl) (fun w hw => hw.pick [2, 0, 1] (by decide)) ?_
 refine wz 0 Z Z (QV.fieldAddr fd61_0 Z Z) ?_
 refine wz 1 Z Z (QV.load pl3 Z Z (Own.cell 2 Z Z)) ?_
 refine wz 2 Z Z (QV.fieldAddr fd61_0 Z Z) ?_
 refine wz 3 Z Z (QV.load pl3 Z Z (Own.cell 1 Z Z)) ?_
 obtain ⟨x3, hx4, hm5⟩ := bd_some hm; clear hm
 refine wz 4 Z Z (QV.call en108 (EvAll.cons Z Z (EvAll.cons Z Z EvAll.nil)) (fun w hw => have h := cmp_Compare_int__w w hx4 ; h)) ?_
 refine wz 5 Z Z (QV.fieldAddr fd61_1 Z Z) ?_
 refine wz 6 Z Z (QV.load pl3 Z Z (Own.cell 2 Z Z)) ?_
 refine wz 7 Z Z (QV.fieldAddr fd61_1 Z Z) ?_
 refine wz 8 Z Z (QV.load pl3 Z Z (Own.cell 1 Z Z)) ?_
 obtain ⟨x6, hx7, hm8⟩ := bd_some hm5; clear hm5
 refine wz 9 Z Z (QV.call en108 (EvAll.cons Z Z (EvAll.cons Z Z EvAll.nil)) (fun w hw => have h := cmp_Compare_int__w w hx7 ; h)) ?_
 refine wz 10 Z Z (QV.fieldAddr fd61_2 Z Z) ?_
 refine wz 11 Z Z (QV.load pl3 Z Z (Own.cell 2 Z Z)) ?_
 refine wz 12 Z Z (QV.fieldAddr fd61_2 Z Z) ?_
 refine wz 13 Z Z (QV.load pl3 Z Z (Own.cell 1 Z Z)) ?_
 obtain ⟨x9, hx10, hm11⟩ := bd_some hm8; clear hm8
 refine wz 14 Z Z (QV.call en108 (EvAll.cons Z Z (EvAll.cons Z Z EvAll.nil)) (fun w hw => have h := cmp_Compare_int__w w hx10 ; h)) ?_
 refine wz 15 Z Z (QV.fieldAddr fd61_3 Z Z) ?_
 refine wz 16 Z Z (QV.load pl3 Z Z (Own.cell 2 Z Z)) ?_
 refine wz 17 Z Z (QV.fieldAddr fd61_3 Z Z) ?_
 refine wz 18 Z Z (QV.load pl3 Z Z (Own.cell 1 Z Z)) ?_
 obtain ⟨x12, hx13, hm14⟩ := bd_some hm11; clear hm11
 refine wz 19 Z Z (QV.call en108 (EvAll.cons Z Z (EvAll.cons Z Z EvAll.nil)) (fun w hw => have h := cmp_Compare_int__w w hx13 ; h)) ?_
 refine WD.o 20 Z (by kernel_rfl) Z ?_
 refine (EV.buildSlice (by decide) sz_30 (by decide) (by decide) (ps := [(0, .tmp 9), (1, .tmp 14), (2, .tmp 19), (3, .tmp 24)]) (cells := [.int .i64 x3, .int .i64 x6, .int .i64 x9, .int .i64 x12]) (EvAll.cons Z Z (EvAll.cons Z Z (EvAll.cons Z Z (EvAll.cons Z Z EvAll.nil)))) (by kernel_rfl) (fun b15 => ?_))
 refine WD.b (H' := [kn noM w.heap.size w w, blk b15 [.int .i64 x3, .int .i64 x6, .int .i64 x9, .int .i64 x12] 3, blk b2 b.cells 61, blk b1 a.cells 61]) (fun w hw => hw.pick [3, 0, 1, 2] (by decide)) (fun w hw => hw.pick [0, 2, 3] (by decide)) ?_
 obtain ⟨x16, hx17, hm18⟩ := bd_some hm14; clear hm14
 refine wz 21 Z Z (QV.call en107 (EvAll.cons Z Z EvAll.nil) (fun w hw => have h := cmp_Or_int__w w hx17 ((Own.blkArr 1 (rows := [x3, x6, x9, x12].map icell) Z Z (rows_len icell_len)) w hw); h)) ?_
 refine wz 22 Z Z (QV.assign Z Z) ?_
 refine WD.e (by kernel_rfl) ?_
 refine WQ.then (WC.ret ?_)
 obtain rfl := (eq_of_some hm18).symm
 refine WQ.ret1 Z Z (fun w hw => ?_)
 exact ⟨Z, Own.kgrow (fun _ x => x) hw⟩
end Go.Proofs.Ytaimbkndebaaiab
end

section
namespace Go.Rd
open Go.RowKit Go.Sort Go.Shelf Go.Lib Go.Proofs
set_option linter.unusedVariables false
section
variable {α : Type} [Inhabited α] {enc : α → List Value} {k : Nat}
theorem flatK_list (hk : ∀ x, (enc x).length = k) (h0 : 0 < k) (xs : List α) : (flatK enc k xs.toArray).toList = (xs.map enc).flatten := by
  apply List.ext_getElem?
  intro j
  have hall : ∀ r ∈ xs.map enc, r.length = k := fun r hr => by obtain ⟨u, _, rfl⟩ := List.mem_map.1 hr; exact hk u
  have hfl := flatten_len hall
  rw [List.length_map] at hfl
  by_cases hj : j < xs.length * k
  · have hq : j / k < xs.length := Nat.div_lt_of_lt_mul (by rwa [Nat.mul_comm] at hj)
    have hmod : j % k < k := Nat.mod_lt _ h0
    have hd := drop_flatten (sz := k) (rows := xs.map enc) (i := j / k) (r := enc xs[j / k]) hall (by simp [hq])
    have e1 : (xs.map enc).flatten[j]? = (enc xs[j / k])[j % k]? := by
      have : (enc xs[j / k])[j % k]? = (((xs.map enc).flatten.drop (j / k * k)).take (enc xs[j / k]).length)[j % k]? := by rw [hd]
      rw [this, List.getElem?_take, hk, if_pos hmod, List.getElem?_drop, Nat.mul_comm, Nat.div_add_mod]
    have hlt : j % k < (enc xs[j / k]).length := by rw [hk]; exact hmod
    rw [e1, List.getElem?_eq_getElem hlt]
    simp [flatK, hj, hq, hlt]
  · rw [List.getElem?_eq_none (by rw [Array.length_toList, size_flatK, List.size_toArray]; omega), List.getElem?_eq_none (by rw [hfl]; omega)]
variable {M : Nat → Prop} {w w0 : World} {H : List Res} {E : TypeId} {b n cap : Nat} {xs ys : List α}
theorem vec_holdsK (hk : ∀ x, (enc x).length = k) (h0 : 0 < k) (h : (vec (.slice (some ⟨b, 0, none⟩) n cap) E k (xs.map enc)).holds w) : HoldsK enc k w b 0 xs.toArray ∧ n = xs.length ∧ b < w.heap.size := by
  obtain ⟨⟨h1, h2⟩, h3⟩ := h
  rcases h2 with ⟨h, _⟩ | ⟨g, cap', cur, hv, _, hh, hnc, _, hcs, ht⟩
  · cases h
  · simp only [Value.slice.injEq, Option.some.injEq, Addr.mk.injEq, List.length_map] at hv
    obtain ⟨⟨rfl, _⟩, rfl, rfl⟩ := hv
    refine ⟨fun j hj => ?_, rfl, (Array.getElem?_eq_some_iff.1 hh).1⟩
    rw [size_flatK, List.size_toArray] at hj
    rw [List.length_map] at hnc ht
    have hlt : j < cur.size := by rw [hcs]; exact Nat.lt_of_lt_of_le hj (Nat.mul_le_mul_right _ hnc)
    have hl := flatK_list hk h0 xs
    have hget : cur[j]? = some (id (flatK enc k xs.toArray)[j]!) := by
      have h1 : (flatK enc k xs.toArray)[j]? = some (flatK enc k xs.toArray)[j]! := by
        have : j < (flatK enc k xs.toArray).size := by simpa using hj
        rw [getElem!_pos (flatK enc k xs.toArray) j this, Array.getElem?_eq_getElem this]
      have h2 : (flatK enc k xs.toArray).toList[j]? = cur.toList[j]? := by
        rw [hl, ← ht, List.getElem?_take, if_pos hj]
      rw [Array.getElem?_toList, Array.getElem?_toList] at h2
      rw [← h2, h1]; rfl
    rw [Nat.zero_add]
    refine ⟨?_, by simp [World.frozen?, hh]⟩
    simp only [World.cell?, hh]
    exact hget
theorem sortedK_facts {m : Nat} {os : Array Obj} : ((sortWorldK enc k w b 0 m ys.toArray os).os = w.os ∧ (sortWorldK enc k w b 0 m ys.toArray os).tape = w.tape ∧ ((sortWorldK enc k w b 0 m ys.toArray os).output = w.output ∧ w.drawn ≤ (sortWorldK enc k w b 0 m ys.toArray os).drawn) ∧ w.heap.size ≤ (sortWorldK enc k w b 0 m ys.toArray os).heap.size) ∧
    (∀ j, j < w.heap.size → j ≠ b → (sortWorldK enc k w b 0 m ys.toArray os).heap[j]? = w.heap[j]?) ∧
    (∀ cur t, w.heap[b]? = some (.cells cur t (0, 0)) → (sortWorldK enc k w b 0 m ys.toArray os).heap[b]? = some (.cells (putCells id 0 (flatK enc k ys.toArray) cur) t (0, 0))) := by
  refine ⟨⟨rfl, rfl, ⟨rfl, Nat.le_add_right _ _⟩, ?_⟩, fun j hj hne => ?_, fun cur t hc => ?_⟩
  · show w.heap.size ≤ (w.heap.modify b _ ++ os).size
    simp
  · show (w.heap.modify b (onCells (putCells id 0 (flatK enc k ys.toArray))) ++ os)[j]? = _
    rw [Array.getElem?_append_left (by simpa using hj), Array.getElem?_modify, if_neg (Ne.symm hne)]
  · have hj := (Array.getElem?_eq_some_iff.1 hc).1
    show (w.heap.modify b (onCells (putCells id 0 (flatK enc k ys.toArray))) ++ os)[b]? = _
    rw [Array.getElem?_append_left (by simpa using hj), Array.getElem?_modify, if_pos rfl, hc]
    rfl
theorem vec_sorted (hk : ∀ x, (enc x).length = k) (h0 : 0 < k) (h : (vec (.slice (some ⟨b, 0, none⟩) n cap) E k (xs.map enc)).holds w) (hl : ys.length = xs.length) (m : Nat) (os : Array Obj) :
    (vec (.slice (some ⟨b, 0, none⟩) n cap) E k (ys.map enc)).holds (sortWorldK enc k w b 0 m ys.toArray os) := by
  obtain ⟨⟨h1, h2⟩, h3⟩ := h
  rcases h2 with ⟨h, _⟩ | ⟨g, cap', cur, hv, hg0, hh, hnc, hcm, hcs, ht⟩
  · cases h
  · simp only [Value.slice.injEq, Option.some.injEq, Addr.mk.injEq] at hv
    obtain ⟨⟨rfl, _⟩, rfl, rfl⟩ := hv
    have hall : ∀ r ∈ ys.map enc, r.length = k := fun r hr => by obtain ⟨u, _, rfl⟩ := List.mem_map.1 hr; exact hk u
    have hfl := flatten_len hall
    have hb := (sortedK_facts (enc := enc) (k := k) (w := w) (b := b) (ys := ys) (m := m) (os := os)).2.2 cur E hh
    have hlm : (ys.map enc).length = (xs.map enc).length := by simp [hl]
    refine ⟨⟨hfl, .inr ⟨b, cap, putCells id 0 (flatK enc k ys.toArray) cur, by rw [hlm], hg0, hb, by rw [hlm]; exact hnc, hcm, by simp [putCells, hcs], ?_⟩⟩, hall⟩
    rw [← flatK_list hk h0 ys]
    apply List.ext_getElem?
    intro j
    rw [List.getElem?_take]
    have hs : (flatK enc k ys.toArray).size = (ys.map enc).length * k := by simp
    by_cases hj : j < (ys.map enc).length * k
    · have hlt : j < cur.size := by rw [hcs]; rw [hlm] at hj; exact Nat.lt_of_lt_of_le hj (Nat.mul_le_mul_right _ hnc)
      have hjf : j < (flatK enc k ys.toArray).size := by rw [hs]; exact hj
      rw [if_pos hj, Array.getElem?_toList, Array.getElem?_toList]
      rw [Array.getElem?_eq_getElem hjf]
      have hj' : j < ys.length * k := by rw [List.length_map] at hj; exact hj
      simp [putCells, hlt, hj']
    · rw [if_neg hj, List.getElem?_eq_none (by rw [Array.length_toList, hs]; omega)]
theorem Own.sorted {K0 : World} (hb : Base M K0 w) (hk : ∀ x, (enc x).length = k) (h0 : 0 < k) (hw : Own M w [vec (.slice (some ⟨b, 0, none⟩) n cap) E k (xs.map enc)] w) (hl : ys.length = xs.length) (m : Nat) (os : Array Obj) :
    Own M w (kn M w.heap.size K0 K0 :: [vec (.slice (some ⟨b, 0, none⟩) n cap) E k (ys.map enc)]) (sortWorldK enc k w b 0 m ys.toArray os) := by
  have hs := Own.startK hb hw
  obtain ⟨⟨f1, f2, f3, f4⟩, f5, f6⟩ := sortedK_facts (enc := enc) (k := k) (w := w) (b := b) (ys := ys) (m := m) (os := os)
  refine hs.upd 1 rfl f1 f2 f3 f4 (fun j hj hn => f5 j hj fun e => hn (by subst e; exact ⟨_, _, rfl⟩)) (vec_sorted hk h0 hw.head hl m os) fun j hj => ?_
  refine ⟨.inl hj, ?_⟩
  obtain ⟨n2, c2, he⟩ := hj
  simp only [Value.slice.injEq, Option.some.injEq, Addr.mk.injEq] at he
  obtain ⟨⟨rfl, _⟩, _⟩ := he
  have := (vec_holdsK hk h0 hw.head).2.2
  omega
theorem grow_of {w w' : World} (h : Grow w w') : ∃ q os', w' = grow (w.drewN q) os' := by
  obtain ⟨h1, h2, ⟨h3, h4⟩, h5, h6⟩ := h
  refine ⟨w'.drawn - w.drawn, w'.heap.extract w.heap.size w'.heap.size, ?_⟩
  cases w'
  simp only [grow, World.drewN] at *
  subst h1 h2 h3
  congr 1
  · apply Array.ext_getElem?
    intro j
    by_cases hj : j < w.heap.size
    · rw [Array.getElem?_append_left hj]; exact h6 j hj
    · rw [Array.getElem?_append_right (by omega), Array.getElem?_extract]
      split
      · congr 1; omega
      · rw [Array.getElem?_eq_none (by omega)]
  · omega
end
end Go.Rd
end

section
namespace Go.Rd
open Go.Sort Go.Shelf Go.Lib Go.Proofs
set_option linter.unusedVariables false
theorem ord_swo : SWO (ltOf ordV) where
  irrefl x := by unfold ltOf; simp [ordV]
  trans x y z h1 h2 := by
    unfold ltOf at *
    simp only [decide_eq_true_eq, ordV_neg] at *
    omega
  ntrans x y z h1 h2 := by
    unfold ltOf at *
    simp only [decide_eq_false_iff_not, ordV_neg] at *
    omega
theorem ord_total (x y : Edg) (h1 : ltOf ordV x y = false) (h2 : ltOf ordV y x = false) : x = y := by
  unfold ltOf at *
  simp only [decide_eq_false_iff_not, ordV_neg] at *
  cases x; cases y
  simp only [Edg.mk.injEq] at *
  omega
end Go.Rd
end

section
namespace Go.Proofs.Ytaimbkndebaaiab
open Go.Rd
set_option linter.unusedVariables false
open TNum TLoop TKern TKeep TOrd
namespace TCpt
theorem ag61 : AggT Try.prog 61 4 := ⟨_, Try.underlying61, rfl, by kernel_rfl⟩
theorem eq61 : EqT Try.prog 61 4 := ⟨by kernel_rfl, ⟨_, Try.underlying61⟩, by kernel_rfl, by kernel_rfl⟩
theorem sl50 : SliceT Try.prog 50 61 4 := ⟨Try.underlying50, by kernel_rfl⟩
theorem sz61 : SizeT Try.prog 61 4 := by unfold SizeT; kernel_rfl
theorem ze61 : ZeroT Try.prog 61 [.int .i64 0, .int .i64 0, .int .i64 0, .int .i64 0] := by unfold ZeroT; kernel_rfl
end TCpt
open TCpt
set_option maxRecDepth 8000 in
theorem slices_Compact___api_Edge_api_Edge__w {v_s : Value} {s : List Edg} {r : List Edg} {K0 : World} (hm : slices_Compact___api_Edge_api_Edge__m s = some r) (h_s : SliceLen v_s s.length) (M : Nat → Prop) (w : World) (hk : Base M K0 w) (hw0 : Own M w [vec v_s 61 4 (List.map Edg.cells s)] w) : Calls Try.prog 67 #[v_s] w (fun e w' => ∃ X : Value × World, e = .returned (X.1) ∧ Own M w (kn M w.heap.size K0 X.2 :: []) w' ∧ Arr X.2 X.1 4 (r.map Edg.cells)) := by
 unfold slices_Compact___api_Edge_api_Edge__m at hm
 refine calls_of_WC (n := 61) (args := [v_s]) Try.func67 Z Z (Nat.le_of_ble_eq_true Z) ?_ (Own.startK hk hw0)
 refine sr ?_
 refine wa Z ?_
 refine nt (WC.seq (sr ?_))
 refine wm Z ?_
 refine wq Z (QV.lenS Try.underlying50 Z Z h_s) ?_
 refine wq Z (QV.lss Z Z Z Z) ?_
 refine nt ?_
 refine WC.cond Z (fun h1 => ?_) (fun h1 => ?_)
 ·skip
  have hm2 := br_t h1 hm; clear hm
  refine sr ?_
  refine wm Z ?_
  refine wa Z ?_
  refine nt (WC.ret (tr ?_))
  obtain rfl := (eq_of_some hm2).symm
  refine WK.freeze hk (fun k3 hle3 hr3 => ?_)
  have hA3 := vec_arr hr3
  refine WQ.ret1 Z Z (fun w hw => ?_)
  exact ⟨(v_s, k3), Z, hw.pick [0] (by decide), hA3⟩
 have hm4 := br_f h1 hm; clear hm
 refine sk (WQ.then (WC.seq (sr ?_)))
 refine wa Z ?_
 refine nt ?_
 obtain ⟨o5, ho6, hm7⟩ := bd_some hm4; clear hm4; obtain ⟨n8, ho9⟩ := lp_some ho6
 refine WC.bloop2 (H2 := [kn M w.heap.size K0 K0]) (τ := [(0, (true, _))]) (fun (ows0_3 : List Edg) (k3_3 : Int) => [(3, (true, .int .i64 k3_3))]) (fun ows0_3 k3_3 => [vec v_s 61 4 (List.map Edg.cells ows0_3)]) (fun ows0_3 k3_3 m => iter (slices_Compact___api_Edge_api_Edge__L0) m (ows0_3, k3_3) = some o5 ∧ SliceLen v_s ows0_3.length) (fun ows0_3 k3_3 => o5 = .go (ows0_3, k3_3) ∧ SliceLen v_s ows0_3.length) s 1 n8 ⟨ho9, h_s⟩ ⟨Z, Z, trivial⟩ (fun w hw => hw.pick [1, 0] (by decide)) ?_ ?_
 ·skip
  rintro ows0_3 k3_3 ⟨rfl, hlows0_3⟩
  refine WQ.then (sr ?_)
  refine wm Z ?_
  refine wa Z ?_
  refine nt (WC.ret ?_)
  obtain rfl := (eq_of_some hm7).symm
  refine WK.of (C' := Own M w [kn M w.heap.size K0 K0, vec v_s 61 4 (List.map Edg.cells ows0_3)]) (fun w hw => hw.pick [1, 0] (by decide)) ?_
  refine WK.freeze hk (fun k10 hle10 hr10 => ?_)
  have hA10 := vec_arr hr10
  refine WQ.ret1 Z Z (fun w hw => ?_)
  exact ⟨(v_s, k10), Z, hw.pick [0] (by decide), hA10⟩
 rintro ows0_3 k3_3 m11 ⟨hI12, hlows0_3⟩
 obtain ⟨m13, s14, rfl, hm15, hn16⟩ := iter_step hI12; clear hI12; unfold slices_Compact___api_Edge_api_Edge__L0 at hm15; simp only at hm15
 refine WC.seq (sr ?_)
 refine wm Z ?_
 refine wm Z ?_
 refine wq Z (QV.lenS Try.underlying50 Z Z hlows0_3) ?_
 refine wq Z (QV.lss Z Z Z Z) ?_
 refine nt ?_
 refine WC.cond Z (fun h17 => ?_) (fun h17 => ?_)
 ·skip
  have hm18 := br_t h17 hm15; clear hm15
  refine sk (WQ.then (WC.seq (WC.block (WC.seq ?_))))
  refine WC.dr (m := 10) (S := Own M w [kn M w.heap.size K0 K0, vec v_s 61 4 (List.map Edg.cells ows0_3)]) (by kernel_rfl) (by kernel_rfl) (fun w hw => hw.pick [1, 0] (by decide)) ?_
  refine wz 0 Z Z (QV.move Z Z) ?_
  refine wz 1 Z Z (QV.move Z Z) ?_
  obtain ⟨c19, hm20⟩ := cs hm18; clear hm18
  obtain ⟨p21, hp22⟩ := hlows0_3.ix (sz := 4) ln_len c19
  refine wz 2 Z Z (QV.indexSlice sl50 Z Z Z Z hp22) ?_
  refine wz 3 Z Z (QV.loadAgg ag61 Z Z Z (fun w hw => ((Own.vecArr 1 Z) w hw).ele hp22 c19)) ?_
  refine wz 4 Z Z (QV.move Z Z) ?_
  refine wz 5 Z Z (QV.move Z Z) ?_
  obtain ⟨c23, hm24⟩ := cs hm20; clear hm20
  refine wz 6 Z Z (QV.sub Z Z Z Z c23) ?_
  obtain ⟨c25, hm26⟩ := cs hm24; clear hm24
  obtain ⟨p27, hp28⟩ := hlows0_3.ix (sz := 4) ln_len c25
  refine wz 7 Z Z (QV.indexSlice sl50 Z Z Z Z hp28) ?_
  refine wz 8 Z Z (QV.loadAgg ag61 Z Z Z (fun w hw => ((Own.vecArr 1 Z) w hw).ele hp28 c25)) ?_
  refine wz 9 Z Z (QV.eqlF eq61 (ns := [(ele ows0_3 k3_3).fr, (ele ows0_3 k3_3).to, (ele ows0_3 k3_3).bk, (ele ows0_3 k3_3).wt]) (ms := [(ele ows0_3 (k3_3 - 1)).fr, (ele ows0_3 (k3_3 - 1)).to, (ele ows0_3 (k3_3 - 1)).bk, (ele ows0_3 (k3_3 - 1)).wt]) Z Z Z Z Z Z) ?_
  refine WD.e (by kernel_rfl) ?_
  refine WQ.then ?_
  refine WC.cond Z (fun h29 => ?_) (fun h29 => ?_)
  ·skip
   have hm30 := br_t h29 hm26; clear hm26
   refine sr ?_
   refine wm Z ?_
   refine wm Z ?_
   obtain ⟨c31, hm32⟩ := cs hm30; clear hm30
   refine wq Z (QV.sliceLd sl50 Z Z hlows0_3 Z Z c31) ?_
   refine wa Z ?_
   refine nt (WC.seq (sr ?_))
   refine wa Z ?_
   refine nt ?_
   obtain ⟨o33, ho34, hm35⟩ := bd_some hm32; clear hm32; obtain ⟨n36, ho37⟩ := lp_some ho34
   refine WC.bloop3 (H2 := [kn M w.heap.size K0 K0]) (τ := [(0, (true, _)), (4, (true, _))]) (fun (ows0_4 : List Edg) (k3_4 : Int) (k25_4 : Int) => [(3, (true, .int .i64 k3_4)), (5, (true, .int .i64 k25_4))]) (fun ows0_4 k3_4 k25_4 => [vec v_s 61 4 (List.map Edg.cells ows0_4)]) (fun ows0_4 k3_4 k25_4 m => iter (slices_Compact___api_Edge_api_Edge__L2 ows0_3 k3_3) m (ows0_4, k3_4, k25_4) = some o33 ∧ SliceLen v_s ows0_4.length) (fun ows0_4 k3_4 k25_4 => o33 = .go (ows0_4, k3_4, k25_4) ∧ SliceLen v_s ows0_4.length) ows0_3 k3_3 1 n36 ⟨ho37, hlows0_3⟩ ⟨Z, Z, Z, Z, trivial⟩ (fun w hw => hw.pick [0, 1] (by decide)) ?_ ?_
   ·skip
    rintro ows0_4 k3_4 k25_4 ⟨rfl, hlows0_4⟩
    refine WQ.then (sr ?_)
    refine wm Z ?_
    refine wm Z ?_
    obtain ⟨c38, hm39⟩ := cs hm35; clear hm35
    refine wq Z (QV.sliceLd sl50 Z Z hlows0_4 Z Z c38) ?_
    refine WL.effect Z ?_
    refine (EV.clear (enc := Edg.cells) (d := none) (dd := 0) 0 (Edg.mk 0 0 0 0) sl50 ze61 Edg.cells_len (by decide) (fun c hc => Edg.cells_one [_] _ (List.mem_singleton.2 Z) c hc) Z Z Z c38 Z (.inr Z) ?_ (fun _ h => (by cases h)))
    have hl40 : SliceLen v_s (clr ows0_4 k3_4 (Edg.mk 0 0 0 0)).length := (clr_len c38.2.1).symm ▸ hlows0_4
    refine ns ?_
    refine wm Z ?_
    refine wm Z ?_
    obtain ⟨c41, hm42⟩ := cs hm39; clear hm39
    refine wq Z (QV.sliceHd sl50 Z Z hl40 Z Z c41) ?_
    refine wa Z ?_
    refine nt (WC.ret (kr (tr (tr (kr (tr (tr ?_)))))))
    obtain rfl := up_ret hm42 hn16
    obtain rfl := (eq_of_some hm7).symm
    refine WK.of (C' := Own M w [kn M w.heap.size K0 K0, vec v_s 61 4 (List.map Edg.cells (clr ows0_4 k3_4 (Edg.mk 0 0 0 0)))]) (fun w hw => hw.pick [1, 0] (by decide)) ?_
    refine WK.freeze hk (fun k43 hle43 hr43 => ?_)
    have hA43 := vec_arr hr43
    have hA44 := subS_sub hA43 c41
    refine WQ.ret1 Z Z (fun w hw => ?_)
    exact ⟨((subS v_s 4 (Int.toNat 0) (Int.toNat k3_4)), k43), Z, hw.pick [0] (by decide), hA44⟩
   rintro ows0_4 k3_4 k25_4 m45 ⟨hI46, hlows0_4⟩
   obtain ⟨m47, s48, rfl, hm49, hn50⟩ := iter_step hI46; clear hI46; unfold slices_Compact___api_Edge_api_Edge__L2 at hm49; simp only at hm49
   refine WC.seq (sr ?_)
   refine wm Z ?_
   refine wm Z ?_
   obtain ⟨c51, hm52⟩ := cs hm49; clear hm49
   refine wq Z (QV.lenS Try.underlying50 Z Z (subS_slen (sz := 4) hlows0_4 c51)) ?_
   refine wq Z (QV.lss Z Z Z Z) ?_
   refine nt ?_
   refine WC.cond Z (fun h53 => ?_) (fun h53 => ?_)
   ·skip
    have hm54 := br_t h53 hm52; clear hm52
    refine sk (WQ.then (WC.seq (WC.block (WC.seq ?_))))
    refine WC.dr (m := 10) (S := Own M w [kn M w.heap.size K0 K0, vec v_s 61 4 (List.map Edg.cells ows0_4)]) (by kernel_rfl) (by kernel_rfl) (fun w hw => hw.pick [1, 0] (by decide)) ?_
    refine wz 0 Z Z (QV.move Z Z) ?_
    refine wz 1 Z Z (QV.move Z Z) ?_
    obtain ⟨c55, hm56⟩ := cs hm54; clear hm54
    obtain ⟨p57, hp58⟩ := (subS_slen (sz := 4) hlows0_4 c51).ix (sz := 4) ln_len c55
    refine wz 2 Z Z (QV.indexSlice sl50 Z Z Z Z hp58) ?_
    refine wz 3 Z Z (QV.loadAgg ag61 Z Z Z (fun w hw => ((fun w hw => subS_sub ((Own.vecArr 1 Z) w hw) c51) w hw).ele hp58 c55)) ?_
    refine wz 4 Z Z (QV.move Z Z) ?_
    refine wz 5 Z Z (QV.move Z Z) ?_
    obtain ⟨c59, hm60⟩ := cs hm56; clear hm56
    refine wz 6 Z Z (QV.sub Z Z Z Z c59) ?_
    obtain ⟨c61, hm62⟩ := cs hm60; clear hm60
    obtain ⟨p63, hp64⟩ := (subS_slen (sz := 4) hlows0_4 c51).ix (sz := 4) ln_len c61
    refine wz 7 Z Z (QV.indexSlice sl50 Z Z Z Z hp64) ?_
    refine wz 8 Z Z (QV.loadAgg ag61 Z Z Z (fun w hw => ((fun w hw => subS_sub ((Own.vecArr 1 Z) w hw) c51) w hw).ele hp64 c61)) ?_
    refine wz 9 Z Z (QV.neqF eq61 (ns := [(ele (sub ows0_4 k3_3 (ln ows0_3)) k25_4).fr, (ele (sub ows0_4 k3_3 (ln ows0_3)) k25_4).to, (ele (sub ows0_4 k3_3 (ln ows0_3)) k25_4).bk, (ele (sub ows0_4 k3_3 (ln ows0_3)) k25_4).wt]) (ms := [(ele (sub ows0_4 k3_3 (ln ows0_3)) (k25_4 - 1)).fr, (ele (sub ows0_4 k3_3 (ln ows0_3)) (k25_4 - 1)).to, (ele (sub ows0_4 k3_3 (ln ows0_3)) (k25_4 - 1)).bk, (ele (sub ows0_4 k3_3 (ln ows0_3)) (k25_4 - 1)).wt]) Z Z Z Z Z Z) ?_
    refine WD.e (by kernel_rfl) ?_
    refine WQ.then ?_
    refine WC.cond Z (fun h65 => ?_) (fun h65 => ?_)
    ·skip
     have hm66 := br_t h65 hm62; clear hm62
     refine sr ?_
     refine wm Z ?_
     refine wm Z ?_
     refine wm Z ?_
     refine wm Z ?_
     obtain ⟨c67, hm68⟩ := cs hm66; clear hm66
     obtain ⟨p69, hp70⟩ := (subS_slen (sz := 4) hlows0_4 c51).ix (sz := 4) ln_len c67
     refine wq Z (QV.indexSlice sl50 Z Z Z Z hp70) ?_
     refine wq Z (QV.loadAgg ag61 Z Z Z (fun w hw => ((fun w hw => subS_sub ((Own.vecArr 0 Z) w hw) c51) w hw).ele hp70 c67)) ?_
     obtain ⟨c71, hm72⟩ := cs hm68; clear hm68
     obtain ⟨p73, hp74⟩ := hlows0_4.ix (sz := 4) ln_len c71
     refine wq Z (QV.indexSlice sl50 Z Z Z Z hp74) ?_
     refine WL.effect Z ?_
     refine (EV.storeE (enc := Edg.cells) (off := 0) (vs := (Edg.cells (ele (sub ows0_4 k3_3 (ln ows0_3)) k25_4))) 0 (ele (sub ows0_4 k3_3 (ln ows0_3)) k25_4) rfl rfl rfl rfl rfl hp74 c71 (by first | rfl | exact addr_zero _) (show Value.cells _ = List.toArray _ from rfl) sz61 (Nat.le_of_ble_eq_true rfl) (one_cons rfl (one_cons rfl (one_cons rfl (one_cons rfl one_nil)))) rfl ?_)
     have hl75 : SliceLen v_s (upd ows0_4 k3_4 (ele (sub ows0_4 k3_3 (ln ows0_3)) k25_4)).length := slen_upd hlows0_4
     refine nr ?_
     refine wm Z ?_
     obtain ⟨c76, hm77⟩ := cs hm72; clear hm72
     refine wq Z (QV.add Z Z Z Z c76) ?_
     refine wa Z ?_
     refine WL.nil (WQ.block (WQ.then (WC.region ?_)))
     refine wm Z ?_
     obtain ⟨c78, hm79⟩ := cs hm77; clear hm77
     refine wq Z (QV.add Z Z Z Z c78) ?_
     refine wa Z ?_
     refine WL.nil ?_
     exact WQ.again3 (upd ows0_4 k3_4 (ele (sub ows0_4 k3_3 (ln ows0_3)) k25_4)) (k3_4 + 1) (k25_4 + 1) m47 ⟨up_next hm79 hn50, hl75⟩ (Nat.lt_succ_self _) ⟨Z, Z, Z, Z, trivial⟩ (fun w hw => hw.pick [0, 1] (by decide))
    have hm80 := br_f h65 hm62; clear hm62
    refine sk (WQ.block (WQ.then (WC.region ?_)))
    refine wm Z ?_
    obtain ⟨c81, hm82⟩ := cs hm80; clear hm80
    refine wq Z (QV.add Z Z Z Z c81) ?_
    refine wa Z ?_
    refine WL.nil ?_
    exact WQ.again3 ows0_4 k3_4 (k25_4 + 1) m47 ⟨up_next hm82 hn50, hlows0_4⟩ (Nat.lt_succ_self _) ⟨Z, Z, Z, Z, trivial⟩ (fun w hw => hw.pick [0, 1] (by decide))
   have hm83 := br_f h53 hm52; clear hm52
   refine WC.exit (te (te (WQ.block_exit ?_)))
   exact WQ.out3 ows0_4 k3_4 k25_4 ⟨up_brk hm83 hn50, hlows0_4⟩ ⟨Z, Z, Z, Z, trivial⟩ (fun w hw => hw.pick [0, 1] (by decide))
  have hm84 := br_f h29 hm26; clear hm26
  refine sk (WQ.block (WQ.then (WC.region ?_)))
  refine wm Z ?_
  obtain ⟨c85, hm86⟩ := cs hm84; clear hm84
  refine wq Z (QV.add Z Z Z Z c85) ?_
  refine wa Z ?_
  refine WL.nil ?_
  exact WQ.again2 ows0_3 (k3_3 + 1) m13 ⟨up_next hm86 hn16, hlows0_3⟩ (Nat.lt_succ_self _) ⟨Z, Z, trivial⟩ (fun w hw => hw.pick [0, 1] (by decide))
 have hm87 := br_f h17 hm15; clear hm15
 refine WC.exit (te (te (WQ.block_exit ?_)))
 exact WQ.out2 ows0_3 k3_3 ⟨up_brk hm87 hn16, hlows0_3⟩ ⟨Z, Z, trivial⟩ (fun w hw => hw.pick [0, 1] (by decide))

def sortRen : Go.Shelf.Ren := ⟨fun n => match n with | 6 => 65 | 14 => 106 | 15 => 94 | 20 => 124 | 21 => 125 | 22 => 126 | 23 => 127 | 24 => 128 | 25 => 129 | 26 => 130 | 27 => 131 | 28 => 118 | 29 => 119 | 46 => 139 | 47 => 140 | 48 => 141 | 49 => 142 | 50 => 143 | 57 => 146 | n => n, fun n => match n with | 22 => 50 | 24 => 61 | 25 => 112 | 39 => 143 | 45 => 172 | 46 => 173 | 50 => 177 | 53 => 165 | 55 => 167 | 66 => 186 | 70 => 118 | 76 => 194 | 77 => 195 | n => n, fun n => match n with  | n => n⟩
theorem sortL : Go.Proofs.SlLaysF0.n6 Try.prog sortRen where
  mixed := by kernel_rfl
  f6 := ⟨Try.f65.name, by kernel_rfl, Try.func65.trans (congrArg some (by kernel_rfl))⟩
  f14 := ⟨Try.f106.name, by kernel_rfl, Try.func106.trans (congrArg some (by kernel_rfl))⟩
  f15 := Try.func94.trans (congrArg some (by kernel_rfl))
  f20 := ⟨Try.f124.name, by kernel_rfl, Try.func124.trans (congrArg some (by kernel_rfl))⟩
  f21 := ⟨Try.f125.name, by kernel_rfl, Try.func125.trans (congrArg some (by kernel_rfl))⟩
  f22 := ⟨Try.f126.name, by kernel_rfl, Try.func126.trans (congrArg some (by kernel_rfl))⟩
  f23 := ⟨Try.f127.name, by kernel_rfl, Try.func127.trans (congrArg some (by kernel_rfl))⟩
  f24 := ⟨Try.f128.name, by kernel_rfl, Try.func128.trans (congrArg some (by kernel_rfl))⟩
  f25 := ⟨Try.f129.name, by kernel_rfl, Try.func129.trans (congrArg some (by kernel_rfl))⟩
  f26 := ⟨Try.f130.name, by kernel_rfl, Try.func130.trans (congrArg some (by kernel_rfl))⟩
  f27 := ⟨Try.f131.name, by kernel_rfl, Try.func131.trans (congrArg some (by kernel_rfl))⟩
  f28 := Try.func118.trans (congrArg some (by kernel_rfl))
  f29 := Try.func119.trans (congrArg some (by kernel_rfl))
  f46 := ⟨Try.f139.name, by kernel_rfl, Try.func139.trans (congrArg some (by kernel_rfl))⟩
  f47 := Try.func140.trans (congrArg some (by kernel_rfl))
  f48 := Try.func141.trans (congrArg some (by kernel_rfl))
  f49 := ⟨Try.f142.name, by kernel_rfl, Try.func142.trans (congrArg some (by kernel_rfl))⟩
  f50 := ⟨Try.f143.name, by kernel_rfl, Try.func143.trans (congrArg some (by kernel_rfl))⟩
  f57 := ⟨Try.f146.name, by kernel_rfl, Try.func146.trans (congrArg some (by kernel_rfl))⟩
  t0 := Try.underlying0
  a0 := Try.isAgg0
  z0 := Try.sizeOf0
  v0 := Try.zeroValue0
  t3 := Try.underlying3
  a3 := Try.isAgg3
  z3 := Try.sizeOf3
  v3 := Try.zeroValue3
  t4 := Try.underlying4
  a4 := Try.isAgg4
  z4 := Try.sizeOf4
  v4 := Try.zeroValue4
  t5 := Try.underlying5
  a5 := Try.isAgg5
  z5 := Try.sizeOf5
  v5 := Try.zeroValue5
  t9 := Try.underlying9
  a9 := Try.isAgg9
  z9 := Try.sizeOf9
  v9 := Try.zeroValue9
  t22 := Try.underlying50
  a22 := Try.isAgg50
  z22 := Try.sizeOf50
  v22 := Try.zeroValue50
  t25 := Try.underlying112
  a25 := Try.isAgg112
  z25 := Try.sizeOf112
  v25 := Try.zeroValue112
  t39 := Try.underlying143
  a39 := Try.isAgg143
  z39 := Try.sizeOf143
  v39 := Try.zeroValue143
  t45 := Try.underlying172
  a45 := Try.isAgg172
  z45 := Try.sizeOf172
  v45 := Try.zeroValue172
  t46 := Try.underlying173
  a46 := Try.isAgg173
  z46 := Try.sizeOf173
  v46 := Try.zeroValue173
  t50 := Try.underlying177
  a50 := Try.isAgg177
  z50 := Try.sizeOf177
  v50 := Try.zeroValue177
  t53 := Try.underlying165
  a53 := Try.isAgg165
  z53 := Try.sizeOf165
  v53 := Try.zeroValue165
  t55 := Try.underlying167
  a55 := Try.isAgg167
  z55 := Try.sizeOf167
  v55 := Try.zeroValue167
  t66 := Try.underlying186
  a66 := Try.isAgg186
  z66 := Try.sizeOf186
  v66 := Try.zeroValue186
  t70 := Try.underlying118
  a70 := Try.isAgg118
  z70 := Try.sizeOf118
  v70 := Try.zeroValue118
  t76 := Try.underlying194
  a76 := Try.isAgg194
  z76 := Try.sizeOf194
  v76 := Try.zeroValue194
  t77 := Try.underlying195
  a77 := Try.isAgg195
  z77 := Try.sizeOf195
  v77 := Try.zeroValue195
theorem sortE_nil : sortE [] = [] := by simp [sortE]
theorem SortFunc_w {v_x : Value} {x : List Edg} {r : List Edg} {K0 : World} (hm : SortFunc_m x = some r) (h_x : SliceLen v_x x.length) (M : Nat → Prop) (w : World) (hk : Base M K0 w) (hw0 : Own M w [vec v_x 61 4 (List.map Edg.cells x)] w) : Calls Try.prog 65 #[v_x, .func (.func 66) #[] #[]] w (fun e w' => ∃ X : World, e = .returned (.tuple #[]) ∧ Own M w (kn M w.heap.size K0 X :: [vec v_x 61 4 (List.map Edg.cells r)]) w' ∧ SliceLen v_x (r).length) := by
  obtain ⟨hlt, h2⟩ := ck_some hm
  obtain rfl := eq_of_some h2
  have hlen : (sortE x).length = x.length := List.length_mergeSort ..
  obtain ⟨a, c, rfl, ha, hc⟩ := h_x
  by_cases h0 : x = []
  · subst h0
    refine (Go.Proofs.AnyF.slices_SortFunc_none { sortL with } a c (.func (.func 66) #[] #[]) w).mono ?_
    rintro e w' ⟨rfl, rfl⟩
    rw [sortE_nil]
    exact ⟨K0, rfl, Own.startK hk hw0, ⟨a, c, rfl, ha, hc⟩⟩
  · obtain ⟨q, rfl⟩ := Option.isSome_iff_exists.1 (ha (by cases x with | nil => exact absurd rfl h0 | cons _ _ => simp))
    have hv := hw0.head
    have hq : ∃ b, q = ⟨b, 0, none⟩ := by
      rcases hv.1.2 with ⟨h, _⟩ | ⟨g, cap, cur, hv, _⟩
      · cases h
      · simp only [Value.slice.injEq, Option.some.injEq] at hv; exact ⟨g, hv.1⟩
    obtain ⟨b, rfl⟩ := hq
    obtain ⟨hH, _, hb⟩ := vec_holdsK Edg.cells_len (by decide) hv
    refine (Go.Proofs.AnyQ.slices_SortFunc_total sortL 4 Try.isAgg61 Try.sizeOf61 Edg.cells Edg.cells_len (fun u v hv => Edg.cells_one [u] u (List.mem_singleton.2 rfl) v hv) ordV ord_swo 66 #[] b 0 c x.toArray w (enters_of Try.func66 (by kernel_rfl) rfl) ?_ hH hb (by simpa using hlt) ord_total).mono ?_
    · intro m os dk hdk u v
      exact (dep_order_w _ (order_s u v)).mono fun e w' ⟨he, hg⟩ => ⟨he, grow_of hg⟩
    · rintro e w' ⟨rfl, m, os, rfl⟩
      exact ⟨K0, rfl, Own.sorted hk Edg.cells_len (by decide) hw0 hlen m os, by rw [hlen]; exact ⟨_, c, rfl, ha, hc⟩⟩
end Go.Proofs.Ytaimbkndebaaiab
end

section
namespace Go.Proofs.Ytaimbkndebaaiab
open Go.Rd
set_option linter.unusedVariables false
open TNum TLoop TKern TKeep TOrd TCpt
namespace TDep
theorem en104 : Go.Rd.Enters Try.prog 104 := ⟨Try.f104, Try.func104, by kernel_rfl, by kernel_rfl⟩
theorem en105 : Go.Rd.Enters Try.prog 105 := ⟨Try.f105, Try.func105, by kernel_rfl, by kernel_rfl⟩
theorem en63 : Go.Rd.Enters Try.prog 63 := ⟨Try.f63, Try.func63, by kernel_rfl, by kernel_rfl⟩
theorem en64 : Go.Rd.Enters Try.prog 64 := ⟨Try.f64, Try.func64, by kernel_rfl, by kernel_rfl⟩
theorem en65 : Go.Rd.Enters Try.prog 65 := ⟨Try.f65, Try.func65, by kernel_rfl, by kernel_rfl⟩
theorem en67 : Go.Rd.Enters Try.prog 67 := ⟨Try.f67, Try.func67, by kernel_rfl, by kernel_rfl⟩
theorem sz_50 : SliceZ Try.prog 50 61 4 [.int .i64 0, .int .i64 0, .int .i64 0, .int .i64 0] := ⟨Try.underlying50, by kernel_rfl⟩
theorem ve50 : VecT Try.prog 50 61 4 32 := ⟨Try.underlying50, by kernel_rfl, by decide⟩
end TDep
open TDep
set_option maxRecDepth 8000 in
theorem dep_meet_w {a : Stm} {b : Stm} {back : Int} {size : Int} {r : Bool} (w : World) (hm : dep_meet_m a b back size = some r)  : Calls Try.prog 105 #[.agg #[.int .i64 a.op, .int .i64 a.a.st, .int .i64 a.a.bk, .int .i64 a.b.st, .int .i64 a.b.bk, .int .i64 a.ar, .int .i64 a.sp, .int .i64 a.pl, .int .i64 a.n], .agg #[.int .i64 b.op, .int .i64 b.a.st, .int .i64 b.a.bk, .int .i64 b.b.st, .int .i64 b.b.bk, .int .i64 b.ar, .int .i64 b.sp, .int .i64 b.pl, .int .i64 b.n], .int .i64 back, .int .i64 size] w (fun e w' => e = .returned (.bool r) ∧ Grow w w') := by
 unfold dep_meet_m at hm
 have hk := Base.rfl (w := w)
 refine calls_of_WC (n := 36) (args := [.agg #[.int .i64 a.op, .int .i64 a.a.st, .int .i64 a.a.bk, .int .i64 a.b.st, .int .i64 a.b.bk, .int .i64 a.ar, .int .i64 a.sp, .int .i64 a.pl, .int .i64 a.n], .agg #[.int .i64 b.op, .int .i64 b.a.st, .int .i64 b.a.bk, .int .i64 b.b.st, .int .i64 b.b.bk, .int .i64 b.ar, .int .i64 b.sp, .int .i64 b.pl, .int .i64 b.n], .int .i64 back, .int .i64 size]) Try.func105 Z Z (Nat.le_of_ble_eq_true Z) ?_ (Own.startK hk (Own.start w))
 refine sr ?_
 refine WL.effect Z ?_
 refine (EV.boxAgg (by decide) Z Z (fun b1 => ?_))
 refine WL.effect Z ?_
 refine (EV.boxAgg (by decide) Z Z (fun b2 => ?_))
 refine wa Z ?_
 refine nt (WC.seq (sr ?_))
 refine wm Z ?_
 refine wm Z ?_
 refine nt ?_
 obtain ⟨o3, ho4, hm5⟩ := bd_some hm; clear hm; obtain ⟨n6, ho7⟩ := lp_some ho4
 refine WC.bloop1 (H2 := [blk b2 b.cells 59, blk b1 a.cells 59, kn noM w.heap.size w w]) (τ := [(2, (true, _)), (3, (true, _)), (4, (true, _)), (5, (true, _)), (10, (true, _))]) (fun (x11_1 : Int) => [(11, (true, .int .i64 x11_1))]) (fun x11_1 => []) (fun x11_1 m => iter (dep_meet_L0 a b back size) m x11_1 = some o3) (fun x11_1 => o3 = .go x11_1) 0 n6 ho7 ⟨Z, Z, Z, Z, Z, Z, trivial⟩ (fun w hw => hw.pick [0, 1, 2] (by decide)) ?_ ?_
 ·skip
  rintro x11_1 rfl
  refine WQ.then (sr ?_)
  refine wa Z ?_
  refine nt (WC.ret ?_)
  obtain rfl := (eq_of_some hm5).symm
  refine WQ.ret1 Z Z (fun w hw => ?_)
  exact ⟨Z, Own.kgrow (fun _ x => x) hw⟩
 rintro x11_1 m8 hI9
 obtain ⟨m10, s11, rfl, hm12, hn13⟩ := iter_step hI9; clear hI9; unfold dep_meet_L0 at hm12
 refine sr ?_
 refine wq Z (QV.lss Z Z Z Z) ?_
 refine nt (WC.seq ?_)
 refine WC.cond Z (fun h14 => ?_) (fun h14 => ?_)
 ·skip
  have hm15 := br_t h14 hm12; clear hm12
  refine sk (WQ.then (WC.seq (WC.block (sr ?_))))
  refine wm Z ?_
  refine wa Z ?_
  refine ns ?_
  refine wf fd59_4 Z ?_
  refine wl pl3 Z (Own.cell 1 Z Z) ?_
  refine wm Z ?_
  obtain ⟨c16, hm17⟩ := cs hm15; clear hm15
  refine wq Z (QV.mul Z Z Z Z c16) ?_
  refine wf fd59_5 Z ?_
  refine wl pl3 Z (Own.cell 1 Z Z) ?_
  obtain ⟨c18, hm19⟩ := cs hm17; clear hm17
  refine wq Z (QV.add Z Z Z Z c18) ?_
  refine wf fd59_4 Z ?_
  refine wl pl3 Z (Own.cell 0 Z Z) ?_
  refine wm Z ?_
  refine wm Z ?_
  obtain ⟨c20, hm21⟩ := cs hm19; clear hm19
  refine wq Z (QV.add Z Z Z Z c20) ?_
  obtain ⟨c22, hm23⟩ := cs hm21; clear hm21
  refine wq Z (QV.mul Z Z Z Z c22) ?_
  obtain ⟨c24, hm25⟩ := cs hm23; clear hm23
  refine wq Z (QV.sub Z Z Z Z c24) ?_
  refine wf fd59_5 Z ?_
  refine wl pl3 Z (Own.cell 0 Z Z) ?_
  obtain ⟨c26, hm27⟩ := cs hm25; clear hm25
  refine wq Z (QV.sub Z Z Z Z c26) ?_
  refine wm Z ?_
  obtain ⟨c28, hm29⟩ := cs hm27; clear hm27
  refine wq Z (QV.sub Z Z Z Z c28) ?_
  refine wq Z (QV.andW Z Z Z Z) ?_
  refine wq Z (QV.eql Z Z Z Z) ?_
  refine nt ?_
  refine WC.cond Z (fun h30 => ?_) (fun h30 => ?_)
  ·skip
   have hm31 := br_t h30 hm29; clear hm29
   refine sr ?_
   refine wa Z ?_
   refine nt (WC.ret (kr (tr (tr (kr (tr (tr ?_)))))))
   obtain rfl := up_ret hm31 hn13
   obtain rfl := (eq_of_some hm5).symm
   refine WQ.ret1 Z Z (fun w hw => ?_)
   exact ⟨Z, Own.kgrow (fun _ x => x) hw⟩
  have hm32 := br_f h30 hm29; clear hm29
  refine sk (WQ.block (WQ.then (WC.region ?_)))
  obtain ⟨c33, hm34⟩ := cs hm32; clear hm32
  refine wq Z (QV.add Z Z Z Z c33) ?_
  refine wm Z ?_
  refine WL.nil ?_
  exact WQ.again1 (x11_1 + 1) m10 (up_next hm34 hn13) (Nat.lt_succ_self _) ⟨Z, Z, Z, Z, Z, Z, trivial⟩ (fun w hw => hw.pick [0, 1, 2] (by decide))
 have hm35 := br_f h14 hm12; clear hm12
 refine WC.exit (te (te (WQ.block_exit ?_)))
 exact WQ.out1 x11_1 (up_brk hm35 hn13) ⟨Z, Z, Z, Z, Z, Z, trivial⟩ (fun w hw => hw.pick [0, 1, 2] (by decide))

set_option maxRecDepth 8000 in
theorem dep_words_w {s : Stm} {r : Bool} (w : World) (hm : dep_words_m s = some r)  : Calls Try.prog 104 #[.agg #[.int .i64 s.op, .int .i64 s.a.st, .int .i64 s.a.bk, .int .i64 s.b.st, .int .i64 s.b.bk, .int .i64 s.ar, .int .i64 s.sp, .int .i64 s.pl, .int .i64 s.n]] w (fun e w' => e = .returned (.bool r) ∧ Grow w w') := by
 unfold dep_words_m at hm
 have hk := Base.rfl (w := w)
 refine calls_of_WC (n := 11) (args := [.agg #[.int .i64 s.op, .int .i64 s.a.st, .int .i64 s.a.bk, .int .i64 s.b.st, .int .i64 s.b.bk, .int .i64 s.ar, .int .i64 s.sp, .int .i64 s.pl, .int .i64 s.n]]) Try.func104 Z Z (Nat.le_of_ble_eq_true Z) ?_ (Own.startK hk (Own.start w))
 refine sr ?_
 refine WL.effect Z ?_
 refine (EV.boxAgg (by decide) Z Z (fun b1 => ?_))
 refine wa Z ?_
 refine ns ?_
 refine wf fd59_0 Z ?_
 refine wl pl3 Z (Own.cell 0 Z Z) ?_
 refine wq Z (QV.eql Z Z Z Z) ?_
 refine wm Z ?_
 refine gn Z (fun hG => QV.fieldAddr fd59_0 Z Z) ?_
 refine gn Z (fun hG => QV.load pl3 Z hG (Own.cell 0 Z Z)) ?_
 refine gn Z (fun hG => QV.eql Z hG Z Z) ?_
 refine wq Z (QV.pickOr Z Z Z (fun h => notF h)) ?_
 refine wa Z ?_
 refine nt (WC.ret ?_)
 obtain rfl := (eq_of_some hm).symm
 refine WQ.ret1 Z Z (fun w hw => ?_)
 exact ⟨Z, Own.kgrow (fun _ x => x) hw⟩

set_option maxRecDepth 8000 in
theorem dep_memory_w {v_l_logs : Value} {v_l_body : Value} {v_l_outs : Value} {l : Lp} {from_ : Int} {to : Int} {r : Edg × Bool} (w : World) (hm : dep_memory_m l from_ to = some r) (h_l_logs : Arr w v_l_logs 1 (l.logs.map icell)) (h_l_body : Arr w v_l_body 9 (l.body.map Stm.cells)) (h_l_outs : Arr w v_l_outs 1 (l.outs.map icell)) : Calls Try.prog 64 #[.agg #[v_l_logs, v_l_body, v_l_outs], .int .i64 from_, .int .i64 to] w (fun e w' => e = .returned (.tuple #[.agg #[.int .i64 r.1.fr, .int .i64 r.1.to, .int .i64 r.1.bk, .int .i64 r.1.wt], .bool r.2]) ∧ Grow w w') := by
 unfold dep_memory_m at hm
 have hk := Base.rfl (w := w)
 refine calls_of_WC (n := 80) (args := [.agg #[v_l_logs, v_l_body, v_l_outs], .int .i64 from_, .int .i64 to]) Try.func64 Z Z (Nat.le_of_ble_eq_true Z) ?_ (Own.startK hk (Own.start w))
 refine sr ?_
 refine WL.effect Z ?_
 refine (EV.boxAgg (by decide) Z Z (fun b1 => ?_))
 refine WL.effect Z ?_
 refine (EV.alloc (by decide) ze61 (fun b2 => ?_))
 refine wa Z ?_
 refine nt (WC.seq ?_)
 refine WC.dr (m := 14) (S := Own noM w [kn noM w.heap.size w w, blk b2 [.int .i64 0, .int .i64 0, .int .i64 0, .int .i64 0] 61, blk b1 [v_l_logs, v_l_body, v_l_outs] 49]) (by kernel_rfl) (by kernel_rfl) (fun w hw => hw.pick [2, 0, 1] (by decide)) ?_
 refine WD.toL 0 (by kernel_rfl) ?_
 refine WD.qL 0 0 1 Z (by kernel_rfl) Z Z Z (QV.fieldAddr fd49_1 Z Z) ?_
 refine WD.qL 1 1 3 Z (by kernel_rfl) Z Z Z (QV.load pl47 Z Z (Own.cell 2 Z Z)) ?_
 refine WD.qL 2 3 7 Z (by kernel_rfl) Z Z Z (QV.move Z Z) ?_
 obtain ⟨c3, hm4⟩ := cs hm; clear hm
 obtain ⟨p5, hp6⟩ := h_l_body.lenMap.ix (sz := 9) ln_len c3
 refine WD.qL 3 7 15 Z (by kernel_rfl) Z Z Z (QV.indexSlice sl47 Z Z Z Z hp6) ?_
 refine WD.qL 4 15 31 Z (by kernel_rfl) Z Z Z (QV.loadAgg ag59 Z Z Z (fun w hw => ((Own.karr 0 Z hk h_l_body) w hw).ele hp6 c3)) ?_
 refine WD.qL 5 31 63 Z (by kernel_rfl) Z Z Z (QV.fieldAddr fd49_1 Z Z) ?_
 refine WD.qL 6 63 127 Z (by kernel_rfl) Z Z Z (QV.load pl47 Z Z (Own.cell 2 Z Z)) ?_
 refine WD.qL 7 127 255 Z (by kernel_rfl) Z Z Z (QV.move Z Z) ?_
 obtain ⟨c7, hm8⟩ := cs hm4; clear hm4
 obtain ⟨p9, hp10⟩ := h_l_body.lenMap.ix (sz := 9) ln_len c7
 refine WD.qL 8 255 511 Z (by kernel_rfl) Z Z Z (QV.indexSlice sl47 Z Z Z Z hp10) ?_
 refine WD.qL 9 511 1023 Z (by kernel_rfl) Z Z Z (QV.loadAgg ag59 Z Z Z (fun w hw => ((Own.karr 0 Z hk h_l_body) w hw).ele hp10 c7)) ?_
 refine WD.cut2 (fun (b11 : Nat) (b12 : Nat) => [(1, (true, .int .i64 from_)), (2, (true, .int .i64 to)), (3, (true, .pointer (some (⟨b1, 0, none⟩)))), (6, (true, .pointer (some (⟨b2, 0, none⟩)))), (8, (true, .pointer (some (⟨b11, 0, none⟩)))), (9, (true, .pointer (some (⟨b12, 0, none⟩))))]) (fun (b11 : Nat) (b12 : Nat) => Own noM w [blk b12 (Stm.cells (ele l.body to)) 59, blk b11 (Stm.cells (ele l.body from_)) 59, blk b2 [.int .i64 0, .int .i64 0, .int .i64 0, .int .i64 0] 61, blk b1 [v_l_logs, v_l_body, v_l_outs] 49, kn noM w.heap.size w w]) ?_ ?_
 ·skip
  rintro b11 b12
  refine WQ.then (WC.seq (sr ?_))
  refine wq Z (QV.loadAgg ag59 Z Z Z (Own.cellsBlk 1 Z)) ?_
  obtain ⟨x13, hx14, hm15⟩ := bd_some hm8; clear hm8
  refine wq Z (QV.call en104 (EvAll.cons Z Z EvAll.nil) (fun w hw => have h := dep_words_w w hx14 ; h)) ?_
  refine wq Z (QV.not Z Z) ?_
  refine wm Z ?_
  refine gn Z (fun hG => QV.loadAgg ag59 Z Z Z (Own.cellsBlk 0 Z)) ?_
  obtain ⟨x16, hx17, hm18⟩ := bdG_some hm15; clear hm15
  refine gn Z (fun hG => QV.call en104 (EvAll.cons Z hG EvAll.nil) (fun w hw => have h := dep_words_w w (hx17 hG) ; h)) ?_
  refine gn Z (fun hG => QV.not Z hG) ?_
  refine wq Z (QV.pickOr Z Z Z (fun h => notF h)) ?_
  refine wm Z ?_
  refine gn Z (fun hG => QV.fieldAddr fd59_3 Z Z) ?_
  refine gn Z (fun hG => QV.load pl3 Z hG (Own.cell 1 Z Z)) ?_
  refine gn Z (fun hG => QV.fieldAddr fd59_3 Z Z) ?_
  refine gn Z (fun hG => QV.load pl3 Z hG (Own.cell 0 Z Z)) ?_
  refine gn Z (fun hG => QV.neq Z hG Z hG) ?_
  refine wq Z (QV.pickOr Z Z Z (fun h => notF h)) ?_
  refine wm Z ?_
  refine gn Z (fun hG => QV.fieldAddr fd59_0 Z Z) ?_
  refine gn Z (fun hG => QV.load pl3 Z hG (Own.cell 1 Z Z)) ?_
  refine gn Z (fun hG => QV.eql Z hG Z Z) ?_
  refine gn Z (fun hG => QV.move Z hG) ?_
  refine WL.g Z Z (GuardIs.posC Z Z) (fun hG => QV.fieldAddr fd59_0 Z Z) ?_
  refine WL.g Z Z (GuardIs.posC Z Z) (fun hG => QV.load pl3 Z hG (Own.cell 0 Z Z)) ?_
  refine WL.g Z Z (GuardIs.posC Z Z) (fun hG => QV.eql Z hG Z Z) ?_
  refine gn Z (fun hG => QV.pickAnd Z hG Z (fun h => andT hG h)) ?_
  refine wq Z (QV.pickOr Z Z Z (fun h => notF h)) ?_
  refine nt ?_
  refine WC.cond Z (fun h19 => ?_) (fun h19 => ?_)
  ·skip
   have hm20 := br_t h19 hm18; clear hm18
   refine sr ?_
   refine wq Z (QV.build (ps := []) (cells := [.int .i64 0, .int .i64 0, .int .i64 0, .int .i64 0]) EvAll.nil (by kernel_rfl)) ?_
   refine WL.effect Z ?_
   refine (EV.store 2 Z Z Z Z Z Z (vs := [.int .i64 0, .int .i64 0, .int .i64 0, .int .i64 0]) (show Value.cells _ = List.toArray _ from Z) sz61 (Nat.le_of_ble_eq_true Z) (one_cons Z (one_cons Z (one_cons Z (one_cons Z one_nil)))) ?_)
   refine wa Z ?_
   refine nt (WC.ret (tr ?_))
   obtain rfl := (eq_of_some hm20).symm
   refine WQ.retCellTmp Z ag61 Z Z Z (Own.cellsBlk 2 Z) (fun w hw => ?_)
   exact ⟨Z, Own.kgrow (fun _ x => x) hw⟩
  have hm21 := br_f h19 hm18; clear hm18
  refine sk (WQ.then (sr ?_))
  refine wa Z ?_
  refine wa Z ?_
  refine nt (WC.seq (sr ?_))
  refine wm Z ?_
  refine wm Z ?_
  refine wq Z (QV.geq Z Z Z Z) ?_
  refine nt ?_
  obtain ⟨o22, hj23, hm24⟩ := bd_some hm21; clear hm21
  refine WC.joint1 (H2 := [blk b12 (Stm.cells (ele l.body to)) 59, blk b11 (Stm.cells (ele l.body from_)) 59, blk b2 [.int .i64 0, .int .i64 0, .int .i64 0, .int .i64 0] 61, blk b1 [v_l_logs, v_l_body, v_l_outs] 49, kn noM w.heap.size w w]) (τ := [(1, (true, _)), (2, (true, _)), (3, (true, _)), (6, (true, _)), (8, (true, _)), (9, (true, _)), (11, (true, _))]) (fun (least10_1 : Int) => [(10, (true, .int .i64 least10_1))]) (fun least10_1 => []) (fun least10_1 => o22 = .go least10_1) ⟨Z, Z, Z, Z, Z, Z, Z, trivial⟩ (fun w hw => hw.pick [0, 1, 2, 3, 4] (by decide)) ?_ ?_
  ·skip
   rintro least10_1 rfl
   refine WC.seq (sr ?_)
   refine wf fd59_0 Z ?_
   refine wl pl3 Z (Own.cell 1 Z Z) ?_
   refine wq Z (QV.eql Z Z Z Z) ?_
   refine nt ?_
   obtain ⟨o25, hj26, hm27⟩ := bd_some hm24; clear hm24
   refine WC.joint1 (H2 := [blk b12 (Stm.cells (ele l.body to)) 59, blk b11 (Stm.cells (ele l.body from_)) 59, blk b2 [.int .i64 0, .int .i64 0, .int .i64 0, .int .i64 0] 61, blk b1 [v_l_logs, v_l_body, v_l_outs] 49, kn noM w.heap.size w w]) (τ := [(1, (true, _)), (2, (true, _)), (3, (true, _)), (6, (true, _)), (8, (true, _)), (9, (true, _)), (10, (true, _))]) (fun (wait11_2 : Int) => [(11, (true, .int .i64 wait11_2))]) (fun wait11_2 => []) (fun wait11_2 => o25 = .go wait11_2) ⟨Z, Z, Z, Z, Z, Z, Z, trivial⟩ (fun w hw => hw.pick [0, 1, 2, 3, 4] (by decide)) ?_ ?_
   ·skip
    rintro wait11_2 rfl
    refine sr ?_
    refine wf fd49_0 Z ?_
    refine wl pl30 Z (Own.cell 3 Z Z) ?_
    refine wf fd59_3 Z ?_
    refine wl pl3 Z (Own.cell 1 Z Z) ?_
    obtain ⟨c28, hm29⟩ := cs hm27; clear hm27
    obtain ⟨p30, hp31⟩ := h_l_logs.lenMap.ix (sz := 1) ln_len c28
    refine wq Z (QV.indexSlice sl30 Z Z Z Z hp31) ?_
    refine wl pl3 Z (fun w hw => CellsAt.one 0 (((Own.karr 4 Z hk h_l_logs) w hw).ele hp31 c28) Z) ?_
    obtain ⟨c32, hm33⟩ := cs hm29; clear hm29
    refine wq Z (QV.shlD Z Z Z Z c32) ?_
    refine wa Z ?_
    refine nt (WC.seq (sr ?_))
    refine wm Z ?_
    refine wa Z ?_
    refine nt ?_
    obtain ⟨o34, ho35, hm36⟩ := bd_some hm33; clear hm33; obtain ⟨n37, ho38⟩ := lp_some ho35
    refine WC.bloop1 (H2 := [blk b12 (Stm.cells (ele l.body to)) 59, blk b11 (Stm.cells (ele l.body from_)) 59, blk b2 [.int .i64 0, .int .i64 0, .int .i64 0, .int .i64 0] 61, blk b1 [v_l_logs, v_l_body, v_l_outs] 49, kn noM w.heap.size w w]) (τ := [(1, (true, _)), (2, (true, _)), (6, (true, _)), (8, (true, _)), (9, (true, _)), (11, (true, _)), (12, (true, _))]) (fun (back13_3 : Int) => [(13, (true, .int .i64 back13_3))]) (fun back13_3 => []) (fun back13_3 m => iter (dep_memory_L0 l from_ to wait11_2) m back13_3 = some o34) (fun back13_3 => o34 = .go back13_3) least10_1 n37 ho38 ⟨Z, Z, Z, Z, Z, Z, Z, Z, trivial⟩ (fun w hw => hw.pick [0, 1, 2, 3, 4] (by decide)) ?_ ?_
    ·skip
     rintro back13_3 rfl
     refine WQ.then (sr ?_)
     refine wq Z (QV.build (ps := []) (cells := [.int .i64 0, .int .i64 0, .int .i64 0, .int .i64 0]) EvAll.nil (by kernel_rfl)) ?_
     refine WL.effect Z ?_
     refine (EV.store 2 Z Z Z Z Z Z (vs := [.int .i64 0, .int .i64 0, .int .i64 0, .int .i64 0]) (show Value.cells _ = List.toArray _ from Z) sz61 (Nat.le_of_ble_eq_true Z) (one_cons Z (one_cons Z (one_cons Z (one_cons Z one_nil)))) ?_)
     refine wa Z ?_
     refine nt (WC.ret ?_)
     obtain rfl := (eq_of_some hm36).symm
     refine WQ.retCellTmp Z ag61 Z Z Z (Own.cellsBlk 2 Z) (fun w hw => ?_)
     exact ⟨Z, Own.kgrow (fun _ x => x) hw⟩
    rintro back13_3 m39 hI40
    obtain ⟨m41, s42, rfl, hm43, hn44⟩ := iter_step hI40; clear hI40; unfold dep_memory_L0 at hm43
    refine WC.seq (sr ?_)
    refine wm Z ?_
    refine wm Z ?_
    refine wq Z (QV.leq Z Z Z Z) ?_
    refine nt ?_
    refine WC.cond Z (fun h45 => ?_) (fun h45 => ?_)
    ·skip
     have hm46 := br_t h45 hm43; clear hm43
     refine sk (WQ.then (WC.seq (WC.block (sr ?_))))
     refine wq Z (QV.loadAgg ag59 Z Z Z (Own.cellsBlk 1 Z)) ?_
     refine wq Z (QV.loadAgg ag59 Z Z Z (Own.cellsBlk 0 Z)) ?_
     refine wm Z ?_
     refine wm Z ?_
     obtain ⟨x47, hx48, hm49⟩ := bd_some hm46; clear hm46
     refine wq Z (QV.call en105 (EvAll.cons Z Z (EvAll.cons Z Z (EvAll.cons Z Z (EvAll.cons Z Z EvAll.nil)))) (fun w hw => have h := dep_meet_w w hx48 ; h)) ?_
     refine nt ?_
     refine WC.cond Z (fun h50 => ?_) (fun h50 => ?_)
     ·skip
      have hm51 := br_t h50 hm49; clear hm49
      refine sr ?_
      refine wm Z ?_
      refine wm Z ?_
      refine wm Z ?_
      refine wm Z ?_
      refine wq Z (QV.build (ps := [(0, .tmp 74), (1, .tmp 75), (2, .tmp 76), (3, .tmp 77)]) (cells := [.int .i64 from_, .int .i64 to, .int .i64 back13_3, .int .i64 wait11_2]) (EvAll.cons Z Z (EvAll.cons Z Z (EvAll.cons Z Z (EvAll.cons Z Z EvAll.nil)))) (by kernel_rfl)) ?_
      refine WL.effect Z ?_
      refine (EV.store 2 Z Z Z Z Z Z (vs := [.int .i64 from_, .int .i64 to, .int .i64 back13_3, .int .i64 wait11_2]) (show Value.cells _ = List.toArray _ from Z) sz61 (Nat.le_of_ble_eq_true Z) (one_cons Z (one_cons Z (one_cons Z (one_cons Z one_nil)))) ?_)
      refine wa Z ?_
      refine nt (WC.ret (kr (tr (tr (kr (tr (tr ?_)))))))
      obtain rfl := up_ret hm51 hn44
      obtain rfl := (eq_of_some hm36).symm
      refine WQ.retCellTmp Z ag61 Z Z Z (Own.cellsBlk 2 Z) (fun w hw => ?_)
      exact ⟨Z, Own.kgrow (fun _ x => x) hw⟩
     have hm52 := br_f h50 hm49; clear hm49
     refine sk (WQ.block (WQ.then (WC.region ?_)))
     refine wm Z ?_
     obtain ⟨c53, hm54⟩ := cs hm52; clear hm52
     refine wq Z (QV.add Z Z Z Z c53) ?_
     refine wa Z ?_
     refine WL.nil ?_
     exact WQ.again1 (back13_3 + 1) m41 (up_next hm54 hn44) (Nat.lt_succ_self _) ⟨Z, Z, Z, Z, Z, Z, Z, Z, trivial⟩ (fun w hw => hw.pick [0, 1, 2, 3, 4] (by decide))
    have hm55 := br_f h45 hm43; clear hm43
    refine WC.exit (te (te (WQ.block_exit ?_)))
    exact WQ.out1 back13_3 (up_brk hm55 hn44) ⟨Z, Z, Z, Z, Z, Z, Z, Z, trivial⟩ (fun w hw => hw.pick [0, 1, 2, 3, 4] (by decide))
   refine WC.cond Z (fun h56 => ?_) (fun h56 => ?_)
   ·skip
    have hm57 := br_t h56 hj26; clear hj26
    refine WC.region ?_
    refine wa Z ?_
    refine WL.nil ?_
    exact WQ.out1 1 (eq_of_some hm57) ⟨Z, Z, Z, Z, Z, Z, Z, Z, trivial⟩ (fun w hw => hw.pick [0, 1, 2, 3, 4] (by decide))
   have hm58 := br_f h56 hj26; clear hj26
   refine sk ?_
   exact WQ.out1 0 (eq_of_some hm58) ⟨Z, Z, Z, Z, Z, Z, Z, Z, trivial⟩ (fun w hw => hw.pick [0, 1, 2, 3, 4] (by decide))
  refine WC.cond Z (fun h59 => ?_) (fun h59 => ?_)
  ·skip
   have hm60 := br_t h59 hj23; clear hj23
   refine WC.region ?_
   refine wa Z ?_
   refine WL.nil ?_
   exact WQ.out1 1 (eq_of_some hm60) ⟨Z, Z, Z, Z, Z, Z, Z, Z, trivial⟩ (fun w hw => hw.pick [0, 1, 2, 3, 4] (by decide))
  have hm61 := br_f h59 hj23; clear hj23
  refine sk ?_
  exact WQ.out1 0 (eq_of_some hm61) ⟨Z, Z, Z, Z, Z, Z, Z, Z, trivial⟩ (fun w hw => hw.pick [0, 1, 2, 3, 4] (by decide))
 refine WD.two 10 11 1023 2047 3071 (by kernel_rfl) Z Z Z Z (by kernel_rfl) (by kernel_rfl) ?_ ?_
 ·skip
  refine (EV.alloc (by decide) ze59 (fun b62 => ?_))
  refine WD.b (H' := [kn noM w.heap.size w w, blk b2 [.int .i64 0, .int .i64 0, .int .i64 0, .int .i64 0] 61, blk b1 [v_l_logs, v_l_body, v_l_outs] 49]) (fun w hw => hw.pick [3, 1, 2] (by decide)) (fun w hw => hw) ?_
  refine WD.oL 11 2047 4095 Z (by kernel_rfl) Z ?_
  refine (EV.alloc (by decide) ze59 (fun b63 => ?_))
  refine WD.b (H' := [kn noM w.heap.size w w, blk b2 [.int .i64 0, .int .i64 0, .int .i64 0, .int .i64 0] 61, blk b1 [v_l_logs, v_l_body, v_l_outs] 49]) (fun w hw => hw.pick [4, 2, 3] (by decide)) (fun w hw => hw) ?_
  refine WD.oL 12 4095 8191 Z (by kernel_rfl) Z ?_
  refine (EV.store 1 Z Z Z Z Z Z (vs := (Stm.cells (ele l.body from_))) (show Value.cells _ = List.toArray _ from Z) sz59 (Nat.le_of_ble_eq_true Z) (one_cons Z (one_cons Z (one_cons Z (one_cons Z (one_cons Z (one_cons Z (one_cons Z (one_cons Z (one_cons Z one_nil))))))))) ?_)
  refine WD.b (H' := [kn noM w.heap.size w w, blk b2 [.int .i64 0, .int .i64 0, .int .i64 0, .int .i64 0] 61, blk b1 [v_l_logs, v_l_body, v_l_outs] 49]) (fun w hw => hw.pick [4, 2, 3] (by decide)) (fun w hw => hw) ?_
  refine WD.oL 13 8191 16383 Z (by kernel_rfl) Z ?_
  refine (EV.store 0 Z Z Z Z Z Z (vs := (Stm.cells (ele l.body to))) (show Value.cells _ = List.toArray _ from Z) sz59 (Nat.le_of_ble_eq_true Z) (one_cons Z (one_cons Z (one_cons Z (one_cons Z (one_cons Z (one_cons Z (one_cons Z (one_cons Z (one_cons Z one_nil))))))))) ?_)
  refine WD.b (H' := [kn noM w.heap.size w w, blk b2 [.int .i64 0, .int .i64 0, .int .i64 0, .int .i64 0] 61, blk b1 [v_l_logs, v_l_body, v_l_outs] 49]) (fun w hw => hw.pick [4, 2, 3] (by decide)) (fun w hw => hw) ?_
  refine WD.eL (by kernel_rfl) ?_
  exact WQ.cutEnd2 b62 b63 ⟨Z, Z, Z, Z, Z, Z, trivial⟩ (fun w hw => hw.pick [0, 1, 2, 3, 4] (by decide))
 refine (EV.alloc (by decide) ze59 (fun b64 => ?_))
 refine WD.b (H' := [kn noM w.heap.size w w, blk b2 [.int .i64 0, .int .i64 0, .int .i64 0, .int .i64 0] 61, blk b1 [v_l_logs, v_l_body, v_l_outs] 49]) (fun w hw => hw.pick [3, 1, 2] (by decide)) (fun w hw => hw) ?_
 refine WD.oL 10 3071 4095 Z (by kernel_rfl) Z ?_
 refine (EV.alloc (by decide) ze59 (fun b65 => ?_))
 refine WD.b (H' := [kn noM w.heap.size w w, blk b2 [.int .i64 0, .int .i64 0, .int .i64 0, .int .i64 0] 61, blk b1 [v_l_logs, v_l_body, v_l_outs] 49]) (fun w hw => hw.pick [4, 2, 3] (by decide)) (fun w hw => hw) ?_
 refine WD.oL 12 4095 8191 Z (by kernel_rfl) Z ?_
 refine (EV.store 0 Z Z Z Z Z Z (vs := (Stm.cells (ele l.body from_))) (show Value.cells _ = List.toArray _ from Z) sz59 (Nat.le_of_ble_eq_true Z) (one_cons Z (one_cons Z (one_cons Z (one_cons Z (one_cons Z (one_cons Z (one_cons Z (one_cons Z (one_cons Z one_nil))))))))) ?_)
 refine WD.b (H' := [kn noM w.heap.size w w, blk b2 [.int .i64 0, .int .i64 0, .int .i64 0, .int .i64 0] 61, blk b1 [v_l_logs, v_l_body, v_l_outs] 49]) (fun w hw => hw.pick [4, 2, 3] (by decide)) (fun w hw => hw) ?_
 refine WD.oL 13 8191 16383 Z (by kernel_rfl) Z ?_
 refine (EV.store 1 Z Z Z Z Z Z (vs := (Stm.cells (ele l.body to))) (show Value.cells _ = List.toArray _ from Z) sz59 (Nat.le_of_ble_eq_true Z) (one_cons Z (one_cons Z (one_cons Z (one_cons Z (one_cons Z (one_cons Z (one_cons Z (one_cons Z (one_cons Z one_nil))))))))) ?_)
 refine WD.b (H' := [kn noM w.heap.size w w, blk b2 [.int .i64 0, .int .i64 0, .int .i64 0, .int .i64 0] 61, blk b1 [v_l_logs, v_l_body, v_l_outs] 49]) (fun w hw => hw.pick [4, 2, 3] (by decide)) (fun w hw => hw) ?_
 refine WD.eL (by kernel_rfl) ?_
 exact WQ.cutEnd2 b65 b64 ⟨Z, Z, Z, Z, Z, Z, trivial⟩ (fun w hw => hw.pick [1, 0, 2, 3, 4] (by decide))

set_option maxRecDepth 8000 in
theorem dep_Edges_w {v_l_logs : Value} {v_l_body : Value} {v_l_outs : Value} {l : Lp} {t : Tgt} {r : List Edg × Int} {K0 : World} (hm : dep_Edges_m l t = some r) (h_l_logs : Arr K0 v_l_logs 1 (l.logs.map icell)) (h_l_body : Arr K0 v_l_body 9 (l.body.map Stm.cells)) (h_l_outs : Arr K0 v_l_outs 1 (l.outs.map icell)) (M : Nat → Prop) (w : World) (hk : Base M K0 w) (hw0 : Own M w [] w) : Calls Try.prog 23 #[.agg #[v_l_logs, v_l_body, v_l_outs], .agg #[.int .i64 t.u0, .int .i64 t.u1, .int .i64 t.u2, .int .i64 t.w0, .int .i64 t.w1, .int .i64 t.w2, .int .i64 t.regs]] w (fun e w' => ∃ X : Value × World, e = .returned (.tuple #[X.1, .int .i64 r.2]) ∧ Own M w (kn M w.heap.size K0 X.2 :: []) w' ∧ Arr X.2 X.1 4 (r.1.map Edg.cells)) := by
 unfold dep_Edges_m at hm
 refine calls_of_WC (n := 80) (args := [.agg #[v_l_logs, v_l_body, v_l_outs], .agg #[.int .i64 t.u0, .int .i64 t.u1, .int .i64 t.u2, .int .i64 t.w0, .int .i64 t.w1, .int .i64 t.w2, .int .i64 t.regs]]) Try.func23 Z Z (Nat.le_of_ble_eq_true Z) ?_ (Own.startK hk hw0)
 refine sr ?_
 refine WL.effect Z ?_
 refine (EV.boxAgg (by decide) Z Z (fun b1 => ?_))
 refine WL.effect Z ?_
 refine (EV.boxAgg (by decide) Z Z (fun b2 => ?_))
 refine wa Z ?_
 refine wa Z ?_
 refine nt (WC.seq (sr ?_))
 refine wq Z (QV.loadAgg ag49 Z Z Z (Own.cellsBlk 1 Z)) ?_
 obtain ⟨x3, hx4, hm5⟩ := bd_some hm; clear hm
 refine wq Z (QV.call en61 (EvAll.cons Z Z EvAll.nil) (fun w hw => have h := loop_May_w w hx4 ((Own.karr 2 Z hk h_l_logs) w hw) ((Own.karr 2 Z hk h_l_body) w hw) ((Own.karr 2 Z hk h_l_outs) w hw); h)) ?_
 refine wq Z (QV.not Z Z) ?_
 refine wm Z ?_
 refine gn Z (fun hG => QV.loadAgg ag24 Z Z Z (Own.cellsBlk 0 Z)) ?_
 obtain ⟨x6, hx7, hm8⟩ := bdG_some hm5; clear hm5
 refine gn Z (fun hG => QV.call en46 (EvAll.cons Z hG EvAll.nil) (fun w hw => have h := target_May_w w (hx7 hG) ; h)) ?_
 refine gn Z (fun hG => QV.not Z hG) ?_
 refine wq Z (QV.pickOr Z Z Z (fun h => notF h)) ?_
 refine nt ?_
 refine WC.cond Z (fun h9 => ?_) (fun h9 => ?_)
 ·skip
  have hm10 := br_t h9 hm8; clear hm8
  refine sr ?_
  refine wa Z ?_
  refine wa Z ?_
  refine nt (WC.ret (tr ?_))
  obtain rfl := (eq_of_some hm10).symm
  refine WQ.ret2 Z Z Z (fun w hw => ?_)
  exact ⟨(.slice none 0 0, K0), Z, hw.pick [2] (by decide), Arr.nil⟩
 have hm11 := br_f h9 hm8; clear hm8
 refine sk (WQ.then (sr ?_))
 refine wa Z ?_
 refine nt (WC.seq (sr ?_))
 refine wf fd49_1 Z ?_
 refine wl pl47 Z (Own.cell 1 Z Z) ?_
 refine wq Z (QV.lenS Try.underlying47 Z Z h_l_body.lenMap) ?_
 refine wm Z ?_
 refine nt ?_
 refine WK.of (fun w hw => hw.vecNil (E := 61) (sz := 4) (enc := Edg.cells)) ?_
 obtain ⟨o13, ho14, hm15⟩ := bd_some hm11; clear hm11; obtain ⟨n16, ho17⟩ := lp_some ho14
 refine WC.bloop4 (H2 := [blk b2 t.cells 24, blk b1 [v_l_logs, v_l_body, v_l_outs] 49]) (τ := [(2, (true, _)), (3, (true, _)), (23, (true, _)), (24, (true, _))]) (fun (v12_7 : List Edg) (x25_7 : Int) (uv12_7 : Value) (k_7 : World) => [(6, (true, uv12_7)), (25, (true, .int .i64 x25_7))]) (fun v12_7 x25_7 uv12_7 k_7 => [vec uv12_7 61 4 (List.map Edg.cells v12_7), kn M w.heap.size K0 k_7]) (fun v12_7 x25_7 uv12_7 k_7 m => iter (dep_Edges_L0 l t) m (v12_7, x25_7) = some o13 ∧ SliceLen uv12_7 v12_7.length ∧ Le K0 k_7) (fun v12_7 x25_7 uv12_7 k_7 => o13 = .go (v12_7, x25_7) ∧ SliceLen uv12_7 v12_7.length ∧ Le K0 k_7) [] 0 (.slice none 0 0) K0 n16 ⟨ho17, SliceLen.nil, (Le.refl _)⟩ ⟨Z, Z, Z, Z, Z, Z, trivial⟩ (fun w hw => hw.pick [0, 3, 1, 2] (by decide)) ?_ ?_
 ·skip
  rintro v12_7 x25_7 uv12_7 k_7 ⟨rfl, hlv12_7, hle_7⟩
  refine WQ.then (sr ?_)
  refine wm Z ?_
  refine WL.effect Z ?_
  obtain ⟨x18, hx19, hm20⟩ := bd_some hm15; clear hm15
  refine EV.of (C' := Own M w [kn M w.heap.size K0 k_7, vec uv12_7 61 4 (List.map Edg.cells v12_7), blk b2 t.cells 24, blk b1 [v_l_logs, v_l_body, v_l_outs] 49]) (fun w hw => hw.pick [1, 0, 2, 3] (by decide)) ?_
  refine (EV.callR (X := World) (R := [vec uv12_7 61 4 (List.map Edg.cells v12_7)]) (fun X => .tuple #[]) (fun X => [vec uv12_7 61 4 (List.map Edg.cells x18)]) (fun X => X) (fun X => SliceLen uv12_7 (x18).length) hk (fun _ h => by cases h; decide) en65 (EvAll.cons Z Z (EvAll.cons Z Z EvAll.nil)) (fun M w h1 h2 => have h := SortFunc_w hx19 hlv12_7 M w h1 h2; h) (fun X21 hF21 hle21 => ?_))
  refine ns ?_
  refine wm Z ?_
  refine WL.effect Z ?_
  obtain ⟨x22, hx23, hm24⟩ := bd_some hm20; clear hm20
  refine (EV.callR (X := Value × World) (R := [vec uv12_7 61 4 (List.map Edg.cells x18)]) (fun X => X.1) (fun X => []) (fun X => X.2) (fun X => Arr X.2 X.1 4 (x22.map Edg.cells)) hk (fun _ h => by cases h; decide) en67 (EvAll.cons Z Z EvAll.nil) (fun M w h1 h2 => have h := slices_Compact___api_Edge_api_Edge__w hx23 hF21 M w h1 h2; h) (fun X25 hF25 hle25 => ?_))
  refine wa Z ?_
  refine wa Z ?_
  refine nt (WC.ret ?_)
  obtain rfl := (eq_of_some hm24).symm
  refine WQ.ret2 Z Z Z (fun w hw => ?_)
  exact ⟨(X25.1, X25.2), Z, hw.pick [0] (by decide), hF25⟩
 rintro v12_7 x25_7 uv12_7 k_7 m26 ⟨hI27, hlv12_7, hle_7⟩
 obtain ⟨m28, s29, rfl, hm30, hn31⟩ := iter_step hI27; clear hI27; unfold dep_Edges_L0 at hm30; simp only at hm30
 refine sr ?_
 refine wq Z (QV.lss Z Z Z Z) ?_
 refine nt (WC.seq ?_)
 refine WC.cond Z (fun h32 => ?_) (fun h32 => ?_)
 ·skip
  have hm33 := br_t h32 hm30; clear hm30
  refine sk (WQ.then (WC.seq (WC.block (sr ?_))))
  refine wm Z ?_
  obtain ⟨c34, hm35⟩ := cs hm33; clear hm33
  obtain ⟨p36, hp37⟩ := (h_l_body.le hle_7).lenMap.ix (sz := 9) ln_len c34
  refine wq Z (QV.indexSlice sl47 Z Z Z Z hp37) ?_
  refine wq Z (QV.loadAgg ag59 Z Z Z (fun w hw => ((Own.karr 1 Z hk (h_l_body.le hle_7)) w hw).ele hp37 c34)) ?_
  refine WL.effect Z ?_
  refine (EV.alloc (by decide) ze59 (fun b38 => ?_))
  refine wa Z ?_
  refine WL.effect Z ?_
  refine (EV.store 0 Z Z Z Z Z Z (vs := (Stm.cells (ele l.body x25_7))) (show Value.cells _ = List.toArray _ from Z) sz59 (Nat.le_of_ble_eq_true Z) (one_cons Z (one_cons Z (one_cons Z (one_cons Z (one_cons Z (one_cons Z (one_cons Z (one_cons Z (one_cons Z one_nil))))))))) ?_)
  refine nt (WC.seq (sr ?_))
  refine wq Z (QV.loadAgg ag59 Z Z Z (Own.cellsBlk 0 Z)) ?_
  refine WL.effect Z ?_
  obtain ⟨x39, hx40, hm41⟩ := bd_some hm35; clear hm35
  refine EV.of (C' := Own M w [kn M w.heap.size K0 k_7, blk b38 (Stm.cells (ele l.body x25_7)) 59, vec uv12_7 61 4 (List.map Edg.cells v12_7), blk b2 t.cells 24, blk b1 [v_l_logs, v_l_body, v_l_outs] 49]) (fun w hw => hw.pick [2, 0, 1, 3, 4] (by decide)) ?_
  refine (EV.callR (X := Value × World) (R := []) (fun X => X.1) (fun X => []) (fun X => X.2) (fun X => Arr X.2 X.1 2 (x39.map Rf.cells)) hk (fun _ h => by cases h; decide) en62 (EvAll.cons Z Z EvAll.nil) (fun M w h1 h2 => have h := loop_Uses_w hx40  M w h1 h2; h) (fun X42 hF42 hle42 => ?_))
  refine wq Z (QV.lenS Try.underlying106 Z Z hF42.lenMap) ?_
  refine wm Z ?_
  refine nt ?_
  obtain ⟨o43, ho44, hm45⟩ := bd_some hm41; clear hm41; obtain ⟨n46, ho47⟩ := lp_some ho44
  refine WC.bloop3 (H2 := [kn M w.heap.size K0 X42.2, blk b38 (Stm.cells (ele l.body x25_7)) 59, blk b2 t.cells 24, blk b1 [v_l_logs, v_l_body, v_l_outs] 49]) (τ := [(2, (true, _)), (3, (true, _)), (7, (true, _)), (23, (true, _)), (24, (true, _)), (25, (true, _)), (31, (true, _)), (32, (true, _))]) (fun (v12_8 : List Edg) (x33_8 : Int) (uv12_8 : Value) => [(6, (true, uv12_8)), (33, (true, .int .i64 x33_8))]) (fun v12_8 x33_8 uv12_8 => [vec uv12_8 61 4 (List.map Edg.cells v12_8)]) (fun v12_8 x33_8 uv12_8 m => iter (dep_Edges_L2 l t x25_7 x39) m (v12_8, x33_8) = some o43 ∧ SliceLen uv12_8 v12_8.length) (fun v12_8 x33_8 uv12_8 => o43 = .go (v12_8, x33_8) ∧ SliceLen uv12_8 v12_8.length) v12_7 0 uv12_7 n46 ⟨ho47, hlv12_7⟩ ⟨Z, Z, Z, Z, Z, Z, Z, Z, Z, Z, trivial⟩ (fun w hw => hw.pick [2, 0, 1, 3, 4] (by decide)) ?_ ?_
  ·skip
   rintro v12_8 x33_8 uv12_8 ⟨rfl, hlv12_8⟩
   refine WQ.then (sr ?_)
   refine wf fd49_1 Z ?_
   refine wl pl47 Z (Own.cell 4 Z Z) ?_
   refine wq Z (QV.lenS Try.underlying47 Z Z (h_l_body.le (hle_7.trans hle42)).lenMap) ?_
   refine wm Z ?_
   refine nt ?_
   obtain ⟨o48, ho49, hm50⟩ := bd_some hm45; clear hm45; obtain ⟨n51, ho52⟩ := lp_some ho49
   refine WC.bloop3 (H2 := [kn M w.heap.size K0 X42.2, blk b38 (Stm.cells (ele l.body x25_7)) 59, blk b2 t.cells 24, blk b1 [v_l_logs, v_l_body, v_l_outs] 49]) (τ := [(2, (true, _)), (3, (true, _)), (7, (true, _)), (23, (true, _)), (24, (true, _)), (25, (true, _)), (58, (true, _))]) (fun (v12_9 : List Edg) (x59_9 : Int) (uv12_9 : Value) => [(6, (true, uv12_9)), (59, (true, .int .i64 x59_9))]) (fun v12_9 x59_9 uv12_9 => [vec uv12_9 61 4 (List.map Edg.cells v12_9)]) (fun v12_9 x59_9 uv12_9 m => iter (dep_Edges_L4 l x25_7) m (v12_9, x59_9) = some o48 ∧ SliceLen uv12_9 v12_9.length) (fun v12_9 x59_9 uv12_9 => o48 = .go (v12_9, x59_9) ∧ SliceLen uv12_9 v12_9.length) v12_8 0 uv12_8 n51 ⟨ho52, hlv12_8⟩ ⟨Z, Z, Z, Z, Z, Z, Z, Z, Z, trivial⟩ (fun w hw => hw.pick [0, 1, 2, 3, 4] (by decide)) ?_ ?_
   ·skip
    rintro v12_9 x59_9 uv12_9 ⟨rfl, hlv12_9⟩
    refine WQ.block (WQ.then (WC.region ?_))
    obtain ⟨c53, hm54⟩ := cs hm50; clear hm50
    refine wq Z (QV.add Z Z Z Z c53) ?_
    refine wm Z ?_
    refine WL.nil ?_
    exact WQ.again4 v12_9 (x25_7 + 1) uv12_9 X42.2 m28 ⟨up_next hm54 hn31, hlv12_9, (hle_7.trans hle42)⟩ (Nat.lt_succ_self _) ⟨Z, Z, Z, Z, Z, Z, trivial⟩ (fun w hw => hw.pick [0, 1, 3, 4] (by decide))
   rintro v12_9 x59_9 uv12_9 m55 ⟨hI56, hlv12_9⟩
   obtain ⟨m57, s58, rfl, hm59, hn60⟩ := iter_step hI56; clear hI56; unfold dep_Edges_L4 at hm59; simp only at hm59
   refine sr ?_
   refine wq Z (QV.lss Z Z Z Z) ?_
   refine nt (WC.seq ?_)
   refine WC.cond Z (fun h61 => ?_) (fun h61 => ?_)
   ·skip
    have hm62 := br_t h61 hm59; clear hm59
    refine sk (WQ.then (WC.seq (WC.block (sr ?_))))
    refine wm Z ?_
    refine wa Z ?_
    refine ns ?_
    refine wq Z (QV.loadAgg ag49 Z Z Z (Own.cellsBlk 4 Z)) ?_
    refine wm Z ?_
    refine wm Z ?_
    obtain ⟨x63, hx64, hm65⟩ := bd_some hm62; clear hm62
    refine wq Z (QV.call en64 (EvAll.cons Z Z (EvAll.cons Z Z (EvAll.cons Z Z EvAll.nil))) (fun w hw => have h := dep_memory_w w hx64 ((Own.karr 1 Z hk (h_l_logs.le (hle_7.trans hle42))) w hw) ((Own.karr 1 Z hk (h_l_body.le (hle_7.trans hle42))) w hw) ((Own.karr 1 Z hk (h_l_outs.le (hle_7.trans hle42))) w hw); h)) ?_
    refine wm Z ?_
    refine wq Z (QV.extract Z Z Z) ?_
    refine wq Z (QV.extract Z Z Z) ?_
    refine WL.effect Z ?_
    refine (EV.alloc (by decide) ze61 (fun b66 => ?_))
    refine WL.effect Z ?_
    refine (EV.store 0 Z Z Z Z Z Z (vs := (Edg.cells x63.1)) (show Value.cells _ = List.toArray _ from Z) sz61 (Nat.le_of_ble_eq_true Z) (one_cons Z (one_cons Z (one_cons Z (one_cons Z one_nil)))) ?_)
    refine wa Z ?_
    refine ns ?_
    refine wm Z ?_
    refine nt ?_
    refine WC.cond Z (fun h67 => ?_) (fun h67 => ?_)
    ·skip
     have hm68 := br_t h67 hm65; clear hm65
     refine WC.region ?_
     refine wm Z ?_
     refine wq Z (QV.loadAgg ag61 Z Z Z (Own.cellsBlk 0 Z)) ?_
     refine WL.effect Z ?_
     refine (EV.buildSlice (by decide) sz_50 (by decide) (by decide) (ps := [(0, .tmp 71)]) (cells := (Edg.cells x63.1)) (EvAll.cons Z Z EvAll.nil) (by kernel_rfl) (fun b69 => ?_))
     refine WL.effect Z ?_
     obtain ⟨c70, hm71⟩ := cs hm68; clear hm68
     refine (EV.appendL (enc := Edg.cells) (xs := v12_9) (ys := [x63.1]) ((v12_9 ++ [x63.1])) 2 (by decide) ve50 Z Z Z Z Z (Own.blkArr 0 (rows := [x63.1].map Edg.cells) Z Z (rows_len Edg.cells_len)) Edg.cells_len (Edg.cells_one _) Z c70.1 c70.2 (fun u72 hu73 => ?_))
     refine wa Z ?_
     refine WL.nil (WQ.block (WQ.then (WC.region ?_)))
     obtain ⟨c74, hm75⟩ := cs hm71; clear hm71
     refine wq Z (QV.add Z Z Z Z c74) ?_
     refine wm Z ?_
     refine WL.nil ?_
     exact WQ.again3 (v12_9 ++ [x63.1]) (x59_9 + 1) u72 m57 ⟨up_next hm75 hn60, hu73⟩ (Nat.lt_succ_self _) ⟨Z, Z, Z, Z, Z, Z, Z, Z, Z, trivial⟩ (fun w hw => hw.pick [2, 3, 4, 5, 6] (by decide))
    have hm76 := br_f h67 hm65; clear hm65
    refine sk (WQ.block (WQ.then (WC.region ?_)))
    obtain ⟨c77, hm78⟩ := cs hm76; clear hm76
    refine wq Z (QV.add Z Z Z Z c77) ?_
    refine wm Z ?_
    refine WL.nil ?_
    exact WQ.again3 v12_9 (x59_9 + 1) uv12_9 m57 ⟨up_next hm78 hn60, hlv12_9⟩ (Nat.lt_succ_self _) ⟨Z, Z, Z, Z, Z, Z, Z, Z, Z, trivial⟩ (fun w hw => hw.pick [1, 2, 3, 4, 5] (by decide))
   have hm79 := br_f h61 hm59; clear hm59
   refine WC.exit (te (te (WQ.block_exit ?_)))
   exact WQ.out3 v12_9 x59_9 uv12_9 ⟨up_brk hm79 hn60, hlv12_9⟩ ⟨Z, Z, Z, Z, Z, Z, Z, Z, Z, trivial⟩ (fun w hw => hw.pick [0, 1, 2, 3, 4] (by decide))
  rintro v12_8 x33_8 uv12_8 m80 ⟨hI81, hlv12_8⟩
  obtain ⟨m82, s83, rfl, hm84, hn85⟩ := iter_step hI81; clear hI81; unfold dep_Edges_L2 at hm84; simp only at hm84
  refine sr ?_
  refine wq Z (QV.lss Z Z Z Z) ?_
  refine nt (WC.seq ?_)
  refine WC.cond Z (fun h86 => ?_) (fun h86 => ?_)
  ·skip
   have hm87 := br_t h86 hm84; clear hm84
   refine sk (WQ.then (WC.seq (WC.block (sr ?_))))
   obtain ⟨c88, hm89⟩ := cs hm87; clear hm87
   obtain ⟨p90, hp91⟩ := hF42.lenMap.ix (sz := 2) ln_len c88
   refine wq Z (QV.indexSlice sl106 Z Z Z Z hp91) ?_
   refine wq Z (QV.loadAgg ag57 Z Z Z (fun w hw => ((Own.karr 1 Z hk hF42) w hw).ele hp91 c88)) ?_
   refine WL.effect Z ?_
   refine (EV.alloc (by decide) ze57 (fun b92 => ?_))
   refine WL.effect Z ?_
   refine (EV.store 0 Z Z Z Z Z Z (vs := [.int .i64 ((ele x39 x33_8).st), .int .i64 ((ele x39 x33_8).bk)]) (show Value.cells _ = List.toArray _ from Z) sz57 (Nat.le_of_ble_eq_true Z) (one_cons Z (one_cons Z one_nil)) ?_)
   refine nt ?_
   refine WC.dr (m := 19) (S := Own M w [kn M w.heap.size K0 X42.2, blk b92 [.int .i64 ((ele x39 x33_8).st), .int .i64 ((ele x39 x33_8).bk)] 57, blk b38 (Stm.cells (ele l.body x25_7)) 59, blk b2 t.cells 24, blk b1 [v_l_logs, v_l_body, v_l_outs] 49]) (by kernel_rfl) (by kernel_rfl) (fun w hw => hw.pick [2, 0, 3, 4, 5] (by decide)) ?_
   refine wz 0 Z Z (QV.move Z Z) ?_
   refine wz 1 Z Z (QV.fieldAddr fd57_0 Z Z) ?_
   refine wz 2 Z Z (QV.load pl3 Z Z (Own.cell 1 Z Z)) ?_
   refine wz 3 Z Z (QV.move Z Z) ?_
   refine wz 4 Z Z (QV.fieldAddr fd57_1 Z Z) ?_
   refine wz 5 Z Z (QV.load pl3 Z Z (Own.cell 1 Z Z)) ?_
   refine wz 6 Z Z (QV.loadAgg ag24 Z Z Z (Own.cellsBlk 3 Z)) ?_
   refine wz 7 Z Z (QV.fieldAddr fd49_1 Z Z) ?_
   refine wz 8 Z Z (QV.load pl47 Z Z (Own.cell 4 Z Z)) ?_
   refine wz 9 Z Z (QV.fieldAddr fd57_0 Z Z) ?_
   refine wz 10 Z Z (QV.load pl3 Z Z (Own.cell 1 Z Z)) ?_
   obtain ⟨c93, hm94⟩ := cs hm89; clear hm89
   obtain ⟨p95, hp96⟩ := (h_l_body.le (hle_7.trans hle42)).lenMap.ix (sz := 9) ln_len c93
   refine wz 11 Z Z (QV.indexSlice sl47 Z Z Z Z hp96) ?_
   refine wz 12 Z Z (QV.fieldAddr fd59_0 Z Z) ?_
   refine wz 13 Z Z (QV.load pl3 Z Z (fun w hw => CellsAt.one 0 (((Own.karr 0 Z hk (h_l_body.le (hle_7.trans hle42))) w hw).ele hp96 c93) Z)) ?_
   obtain ⟨x97, hx98, hm99⟩ := bd_some hm94; clear hm94
   refine wz 14 Z Z (QV.call en63 (EvAll.cons Z Z (EvAll.cons Z Z EvAll.nil)) (fun w hw => have h := target_Wait_w w hx98 ; h)) ?_
   refine wz 15 Z Z (QV.build (ps := [(0, .tmp 39), (1, .tmp 40), (2, .tmp 42), (3, .tmp 51)]) (cells := [.int .i64 ((ele x39 x33_8).st), .int .i64 x25_7, .int .i64 ((ele x39 x33_8).bk), .int .i64 x97]) (EvAll.cons Z Z (EvAll.cons Z Z (EvAll.cons Z Z (EvAll.cons Z Z EvAll.nil)))) (by kernel_rfl)) ?_
   refine WD.o 16 Z (by kernel_rfl) Z ?_
   refine (EV.buildSlice (by decide) sz_50 (by decide) (by decide) (ps := [(0, .tmp 52)]) (cells := [.int .i64 ((ele x39 x33_8).st), .int .i64 x25_7, .int .i64 ((ele x39 x33_8).bk), .int .i64 x97]) (EvAll.cons Z Z EvAll.nil) (by kernel_rfl) (fun b100 => ?_))
   refine WD.b (H' := [kn M w.heap.size K0 X42.2, blk b100 [.int .i64 ((ele x39 x33_8).st), .int .i64 x25_7, .int .i64 ((ele x39 x33_8).bk), .int .i64 x97] 61, blk b92 [.int .i64 ((ele x39 x33_8).st), .int .i64 ((ele x39 x33_8).bk)] 57, blk b38 (Stm.cells (ele l.body x25_7)) 59, blk b2 t.cells 24, blk b1 [v_l_logs, v_l_body, v_l_outs] 49]) (fun w hw => hw.pick [3, 0, 1, 4, 5, 6] (by decide)) (fun w hw => hw.pick [0, 2, 3, 4, 5] (by decide)) ?_
   refine WD.o 17 Z (by kernel_rfl) Z ?_
   obtain ⟨c101, hm102⟩ := cs hm99; clear hm99
   refine (EV.appendL (enc := Edg.cells) (xs := v12_8) (ys := [(Edg.mk ((ele x39 x33_8).st) x25_7 ((ele x39 x33_8).bk) x97)]) ((v12_8 ++ [(Edg.mk ((ele x39 x33_8).st) x25_7 ((ele x39 x33_8).bk) x97)])) 2 (by decide) ve50 Z Z Z Z Z (Own.blkArr 0 (rows := [(Edg.mk ((ele x39 x33_8).st) x25_7 ((ele x39 x33_8).bk) x97)].map Edg.cells) Z Z (rows_len Edg.cells_len)) Edg.cells_len (Edg.cells_one _) Z c101.1 c101.2 (fun u103 hu104 => ?_))
   refine WD.b (H' := [kn M w.heap.size K0 X42.2, blk b100 [.int .i64 ((ele x39 x33_8).st), .int .i64 x25_7, .int .i64 ((ele x39 x33_8).bk), .int .i64 x97] 61, blk b92 [.int .i64 ((ele x39 x33_8).st), .int .i64 ((ele x39 x33_8).bk)] 57, vec u103 61 4 (List.map Edg.cells (v12_8 ++ [(Edg.mk ((ele x39 x33_8).st) x25_7 ((ele x39 x33_8).bk) x97)])), blk b38 (Stm.cells (ele l.body x25_7)) 59, blk b2 t.cells 24, blk b1 [v_l_logs, v_l_body, v_l_outs] 49]) (fun w hw => hw.pick [3, 0, 1, 2, 4, 5, 6] (by decide)) (fun w hw => hw.pick [0, 1, 2, 4, 5, 6] (by decide)) ?_
   refine wz 18 Z Z (QV.assign Z Z) ?_
   refine WD.e (by kernel_rfl) ?_
   refine WQ.block (WQ.then (WC.region ?_))
   obtain ⟨c105, hm106⟩ := cs hm102; clear hm102
   refine wq Z (QV.add Z Z Z Z c105) ?_
   refine wm Z ?_
   refine WL.nil ?_
   exact WQ.again3 (v12_8 ++ [(Edg.mk ((ele x39 x33_8).st) x25_7 ((ele x39 x33_8).bk) x97)]) (x33_8 + 1) u103 m82 ⟨up_next hm106 hn85, hu104⟩ (Nat.lt_succ_self _) ⟨Z, Z, Z, Z, Z, Z, Z, Z, Z, Z, trivial⟩ (fun w hw => hw.pick [2, 3, 4, 5, 6] (by decide))
  have hm107 := br_f h86 hm84; clear hm84
  refine WC.exit (te (te (WQ.block_exit ?_)))
  exact WQ.out3 v12_8 x33_8 uv12_8 ⟨up_brk hm107 hn85, hlv12_8⟩ ⟨Z, Z, Z, Z, Z, Z, Z, Z, Z, Z, trivial⟩ (fun w hw => hw.pick [0, 1, 2, 3, 4] (by decide))
 have hm108 := br_f h32 hm30; clear hm30
 refine WC.exit (te (te (WQ.block_exit ?_)))
 exact WQ.out4 v12_7 x25_7 uv12_7 k_7 ⟨up_brk hm108 hn31, hlv12_7, hle_7⟩ ⟨Z, Z, Z, Z, Z, Z, trivial⟩ (fun w hw => hw.pick [0, 1, 2, 3] (by decide))
end Go.Proofs.Ytaimbkndebaaiab
end

section
namespace Go.Proofs.Ytaimbkndebaaiab
open Go.Rd
set_option linter.unusedVariables false
open TNum TLoop TKern TKeep TOrd TCpt TDep
namespace TSched1
theorem en23 : Go.Rd.Enters Try.prog 23 := ⟨Try.f23, Try.func23, by kernel_rfl, by kernel_rfl⟩
end TSched1
open TSched1
end Go.Proofs.Ytaimbkndebaaiab
end

section
namespace Go.Proofs.Ytaimbkndebaaiab
open Go.Rd
set_option linter.unusedVariables false
open TNum TLoop TKern TKeep TOrd TCpt TDep TSched1
namespace TEmit
theorem en73 : Go.Rd.Enters Try.prog 73 := ⟨Try.f73, Try.func73, by kernel_rfl, by kernel_rfl⟩
theorem sz27 : SizeT Try.prog 27 3 := by unfold SizeT; kernel_rfl
theorem sz_25 : SliceZ Try.prog 25 45 10 [.int .i64 0, .int .i64 0, .int .i64 0, .int .i64 0, .int .i64 0, .int .i64 0, .int .i64 0, .int .i64 0, .int .i64 0, .int .i64 0] := ⟨Try.underlying25, by kernel_rfl⟩
theorem ze27 : ZeroT Try.prog 27 [.int .i64 0, .int .i64 0, .slice none 0 0] := by unfold ZeroT; kernel_rfl
end TEmit
open TEmit
set_option maxRecDepth 8000 in
theorem emit_Rest_w {a : Int} {b : Int} {r : Int} (w : World) (hm : emit_Rest_m a b = some r)  : Calls Try.prog 73 #[.int .i64 a, .int .i64 b] w (fun e w' => e = .returned (.int .i64 r) ∧ Grow w w') := by
 unfold emit_Rest_m at hm
 have hk := Base.rfl (w := w)
 refine calls_of_WC (n := 12) (args := [.int .i64 a, .int .i64 b]) Try.func73 Z Z (Nat.le_of_ble_eq_true Z) ?_ (Own.startK hk (Own.start w))
 refine sr ?_
 refine wa Z ?_
 refine ns ?_
 refine wm Z ?_
 refine wm Z ?_
 obtain ⟨c1, hm2⟩ := cs hm; clear hm
 refine wq Z (QV.rem Z Z Z Z c1) ?_
 refine wm Z ?_
 obtain ⟨c3, hm4⟩ := cs hm2; clear hm2
 refine wq Z (QV.add Z Z Z Z c3) ?_
 refine wm Z ?_
 obtain ⟨c5, hm6⟩ := cs hm4; clear hm4
 refine wq Z (QV.rem Z Z Z Z c5) ?_
 refine wa Z ?_
 refine nt (WC.ret ?_)
 obtain rfl := (eq_of_some hm6).symm
 refine WQ.ret1 Z Z (fun w hw => ?_)
 exact ⟨Z, Own.kgrow (fun _ x => x) hw⟩

end Go.Proofs.Ytaimbkndebaaiab
end

section
namespace Go.Proofs.Ytaimbkndebaaiab
open Go.Rd
set_option linter.unusedVariables false
open TNum TLoop TKern TKeep TOrd TCpt TDep TSched1 TEmit
namespace TCheck
theorem en113 : Go.Rd.Enters Try.prog 113 := ⟨Try.f113, Try.func113, by kernel_rfl, by kernel_rfl⟩
theorem en114 : Go.Rd.Enters Try.prog 114 := ⟨Try.f114, Try.func114, by kernel_rfl, by kernel_rfl⟩
theorem en115 : Go.Rd.Enters Try.prog 115 := ⟨Try.f115, Try.func115, by kernel_rfl, by kernel_rfl⟩
theorem en116 : Go.Rd.Enters Try.prog 116 := ⟨Try.f116, Try.func116, by kernel_rfl, by kernel_rfl⟩
theorem en15 : Go.Rd.Enters Try.prog 15 := ⟨Try.f15, Try.func15, by kernel_rfl, by kernel_rfl⟩
theorem en86 : Go.Rd.Enters Try.prog 86 := ⟨Try.f86, Try.func86, by kernel_rfl, by kernel_rfl⟩
theorem eq59 : EqT Try.prog 59 9 := ⟨by kernel_rfl, ⟨_, Try.underlying59⟩, by kernel_rfl, by kernel_rfl⟩
theorem sz30 : SizeT Try.prog 30 1 := by unfold SizeT; kernel_rfl
theorem ve30 : VecT Try.prog 30 3 1 8 := ⟨Try.underlying30, by kernel_rfl, by decide⟩
end TCheck
open TCheck
set_option maxRecDepth 8000 in
theorem check_layout_w {v_l_logs : Value} {v_l_body : Value} {v_l_outs : Value} {v_k__ops : Value} {v_order : Value} {l : Lp} {t : Tgt} {k_ : Krn} {order : List Int} {r : Option LayT × Bool} {K0 : World} (hm : check_layout_m l t k_ order = some r) (h_l_logs : Arr K0 v_l_logs 1 (l.logs.map icell)) (h_l_body : Arr K0 v_l_body 9 (l.body.map Stm.cells)) (h_l_outs : Arr K0 v_l_outs 1 (l.outs.map icell)) (h_k__ops : Arr K0 v_k__ops 10 (k_.ops.map Opr.cells)) (h_order : Arr K0 v_order 1 (order.map icell)) (M : Nat → Prop) (w : World) (hk : Base M K0 w) (hw0 : Own M w [] w) : Calls Try.prog 113 #[.agg #[v_l_logs, v_l_body, v_l_outs], .agg #[.int .i64 t.u0, .int .i64 t.u1, .int .i64 t.u2, .int .i64 t.w0, .int .i64 t.w1, .int .i64 t.w2, .int .i64 t.regs], .agg #[.int .i64 k_.pace, .int .i64 k_.stages, v_k__ops], v_order] w (fun e w' => ∃ X : Value × World, e = .returned (.tuple #[X.1, .bool r.2]) ∧ Own M w (kn M w.heap.size K0 X.2 :: []) w' ∧ LayAt X.2 X.1 r.1) := by
 unfold check_layout_m at hm
 refine calls_of_WC (n := 138) (args := [.agg #[v_l_logs, v_l_body, v_l_outs], .agg #[.int .i64 t.u0, .int .i64 t.u1, .int .i64 t.u2, .int .i64 t.w0, .int .i64 t.w1, .int .i64 t.w2, .int .i64 t.regs], .agg #[.int .i64 k_.pace, .int .i64 k_.stages, v_k__ops], v_order]) Try.func113 Z Z (Nat.le_of_ble_eq_true Z) ?_ (Own.startK hk hw0)
 refine sr ?_
 refine WL.effect Z ?_
 refine (EV.boxAgg (by decide) Z Z (fun b1 => ?_))
 refine WL.effect Z ?_
 refine (EV.boxAgg (by decide) Z Z (fun b2 => ?_))
 refine WL.effect Z ?_
 refine (EV.boxAgg (by decide) Z Z (fun b3 => ?_))
 refine wa Z ?_
 refine wa Z ?_
 refine nt (WC.seq (sr ?_))
 refine wq Z (QV.loadAgg ag49 Z Z Z (Own.cellsBlk 2 Z)) ?_
 obtain ⟨x4, hx5, hm6⟩ := bd_some hm; clear hm
 refine wq Z (QV.call en61 (EvAll.cons Z Z EvAll.nil) (fun w hw => have h := loop_May_w w hx5 ((Own.karr 3 Z hk h_l_logs) w hw) ((Own.karr 3 Z hk h_l_body) w hw) ((Own.karr 3 Z hk h_l_outs) w hw); h)) ?_
 refine wq Z (QV.not Z Z) ?_
 refine wm Z ?_
 refine gn Z (fun hG => QV.loadAgg ag24 Z Z Z (Own.cellsBlk 1 Z)) ?_
 refine gn Z (fun hG => QV.loadAgg ag27 Z Z Z (Own.cellsBlk 0 Z)) ?_
 refine gn Z (fun hG => QV.fieldAddr fd49_0 Z Z) ?_
 refine gn Z (fun hG => QV.load pl30 Z hG (Own.cell 2 Z Z)) ?_
 obtain ⟨x7, hx8, hm9⟩ := bdG_some hm6; clear hm6
 refine gn Z (fun hG => QV.call en15 (EvAll.cons Z hG (EvAll.cons Z hG (EvAll.cons Z hG EvAll.nil))) (fun w hw => have h := kernel_May_w w (hx8 hG) ((Own.karr 3 Z hk h_k__ops) w hw) ((Own.karr 3 Z hk h_l_logs) w hw); h)) ?_
 refine gn Z (fun hG => QV.not Z hG) ?_
 refine wq Z (QV.pickOr Z Z Z (fun h => notF h)) ?_
 refine wm Z ?_
 refine gn Z (fun hG => QV.fieldAddr fd27_2 Z Z) ?_
 refine gn Z (fun hG => QV.load pl25 Z hG (Own.cell 0 Z Z)) ?_
 refine gn Z (fun hG => QV.lenS Try.underlying25 Z hG h_k__ops.lenMap) ?_
 refine gn Z (fun hG => QV.fieldAddr fd49_1 Z Z) ?_
 refine gn Z (fun hG => QV.load pl47 Z hG (Own.cell 2 Z Z)) ?_
 refine gn Z (fun hG => QV.lenS Try.underlying47 Z hG h_l_body.lenMap) ?_
 refine gn Z (fun hG => QV.neq Z hG Z hG) ?_
 refine wq Z (QV.pickOr Z Z Z (fun h => notF h)) ?_
 refine wm Z ?_
 refine gn Z (fun hG => QV.move Z Z) ?_
 refine gn Z (fun hG => QV.lenS Try.underlying30 Z hG h_order.lenMap) ?_
 refine gn Z (fun hG => QV.fieldAddr fd49_1 Z Z) ?_
 refine gn Z (fun hG => QV.load pl47 Z hG (Own.cell 2 Z Z)) ?_
 refine gn Z (fun hG => QV.lenS Try.underlying47 Z hG h_l_body.lenMap) ?_
 refine gn Z (fun hG => QV.neq Z hG Z hG) ?_
 refine wq Z (QV.pickOr Z Z Z (fun h => notF h)) ?_
 refine nt ?_
 refine WC.cond Z (fun h10 => ?_) (fun h10 => ?_)
 ·skip
  have hm11 := br_t h10 hm9; clear hm9
  refine sr ?_
  refine wa Z ?_
  refine wa Z ?_
  refine nt (WC.ret (tr ?_))
  obtain rfl := (eq_of_some hm11).symm
  refine WQ.ret2 Z Z Z (fun w hw => ?_)
  exact ⟨(.pointer none, K0), Z, hw.pick [3] (by decide), LayAt.none⟩
 have hm12 := br_f h10 hm9; clear hm9
 refine sk (WQ.then (sr ?_))
 refine wq Z (QV.loadAgg ag49 Z Z Z (Own.cellsBlk 2 Z)) ?_
 refine wf fd27_0 Z ?_
 refine wl pl3 Z (Own.cell 0 Z Z) ?_
 refine wf fd24_2 Z ?_
 refine wl pl3 Z (Own.cell 1 Z Z) ?_
 refine wq Z (QV.buildS (ps := [(0, .tmp 44), (1, .tmp 46), (2, .tmp 48)]) (cells := [v_l_logs, v_l_body, v_l_outs, .int .i64 k_.pace, .int .i64 t.regs, .slice none 0 0, .slice none 0 0, .slice none 0 0]) (css := [[v_l_logs, v_l_body, v_l_outs], [.int .i64 k_.pace], [.int .i64 t.regs]]) (EvAll.cons Z Z (EvAll.cons Z Z (EvAll.cons Z Z EvAll.nil))) (CellsAll.cons Z (CellsAll.cons Z (CellsAll.cons Z CellsAll.nil))) (by kernel_rfl)) ?_
 refine WL.effect Z ?_
 refine (EV.boxAgg (by decide) Z Z (fun b13 => ?_))
 refine wa Z ?_
 refine ns ?_
 refine WL.effect Z ?_
 refine (EV.makeMap (ke := kI) (ve := bv) (by decide) (fun b14 => ?_))
 refine wa Z ?_
 refine nt (WC.seq (sr ?_))
 refine wm Z ?_
 refine wq Z (QV.lenS Try.underlying30 Z Z h_order.lenMap) ?_
 refine wm Z ?_
 refine nt ?_
 refine WK.of (fun w hw => hw.vecNil (E := 3) (sz := 1) (enc := icell)) ?_
 refine WK.of (fun w hw => hw.vecNil (E := 3) (sz := 1) (enc := icell)) ?_
 refine WK.of (fun w hw => hw.vecNil (E := 3) (sz := 1) (enc := icell)) ?_
 obtain ⟨o18, ho19, hm20⟩ := bd_some hm12; clear hm12; obtain ⟨n21, ho22⟩ := lp_some ho19
 refine WC.bloop8 (H2 := [blk b3 [.int .i64 k_.pace, .int .i64 k_.stages, v_k__ops] 27, blk b2 t.cells 24, blk b1 [v_l_logs, v_l_body, v_l_outs] 49, kn M w.heap.size K0 K0]) (τ := [(4, (true, _)), (5, (true, _)), (6, (true, _)), (10, (true, _)), (11, (true, _)), (52, (true, _)), (53, (true, _))]) (fun (v17_1 : List Int) (v16_1 : List Int) (v15_1 : List Int) (m14n_1 : List (Int × Bool)) (x54_1 : Int) (uv17_1 : Value) (uv16_1 : Value) (uv15_1 : Value) => [(54, (true, .int .i64 x54_1))]) (fun v17_1 v16_1 v15_1 m14n_1 x54_1 uv17_1 uv16_1 uv15_1 => [vec uv17_1 3 1 (List.map icell v17_1), vec uv16_1 3 1 (List.map icell v16_1), vec uv15_1 3 1 (List.map icell v15_1), mapR b14 kI bv m14n_1, blk b13 [v_l_logs, v_l_body, v_l_outs, .int .i64 k_.pace, .int .i64 t.regs, uv15_1, uv16_1, uv17_1] 159]) (fun v17_1 v16_1 v15_1 m14n_1 x54_1 uv17_1 uv16_1 uv15_1 m => iter (check_layout_L0 l t k_ order) m (v17_1, v16_1, v15_1, m14n_1, x54_1) = some o18 ∧ SliceLen uv17_1 v17_1.length ∧ SliceLen uv16_1 v16_1.length ∧ SliceLen uv15_1 v15_1.length) (fun v17_1 v16_1 v15_1 m14n_1 x54_1 uv17_1 uv16_1 uv15_1 => o18 = .go (v17_1, v16_1, v15_1, m14n_1, x54_1) ∧ SliceLen uv17_1 v17_1.length ∧ SliceLen uv16_1 v16_1.length ∧ SliceLen uv15_1 v15_1.length) [] [] [] ([] : List (Int × Bool)) 0 (.slice none 0 0) (.slice none 0 0) (.slice none 0 0) n21 ⟨ho22, SliceLen.nil, SliceLen.nil, SliceLen.nil⟩ ⟨Z, Z, Z, Z, Z, Z, Z, Z, trivial⟩ (fun w hw => hw.pick [0, 1, 2, 3, 4, 5, 6, 7, 8] (by decide)) ?_ ?_
 ·skip
  rintro v17_1 v16_1 v15_1 m14n_1 x54_1 uv17_1 uv16_1 uv15_1 ⟨rfl, hlv17_1, hlv16_1, hlv15_1⟩
  refine WQ.then (sr ?_)
  refine wm Z ?_
  refine wa Z ?_
  refine wa Z ?_
  refine nt (WC.ret ?_)
  obtain rfl := (eq_of_some hm20).symm
  refine WK.of (C' := Own M w [kn M w.heap.size K0 K0, vec uv15_1 3 1 (List.map icell v15_1), vec uv17_1 3 1 (List.map icell v17_1), vec uv16_1 3 1 (List.map icell v16_1), mapR b14 kI bv m14n_1, blk b13 [v_l_logs, v_l_body, v_l_outs, .int .i64 k_.pace, .int .i64 t.regs, uv15_1, uv16_1, uv17_1] 159, blk b3 [.int .i64 k_.pace, .int .i64 k_.stages, v_k__ops] 27, blk b2 t.cells 24, blk b1 [v_l_logs, v_l_body, v_l_outs] 49]) (fun w hw => hw.pick [8, 2, 0, 1, 3, 4, 5, 6, 7] (by decide)) ?_
  refine WK.freeze hk (fun k23 hle23 hr23 => ?_)
  have hA23 := vec_arr hr23
  refine WK.of (C' := Own M w [kn M w.heap.size K0 k23, vec uv16_1 3 1 (List.map icell v16_1), vec uv17_1 3 1 (List.map icell v17_1), mapR b14 kI bv m14n_1, blk b13 [v_l_logs, v_l_body, v_l_outs, .int .i64 k_.pace, .int .i64 t.regs, uv15_1, uv16_1, uv17_1] 159, blk b3 [.int .i64 k_.pace, .int .i64 k_.stages, v_k__ops] 27, blk b2 t.cells 24, blk b1 [v_l_logs, v_l_body, v_l_outs] 49]) (fun w hw => hw.pick [0, 2, 1, 3, 4, 5, 6, 7] (by decide)) ?_
  refine WK.freeze hk (fun k24 hle24 hr24 => ?_)
  have hA24 := vec_arr hr24
  refine WK.freeze hk (fun k25 hle25 hr25 => ?_)
  have hA25 := vec_arr hr25
  refine WK.of (C' := Own M w [kn M w.heap.size K0 k25, blk b13 [v_l_logs, v_l_body, v_l_outs, .int .i64 k_.pace, .int .i64 t.regs, uv15_1, uv16_1, uv17_1] 159, mapR b14 kI bv m14n_1, blk b3 [.int .i64 k_.pace, .int .i64 k_.stages, v_k__ops] 27, blk b2 t.cells 24, blk b1 [v_l_logs, v_l_body, v_l_outs] 49]) (fun w hw => hw.pick [0, 2, 1, 3, 4, 5] (by decide)) ?_
  refine WK.freeze hk (fun k26 hle26 hr26 => ?_)
  have hc26 := blk_cells hr26
  refine WQ.ret2 Z Z Z (fun w hw => ?_)
  exact ⟨(.pointer (some (⟨b13, 0, none⟩)), k26), Z, hw.pick [0] (by decide), (LayAt.mk hc26 (h_l_logs.le (((hle23.trans hle24).trans hle25).trans hle26)) (h_l_body.le (((hle23.trans hle24).trans hle25).trans hle26)) (h_l_outs.le (((hle23.trans hle24).trans hle25).trans hle26)) (hA23.le ((hle24.trans hle25).trans hle26)) (hA24.le (hle25.trans hle26)) (hA25.le hle26))⟩
 rintro v17_1 v16_1 v15_1 m14n_1 x54_1 uv17_1 uv16_1 uv15_1 m27 ⟨hI28, hlv17_1, hlv16_1, hlv15_1⟩
 obtain ⟨m29, s30, rfl, hm31, hn32⟩ := iter_step hI28; clear hI28; unfold check_layout_L0 at hm31; simp only at hm31
 refine sr ?_
 refine wq Z (QV.lss Z Z Z Z) ?_
 refine nt (WC.seq ?_)
 refine WC.cond Z (fun h33 => ?_) (fun h33 => ?_)
 ·skip
  have hm34 := br_t h33 hm31; clear hm31
  refine sk (WQ.then (WC.seq (WC.block (sr ?_))))
  refine wm Z ?_
  obtain ⟨c35, hm36⟩ := cs hm34; clear hm34
  obtain ⟨p37, hp38⟩ := h_order.lenMap.ix (sz := 1) ln_len c35
  refine wq Z (QV.indexSlice sl30 Z Z Z Z hp38) ?_
  refine wl pl3 Z (fun w hw => CellsAt.one 0 (((Own.karr 8 Z hk h_order) w hw).ele hp38 c35) Z) ?_
  refine wa Z ?_
  refine wa Z ?_
  refine nt (WC.seq (sr ?_))
  refine wm Z ?_
  refine wq Z (QV.lss Z Z Z Z) ?_
  refine wm Z ?_
  refine gn Z (fun hG => QV.move Z Z) ?_
  refine gn Z (fun hG => QV.fieldAddr fd27_2 Z Z) ?_
  refine gn Z (fun hG => QV.load pl25 Z hG (Own.cell 5 Z Z)) ?_
  refine gn Z (fun hG => QV.lenS Try.underlying25 Z hG h_k__ops.lenMap) ?_
  refine gn Z (fun hG => QV.geq Z hG Z hG) ?_
  refine wq Z (QV.pickOr Z Z Z (fun h => notF h)) ?_
  refine wm Z ?_
  refine gn Z (fun hG => QV.move Z Z) ?_
  refine gn Z (fun hG => QV.move Z Z) ?_
  refine gn Z (fun hG => QV.lookup (k := (ele order x54_1)) 3 false mt180 kt3 zv4bv Z hG Z hG Z) ?_
  refine wq Z (QV.pickOr Z Z Z (fun h => notF h)) ?_
  refine nt ?_
  refine WC.cond Z (fun h39 => ?_) (fun h39 => ?_)
  ·skip
   have hm40 := br_t h39 hm36; clear hm36
   refine sr ?_
   refine wa Z ?_
   refine wa Z ?_
   refine nt (WC.ret (tr (kr (tr (tr (kr (tr (tr ?_))))))))
   obtain rfl := up_ret hm40 hn32
   obtain rfl := (eq_of_some hm20).symm
   refine WQ.ret2 Z Z Z (fun w hw => ?_)
   exact ⟨(.pointer none, K0), Z, hw.pick [8] (by decide), LayAt.none⟩
  have hm41 := br_f h39 hm36; clear hm36
  refine sk (WQ.then (sr ?_))
  refine wm Z ?_
  refine wm Z ?_
  refine WL.effect Z ?_
  refine (EV.mapUpdate (ke := kI) (ve := bv) (ele order x54_1) 3 true mt180 kt3 Z Z Z Z Z Z Z ?_)
  refine nt (WC.seq ?_)
  refine WC.dr (m := 14) (S := Own M w [kn M w.heap.size K0 K0, vec uv17_1 3 1 (List.map icell v17_1), vec uv16_1 3 1 (List.map icell v16_1), vec uv15_1 3 1 (List.map icell v15_1), mapR b14 kI bv (mput m14n_1 (ele order x54_1) true), blk b13 [v_l_logs, v_l_body, v_l_outs, .int .i64 k_.pace, .int .i64 t.regs, uv15_1, uv16_1, uv17_1] 159, blk b3 [.int .i64 k_.pace, .int .i64 k_.stages, v_k__ops] 27, blk b2 t.cells 24, blk b1 [v_l_logs, v_l_body, v_l_outs] 49]) (by kernel_rfl) (by kernel_rfl) (fun w hw => hw.pick [8, 0, 1, 2, 3, 4, 5, 6, 7] (by decide)) ?_
  refine WD.toL 0 (by kernel_rfl) ?_
  refine WD.qL 0 0 1 Z (by kernel_rfl) Z Z Z (QV.fieldAddr fd27_2 Z Z) ?_
  refine WD.qL 1 1 3 Z (by kernel_rfl) Z Z Z (QV.load pl25 Z Z (Own.cell 6 Z Z)) ?_
  refine WD.qL 2 3 7 Z (by kernel_rfl) Z Z Z (QV.move Z Z) ?_
  obtain ⟨c42, hm43⟩ := cs hm41; clear hm41
  obtain ⟨p44, hp45⟩ := h_k__ops.lenMap.ix (sz := 10) ln_len c42
  refine WD.qL 3 7 15 Z (by kernel_rfl) Z Z Z (QV.indexSlice sl25 Z Z Z Z hp45) ?_
  refine WD.qL 4 15 31 Z (by kernel_rfl) Z Z Z (QV.loadAgg ag45 Z Z Z (fun w hw => ((Own.karr 0 Z hk h_k__ops) w hw).ele hp45 c42)) ?_
  refine WD.qL 5 31 63 Z (by kernel_rfl) Z Z Z (QV.fieldAddr fd49_1 Z Z) ?_
  refine WD.qL 6 63 127 Z (by kernel_rfl) Z Z Z (QV.load pl47 Z Z (Own.cell 8 Z Z)) ?_
  refine WD.qL 7 127 255 Z (by kernel_rfl) Z Z Z (QV.move Z Z) ?_
  obtain ⟨c46, hm47⟩ := cs hm43; clear hm43
  obtain ⟨p48, hp49⟩ := h_l_body.lenMap.ix (sz := 9) ln_len c46
  refine WD.qL 8 255 511 Z (by kernel_rfl) Z Z Z (QV.indexSlice sl47 Z Z Z Z hp49) ?_
  refine WD.qL 9 511 1023 Z (by kernel_rfl) Z Z Z (QV.loadAgg ag59 Z Z Z (fun w hw => ((Own.karr 0 Z hk h_l_body) w hw).ele hp49 c46)) ?_
  refine WD.cut2 (fun (b50 : Nat) (b51 : Nat) => [(4, (true, .pointer (some (⟨b1, 0, none⟩)))), (5, (true, .pointer (some (⟨b2, 0, none⟩)))), (6, (true, .pointer (some (⟨b3, 0, none⟩)))), (10, (true, .pointer (some (⟨b13, 0, none⟩)))), (11, (true, .map (some b14))), (14, (true, .pointer (some (⟨b50, 0, none⟩)))), (15, (true, .pointer (some (⟨b51, 0, none⟩)))), (52, (true, v_order)), (53, (true, .int .i64 (ln order))), (54, (true, .int .i64 x54_1))]) (fun (b50 : Nat) (b51 : Nat) => Own M w [blk b51 (Stm.cells (ele l.body x54_1)) 59, blk b50 (Opr.cells (ele k_.ops (ele order x54_1))) 45, vec uv17_1 3 1 (List.map icell v17_1), vec uv16_1 3 1 (List.map icell v16_1), vec uv15_1 3 1 (List.map icell v15_1), mapR b14 kI bv (mput m14n_1 (ele order x54_1) true), blk b13 [v_l_logs, v_l_body, v_l_outs, .int .i64 k_.pace, .int .i64 t.regs, uv15_1, uv16_1, uv17_1] 159, blk b3 [.int .i64 k_.pace, .int .i64 k_.stages, v_k__ops] 27, blk b2 t.cells 24, blk b1 [v_l_logs, v_l_body, v_l_outs] 49, kn M w.heap.size K0 K0]) ?_ ?_
  ·skip
   rintro b50 b51
   refine WQ.then (sr ?_)
   refine wq Z (QV.build (ps := []) (cells := [.int .i64 0, .int .i64 0]) EvAll.nil (by kernel_rfl)) ?_
   refine wq Z (QV.build (ps := []) (cells := [.int .i64 0, .int .i64 0]) EvAll.nil (by kernel_rfl)) ?_
   refine wf fd59_1 Z ?_
   refine WL.effect Z ?_
   refine (EV.store 0 Z Z Z Z Z Z (vs := [.int .i64 0, .int .i64 0]) (show Value.cells _ = List.toArray _ from Z) sz57 (Nat.le_of_ble_eq_true Z) (one_cons Z (one_cons Z one_nil)) ?_)
   refine wf fd59_2 Z ?_
   refine WL.effect Z ?_
   refine (EV.store 0 Z Z Z Z Z Z (vs := [.int .i64 0, .int .i64 0]) (show Value.cells _ = List.toArray _ from Z) sz57 (Nat.le_of_ble_eq_true Z) (one_cons Z (one_cons Z one_nil)) ?_)
   refine nt (WC.seq (WC.seq ?_))
   refine WC.dr (m := 4) (S := Own M w [kn M w.heap.size K0 K0, blk b51 [.int .i64 ((ele l.body x54_1).op), .int .i64 0, .int .i64 0, .int .i64 0, .int .i64 0, .int .i64 ((ele l.body x54_1).ar), .int .i64 ((ele l.body x54_1).sp), .int .i64 ((ele l.body x54_1).pl), .int .i64 ((ele l.body x54_1).n)] 59, blk b50 (Opr.cells (ele k_.ops (ele order x54_1))) 45, vec uv17_1 3 1 (List.map icell v17_1), vec uv16_1 3 1 (List.map icell v16_1), vec uv15_1 3 1 (List.map icell v15_1), mapR b14 kI bv (mput m14n_1 (ele order x54_1) true), blk b13 [v_l_logs, v_l_body, v_l_outs, .int .i64 k_.pace, .int .i64 t.regs, uv15_1, uv16_1, uv17_1] 159, blk b3 [.int .i64 k_.pace, .int .i64 k_.stages, v_k__ops] 27, blk b2 t.cells 24, blk b1 [v_l_logs, v_l_body, v_l_outs] 49]) (by kernel_rfl) (by kernel_rfl) (fun w hw => hw.pick [10, 0, 1, 2, 3, 4, 5, 6, 7, 8, 9] (by decide)) ?_
   refine wz 0 Z Z (QV.loadAgg ag45 Z Z Z (Own.cellsBlk 2 Z)) ?_
   obtain ⟨x52, hx53, hm54⟩ := bd_some hm47; clear hm47
   refine wz 1 Z Z (QV.call en90 (EvAll.cons Z Z EvAll.nil) (fun w hw => have h := kernel_Stmt_w w hx53 ; h)) ?_
   refine wz 2 Z Z (QV.loadAgg ag59 Z Z Z (Own.cellsBlk 1 Z)) ?_
   refine wz 3 Z Z (QV.neqF eq59 (ns := [x52.op, x52.a.st, x52.a.bk, x52.b.st, x52.b.bk, x52.ar, x52.sp, x52.pl, x52.n]) (ms := [(ele l.body x54_1).op, 0, 0, 0, 0, (ele l.body x54_1).ar, (ele l.body x54_1).sp, (ele l.body x54_1).pl, (ele l.body x54_1).n]) Z Z Z Z Z Z) ?_
   refine WD.e (by kernel_rfl) ?_
   refine WQ.then ?_
   refine WC.cond Z (fun h55 => ?_) (fun h55 => ?_)
   ·skip
    have hm56 := br_t h55 hm54; clear hm54
    refine sr ?_
    refine wa Z ?_
    refine wa Z ?_
    refine nt (WC.ret (tr (kr (tr (tr (kr (tr (tr ?_))))))))
    obtain rfl := up_ret hm56 hn32
    obtain rfl := (eq_of_some hm20).symm
    refine WQ.ret2 Z Z Z (fun w hw => ?_)
    exact ⟨(.pointer none, K0), Z, hw.pick [10] (by decide), LayAt.none⟩
   have hm57 := br_f h55 hm54; clear hm54
   refine sk (WQ.then (WC.seq ?_))
   refine WC.dr (m := 13) (S := Own M w [kn M w.heap.size K0 K0, blk b51 [.int .i64 ((ele l.body x54_1).op), .int .i64 0, .int .i64 0, .int .i64 0, .int .i64 0, .int .i64 ((ele l.body x54_1).ar), .int .i64 ((ele l.body x54_1).sp), .int .i64 ((ele l.body x54_1).pl), .int .i64 ((ele l.body x54_1).n)] 59, blk b50 (Opr.cells (ele k_.ops (ele order x54_1))) 45, vec uv17_1 3 1 (List.map icell v17_1), vec uv16_1 3 1 (List.map icell v16_1), mapR b14 kI bv (mput m14n_1 (ele order x54_1) true), blk b13 [v_l_logs, v_l_body, v_l_outs, .int .i64 k_.pace, .int .i64 t.regs, uv15_1, uv16_1, uv17_1] 159, blk b3 [.int .i64 k_.pace, .int .i64 k_.stages, v_k__ops] 27, blk b2 t.cells 24, blk b1 [v_l_logs, v_l_body, v_l_outs] 49]) (by kernel_rfl) (by kernel_rfl) (fun w hw => hw.pick [10, 0, 1, 2, 3, 5, 6, 7, 8, 9] (by decide)) ?_
   refine wz 0 Z Z (QV.move Z Z) ?_
   refine wz 1 Z Z (QV.move Z Z) ?_
   refine wz 2 Z Z (QV.nilCheck Z Z) ?_
   refine wz 3 Z Z (QV.fieldAddr fd159_3 Z Z) ?_
   refine wz 4 Z Z (QV.load pl30 Z Z (Own.cell 6 Z Z)) ?_
   refine wz 5 Z Z (QV.loadAgg ag27 Z Z Z (Own.cellsBlk 7 Z)) ?_
   refine wz 6 Z Z (QV.loadAgg ag45 Z Z Z (Own.cellsBlk 2 Z)) ?_
   obtain ⟨x58, hx59, hm60⟩ := bd_some hm57; clear hm57
   refine wz 7 Z Z (QV.call en92 (EvAll.cons Z Z (EvAll.cons Z Z EvAll.nil)) (fun w hw => have h := kernel_Time_w w hx59 ((Own.karr 0 Z hk h_k__ops) w hw); h)) ?_
   refine WD.o 8 Z (by kernel_rfl) Z ?_
   refine (EV.buildSlice (by decide) sz_30 (by decide) (by decide) (ps := [(0, .tmp 100)]) (cells := [.int .i64 x58]) (EvAll.cons Z Z EvAll.nil) (by kernel_rfl) (fun b61 => ?_))
   refine WD.b (H' := [kn M w.heap.size K0 K0, blk b61 [.int .i64 x58] 3, blk b51 [.int .i64 ((ele l.body x54_1).op), .int .i64 0, .int .i64 0, .int .i64 0, .int .i64 0, .int .i64 ((ele l.body x54_1).ar), .int .i64 ((ele l.body x54_1).sp), .int .i64 ((ele l.body x54_1).pl), .int .i64 ((ele l.body x54_1).n)] 59, blk b50 (Opr.cells (ele k_.ops (ele order x54_1))) 45, vec uv17_1 3 1 (List.map icell v17_1), vec uv16_1 3 1 (List.map icell v16_1), mapR b14 kI bv (mput m14n_1 (ele order x54_1) true), blk b13 [v_l_logs, v_l_body, v_l_outs, .int .i64 k_.pace, .int .i64 t.regs, uv15_1, uv16_1, uv17_1] 159, blk b3 [.int .i64 k_.pace, .int .i64 k_.stages, v_k__ops] 27, blk b2 t.cells 24, blk b1 [v_l_logs, v_l_body, v_l_outs] 49]) (fun w hw => hw.pick [11, 0, 1, 2, 3, 4, 6, 7, 8, 9, 10] (by decide)) (fun w hw => hw.pick [0, 2, 3, 4, 5, 6, 7, 8, 9, 10] (by decide)) ?_
   refine WD.o 9 Z (by kernel_rfl) Z ?_
   obtain ⟨c62, hm63⟩ := cs hm60; clear hm60
   refine (EV.appendL (enc := icell) (xs := v15_1) (ys := [x58]) ((v15_1 ++ [x58])) 5 (by decide) ve30 Z Z Z Z Z (Own.blkArr 0 (rows := [x58].map icell) Z Z (rows_len icell_len)) icell_len (icell_one _) Z c62.1 c62.2 (fun u64 hu65 => ?_))
   refine WD.b (H' := [kn M w.heap.size K0 K0, blk b61 [.int .i64 x58] 3, blk b51 [.int .i64 ((ele l.body x54_1).op), .int .i64 0, .int .i64 0, .int .i64 0, .int .i64 0, .int .i64 ((ele l.body x54_1).ar), .int .i64 ((ele l.body x54_1).sp), .int .i64 ((ele l.body x54_1).pl), .int .i64 ((ele l.body x54_1).n)] 59, blk b50 (Opr.cells (ele k_.ops (ele order x54_1))) 45, vec uv17_1 3 1 (List.map icell v17_1), vec uv16_1 3 1 (List.map icell v16_1), vec u64 3 1 (List.map icell (v15_1 ++ [x58])), mapR b14 kI bv (mput m14n_1 (ele order x54_1) true), blk b13 [v_l_logs, v_l_body, v_l_outs, .int .i64 k_.pace, .int .i64 t.regs, uv15_1, uv16_1, uv17_1] 159, blk b3 [.int .i64 k_.pace, .int .i64 k_.stages, v_k__ops] 27, blk b2 t.cells 24, blk b1 [v_l_logs, v_l_body, v_l_outs] 49]) (fun w hw => hw.pick [11, 0, 1, 2, 3, 4, 5, 6, 7, 8, 9, 10] (by decide)) (fun w hw => hw.pick [0, 1, 2, 3, 4, 5, 7, 8, 9, 10, 11] (by decide)) ?_
   refine wz 10 Z Z (QV.nilCheck Z Z) ?_
   refine wz 11 Z Z (QV.fieldAddr fd159_3 Z Z) ?_
   refine WD.l 12 Z (by kernel_rfl) Z ?_
   refine (EV.store 7 Z Z Z Z Z Z (vs := [u64]) (SliceLen.cells hu65) sz30 (Nat.le_of_ble_eq_true Z) (one_cons (SliceLen.one hu65) one_nil) ?_)
   refine WQ.then (WC.seq ?_)
   refine WC.dr (m := 18) (S := Own M w [kn M w.heap.size K0 K0, blk b61 [.int .i64 x58] 3, blk b51 [.int .i64 ((ele l.body x54_1).op), .int .i64 0, .int .i64 0, .int .i64 0, .int .i64 0, .int .i64 ((ele l.body x54_1).ar), .int .i64 ((ele l.body x54_1).sp), .int .i64 ((ele l.body x54_1).pl), .int .i64 ((ele l.body x54_1).n)] 59, blk b50 (Opr.cells (ele k_.ops (ele order x54_1))) 45, vec uv17_1 3 1 (List.map icell v17_1), vec u64 3 1 (List.map icell (v15_1 ++ [x58])), mapR b14 kI bv (mput m14n_1 (ele order x54_1) true), blk b13 [v_l_logs, v_l_body, v_l_outs, .int .i64 k_.pace, .int .i64 t.regs, u64, uv16_1, uv17_1] 159, blk b3 [.int .i64 k_.pace, .int .i64 k_.stages, v_k__ops] 27, blk b2 t.cells 24, blk b1 [v_l_logs, v_l_body, v_l_outs] 49]) (by kernel_rfl) (by kernel_rfl) (fun w hw => hw.pick [11, 0, 1, 2, 3, 5, 6, 7, 8, 9, 10] (by decide)) ?_
   refine wz 0 Z Z (QV.move Z Z) ?_
   refine wz 1 Z Z (QV.move Z Z) ?_
   refine wz 2 Z Z (QV.nilCheck Z Z) ?_
   refine wz 3 Z Z (QV.fieldAddr fd159_4 Z Z) ?_
   refine wz 4 Z Z (QV.load pl30 Z Z (Own.cell 7 Z Z)) ?_
   refine wz 5 Z Z (QV.loadAgg ag27 Z Z Z (Own.cellsBlk 8 Z)) ?_
   refine wz 6 Z Z (QV.loadAgg ag45 Z Z Z (Own.cellsBlk 3 Z)) ?_
   obtain ⟨x66, hx67, hm68⟩ := bd_some hm63; clear hm63
   refine wz 7 Z Z (QV.call en92 (EvAll.cons Z Z (EvAll.cons Z Z EvAll.nil)) (fun w hw => have h := kernel_Time_w w hx67 ((Own.karr 0 Z hk h_k__ops) w hw); h)) ?_
   refine wz 8 Z Z (QV.loadAgg ag24 Z Z Z (Own.cellsBlk 9 Z)) ?_
   refine wz 9 Z Z (QV.fieldAddr fd45_2 Z Z) ?_
   refine wz 10 Z Z (QV.load pl3 Z Z (Own.cell 3 Z Z)) ?_
   obtain ⟨x69, hx70, hm71⟩ := bd_some hm68; clear hm68
   refine wz 11 Z Z (QV.call en63 (EvAll.cons Z Z (EvAll.cons Z Z EvAll.nil)) (fun w hw => have h := target_Wait_w w hx70 ; h)) ?_
   obtain ⟨c72, hm73⟩ := cs hm71; clear hm71
   refine wz 12 Z Z (QV.add Z Z Z Z c72) ?_
   refine WD.o 13 Z (by kernel_rfl) Z ?_
   refine (EV.buildSlice (by decide) sz_30 (by decide) (by decide) (ps := [(0, .tmp 117)]) (cells := [.int .i64 (x66 + x69)]) (EvAll.cons Z Z EvAll.nil) (by kernel_rfl) (fun b74 => ?_))
   refine WD.b (H' := [kn M w.heap.size K0 K0, blk b74 [.int .i64 (x66 + x69)] 3, blk b61 [.int .i64 x58] 3, blk b51 [.int .i64 ((ele l.body x54_1).op), .int .i64 0, .int .i64 0, .int .i64 0, .int .i64 0, .int .i64 ((ele l.body x54_1).ar), .int .i64 ((ele l.body x54_1).sp), .int .i64 ((ele l.body x54_1).pl), .int .i64 ((ele l.body x54_1).n)] 59, blk b50 (Opr.cells (ele k_.ops (ele order x54_1))) 45, vec uv17_1 3 1 (List.map icell v17_1), vec u64 3 1 (List.map icell (v15_1 ++ [x58])), mapR b14 kI bv (mput m14n_1 (ele order x54_1) true), blk b13 [v_l_logs, v_l_body, v_l_outs, .int .i64 k_.pace, .int .i64 t.regs, u64, uv16_1, uv17_1] 159, blk b3 [.int .i64 k_.pace, .int .i64 k_.stages, v_k__ops] 27, blk b2 t.cells 24, blk b1 [v_l_logs, v_l_body, v_l_outs] 49]) (fun w hw => hw.pick [12, 0, 1, 2, 3, 4, 6, 7, 8, 9, 10, 11] (by decide)) (fun w hw => hw.pick [0, 2, 3, 4, 5, 6, 7, 8, 9, 10, 11] (by decide)) ?_
   refine WD.o 14 Z (by kernel_rfl) Z ?_
   obtain ⟨c75, hm76⟩ := cs hm73; clear hm73
   refine (EV.appendL (enc := icell) (xs := v16_1) (ys := [(x66 + x69)]) ((v16_1 ++ [(x66 + x69)])) 5 (by decide) ve30 Z Z Z Z Z (Own.blkArr 0 (rows := [(x66 + x69)].map icell) Z Z (rows_len icell_len)) icell_len (icell_one _) Z c75.1 c75.2 (fun u77 hu78 => ?_))
   refine WD.b (H' := [kn M w.heap.size K0 K0, blk b74 [.int .i64 (x66 + x69)] 3, blk b61 [.int .i64 x58] 3, blk b51 [.int .i64 ((ele l.body x54_1).op), .int .i64 0, .int .i64 0, .int .i64 0, .int .i64 0, .int .i64 ((ele l.body x54_1).ar), .int .i64 ((ele l.body x54_1).sp), .int .i64 ((ele l.body x54_1).pl), .int .i64 ((ele l.body x54_1).n)] 59, blk b50 (Opr.cells (ele k_.ops (ele order x54_1))) 45, vec uv17_1 3 1 (List.map icell v17_1), vec u77 3 1 (List.map icell (v16_1 ++ [(x66 + x69)])), vec u64 3 1 (List.map icell (v15_1 ++ [x58])), mapR b14 kI bv (mput m14n_1 (ele order x54_1) true), blk b13 [v_l_logs, v_l_body, v_l_outs, .int .i64 k_.pace, .int .i64 t.regs, u64, uv16_1, uv17_1] 159, blk b3 [.int .i64 k_.pace, .int .i64 k_.stages, v_k__ops] 27, blk b2 t.cells 24, blk b1 [v_l_logs, v_l_body, v_l_outs] 49]) (fun w hw => hw.pick [12, 0, 1, 2, 3, 4, 5, 6, 7, 8, 9, 10, 11] (by decide)) (fun w hw => hw.pick [0, 1, 2, 3, 4, 5, 7, 8, 9, 10, 11, 12] (by decide)) ?_
   refine wz 15 Z Z (QV.nilCheck Z Z) ?_
   refine wz 16 Z Z (QV.fieldAddr fd159_4 Z Z) ?_
   refine WD.l 17 Z (by kernel_rfl) Z ?_
   refine (EV.store 8 Z Z Z Z Z Z (vs := [u77]) (SliceLen.cells hu78) sz30 (Nat.le_of_ble_eq_true Z) (one_cons (SliceLen.one hu78) one_nil) ?_)
   refine WQ.then ?_
   refine WC.dr (m := 15) (S := Own M w [kn M w.heap.size K0 K0, blk b74 [.int .i64 (x66 + x69)] 3, blk b61 [.int .i64 x58] 3, blk b51 [.int .i64 ((ele l.body x54_1).op), .int .i64 0, .int .i64 0, .int .i64 0, .int .i64 0, .int .i64 ((ele l.body x54_1).ar), .int .i64 ((ele l.body x54_1).sp), .int .i64 ((ele l.body x54_1).pl), .int .i64 ((ele l.body x54_1).n)] 59, blk b50 (Opr.cells (ele k_.ops (ele order x54_1))) 45, vec u77 3 1 (List.map icell (v16_1 ++ [(x66 + x69)])), vec u64 3 1 (List.map icell (v15_1 ++ [x58])), mapR b14 kI bv (mput m14n_1 (ele order x54_1) true), blk b13 [v_l_logs, v_l_body, v_l_outs, .int .i64 k_.pace, .int .i64 t.regs, u64, u77, uv17_1] 159, blk b3 [.int .i64 k_.pace, .int .i64 k_.stages, v_k__ops] 27, blk b2 t.cells 24, blk b1 [v_l_logs, v_l_body, v_l_outs] 49]) (by kernel_rfl) (by kernel_rfl) (fun w hw => hw.pick [12, 0, 1, 2, 3, 5, 6, 7, 8, 9, 10, 11] (by decide)) ?_
   refine wz 0 Z Z (QV.move Z Z) ?_
   refine wz 1 Z Z (QV.move Z Z) ?_
   refine wz 2 Z Z (QV.nilCheck Z Z) ?_
   refine wz 3 Z Z (QV.fieldAddr fd159_5 Z Z) ?_
   refine wz 4 Z Z (QV.load pl30 Z Z (Own.cell 8 Z Z)) ?_
   refine wz 5 Z Z (QV.fieldAddr fd45_3 Z Z) ?_
   refine wz 6 Z Z (QV.load pl3 Z Z (Own.cell 4 Z Z)) ?_
   refine wz 7 Z Z (QV.fieldAddr fd45_1 Z Z) ?_
   refine wz 8 Z Z (QV.load pl3 Z Z (Own.cell 4 Z Z)) ?_
   obtain ⟨c79, hm80⟩ := cs hm76; clear hm76
   refine wz 9 Z Z (QV.add Z Z Z Z c79) ?_
   refine WD.o 10 Z (by kernel_rfl) Z ?_
   refine (EV.buildSlice (by decide) sz_30 (by decide) (by decide) (ps := [(0, .tmp 131)]) (cells := [.int .i64 ((ele k_.ops (ele order x54_1)).dest + (ele k_.ops (ele order x54_1)).stage)]) (EvAll.cons Z Z EvAll.nil) (by kernel_rfl) (fun b81 => ?_))
   refine WD.b (H' := [kn M w.heap.size K0 K0, blk b81 [.int .i64 ((ele k_.ops (ele order x54_1)).dest + (ele k_.ops (ele order x54_1)).stage)] 3, blk b74 [.int .i64 (x66 + x69)] 3, blk b61 [.int .i64 x58] 3, blk b51 [.int .i64 ((ele l.body x54_1).op), .int .i64 0, .int .i64 0, .int .i64 0, .int .i64 0, .int .i64 ((ele l.body x54_1).ar), .int .i64 ((ele l.body x54_1).sp), .int .i64 ((ele l.body x54_1).pl), .int .i64 ((ele l.body x54_1).n)] 59, blk b50 (Opr.cells (ele k_.ops (ele order x54_1))) 45, vec u77 3 1 (List.map icell (v16_1 ++ [(x66 + x69)])), vec u64 3 1 (List.map icell (v15_1 ++ [x58])), mapR b14 kI bv (mput m14n_1 (ele order x54_1) true), blk b13 [v_l_logs, v_l_body, v_l_outs, .int .i64 k_.pace, .int .i64 t.regs, u64, u77, uv17_1] 159, blk b3 [.int .i64 k_.pace, .int .i64 k_.stages, v_k__ops] 27, blk b2 t.cells 24, blk b1 [v_l_logs, v_l_body, v_l_outs] 49]) (fun w hw => hw.pick [13, 0, 1, 2, 3, 4, 6, 7, 8, 9, 10, 11, 12] (by decide)) (fun w hw => hw.pick [0, 2, 3, 4, 5, 6, 7, 8, 9, 10, 11, 12] (by decide)) ?_
   refine WD.o 11 Z (by kernel_rfl) Z ?_
   obtain ⟨c82, hm83⟩ := cs hm80; clear hm80
   refine (EV.appendL (enc := icell) (xs := v17_1) (ys := [((ele k_.ops (ele order x54_1)).dest + (ele k_.ops (ele order x54_1)).stage)]) ((v17_1 ++ [((ele k_.ops (ele order x54_1)).dest + (ele k_.ops (ele order x54_1)).stage)])) 5 (by decide) ve30 Z Z Z Z Z (Own.blkArr 0 (rows := [((ele k_.ops (ele order x54_1)).dest + (ele k_.ops (ele order x54_1)).stage)].map icell) Z Z (rows_len icell_len)) icell_len (icell_one _) Z c82.1 c82.2 (fun u84 hu85 => ?_))
   refine WD.b (H' := [kn M w.heap.size K0 K0, blk b81 [.int .i64 ((ele k_.ops (ele order x54_1)).dest + (ele k_.ops (ele order x54_1)).stage)] 3, blk b74 [.int .i64 (x66 + x69)] 3, blk b61 [.int .i64 x58] 3, blk b51 [.int .i64 ((ele l.body x54_1).op), .int .i64 0, .int .i64 0, .int .i64 0, .int .i64 0, .int .i64 ((ele l.body x54_1).ar), .int .i64 ((ele l.body x54_1).sp), .int .i64 ((ele l.body x54_1).pl), .int .i64 ((ele l.body x54_1).n)] 59, blk b50 (Opr.cells (ele k_.ops (ele order x54_1))) 45, vec u84 3 1 (List.map icell (v17_1 ++ [((ele k_.ops (ele order x54_1)).dest + (ele k_.ops (ele order x54_1)).stage)])), vec u77 3 1 (List.map icell (v16_1 ++ [(x66 + x69)])), vec u64 3 1 (List.map icell (v15_1 ++ [x58])), mapR b14 kI bv (mput m14n_1 (ele order x54_1) true), blk b13 [v_l_logs, v_l_body, v_l_outs, .int .i64 k_.pace, .int .i64 t.regs, u64, u77, uv17_1] 159, blk b3 [.int .i64 k_.pace, .int .i64 k_.stages, v_k__ops] 27, blk b2 t.cells 24, blk b1 [v_l_logs, v_l_body, v_l_outs] 49]) (fun w hw => hw.pick [13, 0, 1, 2, 3, 4, 5, 6, 7, 8, 9, 10, 11, 12] (by decide)) (fun w hw => hw.pick [0, 1, 2, 3, 4, 5, 7, 8, 9, 10, 11, 12, 13] (by decide)) ?_
   refine wz 12 Z Z (QV.nilCheck Z Z) ?_
   refine wz 13 Z Z (QV.fieldAddr fd159_5 Z Z) ?_
   refine WD.l 14 Z (by kernel_rfl) Z ?_
   refine (EV.store 9 Z Z Z Z Z Z (vs := [u84]) (SliceLen.cells hu85) sz30 (Nat.le_of_ble_eq_true Z) (one_cons (SliceLen.one hu85) one_nil) ?_)
   refine WQ.block (WQ.then (WC.region ?_))
   obtain ⟨c86, hm87⟩ := cs hm83; clear hm83
   refine wq Z (QV.add Z Z Z Z c86) ?_
   refine wm Z ?_
   refine WL.nil ?_
   exact WQ.again8 (v17_1 ++ [((ele k_.ops (ele order x54_1)).dest + (ele k_.ops (ele order x54_1)).stage)]) (v16_1 ++ [(x66 + x69)]) (v15_1 ++ [x58]) (mput m14n_1 (ele order x54_1) true) (x54_1 + 1) u84 u77 u64 m29 ⟨up_next hm87 hn32, hu85, hu78, hu65⟩ (Nat.lt_succ_self _) ⟨Z, Z, Z, Z, Z, Z, Z, Z, trivial⟩ (fun w hw => hw.pick [5, 6, 7, 8, 9, 10, 11, 12, 13] (by decide))
  refine WD.two 10 11 1023 2047 3071 (by kernel_rfl) Z Z Z Z (by kernel_rfl) (by kernel_rfl) ?_ ?_
  ·skip
   refine (EV.alloc (by decide) ze45 (fun b88 => ?_))
   refine WD.b (H' := [kn M w.heap.size K0 K0, vec uv17_1 3 1 (List.map icell v17_1), vec uv16_1 3 1 (List.map icell v16_1), vec uv15_1 3 1 (List.map icell v15_1), mapR b14 kI bv (mput m14n_1 (ele order x54_1) true), blk b13 [v_l_logs, v_l_body, v_l_outs, .int .i64 k_.pace, .int .i64 t.regs, uv15_1, uv16_1, uv17_1] 159, blk b3 [.int .i64 k_.pace, .int .i64 k_.stages, v_k__ops] 27, blk b2 t.cells 24, blk b1 [v_l_logs, v_l_body, v_l_outs] 49]) (fun w hw => hw.pick [9, 1, 2, 3, 4, 5, 6, 7, 8] (by decide)) (fun w hw => hw) ?_
   refine WD.oL 11 2047 4095 Z (by kernel_rfl) Z ?_
   refine (EV.alloc (by decide) ze59 (fun b89 => ?_))
   refine WD.b (H' := [kn M w.heap.size K0 K0, vec uv17_1 3 1 (List.map icell v17_1), vec uv16_1 3 1 (List.map icell v16_1), vec uv15_1 3 1 (List.map icell v15_1), mapR b14 kI bv (mput m14n_1 (ele order x54_1) true), blk b13 [v_l_logs, v_l_body, v_l_outs, .int .i64 k_.pace, .int .i64 t.regs, uv15_1, uv16_1, uv17_1] 159, blk b3 [.int .i64 k_.pace, .int .i64 k_.stages, v_k__ops] 27, blk b2 t.cells 24, blk b1 [v_l_logs, v_l_body, v_l_outs] 49]) (fun w hw => hw.pick [10, 2, 3, 4, 5, 6, 7, 8, 9] (by decide)) (fun w hw => hw) ?_
   refine WD.oL 12 4095 8191 Z (by kernel_rfl) Z ?_
   refine (EV.store 1 Z Z Z Z Z Z (vs := (Opr.cells (ele k_.ops (ele order x54_1)))) (show Value.cells _ = List.toArray _ from Z) sz45 (Nat.le_of_ble_eq_true Z) (one_cons Z (one_cons Z (one_cons Z (one_cons Z (one_cons Z (one_cons Z (one_cons Z (one_cons Z (one_cons Z (one_cons Z one_nil)))))))))) ?_)
   refine WD.b (H' := [kn M w.heap.size K0 K0, vec uv17_1 3 1 (List.map icell v17_1), vec uv16_1 3 1 (List.map icell v16_1), vec uv15_1 3 1 (List.map icell v15_1), mapR b14 kI bv (mput m14n_1 (ele order x54_1) true), blk b13 [v_l_logs, v_l_body, v_l_outs, .int .i64 k_.pace, .int .i64 t.regs, uv15_1, uv16_1, uv17_1] 159, blk b3 [.int .i64 k_.pace, .int .i64 k_.stages, v_k__ops] 27, blk b2 t.cells 24, blk b1 [v_l_logs, v_l_body, v_l_outs] 49]) (fun w hw => hw.pick [10, 2, 3, 4, 5, 6, 7, 8, 9] (by decide)) (fun w hw => hw) ?_
   refine WD.oL 13 8191 16383 Z (by kernel_rfl) Z ?_
   refine (EV.store 0 Z Z Z Z Z Z (vs := (Stm.cells (ele l.body x54_1))) (show Value.cells _ = List.toArray _ from Z) sz59 (Nat.le_of_ble_eq_true Z) (one_cons Z (one_cons Z (one_cons Z (one_cons Z (one_cons Z (one_cons Z (one_cons Z (one_cons Z (one_cons Z one_nil))))))))) ?_)
   refine WD.b (H' := [kn M w.heap.size K0 K0, vec uv17_1 3 1 (List.map icell v17_1), vec uv16_1 3 1 (List.map icell v16_1), vec uv15_1 3 1 (List.map icell v15_1), mapR b14 kI bv (mput m14n_1 (ele order x54_1) true), blk b13 [v_l_logs, v_l_body, v_l_outs, .int .i64 k_.pace, .int .i64 t.regs, uv15_1, uv16_1, uv17_1] 159, blk b3 [.int .i64 k_.pace, .int .i64 k_.stages, v_k__ops] 27, blk b2 t.cells 24, blk b1 [v_l_logs, v_l_body, v_l_outs] 49]) (fun w hw => hw.pick [10, 2, 3, 4, 5, 6, 7, 8, 9] (by decide)) (fun w hw => hw) ?_
   refine WD.eL (by kernel_rfl) ?_
   exact WQ.cutEnd2 b88 b89 ⟨Z, Z, Z, Z, Z, Z, Z, Z, Z, Z, trivial⟩ (fun w hw => hw.pick [0, 1, 2, 3, 4, 5, 6, 7, 8, 9, 10] (by decide))
  refine (EV.alloc (by decide) ze59 (fun b90 => ?_))
  refine WD.b (H' := [kn M w.heap.size K0 K0, vec uv17_1 3 1 (List.map icell v17_1), vec uv16_1 3 1 (List.map icell v16_1), vec uv15_1 3 1 (List.map icell v15_1), mapR b14 kI bv (mput m14n_1 (ele order x54_1) true), blk b13 [v_l_logs, v_l_body, v_l_outs, .int .i64 k_.pace, .int .i64 t.regs, uv15_1, uv16_1, uv17_1] 159, blk b3 [.int .i64 k_.pace, .int .i64 k_.stages, v_k__ops] 27, blk b2 t.cells 24, blk b1 [v_l_logs, v_l_body, v_l_outs] 49]) (fun w hw => hw.pick [9, 1, 2, 3, 4, 5, 6, 7, 8] (by decide)) (fun w hw => hw) ?_
  refine WD.oL 10 3071 4095 Z (by kernel_rfl) Z ?_
  refine (EV.alloc (by decide) ze45 (fun b91 => ?_))
  refine WD.b (H' := [kn M w.heap.size K0 K0, vec uv17_1 3 1 (List.map icell v17_1), vec uv16_1 3 1 (List.map icell v16_1), vec uv15_1 3 1 (List.map icell v15_1), mapR b14 kI bv (mput m14n_1 (ele order x54_1) true), blk b13 [v_l_logs, v_l_body, v_l_outs, .int .i64 k_.pace, .int .i64 t.regs, uv15_1, uv16_1, uv17_1] 159, blk b3 [.int .i64 k_.pace, .int .i64 k_.stages, v_k__ops] 27, blk b2 t.cells 24, blk b1 [v_l_logs, v_l_body, v_l_outs] 49]) (fun w hw => hw.pick [10, 2, 3, 4, 5, 6, 7, 8, 9] (by decide)) (fun w hw => hw) ?_
  refine WD.oL 12 4095 8191 Z (by kernel_rfl) Z ?_
  refine (EV.store 0 Z Z Z Z Z Z (vs := (Opr.cells (ele k_.ops (ele order x54_1)))) (show Value.cells _ = List.toArray _ from Z) sz45 (Nat.le_of_ble_eq_true Z) (one_cons Z (one_cons Z (one_cons Z (one_cons Z (one_cons Z (one_cons Z (one_cons Z (one_cons Z (one_cons Z (one_cons Z one_nil)))))))))) ?_)
  refine WD.b (H' := [kn M w.heap.size K0 K0, vec uv17_1 3 1 (List.map icell v17_1), vec uv16_1 3 1 (List.map icell v16_1), vec uv15_1 3 1 (List.map icell v15_1), mapR b14 kI bv (mput m14n_1 (ele order x54_1) true), blk b13 [v_l_logs, v_l_body, v_l_outs, .int .i64 k_.pace, .int .i64 t.regs, uv15_1, uv16_1, uv17_1] 159, blk b3 [.int .i64 k_.pace, .int .i64 k_.stages, v_k__ops] 27, blk b2 t.cells 24, blk b1 [v_l_logs, v_l_body, v_l_outs] 49]) (fun w hw => hw.pick [10, 2, 3, 4, 5, 6, 7, 8, 9] (by decide)) (fun w hw => hw) ?_
  refine WD.oL 13 8191 16383 Z (by kernel_rfl) Z ?_
  refine (EV.store 1 Z Z Z Z Z Z (vs := (Stm.cells (ele l.body x54_1))) (show Value.cells _ = List.toArray _ from Z) sz59 (Nat.le_of_ble_eq_true Z) (one_cons Z (one_cons Z (one_cons Z (one_cons Z (one_cons Z (one_cons Z (one_cons Z (one_cons Z (one_cons Z one_nil))))))))) ?_)
  refine WD.b (H' := [kn M w.heap.size K0 K0, vec uv17_1 3 1 (List.map icell v17_1), vec uv16_1 3 1 (List.map icell v16_1), vec uv15_1 3 1 (List.map icell v15_1), mapR b14 kI bv (mput m14n_1 (ele order x54_1) true), blk b13 [v_l_logs, v_l_body, v_l_outs, .int .i64 k_.pace, .int .i64 t.regs, uv15_1, uv16_1, uv17_1] 159, blk b3 [.int .i64 k_.pace, .int .i64 k_.stages, v_k__ops] 27, blk b2 t.cells 24, blk b1 [v_l_logs, v_l_body, v_l_outs] 49]) (fun w hw => hw.pick [10, 2, 3, 4, 5, 6, 7, 8, 9] (by decide)) (fun w hw => hw) ?_
  refine WD.eL (by kernel_rfl) ?_
  exact WQ.cutEnd2 b91 b90 ⟨Z, Z, Z, Z, Z, Z, Z, Z, Z, Z, trivial⟩ (fun w hw => hw.pick [1, 0, 2, 3, 4, 5, 6, 7, 8, 9, 10] (by decide))
 have hm92 := br_f h33 hm31; clear hm31
 refine WC.exit (te (te (WQ.block_exit ?_)))
 exact WQ.out8 v17_1 v16_1 v15_1 m14n_1 x54_1 uv17_1 uv16_1 uv15_1 ⟨up_brk hm92 hn32, hlv17_1, hlv16_1, hlv15_1⟩ ⟨Z, Z, Z, Z, Z, Z, Z, Z, trivial⟩ (fun w hw => hw.pick [0, 1, 2, 3, 4, 5, 6, 7, 8] (by decide))

set_option maxRecDepth 8000 in
theorem check_named_w {v_l_logs : Value} {v_l_body : Value} {v_l_outs : Value} {v_k__ops : Value} {v_order : Value} {p_y : Addr} {v_y_Loop_Logs : Value} {v_y_Loop_Body : Value} {v_y_Loop_Outs : Value} {v_y_Time : Value} {v_y_Ready : Value} {v_y_Places : Value} {l : Lp} {t : Tgt} {k_ : Krn} {order : List Int} {y_Pace : Int} {y_Regs : Int} {y_Places : List Int} {r : Bool} (w : World) (hm : check_named_m l t k_ order y_Pace y_Regs y_Places = some r) (h_l_logs : Arr w v_l_logs 1 (l.logs.map icell)) (h_l_body : Arr w v_l_body 9 (l.body.map Stm.cells)) (h_l_outs : Arr w v_l_outs 1 (l.outs.map icell)) (h_k__ops : Arr w v_k__ops 10 (k_.ops.map Opr.cells)) (h_order : Arr w v_order 1 (order.map icell)) (h_y_Places : Arr w v_y_Places 1 (y_Places.map icell)) (hp_y : CellsAt w p_y [v_y_Loop_Logs, v_y_Loop_Body, v_y_Loop_Outs, .int .i64 y_Pace, .int .i64 y_Regs, v_y_Time, v_y_Ready, v_y_Places] 0) : Calls Try.prog 114 #[.agg #[v_l_logs, v_l_body, v_l_outs], .agg #[.int .i64 t.u0, .int .i64 t.u1, .int .i64 t.u2, .int .i64 t.w0, .int .i64 t.w1, .int .i64 t.w2, .int .i64 t.regs], .agg #[.int .i64 k_.pace, .int .i64 k_.stages, v_k__ops], v_order, .pointer (some p_y)] w (fun e w' => e = .returned (.bool r) ∧ Grow w w') := by
 unfold check_named_m at hm
 have hk := Base.rfl (w := w)
 refine calls_of_WC (n := 67) (args := [.agg #[v_l_logs, v_l_body, v_l_outs], .agg #[.int .i64 t.u0, .int .i64 t.u1, .int .i64 t.u2, .int .i64 t.w0, .int .i64 t.w1, .int .i64 t.w2, .int .i64 t.regs], .agg #[.int .i64 k_.pace, .int .i64 k_.stages, v_k__ops], v_order, .pointer (some p_y)]) Try.func114 Z Z (Nat.le_of_ble_eq_true Z) ?_ (Own.startK hk (Own.start w))
 refine sr ?_
 refine WL.effect Z ?_
 refine (EV.boxAgg (by decide) Z Z (fun b1 => ?_))
 refine WL.effect Z ?_
 refine (EV.boxAgg (by decide) Z Z (fun b2 => ?_))
 refine WL.effect Z ?_
 refine (EV.boxAgg (by decide) Z Z (fun b3 => ?_))
 refine wa Z ?_
 refine nt (WC.seq (sr ?_))
 refine wf fd49_1 Z ?_
 refine wl pl47 Z (Own.cell 2 Z Z) ?_
 refine wq Z (QV.lenS Try.underlying47 Z Z h_l_body.lenMap) ?_
 refine wm Z ?_
 refine nt ?_
 obtain ⟨o4, ho5, hm6⟩ := bd_some hm; clear hm; obtain ⟨n7, ho8⟩ := lp_some ho5
 refine WC.bloop2 (H2 := [blk b3 [.int .i64 k_.pace, .int .i64 k_.stages, v_k__ops] 27, blk b2 t.cells 24, blk b1 [v_l_logs, v_l_body, v_l_outs] 49]) (τ := [(3, (true, _)), (4, (true, _)), (6, (true, _)), (7, (true, _)), (17, (true, _)), (18, (true, _))]) (fun (x19_3 : Int) (k_3 : World) => [(19, (true, .int .i64 x19_3))]) (fun x19_3 k_3 => [kn noM w.heap.size w k_3]) (fun x19_3 k_3 m => iter (check_named_L0 l t k_ order y_Places) m x19_3 = some o4 ∧ Le w k_3) (fun x19_3 k_3 => o4 = .go x19_3 ∧ Le w k_3) 0 w n7 ⟨ho8, (Le.refl _)⟩ ⟨Z, Z, Z, Z, Z, Z, Z, trivial⟩ (fun w hw => hw.pick [3, 0, 1, 2] (by decide)) ?_ ?_
 ·skip
  rintro x19_3 k_3 ⟨rfl, hle_3⟩
  refine WQ.then (sr ?_)
  refine wa Z ?_
  refine nt (WC.ret ?_)
  obtain rfl := (eq_of_some hm6).symm
  refine WQ.ret1 Z Z (fun w hw => ?_)
  exact ⟨Z, Own.kgrow (fun _ x => x) hw⟩
 rintro x19_3 k_3 m9 ⟨hI10, hle_3⟩
 obtain ⟨m11, s12, rfl, hm13, hn14⟩ := iter_step hI10; clear hI10; unfold check_named_L0 at hm13
 refine sr ?_
 refine wq Z (QV.lss Z Z Z Z) ?_
 refine nt (WC.seq ?_)
 refine WC.cond Z (fun h15 => ?_) (fun h15 => ?_)
 ·skip
  have hm16 := br_t h15 hm13; clear hm13
  refine sk (WQ.then (WC.seq (WC.block (sr ?_))))
  refine wm Z ?_
  obtain ⟨c17, hm18⟩ := cs hm16; clear hm16
  obtain ⟨p19, hp20⟩ := (h_l_body.le hle_3).lenMap.ix (sz := 9) ln_len c17
  refine wq Z (QV.indexSlice sl47 Z Z Z Z hp20) ?_
  refine wq Z (QV.loadAgg ag59 Z Z Z (fun w hw => ((Own.karr 0 Z hk (h_l_body.le hle_3)) w hw).ele hp20 c17)) ?_
  refine WL.effect Z ?_
  refine (EV.alloc (by decide) ze59 (fun b21 => ?_))
  refine wa Z ?_
  refine WL.effect Z ?_
  refine (EV.store 0 Z Z Z Z Z Z (vs := (Stm.cells (ele l.body x19_3))) (show Value.cells _ = List.toArray _ from Z) sz59 (Nat.le_of_ble_eq_true Z) (one_cons Z (one_cons Z (one_cons Z (one_cons Z (one_cons Z (one_cons Z (one_cons Z (one_cons Z (one_cons Z one_nil))))))))) ?_)
  refine nt (WC.seq ?_)
  refine WC.dr (m := 10) (S := Own noM w [kn noM w.heap.size w k_3, blk b21 (Stm.cells (ele l.body x19_3)) 59, blk b3 [.int .i64 k_.pace, .int .i64 k_.stages, v_k__ops] 27, blk b2 t.cells 24, blk b1 [v_l_logs, v_l_body, v_l_outs] 49]) (by kernel_rfl) (by kernel_rfl) (fun w hw => hw.pick [1, 0, 2, 3, 4] (by decide)) ?_
  refine wz 0 Z Z (QV.fieldAddr fd27_2 Z Z) ?_
  refine wz 1 Z Z (QV.load pl25 Z Z (Own.cell 2 Z Z)) ?_
  refine wz 2 Z Z (QV.move Z Z) ?_
  refine wz 3 Z Z (QV.move Z Z) ?_
  obtain ⟨c22, hm23⟩ := cs hm18; clear hm18
  obtain ⟨p24, hp25⟩ := (h_order.le hle_3).lenMap.ix (sz := 1) ln_len c22
  refine wz 4 Z Z (QV.indexSlice sl30 Z Z Z Z hp25) ?_
  refine wz 5 Z Z (QV.load pl3 Z Z (fun w hw => CellsAt.one 0 (((Own.karr 0 Z hk (h_order.le hle_3)) w hw).ele hp25 c22) Z)) ?_
  obtain ⟨c26, hm27⟩ := cs hm23; clear hm23
  obtain ⟨p28, hp29⟩ := (h_k__ops.le hle_3).lenMap.ix (sz := 10) ln_len c26
  refine wz 6 Z Z (QV.indexSlice sl25 Z Z Z Z hp29) ?_
  refine wz 7 Z Z (QV.loadAgg ag45 Z Z Z (fun w hw => ((Own.karr 0 Z hk (h_k__ops.le hle_3)) w hw).ele hp29 c26)) ?_
  refine WD.o 8 Z (by kernel_rfl) Z ?_
  refine (EV.alloc (by decide) ze45 (fun b30 => ?_))
  refine WD.b (H' := [kn noM w.heap.size w k_3, blk b30 [.int .i64 0, .int .i64 0, .int .i64 0, .int .i64 0, .int .i64 0, .int .i64 0, .int .i64 0, .int .i64 0, .int .i64 0, .int .i64 0] 45, blk b21 (Stm.cells (ele l.body x19_3)) 59, blk b3 [.int .i64 k_.pace, .int .i64 k_.stages, v_k__ops] 27, blk b2 t.cells 24, blk b1 [v_l_logs, v_l_body, v_l_outs] 49]) (fun w hw => hw.pick [2, 0, 1, 3, 4, 5] (by decide)) (fun w hw => hw.pick [0, 2, 3, 4, 5] (by decide)) ?_
  refine WD.l 9 Z (by kernel_rfl) Z ?_
  refine (EV.store 0 Z Z Z Z Z Z (vs := (Opr.cells (ele k_.ops (ele order x19_3)))) (show Value.cells _ = List.toArray _ from Z) sz45 (Nat.le_of_ble_eq_true Z) (one_cons Z (one_cons Z (one_cons Z (one_cons Z (one_cons Z (one_cons Z (one_cons Z (one_cons Z (one_cons Z (one_cons Z one_nil)))))))))) ?_)
  refine WQ.then (sr ?_)
  refine wq Z (QV.loadAgg ag59 Z Z Z (Own.cellsBlk 1 Z)) ?_
  refine WL.effect Z ?_
  obtain ⟨x31, hx32, hm33⟩ := bd_some hm27; clear hm27
  refine EV.of (C' := Own noM w [kn noM w.heap.size w k_3, blk b30 (Opr.cells (ele k_.ops (ele order x19_3))) 45, blk b21 (Stm.cells (ele l.body x19_3)) 59, blk b3 [.int .i64 k_.pace, .int .i64 k_.stages, v_k__ops] 27, blk b2 t.cells 24, blk b1 [v_l_logs, v_l_body, v_l_outs] 49]) (fun w hw => hw.pick [2, 0, 1, 3, 4, 5] (by decide)) ?_
  refine (EV.callR (X := Value × World) (R := []) (fun X => X.1) (fun X => []) (fun X => X.2) (fun X => Arr X.2 X.1 2 (x31.map Rf.cells)) hk (fun _ h => by cases h; decide) en62 (EvAll.cons Z Z EvAll.nil) (fun M w h1 h2 => have h := loop_Uses_w hx32  M w h1 h2; h) (fun X34 hF34 hle34 => ?_))
  refine wq Z (QV.lenS Try.underlying106 Z Z hF34.lenMap) ?_
  refine wm Z ?_
  refine nt ?_
  obtain ⟨o35, ho36, hm37⟩ := bd_some hm33; clear hm33; obtain ⟨n38, ho39⟩ := lp_some ho36
  refine WC.bloop1 (H2 := [kn noM w.heap.size w X34.2, blk b30 (Opr.cells (ele k_.ops (ele order x19_3))) 45, blk b21 (Stm.cells (ele l.body x19_3)) 59, blk b3 [.int .i64 k_.pace, .int .i64 k_.stages, v_k__ops] 27, blk b2 t.cells 24, blk b1 [v_l_logs, v_l_body, v_l_outs] 49]) (τ := [(3, (true, _)), (4, (true, _)), (6, (true, _)), (7, (true, _)), (13, (true, _)), (17, (true, _)), (18, (true, _)), (19, (true, _)), (33, (true, _)), (34, (true, _))]) (fun (x35_4 : Int) => [(35, (true, .int .i64 x35_4))]) (fun x35_4 => []) (fun x35_4 m => iter (check_named_L2 t k_ order y_Places x19_3 x31) m x35_4 = some o35) (fun x35_4 => o35 = .go x35_4) 0 n38 ho39 ⟨Z, Z, Z, Z, Z, Z, Z, Z, Z, Z, Z, trivial⟩ (fun w hw => hw.pick [0, 1, 2, 3, 4, 5] (by decide)) ?_ ?_
  ·skip
   rintro x35_4 rfl
   refine WQ.block (WQ.then (WC.region ?_))
   obtain ⟨c40, hm41⟩ := cs hm37; clear hm37
   refine wq Z (QV.add Z Z Z Z c40) ?_
   refine wm Z ?_
   refine WL.nil ?_
   exact WQ.again2 (x19_3 + 1) X34.2 m11 ⟨up_next hm41 hn14, (hle_3.trans hle34)⟩ (Nat.lt_succ_self _) ⟨Z, Z, Z, Z, Z, Z, Z, trivial⟩ (fun w hw => hw.pick [0, 3, 4, 5] (by decide))
  rintro x35_4 m42 hI43
  obtain ⟨m44, s45, rfl, hm46, hn47⟩ := iter_step hI43; clear hI43; unfold check_named_L2 at hm46
  refine sr ?_
  refine wq Z (QV.lss Z Z Z Z) ?_
  refine nt (WC.seq ?_)
  refine WC.cond Z (fun h48 => ?_) (fun h48 => ?_)
  ·skip
   have hm49 := br_t h48 hm46; clear hm46
   refine sk (WQ.then (WC.seq (WC.block (sr ?_))))
   refine wm Z ?_
   obtain ⟨c50, hm51⟩ := cs hm49; clear hm49
   obtain ⟨p52, hp53⟩ := hF34.lenMap.ix (sz := 2) ln_len c50
   refine wq Z (QV.indexSlice sl106 Z Z Z Z hp53) ?_
   refine wq Z (QV.loadAgg ag57 Z Z Z (fun w hw => ((Own.karr 0 Z hk hF34) w hw).ele hp53 c50)) ?_
   refine WL.effect Z ?_
   refine (EV.alloc (by decide) ze57 (fun b54 => ?_))
   refine wa Z ?_
   refine WL.effect Z ?_
   refine (EV.store 0 Z Z Z Z Z Z (vs := [.int .i64 ((ele x31 x35_4).st), .int .i64 ((ele x31 x35_4).bk)]) (show Value.cells _ = List.toArray _ from Z) sz57 (Nat.le_of_ble_eq_true Z) (one_cons Z (one_cons Z one_nil)) ?_)
   refine nt (WC.seq ?_)
   refine WC.dr (m := 25) (S := Own noM w [kn noM w.heap.size w X34.2, blk b54 [.int .i64 ((ele x31 x35_4).st), .int .i64 ((ele x31 x35_4).bk)] 57, blk b30 (Opr.cells (ele k_.ops (ele order x19_3))) 45, blk b21 (Stm.cells (ele l.body x19_3)) 59, blk b3 [.int .i64 k_.pace, .int .i64 k_.stages, v_k__ops] 27, blk b2 t.cells 24, blk b1 [v_l_logs, v_l_body, v_l_outs] 49]) (by kernel_rfl) (by kernel_rfl) (fun w hw => hw.pick [1, 0, 2, 3, 4, 5, 6] (by decide)) ?_
   refine wz 0 Z Z (QV.fieldAddr fd45_4 Z Z) ?_
   refine wz 1 Z Z (QV.load pl3 Z Z (Own.cell 2 Z Z)) ?_
   refine wz 2 Z Z (QV.fieldAddr fd45_5 Z Z) ?_
   refine wz 3 Z Z (QV.load pl3 Z Z (Own.cell 2 Z Z)) ?_
   refine wz 4 Z Z (QV.build (ps := [(0, .tmp 41), (1, .tmp 43)]) (cells := [.int .i64 ((ele k_.ops (ele order x19_3)).a), .int .i64 ((ele k_.ops (ele order x19_3)).b)]) (EvAll.cons Z Z (EvAll.cons Z Z EvAll.nil)) (by kernel_rfl)) ?_
   refine wz 5 Z Z (QV.move Z Z) ?_
   obtain ⟨c55, hm56⟩ := cs hm51; clear hm51
   refine wz 6 Z Z (QV.indexL (xs := ([(ele k_.ops (ele order x19_3)).a, (ele k_.ops (ele order x19_3)).b] : List Int)) Try.underlying90 pl3 sz3 Z Z Z Z Z c55) ?_
   refine wz 7 Z Z (QV.move Z Z) ?_
   refine wz 8 Z Z (QV.nilCheck Z Z) ?_
   refine wz 9 Z Z (QV.fieldAddr fd159_5 Z Z) ?_
   refine wz 10 Z Z (QV.load pl30 Z Z (fun w hw => CellsAt.one 7 ((Own.kcells 0 Z hk (hp_y.le (hle_3.trans hle34))) w hw) Z)) ?_
   refine wz 11 Z Z (QV.fieldAddr fd57_0 Z Z) ?_
   refine wz 12 Z Z (QV.load pl3 Z Z (Own.cell 1 Z Z)) ?_
   obtain ⟨c57, hm58⟩ := cs hm56; clear hm56
   obtain ⟨p59, hp60⟩ := (h_y_Places.le (hle_3.trans hle34)).lenMap.ix (sz := 1) ln_len c57
   refine wz 13 Z Z (QV.indexSlice sl30 Z Z Z Z hp60) ?_
   refine wz 14 Z Z (QV.load pl3 Z Z (fun w hw => CellsAt.one 0 (((Own.karr 0 Z hk (h_y_Places.le (hle_3.trans hle34))) w hw).ele hp60 c57) Z)) ?_
   refine wz 15 Z Z (QV.fieldAddr fd57_1 Z Z) ?_
   refine wz 16 Z Z (QV.load pl3 Z Z (Own.cell 1 Z Z)) ?_
   obtain ⟨c61, hm62⟩ := cs hm58; clear hm58
   refine wz 17 Z Z (QV.sub Z Z Z Z c61) ?_
   refine wz 18 Z Z (QV.fieldAddr fd45_1 Z Z) ?_
   refine wz 19 Z Z (QV.load pl3 Z Z (Own.cell 2 Z Z)) ?_
   obtain ⟨c63, hm64⟩ := cs hm62; clear hm62
   refine wz 20 Z Z (QV.sub Z Z Z Z c63) ?_
   refine wz 21 Z Z (QV.fieldAddr fd24_2 Z Z) ?_
   refine wz 22 Z Z (QV.load pl3 Z Z (Own.cell 5 Z Z)) ?_
   obtain ⟨x65, hx66, hm67⟩ := bd_some hm64; clear hm64
   refine wz 23 Z Z (QV.call en73 (EvAll.cons Z Z (EvAll.cons Z Z EvAll.nil)) (fun w hw => have h := emit_Rest_w w hx66 ; h)) ?_
   refine wz 24 Z Z (QV.neq Z Z Z Z) ?_
   refine WD.e (by kernel_rfl) ?_
   refine WQ.then ?_
   refine WC.cond Z (fun h68 => ?_) (fun h68 => ?_)
   ·skip
    have hm69 := br_t h68 hm67; clear hm67
    refine sr ?_
    refine wa Z ?_
    refine nt (WC.ret (kr (tr (tr (kr (tr (kr (tr (tr (kr (tr (tr ?_))))))))))))
    obtain rfl := up_ret hm69 hn47
    obtain rfl := up_ret hm37 hn14
    obtain rfl := (eq_of_some hm6).symm
    refine WQ.ret1 Z Z (fun w hw => ?_)
    exact ⟨Z, Own.kgrow (fun _ x => x) hw⟩
   have hm70 := br_f h68 hm67; clear hm67
   refine sk (WQ.block (WQ.then (WC.region ?_)))
   obtain ⟨c71, hm72⟩ := cs hm70; clear hm70
   refine wq Z (QV.add Z Z Z Z c71) ?_
   refine wm Z ?_
   refine WL.nil ?_
   exact WQ.again1 (x35_4 + 1) m44 (up_next hm72 hn47) (Nat.lt_succ_self _) ⟨Z, Z, Z, Z, Z, Z, Z, Z, Z, Z, Z, trivial⟩ (fun w hw => hw.pick [1, 2, 3, 4, 5, 6] (by decide))
  have hm73 := br_f h48 hm46; clear hm46
  refine WC.exit (te (te (WQ.block_exit ?_)))
  exact WQ.out1 x35_4 (up_brk hm73 hn47) ⟨Z, Z, Z, Z, Z, Z, Z, Z, Z, Z, Z, trivial⟩ (fun w hw => hw.pick [0, 1, 2, 3, 4, 5] (by decide))
 have hm74 := br_f h15 hm13; clear hm13
 refine WC.exit (te (te (WQ.block_exit ?_)))
 exact WQ.out2 x19_3 k_3 ⟨up_brk hm74 hn14, hle_3⟩ ⟨Z, Z, Z, Z, Z, Z, Z, trivial⟩ (fun w hw => hw.pick [0, 1, 2, 3] (by decide))

set_option maxRecDepth 8000 in
theorem check_takes_w {v_l_logs : Value} {v_l_body : Value} {v_l_outs : Value} {v_k__ops : Value} {v_order : Value} {l : Lp} {t : Tgt} {k_ : Krn} {order : List Int} {r : Option LayT × Bool} {K0 : World} (hm : check_takes_m l t k_ order = some r) (h_l_logs : Arr K0 v_l_logs 1 (l.logs.map icell)) (h_l_body : Arr K0 v_l_body 9 (l.body.map Stm.cells)) (h_l_outs : Arr K0 v_l_outs 1 (l.outs.map icell)) (h_k__ops : Arr K0 v_k__ops 10 (k_.ops.map Opr.cells)) (h_order : Arr K0 v_order 1 (order.map icell)) (M : Nat → Prop) (w : World) (hk : Base M K0 w) (hw0 : Own M w [] w) : Calls Try.prog 86 #[.agg #[v_l_logs, v_l_body, v_l_outs], .agg #[.int .i64 t.u0, .int .i64 t.u1, .int .i64 t.u2, .int .i64 t.w0, .int .i64 t.w1, .int .i64 t.w2, .int .i64 t.regs], .agg #[.int .i64 k_.pace, .int .i64 k_.stages, v_k__ops], v_order] w (fun e w' => ∃ X : Value × World, e = .returned (.tuple #[X.1, .bool r.2]) ∧ Own M w (kn M w.heap.size K0 X.2 :: []) w' ∧ LayAt X.2 X.1 r.1) := by
 unfold check_takes_m at hm
 refine calls_of_WC (n := 104) (args := [.agg #[v_l_logs, v_l_body, v_l_outs], .agg #[.int .i64 t.u0, .int .i64 t.u1, .int .i64 t.u2, .int .i64 t.w0, .int .i64 t.w1, .int .i64 t.w2, .int .i64 t.regs], .agg #[.int .i64 k_.pace, .int .i64 k_.stages, v_k__ops], v_order]) Try.func86 Z Z (Nat.le_of_ble_eq_true Z) ?_ (Own.startK hk hw0)
 refine sr ?_
 refine WL.effect Z ?_
 refine (EV.boxAgg (by decide) Z Z (fun b1 => ?_))
 refine WL.effect Z ?_
 refine (EV.boxAgg (by decide) Z Z (fun b2 => ?_))
 refine WL.effect Z ?_
 refine (EV.boxAgg (by decide) Z Z (fun b3 => ?_))
 refine wa Z ?_
 refine wa Z ?_
 refine ns ?_
 refine wq Z (QV.loadAgg ag49 Z Z Z (Own.cellsBlk 2 Z)) ?_
 refine wq Z (QV.loadAgg ag24 Z Z Z (Own.cellsBlk 1 Z)) ?_
 refine wq Z (QV.loadAgg ag27 Z Z Z (Own.cellsBlk 0 Z)) ?_
 refine wm Z ?_
 refine WL.effect Z ?_
 obtain ⟨x4, hx5, hm6⟩ := bd_some hm; clear hm
 refine EV.of (C' := Own M w [kn M w.heap.size K0 K0, blk b3 [.int .i64 k_.pace, .int .i64 k_.stages, v_k__ops] 27, blk b2 t.cells 24, blk b1 [v_l_logs, v_l_body, v_l_outs] 49]) (fun w hw => hw.pick [3, 0, 1, 2] (by decide)) ?_
 refine (EV.callR (X := Value × World) (R := []) (fun X => .tuple #[X.1, .bool x4.2]) (fun X => []) (fun X => X.2) (fun X => LayAt X.2 X.1 x4.1) hk (fun _ h => by cases h; decide) en113 (EvAll.cons Z Z (EvAll.cons Z Z (EvAll.cons Z Z (EvAll.cons Z Z EvAll.nil)))) (fun M w h1 h2 => have h := check_layout_w hx5 h_l_logs h_l_body h_l_outs h_k__ops h_order M w h1 h2; h) (fun X7 hF7 hle7 => ?_))
 rcases hE8 : x4.1 with _ | y9
 ·skip
  have hm10 := optC_none hE8 hm6; clear hm6
  obtain ⟨c11, hm12⟩ := cs hm10; clear hm10
  have e13 := LayAt.nil hF7 hE8
  rw [e13, c11]
  refine wm Z ?_
  refine wq Z (QV.extract Z Z Z) ?_
  refine wq Z (QV.extract Z Z Z) ?_
  refine wa Z ?_
  refine wa Z ?_
  refine nt (WC.seq (sr ?_))
  refine wm Z ?_
  refine wq Z (QV.not Z Z) ?_
  refine wm Z ?_
  refine gn Z (fun hG => QV.loadAgg ag49 Z Z Z (Own.cellsBlk 3 Z)) ?_
  refine gn Z (fun hG => QV.loadAgg ag24 Z Z Z (Own.cellsBlk 2 Z)) ?_
  refine gn Z (fun hG => QV.loadAgg ag27 Z Z Z (Own.cellsBlk 1 Z)) ?_
  refine gn Z (fun hG => QV.move Z Z) ?_
  refine gn Z (fun hG => QV.move Z Z) ?_
  obtain ⟨c14, hm15⟩ := cs hm12; clear hm12
  refine gn Z (fun hG => show QV Try.prog _ _ _ (.bool false) from (c14 hG).elim) ?_
  refine gn Z (fun hG => QV.not Z hG) ?_
  refine wq Z (QV.pickOr Z Z Z (fun h => notF h)) ?_
  refine nt ?_
  refine WC.cond Z (fun h16 => ?_) (fun h16 => ?_)
  ·skip
   refine sr ?_
   refine wa Z ?_
   refine wa Z ?_
   refine nt (WC.ret (tr ?_))
   obtain rfl := (eq_of_some hm15).symm
   refine WQ.ret2 Z Z Z (fun w hw => ?_)
   exact ⟨(.pointer none, X7.2), Z, hw.pick [0] (by decide), LayAt.none⟩
  exact absurd h16 (by simp)
 have hm17 := optC_some hE8 hm6; clear hm6
 obtain ⟨p18, u18_1, u18_2, u18_3, u18_4, u18_5, u18_6, hP18, hC18, hA18_1, hA18_2, hA18_3, hA18_4, hA18_5, hA18_6⟩ := LayAt.at hF7 hE8
 rw [hP18]
 refine wm Z ?_
 refine wq Z (QV.extract Z Z Z) ?_
 refine wq Z (QV.extract Z Z Z) ?_
 refine wa Z ?_
 refine wa Z ?_
 refine nt (WC.seq (sr ?_))
 refine wm Z ?_
 refine wq Z (QV.not Z Z) ?_
 refine wm Z ?_
 refine gn Z (fun hG => QV.loadAgg ag49 Z Z Z (Own.cellsBlk 3 Z)) ?_
 refine gn Z (fun hG => QV.loadAgg ag24 Z Z Z (Own.cellsBlk 2 Z)) ?_
 refine gn Z (fun hG => QV.loadAgg ag27 Z Z Z (Own.cellsBlk 1 Z)) ?_
 refine gn Z (fun hG => QV.move Z Z) ?_
 refine gn Z (fun hG => QV.move Z Z) ?_
 obtain ⟨x19, hx20, hm21⟩ := bdG_some hm17; clear hm17
 refine gn Z (fun hG => QV.call en114 (EvAll.cons Z hG (EvAll.cons Z hG (EvAll.cons Z hG (EvAll.cons Z hG (EvAll.cons Z hG EvAll.nil))))) (fun w hw => have h := check_named_w w (hx20 hG) ((Own.karr 0 Z hk (h_l_logs.le hle7)) w hw) ((Own.karr 0 Z hk (h_l_body.le hle7)) w hw) ((Own.karr 0 Z hk (h_l_outs.le hle7)) w hw) ((Own.karr 0 Z hk (h_k__ops.le hle7)) w hw) ((Own.karr 0 Z hk (h_order.le hle7)) w hw) ((Own.karr 0 Z hk hA18_6) w hw) (Own.kcells 0 Z hk hC18 w hw); h)) ?_
 refine gn Z (fun hG => QV.not Z hG) ?_
 refine wq Z (QV.pickOr Z Z Z (fun h => notF h)) ?_
 refine nt ?_
 refine WC.cond Z (fun h22 => ?_) (fun h22 => ?_)
 ·skip
  have hm23 := br_t h22 hm21; clear hm21
  refine sr ?_
  refine wa Z ?_
  refine wa Z ?_
  refine nt (WC.ret (tr ?_))
  obtain rfl := (eq_of_some hm23).symm
  refine WQ.ret2 Z Z Z (fun w hw => ?_)
  exact ⟨(.pointer none, X7.2), Z, hw.pick [0] (by decide), LayAt.none⟩
 have hm24 := br_f h22 hm21; clear hm21
 refine sk (WQ.then (sr ?_))
 refine wq Z (QV.loadAgg ag49 Z Z Z (Own.cellsBlk 3 Z)) ?_
 refine wq Z (QV.loadAgg ag24 Z Z Z (Own.cellsBlk 2 Z)) ?_
 refine WL.effect Z ?_
 obtain ⟨x25, hx26, hm27⟩ := bd_some hm24; clear hm24
 refine (EV.callR (X := Value × World) (R := []) (fun X => .tuple #[X.1, .int .i64 x25.2]) (fun X => []) (fun X => X.2) (fun X => Arr X.2 X.1 4 (x25.1.map Edg.cells)) hk (fun _ h => by cases h; decide) en23 (EvAll.cons Z Z (EvAll.cons Z Z EvAll.nil)) (fun M w h1 h2 => have h := dep_Edges_w hx26 (h_l_logs.le hle7) (h_l_body.le hle7) (h_l_outs.le hle7) M w h1 h2; h) (fun X28 hF28 hle28 => ?_))
 refine wm Z ?_
 refine wq Z (QV.extract Z Z Z) ?_
 refine wq Z (QV.extract Z Z Z) ?_
 refine wa Z ?_
 refine wa Z ?_
 refine nt (WC.seq (sr ?_))
 refine wm Z ?_
 refine wq Z (QV.lenS Try.underlying50 Z Z hF28.lenMap) ?_
 refine wm Z ?_
 refine nt ?_
 obtain ⟨o29, ho30, hm31⟩ := bd_some hm27; clear hm27; obtain ⟨n32, ho33⟩ := lp_some ho30
 refine WC.bloop1 (H2 := [kn M w.heap.size K0 X28.2, blk b3 [.int .i64 k_.pace, .int .i64 k_.stages, v_k__ops] 27, blk b2 t.cells 24, blk b1 [v_l_logs, v_l_body, v_l_outs] 49]) (τ := [(4, (true, _)), (6, (true, _)), (10, (true, _)), (44, (true, _)), (45, (true, _))]) (fun (x46_1 : Int) => [(46, (true, .int .i64 x46_1))]) (fun x46_1 => []) (fun x46_1 m => iter (check_takes_L0 k_ y9 x25) m x46_1 = some o29) (fun x46_1 => o29 = .go x46_1) 0 n32 ho33 ⟨Z, Z, Z, Z, Z, Z, trivial⟩ (fun w hw => hw.pick [0, 1, 2, 3] (by decide)) ?_ ?_
 ·skip
  rintro x46_1 rfl
  refine WQ.then (sr ?_)
  refine wa Z ?_
  refine nt (WC.seq (sr ?_))
  refine wf fd49_1 Z ?_
  refine wl pl47 Z (Own.cell 3 Z Z) ?_
  refine wq Z (QV.lenS Try.underlying47 Z Z (h_l_body.le (hle7.trans hle28)).lenMap) ?_
  refine wm Z ?_
  refine nt ?_
  refine WK.of (fun w hw => hw.vecNil (E := 3) (sz := 1) (enc := icell)) ?_
  obtain ⟨o35, ho36, hm37⟩ := bd_some hm31; clear hm31; obtain ⟨n38, ho39⟩ := lp_some ho36
  refine WC.bloop3 (H2 := [kn M w.heap.size K0 X28.2, blk b3 [.int .i64 k_.pace, .int .i64 k_.stages, v_k__ops] 27, blk b2 t.cells 24, blk b1 [v_l_logs, v_l_body, v_l_outs] 49]) (τ := [(4, (true, _)), (10, (true, _)), (79, (true, _))]) (fun (v34_5 : List Int) (x80_5 : Int) (uv34_5 : Value) => [(16, (true, uv34_5)), (80, (true, .int .i64 x80_5))]) (fun v34_5 x80_5 uv34_5 => [vec uv34_5 3 1 (List.map icell v34_5)]) (fun v34_5 x80_5 uv34_5 m => iter (check_takes_L2 l y9) m (v34_5, x80_5) = some o35 ∧ SliceLen uv34_5 v34_5.length) (fun v34_5 x80_5 uv34_5 => o35 = .go (v34_5, x80_5) ∧ SliceLen uv34_5 v34_5.length) [] 0 (.slice none 0 0) n38 ⟨ho39, SliceLen.nil⟩ ⟨Z, Z, Z, Z, Z, trivial⟩ (fun w hw => hw.pick [0, 1, 2, 3, 4] (by decide)) ?_ ?_
  ·skip
   rintro v34_5 x80_5 uv34_5 ⟨rfl, hlv34_5⟩
   refine WQ.then (sr ?_)
   refine wm Z ?_
   refine wm Z ?_
   refine wm Z ?_
   obtain ⟨x40, hx41, hm42⟩ := bd_some hm37; clear hm37
   refine wq Z (QV.call en116 (EvAll.cons Z Z (EvAll.cons Z Z EvAll.nil)) (fun w hw => have h := keep_Layout_Firsts_w w hx41 ((Own.karr 1 Z hk (hA18_1.le hle28)) w hw) ((Own.karr 1 Z hk (hA18_2.le hle28)) w hw) ((Own.karr 1 Z hk (hA18_3.le hle28)) w hw) ((Own.karr 1 Z hk (hA18_6.le hle28)) w hw) (Own.kcells 1 Z hk (hC18.le hle28) w hw) ((Own.vecArr 0 Z) w hw); h)) ?_
   refine wa Z ?_
   refine wa Z ?_
   refine nt (WC.ret ?_)
   obtain rfl := (eq_of_some hm42).symm
   refine WQ.ret2 Z Z Z (fun w hw => ?_)
   exact ⟨(.pointer (some p18), X28.2), Z, hw.pick [1] (by decide), (LayAt.mk (hC18.le hle28) (hA18_1.le hle28) (hA18_2.le hle28) (hA18_3.le hle28) (hA18_4.le hle28) (hA18_5.le hle28) (hA18_6.le hle28))⟩
  rintro v34_5 x80_5 uv34_5 m43 ⟨hI44, hlv34_5⟩
  obtain ⟨m45, s46, rfl, hm47, hn48⟩ := iter_step hI44; clear hI44; unfold check_takes_L2 at hm47; simp only at hm47
  refine sr ?_
  refine wq Z (QV.lss Z Z Z Z) ?_
  refine nt (WC.seq ?_)
  refine WC.cond Z (fun h49 => ?_) (fun h49 => ?_)
  ·skip
   have hm50 := br_t h49 hm47; clear hm47
   refine sk (WQ.then (WC.seq (WC.block (sr ?_))))
   refine wm Z ?_
   refine wa Z ?_
   refine ns ?_
   refine wm Z ?_
   refine wm Z ?_
   refine WL.effect Z ?_
   refine (EV.buildSlice (by decide) sz_30 (by decide) (by decide) (ps := [(0, .tmp 84)]) (cells := [.int .i64 x80_5]) (EvAll.cons Z Z EvAll.nil) (by kernel_rfl) (fun b51 => ?_))
   refine WL.effect Z ?_
   obtain ⟨c52, hm53⟩ := cs hm50; clear hm50
   refine (EV.appendL (enc := icell) (xs := v34_5) (ys := [x80_5]) ((v34_5 ++ [x80_5])) 1 (by decide) ve30 Z Z Z Z Z (Own.blkArr 0 (rows := [x80_5].map icell) Z Z (rows_len icell_len)) icell_len (icell_one _) Z c52.1 c52.2 (fun u54 hu55 => ?_))
   refine wa Z ?_
   refine ns ?_
   refine wf fd49_1 Z ?_
   refine wl pl47 Z (Own.cell 5 Z Z) ?_
   refine wq Z (QV.lenS Try.underlying47 Z Z (h_l_body.le (hle7.trans hle28)).lenMap) ?_
   refine wm Z ?_
   refine nt ?_
   obtain ⟨o56, ho57, hm58⟩ := bd_some hm53; clear hm53; obtain ⟨n59, ho60⟩ := lp_some ho57
   refine WC.bloop1 (H2 := [blk b51 [.int .i64 x80_5] 3, vec u54 3 1 (List.map icell (v34_5 ++ [x80_5])), kn M w.heap.size K0 X28.2, blk b3 [.int .i64 k_.pace, .int .i64 k_.stages, v_k__ops] 27, blk b2 t.cells 24, blk b1 [v_l_logs, v_l_body, v_l_outs] 49]) (τ := [(4, (true, _)), (10, (true, _)), (16, (true, _)), (17, (true, _)), (79, (true, _)), (80, (true, _)), (89, (true, _))]) (fun (x90_6 : Int) => [(90, (true, .int .i64 x90_6))]) (fun x90_6 => []) (fun x90_6 m => iter (check_takes_L4 l y9 x80_5) m x90_6 = some o56) (fun x90_6 => o56 = .go x90_6) 0 n59 ho60 ⟨Z, Z, Z, Z, Z, Z, Z, Z, trivial⟩ (fun w hw => hw.pick [0, 1, 2, 3, 4, 5] (by decide)) ?_ ?_
   ·skip
    rintro x90_6 rfl
    refine WQ.block (WQ.then (WC.region ?_))
    obtain ⟨c61, hm62⟩ := cs hm58; clear hm58
    refine wq Z (QV.add Z Z Z Z c61) ?_
    refine wm Z ?_
    refine WL.nil ?_
    exact WQ.again3 (v34_5 ++ [x80_5]) (x80_5 + 1) u54 m45 ⟨up_next hm62 hn48, hu55⟩ (Nat.lt_succ_self _) ⟨Z, Z, Z, Z, Z, trivial⟩ (fun w hw => hw.pick [1, 2, 3, 4, 5] (by decide))
   rintro x90_6 m63 hI64
   obtain ⟨m65, s66, rfl, hm67, hn68⟩ := iter_step hI64; clear hI64; unfold check_takes_L4 at hm67
   refine sr ?_
   refine wq Z (QV.lss Z Z Z Z) ?_
   refine nt (WC.seq ?_)
   refine WC.cond Z (fun h69 => ?_) (fun h69 => ?_)
   ·skip
    have hm70 := br_t h69 hm67; clear hm67
    refine sk (WQ.then (WC.seq (WC.block (sr ?_))))
    refine wm Z ?_
    refine wa Z ?_
    refine ns ?_
    refine wm Z ?_
    refine wm Z ?_
    refine wm Z ?_
    obtain ⟨x71, hx72, hm73⟩ := bd_some hm70; clear hm70
    refine wq Z (QV.call en115 (EvAll.cons Z Z (EvAll.cons Z Z (EvAll.cons Z Z EvAll.nil))) (fun w hw => have h := keep_Layout_Apart_w w hx72 ((Own.karr 2 Z hk (hA18_2.le hle28)) w hw) ((Own.karr 2 Z hk (hA18_3.le hle28)) w hw) ((Own.karr 2 Z hk (hA18_4.le hle28)) w hw) ((Own.karr 2 Z hk (hA18_5.le hle28)) w hw) ((Own.karr 2 Z hk (hA18_6.le hle28)) w hw) (Own.kcells 2 Z hk (hC18.le hle28) w hw); h)) ?_
    refine wq Z (QV.not Z Z) ?_
    refine nt ?_
    refine WC.cond Z (fun h74 => ?_) (fun h74 => ?_)
    ·skip
     have hm75 := br_t h74 hm73; clear hm73
     refine sr ?_
     refine wa Z ?_
     refine wa Z ?_
     refine nt (WC.ret (kr (tr (tr (kr (tr (kr (tr (tr (kr (tr (tr ?_))))))))))))
     obtain rfl := up_ret hm75 hn68
     obtain rfl := up_ret hm58 hn48
     obtain rfl := (eq_of_some hm37).symm
     refine WQ.ret2 Z Z Z (fun w hw => ?_)
     exact ⟨(.pointer none, X28.2), Z, hw.pick [2] (by decide), LayAt.none⟩
    have hm76 := br_f h74 hm73; clear hm73
    refine sk (WQ.block (WQ.then (WC.region ?_)))
    obtain ⟨c77, hm78⟩ := cs hm76; clear hm76
    refine wq Z (QV.add Z Z Z Z c77) ?_
    refine wm Z ?_
    refine WL.nil ?_
    exact WQ.again1 (x90_6 + 1) m65 (up_next hm78 hn68) (Nat.lt_succ_self _) ⟨Z, Z, Z, Z, Z, Z, Z, Z, trivial⟩ (fun w hw => hw.pick [0, 1, 2, 3, 4, 5] (by decide))
   have hm79 := br_f h69 hm67; clear hm67
   refine WC.exit (te (te (WQ.block_exit ?_)))
   exact WQ.out1 x90_6 (up_brk hm79 hn68) ⟨Z, Z, Z, Z, Z, Z, Z, Z, trivial⟩ (fun w hw => hw.pick [0, 1, 2, 3, 4, 5] (by decide))
  have hm80 := br_f h49 hm47; clear hm47
  refine WC.exit (te (te (WQ.block_exit ?_)))
  exact WQ.out3 v34_5 x80_5 uv34_5 ⟨up_brk hm80 hn48, hlv34_5⟩ ⟨Z, Z, Z, Z, Z, trivial⟩ (fun w hw => hw.pick [0, 1, 2, 3, 4] (by decide))
 rintro x46_1 m81 hI82
 obtain ⟨m83, s84, rfl, hm85, hn86⟩ := iter_step hI82; clear hI82; unfold check_takes_L0 at hm85
 refine sr ?_
 refine wq Z (QV.lss Z Z Z Z) ?_
 refine nt (WC.seq ?_)
 refine WC.cond Z (fun h87 => ?_) (fun h87 => ?_)
 ·skip
  have hm88 := br_t h87 hm85; clear hm85
  refine sk (WQ.then (WC.seq (WC.block (sr ?_))))
  obtain ⟨c89, hm90⟩ := cs hm88; clear hm88
  obtain ⟨p91, hp92⟩ := hF28.lenMap.ix (sz := 4) ln_len c89
  refine wq Z (QV.indexSlice sl50 Z Z Z Z hp92) ?_
  refine wq Z (QV.loadAgg ag61 Z Z Z (fun w hw => ((Own.karr 0 Z hk hF28) w hw).ele hp92 c89)) ?_
  refine WL.effect Z ?_
  refine (EV.alloc (by decide) ze61 (fun b93 => ?_))
  refine WL.effect Z ?_
  refine (EV.store 0 Z Z Z Z Z Z (vs := (Edg.cells (ele x25.1 x46_1))) (show Value.cells _ = List.toArray _ from Z) sz61 (Nat.le_of_ble_eq_true Z) (one_cons Z (one_cons Z (one_cons Z (one_cons Z one_nil)))) ?_)
  refine nt (WC.seq ?_)
  refine WC.dr (m := 26) (S := Own M w [kn M w.heap.size K0 X28.2, blk b93 (Edg.cells (ele x25.1 x46_1)) 61, blk b3 [.int .i64 k_.pace, .int .i64 k_.stages, v_k__ops] 27, blk b2 t.cells 24, blk b1 [v_l_logs, v_l_body, v_l_outs] 49]) (by kernel_rfl) (by kernel_rfl) (fun w hw => hw.pick [1, 0, 2, 3, 4] (by decide)) ?_
  refine wz 0 Z Z (QV.move Z Z) ?_
  refine wz 1 Z Z (QV.nilCheck Z Z) ?_
  refine wz 2 Z Z (QV.fieldAddr fd159_3 Z Z) ?_
  refine wz 3 Z Z (QV.load pl30 Z Z (fun w hw => CellsAt.one 5 ((Own.kcells 0 Z hk (hC18.le hle28)) w hw) Z)) ?_
  refine wz 4 Z Z (QV.fieldAddr fd61_1 Z Z) ?_
  refine wz 5 Z Z (QV.load pl3 Z Z (Own.cell 1 Z Z)) ?_
  obtain ⟨c94, hm95⟩ := cs hm90; clear hm90
  obtain ⟨p96, hp97⟩ := (hA18_4.le hle28).lenMap.ix (sz := 1) ln_len c94
  refine wz 6 Z Z (QV.indexSlice sl30 Z Z Z Z hp97) ?_
  refine wz 7 Z Z (QV.load pl3 Z Z (fun w hw => CellsAt.one 0 (((Own.karr 0 Z hk (hA18_4.le hle28)) w hw).ele hp97 c94) Z)) ?_
  refine wz 8 Z Z (QV.fieldAddr fd61_2 Z Z) ?_
  refine wz 9 Z Z (QV.load pl3 Z Z (Own.cell 1 Z Z)) ?_
  refine wz 10 Z Z (QV.fieldAddr fd27_0 Z Z) ?_
  refine wz 11 Z Z (QV.load pl3 Z Z (Own.cell 2 Z Z)) ?_
  obtain ⟨c98, hm99⟩ := cs hm95; clear hm95
  refine wz 12 Z Z (QV.mul Z Z Z Z c98) ?_
  obtain ⟨c100, hm101⟩ := cs hm99; clear hm99
  refine wz 13 Z Z (QV.add Z Z Z Z c100) ?_
  refine wz 14 Z Z (QV.move Z Z) ?_
  refine wz 15 Z Z (QV.nilCheck Z Z) ?_
  refine wz 16 Z Z (QV.fieldAddr fd159_3 Z Z) ?_
  refine wz 17 Z Z (QV.load pl30 Z Z (fun w hw => CellsAt.one 5 ((Own.kcells 0 Z hk (hC18.le hle28)) w hw) Z)) ?_
  refine wz 18 Z Z (QV.fieldAddr fd61_0 Z Z) ?_
  refine wz 19 Z Z (QV.load pl3 Z Z (Own.cell 1 Z Z)) ?_
  obtain ⟨c102, hm103⟩ := cs hm101; clear hm101
  obtain ⟨p104, hp105⟩ := (hA18_4.le hle28).lenMap.ix (sz := 1) ln_len c102
  refine wz 20 Z Z (QV.indexSlice sl30 Z Z Z Z hp105) ?_
  refine wz 21 Z Z (QV.load pl3 Z Z (fun w hw => CellsAt.one 0 (((Own.karr 0 Z hk (hA18_4.le hle28)) w hw).ele hp105 c102) Z)) ?_
  refine wz 22 Z Z (QV.fieldAddr fd61_3 Z Z) ?_
  refine wz 23 Z Z (QV.load pl3 Z Z (Own.cell 1 Z Z)) ?_
  obtain ⟨c106, hm107⟩ := cs hm103; clear hm103
  refine wz 24 Z Z (QV.add Z Z Z Z c106) ?_
  refine wz 25 Z Z (QV.lss Z Z Z Z) ?_
  refine WD.e (by kernel_rfl) ?_
  refine WQ.then ?_
  refine WC.cond Z (fun h108 => ?_) (fun h108 => ?_)
  ·skip
   have hm109 := br_t h108 hm107; clear hm107
   refine sr ?_
   refine wa Z ?_
   refine wa Z ?_
   refine nt (WC.ret (kr (tr (tr (kr (tr (tr ?_)))))))
   obtain rfl := up_ret hm109 hn86
   obtain rfl := (eq_of_some hm31).symm
   refine WQ.ret2 Z Z Z (fun w hw => ?_)
   exact ⟨(.pointer none, X28.2), Z, hw.pick [1] (by decide), LayAt.none⟩
  have hm110 := br_f h108 hm107; clear hm107
  refine sk (WQ.block (WQ.then (WC.region ?_)))
  obtain ⟨c111, hm112⟩ := cs hm110; clear hm110
  refine wq Z (QV.add Z Z Z Z c111) ?_
  refine wm Z ?_
  refine WL.nil ?_
  exact WQ.again1 (x46_1 + 1) m83 (up_next hm112 hn86) (Nat.lt_succ_self _) ⟨Z, Z, Z, Z, Z, Z, trivial⟩ (fun w hw => hw.pick [1, 2, 3, 4] (by decide))
 have hm113 := br_f h87 hm85; clear hm85
 refine WC.exit (te (te (WQ.block_exit ?_)))
 exact WQ.out1 x46_1 (up_brk hm113 hn86) ⟨Z, Z, Z, Z, Z, Z, trivial⟩ (fun w hw => hw.pick [0, 1, 2, 3] (by decide))

set_option maxRecDepth 8000 in
theorem check_Takes_w {v_l_logs : Value} {v_l_body : Value} {v_l_outs : Value} {v_k__ops : Value} {v_order : Value} {l : Lp} {t : Tgt} {k_ : Krn} {order : List Int} {r : Bool} (w : World) (hm : check_Takes_m l t k_ order = some r) (h_l_logs : Arr w v_l_logs 1 (l.logs.map icell)) (h_l_body : Arr w v_l_body 9 (l.body.map Stm.cells)) (h_l_outs : Arr w v_l_outs 1 (l.outs.map icell)) (h_k__ops : Arr w v_k__ops 10 (k_.ops.map Opr.cells)) (h_order : Arr w v_order 1 (order.map icell)) : Calls Try.prog 41 #[.agg #[v_l_logs, v_l_body, v_l_outs], .agg #[.int .i64 t.u0, .int .i64 t.u1, .int .i64 t.u2, .int .i64 t.w0, .int .i64 t.w1, .int .i64 t.w2, .int .i64 t.regs], .agg #[.int .i64 k_.pace, .int .i64 k_.stages, v_k__ops], v_order] w (fun e w' => e = .returned (.bool r) ∧ Grow w w') := by
 unfold check_Takes_m at hm
 have hk := Base.rfl (w := w)
 refine calls_of_WC (n := 20) (args := [.agg #[v_l_logs, v_l_body, v_l_outs], .agg #[.int .i64 t.u0, .int .i64 t.u1, .int .i64 t.u2, .int .i64 t.w0, .int .i64 t.w1, .int .i64 t.w2, .int .i64 t.regs], .agg #[.int .i64 k_.pace, .int .i64 k_.stages, v_k__ops], v_order]) Try.func41 Z Z (Nat.le_of_ble_eq_true Z) ?_ (Own.startK hk (Own.start w))
 refine sr ?_
 refine WL.effect Z ?_
 refine (EV.boxAgg (by decide) Z Z (fun b1 => ?_))
 refine WL.effect Z ?_
 refine (EV.boxAgg (by decide) Z Z (fun b2 => ?_))
 refine WL.effect Z ?_
 refine (EV.boxAgg (by decide) Z Z (fun b3 => ?_))
 refine wa Z ?_
 refine ns ?_
 refine wq Z (QV.loadAgg ag49 Z Z Z (Own.cellsBlk 2 Z)) ?_
 refine wq Z (QV.loadAgg ag24 Z Z Z (Own.cellsBlk 1 Z)) ?_
 refine wq Z (QV.loadAgg ag27 Z Z Z (Own.cellsBlk 0 Z)) ?_
 refine wm Z ?_
 refine WL.effect Z ?_
 obtain ⟨x4, hx5, hm6⟩ := bd_some hm; clear hm
 refine EV.of (C' := Own noM w [kn noM w.heap.size w w, blk b3 [.int .i64 k_.pace, .int .i64 k_.stages, v_k__ops] 27, blk b2 t.cells 24, blk b1 [v_l_logs, v_l_body, v_l_outs] 49]) (fun w hw => hw.pick [3, 0, 1, 2] (by decide)) ?_
 refine (EV.callR (X := Value × World) (R := []) (fun X => .tuple #[X.1, .bool x4.2]) (fun X => []) (fun X => X.2) (fun X => LayAt X.2 X.1 x4.1) hk (fun _ h => by cases h; decide) en86 (EvAll.cons Z Z (EvAll.cons Z Z (EvAll.cons Z Z (EvAll.cons Z Z EvAll.nil)))) (fun M w h1 h2 => have h := check_takes_w hx5 h_l_logs h_l_body h_l_outs h_k__ops h_order M w h1 h2; h) (fun X7 hF7 hle7 => ?_))
 rcases hE8 : x4.1 with _ | y9
 ·skip
  have hm10 := optC_none hE8 hm6; clear hm6
  obtain ⟨c11, hm12⟩ := cs hm10; clear hm10
  have e13 := LayAt.nil hF7 hE8
  rw [e13, c11]
  refine wm Z ?_
  refine wq Z (QV.extract Z Z Z) ?_
  refine wq Z (QV.extract Z Z Z) ?_
  refine wa Z ?_
  refine wa Z ?_
  refine ns ?_
  refine wm Z ?_
  refine wa Z ?_
  refine nt (WC.ret ?_)
  obtain rfl := (eq_of_some hm12).symm
  refine WQ.ret1 Z Z (fun w hw => ?_)
  exact ⟨Z, Own.kgrow (fun _ x => x) hw⟩
 have hm14 := optC_some hE8 hm6; clear hm6
 obtain ⟨p15, u15_1, u15_2, u15_3, u15_4, u15_5, u15_6, hP15, hC15, hA15_1, hA15_2, hA15_3, hA15_4, hA15_5, hA15_6⟩ := LayAt.at hF7 hE8
 rw [hP15]
 refine wm Z ?_
 refine wq Z (QV.extract Z Z Z) ?_
 refine wq Z (QV.extract Z Z Z) ?_
 refine wa Z ?_
 refine wa Z ?_
 refine ns ?_
 refine wm Z ?_
 refine wa Z ?_
 refine nt (WC.ret ?_)
 obtain rfl := (eq_of_some hm14).symm
 refine WQ.ret1 Z Z (fun w hw => ?_)
 exact ⟨Z, Own.kgrow (fun _ x => x) hw⟩
end Go.Proofs.Ytaimbkndebaaiab
end

section
namespace Go.Proofs.Ytaimbkndebaaiab
open Go.Rd
set_option linter.unusedVariables false
open TNum TLoop TKern TKeep TOrd TCpt TDep TSched1 TEmit TCheck
namespace TRDep
theorem en78 : Go.Rd.Enters Try.prog 78 := ⟨Try.f78, Try.func78, by kernel_rfl, by kernel_rfl⟩
end TRDep
open TRDep
set_option maxRecDepth 8000 in
theorem roundelayref6_May_w {v_l_logs : Value} {v_l_body : Value} {v_l_outs : Value} {l : Lp} {t : Tgt} {r : Bool} (w : World) (hm : roundelayref6_May_m l t = some r) (h_l_logs : Arr w v_l_logs 1 (l.logs.map icell)) (h_l_body : Arr w v_l_body 9 (l.body.map Stm.cells)) (h_l_outs : Arr w v_l_outs 1 (l.outs.map icell)) : Calls Try.prog 24 #[.agg #[v_l_logs, v_l_body, v_l_outs], .agg #[.int .i64 t.u0, .int .i64 t.u1, .int .i64 t.u2, .int .i64 t.w0, .int .i64 t.w1, .int .i64 t.w2, .int .i64 t.regs]] w (fun e w' => e = .returned (.bool r) ∧ Grow w w') := by
 unfold roundelayref6_May_m at hm
 have hk := Base.rfl (w := w)
 refine calls_of_WC (n := 11) (args := [.agg #[v_l_logs, v_l_body, v_l_outs], .agg #[.int .i64 t.u0, .int .i64 t.u1, .int .i64 t.u2, .int .i64 t.w0, .int .i64 t.w1, .int .i64 t.w2, .int .i64 t.regs]]) Try.func24 Z Z (Nat.le_of_ble_eq_true Z) ?_ (Own.startK hk (Own.start w))
 refine sr ?_
 refine WL.effect Z ?_
 refine (EV.boxAgg (by decide) Z Z (fun b1 => ?_))
 refine WL.effect Z ?_
 refine (EV.boxAgg (by decide) Z Z (fun b2 => ?_))
 refine wa Z ?_
 refine ns ?_
 refine wq Z (QV.loadAgg ag49 Z Z Z (Own.cellsBlk 1 Z)) ?_
 obtain ⟨x3, hx4, hm5⟩ := bd_some hm; clear hm
 refine wq Z (QV.call en68 (EvAll.cons Z Z EvAll.nil) (fun w hw => have h := roundelayref2_May_w w hx4 ((Own.karr 2 Z hk h_l_logs) w hw) ((Own.karr 2 Z hk h_l_body) w hw) ((Own.karr 2 Z hk h_l_outs) w hw); h)) ?_
 refine wm Z ?_
 refine gp Z (fun hG => QV.loadAgg ag24 Z Z Z (Own.cellsBlk 0 Z)) ?_
 obtain ⟨x6, hx7, hm8⟩ := bdG_some hm5; clear hm5
 refine gp Z (fun hG => QV.call en49 (EvAll.cons Z hG EvAll.nil) (fun w hw => have h := roundelayref4_May_w w (hx7 hG) ; h)) ?_
 refine wq Z (QV.pickAnd Z Z Z (fun h => h)) ?_
 refine wa Z ?_
 refine nt (WC.ret ?_)
 obtain rfl := (eq_of_some hm8).symm
 refine WQ.ret1 Z Z (fun w hw => ?_)
 exact ⟨Z, Own.kgrow (fun _ x => x) hw⟩
end Go.Proofs.Ytaimbkndebaaiab
end
