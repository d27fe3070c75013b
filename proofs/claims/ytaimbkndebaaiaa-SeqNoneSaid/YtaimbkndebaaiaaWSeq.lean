/- Walks: the functions do what the models say. -/
import Derived.Test.YtaimbkndebaaiaaMSeq
import Derived.Test.YtaimbkndebaaiaaProg
import Derived.Test.YtaimbkndebaaiaaWNum
import Derived.Test.YtaimbkndebaaiaaWLoop
import Derived.Test.YtaimbkndebaaiaaWClone
import Derived.KernelRfl
namespace Go.Proofs.Ytaimbkndebaaiaa
open Go.Rd
set_option linter.unusedVariables false
set_option linter.unusedSimpArgs false
namespace TSeq
theorem ag51 : AggT Try.prog 51 3 := ⟨_, Try.underlying51, rfl, by kernel_rfl⟩
theorem ag54 : AggT Try.prog 54 2 := ⟨_, Try.underlying54, rfl, by kernel_rfl⟩
theorem ag59 : AggT Try.prog 59 2 := ⟨_, Try.underlying59, rfl, by kernel_rfl⟩
theorem ag91 : AggT Try.prog 91 2 := ⟨_, Try.underlying91, rfl, by kernel_rfl⟩
theorem ag93 : AggT Try.prog 93 9 := ⟨_, Try.underlying93, rfl, by kernel_rfl⟩
theorem en13 : Enters Try.prog 13 := ⟨Try.f13, Try.func13, by kernel_rfl, by kernel_rfl⟩
theorem en23 : Enters Try.prog 23 := ⟨Try.f23, Try.func23, by kernel_rfl, by kernel_rfl⟩
theorem en25 : Enters Try.prog 25 := ⟨Try.f25, Try.func25, by kernel_rfl, by kernel_rfl⟩
theorem en27 : Enters Try.prog 27 := ⟨Try.f27, Try.func27, by kernel_rfl, by kernel_rfl⟩
theorem en29 : Enters Try.prog 29 := ⟨Try.f29, Try.func29, by kernel_rfl, by kernel_rfl⟩
theorem en31 : Enters Try.prog 31 := ⟨Try.f31, Try.func31, by kernel_rfl, by kernel_rfl⟩
theorem en36 : Enters Try.prog 36 := ⟨Try.f36, Try.func36, by kernel_rfl, by kernel_rfl⟩
theorem en52 : Enters Try.prog 52 := ⟨Try.f52, Try.func52, by kernel_rfl, by kernel_rfl⟩
theorem en53 : Enters Try.prog 53 := ⟨Try.f53, Try.func53, by kernel_rfl, by kernel_rfl⟩
theorem en54 : Enters Try.prog 54 := ⟨Try.f54, Try.func54, by kernel_rfl, by kernel_rfl⟩
theorem en55 : Enters Try.prog 55 := ⟨Try.f55, Try.func55, by kernel_rfl, by kernel_rfl⟩
theorem en56 : Enters Try.prog 56 := ⟨Try.f56, Try.func56, by kernel_rfl, by kernel_rfl⟩
theorem en60 : Enters Try.prog 60 := ⟨Try.f60, Try.func60, by kernel_rfl, by kernel_rfl⟩
theorem en61 : Enters Try.prog 61 := ⟨Try.f61, Try.func61, by kernel_rfl, by kernel_rfl⟩
theorem fd51_0 : FieldT Try.prog 51 0 0 := ⟨_, _, 0, Try.underlying51, rfl, rfl, by kernel_rfl⟩
theorem fd51_1 : FieldT Try.prog 51 1 1 := ⟨_, _, 0, Try.underlying51, rfl, rfl, by kernel_rfl⟩
theorem fd51_2 : FieldT Try.prog 51 2 2 := ⟨_, _, 0, Try.underlying51, rfl, rfl, by kernel_rfl⟩
theorem fd54_0 : FieldT Try.prog 54 0 0 := ⟨_, _, 0, Try.underlying54, rfl, rfl, by kernel_rfl⟩
theorem fd54_1 : FieldT Try.prog 54 1 1 := ⟨_, _, 0, Try.underlying54, rfl, rfl, by kernel_rfl⟩
theorem fd59_0 : FieldT Try.prog 59 0 0 := ⟨_, _, 0, Try.underlying59, rfl, rfl, by kernel_rfl⟩
theorem fd59_1 : FieldT Try.prog 59 1 1 := ⟨_, _, 0, Try.underlying59, rfl, rfl, by kernel_rfl⟩
theorem fd87_0 : FieldT Try.prog 87 0 0 := ⟨_, _, 2, Try.underlying87, rfl, rfl, by kernel_rfl⟩
theorem fd87_1 : FieldT Try.prog 87 1 3 := ⟨_, _, 0, Try.underlying87, rfl, rfl, by kernel_rfl⟩
theorem fd87_2 : FieldT Try.prog 87 2 4 := ⟨_, _, 0, Try.underlying87, rfl, rfl, by kernel_rfl⟩
theorem fd91_0 : FieldT Try.prog 91 0 0 := ⟨_, _, 0, Try.underlying91, rfl, rfl, by kernel_rfl⟩
theorem fd91_1 : FieldT Try.prog 91 1 1 := ⟨_, _, 0, Try.underlying91, rfl, rfl, by kernel_rfl⟩
theorem fd93_0 : FieldT Try.prog 93 0 0 := ⟨_, _, 0, Try.underlying93, rfl, rfl, by kernel_rfl⟩
theorem fd93_1 : FieldT Try.prog 93 1 1 := ⟨_, _, 1, Try.underlying93, rfl, rfl, by kernel_rfl⟩
theorem fd93_2 : FieldT Try.prog 93 2 3 := ⟨_, _, 1, Try.underlying93, rfl, rfl, by kernel_rfl⟩
theorem fd93_3 : FieldT Try.prog 93 3 5 := ⟨_, _, 0, Try.underlying93, rfl, rfl, by kernel_rfl⟩
theorem fd93_4 : FieldT Try.prog 93 4 6 := ⟨_, _, 0, Try.underlying93, rfl, rfl, by kernel_rfl⟩
theorem fd93_5 : FieldT Try.prog 93 5 7 := ⟨_, _, 0, Try.underlying93, rfl, rfl, by kernel_rfl⟩
theorem fd93_6 : FieldT Try.prog 93 6 8 := ⟨_, _, 0, Try.underlying93, rfl, rfl, by kernel_rfl⟩
theorem pl2 : Plain Try.prog 2 := ⟨_, Try.underlying2, rfl⟩
theorem pl3 : Plain Try.prog 3 := ⟨_, Try.underlying3, rfl⟩
theorem pl48 : Plain Try.prog 48 := ⟨_, Try.underlying48, rfl⟩
theorem pl49 : Plain Try.prog 49 := ⟨_, Try.underlying49, rfl⟩
theorem pl52 : Plain Try.prog 52 := ⟨_, Try.underlying52, rfl⟩
theorem pl57 : Plain Try.prog 57 := ⟨_, Try.underlying57, rfl⟩
theorem sl48 : SliceT Try.prog 48 3 1 := ⟨Try.underlying48, by kernel_rfl⟩
theorem sl49 : SliceT Try.prog 49 93 9 := ⟨Try.underlying49, by kernel_rfl⟩
theorem sl52 : SliceT Try.prog 52 57 1 := ⟨Try.underlying52, by kernel_rfl⟩
theorem sl57 : SliceT Try.prog 57 2 1 := ⟨Try.underlying57, by kernel_rfl⟩
theorem sz2 : SizeT Try.prog 2 1 := by unfold SizeT; kernel_rfl
theorem sz52 : SizeT Try.prog 52 1 := by unfold SizeT; kernel_rfl
theorem sz57 : SizeT Try.prog 57 1 := by unfold SizeT; kernel_rfl
theorem sz59 : SizeT Try.prog 59 2 := by unfold SizeT; kernel_rfl
theorem sz93 : SizeT Try.prog 93 9 := by unfold SizeT; kernel_rfl
theorem sz_52 : SliceZ Try.prog 52 57 1 [.slice none 0 0] := ⟨Try.underlying52, by kernel_rfl⟩
theorem sz_57 : SliceZ Try.prog 57 2 1 [.int .i64 0] := ⟨Try.underlying57, by kernel_rfl⟩
theorem ve52 : VecT Try.prog 52 57 1 24 := ⟨Try.underlying52, by kernel_rfl, by decide⟩
theorem ve57 : VecT Try.prog 57 2 1 8 := ⟨Try.underlying57, by kernel_rfl, by decide⟩
theorem ze2 : ZeroT Try.prog 2 [.int .i64 0] := by unfold ZeroT; kernel_rfl
theorem ze57 : ZeroT Try.prog 57 [.slice none 0 0] := by unfold ZeroT; kernel_rfl
theorem ze59 : ZeroT Try.prog 59 [.slice none 0 0, .slice none 0 0] := by unfold ZeroT; kernel_rfl
theorem ze93 : ZeroT Try.prog 93 [.int .i64 0, .int .i64 0, .int .i64 0, .int .i64 0, .int .i64 0, .int .i64 0, .int .i64 0, .int .i64 0, .int .i64 0] := by unfold ZeroT; kernel_rfl
end TSeq
open TSeq
set_option maxRecDepth 8000 in
theorem seq_Copy_w {v_l : Value} {l : List (List Int)} {r : List (List Int)} {K0 : World} (hm : seq_Copy_m l = some r) (h_l : RowsA K0 v_l l) (M : Nat → Prop) (w : World) (hk : Base M K0 w) (hw0 : Own M w [] w) : Calls Try.prog 52 #[v_l] w (fun e w' => ∃ X : Value × (List Value) × World, e = .returned (X.1) ∧ Own M w (kn M w.heap.size K0 X.2.2 :: [grid X.1 X.2.1 57 2 r]) w' ∧ SliceLen X.1 (r).length ∧ GL X.2.1 r) := by
  unfold seq_Copy_m at hm
  refine calls_of_WC (n := 19) (args := [v_l]) Try.func52 rfl rfl (Nat.le_of_ble_eq_true rfl) ?_ (Own.startK hk hw0)
  refine WC.seq ?_
  refine WC.region ?_
  refine WL.q rfl rfl rfl (QV.assign rfl rfl) ?_
  refine WL.nil ?_
  refine WQ.then ?_
  refine WC.seq ?_
  refine WC.region ?_
  refine WL.q rfl rfl rfl (QV.assign rfl rfl) ?_
  refine WL.nil ?_
  refine WQ.then ?_
  refine WC.seq ?_
  refine WC.seq ?_
  refine WC.region ?_
  refine WL.q rfl rfl rfl (QV.move rfl rfl) ?_
  refine WL.q rfl rfl rfl (QV.lenS Try.underlying52 rfl rfl h_l.slen) ?_
  refine WL.q rfl rfl rfl (QV.move rfl rfl) ?_
  refine WL.nil ?_
  refine WQ.then ?_
  refine WK.of (fun w hw => hw.gridNil (E1 := 57) (E2 := 2)) ?_
  obtain ⟨o2, ho3, hm4⟩ := bd_some hm; clear hm; obtain ⟨n5, ho6⟩ := lp_some ho3
  refine WC.bloop5 (H2 := []) (τ := [(6, (true, _)), (7, (true, _))]) (fun (v1_1 : List (List Int)) (x8_1 : Int) (uv1_1 : Value) (hsv1_1 : List Value) (k_1 : World) => [(3, (true, uv1_1)), (8, (true, .int .i64 x8_1))]) (fun (v1_1 : List (List Int)) (x8_1 : Int) (uv1_1 : Value) (hsv1_1 : List Value) (k_1 : World) => [grid uv1_1 hsv1_1 57 2 v1_1, kn M w.heap.size K0 k_1]) (fun (v1_1 : List (List Int)) (x8_1 : Int) (uv1_1 : Value) (hsv1_1 : List Value) (k_1 : World) (m : Nat) => iter (seq_Copy_L0 l) m (v1_1, x8_1) = some o2 ∧ SliceLen uv1_1 v1_1.length ∧ GL hsv1_1 v1_1 ∧ Le K0 k_1) (fun (v1_1 : List (List Int)) (x8_1 : Int) (uv1_1 : Value) (hsv1_1 : List Value) (k_1 : World) => o2 = .go (v1_1, x8_1) ∧ SliceLen uv1_1 v1_1.length ∧ GL hsv1_1 v1_1 ∧ Le K0 k_1) [] 0 nilS [] K0 n5 ⟨ho6, SliceLen.nil, GL.nil, (Le.refl _)⟩ ⟨rfl, rfl, rfl, rfl, trivial⟩ (fun w hw => hw.pick [0, 1] (by decide)) ?_ ?_
  · skip
    rintro v1_1 x8_1 uv1_1 hsv1_1 k_1 ⟨rfl, hlv1_1, hgv1_1, hle_1⟩
    refine WQ.then ?_
    refine WC.seq ?_
    refine WC.region ?_
    refine WL.q rfl rfl rfl (QV.move rfl rfl) ?_
    refine WL.q rfl rfl rfl (QV.assign rfl rfl) ?_
    refine WL.nil ?_
    refine WQ.then ?_
    refine WC.ret ?_
    obtain rfl := eq_of_some hm4
    refine WQ.ret1 rfl rfl (fun w hw => ?_)
    exact ⟨(uv1_1, hsv1_1, k_1), rfl, hw.pick [1, 0] (by decide), hlv1_1, hgv1_1⟩
  · skip
    rintro v1_1 x8_1 uv1_1 hsv1_1 k_1 m7 ⟨hI8, hlv1_1, hgv1_1, hle_1⟩
    obtain ⟨m9, s10, rfl, hm11, hn12⟩ := iter_step hI8; clear hI8; unfold seq_Copy_L0 at hm11; simp only at hm11
    refine WC.seq ?_
    refine WC.region ?_
    refine WL.q rfl rfl rfl (QV.lss rfl rfl rfl rfl) ?_
    refine WL.nil ?_
    refine WQ.then ?_
    refine WC.seq ?_
    refine WC.cond rfl (fun h13 => ?_) (fun h13 => ?_)
    · skip
      have hm14 := br_t h13 hm11; clear hm11
      refine WC.skip ?_
      refine WQ.then ?_
      refine WC.seq ?_
      refine WC.block ?_
      refine WC.seq ?_
      refine WC.region ?_
      obtain ⟨c15, hm16⟩ := ck_some hm14; clear hm14
      obtain ⟨p17, u19, hp18, hc20, hA21⟩ := (h_l.le hle_1).ix c15
      refine WL.q rfl rfl rfl (QV.indexSlice sl52 rfl rfl rfl rfl hp18) ?_
      refine WL.q rfl rfl rfl (QV.load pl57 rfl rfl (fun w hw => CellsAt.one 0 ((Own.kcells 1 rfl hk hc20) w hw) rfl)) ?_
      refine WL.q rfl rfl rfl (QV.assign rfl rfl) ?_
      refine WL.nil ?_
      refine WQ.then ?_
      refine WC.region ?_
      refine WL.q rfl rfl rfl (QV.move rfl rfl) ?_
      refine WL.q rfl rfl rfl (QV.move rfl rfl) ?_
      refine WL.effect rfl ?_
      obtain ⟨x22, hx23, hm24⟩ := bd_some hm16; clear hm16
      refine EV.of (C' := Own M w [kn M w.heap.size K0 k_1, grid uv1_1 hsv1_1 57 2 v1_1]) (fun w hw => hw.pick [1, 0] (by decide)) ?_
      refine (EV.callR (X := Value × World) (R := []) (fun X => X.1) (fun X => [vec X.1 2 1 (List.map icell x22)]) (fun X => X.2) (fun X => SliceLen X.1 (x22).length) hk (fun _ h => by cases h; decide) en60 (EvAll.cons rfl rfl EvAll.nil) (fun M w h1 h2 => have h := Clone_w hx23 hA21 M w h1 h2; h) (fun X25 hF25 hle25 => ?_))
      refine WL.effect rfl ?_
      refine (EV.buildSlice (by decide) sz_52 (by decide) (by decide) (ps := [(0, .tmp 14)]) (cells := [X25.1]) (EvAll.cons rfl rfl EvAll.nil) (filled1 hF25) (fun b27 => ?_))
      refine WL.effect rfl ?_
      obtain ⟨c28, hm29⟩ := ck_some hm24; clear hm24
      refine EV.of (C' := Own M w [grid uv1_1 hsv1_1 57 2 v1_1, vec X25.1 2 1 (List.map icell x22), blk b27 [X25.1] 57, kn M w.heap.size K0 X25.2]) (fun w hw => hw.pick [3, 2, 0, 1] (by decide)) ?_
      refine (EV.appendG (by decide) ve52 rfl rfl rfl rfl hF25 (Own.blkArr 2 (rows := [[X25.1]]) rfl rfl (rows_one)) c28 hgv1_1 (fun u30 hu31 => ?_))
      have hg32 := hgv1_1.snoc hF25
      refine WL.q rfl rfl rfl (QV.assign rfl rfl) ?_
      refine WL.nil ?_
      refine WQ.block ?_
      refine WQ.then ?_
      refine WC.region ?_
      obtain ⟨c33, hm34⟩ := ck_some hm29; clear hm29
      refine WL.q rfl rfl rfl (QV.add rfl rfl rfl rfl c33) ?_
      refine WL.q rfl rfl rfl (QV.move rfl rfl) ?_
      refine WL.nil ?_
      exact WQ.again5 (v1_1 ++ [x22]) (x8_1 + 1) u30 (hsv1_1 ++ [X25.1]) X25.2 m9 ⟨up_next hm34 hn12, hu31, hg32, (hle_1.trans hle25)⟩ (Nat.lt_succ_self _) ⟨rfl, rfl, rfl, rfl, trivial⟩ (fun w hw => hw.pick [0, 2] (by decide))
    · skip
      have hm35 := br_f h13 hm11; clear hm11
      refine WC.exit ?_
      refine WQ.then_exit ?_
      refine WQ.then_exit ?_
      refine WQ.block_exit ?_
      exact WQ.out5 v1_1 x8_1 uv1_1 hsv1_1 k_1 ⟨up_brk hm35 hn12, hlv1_1, hgv1_1, hle_1⟩ ⟨rfl, rfl, rfl, rfl, trivial⟩ (fun w hw => hw.pick [0, 1] (by decide))

set_option maxRecDepth 8000 in
theorem seq_runner_ref_w {p_r : Addr} {v_r_Loop_Logs : Value} {v_r_Loop_Body : Value} {v_r_Loop_Outs : Value} {v_r_past : Value} {v_r_memory : Value} {v_now : Value} {r_past : List (List Int)} {x : Rf} {now : List Int} {r : Int} (w : World) (hm : seq_runner_ref_m r_past x now = some r) (h_r_past : RowsA w v_r_past r_past) (hp_r : CellsAt w p_r [v_r_Loop_Logs, v_r_Loop_Body, v_r_Loop_Outs, v_r_past, v_r_memory] 0) (h_now : Arr w v_now 1 (now.map icell)) : Calls Try.prog 61 #[.pointer (some p_r), .agg #[.int .i64 x.st, .int .i64 x.bk], v_now] w (fun e w' => e = .returned (.int .i64 r) ∧ Grow w w') := by
  unfold seq_runner_ref_m at hm
  have hk := Base.rfl (w := w)
  refine calls_of_WC (n := 28) (args := [.pointer (some p_r), .agg #[.int .i64 x.st, .int .i64 x.bk], v_now]) Try.func61 rfl rfl (Nat.le_of_ble_eq_true rfl) ?_ (Own.startK hk (Own.start w))
  refine WC.seq ?_
  refine WC.region ?_
  refine WL.effect rfl ?_
  refine (EV.boxAgg (by decide) rfl rfl (fun b1 => ?_))
  refine WL.q rfl rfl rfl (QV.assign rfl rfl) ?_
  refine WL.nil ?_
  refine WQ.then ?_
  refine WC.seq ?_
  refine WC.seq ?_
  refine WC.region ?_
  refine WL.q rfl rfl rfl (QV.fieldAddr fd91_1 rfl rfl) ?_
  refine WL.q rfl rfl rfl (QV.load pl3 rfl rfl (Own.cell 0 rfl rfl)) ?_
  refine WL.q rfl rfl rfl (QV.eql rfl rfl rfl rfl) ?_
  refine WL.nil ?_
  refine WQ.then ?_
  refine WC.cond rfl (fun h2 => ?_) (fun h2 => ?_)
  · skip
    have hm3 := br_t h2 hm; clear hm
    refine WC.seq ?_
    refine WC.region ?_
    refine WL.q rfl rfl rfl (QV.move rfl rfl) ?_
    refine WL.q rfl rfl rfl (QV.fieldAddr fd91_0 rfl rfl) ?_
    refine WL.q rfl rfl rfl (QV.load pl3 rfl rfl (Own.cell 0 rfl rfl)) ?_
    obtain ⟨c4, hm5⟩ := ck_some hm3; clear hm3
    obtain ⟨p6, hp7⟩ := h_now.lenMap.ix (sz := 1) ln_len c4
    refine WL.q rfl rfl rfl (QV.indexSlice sl57 rfl rfl rfl rfl hp7) ?_
    refine WL.q rfl rfl rfl (QV.load pl2 rfl rfl (fun w hw => CellsAt.one 0 (((Own.karr 1 rfl hk h_now) w hw).ele hp7 c4) rfl)) ?_
    refine WL.q rfl rfl rfl (QV.assign rfl rfl) ?_
    refine WL.nil ?_
    refine WQ.then ?_
    refine WC.ret ?_
    refine WQ.then_ret ?_
    obtain rfl := eq_of_some hm5
    refine WQ.ret1 rfl rfl (fun w hw => ?_)
    exact ⟨rfl, Own.kgrow (fun _ x => x) hw⟩
  · skip
    have hm8 := br_f h2 hm; clear hm
    refine WC.skip ?_
    refine WQ.then ?_
    refine WC.seq ?_
    refine WC.dr (m := 14) (S := Own noM w [kn noM w.heap.size w w, blk b1 [.int .i64 x.st, .int .i64 x.bk] 91]) (by kernel_rfl) (by kernel_rfl) (fun w hw => hw.pick [1, 0] (by decide)) ?_
    refine WD.q 0 rfl (by kernel_rfl) rfl rfl rfl (QV.move rfl rfl) ?_
    refine WD.q 1 rfl (by kernel_rfl) rfl rfl rfl (QV.nilCheck rfl rfl) ?_
    refine WD.q 2 rfl (by kernel_rfl) rfl rfl rfl (QV.fieldAddr fd87_1 rfl rfl) ?_
    refine WD.q 3 rfl (by kernel_rfl) rfl rfl rfl (QV.load pl52 rfl rfl (fun w hw => CellsAt.one 3 ((Own.kcells 0 rfl hk hp_r) w hw) rfl)) ?_
    refine WD.q 4 rfl (by kernel_rfl) rfl rfl rfl (QV.fieldAddr fd91_1 rfl rfl) ?_
    refine WD.q 5 rfl (by kernel_rfl) rfl rfl rfl (QV.load pl3 rfl rfl (Own.cell 1 rfl rfl)) ?_
    obtain ⟨c9, hm10⟩ := ck_some hm8; clear hm8
    refine WD.q 6 rfl (by kernel_rfl) rfl rfl rfl (QV.sub rfl rfl rfl rfl c9) ?_
    obtain ⟨c11, hm12⟩ := ck_some hm10; clear hm10
    obtain ⟨p13, u15, hp14, hc16, hA17⟩ := h_r_past.ix c11
    refine WD.q 7 rfl (by kernel_rfl) rfl rfl rfl (QV.indexSlice sl52 rfl rfl rfl rfl hp14) ?_
    refine WD.q 8 rfl (by kernel_rfl) rfl rfl rfl (QV.load pl57 rfl rfl (fun w hw => CellsAt.one 0 ((Own.kcells 0 rfl hk hc16) w hw) rfl)) ?_
    refine WD.q 9 rfl (by kernel_rfl) rfl rfl rfl (QV.fieldAddr fd91_0 rfl rfl) ?_
    refine WD.q 10 rfl (by kernel_rfl) rfl rfl rfl (QV.load pl3 rfl rfl (Own.cell 1 rfl rfl)) ?_
    obtain ⟨c18, hm19⟩ := ck_some hm12; clear hm12
    obtain ⟨p20, hp21⟩ := hA17.lenMap.ix (sz := 1) ln_len c18
    refine WD.q 11 rfl (by kernel_rfl) rfl rfl rfl (QV.indexSlice sl57 rfl rfl rfl rfl hp21) ?_
    refine WD.q 12 rfl (by kernel_rfl) rfl rfl rfl (QV.load pl2 rfl rfl (fun w hw => CellsAt.one 0 (((Own.karr 0 rfl hk hA17) w hw).ele hp21 c18) rfl)) ?_
    refine WD.q 13 rfl (by kernel_rfl) rfl rfl rfl (QV.assign rfl rfl) ?_
    refine WD.e (by kernel_rfl) ?_
    refine WQ.then ?_
    refine WC.ret ?_
    obtain rfl := eq_of_some hm19
    refine WQ.ret1 rfl rfl (fun w hw => ?_)
    exact ⟨rfl, Own.kgrow (fun _ x => x) hw⟩

set_option maxRecDepth 8000 in
theorem seq_runner_turn_w {v_r_Loop_Logs : Value} {v_r_Loop_Body : Value} {v_r_Loop_Outs : Value} {v_r_past : Value} {v_r_memory : Value} {hs_r_memory : List Value} {b_r : Nat} {r_Loop_Logs : List Int} {r_Loop_Body : List Stm} {r_Loop_Outs : List Int} {r_past : List (List Int)} {r_memory : List (List Int)} {t : Int} {r : List (List Int) × List (List Int)} {K0 : World} (hm : seq_runner_turn_m r_Loop_Logs r_Loop_Body r_Loop_Outs r_past r_memory t = some r) (h_r_Loop_Logs : Arr K0 v_r_Loop_Logs 1 (r_Loop_Logs.map icell)) (h_r_Loop_Body : Arr K0 v_r_Loop_Body 9 (r_Loop_Body.map Stm.cells)) (h_r_Loop_Outs : Arr K0 v_r_Loop_Outs 1 (r_Loop_Outs.map icell)) (h_r_past : RowsA K0 v_r_past r_past) (h_r_memory : SliceLen v_r_memory r_memory.length) (hg_r_memory : GL hs_r_memory r_memory) (M : Nat → Prop) (w : World) (hk : Base M K0 w) (hw0 : Own M w [blk b_r [v_r_Loop_Logs, v_r_Loop_Body, v_r_Loop_Outs, v_r_past, v_r_memory] 87, grid v_r_memory hs_r_memory 57 2 r_memory] w) : Calls Try.prog 53 #[.pointer (some (⟨b_r, 0, none⟩)), .int .i64 t] w (fun e w' => ∃ X : Value × Value × (List Value) × World, e = .returned (.tuple #[]) ∧ Own M w (kn M w.heap.size K0 X.2.2.2 :: [blk b_r [v_r_Loop_Logs, v_r_Loop_Body, v_r_Loop_Outs, X.1, X.2.1] 87, grid X.2.1 X.2.2.1 57 2 r.2]) w' ∧ RowsA X.2.2.2 X.1 r.1 ∧ SliceLen X.2.1 (r.2).length ∧ GL X.2.2.1 r.2) := by
  unfold seq_runner_turn_m at hm
  refine calls_of_WC (n := 116) (args := [.pointer (some (⟨b_r, 0, none⟩)), .int .i64 t]) Try.func53 rfl rfl (Nat.le_of_ble_eq_true rfl) ?_ (Own.startK hk hw0)
  refine WC.seq ?_
  refine WC.region ?_
  refine WL.q rfl rfl rfl (QV.assign rfl rfl) ?_
  refine WL.nil ?_
  refine WQ.then ?_
  refine WC.seq ?_
  refine WC.seq ?_
  refine WC.region ?_
  refine WL.q rfl rfl rfl (QV.move rfl rfl) ?_
  refine WL.q rfl rfl rfl (QV.nilCheck rfl rfl) ?_
  refine WL.q rfl rfl rfl (QV.fieldAddr fd87_0 rfl rfl) ?_
  refine WL.q rfl rfl rfl (QV.fieldAddr fd51_1 rfl rfl) ?_
  refine WL.q rfl rfl rfl (QV.load pl49 rfl rfl (Own.cell 1 rfl rfl)) ?_
  refine WL.q rfl rfl rfl (QV.lenS Try.underlying49 rfl rfl h_r_Loop_Body.lenMap) ?_
  refine WL.q rfl rfl rfl (QV.move rfl rfl) ?_
  refine WL.nil ?_
  refine WQ.then ?_
  refine WK.of (fun w hw => hw.vecNil (E := 2) (sz := 1) (enc := icell)) ?_
  obtain ⟨o2, ho3, hm4⟩ := bd_some hm; clear hm; obtain ⟨n5, ho6⟩ := lp_some ho3
  refine WC.bloop4 (H2 := [kn M w.heap.size K0 K0]) (τ := [(0, (true, _)), (1, (true, _)), (12, (true, _)), (13, (true, _))]) (fun (v1_1 : List Int) (own0v4_1 : List (List Int)) (x14_1 : Int) (uv1_1 : Value) => [(4, (true, uv1_1)), (14, (true, .int .i64 x14_1))]) (fun (v1_1 : List Int) (own0v4_1 : List (List Int)) (x14_1 : Int) (uv1_1 : Value) => [vec uv1_1 2 1 (List.map icell v1_1), blk b_r [v_r_Loop_Logs, v_r_Loop_Body, v_r_Loop_Outs, v_r_past, v_r_memory] 87, grid v_r_memory hs_r_memory 57 2 own0v4_1]) (fun (v1_1 : List Int) (own0v4_1 : List (List Int)) (x14_1 : Int) (uv1_1 : Value) (m : Nat) => iter (seq_runner_turn_L0 r_Loop_Logs r_Loop_Body r_past t) m (v1_1, own0v4_1, x14_1) = some o2 ∧ SliceLen uv1_1 v1_1.length ∧ SliceLen v_r_memory own0v4_1.length ∧ GL hs_r_memory own0v4_1) (fun (v1_1 : List Int) (own0v4_1 : List (List Int)) (x14_1 : Int) (uv1_1 : Value) => o2 = .go (v1_1, own0v4_1, x14_1) ∧ SliceLen uv1_1 v1_1.length ∧ SliceLen v_r_memory own0v4_1.length ∧ GL hs_r_memory own0v4_1) [] r_memory 0 (.slice none 0 0) n5 ⟨ho6, SliceLen.nil, h_r_memory, hg_r_memory⟩ ⟨rfl, rfl, rfl, rfl, rfl, rfl, trivial⟩ (fun w hw => hw.pick [0, 2, 3, 1] (by decide)) ?_ ?_
  · skip
    rintro v1_1 own0v4_1 x14_1 uv1_1 ⟨rfl, hlv1_1, hlown0v4_1, hgown0v4_1⟩
    refine WQ.then ?_
    refine WC.region ?_
    refine WL.q rfl rfl rfl (QV.move rfl rfl) ?_
    refine WL.q rfl rfl rfl (QV.move rfl rfl) ?_
    refine WL.effect rfl ?_
    refine (EV.buildSlice (by decide) sz_52 (by decide) (by decide) (ps := [(0, .tmp 106)]) (cells := [uv1_1]) (EvAll.cons rfl rfl EvAll.nil) (filled1 hlv1_1) (fun b7 => ?_))
    refine WL.q rfl rfl rfl (QV.move rfl rfl) ?_
    refine WL.q rfl rfl rfl (QV.nilCheck rfl rfl) ?_
    refine WL.q rfl rfl rfl (QV.fieldAddr fd87_1 rfl rfl) ?_
    refine WL.q rfl rfl rfl (QV.load pl52 rfl rfl (Own.cell 2 rfl rfl)) ?_
    obtain ⟨c8, hm9⟩ := ck_some hm4; clear hm4
    have hA10 := RowsA.sub h_r_past c8
    refine WL.q rfl rfl rfl (QV.sliceHd sl52 rfl rfl h_r_past.slen rfl rfl c8) ?_
    refine WL.effect rfl ?_
    refine EV.of (C' := Own M w [kn M w.heap.size K0 K0, vec uv1_1 2 1 (List.map icell v1_1), blk b7 [uv1_1] 57, blk b_r [v_r_Loop_Logs, v_r_Loop_Body, v_r_Loop_Outs, v_r_past, v_r_memory] 87, grid v_r_memory hs_r_memory 57 2 own0v4_1]) (fun w hw => hw.pick [4, 1, 0, 2, 3] (by decide)) ?_
    refine EV.freeze hk (fun k11 hle11 hr11 => ?_)
    have hA11 := vec_arr hr11
    refine EV.of (C' := Own M w [blk b7 [uv1_1] 57, kn M w.heap.size K0 k11, blk b_r [v_r_Loop_Logs, v_r_Loop_Body, v_r_Loop_Outs, v_r_past, v_r_memory] 87, grid v_r_memory hs_r_memory 57 2 own0v4_1]) (fun w hw => hw.pick [1, 0, 2, 3] (by decide)) ?_
    refine EV.of (fun w hw => hw.blkVec vcell ([(uv1_1, v1_1)] : List (Value × List Int)) rfl vcell_len (Nat.le_of_ble_eq_true rfl)) ?_
    have hR12 : RowsK k11 ([(uv1_1, v1_1)] : List (Value × List Int)) := (RowsK.cons hA11 RowsK.nil)
    obtain ⟨B13, hB13, hY13, hR13⟩ := (hA10.le hle11)
    obtain ⟨c14, hm15⟩ := ck_some hm9; clear hm9
    have hR18 : RowsK k11 (([(uv1_1, v1_1)] : List (Value × List Int)) ++ B13) := RowsK.append hR12 hR13
    have hB19 : ((([(uv1_1, v1_1)] : List (Value × List Int)) ++ B13) : List (Value × List Int)).map (·.2) = (([v1_1] : List (List Int)) ++ (sub r_past 0 2)) := rows_maps rfl hB13
    refine (EV.appendL (enc := vcell) (xs := ([(uv1_1, v1_1)] : List (Value × List Int))) (ys := B13) (([(uv1_1, v1_1)] : List (Value × List Int)) ++ B13) 0 (by decide) ve52 rfl rfl rfl rfl rfl (Own.karr 1 rfl hk hY13) vcell_len (rowsk_one hR13) rfl (AL.b1 hB19 c14) (AL.b2 hB19 c14) (fun u16 hu17 => ?_))
    have hl20 := slen_map hB19 hu17
    refine WL.q rfl rfl rfl (QV.nilCheck rfl rfl) ?_
    refine WL.q rfl rfl rfl (QV.fieldAddr fd87_1 rfl rfl) ?_
    refine WL.effect rfl ?_
    refine (EV.store 2 rfl rfl rfl rfl rfl rfl (vs := [u16]) (SliceLen.cells hl20) sz52 (Nat.le_of_ble_eq_true rfl) (one_cons (SliceLen.one hl20) one_nil) ?_)
    refine WL.nil ?_
    obtain rfl := eq_of_some hm15
    refine WK.of (C' := Own M w [kn M w.heap.size K0 k11, vec u16 57 1 (List.map vcell (([(uv1_1, v1_1)] : List (Value × List Int)) ++ B13)), blk b_r [v_r_Loop_Logs, v_r_Loop_Body, v_r_Loop_Outs, u16, v_r_memory] 87, grid v_r_memory hs_r_memory 57 2 own0v4_1]) (fun w hw => hw.pick [1, 0, 2, 3] (by decide)) ?_
    refine WK.freeze hk (fun k21 hle21 hr21 => ?_)
    have hA21 : RowsA k21 u16 (([v1_1] : List (List Int)) ++ (sub r_past 0 2)) := ⟨(([(uv1_1, v1_1)] : List (Value × List Int)) ++ B13), hB19, vec_arr hr21, (hR18.le hle21)⟩
    refine WQ.end0 rfl (fun w hw => ?_)
    exact ⟨(u16, v_r_memory, hs_r_memory, k21), rfl, hw.pick [0, 1, 2] (by decide), hA21, hlown0v4_1, hgown0v4_1⟩
  · skip
    rintro v1_1 own0v4_1 x14_1 uv1_1 m22 ⟨hI23, hlv1_1, hlown0v4_1, hgown0v4_1⟩
    obtain ⟨m24, s25, rfl, hm26, hn27⟩ := iter_step hI23; clear hI23; unfold seq_runner_turn_L0 at hm26; simp only at hm26
    refine WC.seq ?_
    refine WC.region ?_
    refine WL.q rfl rfl rfl (QV.lss rfl rfl rfl rfl) ?_
    refine WL.nil ?_
    refine WQ.then ?_
    refine WC.seq ?_
    refine WC.cond rfl (fun h28 => ?_) (fun h28 => ?_)
    · skip
      have hm29 := br_t h28 hm26; clear hm26
      refine WC.skip ?_
      refine WQ.then ?_
      refine WC.seq ?_
      refine WC.block ?_
      refine WC.seq ?_
      refine WC.region ?_
      obtain ⟨c30, hm31⟩ := ck_some hm29; clear hm29
      obtain ⟨p32, hp33⟩ := h_r_Loop_Body.lenMap.ix (sz := 9) ln_len c30
      refine WL.q rfl rfl rfl (QV.indexSlice sl49 rfl rfl rfl rfl hp33) ?_
      refine WL.q rfl rfl rfl (QV.loadAgg ag93 rfl rfl rfl (fun w hw => ((Own.karr 3 rfl hk h_r_Loop_Body) w hw).ele hp33 c30)) ?_
      refine WL.effect rfl ?_
      refine (EV.alloc (by decide) ze93 (fun b34 => ?_))
      refine WL.effect rfl ?_
      refine (EV.store 0 rfl rfl rfl rfl rfl rfl (vs := [.int .i64 ((ele r_Loop_Body x14_1).op), .int .i64 (((ele r_Loop_Body x14_1).a).st), .int .i64 (((ele r_Loop_Body x14_1).a).bk), .int .i64 (((ele r_Loop_Body x14_1).b).st), .int .i64 (((ele r_Loop_Body x14_1).b).bk), .int .i64 ((ele r_Loop_Body x14_1).ar), .int .i64 ((ele r_Loop_Body x14_1).sp), .int .i64 ((ele r_Loop_Body x14_1).pl), .int .i64 ((ele r_Loop_Body x14_1).n)]) (show Value.cells _ = List.toArray _ from rfl) sz93 (Nat.le_of_ble_eq_true rfl) (one_cons rfl (one_cons rfl (one_cons rfl (one_cons rfl (one_cons rfl (one_cons rfl (one_cons rfl (one_cons rfl (one_cons rfl one_nil))))))))) ?_)
      refine WL.nil ?_
      refine WQ.then ?_
      refine WC.seq ?_
      refine WC.region ?_
      refine WL.q rfl rfl rfl (QV.assign rfl rfl) ?_
      refine WL.nil ?_
      refine WQ.then ?_
      refine WC.seq ?_
      refine WC.seq ?_
      refine WC.region ?_
      refine WL.q rfl rfl rfl (QV.fieldAddr fd93_0 rfl rfl) ?_
      refine WL.q rfl rfl rfl (QV.load pl3 rfl rfl (Own.cell 0 rfl rfl)) ?_
      refine WL.nil ?_
      refine WQ.then ?_
      refine WC.block ?_
      refine WC.seq ?_
      refine WC.region ?_
      refine WL.q rfl rfl rfl (QV.eql rfl rfl rfl rfl) ?_
      refine WL.q rfl rfl rfl (QV.assign rfl rfl) ?_
      refine WL.nil ?_
      refine WQ.then ?_
      refine WC.cond rfl (fun h35 => ?_) (fun h35 => ?_)
      · skip
        have hm36 := br_t h35 hm31; clear hm31
        refine WC.region ?_
        refine WL.q rfl rfl rfl (QV.fieldAddr fd93_6 rfl rfl) ?_
        refine WL.q rfl rfl rfl (QV.load pl2 rfl rfl (Own.cell 0 rfl rfl)) ?_
        refine WL.q rfl rfl rfl (QV.assign rfl rfl) ?_
        refine WL.nil ?_
        refine WQ.block ?_
        refine WQ.then ?_
        refine WC.region ?_
        refine WL.q rfl rfl rfl (QV.move rfl rfl) ?_
        refine WL.q rfl rfl rfl (QV.move rfl rfl) ?_
        refine WL.effect rfl ?_
        refine (EV.buildSlice (by decide) sz_57 (by decide) (by decide) (ps := [(0, .tmp 101)]) (cells := [.int .i64 ((ele r_Loop_Body x14_1).n)]) (EvAll.cons rfl rfl EvAll.nil) (by kernel_rfl) (fun b37 => ?_))
        refine WL.effect rfl ?_
        obtain ⟨c38, hm39⟩ := ck_some hm36; clear hm36
        refine (EV.appendL (enc := icell) (xs := v1_1) (ys := [(ele r_Loop_Body x14_1).n]) ((v1_1 ++ [(ele r_Loop_Body x14_1).n])) 2 (by decide) ve57 rfl rfl rfl rfl rfl (Own.blkArr 0 (rows := [(ele r_Loop_Body x14_1).n].map icell) rfl rfl (rows_len icell_len)) icell_len (icell_one _) rfl c38.1 c38.2 (fun u40 hu41 => ?_))
        refine WL.q rfl rfl rfl (QV.assign rfl rfl) ?_
        refine WL.nil ?_
        refine WQ.block ?_
        refine WQ.then ?_
        refine WC.region ?_
        obtain ⟨c42, hm43⟩ := ck_some hm39; clear hm39
        refine WL.q rfl rfl rfl (QV.add rfl rfl rfl rfl c42) ?_
        refine WL.q rfl rfl rfl (QV.move rfl rfl) ?_
        refine WL.nil ?_
        exact WQ.again4 (v1_1 ++ [(ele r_Loop_Body x14_1).n]) own0v4_1 (x14_1 + 1) u40 m24 ⟨up_next hm43 hn27, hu41, hlown0v4_1, hgown0v4_1⟩ (Nat.lt_succ_self _) ⟨rfl, rfl, rfl, rfl, rfl, rfl, trivial⟩ (fun w hw => hw.pick [2, 3, 4, 5] (by decide))
      · skip
        have hm44 := br_f h35 hm31; clear hm31
        refine WC.seq ?_
        refine WC.region ?_
        refine WL.q rfl rfl rfl (QV.eql rfl rfl rfl rfl) ?_
        refine WL.q rfl rfl rfl (QV.assign rfl rfl) ?_
        refine WL.nil ?_
        refine WQ.then ?_
        refine WC.cond rfl (fun h45 => ?_) (fun h45 => ?_)
        · skip
          have hm46 := br_t h45 hm44; clear hm44
          refine WC.region ?_
          refine WL.q rfl rfl rfl (QV.move rfl rfl) ?_
          refine WL.q rfl rfl rfl (QV.assign rfl rfl) ?_
          refine WL.nil ?_
          refine WQ.block ?_
          refine WQ.then ?_
          refine WC.region ?_
          refine WL.q rfl rfl rfl (QV.move rfl rfl) ?_
          refine WL.q rfl rfl rfl (QV.move rfl rfl) ?_
          refine WL.effect rfl ?_
          refine (EV.buildSlice (by decide) sz_57 (by decide) (by decide) (ps := [(0, .tmp 101)]) (cells := [.int .i64 t]) (EvAll.cons rfl rfl EvAll.nil) (by kernel_rfl) (fun b47 => ?_))
          refine WL.effect rfl ?_
          obtain ⟨c48, hm49⟩ := ck_some hm46; clear hm46
          refine (EV.appendL (enc := icell) (xs := v1_1) (ys := [t]) ((v1_1 ++ [t])) 2 (by decide) ve57 rfl rfl rfl rfl rfl (Own.blkArr 0 (rows := [t].map icell) rfl rfl (rows_len icell_len)) icell_len (icell_one _) rfl c48.1 c48.2 (fun u50 hu51 => ?_))
          refine WL.q rfl rfl rfl (QV.assign rfl rfl) ?_
          refine WL.nil ?_
          refine WQ.block ?_
          refine WQ.then ?_
          refine WC.region ?_
          obtain ⟨c52, hm53⟩ := ck_some hm49; clear hm49
          refine WL.q rfl rfl rfl (QV.add rfl rfl rfl rfl c52) ?_
          refine WL.q rfl rfl rfl (QV.move rfl rfl) ?_
          refine WL.nil ?_
          exact WQ.again4 (v1_1 ++ [t]) own0v4_1 (x14_1 + 1) u50 m24 ⟨up_next hm53 hn27, hu51, hlown0v4_1, hgown0v4_1⟩ (Nat.lt_succ_self _) ⟨rfl, rfl, rfl, rfl, rfl, rfl, trivial⟩ (fun w hw => hw.pick [2, 3, 4, 5] (by decide))
        · skip
          have hm54 := br_f h45 hm44; clear hm44
          refine WC.seq ?_
          refine WC.region ?_
          refine WL.q rfl rfl rfl (QV.eql rfl rfl rfl rfl) ?_
          refine WL.q rfl rfl rfl (QV.assign rfl rfl) ?_
          refine WL.nil ?_
          refine WQ.then ?_
          refine WC.cond rfl (fun h55 => ?_) (fun h55 => ?_)
          · skip
            have hm56 := br_t h55 hm54; clear hm54
            refine WC.dr (m := 26) (S := Own M w [kn M w.heap.size K0 K0, blk b34 [.int .i64 ((ele r_Loop_Body x14_1).op), .int .i64 (((ele r_Loop_Body x14_1).a).st), .int .i64 (((ele r_Loop_Body x14_1).a).bk), .int .i64 (((ele r_Loop_Body x14_1).b).st), .int .i64 (((ele r_Loop_Body x14_1).b).bk), .int .i64 ((ele r_Loop_Body x14_1).ar), .int .i64 ((ele r_Loop_Body x14_1).sp), .int .i64 ((ele r_Loop_Body x14_1).pl), .int .i64 ((ele r_Loop_Body x14_1).n)] 93, vec uv1_1 2 1 (List.map icell v1_1), blk b_r [v_r_Loop_Logs, v_r_Loop_Body, v_r_Loop_Outs, v_r_past, v_r_memory] 87, grid v_r_memory hs_r_memory 57 2 own0v4_1]) (by kernel_rfl) (by kernel_rfl) (fun w hw => hw.pick [4, 0, 1, 2, 3] (by decide)) ?_
            refine WD.q 0 rfl (by kernel_rfl) rfl rfl rfl (QV.move rfl rfl) ?_
            refine WD.q 1 rfl (by kernel_rfl) rfl rfl rfl (QV.nilCheck rfl rfl) ?_
            refine WD.q 2 rfl (by kernel_rfl) rfl rfl rfl (QV.fieldAddr fd87_2 rfl rfl) ?_
            refine WD.q 3 rfl (by kernel_rfl) rfl rfl rfl (QV.load pl52 rfl rfl (Own.cell 3 rfl rfl)) ?_
            refine WD.q 4 rfl (by kernel_rfl) rfl rfl rfl (QV.fieldAddr fd93_3 rfl rfl) ?_
            refine WD.q 5 rfl (by kernel_rfl) rfl rfl rfl (QV.load pl3 rfl rfl (Own.cell 1 rfl rfl)) ?_
            obtain ⟨c57, hm58⟩ := ck_some hm56; clear hm56
            obtain ⟨p59, hp60⟩ := hlown0v4_1.ix (sz := 1) ln_len c57
            refine WD.q 6 rfl (by kernel_rfl) rfl rfl rfl (QV.indexSlice sl52 rfl rfl rfl rfl hp60) ?_
            refine WD.q 7 rfl (by kernel_rfl) rfl rfl rfl (QV.load pl57 rfl rfl (Own.gridHdr 4 rfl hp60 c57)) ?_
            refine WD.q 8 rfl (by kernel_rfl) rfl rfl rfl (QV.fieldAddr fd93_4 rfl rfl) ?_
            refine WD.q 9 rfl (by kernel_rfl) rfl rfl rfl (QV.load pl3 rfl rfl (Own.cell 1 rfl rfl)) ?_
            refine WD.q 10 rfl (by kernel_rfl) rfl rfl rfl (QV.fieldAddr fd93_5 rfl rfl) ?_
            refine WD.q 11 rfl (by kernel_rfl) rfl rfl rfl (QV.load pl3 rfl rfl (Own.cell 1 rfl rfl)) ?_
            refine WD.q 12 rfl (by kernel_rfl) rfl rfl rfl (QV.move rfl rfl) ?_
            refine WD.q 13 rfl (by kernel_rfl) rfl rfl rfl (QV.move rfl rfl) ?_
            refine WD.q 14 rfl (by kernel_rfl) rfl rfl rfl (QV.nilCheck rfl rfl) ?_
            refine WD.q 15 rfl (by kernel_rfl) rfl rfl rfl (QV.fieldAddr fd87_0 rfl rfl) ?_
            refine WD.q 16 rfl (by kernel_rfl) rfl rfl rfl (QV.fieldAddr fd51_0 rfl rfl) ?_
            refine WD.q 17 rfl (by kernel_rfl) rfl rfl rfl (QV.load pl48 rfl rfl (Own.cell 3 rfl rfl)) ?_
            refine WD.q 18 rfl (by kernel_rfl) rfl rfl rfl (QV.fieldAddr fd93_3 rfl rfl) ?_
            refine WD.q 19 rfl (by kernel_rfl) rfl rfl rfl (QV.load pl3 rfl rfl (Own.cell 1 rfl rfl)) ?_
            obtain ⟨c61, hm62⟩ := ck_some hm58; clear hm58
            obtain ⟨p63, hp64⟩ := h_r_Loop_Logs.lenMap.ix (sz := 1) ln_len c61
            refine WD.q 20 rfl (by kernel_rfl) rfl rfl rfl (QV.indexSlice sl48 rfl rfl rfl rfl hp64) ?_
            refine WD.q 21 rfl (by kernel_rfl) rfl rfl rfl (QV.load pl3 rfl rfl (fun w hw => CellsAt.one 0 (((Own.karr 0 rfl hk h_r_Loop_Logs) w hw).ele hp64 c61) rfl)) ?_
            obtain ⟨x65, hx66, hm67⟩ := bd_some hm62; clear hm62
            refine WD.q 22 rfl (by kernel_rfl) rfl rfl rfl (QV.call en13 (EvAll.cons rfl rfl (EvAll.cons rfl rfl (EvAll.cons rfl rfl (EvAll.cons rfl rfl EvAll.nil)))) (fun w hw => have h := num_Index_w w hx66 ; h)) ?_
            obtain ⟨c68, hm69⟩ := ck_some hm67; clear hm67
            obtain ⟨p70, hp71⟩ := (hgown0v4_1.ix ((ele r_Loop_Body x14_1).ar)).ix (sz := 1) ln_len c68
            refine WD.q 23 rfl (by kernel_rfl) rfl rfl rfl (QV.indexSlice sl57 rfl rfl rfl rfl hp71) ?_
            refine WD.q 24 rfl (by kernel_rfl) rfl rfl rfl (QV.load pl2 rfl rfl (fun w hw => CellsAt.one 0 (((Own.gridArr 4 rfl c57) w hw).ele hp71 c68) rfl)) ?_
            refine WD.q 25 rfl (by kernel_rfl) rfl rfl rfl (QV.assign rfl rfl) ?_
            refine WD.e (by kernel_rfl) ?_
            refine WQ.block ?_
            refine WQ.then ?_
            refine WC.region ?_
            refine WL.q rfl rfl rfl (QV.move rfl rfl) ?_
            refine WL.q rfl rfl rfl (QV.move rfl rfl) ?_
            refine WL.effect rfl ?_
            refine (EV.buildSlice (by decide) sz_57 (by decide) (by decide) (ps := [(0, .tmp 101)]) (cells := [.int .i64 (ele (ele own0v4_1 ((ele r_Loop_Body x14_1).ar)) x65)]) (EvAll.cons rfl rfl EvAll.nil) (by kernel_rfl) (fun b72 => ?_))
            refine WL.effect rfl ?_
            obtain ⟨c73, hm74⟩ := ck_some hm69; clear hm69
            refine (EV.appendL (enc := icell) (xs := v1_1) (ys := [(ele (ele own0v4_1 ((ele r_Loop_Body x14_1).ar)) x65)]) ((v1_1 ++ [(ele (ele own0v4_1 ((ele r_Loop_Body x14_1).ar)) x65)])) 2 (by decide) ve57 rfl rfl rfl rfl rfl (Own.blkArr 0 (rows := [(ele (ele own0v4_1 ((ele r_Loop_Body x14_1).ar)) x65)].map icell) rfl rfl (rows_len icell_len)) icell_len (icell_one _) rfl c73.1 c73.2 (fun u75 hu76 => ?_))
            refine WL.q rfl rfl rfl (QV.assign rfl rfl) ?_
            refine WL.nil ?_
            refine WQ.block ?_
            refine WQ.then ?_
            refine WC.region ?_
            obtain ⟨c77, hm78⟩ := ck_some hm74; clear hm74
            refine WL.q rfl rfl rfl (QV.add rfl rfl rfl rfl c77) ?_
            refine WL.q rfl rfl rfl (QV.move rfl rfl) ?_
            refine WL.nil ?_
            exact WQ.again4 (v1_1 ++ [(ele (ele own0v4_1 ((ele r_Loop_Body x14_1).ar)) x65)]) own0v4_1 (x14_1 + 1) u75 m24 ⟨up_next hm78 hn27, hu76, hlown0v4_1, hgown0v4_1⟩ (Nat.lt_succ_self _) ⟨rfl, rfl, rfl, rfl, rfl, rfl, trivial⟩ (fun w hw => hw.pick [2, 3, 4, 5] (by decide))
          · skip
            have hm79 := br_f h55 hm54; clear hm54
            refine WC.seq ?_
            refine WC.region ?_
            refine WL.q rfl rfl rfl (QV.eql rfl rfl rfl rfl) ?_
            refine WL.q rfl rfl rfl (QV.assign rfl rfl) ?_
            refine WL.nil ?_
            refine WQ.then ?_
            refine WC.cond rfl (fun h80 => ?_) (fun h80 => ?_)
            · skip
              have hm81 := br_t h80 hm79; clear hm79
              refine WC.seq ?_
              refine WC.region ?_
              refine WL.q rfl rfl rfl (QV.move rfl rfl) ?_
              refine WL.q rfl rfl rfl (QV.fieldAddr fd93_1 rfl rfl) ?_
              refine WL.q rfl rfl rfl (QV.loadAgg ag91 rfl rfl rfl (fun w hw => (Own.cellsBlk 0 rfl w hw).sub 1 2 rfl)) ?_
              refine WL.q rfl rfl rfl (QV.move rfl rfl) ?_
              obtain ⟨x82, hx83, hm84⟩ := bd_some hm81; clear hm81
              refine WL.q rfl rfl rfl (QV.call en61 (EvAll.cons rfl rfl (EvAll.cons rfl rfl (EvAll.cons rfl rfl EvAll.nil))) (fun w hw => have h := seq_runner_ref_w w hx83 (Own.krows 4 rfl hk h_r_past w hw) (Own.cellsBlk 2 rfl w hw) ((Own.vecArr 1 rfl) w hw); h)) ?_
              refine WL.q rfl rfl rfl (QV.assign rfl rfl) ?_
              refine WL.nil ?_
              refine WQ.then ?_
              refine WC.dr (m := 26) (S := Own M w [kn M w.heap.size K0 K0, blk b34 [.int .i64 ((ele r_Loop_Body x14_1).op), .int .i64 (((ele r_Loop_Body x14_1).a).st), .int .i64 (((ele r_Loop_Body x14_1).a).bk), .int .i64 (((ele r_Loop_Body x14_1).b).st), .int .i64 (((ele r_Loop_Body x14_1).b).bk), .int .i64 ((ele r_Loop_Body x14_1).ar), .int .i64 ((ele r_Loop_Body x14_1).sp), .int .i64 ((ele r_Loop_Body x14_1).pl), .int .i64 ((ele r_Loop_Body x14_1).n)] 93, vec uv1_1 2 1 (List.map icell v1_1), blk b_r [v_r_Loop_Logs, v_r_Loop_Body, v_r_Loop_Outs, v_r_past, v_r_memory] 87, grid v_r_memory hs_r_memory 57 2 own0v4_1]) (by kernel_rfl) (by kernel_rfl) (fun w hw => hw.pick [4, 0, 1, 2, 3] (by decide)) ?_
              refine WD.q 0 rfl (by kernel_rfl) rfl rfl rfl (QV.move rfl rfl) ?_
              refine WD.q 1 rfl (by kernel_rfl) rfl rfl rfl (QV.nilCheck rfl rfl) ?_
              refine WD.q 2 rfl (by kernel_rfl) rfl rfl rfl (QV.fieldAddr fd87_2 rfl rfl) ?_
              refine WD.q 3 rfl (by kernel_rfl) rfl rfl rfl (QV.load pl52 rfl rfl (Own.cell 3 rfl rfl)) ?_
              refine WD.q 4 rfl (by kernel_rfl) rfl rfl rfl (QV.fieldAddr fd93_3 rfl rfl) ?_
              refine WD.q 5 rfl (by kernel_rfl) rfl rfl rfl (QV.load pl3 rfl rfl (Own.cell 1 rfl rfl)) ?_
              obtain ⟨c85, hm86⟩ := ck_some hm84; clear hm84
              obtain ⟨p87, hp88⟩ := hlown0v4_1.ix (sz := 1) ln_len c85
              refine WD.q 6 rfl (by kernel_rfl) rfl rfl rfl (QV.indexSlice sl52 rfl rfl rfl rfl hp88) ?_
              refine WD.q 7 rfl (by kernel_rfl) rfl rfl rfl (QV.load pl57 rfl rfl (Own.gridHdr 4 rfl hp88 c85)) ?_
              refine WD.q 8 rfl (by kernel_rfl) rfl rfl rfl (QV.fieldAddr fd93_4 rfl rfl) ?_
              refine WD.q 9 rfl (by kernel_rfl) rfl rfl rfl (QV.load pl3 rfl rfl (Own.cell 1 rfl rfl)) ?_
              refine WD.q 10 rfl (by kernel_rfl) rfl rfl rfl (QV.fieldAddr fd93_5 rfl rfl) ?_
              refine WD.q 11 rfl (by kernel_rfl) rfl rfl rfl (QV.load pl3 rfl rfl (Own.cell 1 rfl rfl)) ?_
              refine WD.q 12 rfl (by kernel_rfl) rfl rfl rfl (QV.move rfl rfl) ?_
              refine WD.q 13 rfl (by kernel_rfl) rfl rfl rfl (QV.move rfl rfl) ?_
              refine WD.q 14 rfl (by kernel_rfl) rfl rfl rfl (QV.nilCheck rfl rfl) ?_
              refine WD.q 15 rfl (by kernel_rfl) rfl rfl rfl (QV.fieldAddr fd87_0 rfl rfl) ?_
              refine WD.q 16 rfl (by kernel_rfl) rfl rfl rfl (QV.fieldAddr fd51_0 rfl rfl) ?_
              refine WD.q 17 rfl (by kernel_rfl) rfl rfl rfl (QV.load pl48 rfl rfl (Own.cell 3 rfl rfl)) ?_
              refine WD.q 18 rfl (by kernel_rfl) rfl rfl rfl (QV.fieldAddr fd93_3 rfl rfl) ?_
              refine WD.q 19 rfl (by kernel_rfl) rfl rfl rfl (QV.load pl3 rfl rfl (Own.cell 1 rfl rfl)) ?_
              obtain ⟨c89, hm90⟩ := ck_some hm86; clear hm86
              obtain ⟨p91, hp92⟩ := h_r_Loop_Logs.lenMap.ix (sz := 1) ln_len c89
              refine WD.q 20 rfl (by kernel_rfl) rfl rfl rfl (QV.indexSlice sl48 rfl rfl rfl rfl hp92) ?_
              refine WD.q 21 rfl (by kernel_rfl) rfl rfl rfl (QV.load pl3 rfl rfl (fun w hw => CellsAt.one 0 (((Own.karr 0 rfl hk h_r_Loop_Logs) w hw).ele hp92 c89) rfl)) ?_
              obtain ⟨x93, hx94, hm95⟩ := bd_some hm90; clear hm90
              refine WD.q 22 rfl (by kernel_rfl) rfl rfl rfl (QV.call en13 (EvAll.cons rfl rfl (EvAll.cons rfl rfl (EvAll.cons rfl rfl (EvAll.cons rfl rfl EvAll.nil)))) (fun w hw => have h := num_Index_w w hx94 ; h)) ?_
              refine WD.q 23 rfl (by kernel_rfl) rfl rfl rfl (QV.move rfl rfl) ?_
              obtain ⟨c96, hm97⟩ := ck_some hm95; clear hm95
              obtain ⟨p98, hp99⟩ := (hgown0v4_1.ix ((ele r_Loop_Body x14_1).ar)).ix (sz := 1) ln_len c96
              refine WD.q 24 rfl (by kernel_rfl) rfl rfl rfl (QV.indexSlice sl57 rfl rfl rfl rfl hp99) ?_
              refine WD.l 25 rfl (by kernel_rfl) rfl ?_
              refine (EV.storeG 3 x82 rfl rfl rfl rfl rfl c85 hp99 sz2 ?_)
              have hg101 := hgown0v4_1.updG ((ele r_Loop_Body x14_1).ar) x93 x82
              have hl100 : SliceLen v_r_memory (updG own0v4_1 ((ele r_Loop_Body x14_1).ar) x93 x82).length := slen_updG hlown0v4_1
              refine WQ.block ?_
              refine WQ.then ?_
              refine WC.region ?_
              refine WL.q rfl rfl rfl (QV.move rfl rfl) ?_
              refine WL.q rfl rfl rfl (QV.move rfl rfl) ?_
              refine WL.effect rfl ?_
              refine (EV.buildSlice (by decide) sz_57 (by decide) (by decide) (ps := [(0, .tmp 101)]) (cells := [.int .i64 x82]) (EvAll.cons rfl rfl EvAll.nil) (by kernel_rfl) (fun b102 => ?_))
              refine WL.effect rfl ?_
              obtain ⟨c103, hm104⟩ := ck_some hm97; clear hm97
              refine (EV.appendL (enc := icell) (xs := v1_1) (ys := [x82]) ((v1_1 ++ [x82])) 2 (by decide) ve57 rfl rfl rfl rfl rfl (Own.blkArr 0 (rows := [x82].map icell) rfl rfl (rows_len icell_len)) icell_len (icell_one _) rfl c103.1 c103.2 (fun u105 hu106 => ?_))
              refine WL.q rfl rfl rfl (QV.assign rfl rfl) ?_
              refine WL.nil ?_
              refine WQ.block ?_
              refine WQ.then ?_
              refine WC.region ?_
              obtain ⟨c107, hm108⟩ := ck_some hm104; clear hm104
              refine WL.q rfl rfl rfl (QV.add rfl rfl rfl rfl c107) ?_
              refine WL.q rfl rfl rfl (QV.move rfl rfl) ?_
              refine WL.nil ?_
              exact WQ.again4 (v1_1 ++ [x82]) (updG own0v4_1 ((ele r_Loop_Body x14_1).ar) x93 x82) (x14_1 + 1) u105 m24 ⟨up_next hm108 hn27, hu106, hl100, hg101⟩ (Nat.lt_succ_self _) ⟨rfl, rfl, rfl, rfl, rfl, rfl, trivial⟩ (fun w hw => hw.pick [2, 3, 4, 5] (by decide))
            · skip
              have hm109 := br_f h80 hm79; clear hm79
              refine WC.dr (m := 15) (S := Own M w [kn M w.heap.size K0 K0, blk b34 [.int .i64 ((ele r_Loop_Body x14_1).op), .int .i64 (((ele r_Loop_Body x14_1).a).st), .int .i64 (((ele r_Loop_Body x14_1).a).bk), .int .i64 (((ele r_Loop_Body x14_1).b).st), .int .i64 (((ele r_Loop_Body x14_1).b).bk), .int .i64 ((ele r_Loop_Body x14_1).ar), .int .i64 ((ele r_Loop_Body x14_1).sp), .int .i64 ((ele r_Loop_Body x14_1).pl), .int .i64 ((ele r_Loop_Body x14_1).n)] 93, vec uv1_1 2 1 (List.map icell v1_1), blk b_r [v_r_Loop_Logs, v_r_Loop_Body, v_r_Loop_Outs, v_r_past, v_r_memory] 87, grid v_r_memory hs_r_memory 57 2 own0v4_1]) (by kernel_rfl) (by kernel_rfl) (fun w hw => hw.pick [4, 0, 1, 2, 3] (by decide)) ?_
              refine WD.q 0 rfl (by kernel_rfl) rfl rfl rfl (QV.fieldAddr fd93_0 rfl rfl) ?_
              refine WD.q 1 rfl (by kernel_rfl) rfl rfl rfl (QV.load pl3 rfl rfl (Own.cell 1 rfl rfl)) ?_
              obtain ⟨c110, hm111⟩ := ck_some hm109; clear hm109
              refine WD.q 2 rfl (by kernel_rfl) rfl rfl rfl (QV.sub rfl rfl rfl rfl c110) ?_
              refine WD.q 3 rfl (by kernel_rfl) rfl rfl rfl (QV.move rfl rfl) ?_
              refine WD.q 4 rfl (by kernel_rfl) rfl rfl rfl (QV.fieldAddr fd93_1 rfl rfl) ?_
              refine WD.q 5 rfl (by kernel_rfl) rfl rfl rfl (QV.loadAgg ag91 rfl rfl rfl (fun w hw => (Own.cellsBlk 1 rfl w hw).sub 1 2 rfl)) ?_
              refine WD.q 6 rfl (by kernel_rfl) rfl rfl rfl (QV.move rfl rfl) ?_
              obtain ⟨x112, hx113, hm114⟩ := bd_some hm111; clear hm111
              refine WD.q 7 rfl (by kernel_rfl) rfl rfl rfl (QV.call en61 (EvAll.cons rfl rfl (EvAll.cons rfl rfl (EvAll.cons rfl rfl EvAll.nil))) (fun w hw => have h := seq_runner_ref_w w hx113 (Own.krows 0 rfl hk h_r_past w hw) (Own.cellsBlk 3 rfl w hw) ((Own.vecArr 2 rfl) w hw); h)) ?_
              refine WD.q 8 rfl (by kernel_rfl) rfl rfl rfl (QV.move rfl rfl) ?_
              refine WD.q 9 rfl (by kernel_rfl) rfl rfl rfl (QV.fieldAddr fd93_2 rfl rfl) ?_
              refine WD.q 10 rfl (by kernel_rfl) rfl rfl rfl (QV.loadAgg ag91 rfl rfl rfl (fun w hw => (Own.cellsBlk 1 rfl w hw).sub 3 2 rfl)) ?_
              refine WD.q 11 rfl (by kernel_rfl) rfl rfl rfl (QV.move rfl rfl) ?_
              obtain ⟨x115, hx116, hm117⟩ := bd_some hm114; clear hm114
              refine WD.q 12 rfl (by kernel_rfl) rfl rfl rfl (QV.call en61 (EvAll.cons rfl rfl (EvAll.cons rfl rfl (EvAll.cons rfl rfl EvAll.nil))) (fun w hw => have h := seq_runner_ref_w w hx116 (Own.krows 0 rfl hk h_r_past w hw) (Own.cellsBlk 3 rfl w hw) ((Own.vecArr 2 rfl) w hw); h)) ?_
              obtain ⟨x118, hx119, hm120⟩ := bd_some hm117; clear hm117
              refine WD.q 13 rfl (by kernel_rfl) rfl rfl rfl (QV.call en23 (EvAll.cons rfl rfl (EvAll.cons rfl rfl (EvAll.cons rfl rfl EvAll.nil))) (fun w hw => have h := num_Op_w w hx119 ; h)) ?_
              refine WD.q 14 rfl (by kernel_rfl) rfl rfl rfl (QV.assign rfl rfl) ?_
              refine WD.e (by kernel_rfl) ?_
              refine WQ.block ?_
              refine WQ.then ?_
              refine WC.region ?_
              refine WL.q rfl rfl rfl (QV.move rfl rfl) ?_
              refine WL.q rfl rfl rfl (QV.move rfl rfl) ?_
              refine WL.effect rfl ?_
              refine (EV.buildSlice (by decide) sz_57 (by decide) (by decide) (ps := [(0, .tmp 101)]) (cells := [.int .i64 x118]) (EvAll.cons rfl rfl EvAll.nil) (by kernel_rfl) (fun b121 => ?_))
              refine WL.effect rfl ?_
              obtain ⟨c122, hm123⟩ := ck_some hm120; clear hm120
              refine (EV.appendL (enc := icell) (xs := v1_1) (ys := [x118]) ((v1_1 ++ [x118])) 2 (by decide) ve57 rfl rfl rfl rfl rfl (Own.blkArr 0 (rows := [x118].map icell) rfl rfl (rows_len icell_len)) icell_len (icell_one _) rfl c122.1 c122.2 (fun u124 hu125 => ?_))
              refine WL.q rfl rfl rfl (QV.assign rfl rfl) ?_
              refine WL.nil ?_
              refine WQ.block ?_
              refine WQ.then ?_
              refine WC.region ?_
              obtain ⟨c126, hm127⟩ := ck_some hm123; clear hm123
              refine WL.q rfl rfl rfl (QV.add rfl rfl rfl rfl c126) ?_
              refine WL.q rfl rfl rfl (QV.move rfl rfl) ?_
              refine WL.nil ?_
              exact WQ.again4 (v1_1 ++ [x118]) own0v4_1 (x14_1 + 1) u124 m24 ⟨up_next hm127 hn27, hu125, hlown0v4_1, hgown0v4_1⟩ (Nat.lt_succ_self _) ⟨rfl, rfl, rfl, rfl, rfl, rfl, trivial⟩ (fun w hw => hw.pick [2, 3, 4, 5] (by decide))
    · skip
      have hm128 := br_f h28 hm26; clear hm26
      refine WC.exit ?_
      refine WQ.then_exit ?_
      refine WQ.then_exit ?_
      refine WQ.block_exit ?_
      exact WQ.out4 v1_1 own0v4_1 x14_1 uv1_1 ⟨up_brk hm128 hn27, hlv1_1, hlown0v4_1, hgown0v4_1⟩ ⟨rfl, rfl, rfl, rfl, rfl, rfl, trivial⟩ (fun w hw => hw.pick [0, 1, 2, 3] (by decide))

set_option maxRecDepth 8000 in
theorem seq_Run_w {v_l_logs : Value} {v_l_body : Value} {v_l_outs : Value} {v_s_bef : Value} {v_s_mem : Value} {l : Lp} {s : Sta} {turns : Int} {r : Rst × Int} {K0 : World} (hm : seq_Run_m l s turns = some r) (h_l_logs : Arr K0 v_l_logs 1 (l.logs.map icell)) (h_l_body : Arr K0 v_l_body 9 (l.body.map Stm.cells)) (h_l_outs : Arr K0 v_l_outs 1 (l.outs.map icell)) (h_s_bef : RowsA K0 v_s_bef s.bef) (h_s_mem : RowsA K0 v_s_mem s.mem) (M : Nat → Prop) (w : World) (hk : Base M K0 w) (hw0 : Own M w [] w) : Calls Try.prog 32 #[.agg #[v_l_logs, v_l_body, v_l_outs], .agg #[v_s_bef, v_s_mem], .int .i64 turns] w (fun e w' => ∃ X : Value × Value × World, e = .returned (.tuple #[.agg #[X.1, X.2.1], .int .i64 r.2]) ∧ Own M w (kn M w.heap.size K0 X.2.2 :: []) w' ∧ Arr X.2.2 X.1 1 (r.1.outs.map icell) ∧ RowsA X.2.2 X.2.1 r.1.mem) := by
  unfold seq_Run_m at hm
  refine calls_of_WC (n := 102) (args := [.agg #[v_l_logs, v_l_body, v_l_outs], .agg #[v_s_bef, v_s_mem], .int .i64 turns]) Try.func32 rfl rfl (Nat.le_of_ble_eq_true rfl) ?_ (Own.startK hk hw0)
  refine WC.seq ?_
  refine WC.region ?_
  refine WL.effect rfl ?_
  refine (EV.boxAgg (by decide) rfl rfl (fun b1 => ?_))
  refine WL.effect rfl ?_
  refine (EV.boxAgg (by decide) rfl rfl (fun b2 => ?_))
  refine WL.effect rfl ?_
  refine (EV.alloc (by decide) ze59 (fun b3 => ?_))
  refine WL.q rfl rfl rfl (QV.assign rfl rfl) ?_
  refine WL.nil ?_
  refine WQ.then ?_
  refine WC.seq ?_
  refine WC.block ?_
  refine WC.seq ?_
  refine WC.region ?_
  refine WL.q rfl rfl rfl (QV.loadAgg ag51 rfl rfl rfl (Own.cellsBlk 2 rfl)) ?_
  refine WL.q rfl rfl rfl (QV.loadAgg ag54 rfl rfl rfl (Own.cellsBlk 1 rfl)) ?_
  obtain ⟨x4, hx5, hm6⟩ := bd_some hm; clear hm
  refine WL.q rfl rfl rfl (QV.call en29 (EvAll.cons rfl rfl (EvAll.cons rfl rfl EvAll.nil)) (fun w hw => have h := loop_Fits_w w hx5 ((Own.karr 3 rfl hk h_l_logs) w hw) ((Own.karr 3 rfl hk h_l_body) w hw) ((Own.karr 3 rfl hk h_l_outs) w hw) (Own.krows 3 rfl hk h_s_bef w hw) (Own.krows 3 rfl hk h_s_mem w hw); h)) ?_
  refine WL.q rfl rfl rfl (QV.not rfl rfl) ?_
  refine WL.q rfl rfl rfl (QV.assign rfl rfl) ?_
  refine WL.nil ?_
  refine WQ.then ?_
  refine WC.cond rfl (fun h7 => ?_) (fun h7 => ?_)
  · skip
    have hm8 := br_t h7 hm6; clear hm6
    refine WC.seq ?_
    refine WC.region ?_
    refine WL.q rfl rfl rfl (QV.build (ps := []) (cells := [.slice none 0 0, .slice none 0 0]) EvAll.nil (by kernel_rfl)) ?_
    refine WL.effect rfl ?_
    refine (EV.store 0 rfl rfl rfl rfl rfl rfl (vs := [.slice none 0 0, .slice none 0 0]) (show Value.cells _ = List.toArray _ from rfl) sz59 (Nat.le_of_ble_eq_true rfl) (one_cons rfl (one_cons rfl one_nil)) ?_)
    refine WL.q rfl rfl rfl (QV.assign rfl rfl) ?_
    refine WL.nil ?_
    refine WQ.then ?_
    refine WC.ret ?_
    refine WQ.block_ret ?_
    refine WQ.then_ret ?_
    obtain rfl := eq_of_some hm8
    refine WQ.retCellTmp rfl ag59 rfl rfl rfl (Own.cellsBlk 0 rfl) (fun w hw => ?_)
    exact ⟨(.slice none 0 0, .slice none 0 0, K0), rfl, hw.pick [3] (by decide), Arr.nil, RowsA.nil⟩
  · skip
    have hm9 := br_f h7 hm6; clear hm6
    refine WC.seq ?_
    refine WC.region ?_
    refine WL.q rfl rfl rfl (QV.move rfl rfl) ?_
    refine WL.q rfl rfl rfl (QV.lss rfl rfl rfl rfl) ?_
    refine WL.q rfl rfl rfl (QV.move rfl rfl) ?_
    refine WL.g rfl rfl (GuardIs.neg rfl rfl) (fun hG => QV.move rfl rfl) ?_
    refine WL.g rfl rfl (GuardIs.neg rfl rfl) (fun hG => QV.gtr rfl hG rfl rfl) ?_
    refine WL.q rfl rfl rfl (QV.pickOr rfl rfl rfl (fun h => notF h)) ?_
    refine WL.q rfl rfl rfl (QV.assign rfl rfl) ?_
    refine WL.nil ?_
    refine WQ.then ?_
    refine WC.cond rfl (fun h10 => ?_) (fun h10 => ?_)
    · skip
      have hm11 := br_t h10 hm9; clear hm9
      refine WC.seq ?_
      refine WC.region ?_
      refine WL.q rfl rfl rfl (QV.build (ps := []) (cells := [.slice none 0 0, .slice none 0 0]) EvAll.nil (by kernel_rfl)) ?_
      refine WL.effect rfl ?_
      refine (EV.store 0 rfl rfl rfl rfl rfl rfl (vs := [.slice none 0 0, .slice none 0 0]) (show Value.cells _ = List.toArray _ from rfl) sz59 (Nat.le_of_ble_eq_true rfl) (one_cons rfl (one_cons rfl one_nil)) ?_)
      refine WL.q rfl rfl rfl (QV.assign rfl rfl) ?_
      refine WL.nil ?_
      refine WQ.then ?_
      refine WC.ret ?_
      refine WQ.block_ret ?_
      refine WQ.then_ret ?_
      obtain rfl := eq_of_some hm11
      refine WQ.retCellTmp rfl ag59 rfl rfl rfl (Own.cellsBlk 0 rfl) (fun w hw => ?_)
      exact ⟨(.slice none 0 0, .slice none 0 0, K0), rfl, hw.pick [3] (by decide), Arr.nil, RowsA.nil⟩
    · skip
      have hm12 := br_f h10 hm9; clear hm9
      refine WC.skip ?_
      refine WQ.block ?_
      refine WQ.then ?_
      refine WC.seq ?_
      refine WC.dr (m := 7) (S := Own M w [kn M w.heap.size K0 K0, blk b3 [.slice none 0 0, .slice none 0 0] 59, blk b2 [v_s_bef, v_s_mem] 54, blk b1 [v_l_logs, v_l_body, v_l_outs] 51]) (by kernel_rfl) (by kernel_rfl) (fun w hw => hw.pick [3, 0, 1, 2] (by decide)) ?_
      refine WD.q 0 rfl (by kernel_rfl) rfl rfl rfl (QV.loadAgg ag51 rfl rfl rfl (Own.cellsBlk 3 rfl)) ?_
      refine WD.q 1 rfl (by kernel_rfl) rfl rfl rfl (QV.fieldAddr fd54_1 rfl rfl) ?_
      refine WD.q 2 rfl (by kernel_rfl) rfl rfl rfl (QV.load pl52 rfl rfl (Own.cell 2 rfl rfl)) ?_
      refine WD.o 3 rfl (by kernel_rfl) rfl ?_
      obtain ⟨x13, hx14, hm15⟩ := bd_some hm12; clear hm12
      refine EV.of (C' := Own M w [kn M w.heap.size K0 K0, blk b3 [.slice none 0 0, .slice none 0 0] 59, blk b2 [v_s_bef, v_s_mem] 54, blk b1 [v_l_logs, v_l_body, v_l_outs] 51]) (fun w hw => hw.pick [3, 0, 1, 2] (by decide)) ?_
      refine (EV.callR (X := Value × (List Value) × World) (R := []) (fun X => X.1) (fun X => [grid X.1 X.2.1 57 2 x13]) (fun X => X.2.2) (fun X => SliceLen X.1 (x13).length ∧ GL X.2.1 x13) hk (fun _ h => by cases h; decide) en52 (EvAll.cons rfl rfl EvAll.nil) (fun M w h1 h2 => have h := seq_Copy_w hx14 h_s_mem M w h1 h2; h) (fun X16 hF16 hle16 => ?_))
      refine WD.b (H' := [kn M w.heap.size K0 X16.2.2, grid X16.1 X16.2.1 57 2 x13, blk b3 [.slice none 0 0, .slice none 0 0] 59, blk b2 [v_s_bef, v_s_mem] 54, blk b1 [v_l_logs, v_l_body, v_l_outs] 51]) (fun w hw => hw.pick [0, 1, 2, 3, 4] (by decide)) (fun w hw => Own.forget hle16 (Le.refl _) (hw.pick [0, 2, 3, 4] (by decide))) ?_
      refine WD.q 4 rfl (by kernel_rfl) rfl rfl rfl (QV.buildS (ps := [(0, .tmp 31), (2, .tmp 34)]) (cells := [v_l_logs, v_l_body, v_l_outs, .slice none 0 0, X16.1]) (css := [[v_l_logs, v_l_body, v_l_outs], [X16.1]]) (EvAll.cons rfl rfl (EvAll.cons rfl rfl EvAll.nil)) (CellsAll.cons rfl (CellsAll.cons (SliceLen.cells hF16.1) CellsAll.nil)) (by kernel_rfl)) ?_
      refine WD.o 5 rfl (by kernel_rfl) rfl ?_
      refine (EV.boxAgg (by decide) rfl rfl (fun b18 => ?_))
      refine WD.b (H' := [kn M w.heap.size K0 X16.2.2, blk b18 [v_l_logs, v_l_body, v_l_outs, .slice none 0 0, X16.1] 87, grid X16.1 X16.2.1 57 2 x13, blk b3 [.slice none 0 0, .slice none 0 0] 59, blk b2 [v_s_bef, v_s_mem] 54, blk b1 [v_l_logs, v_l_body, v_l_outs] 51]) (fun w hw => hw.pick [1, 0, 2, 3, 4, 5] (by decide)) (fun w hw => hw.pick [0, 2, 3, 4, 5] (by decide)) ?_
      refine WD.q 6 rfl (by kernel_rfl) rfl rfl rfl (QV.assign rfl rfl) ?_
      refine WD.e (by kernel_rfl) ?_
      refine WQ.then ?_
      refine WC.seq ?_
      refine WC.seq ?_
      refine WC.region ?_
      refine WL.q rfl rfl rfl (QV.move rfl rfl) ?_
      refine WL.nil ?_
      refine WQ.then ?_
      refine WK.of (fun w hw => hw.vecNil (E := 57) (sz := 1) (enc := vcell)) ?_
      obtain ⟨o20, ho21, hm22⟩ := bd_some hm15; clear hm15; obtain ⟨n23, ho24⟩ := lp_some ho21
      refine WC.bloop5 (H2 := [grid X16.1 X16.2.1 57 2 x13, blk b3 [.slice none 0 0, .slice none 0 0] 59, blk b2 [v_s_bef, v_s_mem] 54, blk b1 [v_l_logs, v_l_body, v_l_outs] 51]) (τ := [(2, (true, _)), (3, (true, _)), (4, (true, _)), (6, (true, _)), (8, (true, _))]) (fun (v19_4 : List (List Int)) (x37_4 : Int) (uv19_4 : Value) (Bv19_4 : List (Value × List Int)) (k_4 : World) => [(37, (true, .int .i64 x37_4))]) (fun (v19_4 : List (List Int)) (x37_4 : Int) (uv19_4 : Value) (Bv19_4 : List (Value × List Int)) (k_4 : World) => [vec uv19_4 57 1 (List.map vcell Bv19_4), blk b18 [v_l_logs, v_l_body, v_l_outs, uv19_4, X16.1] 87, kn M w.heap.size K0 k_4]) (fun (v19_4 : List (List Int)) (x37_4 : Int) (uv19_4 : Value) (Bv19_4 : List (Value × List Int)) (k_4 : World) (m : Nat) => iter (seq_Run_L1 s) m (v19_4, x37_4) = some o20 ∧ SliceLen uv19_4 v19_4.length ∧ Bv19_4.map (·.2) = v19_4 ∧ RowsK k_4 Bv19_4 ∧ Le X16.2.2 k_4) (fun (v19_4 : List (List Int)) (x37_4 : Int) (uv19_4 : Value) (Bv19_4 : List (Value × List Int)) (k_4 : World) => o20 = .go (v19_4, x37_4) ∧ SliceLen uv19_4 v19_4.length ∧ Bv19_4.map (·.2) = v19_4 ∧ RowsK k_4 Bv19_4 ∧ Le X16.2.2 k_4) [] 0 (.slice none 0 0) [] X16.2.2 n23 ⟨ho24, SliceLen.nil, rfl, RowsK.nil, (Le.refl _)⟩ ⟨rfl, rfl, rfl, rfl, rfl, rfl, trivial⟩ (fun w hw => hw.pick [0, 1, 2, 3, 4, 5, 6] (by decide)) ?_ ?_
      · skip
        rintro v19_4 x37_4 uv19_4 Bv19_4 k_4 ⟨rfl, hlv19_4, hBv19_4, hRv19_4, hle_4⟩
        refine WQ.then ?_
        refine WC.seq ?_
        refine WC.seq ?_
        refine WC.region ?_
        refine WL.q rfl rfl rfl (QV.move rfl rfl) ?_
        refine WL.q rfl rfl rfl (QV.move rfl rfl) ?_
        refine WL.nil ?_
        refine WQ.then ?_
        refine WK.of (C' := Own M w [kn M w.heap.size K0 k_4, vec uv19_4 57 1 (List.map vcell Bv19_4), blk b18 [v_l_logs, v_l_body, v_l_outs, uv19_4, X16.1] 87, grid X16.1 X16.2.1 57 2 x13, blk b3 [.slice none 0 0, .slice none 0 0] 59, blk b2 [v_s_bef, v_s_mem] 54, blk b1 [v_l_logs, v_l_body, v_l_outs] 51]) (fun w hw => hw.pick [2, 0, 1, 3, 4, 5, 6] (by decide)) ?_
        refine WK.freeze hk (fun k25 hle25 hr25 => ?_)
        have hA25 : RowsA k25 uv19_4 v19_4 := ⟨Bv19_4, hBv19_4, vec_arr hr25, (hRv19_4.le hle25)⟩
        obtain ⟨o26, ho27, hm28⟩ := bd_some hm22; clear hm22; obtain ⟨n29, ho30⟩ := lp_some ho27
        refine WC.bloop7 (H2 := [blk b3 [.slice none 0 0, .slice none 0 0] 59, blk b2 [v_s_bef, v_s_mem] 54, blk b1 [v_l_logs, v_l_body, v_l_outs] 51]) (τ := [(3, (true, _)), (6, (true, _)), (8, (true, _)), (66, (true, _))]) (fun (r17_5 : List (List Int)) (b18c3_5 : List (List Int)) (x67_5 : Int) (ur17_5 : Value) (hsr17_5 : List Value) (vb18c3_5 : Value) (k_5 : World) => [(67, (true, .int .i64 x67_5))]) (fun (r17_5 : List (List Int)) (b18c3_5 : List (List Int)) (x67_5 : Int) (ur17_5 : Value) (hsr17_5 : List Value) (vb18c3_5 : Value) (k_5 : World) => [kn M w.heap.size K0 k_5, blk b18 [v_l_logs, v_l_body, v_l_outs, vb18c3_5, ur17_5] 87, grid ur17_5 hsr17_5 57 2 r17_5]) (fun (r17_5 : List (List Int)) (b18c3_5 : List (List Int)) (x67_5 : Int) (ur17_5 : Value) (hsr17_5 : List Value) (vb18c3_5 : Value) (k_5 : World) (m : Nat) => iter (seq_Run_L5 l turns) m (r17_5, b18c3_5, x67_5) = some o26 ∧ SliceLen ur17_5 r17_5.length ∧ GL hsr17_5 r17_5 ∧ RowsA k_5 vb18c3_5 b18c3_5 ∧ Le k25 k_5) (fun (r17_5 : List (List Int)) (b18c3_5 : List (List Int)) (x67_5 : Int) (ur17_5 : Value) (hsr17_5 : List Value) (vb18c3_5 : Value) (k_5 : World) => o26 = .go (r17_5, b18c3_5, x67_5) ∧ SliceLen ur17_5 r17_5.length ∧ GL hsr17_5 r17_5 ∧ RowsA k_5 vb18c3_5 b18c3_5 ∧ Le k25 k_5) x13 v19_4 0 X16.1 X16.2.1 uv19_4 k25 n29 ⟨ho30, hF16.1, hF16.2, hA25, (Le.refl _)⟩ ⟨rfl, rfl, rfl, rfl, rfl, trivial⟩ (fun w hw => hw.pick [0, 1, 2, 3, 4, 5] (by decide)) ?_ ?_
        · skip
          rintro r17_5 b18c3_5 x67_5 ur17_5 hsr17_5 vb18c3_5 k_5 ⟨rfl, hlr17_5, hgr17_5, hAb18c3_5, hle_5⟩
          refine WQ.then ?_
          refine WC.seq ?_
          refine WC.region ?_
          refine WL.q rfl rfl rfl (QV.move rfl rfl) ?_
          refine WL.q rfl rfl rfl (QV.nilCheck rfl rfl) ?_
          refine WL.q rfl rfl rfl (QV.fieldAddr fd87_2 rfl rfl) ?_
          refine WL.q rfl rfl rfl (QV.load pl52 rfl rfl (Own.cell 1 rfl rfl)) ?_
          refine WL.q rfl rfl rfl (QV.buildS (ps := [(1, .tmp 77)]) (cells := [.slice none 0 0, ur17_5]) (css := [[ur17_5]]) (EvAll.cons rfl rfl EvAll.nil) (CellsAll.cons (SliceLen.cells hlr17_5) CellsAll.nil) (by kernel_rfl)) ?_
          refine WL.effect rfl ?_
          refine (EV.alloc (by decide) ze59 (fun b31 => ?_))
          refine WL.effect rfl ?_
          refine (EV.store 0 rfl rfl rfl rfl rfl rfl (vs := [.slice none 0 0, ur17_5]) (show Value.cells _ = List.toArray _ from rfl) sz59 (Nat.le_of_ble_eq_true rfl) (one_cons rfl (one_cons (SliceLen.one hlr17_5) one_nil)) ?_)
          refine WL.nil ?_
          refine WQ.then ?_
          refine WC.seq ?_
          refine WC.seq ?_
          refine WC.region ?_
          refine WL.q rfl rfl rfl (QV.fieldAddr fd51_2 rfl rfl) ?_
          refine WL.q rfl rfl rfl (QV.load pl48 rfl rfl (Own.cell 6 rfl rfl)) ?_
          refine WL.q rfl rfl rfl (QV.lenS Try.underlying48 rfl rfl (h_l_outs.le (((hle16.trans hle_4).trans hle25).trans hle_5)).lenMap) ?_
          refine WL.q rfl rfl rfl (QV.move rfl rfl) ?_
          refine WL.nil ?_
          refine WQ.then ?_
          refine WK.of (fun w hw => hw.vecNil (E := 2) (sz := 1) (enc := icell)) ?_
          obtain ⟨o33, ho34, hm35⟩ := bd_some hm28; clear hm28; obtain ⟨n36, ho37⟩ := lp_some ho34
          refine WC.bloop3 (H2 := [kn M w.heap.size K0 k_5, blk b18 [v_l_logs, v_l_body, v_l_outs, vb18c3_5, ur17_5] 87, grid ur17_5 hsr17_5 57 2 r17_5, blk b3 [.slice none 0 0, .slice none 0 0] 59, blk b2 [v_s_bef, v_s_mem] 54, blk b1 [v_l_logs, v_l_body, v_l_outs] 51]) (τ := [(6, (true, _)), (8, (true, _)), (14, (true, _)), (80, (true, _)), (81, (true, _))]) (fun (v32_6 : List Int) (x82_6 : Int) (uv32_6 : Value) => [(82, (true, .int .i64 x82_6))]) (fun (v32_6 : List Int) (x82_6 : Int) (uv32_6 : Value) => [vec uv32_6 2 1 (List.map icell v32_6), blk b31 [uv32_6, ur17_5] 59]) (fun (v32_6 : List Int) (x82_6 : Int) (uv32_6 : Value) (m : Nat) => iter (seq_Run_L7 l b18c3_5) m (v32_6, x82_6) = some o33 ∧ SliceLen uv32_6 v32_6.length) (fun (v32_6 : List Int) (x82_6 : Int) (uv32_6 : Value) => o33 = .go (v32_6, x82_6) ∧ SliceLen uv32_6 v32_6.length) [] 0 (.slice none 0 0) n36 ⟨ho37, SliceLen.nil⟩ ⟨rfl, rfl, rfl, rfl, rfl, rfl, trivial⟩ (fun w hw => hw.pick [0, 1, 2, 3, 4, 5, 6, 7] (by decide)) ?_ ?_
          · skip
            rintro v32_6 x82_6 uv32_6 ⟨rfl, hlv32_6⟩
            refine WQ.then ?_
            refine WC.seq ?_
            refine WC.region ?_
            refine WL.q rfl rfl rfl (QV.loadAgg ag59 rfl rfl rfl (Own.cellsBlk 1 rfl)) ?_
            refine WL.effect rfl ?_
            refine (EV.store 5 rfl rfl rfl rfl rfl rfl (vs := [uv32_6, ur17_5]) (show Value.cells _ = List.toArray _ from rfl) sz59 (Nat.le_of_ble_eq_true rfl) (one_cons (SliceLen.one hlv32_6) (one_cons (SliceLen.one hlr17_5) one_nil)) ?_)
            refine WL.q rfl rfl rfl (QV.assign rfl rfl) ?_
            refine WL.nil ?_
            refine WQ.then ?_
            refine WC.ret ?_
            obtain rfl := eq_of_some hm35
            refine WK.of (C' := Own M w [kn M w.heap.size K0 k_5, vec uv32_6 2 1 (List.map icell v32_6), blk b31 [uv32_6, ur17_5] 59, blk b18 [v_l_logs, v_l_body, v_l_outs, vb18c3_5, ur17_5] 87, grid ur17_5 hsr17_5 57 2 r17_5, blk b3 [uv32_6, ur17_5] 59, blk b2 [v_s_bef, v_s_mem] 54, blk b1 [v_l_logs, v_l_body, v_l_outs] 51]) (fun w hw => hw.pick [2, 0, 1, 3, 4, 5, 6, 7] (by decide)) ?_
            refine WK.freeze hk (fun k38 hle38 hr38 => ?_)
            have hA38 := vec_arr hr38
            refine WK.of (C' := Own M w [kn M w.heap.size K0 k38, grid ur17_5 hsr17_5 57 2 r17_5, blk b31 [uv32_6, ur17_5] 59, blk b18 [v_l_logs, v_l_body, v_l_outs, vb18c3_5, ur17_5] 87, blk b3 [uv32_6, ur17_5] 59, blk b2 [v_s_bef, v_s_mem] 54, blk b1 [v_l_logs, v_l_body, v_l_outs] 51]) (fun w hw => hw.pick [0, 3, 1, 2, 4, 5, 6] (by decide)) ?_
            refine WK.freeze hk (fun k39 hle39 hr39 => ?_)
            have hA39 := grid_rows hr39
            refine WQ.retCellTmp rfl ag59 rfl rfl rfl (Own.cellsBlk 3 rfl) (fun w hw => ?_)
            exact ⟨(uv32_6, ur17_5, k39), rfl, hw.pick [0] (by decide), (hA38.le hle39), hA39⟩
          · skip
            rintro v32_6 x82_6 uv32_6 m40 ⟨hI41, hlv32_6⟩
            obtain ⟨m42, s43, rfl, hm44, hn45⟩ := iter_step hI41; clear hI41; unfold seq_Run_L7 at hm44; simp only at hm44
            refine WC.seq ?_
            refine WC.region ?_
            refine WL.q rfl rfl rfl (QV.lss rfl rfl rfl rfl) ?_
            refine WL.nil ?_
            refine WQ.then ?_
            refine WC.seq ?_
            refine WC.cond rfl (fun h46 => ?_) (fun h46 => ?_)
            · skip
              have hm47 := br_t h46 hm44; clear hm44
              refine WC.skip ?_
              refine WQ.then ?_
              refine WC.seq ?_
              refine WC.block ?_
              refine WC.seq ?_
              refine WC.region ?_
              obtain ⟨c48, hm49⟩ := ck_some hm47; clear hm47
              obtain ⟨p50, hp51⟩ := (h_l_outs.le (((hle16.trans hle_4).trans hle25).trans hle_5)).lenMap.ix (sz := 1) ln_len c48
              refine WL.q rfl rfl rfl (QV.indexSlice sl48 rfl rfl rfl rfl hp51) ?_
              refine WL.q rfl rfl rfl (QV.load pl3 rfl rfl (fun w hw => CellsAt.one 0 (((Own.karr 2 rfl hk (h_l_outs.le (((hle16.trans hle_4).trans hle25).trans hle_5))) w hw).ele hp51 c48) rfl)) ?_
              refine WL.q rfl rfl rfl (QV.assign rfl rfl) ?_
              refine WL.nil ?_
              refine WQ.then ?_
              refine WC.dr (m := 15) (S := Own M w [kn M w.heap.size K0 k_5, blk b31 [uv32_6, ur17_5] 59, blk b18 [v_l_logs, v_l_body, v_l_outs, vb18c3_5, ur17_5] 87, grid ur17_5 hsr17_5 57 2 r17_5, blk b3 [.slice none 0 0, .slice none 0 0] 59, blk b2 [v_s_bef, v_s_mem] 54, blk b1 [v_l_logs, v_l_body, v_l_outs] 51]) (by kernel_rfl) (by kernel_rfl) (fun w hw => hw.pick [2, 1, 3, 4, 5, 6, 7] (by decide)) ?_
              refine WD.q 0 rfl (by kernel_rfl) rfl rfl rfl (QV.fieldAddr fd59_0 rfl rfl) ?_
              refine WD.q 1 rfl (by kernel_rfl) rfl rfl rfl (QV.load pl57 rfl rfl (Own.cell 1 rfl rfl)) ?_
              refine WD.q 2 rfl (by kernel_rfl) rfl rfl rfl (QV.move rfl rfl) ?_
              refine WD.q 3 rfl (by kernel_rfl) rfl rfl rfl (QV.nilCheck rfl rfl) ?_
              refine WD.q 4 rfl (by kernel_rfl) rfl rfl rfl (QV.fieldAddr fd87_1 rfl rfl) ?_
              refine WD.q 5 rfl (by kernel_rfl) rfl rfl rfl (QV.load pl52 rfl rfl (Own.cell 2 rfl rfl)) ?_
              obtain ⟨c52, hm53⟩ := ck_some hm49; clear hm49
              obtain ⟨p54, u56, hp55, hc57, hA58⟩ := hAb18c3_5.ix c52
              refine WD.q 6 rfl (by kernel_rfl) rfl rfl rfl (QV.indexSlice sl52 rfl rfl rfl rfl hp55) ?_
              refine WD.q 7 rfl (by kernel_rfl) rfl rfl rfl (QV.load pl57 rfl rfl (fun w hw => CellsAt.one 0 ((Own.kcells 0 rfl hk hc57) w hw) rfl)) ?_
              refine WD.q 8 rfl (by kernel_rfl) rfl rfl rfl (QV.move rfl rfl) ?_
              obtain ⟨c59, hm60⟩ := ck_some hm53; clear hm53
              obtain ⟨p61, hp62⟩ := hA58.lenMap.ix (sz := 1) ln_len c59
              refine WD.q 9 rfl (by kernel_rfl) rfl rfl rfl (QV.indexSlice sl57 rfl rfl rfl rfl hp62) ?_
              refine WD.q 10 rfl (by kernel_rfl) rfl rfl rfl (QV.load pl2 rfl rfl (fun w hw => CellsAt.one 0 (((Own.karr 0 rfl hk hA58) w hw).ele hp62 c59) rfl)) ?_
              refine WD.o 11 rfl (by kernel_rfl) rfl ?_
              refine (EV.buildSlice (by decide) sz_57 (by decide) (by decide) (ps := [(0, .tmp 96)]) (cells := [.int .i64 (ele (ele b18c3_5 0) (ele l.outs x82_6))]) (EvAll.cons rfl rfl EvAll.nil) (by kernel_rfl) (fun b63 => ?_))
              refine WD.b (H' := [kn M w.heap.size K0 k_5, blk b63 [.int .i64 (ele (ele b18c3_5 0) (ele l.outs x82_6))] 2, blk b31 [uv32_6, ur17_5] 59, blk b18 [v_l_logs, v_l_body, v_l_outs, vb18c3_5, ur17_5] 87, grid ur17_5 hsr17_5 57 2 r17_5, blk b3 [.slice none 0 0, .slice none 0 0] 59, blk b2 [v_s_bef, v_s_mem] 54, blk b1 [v_l_logs, v_l_body, v_l_outs] 51]) (fun w hw => hw.pick [3, 0, 2, 4, 5, 6, 7, 8] (by decide)) (fun w hw => hw.pick [0, 2, 3, 4, 5, 6, 7] (by decide)) ?_
              refine WD.o 12 rfl (by kernel_rfl) rfl ?_
              obtain ⟨c64, hm65⟩ := ck_some hm60; clear hm60
              refine (EV.appendL (enc := icell) (xs := v32_6) (ys := [(ele (ele b18c3_5 0) (ele l.outs x82_6))]) ((v32_6 ++ [(ele (ele b18c3_5 0) (ele l.outs x82_6))])) 1 (by decide) ve57 rfl rfl rfl rfl rfl (Own.blkArr 0 (rows := [(ele (ele b18c3_5 0) (ele l.outs x82_6))].map icell) rfl rfl (rows_len icell_len)) icell_len (icell_one _) rfl c64.1 c64.2 (fun u66 hu67 => ?_))
              refine WD.b (H' := [kn M w.heap.size K0 k_5, blk b63 [.int .i64 (ele (ele b18c3_5 0) (ele l.outs x82_6))] 2, vec u66 2 1 (List.map icell (v32_6 ++ [(ele (ele b18c3_5 0) (ele l.outs x82_6))])), blk b31 [uv32_6, ur17_5] 59, blk b18 [v_l_logs, v_l_body, v_l_outs, vb18c3_5, ur17_5] 87, grid ur17_5 hsr17_5 57 2 r17_5, blk b3 [.slice none 0 0, .slice none 0 0] 59, blk b2 [v_s_bef, v_s_mem] 54, blk b1 [v_l_logs, v_l_body, v_l_outs] 51]) (fun w hw => hw.pick [3, 0, 1, 2, 4, 5, 6, 7, 8] (by decide)) (fun w hw => hw.pick [0, 1, 3, 4, 5, 6, 7, 8] (by decide)) ?_
              refine WD.q 13 rfl (by kernel_rfl) rfl rfl rfl (QV.fieldAddr fd59_0 rfl rfl) ?_
              refine WD.l 14 rfl (by kernel_rfl) rfl ?_
              refine (EV.store 2 rfl rfl rfl rfl rfl rfl (vs := [u66]) (SliceLen.cells hu67) sz57 (Nat.le_of_ble_eq_true rfl) (one_cons (SliceLen.one hu67) one_nil) ?_)
              refine WQ.block ?_
              refine WQ.then ?_
              refine WC.region ?_
              obtain ⟨c68, hm69⟩ := ck_some hm65; clear hm65
              refine WL.q rfl rfl rfl (QV.add rfl rfl rfl rfl c68) ?_
              refine WL.q rfl rfl rfl (QV.move rfl rfl) ?_
              refine WL.nil ?_
              exact WQ.again3 (v32_6 ++ [(ele (ele b18c3_5 0) (ele l.outs x82_6))]) (x82_6 + 1) u66 m42 ⟨up_next hm69 hn45, hu67⟩ (Nat.lt_succ_self _) ⟨rfl, rfl, rfl, rfl, rfl, rfl, trivial⟩ (fun w hw => hw.pick [1, 2, 3, 4, 5, 6, 7, 8] (by decide))
            · skip
              have hm70 := br_f h46 hm44; clear hm44
              refine WC.exit ?_
              refine WQ.then_exit ?_
              refine WQ.then_exit ?_
              refine WQ.block_exit ?_
              exact WQ.out3 v32_6 x82_6 uv32_6 ⟨up_brk hm70 hn45, hlv32_6⟩ ⟨rfl, rfl, rfl, rfl, rfl, rfl, trivial⟩ (fun w hw => hw.pick [0, 1, 2, 3, 4, 5, 6, 7] (by decide))
        · skip
          rintro r17_5 b18c3_5 x67_5 ur17_5 hsr17_5 vb18c3_5 k_5 m71 ⟨hI72, hlr17_5, hgr17_5, hAb18c3_5, hle_5⟩
          obtain ⟨m73, s74, rfl, hm75, hn76⟩ := iter_step hI72; clear hI72; unfold seq_Run_L5 at hm75; simp only at hm75
          refine WC.seq ?_
          refine WC.region ?_
          refine WL.q rfl rfl rfl (QV.lss rfl rfl rfl rfl) ?_
          refine WL.nil ?_
          refine WQ.then ?_
          refine WC.seq ?_
          refine WC.cond rfl (fun h77 => ?_) (fun h77 => ?_)
          · skip
            have hm78 := br_t h77 hm75; clear hm75
            refine WC.skip ?_
            refine WQ.then ?_
            refine WC.seq ?_
            refine WC.block ?_
            refine WC.seq ?_
            refine WC.region ?_
            refine WL.q rfl rfl rfl (QV.move rfl rfl) ?_
            refine WL.q rfl rfl rfl (QV.assign rfl rfl) ?_
            refine WL.nil ?_
            refine WQ.then ?_
            refine WC.region ?_
            refine WL.q rfl rfl rfl (QV.move rfl rfl) ?_
            refine WL.q rfl rfl rfl (QV.move rfl rfl) ?_
            refine WL.effect rfl ?_
            obtain ⟨x79, hx80, hm81⟩ := bd_some hm78; clear hm78
            refine (EV.callR (X := Value × Value × (List Value) × World) (R := [blk b18 [v_l_logs, v_l_body, v_l_outs, vb18c3_5, ur17_5] 87, grid ur17_5 hsr17_5 57 2 r17_5]) (fun X => .tuple #[]) (fun X => [blk b18 [v_l_logs, v_l_body, v_l_outs, X.1, X.2.1] 87, grid X.2.1 X.2.2.1 57 2 x79.2]) (fun X => X.2.2.2) (fun X => RowsA X.2.2.2 X.1 x79.1 ∧ SliceLen X.2.1 (x79.2).length ∧ GL X.2.2.1 x79.2) hk (fun _ h => by cases h; decide) en53 (EvAll.cons rfl rfl (EvAll.cons rfl rfl EvAll.nil)) (fun M w h1 h2 => have h := seq_runner_turn_w hx80 (h_l_logs.le (((hle16.trans hle_4).trans hle25).trans hle_5)) (h_l_body.le (((hle16.trans hle_4).trans hle25).trans hle_5)) (h_l_outs.le (((hle16.trans hle_4).trans hle25).trans hle_5)) hAb18c3_5 hlr17_5 hgr17_5 M w h1 h2; h) (fun X82 hF82 hle82 => ?_))
            refine WL.nil ?_
            refine WQ.block ?_
            refine WQ.then ?_
            refine WC.region ?_
            obtain ⟨c83, hm84⟩ := ck_some hm81; clear hm81
            refine WL.q rfl rfl rfl (QV.add rfl rfl rfl rfl c83) ?_
            refine WL.q rfl rfl rfl (QV.move rfl rfl) ?_
            refine WL.nil ?_
            exact WQ.again7 x79.2 x79.1 (x67_5 + 1) X82.2.1 X82.2.2.1 X82.1 X82.2.2.2 m73 ⟨up_next hm84 hn76, hF82.2.1, hF82.2.2, hF82.1, (hle_5.trans hle82)⟩ (Nat.lt_succ_self _) ⟨rfl, rfl, rfl, rfl, rfl, trivial⟩ (fun w hw => hw.pick [0, 1, 2, 3, 4, 5] (by decide))
          · skip
            have hm85 := br_f h77 hm75; clear hm75
            refine WC.exit ?_
            refine WQ.then_exit ?_
            refine WQ.then_exit ?_
            refine WQ.block_exit ?_
            exact WQ.out7 r17_5 b18c3_5 x67_5 ur17_5 hsr17_5 vb18c3_5 k_5 ⟨up_brk hm85 hn76, hlr17_5, hgr17_5, hAb18c3_5, hle_5⟩ ⟨rfl, rfl, rfl, rfl, rfl, trivial⟩ (fun w hw => hw.pick [0, 1, 2, 3, 4, 5] (by decide))
      · skip
        rintro v19_4 x37_4 uv19_4 Bv19_4 k_4 m86 ⟨hI87, hlv19_4, hBv19_4, hRv19_4, hle_4⟩
        obtain ⟨m88, s89, rfl, hm90, hn91⟩ := iter_step hI87; clear hI87; unfold seq_Run_L1 at hm90; simp only at hm90
        refine WC.seq ?_
        refine WC.region ?_
        refine WL.q rfl rfl rfl (QV.lss rfl rfl rfl rfl) ?_
        refine WL.nil ?_
        refine WQ.then ?_
        refine WC.seq ?_
        refine WC.cond rfl (fun h92 => ?_) (fun h92 => ?_)
        · skip
          have hm93 := br_t h92 hm90; clear hm90
          refine WC.skip ?_
          refine WQ.then ?_
          refine WC.seq ?_
          refine WC.block ?_
          refine WC.seq ?_
          refine WC.region ?_
          refine WL.q rfl rfl rfl (QV.move rfl rfl) ?_
          refine WL.q rfl rfl rfl (QV.assign rfl rfl) ?_
          refine WL.nil ?_
          refine WQ.then ?_
          refine WC.seq ?_
          refine WC.region ?_
          refine WL.q rfl rfl rfl (QV.assign rfl rfl) ?_
          refine WL.nil ?_
          refine WQ.then ?_
          refine WC.seq ?_
          refine WC.seq ?_
          refine WC.region ?_
          refine WL.q rfl rfl rfl (QV.fieldAddr fd54_0 rfl rfl) ?_
          refine WL.q rfl rfl rfl (QV.load pl52 rfl rfl (Own.cell 5 rfl rfl)) ?_
          refine WL.q rfl rfl rfl (QV.lenS Try.underlying52 rfl rfl (h_s_bef.le (hle16.trans hle_4)).slen) ?_
          refine WL.q rfl rfl rfl (QV.move rfl rfl) ?_
          refine WL.nil ?_
          refine WQ.then ?_
          refine WK.of (fun w hw => hw.vecNil (E := 2) (sz := 1) (enc := icell)) ?_
          obtain ⟨o95, ho96, hm97⟩ := bd_some hm93; clear hm93; obtain ⟨n98, ho99⟩ := lp_some ho96
          refine WC.bloop3 (H2 := [vec uv19_4 57 1 (List.map vcell Bv19_4), blk b18 [v_l_logs, v_l_body, v_l_outs, uv19_4, X16.1] 87, kn M w.heap.size K0 k_4, grid X16.1 X16.2.1 57 2 x13, blk b3 [.slice none 0 0, .slice none 0 0] 59, blk b2 [v_s_bef, v_s_mem] 54, blk b1 [v_l_logs, v_l_body, v_l_outs] 51]) (τ := [(2, (true, _)), (3, (true, _)), (4, (true, _)), (6, (true, _)), (8, (true, _)), (9, (true, _)), (37, (true, _)), (41, (true, _)), (42, (true, _))]) (fun (v94_7 : List Int) (x43_7 : Int) (uv94_7 : Value) => [(10, (true, uv94_7)), (43, (true, .int .i64 x43_7))]) (fun (v94_7 : List Int) (x43_7 : Int) (uv94_7 : Value) => [vec uv94_7 2 1 (List.map icell v94_7)]) (fun (v94_7 : List Int) (x43_7 : Int) (uv94_7 : Value) (m : Nat) => iter (seq_Run_L3 s x37_4) m (v94_7, x43_7) = some o95 ∧ SliceLen uv94_7 v94_7.length) (fun (v94_7 : List Int) (x43_7 : Int) (uv94_7 : Value) => o95 = .go (v94_7, x43_7) ∧ SliceLen uv94_7 v94_7.length) [] 0 (.slice none 0 0) n98 ⟨ho99, SliceLen.nil⟩ ⟨rfl, rfl, rfl, rfl, rfl, rfl, rfl, rfl, rfl, rfl, rfl, trivial⟩ (fun w hw => hw.pick [0, 1, 2, 3, 4, 5, 6, 7] (by decide)) ?_ ?_
          · skip
            rintro v94_7 x43_7 uv94_7 ⟨rfl, hlv94_7⟩
            refine WQ.then ?_
            refine WC.region ?_
            refine WL.q rfl rfl rfl (QV.move rfl rfl) ?_
            refine WL.q rfl rfl rfl (QV.move rfl rfl) ?_
            refine WL.q rfl rfl rfl (QV.nilCheck rfl rfl) ?_
            refine WL.q rfl rfl rfl (QV.fieldAddr fd87_1 rfl rfl) ?_
            refine WL.q rfl rfl rfl (QV.load pl52 rfl rfl (Own.cell 2 rfl rfl)) ?_
            refine WL.q rfl rfl rfl (QV.move rfl rfl) ?_
            refine WL.effect rfl ?_
            refine (EV.buildSlice (by decide) sz_52 (by decide) (by decide) (ps := [(0, .tmp 60)]) (cells := [uv94_7]) (EvAll.cons rfl rfl EvAll.nil) (filled1 hlv94_7) (fun b100 => ?_))
            refine WL.effect rfl ?_
            refine EV.of (C' := Own M w [kn M w.heap.size K0 k_4, vec uv94_7 2 1 (List.map icell v94_7), blk b100 [uv94_7] 57, vec uv19_4 57 1 (List.map vcell Bv19_4), blk b18 [v_l_logs, v_l_body, v_l_outs, uv19_4, X16.1] 87, grid X16.1 X16.2.1 57 2 x13, blk b3 [.slice none 0 0, .slice none 0 0] 59, blk b2 [v_s_bef, v_s_mem] 54, blk b1 [v_l_logs, v_l_body, v_l_outs] 51]) (fun w hw => hw.pick [4, 1, 0, 2, 3, 5, 6, 7, 8] (by decide)) ?_
            refine EV.freeze hk (fun k101 hle101 hr101 => ?_)
            have hA101 := vec_arr hr101
            obtain ⟨c102, hm103⟩ := ck_some hm97; clear hm97
            have hR106 : RowsK k101 (Bv19_4 ++ [(uv94_7, v94_7)]) := rows_snoc (hRv19_4.le hle101) hA101
            have hB107 : ((Bv19_4 ++ [(uv94_7, v94_7)]) : List (Value × List Int)).map (·.2) = (v19_4 ++ [v94_7]) := rows_map hBv19_4
            refine (EV.appendL (enc := vcell) (xs := Bv19_4) (ys := [(uv94_7, v94_7)]) (Bv19_4 ++ [(uv94_7, v94_7)]) 2 (by decide) ve52 rfl rfl rfl rfl rfl (Own.blkArr 1 (rows := [(uv94_7, v94_7)].map vcell) rfl rfl (rows_len vcell_len)) vcell_len (one_row hA101.lenMap) rfl (AL.b1 hB107 c102) (AL.b2 hB107 c102) (fun u104 hu105 => ?_))
            have hl108 := slen_map hB107 hu105
            refine WL.q rfl rfl rfl (QV.nilCheck rfl rfl) ?_
            refine WL.q rfl rfl rfl (QV.fieldAddr fd87_1 rfl rfl) ?_
            refine WL.effect rfl ?_
            refine (EV.store 3 rfl rfl rfl rfl rfl rfl (vs := [u104]) (SliceLen.cells hl108) sz52 (Nat.le_of_ble_eq_true rfl) (one_cons (SliceLen.one hl108) one_nil) ?_)
            refine WL.nil ?_
            refine WQ.block ?_
            refine WQ.then ?_
            refine WC.region ?_
            obtain ⟨c109, hm110⟩ := ck_some hm103; clear hm103
            refine WL.q rfl rfl rfl (QV.add rfl rfl rfl rfl c109) ?_
            refine WL.q rfl rfl rfl (QV.move rfl rfl) ?_
            refine WL.nil ?_
            exact WQ.again5 (v19_4 ++ [v94_7]) (x37_4 + 1) u104 (Bv19_4 ++ [(uv94_7, v94_7)]) k101 m88 ⟨up_next hm110 hn91, hl108, hB107, hR106, (hle_4.trans hle101)⟩ (Nat.lt_succ_self _) ⟨rfl, rfl, rfl, rfl, rfl, rfl, trivial⟩ (fun w hw => hw.pick [2, 3, 0, 4, 5, 6, 7] (by decide))
          · skip
            rintro v94_7 x43_7 uv94_7 m111 ⟨hI112, hlv94_7⟩
            obtain ⟨m113, s114, rfl, hm115, hn116⟩ := iter_step hI112; clear hI112; unfold seq_Run_L3 at hm115; simp only at hm115
            refine WC.seq ?_
            refine WC.region ?_
            refine WL.q rfl rfl rfl (QV.lss rfl rfl rfl rfl) ?_
            refine WL.nil ?_
            refine WQ.then ?_
            refine WC.seq ?_
            refine WC.cond rfl (fun h117 => ?_) (fun h117 => ?_)
            · skip
              have hm118 := br_t h117 hm115; clear hm115
              refine WC.skip ?_
              refine WQ.then ?_
              refine WC.seq ?_
              refine WC.block ?_
              refine WC.seq ?_
              refine WC.region ?_
              obtain ⟨c119, hm120⟩ := ck_some hm118; clear hm118
              obtain ⟨p121, u123, hp122, hc124, hA125⟩ := (h_s_bef.le (hle16.trans hle_4)).ix c119
              refine WL.q rfl rfl rfl (QV.indexSlice sl52 rfl rfl rfl rfl hp122) ?_
              refine WL.q rfl rfl rfl (QV.load pl57 rfl rfl (fun w hw => CellsAt.one 0 ((Own.kcells 3 rfl hk hc124) w hw) rfl)) ?_
              refine WL.q rfl rfl rfl (QV.assign rfl rfl) ?_
              refine WL.nil ?_
              refine WQ.then ?_
              refine WC.region ?_
              refine WL.q rfl rfl rfl (QV.move rfl rfl) ?_
              refine WL.q rfl rfl rfl (QV.move rfl rfl) ?_
              refine WL.q rfl rfl rfl (QV.move rfl rfl) ?_
              obtain ⟨c126, hm127⟩ := ck_some hm120; clear hm120
              obtain ⟨p128, hp129⟩ := hA125.lenMap.ix (sz := 1) ln_len c126
              refine WL.q rfl rfl rfl (QV.indexSlice sl57 rfl rfl rfl rfl hp129) ?_
              refine WL.q rfl rfl rfl (QV.load pl2 rfl rfl (fun w hw => CellsAt.one 0 (((Own.karr 3 rfl hk hA125) w hw).ele hp129 c126) rfl)) ?_
              refine WL.effect rfl ?_
              refine (EV.buildSlice (by decide) sz_57 (by decide) (by decide) (ps := [(0, .tmp 51)]) (cells := [.int .i64 (ele (ele s.bef x43_7) x37_4)]) (EvAll.cons rfl rfl EvAll.nil) (by kernel_rfl) (fun b130 => ?_))
              refine WL.effect rfl ?_
              obtain ⟨c131, hm132⟩ := ck_some hm127; clear hm127
              refine (EV.appendL (enc := icell) (xs := v94_7) (ys := [(ele (ele s.bef x43_7) x37_4)]) ((v94_7 ++ [(ele (ele s.bef x43_7) x37_4)])) 1 (by decide) ve57 rfl rfl rfl rfl rfl (Own.blkArr 0 (rows := [(ele (ele s.bef x43_7) x37_4)].map icell) rfl rfl (rows_len icell_len)) icell_len (icell_one _) rfl c131.1 c131.2 (fun u133 hu134 => ?_))
              refine WL.q rfl rfl rfl (QV.assign rfl rfl) ?_
              refine WL.nil ?_
              refine WQ.block ?_
              refine WQ.then ?_
              refine WC.region ?_
              obtain ⟨c135, hm136⟩ := ck_some hm132; clear hm132
              refine WL.q rfl rfl rfl (QV.add rfl rfl rfl rfl c135) ?_
              refine WL.q rfl rfl rfl (QV.move rfl rfl) ?_
              refine WL.nil ?_
              exact WQ.again3 (v94_7 ++ [(ele (ele s.bef x43_7) x37_4)]) (x43_7 + 1) u133 m113 ⟨up_next hm136 hn116, hu134⟩ (Nat.lt_succ_self _) ⟨rfl, rfl, rfl, rfl, rfl, rfl, rfl, rfl, rfl, rfl, rfl, trivial⟩ (fun w hw => hw.pick [1, 2, 3, 4, 5, 6, 7, 8] (by decide))
            · skip
              have hm137 := br_f h117 hm115; clear hm115
              refine WC.exit ?_
              refine WQ.then_exit ?_
              refine WQ.then_exit ?_
              refine WQ.block_exit ?_
              exact WQ.out3 v94_7 x43_7 uv94_7 ⟨up_brk hm137 hn116, hlv94_7⟩ ⟨rfl, rfl, rfl, rfl, rfl, rfl, rfl, rfl, rfl, rfl, rfl, trivial⟩ (fun w hw => hw.pick [0, 1, 2, 3, 4, 5, 6, 7] (by decide))
        · skip
          have hm138 := br_f h92 hm90; clear hm90
          refine WC.exit ?_
          refine WQ.then_exit ?_
          refine WQ.then_exit ?_
          refine WQ.block_exit ?_
          exact WQ.out5 v19_4 x37_4 uv19_4 Bv19_4 k_4 ⟨up_brk hm138 hn91, hlv19_4, hBv19_4, hRv19_4, hle_4⟩ ⟨rfl, rfl, rfl, rfl, rfl, rfl, trivial⟩ (fun w hw => hw.pick [0, 1, 2, 3, 4, 5, 6] (by decide))

set_option maxRecDepth 8000 in
theorem roundelayref3_Numbers_w {v_a : Value} {v_b : Value} {a : List Int} {b : List Int} {r : Bool} (w : World) (hm : roundelayref3_Numbers_m a b = some r) (h_a : Arr w v_a 1 (a.map icell)) (h_b : Arr w v_b 1 (b.map icell)) : Calls Try.prog 54 #[v_a, v_b] w (fun e w' => e = .returned (.bool r) ∧ Grow w w') := by
  unfold roundelayref3_Numbers_m at hm
  have hk := Base.rfl (w := w)
  refine calls_of_WC (n := 26) (args := [v_a, v_b]) Try.func54 rfl rfl (Nat.le_of_ble_eq_true rfl) ?_ (Own.startK hk (Own.start w))
  refine WC.seq ?_
  refine WC.region ?_
  refine WL.q rfl rfl rfl (QV.assign rfl rfl) ?_
  refine WL.nil ?_
  refine WQ.then ?_
  refine WC.seq ?_
  refine WC.seq ?_
  refine WC.region ?_
  refine WL.q rfl rfl rfl (QV.move rfl rfl) ?_
  refine WL.q rfl rfl rfl (QV.lenS Try.underlying57 rfl rfl h_a.lenMap) ?_
  refine WL.q rfl rfl rfl (QV.move rfl rfl) ?_
  refine WL.q rfl rfl rfl (QV.lenS Try.underlying57 rfl rfl h_b.lenMap) ?_
  refine WL.q rfl rfl rfl (QV.neq rfl rfl rfl rfl) ?_
  refine WL.nil ?_
  refine WQ.then ?_
  refine WC.cond rfl (fun h1 => ?_) (fun h1 => ?_)
  · skip
    have hm2 := br_t h1 hm; clear hm
    refine WC.seq ?_
    refine WC.region ?_
    refine WL.q rfl rfl rfl (QV.assign rfl rfl) ?_
    refine WL.nil ?_
    refine WQ.then ?_
    refine WC.ret ?_
    refine WQ.then_ret ?_
    obtain rfl := eq_of_some hm2
    refine WQ.ret1 rfl rfl (fun w hw => ?_)
    exact ⟨rfl, Own.kgrow (fun _ x => x) hw⟩
  · skip
    have hm3 := br_f h1 hm; clear hm
    refine WC.skip ?_
    refine WQ.then ?_
    refine WC.seq ?_
    refine WC.seq ?_
    refine WC.region ?_
    refine WL.q rfl rfl rfl (QV.assign rfl rfl) ?_
    refine WL.nil ?_
    refine WQ.then ?_
    obtain ⟨o4, ho5, hm6⟩ := bd_some hm3; clear hm3; obtain ⟨n7, ho8⟩ := lp_some ho5
    refine WC.bloop1 (H2 := [kn noM w.heap.size w w]) (τ := [(0, (true, _)), (1, (true, _))]) (fun (i5_1 : Int) => [(5, (true, .int .i64 i5_1))]) (fun (i5_1 : Int) => []) (fun (i5_1 : Int) (m : Nat) => iter (roundelayref3_Numbers_L0 a b) m i5_1 = some o4) (fun (i5_1 : Int) => o4 = .go i5_1) 0 n7 ho8 ⟨rfl, rfl, rfl, trivial⟩ (fun w hw => hw.pick [0] (by decide)) ?_ ?_
    · skip
      rintro i5_1 rfl
      refine WQ.then ?_
      refine WC.seq ?_
      refine WC.region ?_
      refine WL.q rfl rfl rfl (QV.assign rfl rfl) ?_
      refine WL.nil ?_
      refine WQ.then ?_
      refine WC.ret ?_
      obtain rfl := eq_of_some hm6
      refine WQ.ret1 rfl rfl (fun w hw => ?_)
      exact ⟨rfl, Own.kgrow (fun _ x => x) hw⟩
    · skip
      rintro i5_1 m9 hI10
      obtain ⟨m11, s12, rfl, hm13, hn14⟩ := iter_step hI10; clear hI10; unfold roundelayref3_Numbers_L0 at hm13
      refine WC.seq ?_
      refine WC.seq ?_
      refine WC.region ?_
      refine WL.q rfl rfl rfl (QV.move rfl rfl) ?_
      refine WL.q rfl rfl rfl (QV.move rfl rfl) ?_
      refine WL.q rfl rfl rfl (QV.lenS Try.underlying57 rfl rfl h_a.lenMap) ?_
      refine WL.q rfl rfl rfl (QV.lss rfl rfl rfl rfl) ?_
      refine WL.nil ?_
      refine WQ.then ?_
      refine WC.cond rfl (fun h15 => ?_) (fun h15 => ?_)
      · skip
        have hm16 := br_t h15 hm13; clear hm13
        refine WC.skip ?_
        refine WQ.then ?_
        refine WC.seq ?_
        refine WC.block ?_
        refine WC.seq ?_
        refine WC.dr (m := 9) (by kernel_rfl) (by kernel_rfl) (fun w hw => hw) ?_
        refine WD.q 0 rfl (by kernel_rfl) rfl rfl rfl (QV.move rfl rfl) ?_
        refine WD.q 1 rfl (by kernel_rfl) rfl rfl rfl (QV.move rfl rfl) ?_
        obtain ⟨c17, hm18⟩ := ck_some hm16; clear hm16
        obtain ⟨p19, hp20⟩ := h_a.lenMap.ix (sz := 1) ln_len c17
        refine WD.q 2 rfl (by kernel_rfl) rfl rfl rfl (QV.indexSlice sl57 rfl rfl rfl rfl hp20) ?_
        refine WD.q 3 rfl (by kernel_rfl) rfl rfl rfl (QV.load pl2 rfl rfl (fun w hw => CellsAt.one 0 (((Own.karr 0 rfl hk h_a) w hw).ele hp20 c17) rfl)) ?_
        refine WD.q 4 rfl (by kernel_rfl) rfl rfl rfl (QV.move rfl rfl) ?_
        refine WD.q 5 rfl (by kernel_rfl) rfl rfl rfl (QV.move rfl rfl) ?_
        obtain ⟨c21, hm22⟩ := ck_some hm18; clear hm18
        obtain ⟨p23, hp24⟩ := h_b.lenMap.ix (sz := 1) ln_len c21
        refine WD.q 6 rfl (by kernel_rfl) rfl rfl rfl (QV.indexSlice sl57 rfl rfl rfl rfl hp24) ?_
        refine WD.q 7 rfl (by kernel_rfl) rfl rfl rfl (QV.load pl2 rfl rfl (fun w hw => CellsAt.one 0 (((Own.karr 0 rfl hk h_b) w hw).ele hp24 c21) rfl)) ?_
        refine WD.q 8 rfl (by kernel_rfl) rfl rfl rfl (QV.neq rfl rfl rfl rfl) ?_
        refine WD.e (by kernel_rfl) ?_
        refine WQ.then ?_
        refine WC.cond rfl (fun h25 => ?_) (fun h25 => ?_)
        · skip
          have hm26 := br_t h25 hm22; clear hm22
          refine WC.seq ?_
          refine WC.region ?_
          refine WL.q rfl rfl rfl (QV.assign rfl rfl) ?_
          refine WL.nil ?_
          refine WQ.then ?_
          refine WC.ret ?_
          refine WQ.block_ret ?_
          refine WQ.then_ret ?_
          refine WQ.then_ret ?_
          refine WQ.block_ret ?_
          refine WQ.then_ret ?_
          refine WQ.then_ret ?_
          obtain rfl := up_ret hm26 hn14
          obtain rfl := eq_of_some hm6
          refine WQ.ret1 rfl rfl (fun w hw => ?_)
          exact ⟨rfl, Own.kgrow (fun _ x => x) hw⟩
        · skip
          have hm27 := br_f h25 hm22; clear hm22
          refine WC.skip ?_
          refine WQ.block ?_
          refine WQ.then ?_
          refine WC.region ?_
          refine WL.q rfl rfl rfl (QV.move rfl rfl) ?_
          obtain ⟨c28, hm29⟩ := ck_some hm27; clear hm27
          refine WL.q rfl rfl rfl (QV.add rfl rfl rfl rfl c28) ?_
          refine WL.q rfl rfl rfl (QV.assign rfl rfl) ?_
          refine WL.nil ?_
          exact WQ.again1 (i5_1 + 1) m11 (up_next hm29 hn14) (Nat.lt_succ_self _) ⟨rfl, rfl, rfl, trivial⟩ (fun w hw => hw.pick [0] (by decide))
      · skip
        have hm30 := br_f h15 hm13; clear hm13
        refine WC.exit ?_
        refine WQ.then_exit ?_
        refine WQ.then_exit ?_
        refine WQ.block_exit ?_
        exact WQ.out1 i5_1 (up_brk hm30 hn14) ⟨rfl, rfl, rfl, trivial⟩ (fun w hw => hw.pick [0] (by decide))

set_option maxRecDepth 8000 in
theorem roundelayref3_Words_w {v_a : Value} {v_b : Value} {a : List (List Int)} {b : List (List Int)} {r : Bool} (w : World) (hm : roundelayref3_Words_m a b = some r) (h_a : RowsA w v_a a) (h_b : RowsA w v_b b) : Calls Try.prog 36 #[v_a, v_b] w (fun e w' => e = .returned (.bool r) ∧ Grow w w') := by
  unfold roundelayref3_Words_m at hm
  have hk := Base.rfl (w := w)
  refine calls_of_WC (n := 27) (args := [v_a, v_b]) Try.func36 rfl rfl (Nat.le_of_ble_eq_true rfl) ?_ (Own.startK hk (Own.start w))
  refine WC.seq ?_
  refine WC.region ?_
  refine WL.q rfl rfl rfl (QV.assign rfl rfl) ?_
  refine WL.nil ?_
  refine WQ.then ?_
  refine WC.seq ?_
  refine WC.seq ?_
  refine WC.region ?_
  refine WL.q rfl rfl rfl (QV.move rfl rfl) ?_
  refine WL.q rfl rfl rfl (QV.lenS Try.underlying52 rfl rfl h_a.slen) ?_
  refine WL.q rfl rfl rfl (QV.move rfl rfl) ?_
  refine WL.q rfl rfl rfl (QV.lenS Try.underlying52 rfl rfl h_b.slen) ?_
  refine WL.q rfl rfl rfl (QV.neq rfl rfl rfl rfl) ?_
  refine WL.nil ?_
  refine WQ.then ?_
  refine WC.cond rfl (fun h1 => ?_) (fun h1 => ?_)
  · skip
    have hm2 := br_t h1 hm; clear hm
    refine WC.seq ?_
    refine WC.region ?_
    refine WL.q rfl rfl rfl (QV.assign rfl rfl) ?_
    refine WL.nil ?_
    refine WQ.then ?_
    refine WC.ret ?_
    refine WQ.then_ret ?_
    obtain rfl := eq_of_some hm2
    refine WQ.ret1 rfl rfl (fun w hw => ?_)
    exact ⟨rfl, Own.kgrow (fun _ x => x) hw⟩
  · skip
    have hm3 := br_f h1 hm; clear hm
    refine WC.skip ?_
    refine WQ.then ?_
    refine WC.seq ?_
    refine WC.seq ?_
    refine WC.region ?_
    refine WL.q rfl rfl rfl (QV.assign rfl rfl) ?_
    refine WL.nil ?_
    refine WQ.then ?_
    obtain ⟨o4, ho5, hm6⟩ := bd_some hm3; clear hm3; obtain ⟨n7, ho8⟩ := lp_some ho5
    refine WC.bloop1 (H2 := [kn noM w.heap.size w w]) (τ := [(0, (true, _)), (1, (true, _))]) (fun (i5_1 : Int) => [(5, (true, .int .i64 i5_1))]) (fun (i5_1 : Int) => []) (fun (i5_1 : Int) (m : Nat) => iter (roundelayref3_Words_L0 a b) m i5_1 = some o4) (fun (i5_1 : Int) => o4 = .go i5_1) 0 n7 ho8 ⟨rfl, rfl, rfl, trivial⟩ (fun w hw => hw.pick [0] (by decide)) ?_ ?_
    · skip
      rintro i5_1 rfl
      refine WQ.then ?_
      refine WC.seq ?_
      refine WC.region ?_
      refine WL.q rfl rfl rfl (QV.assign rfl rfl) ?_
      refine WL.nil ?_
      refine WQ.then ?_
      refine WC.ret ?_
      obtain rfl := eq_of_some hm6
      refine WQ.ret1 rfl rfl (fun w hw => ?_)
      exact ⟨rfl, Own.kgrow (fun _ x => x) hw⟩
    · skip
      rintro i5_1 m9 hI10
      obtain ⟨m11, s12, rfl, hm13, hn14⟩ := iter_step hI10; clear hI10; unfold roundelayref3_Words_L0 at hm13
      refine WC.seq ?_
      refine WC.seq ?_
      refine WC.region ?_
      refine WL.q rfl rfl rfl (QV.move rfl rfl) ?_
      refine WL.q rfl rfl rfl (QV.move rfl rfl) ?_
      refine WL.q rfl rfl rfl (QV.lenS Try.underlying52 rfl rfl h_a.slen) ?_
      refine WL.q rfl rfl rfl (QV.lss rfl rfl rfl rfl) ?_
      refine WL.nil ?_
      refine WQ.then ?_
      refine WC.cond rfl (fun h15 => ?_) (fun h15 => ?_)
      · skip
        have hm16 := br_t h15 hm13; clear hm13
        refine WC.skip ?_
        refine WQ.then ?_
        refine WC.seq ?_
        refine WC.block ?_
        refine WC.seq ?_
        refine WC.dr (m := 10) (by kernel_rfl) (by kernel_rfl) (fun w hw => hw) ?_
        refine WD.q 0 rfl (by kernel_rfl) rfl rfl rfl (QV.move rfl rfl) ?_
        refine WD.q 1 rfl (by kernel_rfl) rfl rfl rfl (QV.move rfl rfl) ?_
        obtain ⟨c17, hm18⟩ := ck_some hm16; clear hm16
        obtain ⟨p19, u21, hp20, hc22, hA23⟩ := h_a.ix c17
        refine WD.q 2 rfl (by kernel_rfl) rfl rfl rfl (QV.indexSlice sl52 rfl rfl rfl rfl hp20) ?_
        refine WD.q 3 rfl (by kernel_rfl) rfl rfl rfl (QV.load pl57 rfl rfl (fun w hw => CellsAt.one 0 ((Own.kcells 0 rfl hk hc22) w hw) rfl)) ?_
        refine WD.q 4 rfl (by kernel_rfl) rfl rfl rfl (QV.move rfl rfl) ?_
        refine WD.q 5 rfl (by kernel_rfl) rfl rfl rfl (QV.move rfl rfl) ?_
        obtain ⟨c24, hm25⟩ := ck_some hm18; clear hm18
        obtain ⟨p26, u28, hp27, hc29, hA30⟩ := h_b.ix c24
        refine WD.q 6 rfl (by kernel_rfl) rfl rfl rfl (QV.indexSlice sl52 rfl rfl rfl rfl hp27) ?_
        refine WD.q 7 rfl (by kernel_rfl) rfl rfl rfl (QV.load pl57 rfl rfl (fun w hw => CellsAt.one 0 ((Own.kcells 0 rfl hk hc29) w hw) rfl)) ?_
        obtain ⟨x31, hx32, hm33⟩ := bd_some hm25; clear hm25
        refine WD.q 8 rfl (by kernel_rfl) rfl rfl rfl (QV.call en54 (EvAll.cons rfl rfl (EvAll.cons rfl rfl EvAll.nil)) (fun w hw => have h := roundelayref3_Numbers_w w hx32 ((Own.karr 0 rfl hk hA23) w hw) ((Own.karr 0 rfl hk hA30) w hw); h)) ?_
        refine WD.q 9 rfl (by kernel_rfl) rfl rfl rfl (QV.not rfl rfl) ?_
        refine WD.e (by kernel_rfl) ?_
        refine WQ.then ?_
        refine WC.cond rfl (fun h34 => ?_) (fun h34 => ?_)
        · skip
          have hm35 := br_t h34 hm33; clear hm33
          refine WC.seq ?_
          refine WC.region ?_
          refine WL.q rfl rfl rfl (QV.assign rfl rfl) ?_
          refine WL.nil ?_
          refine WQ.then ?_
          refine WC.ret ?_
          refine WQ.block_ret ?_
          refine WQ.then_ret ?_
          refine WQ.then_ret ?_
          refine WQ.block_ret ?_
          refine WQ.then_ret ?_
          refine WQ.then_ret ?_
          obtain rfl := up_ret hm35 hn14
          obtain rfl := eq_of_some hm6
          refine WQ.ret1 rfl rfl (fun w hw => ?_)
          exact ⟨rfl, Own.kgrow (fun _ x => x) hw⟩
        · skip
          have hm36 := br_f h34 hm33; clear hm33
          refine WC.skip ?_
          refine WQ.block ?_
          refine WQ.then ?_
          refine WC.region ?_
          refine WL.q rfl rfl rfl (QV.move rfl rfl) ?_
          obtain ⟨c37, hm38⟩ := ck_some hm36; clear hm36
          refine WL.q rfl rfl rfl (QV.add rfl rfl rfl rfl c37) ?_
          refine WL.q rfl rfl rfl (QV.assign rfl rfl) ?_
          refine WL.nil ?_
          exact WQ.again1 (i5_1 + 1) m11 (up_next hm38 hn14) (Nat.lt_succ_self _) ⟨rfl, rfl, rfl, trivial⟩ (fun w hw => hw.pick [0] (by decide))
      · skip
        have hm39 := br_f h15 hm13; clear hm13
        refine WC.exit ?_
        refine WQ.then_exit ?_
        refine WQ.then_exit ?_
        refine WQ.block_exit ?_
        exact WQ.out1 i5_1 (up_brk hm39 hn14) ⟨rfl, rfl, rfl, trivial⟩ (fun w hw => hw.pick [0] (by decide))

set_option maxRecDepth 8000 in
theorem roundelayref3_Same_w {v_a_outs : Value} {v_a_mem : Value} {v_b_outs : Value} {v_b_mem : Value} {a : Rst} {b : Rst} {r : Bool} (w : World) (hm : roundelayref3_Same_m a b = some r) (h_a_outs : Arr w v_a_outs 1 (a.outs.map icell)) (h_a_mem : RowsA w v_a_mem a.mem) (h_b_outs : Arr w v_b_outs 1 (b.outs.map icell)) (h_b_mem : RowsA w v_b_mem b.mem) : Calls Try.prog 34 #[.agg #[v_a_outs, v_a_mem], .agg #[v_b_outs, v_b_mem]] w (fun e w' => e = .returned (.bool r) ∧ Grow w w') := by
  unfold roundelayref3_Same_m at hm
  have hk := Base.rfl (w := w)
  refine calls_of_WC (n := 17) (args := [.agg #[v_a_outs, v_a_mem], .agg #[v_b_outs, v_b_mem]]) Try.func34 rfl rfl (Nat.le_of_ble_eq_true rfl) ?_ (Own.startK hk (Own.start w))
  refine WC.seq ?_
  refine WC.region ?_
  refine WL.effect rfl ?_
  refine (EV.boxAgg (by decide) rfl rfl (fun b1 => ?_))
  refine WL.effect rfl ?_
  refine (EV.boxAgg (by decide) rfl rfl (fun b2 => ?_))
  refine WL.q rfl rfl rfl (QV.assign rfl rfl) ?_
  refine WL.nil ?_
  refine WQ.then ?_
  refine WC.seq ?_
  refine WC.region ?_
  refine WL.q rfl rfl rfl (QV.fieldAddr fd59_0 rfl rfl) ?_
  refine WL.q rfl rfl rfl (QV.load pl57 rfl rfl (Own.cell 1 rfl rfl)) ?_
  refine WL.q rfl rfl rfl (QV.fieldAddr fd59_0 rfl rfl) ?_
  refine WL.q rfl rfl rfl (QV.load pl57 rfl rfl (Own.cell 0 rfl rfl)) ?_
  obtain ⟨x3, hx4, hm5⟩ := bd_some hm; clear hm
  refine WL.q rfl rfl rfl (QV.call en54 (EvAll.cons rfl rfl (EvAll.cons rfl rfl EvAll.nil)) (fun w hw => have h := roundelayref3_Numbers_w w hx4 ((Own.karr 2 rfl hk h_a_outs) w hw) ((Own.karr 2 rfl hk h_b_outs) w hw); h)) ?_
  refine WL.q rfl rfl rfl (QV.move rfl rfl) ?_
  refine WL.g rfl rfl (GuardIs.pos rfl rfl) (fun hG => QV.fieldAddr fd59_1 rfl rfl) ?_
  refine WL.g rfl rfl (GuardIs.pos rfl rfl) (fun hG => QV.load pl52 rfl hG (Own.cell 1 rfl rfl)) ?_
  refine WL.g rfl rfl (GuardIs.pos rfl rfl) (fun hG => QV.fieldAddr fd59_1 rfl rfl) ?_
  refine WL.g rfl rfl (GuardIs.pos rfl rfl) (fun hG => QV.load pl52 rfl hG (Own.cell 0 rfl rfl)) ?_
  obtain ⟨x6, hx7, hm8⟩ := bdG_some hm5; clear hm5
  refine WL.g rfl rfl (GuardIs.pos rfl rfl) (fun hG => QV.call en36 (EvAll.cons rfl hG (EvAll.cons rfl hG EvAll.nil)) (fun w hw => have h := roundelayref3_Words_w w (hx7 hG) (Own.krows 2 rfl hk h_a_mem w hw) (Own.krows 2 rfl hk h_b_mem w hw); h)) ?_
  refine WL.q rfl rfl rfl (QV.pickAnd rfl rfl rfl (fun h => h)) ?_
  refine WL.q rfl rfl rfl (QV.assign rfl rfl) ?_
  refine WL.nil ?_
  refine WQ.then ?_
  refine WC.ret ?_
  obtain rfl := eq_of_some hm8
  refine WQ.ret1 rfl rfl (fun w hw => ?_)
  exact ⟨rfl, Own.kgrow (fun _ x => x) hw⟩

set_option maxRecDepth 8000 in
theorem roundelayref3_Wrong_w {v_l_logs : Value} {v_l_body : Value} {v_l_outs : Value} {v_s_bef : Value} {v_s_mem : Value} {l : Lp} {s : Sta} {turns : Int} {r : Int} (w : World) (hm : roundelayref3_Wrong_m l s turns = some r) (h_l_logs : Arr w v_l_logs 1 (l.logs.map icell)) (h_l_body : Arr w v_l_body 9 (l.body.map Stm.cells)) (h_l_outs : Arr w v_l_outs 1 (l.outs.map icell)) (h_s_bef : RowsA w v_s_bef s.bef) (h_s_mem : RowsA w v_s_mem s.mem) : Calls Try.prog 33 #[.agg #[v_l_logs, v_l_body, v_l_outs], .agg #[v_s_bef, v_s_mem], .int .i64 turns] w (fun e w' => e = .returned (.int .i64 r) ∧ Grow w w') := by
  unfold roundelayref3_Wrong_m at hm
  have hk := Base.rfl (w := w)
  refine calls_of_WC (n := 17) (args := [.agg #[v_l_logs, v_l_body, v_l_outs], .agg #[v_s_bef, v_s_mem], .int .i64 turns]) Try.func33 rfl rfl (Nat.le_of_ble_eq_true rfl) ?_ (Own.startK hk (Own.start w))
  refine WC.seq ?_
  refine WC.region ?_
  refine WL.effect rfl ?_
  refine (EV.boxAgg (by decide) rfl rfl (fun b1 => ?_))
  refine WL.effect rfl ?_
  refine (EV.boxAgg (by decide) rfl rfl (fun b2 => ?_))
  refine WL.q rfl rfl rfl (QV.assign rfl rfl) ?_
  refine WL.nil ?_
  refine WQ.then ?_
  refine WC.seq ?_
  refine WC.seq ?_
  refine WC.region ?_
  refine WL.q rfl rfl rfl (QV.loadAgg ag51 rfl rfl rfl (Own.cellsBlk 1 rfl)) ?_
  refine WL.q rfl rfl rfl (QV.loadAgg ag54 rfl rfl rfl (Own.cellsBlk 0 rfl)) ?_
  obtain ⟨x3, hx4, hm5⟩ := bd_some hm; clear hm
  refine WL.q rfl rfl rfl (QV.call en31 (EvAll.cons rfl rfl (EvAll.cons rfl rfl EvAll.nil)) (fun w hw => have h := roundelayref2_Fits_w w hx4 ((Own.karr 2 rfl hk h_l_logs) w hw) ((Own.karr 2 rfl hk h_l_body) w hw) ((Own.karr 2 rfl hk h_l_outs) w hw) (Own.krows 2 rfl hk h_s_bef w hw) (Own.krows 2 rfl hk h_s_mem w hw); h)) ?_
  refine WL.q rfl rfl rfl (QV.not rfl rfl) ?_
  refine WL.nil ?_
  refine WQ.then ?_
  refine WC.cond rfl (fun h6 => ?_) (fun h6 => ?_)
  · skip
    have hm7 := br_t h6 hm5; clear hm5
    refine WC.seq ?_
    refine WC.region ?_
    refine WL.q rfl rfl rfl (QV.assign rfl rfl) ?_
    refine WL.nil ?_
    refine WQ.then ?_
    refine WC.ret ?_
    refine WQ.then_ret ?_
    obtain rfl := eq_of_some hm7
    refine WQ.ret1 rfl rfl (fun w hw => ?_)
    exact ⟨rfl, Own.kgrow (fun _ x => x) hw⟩
  · skip
    have hm8 := br_f h6 hm5; clear hm5
    refine WC.skip ?_
    refine WQ.then ?_
    refine WC.seq ?_
    refine WC.seq ?_
    refine WC.region ?_
    refine WL.q rfl rfl rfl (QV.move rfl rfl) ?_
    refine WL.q rfl rfl rfl (QV.lss rfl rfl rfl rfl) ?_
    refine WL.q rfl rfl rfl (QV.move rfl rfl) ?_
    refine WL.g rfl rfl (GuardIs.neg rfl rfl) (fun hG => QV.move rfl rfl) ?_
    refine WL.g rfl rfl (GuardIs.neg rfl rfl) (fun hG => QV.gtr rfl hG rfl rfl) ?_
    refine WL.q rfl rfl rfl (QV.pickOr rfl rfl rfl (fun h => notF h)) ?_
    refine WL.nil ?_
    refine WQ.then ?_
    refine WC.cond rfl (fun h9 => ?_) (fun h9 => ?_)
    · skip
      have hm10 := br_t h9 hm8; clear hm8
      refine WC.seq ?_
      refine WC.region ?_
      refine WL.q rfl rfl rfl (QV.assign rfl rfl) ?_
      refine WL.nil ?_
      refine WQ.then ?_
      refine WC.ret ?_
      refine WQ.then_ret ?_
      obtain rfl := eq_of_some hm10
      refine WQ.ret1 rfl rfl (fun w hw => ?_)
      exact ⟨rfl, Own.kgrow (fun _ x => x) hw⟩
    · skip
      have hm11 := br_f h9 hm8; clear hm8
      refine WC.skip ?_
      refine WQ.then ?_
      refine WC.seq ?_
      refine WC.region ?_
      refine WL.q rfl rfl rfl (QV.assign rfl rfl) ?_
      refine WL.nil ?_
      refine WQ.then ?_
      refine WC.ret ?_
      obtain rfl := eq_of_some hm11
      refine WQ.ret1 rfl rfl (fun w hw => ?_)
      exact ⟨rfl, Own.kgrow (fun _ x => x) hw⟩

set_option maxRecDepth 8000 in
theorem roundelayref3_is_w {v_s_bef : Value} {v_s_mem : Value} {v_all : Value} {s : Sta} {all : List (List Int)} {r_ : Rf} {turn : Int} {r : Int} (w : World) (hm : roundelayref3_is_m s all r_ turn = some r) (h_s_bef : RowsA w v_s_bef s.bef) (h_s_mem : RowsA w v_s_mem s.mem) (h_all : RowsA w v_all all) : Calls Try.prog 56 #[.agg #[v_s_bef, v_s_mem], v_all, .agg #[.int .i64 r_.st, .int .i64 r_.bk], .int .i64 turn] w (fun e w' => e = .returned (.int .i64 r) ∧ Grow w w') := by
  unfold roundelayref3_is_m at hm
  have hk := Base.rfl (w := w)
  refine calls_of_WC (n := 35) (args := [.agg #[v_s_bef, v_s_mem], v_all, .agg #[.int .i64 r_.st, .int .i64 r_.bk], .int .i64 turn]) Try.func56 rfl rfl (Nat.le_of_ble_eq_true rfl) ?_ (Own.startK hk (Own.start w))
  refine WC.seq ?_
  refine WC.region ?_
  refine WL.effect rfl ?_
  refine (EV.boxAgg (by decide) rfl rfl (fun b1 => ?_))
  refine WL.effect rfl ?_
  refine (EV.boxAgg (by decide) rfl rfl (fun b2 => ?_))
  refine WL.q rfl rfl rfl (QV.assign rfl rfl) ?_
  refine WL.nil ?_
  refine WQ.then ?_
  refine WC.seq ?_
  refine WC.region ?_
  refine WL.q rfl rfl rfl (QV.move rfl rfl) ?_
  refine WL.q rfl rfl rfl (QV.fieldAddr fd91_1 rfl rfl) ?_
  refine WL.q rfl rfl rfl (QV.load pl3 rfl rfl (Own.cell 0 rfl rfl)) ?_
  obtain ⟨c3, hm4⟩ := ck_some hm; clear hm
  refine WL.q rfl rfl rfl (QV.sub rfl rfl rfl rfl c3) ?_
  refine WL.q rfl rfl rfl (QV.assign rfl rfl) ?_
  refine WL.nil ?_
  refine WQ.then ?_
  refine WC.seq ?_
  refine WC.seq ?_
  refine WC.region ?_
  refine WL.q rfl rfl rfl (QV.move rfl rfl) ?_
  refine WL.q rfl rfl rfl (QV.geq rfl rfl rfl rfl) ?_
  refine WL.nil ?_
  refine WQ.then ?_
  refine WC.cond rfl (fun h5 => ?_) (fun h5 => ?_)
  · skip
    have hm6 := br_t h5 hm4; clear hm4
    refine WC.seq ?_
    refine WC.dr (m := 9) (S := Own noM w [kn noM w.heap.size w w, blk b2 [.int .i64 r_.st, .int .i64 r_.bk] 91, blk b1 [v_s_bef, v_s_mem] 54]) (by kernel_rfl) (by kernel_rfl) (fun w hw => hw.pick [2, 0, 1] (by decide)) ?_
    refine WD.q 0 rfl (by kernel_rfl) rfl rfl rfl (QV.move rfl rfl) ?_
    refine WD.q 1 rfl (by kernel_rfl) rfl rfl rfl (QV.move rfl rfl) ?_
    obtain ⟨c7, hm8⟩ := ck_some hm6; clear hm6
    obtain ⟨p9, u11, hp10, hc12, hA13⟩ := h_all.ix c7
    refine WD.q 2 rfl (by kernel_rfl) rfl rfl rfl (QV.indexSlice sl52 rfl rfl rfl rfl hp10) ?_
    refine WD.q 3 rfl (by kernel_rfl) rfl rfl rfl (QV.load pl57 rfl rfl (fun w hw => CellsAt.one 0 ((Own.kcells 0 rfl hk hc12) w hw) rfl)) ?_
    refine WD.q 4 rfl (by kernel_rfl) rfl rfl rfl (QV.fieldAddr fd91_0 rfl rfl) ?_
    refine WD.q 5 rfl (by kernel_rfl) rfl rfl rfl (QV.load pl3 rfl rfl (Own.cell 1 rfl rfl)) ?_
    obtain ⟨c14, hm15⟩ := ck_some hm8; clear hm8
    obtain ⟨p16, hp17⟩ := hA13.lenMap.ix (sz := 1) ln_len c14
    refine WD.q 6 rfl (by kernel_rfl) rfl rfl rfl (QV.indexSlice sl57 rfl rfl rfl rfl hp17) ?_
    refine WD.q 7 rfl (by kernel_rfl) rfl rfl rfl (QV.load pl2 rfl rfl (fun w hw => CellsAt.one 0 (((Own.karr 0 rfl hk hA13) w hw).ele hp17 c14) rfl)) ?_
    refine WD.q 8 rfl (by kernel_rfl) rfl rfl rfl (QV.assign rfl rfl) ?_
    refine WD.e (by kernel_rfl) ?_
    refine WQ.then ?_
    refine WC.ret ?_
    refine WQ.then_ret ?_
    obtain rfl := eq_of_some hm15
    refine WQ.ret1 rfl rfl (fun w hw => ?_)
    exact ⟨rfl, Own.kgrow (fun _ x => x) hw⟩
  · skip
    have hm18 := br_f h5 hm4; clear hm4
    refine WC.skip ?_
    refine WQ.then ?_
    refine WC.seq ?_
    refine WC.region ?_
    refine WL.q rfl rfl rfl (QV.fieldAddr fd54_0 rfl rfl) ?_
    refine WL.q rfl rfl rfl (QV.load pl52 rfl rfl (Own.cell 1 rfl rfl)) ?_
    refine WL.q rfl rfl rfl (QV.fieldAddr fd91_0 rfl rfl) ?_
    refine WL.q rfl rfl rfl (QV.load pl3 rfl rfl (Own.cell 0 rfl rfl)) ?_
    obtain ⟨c19, hm20⟩ := ck_some hm18; clear hm18
    obtain ⟨p21, u23, hp22, hc24, hA25⟩ := h_s_bef.ix c19
    refine WL.q rfl rfl rfl (QV.indexSlice sl52 rfl rfl rfl rfl hp22) ?_
    refine WL.q rfl rfl rfl (QV.load pl57 rfl rfl (fun w hw => CellsAt.one 0 ((Own.kcells 2 rfl hk hc24) w hw) rfl)) ?_
    refine WL.q rfl rfl rfl (QV.move rfl rfl) ?_
    obtain ⟨c26, hm27⟩ := ck_some hm20; clear hm20
    refine WL.q rfl rfl rfl (QV.neg rfl rfl c26) ?_
    obtain ⟨c28, hm29⟩ := ck_some hm27; clear hm27
    refine WL.q rfl rfl rfl (QV.sub rfl rfl rfl rfl c28) ?_
    obtain ⟨c30, hm31⟩ := ck_some hm29; clear hm29
    obtain ⟨p32, hp33⟩ := hA25.lenMap.ix (sz := 1) ln_len c30
    refine WL.q rfl rfl rfl (QV.indexSlice sl57 rfl rfl rfl rfl hp33) ?_
    refine WL.q rfl rfl rfl (QV.load pl2 rfl rfl (fun w hw => CellsAt.one 0 (((Own.karr 2 rfl hk hA25) w hw).ele hp33 c30) rfl)) ?_
    refine WL.q rfl rfl rfl (QV.assign rfl rfl) ?_
    refine WL.nil ?_
    refine WQ.then ?_
    refine WC.ret ?_
    obtain rfl := eq_of_some hm31
    refine WQ.ret1 rfl rfl (fun w hw => ?_)
    exact ⟨rfl, Own.kgrow (fun _ x => x) hw⟩

set_option maxRecDepth 8000 in
theorem roundelayref3_Copy_w {v_l : Value} {l : List (List Int)} {r : List (List Int)} {K0 : World} (hm : roundelayref3_Copy_m l = some r) (h_l : RowsA K0 v_l l) (M : Nat → Prop) (w : World) (hk : Base M K0 w) (hw0 : Own M w [] w) : Calls Try.prog 55 #[v_l] w (fun e w' => ∃ X : Value × (List Value) × World, e = .returned (X.1) ∧ Own M w (kn M w.heap.size K0 X.2.2 :: [grid X.1 X.2.1 57 2 r]) w' ∧ SliceLen X.1 (r).length ∧ GL X.2.1 r) := by
  unfold roundelayref3_Copy_m at hm
  refine calls_of_WC (n := 21) (args := [v_l]) Try.func55 rfl rfl (Nat.le_of_ble_eq_true rfl) ?_ (Own.startK hk hw0)
  refine WC.seq ?_
  refine WC.region ?_
  refine WL.q rfl rfl rfl (QV.assign rfl rfl) ?_
  refine WL.nil ?_
  refine WQ.then ?_
  refine WC.seq ?_
  refine WC.region ?_
  refine WL.q rfl rfl rfl (QV.assign rfl rfl) ?_
  refine WL.nil ?_
  refine WQ.then ?_
  refine WC.seq ?_
  refine WC.seq ?_
  refine WC.region ?_
  refine WL.q rfl rfl rfl (QV.assign rfl rfl) ?_
  refine WL.nil ?_
  refine WQ.then ?_
  refine WK.of (fun w hw => hw.gridNil (E1 := 57) (E2 := 2)) ?_
  obtain ⟨o2, ho3, hm4⟩ := bd_some hm; clear hm; obtain ⟨n5, ho6⟩ := lp_some ho3
  refine WC.bloop4 (H2 := [kn M w.heap.size K0 K0]) (τ := [(0, (true, _))]) (fun (v1_1 : List (List Int)) (i4_1 : Int) (uv1_1 : Value) (hsv1_1 : List Value) => [(3, (true, uv1_1)), (4, (true, .int .i64 i4_1))]) (fun (v1_1 : List (List Int)) (i4_1 : Int) (uv1_1 : Value) (hsv1_1 : List Value) => [grid uv1_1 hsv1_1 57 2 v1_1]) (fun (v1_1 : List (List Int)) (i4_1 : Int) (uv1_1 : Value) (hsv1_1 : List Value) (m : Nat) => iter (roundelayref3_Copy_L0 l) m (v1_1, i4_1) = some o2 ∧ SliceLen uv1_1 v1_1.length ∧ GL hsv1_1 v1_1) (fun (v1_1 : List (List Int)) (i4_1 : Int) (uv1_1 : Value) (hsv1_1 : List Value) => o2 = .go (v1_1, i4_1) ∧ SliceLen uv1_1 v1_1.length ∧ GL hsv1_1 v1_1) [] 0 nilS [] n5 ⟨ho6, SliceLen.nil, GL.nil⟩ ⟨rfl, rfl, rfl, trivial⟩ (fun w hw => hw.pick [0, 1] (by decide)) ?_ ?_
  · skip
    rintro v1_1 i4_1 uv1_1 hsv1_1 ⟨rfl, hlv1_1, hgv1_1⟩
    refine WQ.then ?_
    refine WC.seq ?_
    refine WC.region ?_
    refine WL.q rfl rfl rfl (QV.move rfl rfl) ?_
    refine WL.q rfl rfl rfl (QV.assign rfl rfl) ?_
    refine WL.nil ?_
    refine WQ.then ?_
    refine WC.ret ?_
    obtain rfl := eq_of_some hm4
    refine WQ.ret1 rfl rfl (fun w hw => ?_)
    exact ⟨(uv1_1, hsv1_1, K0), rfl, hw.pick [1, 0] (by decide), hlv1_1, hgv1_1⟩
  · skip
    rintro v1_1 i4_1 uv1_1 hsv1_1 m7 ⟨hI8, hlv1_1, hgv1_1⟩
    obtain ⟨m9, s10, rfl, hm11, hn12⟩ := iter_step hI8; clear hI8; unfold roundelayref3_Copy_L0 at hm11; simp only at hm11
    refine WC.seq ?_
    refine WC.seq ?_
    refine WC.region ?_
    refine WL.q rfl rfl rfl (QV.move rfl rfl) ?_
    refine WL.q rfl rfl rfl (QV.move rfl rfl) ?_
    refine WL.q rfl rfl rfl (QV.lenS Try.underlying52 rfl rfl h_l.slen) ?_
    refine WL.q rfl rfl rfl (QV.lss rfl rfl rfl rfl) ?_
    refine WL.nil ?_
    refine WQ.then ?_
    refine WC.cond rfl (fun h13 => ?_) (fun h13 => ?_)
    · skip
      have hm14 := br_t h13 hm11; clear hm11
      refine WC.skip ?_
      refine WQ.then ?_
      refine WC.seq ?_
      refine WC.block ?_
      refine WC.region ?_
      refine WL.q rfl rfl rfl (QV.move rfl rfl) ?_
      refine WL.effect rfl ?_
      refine (EV.buildSlice0 (by decide) sz_57 (fun b15 => ?_))
      refine WL.q rfl rfl rfl (QV.move rfl rfl) ?_
      refine WL.q rfl rfl rfl (QV.move rfl rfl) ?_
      obtain ⟨c16, hm17⟩ := ck_some hm14; clear hm14
      obtain ⟨p18, u20, hp19, hc21, hA22⟩ := h_l.ix c16
      refine WL.q rfl rfl rfl (QV.indexSlice sl52 rfl rfl rfl rfl hp19) ?_
      refine WL.q rfl rfl rfl (QV.load pl57 rfl rfl (fun w hw => CellsAt.one 0 ((Own.kcells 2 rfl hk hc21) w hw) rfl)) ?_
      refine WL.effect rfl ?_
      refine EV.of (fun w hw => hw.blkVec icell ([] : List Int) rfl icell_len (Nat.le_of_ble_eq_true rfl)) ?_
      obtain ⟨c23, hm24⟩ := ck_some hm17; clear hm17
      refine (EV.appendL (enc := icell) (xs := []) (ys := (ele l i4_1)) (([] ++ (ele l i4_1))) 0 (by decide) ve57 rfl rfl rfl rfl rfl (Own.karr 2 rfl hk hA22) icell_len (icell_one _) rfl c23.1 c23.2 (fun u25 hu26 => ?_))
      refine WL.effect rfl ?_
      refine (EV.buildSlice (by decide) sz_52 (by decide) (by decide) (ps := [(0, .tmp 17)]) (cells := [u25]) (EvAll.cons rfl rfl EvAll.nil) (filled1 hu26) (fun b27 => ?_))
      refine WL.effect rfl ?_
      obtain ⟨c28, hm29⟩ := ck_some hm24; clear hm24
      refine EV.of (C' := Own M w [grid uv1_1 hsv1_1 57 2 v1_1, vec u25 2 1 (List.map icell ([] ++ (ele l i4_1))), blk b27 [u25] 57, kn M w.heap.size K0 K0]) (fun w hw => hw.pick [2, 1, 0, 3] (by decide)) ?_
      refine (EV.appendG (by decide) ve52 rfl rfl rfl rfl hu26 (Own.blkArr 2 (rows := [[u25]]) rfl rfl (rows_one)) c28 hgv1_1 (fun u30 hu31 => ?_))
      have hg32 := hgv1_1.snoc hu26
      refine WL.q rfl rfl rfl (QV.assign rfl rfl) ?_
      refine WL.nil ?_
      refine WQ.block ?_
      refine WQ.then ?_
      refine WC.region ?_
      refine WL.q rfl rfl rfl (QV.move rfl rfl) ?_
      obtain ⟨c33, hm34⟩ := ck_some hm29; clear hm29
      refine WL.q rfl rfl rfl (QV.add rfl rfl rfl rfl c33) ?_
      refine WL.q rfl rfl rfl (QV.assign rfl rfl) ?_
      refine WL.nil ?_
      exact WQ.again4 (v1_1 ++ [([] ++ (ele l i4_1))]) (i4_1 + 1) u30 (hsv1_1 ++ [u25]) m9 ⟨up_next hm34 hn12, hu31, hg32⟩ (Nat.lt_succ_self _) ⟨rfl, rfl, rfl, trivial⟩ (fun w hw => hw.pick [0, 2] (by decide))
    · skip
      have hm35 := br_f h13 hm11; clear hm11
      refine WC.exit ?_
      refine WQ.then_exit ?_
      refine WQ.then_exit ?_
      refine WQ.block_exit ?_
      exact WQ.out4 v1_1 i4_1 uv1_1 hsv1_1 ⟨up_brk hm35 hn12, hlv1_1, hgv1_1⟩ ⟨rfl, rfl, rfl, trivial⟩ (fun w hw => hw.pick [0, 1] (by decide))

set_option maxRecDepth 8000 in
theorem roundelayref3_Play_w {v_l_logs : Value} {v_l_body : Value} {v_l_outs : Value} {v_s_bef : Value} {v_s_mem : Value} {l : Lp} {s : Sta} {turns : Int} {r : Rst} {K0 : World} (hm : roundelayref3_Play_m l s turns = some r) (h_l_logs : Arr K0 v_l_logs 1 (l.logs.map icell)) (h_l_body : Arr K0 v_l_body 9 (l.body.map Stm.cells)) (h_l_outs : Arr K0 v_l_outs 1 (l.outs.map icell)) (h_s_bef : RowsA K0 v_s_bef s.bef) (h_s_mem : RowsA K0 v_s_mem s.mem) (M : Nat → Prop) (w : World) (hk : Base M K0 w) (hw0 : Own M w [] w) : Calls Try.prog 35 #[.agg #[v_l_logs, v_l_body, v_l_outs], .agg #[v_s_bef, v_s_mem], .int .i64 turns] w (fun e w' => ∃ X : Value × Value × World, e = .returned (.agg #[X.1, X.2.1]) ∧ Own M w (kn M w.heap.size K0 X.2.2 :: []) w' ∧ Arr X.2.2 X.1 1 (r.outs.map icell) ∧ RowsA X.2.2 X.2.1 r.mem) := by
  unfold roundelayref3_Play_m at hm
  refine calls_of_WC (n := 198) (args := [.agg #[v_l_logs, v_l_body, v_l_outs], .agg #[v_s_bef, v_s_mem], .int .i64 turns]) Try.func35 rfl rfl (Nat.le_of_ble_eq_true rfl) ?_ (Own.startK hk hw0)
  refine WC.seq ?_
  refine WC.region ?_
  refine WL.effect rfl ?_
  refine (EV.boxAgg (by decide) rfl rfl (fun b1 => ?_))
  refine WL.effect rfl ?_
  refine (EV.boxAgg (by decide) rfl rfl (fun b2 => ?_))
  refine WL.effect rfl ?_
  refine (EV.alloc (by decide) ze59 (fun b3 => ?_))
  refine WL.nil ?_
  refine WQ.then ?_
  refine WC.seq ?_
  refine WC.region ?_
  refine WL.q rfl rfl rfl (QV.fieldAddr fd54_1 rfl rfl) ?_
  refine WL.q rfl rfl rfl (QV.load pl52 rfl rfl (Own.cell 1 rfl rfl)) ?_
  refine WL.effect rfl ?_
  obtain ⟨x4, hx5, hm6⟩ := bd_some hm; clear hm
  refine EV.of (C' := Own M w [kn M w.heap.size K0 K0, blk b3 [.slice none 0 0, .slice none 0 0] 59, blk b2 [v_s_bef, v_s_mem] 54, blk b1 [v_l_logs, v_l_body, v_l_outs] 51]) (fun w hw => hw.pick [3, 0, 1, 2] (by decide)) ?_
  refine (EV.callR (X := Value × (List Value) × World) (R := []) (fun X => X.1) (fun X => [grid X.1 X.2.1 57 2 x4]) (fun X => X.2.2) (fun X => SliceLen X.1 (x4).length ∧ GL X.2.1 x4) hk (fun _ h => by cases h; decide) en55 (EvAll.cons rfl rfl EvAll.nil) (fun M w h1 h2 => have h := roundelayref3_Copy_w hx5 h_s_mem M w h1 h2; h) (fun X7 hF7 hle7 => ?_))
  refine WL.q rfl rfl rfl (QV.assign rfl rfl) ?_
  refine WL.nil ?_
  refine WQ.then ?_
  refine WC.seq ?_
  refine WC.region ?_
  refine WL.q rfl rfl rfl (QV.move rfl rfl) ?_
  refine WL.effect rfl ?_
  obtain ⟨c9, hm10⟩ := ck_some hm6; clear hm6
  obtain ⟨c11, hm12⟩ := ck_some hm10; clear hm10
  refine (EV.makeSlice (enc := hcell) nilS (by decide) ve52 ze57 rfl rfl c9 rfl c11 (fun u13 hu14 => ?_))
  refine WK.of (fun w hw => hw.gridRep 2) ?_
  have hg16 := GL.rep turns.toNat
  have hl17 : SliceLen u13 (List.replicate turns.toNat ([] : List Int)).length := by rw [List.length_replicate]; simpa using hu14
  refine WL.q rfl rfl rfl (QV.assign rfl rfl) ?_
  refine WL.nil ?_
  refine WQ.then ?_
  refine WC.seq ?_
  refine WC.seq ?_
  refine WC.region ?_
  refine WL.q rfl rfl rfl (QV.assign rfl rfl) ?_
  refine WL.nil ?_
  refine WQ.then ?_
  obtain ⟨o18, ho19, hm20⟩ := bd_some hm12; clear hm12; obtain ⟨n21, ho22⟩ := lp_some ho19
  refine WC.bloop4 (H2 := [kn M w.heap.size K0 X7.2.2, blk b3 [.slice none 0 0, .slice none 0 0] 59, blk b2 [v_s_bef, v_s_mem] 54, blk b1 [v_l_logs, v_l_body, v_l_outs] 51]) (τ := [(2, (true, _)), (3, (true, _)), (4, (true, _)), (6, (true, _)), (7, (true, _)), (8, (true, _))]) (fun (v15_3 : List (List Int)) (r8_3 : List (List Int)) (t9_3 : Int) (hsv15_3 : List Value) => [(9, (true, .int .i64 t9_3))]) (fun (v15_3 : List (List Int)) (r8_3 : List (List Int)) (t9_3 : Int) (hsv15_3 : List Value) => [grid u13 hsv15_3 57 2 v15_3, grid X7.1 X7.2.1 57 2 r8_3]) (fun (v15_3 : List (List Int)) (r8_3 : List (List Int)) (t9_3 : Int) (hsv15_3 : List Value) (m : Nat) => iter (roundelayref3_Play_L0 l s turns) m (v15_3, r8_3, t9_3) = some o18 ∧ SliceLen u13 v15_3.length ∧ GL hsv15_3 v15_3 ∧ SliceLen X7.1 r8_3.length ∧ GL X7.2.1 r8_3) (fun (v15_3 : List (List Int)) (r8_3 : List (List Int)) (t9_3 : Int) (hsv15_3 : List Value) => o18 = .go (v15_3, r8_3, t9_3) ∧ SliceLen u13 v15_3.length ∧ GL hsv15_3 v15_3 ∧ SliceLen X7.1 r8_3.length ∧ GL X7.2.1 r8_3) (List.replicate turns.toNat ([] : List Int)) x4 0 (List.replicate turns.toNat nilS) n21 ⟨ho22, hl17, hg16, hF7.1, hF7.2⟩ ⟨rfl, rfl, rfl, rfl, rfl, rfl, rfl, trivial⟩ (fun w hw => hw.pick [0, 2, 1, 3, 4, 5] (by decide)) ?_ ?_
  · skip
    rintro v15_3 r8_3 t9_3 hsv15_3 ⟨rfl, hlv15_3, hgv15_3, hlr8_3, hgr8_3⟩
    refine WQ.then ?_
    refine WC.seq ?_
    refine WC.region ?_
    refine WL.q rfl rfl rfl (QV.move rfl rfl) ?_
    refine WL.q rfl rfl rfl (QV.buildS (ps := [(1, .tmp 157)]) (cells := [.slice none 0 0, X7.1]) (css := [[X7.1]]) (EvAll.cons rfl rfl EvAll.nil) (CellsAll.cons (SliceLen.cells hlr8_3) CellsAll.nil) (by kernel_rfl)) ?_
    refine WL.effect rfl ?_
    refine (EV.alloc (by decide) ze59 (fun b23 => ?_))
    refine WL.effect rfl ?_
    refine (EV.store 0 rfl rfl rfl rfl rfl rfl (vs := [.slice none 0 0, X7.1]) (show Value.cells _ = List.toArray _ from rfl) sz59 (Nat.le_of_ble_eq_true rfl) (one_cons rfl (one_cons (SliceLen.one hlr8_3) one_nil)) ?_)
    refine WL.nil ?_
    refine WQ.then ?_
    refine WC.seq ?_
    refine WC.seq ?_
    refine WC.region ?_
    refine WL.q rfl rfl rfl (QV.assign rfl rfl) ?_
    refine WL.nil ?_
    refine WQ.then ?_
    refine WK.of (fun w hw => hw.vecNil (E := 2) (sz := 1) (enc := icell)) ?_
    obtain ⟨o25, ho26, hm27⟩ := bd_some hm20; clear hm20; obtain ⟨n28, ho29⟩ := lp_some ho26
    refine WC.bloop3 (H2 := [grid u13 hsv15_3 57 2 v15_3, grid X7.1 X7.2.1 57 2 r8_3, kn M w.heap.size K0 X7.2.2, blk b3 [.slice none 0 0, .slice none 0 0] 59, blk b2 [v_s_bef, v_s_mem] 54, blk b1 [v_l_logs, v_l_body, v_l_outs] 51]) (τ := [(2, (true, _)), (3, (true, _)), (4, (true, _)), (6, (true, _)), (8, (true, _)), (17, (true, _))]) (fun (v24_4 : List Int) (i18_4 : Int) (uv24_4 : Value) => [(18, (true, .int .i64 i18_4))]) (fun (v24_4 : List Int) (i18_4 : Int) (uv24_4 : Value) => [vec uv24_4 2 1 (List.map icell v24_4), blk b23 [uv24_4, X7.1] 59]) (fun (v24_4 : List Int) (i18_4 : Int) (uv24_4 : Value) (m : Nat) => iter (roundelayref3_Play_L5 l s turns v15_3) m (v24_4, i18_4) = some o25 ∧ SliceLen uv24_4 v24_4.length) (fun (v24_4 : List Int) (i18_4 : Int) (uv24_4 : Value) => o25 = .go (v24_4, i18_4) ∧ SliceLen uv24_4 v24_4.length) [] 0 (.slice none 0 0) n28 ⟨ho29, SliceLen.nil⟩ ⟨rfl, rfl, rfl, rfl, rfl, rfl, rfl, trivial⟩ (fun w hw => hw.pick [0, 1, 2, 3, 4, 5, 6, 7] (by decide)) ?_ ?_
    · skip
      rintro v24_4 i18_4 uv24_4 ⟨rfl, hlv24_4⟩
      refine WQ.then ?_
      refine WC.seq ?_
      refine WC.region ?_
      refine WL.q rfl rfl rfl (QV.loadAgg ag59 rfl rfl rfl (Own.cellsBlk 1 rfl)) ?_
      refine WL.effect rfl ?_
      refine (EV.store 5 rfl rfl rfl rfl rfl rfl (vs := [uv24_4, X7.1]) (show Value.cells _ = List.toArray _ from rfl) sz59 (Nat.le_of_ble_eq_true rfl) (one_cons (SliceLen.one hlv24_4) (one_cons (SliceLen.one hlr8_3) one_nil)) ?_)
      refine WL.nil ?_
      refine WQ.then ?_
      refine WC.ret ?_
      obtain rfl := eq_of_some hm27
      refine WK.of (C' := Own M w [kn M w.heap.size K0 X7.2.2, vec uv24_4 2 1 (List.map icell v24_4), blk b23 [uv24_4, X7.1] 59, grid u13 hsv15_3 57 2 v15_3, grid X7.1 X7.2.1 57 2 r8_3, blk b3 [uv24_4, X7.1] 59, blk b2 [v_s_bef, v_s_mem] 54, blk b1 [v_l_logs, v_l_body, v_l_outs] 51]) (fun w hw => hw.pick [4, 0, 1, 2, 3, 5, 6, 7] (by decide)) ?_
      refine WK.freeze hk (fun k30 hle30 hr30 => ?_)
      have hA30 := vec_arr hr30
      refine WK.of (C' := Own M w [kn M w.heap.size K0 k30, grid X7.1 X7.2.1 57 2 r8_3, blk b23 [uv24_4, X7.1] 59, grid u13 hsv15_3 57 2 v15_3, blk b3 [uv24_4, X7.1] 59, blk b2 [v_s_bef, v_s_mem] 54, blk b1 [v_l_logs, v_l_body, v_l_outs] 51]) (fun w hw => hw.pick [0, 3, 1, 2, 4, 5, 6] (by decide)) ?_
      refine WK.freeze hk (fun k31 hle31 hr31 => ?_)
      have hA31 := grid_rows hr31
      refine WQ.retCell rfl ag59 rfl rfl (Own.cellsBlk 3 rfl) (fun w hw => ?_)
      exact ⟨(uv24_4, X7.1, k31), rfl, hw.pick [0] (by decide), (hA30.le hle31), hA31⟩
    · skip
      rintro v24_4 i18_4 uv24_4 m32 ⟨hI33, hlv24_4⟩
      obtain ⟨m34, s35, rfl, hm36, hn37⟩ := iter_step hI33; clear hI33; unfold roundelayref3_Play_L5 at hm36; simp only at hm36
      refine WC.seq ?_
      refine WC.seq ?_
      refine WC.region ?_
      refine WL.q rfl rfl rfl (QV.move rfl rfl) ?_
      refine WL.q rfl rfl rfl (QV.fieldAddr fd51_2 rfl rfl) ?_
      refine WL.q rfl rfl rfl (QV.load pl48 rfl rfl (Own.cell 7 rfl rfl)) ?_
      refine WL.q rfl rfl rfl (QV.lenS Try.underlying48 rfl rfl (h_l_outs.le hle7).lenMap) ?_
      refine WL.q rfl rfl rfl (QV.lss rfl rfl rfl rfl) ?_
      refine WL.nil ?_
      refine WQ.then ?_
      refine WC.cond rfl (fun h38 => ?_) (fun h38 => ?_)
      · skip
        have hm39 := br_t h38 hm36; clear hm36
        refine WC.skip ?_
        refine WQ.then ?_
        refine WC.seq ?_
        refine WC.block ?_
        refine WC.seq ?_
        refine WC.dr (m := 12) (S := Own M w [kn M w.heap.size K0 X7.2.2, vec uv24_4 2 1 (List.map icell v24_4), blk b23 [uv24_4, X7.1] 59, grid u13 hsv15_3 57 2 v15_3, grid X7.1 X7.2.1 57 2 r8_3, blk b3 [.slice none 0 0, .slice none 0 0] 59, blk b2 [v_s_bef, v_s_mem] 54, blk b1 [v_l_logs, v_l_body, v_l_outs] 51]) (by kernel_rfl) (by kernel_rfl) (fun w hw => hw.pick [4, 0, 1, 2, 3, 5, 6, 7] (by decide)) ?_
        refine WD.q 0 rfl (by kernel_rfl) rfl rfl rfl (QV.fieldAddr fd54_0 rfl rfl) ?_
        refine WD.q 1 rfl (by kernel_rfl) rfl rfl rfl (QV.load pl52 rfl rfl (Own.cell 6 rfl rfl)) ?_
        refine WD.q 2 rfl (by kernel_rfl) rfl rfl rfl (QV.fieldAddr fd51_2 rfl rfl) ?_
        refine WD.q 3 rfl (by kernel_rfl) rfl rfl rfl (QV.load pl48 rfl rfl (Own.cell 7 rfl rfl)) ?_
        refine WD.q 4 rfl (by kernel_rfl) rfl rfl rfl (QV.move rfl rfl) ?_
        obtain ⟨c40, hm41⟩ := ck_some hm39; clear hm39
        obtain ⟨p42, hp43⟩ := (h_l_outs.le hle7).lenMap.ix (sz := 1) ln_len c40
        refine WD.q 5 rfl (by kernel_rfl) rfl rfl rfl (QV.indexSlice sl48 rfl rfl rfl rfl hp43) ?_
        refine WD.q 6 rfl (by kernel_rfl) rfl rfl rfl (QV.load pl3 rfl rfl (fun w hw => CellsAt.one 0 (((Own.karr 0 rfl hk (h_l_outs.le hle7)) w hw).ele hp43 c40) rfl)) ?_
        obtain ⟨c44, hm45⟩ := ck_some hm41; clear hm41
        obtain ⟨p46, u48, hp47, hc49, hA50⟩ := (h_s_bef.le hle7).ix c44
        refine WD.q 7 rfl (by kernel_rfl) rfl rfl rfl (QV.indexSlice sl52 rfl rfl rfl rfl hp47) ?_
        refine WD.q 8 rfl (by kernel_rfl) rfl rfl rfl (QV.load pl57 rfl rfl (fun w hw => CellsAt.one 0 ((Own.kcells 0 rfl hk hc49) w hw) rfl)) ?_
        obtain ⟨c51, hm52⟩ := ck_some hm45; clear hm45
        obtain ⟨p53, hp54⟩ := hA50.lenMap.ix (sz := 1) ln_len c51
        refine WD.q 9 rfl (by kernel_rfl) rfl rfl rfl (QV.indexSlice sl57 rfl rfl rfl rfl hp54) ?_
        refine WD.q 10 rfl (by kernel_rfl) rfl rfl rfl (QV.load pl2 rfl rfl (fun w hw => CellsAt.one 0 (((Own.karr 0 rfl hk hA50) w hw).ele hp54 c51) rfl)) ?_
        refine WD.q 11 rfl (by kernel_rfl) rfl rfl rfl (QV.assign rfl rfl) ?_
        refine WD.e (by kernel_rfl) ?_
        refine WQ.then ?_
        refine WC.seq ?_
        refine WC.seq ?_
        refine WC.region ?_
        refine WL.q rfl rfl rfl (QV.move rfl rfl) ?_
        refine WL.q rfl rfl rfl (QV.gtr rfl rfl rfl rfl) ?_
        refine WL.nil ?_
        refine WQ.then ?_
        refine WC.cond rfl (fun h55 => ?_) (fun h55 => ?_)
        · skip
          have hm56 := br_t h55 hm52; clear hm52
          refine WC.dr (m := 13) (S := Own M w [kn M w.heap.size K0 X7.2.2, vec uv24_4 2 1 (List.map icell v24_4), blk b23 [uv24_4, X7.1] 59, grid u13 hsv15_3 57 2 v15_3, grid X7.1 X7.2.1 57 2 r8_3, blk b3 [.slice none 0 0, .slice none 0 0] 59, blk b2 [v_s_bef, v_s_mem] 54, blk b1 [v_l_logs, v_l_body, v_l_outs] 51]) (by kernel_rfl) (by kernel_rfl) (fun w hw => hw.pick [4, 0, 1, 2, 3, 5, 6, 7] (by decide)) ?_
          refine WD.q 0 rfl (by kernel_rfl) rfl rfl rfl (QV.move rfl rfl) ?_
          refine WD.q 1 rfl (by kernel_rfl) rfl rfl rfl (QV.move rfl rfl) ?_
          obtain ⟨c57, hm58⟩ := ck_some hm56; clear hm56
          refine WD.q 2 rfl (by kernel_rfl) rfl rfl rfl (QV.sub rfl rfl rfl rfl c57) ?_
          obtain ⟨c59, hm60⟩ := ck_some hm58; clear hm58
          obtain ⟨p61, hp62⟩ := hlv15_3.ix (sz := 1) ln_len c59
          refine WD.q 3 rfl (by kernel_rfl) rfl rfl rfl (QV.indexSlice sl52 rfl rfl rfl rfl hp62) ?_
          refine WD.q 4 rfl (by kernel_rfl) rfl rfl rfl (QV.load pl57 rfl rfl (Own.gridHdr 3 rfl hp62 c59)) ?_
          refine WD.q 5 rfl (by kernel_rfl) rfl rfl rfl (QV.fieldAddr fd51_2 rfl rfl) ?_
          refine WD.q 6 rfl (by kernel_rfl) rfl rfl rfl (QV.load pl48 rfl rfl (Own.cell 7 rfl rfl)) ?_
          refine WD.q 7 rfl (by kernel_rfl) rfl rfl rfl (QV.move rfl rfl) ?_
          obtain ⟨c63, hm64⟩ := ck_some hm60; clear hm60
          obtain ⟨p65, hp66⟩ := (h_l_outs.le hle7).lenMap.ix (sz := 1) ln_len c63
          refine WD.q 8 rfl (by kernel_rfl) rfl rfl rfl (QV.indexSlice sl48 rfl rfl rfl rfl hp66) ?_
          refine WD.q 9 rfl (by kernel_rfl) rfl rfl rfl (QV.load pl3 rfl rfl (fun w hw => CellsAt.one 0 (((Own.karr 0 rfl hk (h_l_outs.le hle7)) w hw).ele hp66 c63) rfl)) ?_
          obtain ⟨c67, hm68⟩ := ck_some hm64; clear hm64
          obtain ⟨p69, hp70⟩ := (hgv15_3.ix (turns - 1)).ix (sz := 1) ln_len c67
          refine WD.q 10 rfl (by kernel_rfl) rfl rfl rfl (QV.indexSlice sl57 rfl rfl rfl rfl hp70) ?_
          refine WD.q 11 rfl (by kernel_rfl) rfl rfl rfl (QV.load pl2 rfl rfl (fun w hw => CellsAt.one 0 (((Own.gridArr 3 rfl c59) w hw).ele hp70 c67) rfl)) ?_
          refine WD.q 12 rfl (by kernel_rfl) rfl rfl rfl (QV.assign rfl rfl) ?_
          refine WD.e (by kernel_rfl) ?_
          refine WQ.then ?_
          refine WC.region ?_
          refine WL.q rfl rfl rfl (QV.fieldAddr fd59_0 rfl rfl) ?_
          refine WL.q rfl rfl rfl (QV.load pl57 rfl rfl (Own.cell 1 rfl rfl)) ?_
          refine WL.q rfl rfl rfl (QV.move rfl rfl) ?_
          refine WL.effect rfl ?_
          refine (EV.buildSlice (by decide) sz_57 (by decide) (by decide) (ps := [(0, .tmp 193)]) (cells := [.int .i64 (ele (ele v15_3 (turns - 1)) (ele l.outs i18_4))]) (EvAll.cons rfl rfl EvAll.nil) (by kernel_rfl) (fun b71 => ?_))
          refine WL.effect rfl ?_
          obtain ⟨c72, hm73⟩ := ck_some hm68; clear hm68
          refine (EV.appendL (enc := icell) (xs := v24_4) (ys := [(ele (ele v15_3 (turns - 1)) (ele l.outs i18_4))]) ((v24_4 ++ [(ele (ele v15_3 (turns - 1)) (ele l.outs i18_4))])) 1 (by decide) ve57 rfl rfl rfl rfl rfl (Own.blkArr 0 (rows := [(ele (ele v15_3 (turns - 1)) (ele l.outs i18_4))].map icell) rfl rfl (rows_len icell_len)) icell_len (icell_one _) rfl c72.1 c72.2 (fun u74 hu75 => ?_))
          refine WL.q rfl rfl rfl (QV.fieldAddr fd59_0 rfl rfl) ?_
          refine WL.effect rfl ?_
          refine (EV.store 2 rfl rfl rfl rfl rfl rfl (vs := [u74]) (SliceLen.cells hu75) sz57 (Nat.le_of_ble_eq_true rfl) (one_cons (SliceLen.one hu75) one_nil) ?_)
          refine WL.nil ?_
          refine WQ.block ?_
          refine WQ.then ?_
          refine WC.region ?_
          refine WL.q rfl rfl rfl (QV.move rfl rfl) ?_
          obtain ⟨c76, hm77⟩ := ck_some hm73; clear hm73
          refine WL.q rfl rfl rfl (QV.add rfl rfl rfl rfl c76) ?_
          refine WL.q rfl rfl rfl (QV.assign rfl rfl) ?_
          refine WL.nil ?_
          exact WQ.again3 (v24_4 ++ [(ele (ele v15_3 (turns - 1)) (ele l.outs i18_4))]) (i18_4 + 1) u74 m34 ⟨up_next hm77 hn37, hu75⟩ (Nat.lt_succ_self _) ⟨rfl, rfl, rfl, rfl, rfl, rfl, rfl, trivial⟩ (fun w hw => hw.pick [1, 2, 3, 4, 5, 6, 7, 8] (by decide))
        · skip
          have hm78 := br_f h55 hm52; clear hm52
          refine WC.skip ?_
          refine WQ.then ?_
          refine WC.region ?_
          refine WL.q rfl rfl rfl (QV.fieldAddr fd59_0 rfl rfl) ?_
          refine WL.q rfl rfl rfl (QV.load pl57 rfl rfl (Own.cell 1 rfl rfl)) ?_
          refine WL.q rfl rfl rfl (QV.move rfl rfl) ?_
          refine WL.effect rfl ?_
          refine (EV.buildSlice (by decide) sz_57 (by decide) (by decide) (ps := [(0, .tmp 193)]) (cells := [.int .i64 (ele (ele s.bef (ele l.outs i18_4)) 0)]) (EvAll.cons rfl rfl EvAll.nil) (by kernel_rfl) (fun b79 => ?_))
          refine WL.effect rfl ?_
          obtain ⟨c80, hm81⟩ := ck_some hm78; clear hm78
          refine (EV.appendL (enc := icell) (xs := v24_4) (ys := [(ele (ele s.bef (ele l.outs i18_4)) 0)]) ((v24_4 ++ [(ele (ele s.bef (ele l.outs i18_4)) 0)])) 1 (by decide) ve57 rfl rfl rfl rfl rfl (Own.blkArr 0 (rows := [(ele (ele s.bef (ele l.outs i18_4)) 0)].map icell) rfl rfl (rows_len icell_len)) icell_len (icell_one _) rfl c80.1 c80.2 (fun u82 hu83 => ?_))
          refine WL.q rfl rfl rfl (QV.fieldAddr fd59_0 rfl rfl) ?_
          refine WL.effect rfl ?_
          refine (EV.store 2 rfl rfl rfl rfl rfl rfl (vs := [u82]) (SliceLen.cells hu83) sz57 (Nat.le_of_ble_eq_true rfl) (one_cons (SliceLen.one hu83) one_nil) ?_)
          refine WL.nil ?_
          refine WQ.block ?_
          refine WQ.then ?_
          refine WC.region ?_
          refine WL.q rfl rfl rfl (QV.move rfl rfl) ?_
          obtain ⟨c84, hm85⟩ := ck_some hm81; clear hm81
          refine WL.q rfl rfl rfl (QV.add rfl rfl rfl rfl c84) ?_
          refine WL.q rfl rfl rfl (QV.assign rfl rfl) ?_
          refine WL.nil ?_
          exact WQ.again3 (v24_4 ++ [(ele (ele s.bef (ele l.outs i18_4)) 0)]) (i18_4 + 1) u82 m34 ⟨up_next hm85 hn37, hu83⟩ (Nat.lt_succ_self _) ⟨rfl, rfl, rfl, rfl, rfl, rfl, rfl, trivial⟩ (fun w hw => hw.pick [1, 2, 3, 4, 5, 6, 7, 8] (by decide))
      · skip
        have hm86 := br_f h38 hm36; clear hm36
        refine WC.exit ?_
        refine WQ.then_exit ?_
        refine WQ.then_exit ?_
        refine WQ.block_exit ?_
        exact WQ.out3 v24_4 i18_4 uv24_4 ⟨up_brk hm86 hn37, hlv24_4⟩ ⟨rfl, rfl, rfl, rfl, rfl, rfl, rfl, trivial⟩ (fun w hw => hw.pick [0, 1, 2, 3, 4, 5, 6, 7] (by decide))
  · skip
    rintro v15_3 r8_3 t9_3 hsv15_3 m87 ⟨hI88, hlv15_3, hgv15_3, hlr8_3, hgr8_3⟩
    obtain ⟨m89, s90, rfl, hm91, hn92⟩ := iter_step hI88; clear hI88; unfold roundelayref3_Play_L0 at hm91; simp only at hm91
    refine WC.seq ?_
    refine WC.seq ?_
    refine WC.region ?_
    refine WL.q rfl rfl rfl (QV.move rfl rfl) ?_
    refine WL.q rfl rfl rfl (QV.move rfl rfl) ?_
    refine WL.q rfl rfl rfl (QV.lss rfl rfl rfl rfl) ?_
    refine WL.nil ?_
    refine WQ.then ?_
    refine WC.cond rfl (fun h93 => ?_) (fun h93 => ?_)
    · skip
      have hm94 := br_t h93 hm91; clear hm91
      refine WC.skip ?_
      refine WQ.then ?_
      refine WC.seq ?_
      refine WC.block ?_
      refine WC.seq ?_
      refine WC.region ?_
      refine WL.q rfl rfl rfl (QV.move rfl rfl) ?_
      refine WL.q rfl rfl rfl (QV.move rfl rfl) ?_
      refine WL.q rfl rfl rfl (QV.fieldAddr fd51_1 rfl rfl) ?_
      refine WL.q rfl rfl rfl (QV.load pl49 rfl rfl (Own.cell 5 rfl rfl)) ?_
      refine WL.q rfl rfl rfl (QV.lenS Try.underlying49 rfl rfl (h_l_body.le hle7).lenMap) ?_
      refine WL.effect rfl ?_
      obtain ⟨c95, hm96⟩ := ck_some hm94; clear hm94
      obtain ⟨c97, hm98⟩ := ck_some hm96; clear hm96
      refine (EV.makeSlice (enc := icell) (0 : Int) (by decide) ve57 ze2 rfl rfl c95 rfl c97 (fun u99 hu100 => ?_))
      obtain ⟨c102, hm103⟩ := ck_some hm98; clear hm98
      obtain ⟨p104, hp105⟩ := hlv15_3.ix (sz := 1) ln_len c102
      refine WL.q rfl rfl rfl (QV.indexSlice sl52 rfl rfl rfl rfl hp105) ?_
      refine WL.effect rfl ?_
      refine EV.of (C' := Own M w [grid u13 hsv15_3 57 2 v15_3, vec u99 2 1 (List.map icell (List.replicate (ln l.body).toNat (0 : Int))), grid X7.1 X7.2.1 57 2 r8_3, kn M w.heap.size K0 X7.2.2, blk b3 [.slice none 0 0, .slice none 0 0] 59, blk b2 [v_s_bef, v_s_mem] 54, blk b1 [v_l_logs, v_l_body, v_l_outs] 51]) (fun w hw => hw.pick [1, 0, 2, 3, 4, 5, 6] (by decide)) ?_
      refine (EV.storeRow rfl rfl rfl rfl hp105 c102 hu100 sz57 ?_)
      have hg107 := GL.upd hgv15_3 hu100 t9_3
      have hl106 : SliceLen u13 (upd v15_3 t9_3 (List.replicate (ln l.body).toNat (0 : Int))).length := slen_upd hlv15_3
      refine WL.nil ?_
      refine WQ.then ?_
      refine WC.seq ?_
      refine WC.region ?_
      refine WL.q rfl rfl rfl (QV.assign rfl rfl) ?_
      refine WL.nil ?_
      refine WQ.then ?_
      obtain ⟨o108, ho109, hm110⟩ := bd_some hm103; clear hm103; obtain ⟨n111, ho112⟩ := lp_some ho109
      refine WC.bloop3 (H2 := [kn M w.heap.size K0 X7.2.2, blk b3 [.slice none 0 0, .slice none 0 0] 59, blk b2 [v_s_bef, v_s_mem] 54, blk b1 [v_l_logs, v_l_body, v_l_outs] 51]) (τ := [(2, (true, _)), (3, (true, _)), (4, (true, _)), (6, (true, _)), (7, (true, _)), (8, (true, _)), (9, (true, _))]) (fun (v15_5 : List (List Int)) (r8_5 : List (List Int)) (k10_5 : Int) => [(10, (true, .int .i64 k10_5))]) (fun (v15_5 : List (List Int)) (r8_5 : List (List Int)) (k10_5 : Int) => [grid u13 (upd hsv15_3 t9_3 u99) 57 2 v15_5, grid X7.1 X7.2.1 57 2 r8_5]) (fun (v15_5 : List (List Int)) (r8_5 : List (List Int)) (k10_5 : Int) (m : Nat) => iter (roundelayref3_Play_L2 l s t9_3) m (v15_5, r8_5, k10_5) = some o108 ∧ SliceLen u13 v15_5.length ∧ GL (upd hsv15_3 t9_3 u99) v15_5 ∧ SliceLen X7.1 r8_5.length ∧ GL X7.2.1 r8_5) (fun (v15_5 : List (List Int)) (r8_5 : List (List Int)) (k10_5 : Int) => o108 = .go (v15_5, r8_5, k10_5) ∧ SliceLen u13 v15_5.length ∧ GL (upd hsv15_3 t9_3 u99) v15_5 ∧ SliceLen X7.1 r8_5.length ∧ GL X7.2.1 r8_5) (upd v15_3 t9_3 (List.replicate (ln l.body).toNat (0 : Int))) r8_3 0 n111 ⟨ho112, hl106, hg107, hlr8_3, hgr8_3⟩ ⟨rfl, rfl, rfl, rfl, rfl, rfl, rfl, rfl, trivial⟩ (fun w hw => hw.pick [0, 1, 2, 3, 4, 5] (by decide)) ?_ ?_
      · skip
        rintro v15_5 r8_5 k10_5 ⟨rfl, hlv15_5, hgv15_5, hlr8_5, hgr8_5⟩
        refine WQ.block ?_
        refine WQ.then ?_
        refine WC.region ?_
        refine WL.q rfl rfl rfl (QV.move rfl rfl) ?_
        obtain ⟨c113, hm114⟩ := ck_some hm110; clear hm110
        refine WL.q rfl rfl rfl (QV.add rfl rfl rfl rfl c113) ?_
        refine WL.q rfl rfl rfl (QV.assign rfl rfl) ?_
        refine WL.nil ?_
        exact WQ.again4 v15_5 r8_5 (t9_3 + 1) (upd hsv15_3 t9_3 u99) m89 ⟨up_next hm114 hn92, hlv15_5, hgv15_5, hlr8_5, hgr8_5⟩ (Nat.lt_succ_self _) ⟨rfl, rfl, rfl, rfl, rfl, rfl, rfl, trivial⟩ (fun w hw => hw.pick [0, 1, 2, 3, 4, 5] (by decide))
      · skip
        rintro v15_5 r8_5 k10_5 m115 ⟨hI116, hlv15_5, hgv15_5, hlr8_5, hgr8_5⟩
        obtain ⟨m117, s118, rfl, hm119, hn120⟩ := iter_step hI116; clear hI116; unfold roundelayref3_Play_L2 at hm119; simp only at hm119
        refine WC.seq ?_
        refine WC.seq ?_
        refine WC.region ?_
        refine WL.q rfl rfl rfl (QV.move rfl rfl) ?_
        refine WL.q rfl rfl rfl (QV.fieldAddr fd51_1 rfl rfl) ?_
        refine WL.q rfl rfl rfl (QV.load pl49 rfl rfl (Own.cell 5 rfl rfl)) ?_
        refine WL.q rfl rfl rfl (QV.lenS Try.underlying49 rfl rfl (h_l_body.le hle7).lenMap) ?_
        refine WL.q rfl rfl rfl (QV.lss rfl rfl rfl rfl) ?_
        refine WL.nil ?_
        refine WQ.then ?_
        refine WC.cond rfl (fun h121 => ?_) (fun h121 => ?_)
        · skip
          have hm122 := br_t h121 hm119; clear hm119
          refine WC.skip ?_
          refine WQ.then ?_
          refine WC.seq ?_
          refine WC.block ?_
          refine WC.seq ?_
          refine WC.region ?_
          refine WL.q rfl rfl rfl (QV.fieldAddr fd51_1 rfl rfl) ?_
          refine WL.q rfl rfl rfl (QV.load pl49 rfl rfl (Own.cell 5 rfl rfl)) ?_
          refine WL.q rfl rfl rfl (QV.move rfl rfl) ?_
          obtain ⟨c123, hm124⟩ := ck_some hm122; clear hm122
          obtain ⟨p125, hp126⟩ := (h_l_body.le hle7).lenMap.ix (sz := 9) ln_len c123
          refine WL.q rfl rfl rfl (QV.indexSlice sl49 rfl rfl rfl rfl hp126) ?_
          refine WL.q rfl rfl rfl (QV.loadAgg ag93 rfl rfl rfl (fun w hw => ((Own.karr 2 rfl hk (h_l_body.le hle7)) w hw).ele hp126 c123)) ?_
          refine WL.effect rfl ?_
          refine (EV.alloc (by decide) ze93 (fun b127 => ?_))
          refine WL.effect rfl ?_
          refine (EV.store 0 rfl rfl rfl rfl rfl rfl (vs := [.int .i64 ((ele l.body k10_5).op), .int .i64 (((ele l.body k10_5).a).st), .int .i64 (((ele l.body k10_5).a).bk), .int .i64 (((ele l.body k10_5).b).st), .int .i64 (((ele l.body k10_5).b).bk), .int .i64 ((ele l.body k10_5).ar), .int .i64 ((ele l.body k10_5).sp), .int .i64 ((ele l.body k10_5).pl), .int .i64 ((ele l.body k10_5).n)]) (show Value.cells _ = List.toArray _ from rfl) sz93 (Nat.le_of_ble_eq_true rfl) (one_cons rfl (one_cons rfl (one_cons rfl (one_cons rfl (one_cons rfl (one_cons rfl (one_cons rfl (one_cons rfl (one_cons rfl one_nil))))))))) ?_)
          refine WL.nil ?_
          refine WQ.then ?_
          refine WC.seq ?_
          refine WC.region ?_
          refine WL.q rfl rfl rfl (QV.fieldAddr fd93_0 rfl rfl) ?_
          refine WL.q rfl rfl rfl (QV.load pl3 rfl rfl (Own.cell 0 rfl rfl)) ?_
          refine WL.nil ?_
          refine WQ.then ?_
          refine WC.block ?_
          refine WC.seq ?_
          refine WC.region ?_
          refine WL.q rfl rfl rfl (QV.eql rfl rfl rfl rfl) ?_
          refine WL.q rfl rfl rfl (QV.assign rfl rfl) ?_
          refine WL.nil ?_
          refine WQ.then ?_
          refine WC.cond rfl (fun h128 => ?_) (fun h128 => ?_)
          · skip
            have hm129 := br_t h128 hm124; clear hm124
            refine WC.dr (m := 9) (S := Own M w [kn M w.heap.size K0 X7.2.2, blk b127 [.int .i64 ((ele l.body k10_5).op), .int .i64 (((ele l.body k10_5).a).st), .int .i64 (((ele l.body k10_5).a).bk), .int .i64 (((ele l.body k10_5).b).st), .int .i64 (((ele l.body k10_5).b).bk), .int .i64 ((ele l.body k10_5).ar), .int .i64 ((ele l.body k10_5).sp), .int .i64 ((ele l.body k10_5).pl), .int .i64 ((ele l.body k10_5).n)] 93, grid u13 (upd hsv15_3 t9_3 u99) 57 2 v15_5, grid X7.1 X7.2.1 57 2 r8_5, blk b3 [.slice none 0 0, .slice none 0 0] 59, blk b2 [v_s_bef, v_s_mem] 54, blk b1 [v_l_logs, v_l_body, v_l_outs] 51]) (by kernel_rfl) (by kernel_rfl) (fun w hw => hw.pick [3, 0, 1, 2, 4, 5, 6] (by decide)) ?_
            refine WD.q 0 rfl (by kernel_rfl) rfl rfl rfl (QV.move rfl rfl) ?_
            refine WD.q 1 rfl (by kernel_rfl) rfl rfl rfl (QV.move rfl rfl) ?_
            obtain ⟨c130, hm131⟩ := ck_some hm129; clear hm129
            obtain ⟨p132, hp133⟩ := hlv15_5.ix (sz := 1) ln_len c130
            refine WD.q 2 rfl (by kernel_rfl) rfl rfl rfl (QV.indexSlice sl52 rfl rfl rfl rfl hp133) ?_
            refine WD.q 3 rfl (by kernel_rfl) rfl rfl rfl (QV.load pl57 rfl rfl (Own.gridHdr 2 rfl hp133 c130)) ?_
            refine WD.q 4 rfl (by kernel_rfl) rfl rfl rfl (QV.move rfl rfl) ?_
            refine WD.q 5 rfl (by kernel_rfl) rfl rfl rfl (QV.fieldAddr fd93_6 rfl rfl) ?_
            refine WD.q 6 rfl (by kernel_rfl) rfl rfl rfl (QV.load pl2 rfl rfl (Own.cell 1 rfl rfl)) ?_
            obtain ⟨c134, hm135⟩ := ck_some hm131; clear hm131
            obtain ⟨p136, hp137⟩ := (hgv15_5.ix t9_3).ix (sz := 1) ln_len c134
            refine WD.q 7 rfl (by kernel_rfl) rfl rfl rfl (QV.indexSlice sl57 rfl rfl rfl rfl hp137) ?_
            refine WD.l 8 rfl (by kernel_rfl) rfl ?_
            refine (EV.storeG 1 ((ele l.body k10_5).n) rfl rfl rfl rfl rfl c130 hp137 sz2 ?_)
            have hg139 := hgv15_5.updG t9_3 k10_5 ((ele l.body k10_5).n)
            have hl138 : SliceLen u13 (updG v15_5 t9_3 k10_5 ((ele l.body k10_5).n)).length := slen_updG hlv15_5
            refine WQ.block ?_
            refine WQ.block ?_
            refine WQ.then ?_
            refine WC.region ?_
            refine WL.q rfl rfl rfl (QV.move rfl rfl) ?_
            obtain ⟨c140, hm141⟩ := ck_some hm135; clear hm135
            refine WL.q rfl rfl rfl (QV.add rfl rfl rfl rfl c140) ?_
            refine WL.q rfl rfl rfl (QV.assign rfl rfl) ?_
            refine WL.nil ?_
            exact WQ.again3 (updG v15_5 t9_3 k10_5 ((ele l.body k10_5).n)) r8_5 (k10_5 + 1) m117 ⟨up_next hm141 hn120, hl138, hg139, hlr8_5, hgr8_5⟩ (Nat.lt_succ_self _) ⟨rfl, rfl, rfl, rfl, rfl, rfl, rfl, rfl, trivial⟩ (fun w hw => hw.pick [1, 2, 3, 4, 5, 6] (by decide))
          · skip
            have hm142 := br_f h128 hm124; clear hm124
            refine WC.seq ?_
            refine WC.region ?_
            refine WL.q rfl rfl rfl (QV.eql rfl rfl rfl rfl) ?_
            refine WL.q rfl rfl rfl (QV.assign rfl rfl) ?_
            refine WL.nil ?_
            refine WQ.then ?_
            refine WC.cond rfl (fun h143 => ?_) (fun h143 => ?_)
            · skip
              have hm144 := br_t h143 hm142; clear hm142
              refine WC.region ?_
              refine WL.q rfl rfl rfl (QV.move rfl rfl) ?_
              refine WL.q rfl rfl rfl (QV.move rfl rfl) ?_
              obtain ⟨c145, hm146⟩ := ck_some hm144; clear hm144
              obtain ⟨p147, hp148⟩ := hlv15_5.ix (sz := 1) ln_len c145
              refine WL.q rfl rfl rfl (QV.indexSlice sl52 rfl rfl rfl rfl hp148) ?_
              refine WL.q rfl rfl rfl (QV.load pl57 rfl rfl (Own.gridHdr 1 rfl hp148 c145)) ?_
              refine WL.q rfl rfl rfl (QV.move rfl rfl) ?_
              refine WL.q rfl rfl rfl (QV.move rfl rfl) ?_
              obtain ⟨c149, hm150⟩ := ck_some hm146; clear hm146
              obtain ⟨p151, hp152⟩ := (hgv15_5.ix t9_3).ix (sz := 1) ln_len c149
              refine WL.q rfl rfl rfl (QV.indexSlice sl57 rfl rfl rfl rfl hp152) ?_
              refine WL.effect rfl ?_
              refine (EV.storeG 1 t9_3 rfl rfl rfl rfl rfl c145 hp152 sz2 ?_)
              have hg154 := hgv15_5.updG t9_3 k10_5 t9_3
              have hl153 : SliceLen u13 (updG v15_5 t9_3 k10_5 t9_3).length := slen_updG hlv15_5
              refine WL.nil ?_
              refine WQ.block ?_
              refine WQ.block ?_
              refine WQ.then ?_
              refine WC.region ?_
              refine WL.q rfl rfl rfl (QV.move rfl rfl) ?_
              obtain ⟨c155, hm156⟩ := ck_some hm150; clear hm150
              refine WL.q rfl rfl rfl (QV.add rfl rfl rfl rfl c155) ?_
              refine WL.q rfl rfl rfl (QV.assign rfl rfl) ?_
              refine WL.nil ?_
              exact WQ.again3 (updG v15_5 t9_3 k10_5 t9_3) r8_5 (k10_5 + 1) m117 ⟨up_next hm156 hn120, hl153, hg154, hlr8_5, hgr8_5⟩ (Nat.lt_succ_self _) ⟨rfl, rfl, rfl, rfl, rfl, rfl, rfl, rfl, trivial⟩ (fun w hw => hw.pick [1, 2, 3, 4, 5, 6] (by decide))
            · skip
              have hm157 := br_f h143 hm142; clear hm142
              refine WC.seq ?_
              refine WC.region ?_
              refine WL.q rfl rfl rfl (QV.eql rfl rfl rfl rfl) ?_
              refine WL.q rfl rfl rfl (QV.assign rfl rfl) ?_
              refine WL.nil ?_
              refine WQ.then ?_
              refine WC.cond rfl (fun h158 => ?_) (fun h158 => ?_)
              · skip
                have hm159 := br_t h158 hm157; clear hm157
                refine WC.seq ?_
                refine WC.dr (m := 13) (S := Own M w [kn M w.heap.size K0 X7.2.2, blk b127 [.int .i64 ((ele l.body k10_5).op), .int .i64 (((ele l.body k10_5).a).st), .int .i64 (((ele l.body k10_5).a).bk), .int .i64 (((ele l.body k10_5).b).st), .int .i64 (((ele l.body k10_5).b).bk), .int .i64 ((ele l.body k10_5).ar), .int .i64 ((ele l.body k10_5).sp), .int .i64 ((ele l.body k10_5).pl), .int .i64 ((ele l.body k10_5).n)] 93, grid u13 (upd hsv15_3 t9_3 u99) 57 2 v15_5, grid X7.1 X7.2.1 57 2 r8_5, blk b3 [.slice none 0 0, .slice none 0 0] 59, blk b2 [v_s_bef, v_s_mem] 54, blk b1 [v_l_logs, v_l_body, v_l_outs] 51]) (by kernel_rfl) (by kernel_rfl) (fun w hw => hw.pick [3, 0, 1, 2, 4, 5, 6] (by decide)) ?_
                refine WD.q 0 rfl (by kernel_rfl) rfl rfl rfl (QV.fieldAddr fd93_4 rfl rfl) ?_
                refine WD.q 1 rfl (by kernel_rfl) rfl rfl rfl (QV.load pl3 rfl rfl (Own.cell 1 rfl rfl)) ?_
                refine WD.q 2 rfl (by kernel_rfl) rfl rfl rfl (QV.fieldAddr fd93_5 rfl rfl) ?_
                refine WD.q 3 rfl (by kernel_rfl) rfl rfl rfl (QV.load pl3 rfl rfl (Own.cell 1 rfl rfl)) ?_
                refine WD.q 4 rfl (by kernel_rfl) rfl rfl rfl (QV.move rfl rfl) ?_
                refine WD.q 5 rfl (by kernel_rfl) rfl rfl rfl (QV.fieldAddr fd51_0 rfl rfl) ?_
                refine WD.q 6 rfl (by kernel_rfl) rfl rfl rfl (QV.load pl48 rfl rfl (Own.cell 6 rfl rfl)) ?_
                refine WD.q 7 rfl (by kernel_rfl) rfl rfl rfl (QV.fieldAddr fd93_3 rfl rfl) ?_
                refine WD.q 8 rfl (by kernel_rfl) rfl rfl rfl (QV.load pl3 rfl rfl (Own.cell 1 rfl rfl)) ?_
                obtain ⟨c160, hm161⟩ := ck_some hm159; clear hm159
                obtain ⟨p162, hp163⟩ := (h_l_logs.le hle7).lenMap.ix (sz := 1) ln_len c160
                refine WD.q 9 rfl (by kernel_rfl) rfl rfl rfl (QV.indexSlice sl48 rfl rfl rfl rfl hp163) ?_
                refine WD.q 10 rfl (by kernel_rfl) rfl rfl rfl (QV.load pl3 rfl rfl (fun w hw => CellsAt.one 0 (((Own.karr 0 rfl hk (h_l_logs.le hle7)) w hw).ele hp163 c160) rfl)) ?_
                obtain ⟨x164, hx165, hm166⟩ := bd_some hm161; clear hm161
                refine WD.q 11 rfl (by kernel_rfl) rfl rfl rfl (QV.call en27 (EvAll.cons rfl rfl (EvAll.cons rfl rfl (EvAll.cons rfl rfl (EvAll.cons rfl rfl EvAll.nil)))) (fun w hw => have h := roundelayref1_Index_w w hx165 ; h)) ?_
                refine WD.q 12 rfl (by kernel_rfl) rfl rfl rfl (QV.assign rfl rfl) ?_
                refine WD.e (by kernel_rfl) ?_
                refine WQ.then ?_
                refine WC.dr (m := 15) (S := Own M w [kn M w.heap.size K0 X7.2.2, blk b127 [.int .i64 ((ele l.body k10_5).op), .int .i64 (((ele l.body k10_5).a).st), .int .i64 (((ele l.body k10_5).a).bk), .int .i64 (((ele l.body k10_5).b).st), .int .i64 (((ele l.body k10_5).b).bk), .int .i64 ((ele l.body k10_5).ar), .int .i64 ((ele l.body k10_5).sp), .int .i64 ((ele l.body k10_5).pl), .int .i64 ((ele l.body k10_5).n)] 93, grid u13 (upd hsv15_3 t9_3 u99) 57 2 v15_5, grid X7.1 X7.2.1 57 2 r8_5, blk b3 [.slice none 0 0, .slice none 0 0] 59, blk b2 [v_s_bef, v_s_mem] 54, blk b1 [v_l_logs, v_l_body, v_l_outs] 51]) (by kernel_rfl) (by kernel_rfl) (fun w hw => hw.pick [3, 0, 1, 2, 4, 5, 6] (by decide)) ?_
                refine WD.q 0 rfl (by kernel_rfl) rfl rfl rfl (QV.move rfl rfl) ?_
                refine WD.q 1 rfl (by kernel_rfl) rfl rfl rfl (QV.move rfl rfl) ?_
                obtain ⟨c167, hm168⟩ := ck_some hm166; clear hm166
                obtain ⟨p169, hp170⟩ := hlv15_5.ix (sz := 1) ln_len c167
                refine WD.q 2 rfl (by kernel_rfl) rfl rfl rfl (QV.indexSlice sl52 rfl rfl rfl rfl hp170) ?_
                refine WD.q 3 rfl (by kernel_rfl) rfl rfl rfl (QV.load pl57 rfl rfl (Own.gridHdr 2 rfl hp170 c167)) ?_
                refine WD.q 4 rfl (by kernel_rfl) rfl rfl rfl (QV.move rfl rfl) ?_
                refine WD.q 5 rfl (by kernel_rfl) rfl rfl rfl (QV.move rfl rfl) ?_
                refine WD.q 6 rfl (by kernel_rfl) rfl rfl rfl (QV.fieldAddr fd93_3 rfl rfl) ?_
                refine WD.q 7 rfl (by kernel_rfl) rfl rfl rfl (QV.load pl3 rfl rfl (Own.cell 1 rfl rfl)) ?_
                obtain ⟨c171, hm172⟩ := ck_some hm168; clear hm168
                obtain ⟨p173, hp174⟩ := hlr8_5.ix (sz := 1) ln_len c171
                refine WD.q 8 rfl (by kernel_rfl) rfl rfl rfl (QV.indexSlice sl52 rfl rfl rfl rfl hp174) ?_
                refine WD.q 9 rfl (by kernel_rfl) rfl rfl rfl (QV.load pl57 rfl rfl (Own.gridHdr 3 rfl hp174 c171)) ?_
                refine WD.q 10 rfl (by kernel_rfl) rfl rfl rfl (QV.move rfl rfl) ?_
                obtain ⟨c175, hm176⟩ := ck_some hm172; clear hm172
                obtain ⟨p177, hp178⟩ := (hgr8_5.ix ((ele l.body k10_5).ar)).ix (sz := 1) ln_len c175
                refine WD.q 11 rfl (by kernel_rfl) rfl rfl rfl (QV.indexSlice sl57 rfl rfl rfl rfl hp178) ?_
                refine WD.q 12 rfl (by kernel_rfl) rfl rfl rfl (QV.load pl2 rfl rfl (fun w hw => CellsAt.one 0 (((Own.gridArr 3 rfl c171) w hw).ele hp178 c175) rfl)) ?_
                obtain ⟨c179, hm180⟩ := ck_some hm176; clear hm176
                obtain ⟨p181, hp182⟩ := (hgv15_5.ix t9_3).ix (sz := 1) ln_len c179
                refine WD.q 13 rfl (by kernel_rfl) rfl rfl rfl (QV.indexSlice sl57 rfl rfl rfl rfl hp182) ?_
                refine WD.l 14 rfl (by kernel_rfl) rfl ?_
                refine (EV.storeG 1 (ele (ele r8_5 ((ele l.body k10_5).ar)) x164) rfl rfl rfl rfl rfl c167 hp182 sz2 ?_)
                have hg184 := hgv15_5.updG t9_3 k10_5 (ele (ele r8_5 ((ele l.body k10_5).ar)) x164)
                have hl183 : SliceLen u13 (updG v15_5 t9_3 k10_5 (ele (ele r8_5 ((ele l.body k10_5).ar)) x164)).length := slen_updG hlv15_5
                refine WQ.block ?_
                refine WQ.block ?_
                refine WQ.then ?_
                refine WC.region ?_
                refine WL.q rfl rfl rfl (QV.move rfl rfl) ?_
                obtain ⟨c185, hm186⟩ := ck_some hm180; clear hm180
                refine WL.q rfl rfl rfl (QV.add rfl rfl rfl rfl c185) ?_
                refine WL.q rfl rfl rfl (QV.assign rfl rfl) ?_
                refine WL.nil ?_
                exact WQ.again3 (updG v15_5 t9_3 k10_5 (ele (ele r8_5 ((ele l.body k10_5).ar)) x164)) r8_5 (k10_5 + 1) m117 ⟨up_next hm186 hn120, hl183, hg184, hlr8_5, hgr8_5⟩ (Nat.lt_succ_self _) ⟨rfl, rfl, rfl, rfl, rfl, rfl, rfl, rfl, trivial⟩ (fun w hw => hw.pick [1, 2, 3, 4, 5, 6] (by decide))
              · skip
                have hm187 := br_f h158 hm157; clear hm157
                refine WC.seq ?_
                refine WC.region ?_
                refine WL.q rfl rfl rfl (QV.eql rfl rfl rfl rfl) ?_
                refine WL.q rfl rfl rfl (QV.assign rfl rfl) ?_
                refine WL.nil ?_
                refine WQ.then ?_
                refine WC.cond rfl (fun h188 => ?_) (fun h188 => ?_)
                · skip
                  have hm189 := br_t h188 hm187; clear hm187
                  refine WC.seq ?_
                  refine WC.dr (m := 13) (S := Own M w [kn M w.heap.size K0 X7.2.2, blk b127 [.int .i64 ((ele l.body k10_5).op), .int .i64 (((ele l.body k10_5).a).st), .int .i64 (((ele l.body k10_5).a).bk), .int .i64 (((ele l.body k10_5).b).st), .int .i64 (((ele l.body k10_5).b).bk), .int .i64 ((ele l.body k10_5).ar), .int .i64 ((ele l.body k10_5).sp), .int .i64 ((ele l.body k10_5).pl), .int .i64 ((ele l.body k10_5).n)] 93, grid u13 (upd hsv15_3 t9_3 u99) 57 2 v15_5, grid X7.1 X7.2.1 57 2 r8_5, blk b3 [.slice none 0 0, .slice none 0 0] 59, blk b2 [v_s_bef, v_s_mem] 54, blk b1 [v_l_logs, v_l_body, v_l_outs] 51]) (by kernel_rfl) (by kernel_rfl) (fun w hw => hw.pick [3, 0, 1, 2, 4, 5, 6] (by decide)) ?_
                  refine WD.q 0 rfl (by kernel_rfl) rfl rfl rfl (QV.fieldAddr fd93_4 rfl rfl) ?_
                  refine WD.q 1 rfl (by kernel_rfl) rfl rfl rfl (QV.load pl3 rfl rfl (Own.cell 1 rfl rfl)) ?_
                  refine WD.q 2 rfl (by kernel_rfl) rfl rfl rfl (QV.fieldAddr fd93_5 rfl rfl) ?_
                  refine WD.q 3 rfl (by kernel_rfl) rfl rfl rfl (QV.load pl3 rfl rfl (Own.cell 1 rfl rfl)) ?_
                  refine WD.q 4 rfl (by kernel_rfl) rfl rfl rfl (QV.move rfl rfl) ?_
                  refine WD.q 5 rfl (by kernel_rfl) rfl rfl rfl (QV.fieldAddr fd51_0 rfl rfl) ?_
                  refine WD.q 6 rfl (by kernel_rfl) rfl rfl rfl (QV.load pl48 rfl rfl (Own.cell 6 rfl rfl)) ?_
                  refine WD.q 7 rfl (by kernel_rfl) rfl rfl rfl (QV.fieldAddr fd93_3 rfl rfl) ?_
                  refine WD.q 8 rfl (by kernel_rfl) rfl rfl rfl (QV.load pl3 rfl rfl (Own.cell 1 rfl rfl)) ?_
                  obtain ⟨c190, hm191⟩ := ck_some hm189; clear hm189
                  obtain ⟨p192, hp193⟩ := (h_l_logs.le hle7).lenMap.ix (sz := 1) ln_len c190
                  refine WD.q 9 rfl (by kernel_rfl) rfl rfl rfl (QV.indexSlice sl48 rfl rfl rfl rfl hp193) ?_
                  refine WD.q 10 rfl (by kernel_rfl) rfl rfl rfl (QV.load pl3 rfl rfl (fun w hw => CellsAt.one 0 (((Own.karr 0 rfl hk (h_l_logs.le hle7)) w hw).ele hp193 c190) rfl)) ?_
                  obtain ⟨x194, hx195, hm196⟩ := bd_some hm191; clear hm191
                  refine WD.q 11 rfl (by kernel_rfl) rfl rfl rfl (QV.call en27 (EvAll.cons rfl rfl (EvAll.cons rfl rfl (EvAll.cons rfl rfl (EvAll.cons rfl rfl EvAll.nil)))) (fun w hw => have h := roundelayref1_Index_w w hx195 ; h)) ?_
                  refine WD.q 12 rfl (by kernel_rfl) rfl rfl rfl (QV.assign rfl rfl) ?_
                  refine WD.e (by kernel_rfl) ?_
                  refine WQ.then ?_
                  refine WC.seq ?_
                  refine WC.region ?_
                  refine WL.q rfl rfl rfl (QV.loadAgg ag54 rfl rfl rfl (Own.cellsBlk 5 rfl)) ?_
                  refine WL.q rfl rfl rfl (QV.move rfl rfl) ?_
                  refine WL.q rfl rfl rfl (QV.fieldAddr fd93_1 rfl rfl) ?_
                  refine WL.q rfl rfl rfl (QV.loadAgg ag91 rfl rfl rfl (fun w hw => (Own.cellsBlk 0 rfl w hw).sub 1 2 rfl)) ?_
                  refine WL.q rfl rfl rfl (QV.move rfl rfl) ?_
                  obtain ⟨x197, hx198, hm199⟩ := bd_some hm196; clear hm196
                  refine WL.q rfl rfl rfl (QV.call en56 (EvAll.cons rfl rfl (EvAll.cons rfl rfl (EvAll.cons rfl rfl (EvAll.cons rfl rfl EvAll.nil)))) (fun w hw => have h := roundelayref3_is_w w hx198 (Own.krows 3 rfl hk (h_s_bef.le hle7) w hw) (Own.krows 3 rfl hk (h_s_mem.le hle7) w hw) (Own.gridRows 1 rfl w hw); h)) ?_
                  refine WL.q rfl rfl rfl (QV.assign rfl rfl) ?_
                  refine WL.nil ?_
                  refine WQ.then ?_
                  refine WC.seq ?_
                  refine WC.region ?_
                  refine WL.q rfl rfl rfl (QV.move rfl rfl) ?_
                  refine WL.q rfl rfl rfl (QV.fieldAddr fd93_3 rfl rfl) ?_
                  refine WL.q rfl rfl rfl (QV.load pl3 rfl rfl (Own.cell 0 rfl rfl)) ?_
                  obtain ⟨c200, hm201⟩ := ck_some hm199; clear hm199
                  obtain ⟨p202, hp203⟩ := hlr8_5.ix (sz := 1) ln_len c200
                  refine WL.q rfl rfl rfl (QV.indexSlice sl52 rfl rfl rfl rfl hp203) ?_
                  refine WL.q rfl rfl rfl (QV.load pl57 rfl rfl (Own.gridHdr 2 rfl hp203 c200)) ?_
                  refine WL.q rfl rfl rfl (QV.move rfl rfl) ?_
                  refine WL.q rfl rfl rfl (QV.move rfl rfl) ?_
                  obtain ⟨c204, hm205⟩ := ck_some hm201; clear hm201
                  obtain ⟨p206, hp207⟩ := (hgr8_5.ix ((ele l.body k10_5).ar)).ix (sz := 1) ln_len c204
                  refine WL.q rfl rfl rfl (QV.indexSlice sl57 rfl rfl rfl rfl hp207) ?_
                  refine WL.effect rfl ?_
                  refine (EV.storeG 2 x197 rfl rfl rfl rfl rfl c200 hp207 sz2 ?_)
                  have hg209 := hgr8_5.updG ((ele l.body k10_5).ar) x194 x197
                  have hl208 : SliceLen X7.1 (updG r8_5 ((ele l.body k10_5).ar) x194 x197).length := slen_updG hlr8_5
                  refine WL.nil ?_
                  refine WQ.then ?_
                  refine WC.region ?_
                  refine WL.q rfl rfl rfl (QV.move rfl rfl) ?_
                  refine WL.q rfl rfl rfl (QV.move rfl rfl) ?_
                  obtain ⟨c210, hm211⟩ := ck_some hm205; clear hm205
                  obtain ⟨p212, hp213⟩ := hlv15_5.ix (sz := 1) ln_len c210
                  refine WL.q rfl rfl rfl (QV.indexSlice sl52 rfl rfl rfl rfl hp213) ?_
                  refine WL.q rfl rfl rfl (QV.load pl57 rfl rfl (Own.gridHdr 1 rfl hp213 c210)) ?_
                  refine WL.q rfl rfl rfl (QV.move rfl rfl) ?_
                  refine WL.q rfl rfl rfl (QV.move rfl rfl) ?_
                  obtain ⟨c214, hm215⟩ := ck_some hm211; clear hm211
                  obtain ⟨p216, hp217⟩ := (hgv15_5.ix t9_3).ix (sz := 1) ln_len c214
                  refine WL.q rfl rfl rfl (QV.indexSlice sl57 rfl rfl rfl rfl hp217) ?_
                  refine WL.effect rfl ?_
                  refine (EV.storeG 1 x197 rfl rfl rfl rfl rfl c210 hp217 sz2 ?_)
                  have hg219 := hgv15_5.updG t9_3 k10_5 x197
                  have hl218 : SliceLen u13 (updG v15_5 t9_3 k10_5 x197).length := slen_updG hlv15_5
                  refine WL.nil ?_
                  refine WQ.block ?_
                  refine WQ.block ?_
                  refine WQ.then ?_
                  refine WC.region ?_
                  refine WL.q rfl rfl rfl (QV.move rfl rfl) ?_
                  obtain ⟨c220, hm221⟩ := ck_some hm215; clear hm215
                  refine WL.q rfl rfl rfl (QV.add rfl rfl rfl rfl c220) ?_
                  refine WL.q rfl rfl rfl (QV.assign rfl rfl) ?_
                  refine WL.nil ?_
                  exact WQ.again3 (updG v15_5 t9_3 k10_5 x197) (updG r8_5 ((ele l.body k10_5).ar) x194 x197) (k10_5 + 1) m117 ⟨up_next hm221 hn120, hl218, hg219, hl208, hg209⟩ (Nat.lt_succ_self _) ⟨rfl, rfl, rfl, rfl, rfl, rfl, rfl, rfl, trivial⟩ (fun w hw => hw.pick [1, 2, 3, 4, 5, 6] (by decide))
                · skip
                  have hm222 := br_f h188 hm187; clear hm187
                  refine WC.seq ?_
                  refine WC.region ?_
                  refine WL.q rfl rfl rfl (QV.loadAgg ag54 rfl rfl rfl (Own.cellsBlk 5 rfl)) ?_
                  refine WL.q rfl rfl rfl (QV.move rfl rfl) ?_
                  refine WL.q rfl rfl rfl (QV.fieldAddr fd93_1 rfl rfl) ?_
                  refine WL.q rfl rfl rfl (QV.loadAgg ag91 rfl rfl rfl (fun w hw => (Own.cellsBlk 0 rfl w hw).sub 1 2 rfl)) ?_
                  refine WL.q rfl rfl rfl (QV.move rfl rfl) ?_
                  obtain ⟨x223, hx224, hm225⟩ := bd_some hm222; clear hm222
                  refine WL.q rfl rfl rfl (QV.call en56 (EvAll.cons rfl rfl (EvAll.cons rfl rfl (EvAll.cons rfl rfl (EvAll.cons rfl rfl EvAll.nil)))) (fun w hw => have h := roundelayref3_is_w w hx224 (Own.krows 3 rfl hk (h_s_bef.le hle7) w hw) (Own.krows 3 rfl hk (h_s_mem.le hle7) w hw) (Own.gridRows 1 rfl w hw); h)) ?_
                  refine WL.q rfl rfl rfl (QV.assign rfl rfl) ?_
                  refine WL.nil ?_
                  refine WQ.then ?_
                  refine WC.seq ?_
                  refine WC.region ?_
                  refine WL.q rfl rfl rfl (QV.loadAgg ag54 rfl rfl rfl (Own.cellsBlk 5 rfl)) ?_
                  refine WL.q rfl rfl rfl (QV.move rfl rfl) ?_
                  refine WL.q rfl rfl rfl (QV.fieldAddr fd93_2 rfl rfl) ?_
                  refine WL.q rfl rfl rfl (QV.loadAgg ag91 rfl rfl rfl (fun w hw => (Own.cellsBlk 0 rfl w hw).sub 3 2 rfl)) ?_
                  refine WL.q rfl rfl rfl (QV.move rfl rfl) ?_
                  obtain ⟨x226, hx227, hm228⟩ := bd_some hm225; clear hm225
                  refine WL.q rfl rfl rfl (QV.call en56 (EvAll.cons rfl rfl (EvAll.cons rfl rfl (EvAll.cons rfl rfl (EvAll.cons rfl rfl EvAll.nil)))) (fun w hw => have h := roundelayref3_is_w w hx227 (Own.krows 3 rfl hk (h_s_bef.le hle7) w hw) (Own.krows 3 rfl hk (h_s_mem.le hle7) w hw) (Own.gridRows 1 rfl w hw); h)) ?_
                  refine WL.q rfl rfl rfl (QV.assign rfl rfl) ?_
                  refine WL.nil ?_
                  refine WQ.then ?_
                  refine WC.dr (m := 13) (S := Own M w [kn M w.heap.size K0 X7.2.2, blk b127 [.int .i64 ((ele l.body k10_5).op), .int .i64 (((ele l.body k10_5).a).st), .int .i64 (((ele l.body k10_5).a).bk), .int .i64 (((ele l.body k10_5).b).st), .int .i64 (((ele l.body k10_5).b).bk), .int .i64 ((ele l.body k10_5).ar), .int .i64 ((ele l.body k10_5).sp), .int .i64 ((ele l.body k10_5).pl), .int .i64 ((ele l.body k10_5).n)] 93, grid u13 (upd hsv15_3 t9_3 u99) 57 2 v15_5, grid X7.1 X7.2.1 57 2 r8_5, blk b3 [.slice none 0 0, .slice none 0 0] 59, blk b2 [v_s_bef, v_s_mem] 54, blk b1 [v_l_logs, v_l_body, v_l_outs] 51]) (by kernel_rfl) (by kernel_rfl) (fun w hw => hw.pick [3, 0, 1, 2, 4, 5, 6] (by decide)) ?_
                  refine WD.q 0 rfl (by kernel_rfl) rfl rfl rfl (QV.move rfl rfl) ?_
                  refine WD.q 1 rfl (by kernel_rfl) rfl rfl rfl (QV.move rfl rfl) ?_
                  obtain ⟨c229, hm230⟩ := ck_some hm228; clear hm228
                  obtain ⟨p231, hp232⟩ := hlv15_5.ix (sz := 1) ln_len c229
                  refine WD.q 2 rfl (by kernel_rfl) rfl rfl rfl (QV.indexSlice sl52 rfl rfl rfl rfl hp232) ?_
                  refine WD.q 3 rfl (by kernel_rfl) rfl rfl rfl (QV.load pl57 rfl rfl (Own.gridHdr 2 rfl hp232 c229)) ?_
                  refine WD.q 4 rfl (by kernel_rfl) rfl rfl rfl (QV.move rfl rfl) ?_
                  refine WD.q 5 rfl (by kernel_rfl) rfl rfl rfl (QV.fieldAddr fd93_0 rfl rfl) ?_
                  refine WD.q 6 rfl (by kernel_rfl) rfl rfl rfl (QV.load pl3 rfl rfl (Own.cell 1 rfl rfl)) ?_
                  obtain ⟨c233, hm234⟩ := ck_some hm230; clear hm230
                  refine WD.q 7 rfl (by kernel_rfl) rfl rfl rfl (QV.sub rfl rfl rfl rfl c233) ?_
                  refine WD.q 8 rfl (by kernel_rfl) rfl rfl rfl (QV.move rfl rfl) ?_
                  refine WD.q 9 rfl (by kernel_rfl) rfl rfl rfl (QV.move rfl rfl) ?_
                  obtain ⟨x235, hx236, hm237⟩ := bd_some hm234; clear hm234
                  refine WD.q 10 rfl (by kernel_rfl) rfl rfl rfl (QV.call en25 (EvAll.cons rfl rfl (EvAll.cons rfl rfl (EvAll.cons rfl rfl EvAll.nil))) (fun w hw => have h := roundelayref1_Op_w w hx236 ; h)) ?_
                  obtain ⟨c238, hm239⟩ := ck_some hm237; clear hm237
                  obtain ⟨p240, hp241⟩ := (hgv15_5.ix t9_3).ix (sz := 1) ln_len c238
                  refine WD.q 11 rfl (by kernel_rfl) rfl rfl rfl (QV.indexSlice sl57 rfl rfl rfl rfl hp241) ?_
                  refine WD.l 12 rfl (by kernel_rfl) rfl ?_
                  refine (EV.storeG 1 x235 rfl rfl rfl rfl rfl c229 hp241 sz2 ?_)
                  have hg243 := hgv15_5.updG t9_3 k10_5 x235
                  have hl242 : SliceLen u13 (updG v15_5 t9_3 k10_5 x235).length := slen_updG hlv15_5
                  refine WQ.block ?_
                  refine WQ.block ?_
                  refine WQ.then ?_
                  refine WC.region ?_
                  refine WL.q rfl rfl rfl (QV.move rfl rfl) ?_
                  obtain ⟨c244, hm245⟩ := ck_some hm239; clear hm239
                  refine WL.q rfl rfl rfl (QV.add rfl rfl rfl rfl c244) ?_
                  refine WL.q rfl rfl rfl (QV.assign rfl rfl) ?_
                  refine WL.nil ?_
                  exact WQ.again3 (updG v15_5 t9_3 k10_5 x235) r8_5 (k10_5 + 1) m117 ⟨up_next hm245 hn120, hl242, hg243, hlr8_5, hgr8_5⟩ (Nat.lt_succ_self _) ⟨rfl, rfl, rfl, rfl, rfl, rfl, rfl, rfl, trivial⟩ (fun w hw => hw.pick [1, 2, 3, 4, 5, 6] (by decide))
        · skip
          have hm246 := br_f h121 hm119; clear hm119
          refine WC.exit ?_
          refine WQ.then_exit ?_
          refine WQ.then_exit ?_
          refine WQ.block_exit ?_
          exact WQ.out3 v15_5 r8_5 k10_5 ⟨up_brk hm246 hn120, hlv15_5, hgv15_5, hlr8_5, hgr8_5⟩ ⟨rfl, rfl, rfl, rfl, rfl, rfl, rfl, rfl, trivial⟩ (fun w hw => hw.pick [0, 1, 2, 3, 4, 5] (by decide))
    · skip
      have hm247 := br_f h93 hm91; clear hm91
      refine WC.exit ?_
      refine WQ.then_exit ?_
      refine WQ.then_exit ?_
      refine WQ.block_exit ?_
      exact WQ.out4 v15_3 r8_3 t9_3 hsv15_3 ⟨up_brk hm247 hn92, hlv15_3, hgv15_3, hlr8_3, hgr8_3⟩ ⟨rfl, rfl, rfl, rfl, rfl, rfl, rfl, trivial⟩ (fun w hw => hw.pick [0, 1, 2, 3, 4, 5] (by decide))
end Go.Proofs.Ytaimbkndebaaiaa
