/- Walks: the functions do what the models say. -/
import Derived.Test.YtaimbkndebaaiabMOrd
import Derived.Test.YtaimbkndebaaiabProg
import Derived.KernelRfl
namespace Go.Proofs.Ytaimbkndebaaiab
open Go.Rd
set_option linter.unusedVariables false
set_option linter.unusedSimpArgs false
namespace TOrd
theorem en107 : Go.Rd.Enters Try.prog 107 := ⟨Try.f107, Try.func107, by kernel_rfl, by kernel_rfl⟩
theorem en108 : Go.Rd.Enters Try.prog 108 := ⟨Try.f108, Try.func108, by kernel_rfl, by kernel_rfl⟩
theorem en132 : Go.Rd.Enters Try.prog 132 := ⟨Try.f132, Try.func132, by kernel_rfl, by kernel_rfl⟩
theorem fd61_0 : FieldT Try.prog 61 0 0 := ⟨_, _, 0, Try.underlying61, rfl, rfl, by kernel_rfl⟩
theorem fd61_1 : FieldT Try.prog 61 1 1 := ⟨_, _, 0, Try.underlying61, rfl, rfl, by kernel_rfl⟩
theorem fd61_2 : FieldT Try.prog 61 2 2 := ⟨_, _, 0, Try.underlying61, rfl, rfl, by kernel_rfl⟩
theorem fd61_3 : FieldT Try.prog 61 3 3 := ⟨_, _, 0, Try.underlying61, rfl, rfl, by kernel_rfl⟩
theorem pl3 : Plain Try.prog 3 := ⟨_, Try.underlying3, rfl⟩
theorem sl30 : SliceT Try.prog 30 3 1 := ⟨Try.underlying30, by kernel_rfl⟩
theorem sz_30 : SliceZ Try.prog 30 3 1 [.int .i64 0] := ⟨Try.underlying30, by kernel_rfl⟩
end TOrd
open TOrd
set_option maxRecDepth 8000 in
theorem cmp_isNaN_int__w {x : Int} {r : Bool} (w : World) (hm : cmp_isNaN_int__m x = some r)  : Calls Try.prog 132 #[.int .i64 x] w (fun e w' => e = .returned (.bool r) ∧ Grow w w') := by
  unfold cmp_isNaN_int__m at hm
  have hk := Base.rfl (w := w)
  refine calls_of_WC (n := 6) (args := [.int .i64 x]) Try.func132 rfl rfl (Nat.le_of_ble_eq_true rfl) ?_ (Own.startK hk (Own.start w))
  refine WC.seq ?_
  refine WC.region ?_
  refine WL.q rfl rfl rfl (QV.assign rfl rfl) ?_
  refine WL.nil ?_
  refine WQ.then ?_
  refine WC.seq ?_
  refine WC.region ?_
  refine WL.q rfl rfl rfl (QV.move rfl rfl) ?_
  refine WL.q rfl rfl rfl (QV.move rfl rfl) ?_
  refine WL.q rfl rfl rfl (QV.neq rfl rfl rfl rfl) ?_
  refine WL.q rfl rfl rfl (QV.assign rfl rfl) ?_
  refine WL.nil ?_
  refine WQ.then ?_
  refine WC.ret ?_
  obtain rfl := (eq_of_some hm).symm
  refine WQ.ret1 rfl rfl (fun w hw => ?_)
  exact ⟨rfl, Own.kgrow (fun _ x => x) hw⟩

set_option maxRecDepth 8000 in
theorem cmp_Compare_int__w {x : Int} {y : Int} {r : Int} (w : World) (hm : cmp_Compare_int__m x y = some r)  : Calls Try.prog 108 #[.int .i64 x, .int .i64 y] w (fun e w' => e = .returned (.int .i64 r) ∧ Grow w w') := by
  unfold cmp_Compare_int__m at hm
  have hk := Base.rfl (w := w)
  refine calls_of_WC (n := 20) (args := [.int .i64 x, .int .i64 y]) Try.func108 rfl rfl (Nat.le_of_ble_eq_true rfl) ?_ (Own.startK hk (Own.start w))
  refine WC.seq ?_
  refine WC.region ?_
  refine WL.q rfl rfl rfl (QV.assign rfl rfl) ?_
  refine WL.nil ?_
  refine WQ.then ?_
  refine WC.seq ?_
  refine WC.region ?_
  refine WL.q rfl rfl rfl (QV.move rfl rfl) ?_
  obtain ⟨x1, hx2, hm3⟩ := bd_some hm; clear hm
  refine WL.q rfl rfl rfl (QV.call en132 (EvAll.cons rfl rfl EvAll.nil) (fun w hw => have h := cmp_isNaN_int__w w hx2 ; h)) ?_
  refine WL.q rfl rfl rfl (QV.assign rfl rfl) ?_
  refine WL.nil ?_
  refine WQ.then ?_
  refine WC.seq ?_
  refine WC.region ?_
  refine WL.q rfl rfl rfl (QV.move rfl rfl) ?_
  obtain ⟨x4, hx5, hm6⟩ := bd_some hm3; clear hm3
  refine WL.q rfl rfl rfl (QV.call en132 (EvAll.cons rfl rfl EvAll.nil) (fun w hw => have h := cmp_isNaN_int__w w hx5 ; h)) ?_
  refine WL.q rfl rfl rfl (QV.assign rfl rfl) ?_
  refine WL.nil ?_
  refine WQ.then ?_
  refine WC.seq ?_
  refine WC.seq ?_
  refine WC.region ?_
  refine WL.q rfl rfl rfl (QV.move rfl rfl) ?_
  refine WL.nil ?_
  refine WQ.then ?_
  refine WC.cond rfl (fun h7 => ?_) (fun h7 => ?_)
  · skip
    have hm8 := br_t h7 hm6; clear hm6
    refine WC.seq ?_
    refine WC.seq ?_
    refine WC.region ?_
    refine WL.q rfl rfl rfl (QV.move rfl rfl) ?_
    refine WL.nil ?_
    refine WQ.then ?_
    refine WC.cond rfl (fun h9 => ?_) (fun h9 => ?_)
    · skip
      have hm10 := br_t h9 hm8; clear hm8
      refine WC.seq ?_
      refine WC.region ?_
      refine WL.q rfl rfl rfl (QV.assign rfl rfl) ?_
      refine WL.nil ?_
      refine WQ.then ?_
      refine WC.ret ?_
      refine WQ.then_ret ?_
      refine WQ.then_ret ?_
      obtain rfl := (eq_of_some hm10).symm
      refine WQ.ret1 rfl rfl (fun w hw => ?_)
      exact ⟨rfl, Own.kgrow (fun _ x => x) hw⟩
    · skip
      have hm11 := br_f h9 hm8; clear hm8
      refine WC.skip ?_
      refine WQ.then ?_
      refine WC.seq ?_
      refine WC.region ?_
      refine WL.q rfl rfl rfl (QV.assign rfl rfl) ?_
      refine WL.nil ?_
      refine WQ.then ?_
      refine WC.ret ?_
      refine WQ.then_ret ?_
      obtain rfl := (eq_of_some hm11).symm
      refine WQ.ret1 rfl rfl (fun w hw => ?_)
      exact ⟨rfl, Own.kgrow (fun _ x => x) hw⟩
  · skip
    have hm12 := br_f h7 hm6; clear hm6
    refine WC.skip ?_
    refine WQ.then ?_
    refine WC.seq ?_
    refine WC.seq ?_
    refine WC.region ?_
    refine WL.q rfl rfl rfl (QV.move rfl rfl) ?_
    refine WL.nil ?_
    refine WQ.then ?_
    refine WC.cond rfl (fun h13 => ?_) (fun h13 => ?_)
    · skip
      have hm14 := br_t h13 hm12; clear hm12
      refine WC.seq ?_
      refine WC.region ?_
      refine WL.q rfl rfl rfl (QV.assign rfl rfl) ?_
      refine WL.nil ?_
      refine WQ.then ?_
      refine WC.ret ?_
      refine WQ.then_ret ?_
      obtain rfl := (eq_of_some hm14).symm
      refine WQ.ret1 rfl rfl (fun w hw => ?_)
      exact ⟨rfl, Own.kgrow (fun _ x => x) hw⟩
    · skip
      have hm15 := br_f h13 hm12; clear hm12
      refine WC.skip ?_
      refine WQ.then ?_
      refine WC.seq ?_
      refine WC.seq ?_
      refine WC.region ?_
      refine WL.q rfl rfl rfl (QV.move rfl rfl) ?_
      refine WL.q rfl rfl rfl (QV.move rfl rfl) ?_
      refine WL.q rfl rfl rfl (QV.lss rfl rfl rfl rfl) ?_
      refine WL.nil ?_
      refine WQ.then ?_
      refine WC.cond rfl (fun h16 => ?_) (fun h16 => ?_)
      · skip
        have hm17 := br_t h16 hm15; clear hm15
        refine WC.seq ?_
        refine WC.region ?_
        refine WL.q rfl rfl rfl (QV.assign rfl rfl) ?_
        refine WL.nil ?_
        refine WQ.then ?_
        refine WC.ret ?_
        refine WQ.then_ret ?_
        obtain rfl := (eq_of_some hm17).symm
        refine WQ.ret1 rfl rfl (fun w hw => ?_)
        exact ⟨rfl, Own.kgrow (fun _ x => x) hw⟩
      · skip
        have hm18 := br_f h16 hm15; clear hm15
        refine WC.skip ?_
        refine WQ.then ?_
        refine WC.seq ?_
        refine WC.seq ?_
        refine WC.region ?_
        refine WL.q rfl rfl rfl (QV.move rfl rfl) ?_
        refine WL.q rfl rfl rfl (QV.move rfl rfl) ?_
        refine WL.q rfl rfl rfl (QV.gtr rfl rfl rfl rfl) ?_
        refine WL.nil ?_
        refine WQ.then ?_
        refine WC.cond rfl (fun h19 => ?_) (fun h19 => ?_)
        · skip
          have hm20 := br_t h19 hm18; clear hm18
          refine WC.seq ?_
          refine WC.region ?_
          refine WL.q rfl rfl rfl (QV.assign rfl rfl) ?_
          refine WL.nil ?_
          refine WQ.then ?_
          refine WC.ret ?_
          refine WQ.then_ret ?_
          obtain rfl := (eq_of_some hm20).symm
          refine WQ.ret1 rfl rfl (fun w hw => ?_)
          exact ⟨rfl, Own.kgrow (fun _ x => x) hw⟩
        · skip
          have hm21 := br_f h19 hm18; clear hm18
          refine WC.skip ?_
          refine WQ.then ?_
          refine WC.seq ?_
          refine WC.region ?_
          refine WL.q rfl rfl rfl (QV.assign rfl rfl) ?_
          refine WL.nil ?_
          refine WQ.then ?_
          refine WC.ret ?_
          obtain rfl := (eq_of_some hm21).symm
          refine WQ.ret1 rfl rfl (fun w hw => ?_)
          exact ⟨rfl, Own.kgrow (fun _ x => x) hw⟩

set_option maxRecDepth 8000 in
theorem cmp_Or_int__w {v_vals : Value} {vals : List Int} {r : Int} (w : World) (hm : cmp_Or_int__m vals = some r) (h_vals : Arr w v_vals 1 (vals.map icell)) : Calls Try.prog 107 #[v_vals] w (fun e w' => e = .returned (.int .i64 r) ∧ Grow w w') := by
  unfold cmp_Or_int__m at hm
  have hk := Base.rfl (w := w)
  refine calls_of_WC (n := 18) (args := [v_vals]) Try.func107 rfl rfl (Nat.le_of_ble_eq_true rfl) ?_ (Own.startK hk (Own.start w))
  refine WC.seq ?_
  refine WC.region ?_
  refine WL.q rfl rfl rfl (QV.assign rfl rfl) ?_
  refine WL.nil ?_
  refine WQ.then ?_
  refine WC.seq ?_
  refine WC.region ?_
  refine WL.q rfl rfl rfl (QV.assign rfl rfl) ?_
  refine WL.nil ?_
  refine WQ.then ?_
  refine WC.seq ?_
  refine WC.seq ?_
  refine WC.region ?_
  refine WL.q rfl rfl rfl (QV.move rfl rfl) ?_
  refine WL.q rfl rfl rfl (QV.lenS Try.underlying30 rfl rfl h_vals.lenMap) ?_
  refine WL.q rfl rfl rfl (QV.move rfl rfl) ?_
  refine WL.nil ?_
  refine WQ.then ?_
  obtain ⟨o1, ho2, hm3⟩ := bd_some hm; clear hm; obtain ⟨n4, ho5⟩ := lp_some ho2
  refine WC.bloop1 (H2 := [kn noM w.heap.size w w]) (τ := [(3, (true, _)), (6, (true, _)), (7, (true, _))]) (fun (x8_1 : Int) => [(8, (true, .int .i64 x8_1))]) (fun (x8_1 : Int) => []) (fun (x8_1 : Int) (m : Nat) => iter (cmp_Or_int__L0 vals) m x8_1 = some o1) (fun (x8_1 : Int) => o1 = .go x8_1) 0 n4 ho5 ⟨rfl, rfl, rfl, rfl, trivial⟩ (fun w hw => hw.pick [0] (by decide)) ?_ ?_
  · skip
    rintro x8_1 rfl
    refine WQ.then ?_
    refine WC.seq ?_
    refine WC.region ?_
    refine WL.q rfl rfl rfl (QV.move rfl rfl) ?_
    refine WL.q rfl rfl rfl (QV.assign rfl rfl) ?_
    refine WL.nil ?_
    refine WQ.then ?_
    refine WC.ret ?_
    obtain rfl := (eq_of_some hm3).symm
    refine WQ.ret1 rfl rfl (fun w hw => ?_)
    exact ⟨rfl, Own.kgrow (fun _ x => x) hw⟩
  · skip
    rintro x8_1 m6 hI7
    obtain ⟨m8, s9, rfl, hm10, hn11⟩ := iter_step hI7; clear hI7; unfold cmp_Or_int__L0 at hm10
    refine WC.seq ?_
    refine WC.region ?_
    refine WL.q rfl rfl rfl (QV.lss rfl rfl rfl rfl) ?_
    refine WL.nil ?_
    refine WQ.then ?_
    refine WC.seq ?_
    refine WC.cond rfl (fun h12 => ?_) (fun h12 => ?_)
    · skip
      have hm13 := br_t h12 hm10; clear hm10
      refine WC.skip ?_
      refine WQ.then ?_
      refine WC.seq ?_
      refine WC.block ?_
      refine WC.seq ?_
      refine WC.region ?_
      obtain ⟨c14, hm15⟩ := ck_some hm13; clear hm13
      obtain ⟨p16, hp17⟩ := h_vals.lenMap.ix (sz := 1) ln_len c14
      refine WL.q rfl rfl rfl (QV.indexSlice sl30 rfl rfl rfl rfl hp17) ?_
      refine WL.q rfl rfl rfl (QV.load pl3 rfl rfl (fun w hw => CellsAt.one 0 (((Own.karr 0 rfl hk h_vals) w hw).ele hp17 c14) rfl)) ?_
      refine WL.q rfl rfl rfl (QV.assign rfl rfl) ?_
      refine WL.nil ?_
      refine WQ.then ?_
      refine WC.seq ?_
      refine WC.region ?_
      refine WL.q rfl rfl rfl (QV.move rfl rfl) ?_
      refine WL.q rfl rfl rfl (QV.move rfl rfl) ?_
      refine WL.q rfl rfl rfl (QV.neq rfl rfl rfl rfl) ?_
      refine WL.nil ?_
      refine WQ.then ?_
      refine WC.cond rfl (fun h18 => ?_) (fun h18 => ?_)
      · skip
        have hm19 := br_t h18 hm15; clear hm15
        refine WC.seq ?_
        refine WC.region ?_
        refine WL.q rfl rfl rfl (QV.move rfl rfl) ?_
        refine WL.q rfl rfl rfl (QV.assign rfl rfl) ?_
        refine WL.nil ?_
        refine WQ.then ?_
        refine WC.ret ?_
        refine WQ.block_ret ?_
        refine WQ.then_ret ?_
        refine WQ.then_ret ?_
        refine WQ.block_ret ?_
        refine WQ.then_ret ?_
        refine WQ.then_ret ?_
        obtain rfl := up_ret hm19 hn11
        obtain rfl := (eq_of_some hm3).symm
        refine WQ.ret1 rfl rfl (fun w hw => ?_)
        exact ⟨rfl, Own.kgrow (fun _ x => x) hw⟩
      · skip
        have hm20 := br_f h18 hm15; clear hm15
        refine WC.skip ?_
        refine WQ.block ?_
        refine WQ.then ?_
        refine WC.region ?_
        obtain ⟨c21, hm22⟩ := ck_some hm20; clear hm20
        refine WL.q rfl rfl rfl (QV.add rfl rfl rfl rfl c21) ?_
        refine WL.q rfl rfl rfl (QV.move rfl rfl) ?_
        refine WL.nil ?_
        exact WQ.again1 (x8_1 + 1) m8 (up_next hm22 hn11) (Nat.lt_succ_self _) ⟨rfl, rfl, rfl, rfl, trivial⟩ (fun w hw => hw.pick [0] (by decide))
    · skip
      have hm23 := br_f h12 hm10; clear hm10
      refine WC.exit ?_
      refine WQ.then_exit ?_
      refine WQ.then_exit ?_
      refine WQ.block_exit ?_
      exact WQ.out1 x8_1 (up_brk hm23 hn11) ⟨rfl, rfl, rfl, rfl, trivial⟩ (fun w hw => hw.pick [0] (by decide))

set_option maxRecDepth 8000 in
theorem dep_order_w {a : Edg} {b : Edg} {r : Int} (w : World) (hm : dep_order_m a b = some r)  : Calls Try.prog 66 #[.agg #[.int .i64 a.fr, .int .i64 a.to, .int .i64 a.bk, .int .i64 a.wt], .agg #[.int .i64 b.fr, .int .i64 b.to, .int .i64 b.bk, .int .i64 b.wt]] w (fun e w' => e = .returned (.int .i64 r) ∧ Grow w w') := by
  unfold dep_order_m at hm
  have hk := Base.rfl (w := w)
  refine calls_of_WC (n := 27) (args := [.agg #[.int .i64 a.fr, .int .i64 a.to, .int .i64 a.bk, .int .i64 a.wt], .agg #[.int .i64 b.fr, .int .i64 b.to, .int .i64 b.bk, .int .i64 b.wt]]) Try.func66 rfl rfl (Nat.le_of_ble_eq_true rfl) ?_ (Own.startK hk (Own.start w))
  refine WC.seq ?_
  refine WC.region ?_
  refine WL.effect rfl ?_
  refine (EV.boxAgg (by decide) rfl rfl (fun b1 => ?_))
  refine WL.effect rfl ?_
  refine (EV.boxAgg (by decide) rfl rfl (fun b2 => ?_))
  refine WL.q rfl rfl rfl (QV.assign rfl rfl) ?_
  refine WL.nil ?_
  refine WQ.then ?_
  refine WC.seq ?_
  refine WC.dr (m := 23) (S := Own noM w [kn noM w.heap.size w w, blk b2 [.int .i64 b.fr, .int .i64 b.to, .int .i64 b.bk, .int .i64 b.wt] 61, blk b1 [.int .i64 a.fr, .int .i64 a.to, .int .i64 a.bk, .int .i64 a.wt] 61]) (by kernel_rfl) (by kernel_rfl) (fun w hw => hw.pick [2, 0, 1] (by decide)) ?_
  refine WD.q 0 rfl (by kernel_rfl) rfl rfl rfl (QV.fieldAddr fd61_0 rfl rfl) ?_
  refine WD.q 1 rfl (by kernel_rfl) rfl rfl rfl (QV.load pl3 rfl rfl (Own.cell 2 rfl rfl)) ?_
  refine WD.q 2 rfl (by kernel_rfl) rfl rfl rfl (QV.fieldAddr fd61_0 rfl rfl) ?_
  refine WD.q 3 rfl (by kernel_rfl) rfl rfl rfl (QV.load pl3 rfl rfl (Own.cell 1 rfl rfl)) ?_
  obtain ⟨x3, hx4, hm5⟩ := bd_some hm; clear hm
  refine WD.q 4 rfl (by kernel_rfl) rfl rfl rfl (QV.call en108 (EvAll.cons rfl rfl (EvAll.cons rfl rfl EvAll.nil)) (fun w hw => have h := cmp_Compare_int__w w hx4 ; h)) ?_
  refine WD.q 5 rfl (by kernel_rfl) rfl rfl rfl (QV.fieldAddr fd61_1 rfl rfl) ?_
  refine WD.q 6 rfl (by kernel_rfl) rfl rfl rfl (QV.load pl3 rfl rfl (Own.cell 2 rfl rfl)) ?_
  refine WD.q 7 rfl (by kernel_rfl) rfl rfl rfl (QV.fieldAddr fd61_1 rfl rfl) ?_
  refine WD.q 8 rfl (by kernel_rfl) rfl rfl rfl (QV.load pl3 rfl rfl (Own.cell 1 rfl rfl)) ?_
  obtain ⟨x6, hx7, hm8⟩ := bd_some hm5; clear hm5
  refine WD.q 9 rfl (by kernel_rfl) rfl rfl rfl (QV.call en108 (EvAll.cons rfl rfl (EvAll.cons rfl rfl EvAll.nil)) (fun w hw => have h := cmp_Compare_int__w w hx7 ; h)) ?_
  refine WD.q 10 rfl (by kernel_rfl) rfl rfl rfl (QV.fieldAddr fd61_2 rfl rfl) ?_
  refine WD.q 11 rfl (by kernel_rfl) rfl rfl rfl (QV.load pl3 rfl rfl (Own.cell 2 rfl rfl)) ?_
  refine WD.q 12 rfl (by kernel_rfl) rfl rfl rfl (QV.fieldAddr fd61_2 rfl rfl) ?_
  refine WD.q 13 rfl (by kernel_rfl) rfl rfl rfl (QV.load pl3 rfl rfl (Own.cell 1 rfl rfl)) ?_
  obtain ⟨x9, hx10, hm11⟩ := bd_some hm8; clear hm8
  refine WD.q 14 rfl (by kernel_rfl) rfl rfl rfl (QV.call en108 (EvAll.cons rfl rfl (EvAll.cons rfl rfl EvAll.nil)) (fun w hw => have h := cmp_Compare_int__w w hx10 ; h)) ?_
  refine WD.q 15 rfl (by kernel_rfl) rfl rfl rfl (QV.fieldAddr fd61_3 rfl rfl) ?_
  refine WD.q 16 rfl (by kernel_rfl) rfl rfl rfl (QV.load pl3 rfl rfl (Own.cell 2 rfl rfl)) ?_
  refine WD.q 17 rfl (by kernel_rfl) rfl rfl rfl (QV.fieldAddr fd61_3 rfl rfl) ?_
  refine WD.q 18 rfl (by kernel_rfl) rfl rfl rfl (QV.load pl3 rfl rfl (Own.cell 1 rfl rfl)) ?_
  obtain ⟨x12, hx13, hm14⟩ := bd_some hm11; clear hm11
  refine WD.q 19 rfl (by kernel_rfl) rfl rfl rfl (QV.call en108 (EvAll.cons rfl rfl (EvAll.cons rfl rfl EvAll.nil)) (fun w hw => have h := cmp_Compare_int__w w hx13 ; h)) ?_
  refine WD.o 20 rfl (by kernel_rfl) rfl ?_
  refine (EV.buildSlice (by decide) sz_30 (by decide) (by decide) (ps := [(0, .tmp 9), (1, .tmp 14), (2, .tmp 19), (3, .tmp 24)]) (cells := [.int .i64 x3, .int .i64 x6, .int .i64 x9, .int .i64 x12]) (EvAll.cons rfl rfl (EvAll.cons rfl rfl (EvAll.cons rfl rfl (EvAll.cons rfl rfl EvAll.nil)))) (by kernel_rfl) (fun b15 => ?_))
  refine WD.b (H' := [kn noM w.heap.size w w, blk b15 [.int .i64 x3, .int .i64 x6, .int .i64 x9, .int .i64 x12] 3, blk b2 [.int .i64 b.fr, .int .i64 b.to, .int .i64 b.bk, .int .i64 b.wt] 61, blk b1 [.int .i64 a.fr, .int .i64 a.to, .int .i64 a.bk, .int .i64 a.wt] 61]) (fun w hw => hw.pick [3, 0, 1, 2] (by decide)) (fun w hw => hw.pick [0, 2, 3] (by decide)) ?_
  obtain ⟨x16, hx17, hm18⟩ := bd_some hm14; clear hm14
  refine WD.q 21 rfl (by kernel_rfl) rfl rfl rfl (QV.call en107 (EvAll.cons rfl rfl EvAll.nil) (fun w hw => have h := cmp_Or_int__w w hx17 ((Own.blkArr 1 (rows := [x3, x6, x9, x12].map icell) rfl rfl (rows_len icell_len)) w hw); h)) ?_
  refine WD.q 22 rfl (by kernel_rfl) rfl rfl rfl (QV.assign rfl rfl) ?_
  refine WD.e (by kernel_rfl) ?_
  refine WQ.then ?_
  refine WC.ret ?_
  obtain rfl := (eq_of_some hm18).symm
  refine WQ.ret1 rfl rfl (fun w hw => ?_)
  exact ⟨rfl, Own.kgrow (fun _ x => x) hw⟩
end Go.Proofs.Ytaimbkndebaaiab
