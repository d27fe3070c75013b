/- Walks: the functions do what the models say. -/
import Derived.Test.YtaimbkndebaaiabMDep
import Derived.Test.YtaimbkndebaaiabProg
import Derived.Test.YtaimbkndebaaiabWLoop
import Derived.Test.YtaimbkndebaaiabWCpt
import Derived.KernelRfl
namespace Go.Proofs.Ytaimbkndebaaiab
open Go.Rd
set_option linter.unusedVariables false
set_option linter.unusedSimpArgs false
namespace TDep
theorem ag24 : AggT Try.prog 24 7 := ⟨_, Try.underlying24, rfl, by kernel_rfl⟩
theorem ag49 : AggT Try.prog 49 3 := ⟨_, Try.underlying49, rfl, by kernel_rfl⟩
theorem ag57 : AggT Try.prog 57 2 := ⟨_, Try.underlying57, rfl, by kernel_rfl⟩
theorem ag59 : AggT Try.prog 59 9 := ⟨_, Try.underlying59, rfl, by kernel_rfl⟩
theorem ag61 : AggT Try.prog 61 4 := ⟨_, Try.underlying61, rfl, by kernel_rfl⟩
theorem en104 : Go.Rd.Enters Try.prog 104 := ⟨Try.f104, Try.func104, by kernel_rfl, by kernel_rfl⟩
theorem en105 : Go.Rd.Enters Try.prog 105 := ⟨Try.f105, Try.func105, by kernel_rfl, by kernel_rfl⟩
theorem en46 : Go.Rd.Enters Try.prog 46 := ⟨Try.f46, Try.func46, by kernel_rfl, by kernel_rfl⟩
theorem en61 : Go.Rd.Enters Try.prog 61 := ⟨Try.f61, Try.func61, by kernel_rfl, by kernel_rfl⟩
theorem en62 : Go.Rd.Enters Try.prog 62 := ⟨Try.f62, Try.func62, by kernel_rfl, by kernel_rfl⟩
theorem en63 : Go.Rd.Enters Try.prog 63 := ⟨Try.f63, Try.func63, by kernel_rfl, by kernel_rfl⟩
theorem en64 : Go.Rd.Enters Try.prog 64 := ⟨Try.f64, Try.func64, by kernel_rfl, by kernel_rfl⟩
theorem en65 : Go.Rd.Enters Try.prog 65 := ⟨Try.f65, Try.func65, by kernel_rfl, by kernel_rfl⟩
theorem en67 : Go.Rd.Enters Try.prog 67 := ⟨Try.f67, Try.func67, by kernel_rfl, by kernel_rfl⟩
theorem fd49_0 : FieldT Try.prog 49 0 0 := ⟨_, _, 0, Try.underlying49, rfl, rfl, by kernel_rfl⟩
theorem fd49_1 : FieldT Try.prog 49 1 1 := ⟨_, _, 0, Try.underlying49, rfl, rfl, by kernel_rfl⟩
theorem fd57_0 : FieldT Try.prog 57 0 0 := ⟨_, _, 0, Try.underlying57, rfl, rfl, by kernel_rfl⟩
theorem fd57_1 : FieldT Try.prog 57 1 1 := ⟨_, _, 0, Try.underlying57, rfl, rfl, by kernel_rfl⟩
theorem fd59_0 : FieldT Try.prog 59 0 0 := ⟨_, _, 0, Try.underlying59, rfl, rfl, by kernel_rfl⟩
theorem fd59_3 : FieldT Try.prog 59 3 5 := ⟨_, _, 0, Try.underlying59, rfl, rfl, by kernel_rfl⟩
theorem fd59_4 : FieldT Try.prog 59 4 6 := ⟨_, _, 0, Try.underlying59, rfl, rfl, by kernel_rfl⟩
theorem fd59_5 : FieldT Try.prog 59 5 7 := ⟨_, _, 0, Try.underlying59, rfl, rfl, by kernel_rfl⟩
theorem pl3 : Plain Try.prog 3 := ⟨_, Try.underlying3, rfl⟩
theorem pl30 : Plain Try.prog 30 := ⟨_, Try.underlying30, rfl⟩
theorem pl47 : Plain Try.prog 47 := ⟨_, Try.underlying47, rfl⟩
theorem sl106 : SliceT Try.prog 106 57 2 := ⟨Try.underlying106, by kernel_rfl⟩
theorem sl30 : SliceT Try.prog 30 3 1 := ⟨Try.underlying30, by kernel_rfl⟩
theorem sl47 : SliceT Try.prog 47 59 9 := ⟨Try.underlying47, by kernel_rfl⟩
theorem sz57 : SizeT Try.prog 57 2 := by unfold SizeT; kernel_rfl
theorem sz59 : SizeT Try.prog 59 9 := by unfold SizeT; kernel_rfl
theorem sz61 : SizeT Try.prog 61 4 := by unfold SizeT; kernel_rfl
theorem sz_50 : SliceZ Try.prog 50 61 4 [.int .i64 0, .int .i64 0, .int .i64 0, .int .i64 0] := ⟨Try.underlying50, by kernel_rfl⟩
theorem ve50 : VecT Try.prog 50 61 4 32 := ⟨Try.underlying50, by kernel_rfl, by decide⟩
theorem ze57 : ZeroT Try.prog 57 [.int .i64 0, .int .i64 0] := by unfold ZeroT; kernel_rfl
theorem ze59 : ZeroT Try.prog 59 [.int .i64 0, .int .i64 0, .int .i64 0, .int .i64 0, .int .i64 0, .int .i64 0, .int .i64 0, .int .i64 0, .int .i64 0] := by unfold ZeroT; kernel_rfl
theorem ze61 : ZeroT Try.prog 61 [.int .i64 0, .int .i64 0, .int .i64 0, .int .i64 0] := by unfold ZeroT; kernel_rfl
end TDep
open TDep
set_option maxRecDepth 8000 in
theorem dep_meet_w {a : Stm} {b : Stm} {back : Int} {size : Int} {r : Bool} (w : World) (hm : dep_meet_m a b back size = some r)  : Calls Try.prog 105 #[.agg #[.int .i64 a.op, .int .i64 a.a.st, .int .i64 a.a.bk, .int .i64 a.b.st, .int .i64 a.b.bk, .int .i64 a.ar, .int .i64 a.sp, .int .i64 a.pl, .int .i64 a.n], .agg #[.int .i64 b.op, .int .i64 b.a.st, .int .i64 b.a.bk, .int .i64 b.b.st, .int .i64 b.b.bk, .int .i64 b.ar, .int .i64 b.sp, .int .i64 b.pl, .int .i64 b.n], .int .i64 back, .int .i64 size] w (fun e w' => e = .returned (.bool r) ∧ Grow w w') := by
  unfold dep_meet_m at hm
  have hk := Base.rfl (w := w)
  refine calls_of_WC (n := 36) (args := [.agg #[.int .i64 a.op, .int .i64 a.a.st, .int .i64 a.a.bk, .int .i64 a.b.st, .int .i64 a.b.bk, .int .i64 a.ar, .int .i64 a.sp, .int .i64 a.pl, .int .i64 a.n], .agg #[.int .i64 b.op, .int .i64 b.a.st, .int .i64 b.a.bk, .int .i64 b.b.st, .int .i64 b.b.bk, .int .i64 b.ar, .int .i64 b.sp, .int .i64 b.pl, .int .i64 b.n], .int .i64 back, .int .i64 size]) Try.func105 rfl rfl (Nat.le_of_ble_eq_true rfl) ?_ (Own.startK hk (Own.start w))
  refine WC.seq ?_
  refine WC.region ?_
  refine WL.effect rfl ?_
  refine (EV.boxAgg (by decide) rfl rfl (fun b1 => ?_))
  refine WL.effect rfl ?_
  refine (EV.boxAgg (by decide) rfl rfl (fun b2 => ?_))
  refine WL.q rfl rfl rfl (QV.assign rfl rfl) ?_
  refine WL.nil ?_
  refine WQ.then ?_
  refine WC.seq ?_
  refine WC.seq ?_
  refine WC.region ?_
  refine WL.q rfl rfl rfl (QV.move rfl rfl) ?_
  refine WL.q rfl rfl rfl (QV.move rfl rfl) ?_
  refine WL.nil ?_
  refine WQ.then ?_
  obtain ⟨o3, ho4, hm5⟩ := bd_some hm; clear hm; obtain ⟨n6, ho7⟩ := lp_some ho4
  refine WC.bloop1 (H2 := [blk b2 [.int .i64 b.op, .int .i64 b.a.st, .int .i64 b.a.bk, .int .i64 b.b.st, .int .i64 b.b.bk, .int .i64 b.ar, .int .i64 b.sp, .int .i64 b.pl, .int .i64 b.n] 59, blk b1 [.int .i64 a.op, .int .i64 a.a.st, .int .i64 a.a.bk, .int .i64 a.b.st, .int .i64 a.b.bk, .int .i64 a.ar, .int .i64 a.sp, .int .i64 a.pl, .int .i64 a.n] 59, kn noM w.heap.size w w]) (τ := [(2, (true, _)), (3, (true, _)), (4, (true, _)), (5, (true, _)), (10, (true, _))]) (fun (x11_1 : Int) => [(11, (true, .int .i64 x11_1))]) (fun (x11_1 : Int) => []) (fun (x11_1 : Int) (m : Nat) => iter (dep_meet_L0 a b back size) m x11_1 = some o3) (fun (x11_1 : Int) => o3 = .go x11_1) 0 n6 ho7 ⟨rfl, rfl, rfl, rfl, rfl, rfl, trivial⟩ (fun w hw => hw.pick [0, 1, 2] (by decide)) ?_ ?_
  · skip
    rintro x11_1 rfl
    refine WQ.then ?_
    refine WC.seq ?_
    refine WC.region ?_
    refine WL.q rfl rfl rfl (QV.assign rfl rfl) ?_
    refine WL.nil ?_
    refine WQ.then ?_
    refine WC.ret ?_
    obtain rfl := (eq_of_some hm5).symm
    refine WQ.ret1 rfl rfl (fun w hw => ?_)
    exact ⟨rfl, Own.kgrow (fun _ x => x) hw⟩
  · skip
    rintro x11_1 m8 hI9
    obtain ⟨m10, s11, rfl, hm12, hn13⟩ := iter_step hI9; clear hI9; unfold dep_meet_L0 at hm12
    refine WC.seq ?_
    refine WC.region ?_
    refine WL.q rfl rfl rfl (QV.lss rfl rfl rfl rfl) ?_
    refine WL.nil ?_
    refine WQ.then ?_
    refine WC.seq ?_
    refine WC.cond rfl (fun h14 => ?_) (fun h14 => ?_)
    · skip
      have hm15 := br_t h14 hm12; clear hm12
      refine WC.skip ?_
      refine WQ.then ?_
      refine WC.seq ?_
      refine WC.block ?_
      refine WC.seq ?_
      refine WC.region ?_
      refine WL.q rfl rfl rfl (QV.move rfl rfl) ?_
      refine WL.q rfl rfl rfl (QV.assign rfl rfl) ?_
      refine WL.nil ?_
      refine WQ.then ?_
      refine WC.seq ?_
      refine WC.region ?_
      refine WL.q rfl rfl rfl (QV.fieldAddr fd59_4 rfl rfl) ?_
      refine WL.q rfl rfl rfl (QV.load pl3 rfl rfl (Own.cell 1 rfl rfl)) ?_
      refine WL.q rfl rfl rfl (QV.move rfl rfl) ?_
      obtain ⟨c16, hm17⟩ := ck_some hm15; clear hm15
      refine WL.q rfl rfl rfl (QV.mul rfl rfl rfl rfl c16) ?_
      refine WL.q rfl rfl rfl (QV.fieldAddr fd59_5 rfl rfl) ?_
      refine WL.q rfl rfl rfl (QV.load pl3 rfl rfl (Own.cell 1 rfl rfl)) ?_
      obtain ⟨c18, hm19⟩ := ck_some hm17; clear hm17
      refine WL.q rfl rfl rfl (QV.add rfl rfl rfl rfl c18) ?_
      refine WL.q rfl rfl rfl (QV.fieldAddr fd59_4 rfl rfl) ?_
      refine WL.q rfl rfl rfl (QV.load pl3 rfl rfl (Own.cell 0 rfl rfl)) ?_
      refine WL.q rfl rfl rfl (QV.move rfl rfl) ?_
      refine WL.q rfl rfl rfl (QV.move rfl rfl) ?_
      obtain ⟨c20, hm21⟩ := ck_some hm19; clear hm19
      refine WL.q rfl rfl rfl (QV.add rfl rfl rfl rfl c20) ?_
      obtain ⟨c22, hm23⟩ := ck_some hm21; clear hm21
      refine WL.q rfl rfl rfl (QV.mul rfl rfl rfl rfl c22) ?_
      obtain ⟨c24, hm25⟩ := ck_some hm23; clear hm23
      refine WL.q rfl rfl rfl (QV.sub rfl rfl rfl rfl c24) ?_
      refine WL.q rfl rfl rfl (QV.fieldAddr fd59_5 rfl rfl) ?_
      refine WL.q rfl rfl rfl (QV.load pl3 rfl rfl (Own.cell 0 rfl rfl)) ?_
      obtain ⟨c26, hm27⟩ := ck_some hm25; clear hm25
      refine WL.q rfl rfl rfl (QV.sub rfl rfl rfl rfl c26) ?_
      refine WL.q rfl rfl rfl (QV.move rfl rfl) ?_
      obtain ⟨c28, hm29⟩ := ck_some hm27; clear hm27
      refine WL.q rfl rfl rfl (QV.sub rfl rfl rfl rfl c28) ?_
      refine WL.q rfl rfl rfl (QV.andW rfl rfl rfl rfl) ?_
      refine WL.q rfl rfl rfl (QV.eql rfl rfl rfl rfl) ?_
      refine WL.nil ?_
      refine WQ.then ?_
      refine WC.cond rfl (fun h30 => ?_) (fun h30 => ?_)
      · skip
        have hm31 := br_t h30 hm29; clear hm29
        refine WC.seq ?_
        refine WC.region ?_
        refine WL.q rfl rfl rfl (QV.assign rfl rfl) ?_
        refine WL.nil ?_
        refine WQ.then ?_
        refine WC.ret ?_
        refine WQ.block_ret ?_
        refine WQ.then_ret ?_
        refine WQ.then_ret ?_
        refine WQ.block_ret ?_
        refine WQ.then_ret ?_
        refine WQ.then_ret ?_
        obtain rfl := up_ret hm31 hn13
        obtain rfl := (eq_of_some hm5).symm
        refine WQ.ret1 rfl rfl (fun w hw => ?_)
        exact ⟨rfl, Own.kgrow (fun _ x => x) hw⟩
      · skip
        have hm32 := br_f h30 hm29; clear hm29
        refine WC.skip ?_
        refine WQ.block ?_
        refine WQ.then ?_
        refine WC.region ?_
        obtain ⟨c33, hm34⟩ := ck_some hm32; clear hm32
        refine WL.q rfl rfl rfl (QV.add rfl rfl rfl rfl c33) ?_
        refine WL.q rfl rfl rfl (QV.move rfl rfl) ?_
        refine WL.nil ?_
        exact WQ.again1 (x11_1 + 1) m10 (up_next hm34 hn13) (Nat.lt_succ_self _) ⟨rfl, rfl, rfl, rfl, rfl, rfl, trivial⟩ (fun w hw => hw.pick [0, 1, 2] (by decide))
    · skip
      have hm35 := br_f h14 hm12; clear hm12
      refine WC.exit ?_
      refine WQ.then_exit ?_
      refine WQ.then_exit ?_
      refine WQ.block_exit ?_
      exact WQ.out1 x11_1 (up_brk hm35 hn13) ⟨rfl, rfl, rfl, rfl, rfl, rfl, trivial⟩ (fun w hw => hw.pick [0, 1, 2] (by decide))

set_option maxRecDepth 8000 in
theorem dep_words_w {s : Stm} {r : Bool} (w : World) (hm : dep_words_m s = some r)  : Calls Try.prog 104 #[.agg #[.int .i64 s.op, .int .i64 s.a.st, .int .i64 s.a.bk, .int .i64 s.b.st, .int .i64 s.b.bk, .int .i64 s.ar, .int .i64 s.sp, .int .i64 s.pl, .int .i64 s.n]] w (fun e w' => e = .returned (.bool r) ∧ Grow w w') := by
  unfold dep_words_m at hm
  have hk := Base.rfl (w := w)
  refine calls_of_WC (n := 11) (args := [.agg #[.int .i64 s.op, .int .i64 s.a.st, .int .i64 s.a.bk, .int .i64 s.b.st, .int .i64 s.b.bk, .int .i64 s.ar, .int .i64 s.sp, .int .i64 s.pl, .int .i64 s.n]]) Try.func104 rfl rfl (Nat.le_of_ble_eq_true rfl) ?_ (Own.startK hk (Own.start w))
  refine WC.seq ?_
  refine WC.region ?_
  refine WL.effect rfl ?_
  refine (EV.boxAgg (by decide) rfl rfl (fun b1 => ?_))
  refine WL.q rfl rfl rfl (QV.assign rfl rfl) ?_
  refine WL.nil ?_
  refine WQ.then ?_
  refine WC.seq ?_
  refine WC.region ?_
  refine WL.q rfl rfl rfl (QV.fieldAddr fd59_0 rfl rfl) ?_
  refine WL.q rfl rfl rfl (QV.load pl3 rfl rfl (Own.cell 0 rfl rfl)) ?_
  refine WL.q rfl rfl rfl (QV.eql rfl rfl rfl rfl) ?_
  refine WL.q rfl rfl rfl (QV.move rfl rfl) ?_
  refine WL.g rfl rfl (GuardIs.neg rfl rfl) (fun hG => QV.fieldAddr fd59_0 rfl rfl) ?_
  refine WL.g rfl rfl (GuardIs.neg rfl rfl) (fun hG => QV.load pl3 rfl hG (Own.cell 0 rfl rfl)) ?_
  refine WL.g rfl rfl (GuardIs.neg rfl rfl) (fun hG => QV.eql rfl hG rfl rfl) ?_
  refine WL.q rfl rfl rfl (QV.pickOr rfl rfl rfl (fun h => notF h)) ?_
  refine WL.q rfl rfl rfl (QV.assign rfl rfl) ?_
  refine WL.nil ?_
  refine WQ.then ?_
  refine WC.ret ?_
  obtain rfl := (eq_of_some hm).symm
  refine WQ.ret1 rfl rfl (fun w hw => ?_)
  exact ⟨rfl, Own.kgrow (fun _ x => x) hw⟩

set_option maxRecDepth 8000 in
theorem dep_memory_w {v_l_logs : Value} {v_l_body : Value} {v_l_outs : Value} {l : Lp} {from_ : Int} {to : Int} {r : Edg × Bool} (w : World) (hm : dep_memory_m l from_ to = some r) (h_l_logs : Arr w v_l_logs 1 (l.logs.map icell)) (h_l_body : Arr w v_l_body 9 (l.body.map Stm.cells)) (h_l_outs : Arr w v_l_outs 1 (l.outs.map icell)) : Calls Try.prog 64 #[.agg #[v_l_logs, v_l_body, v_l_outs], .int .i64 from_, .int .i64 to] w (fun e w' => e = .returned (.tuple #[.agg #[.int .i64 r.1.fr, .int .i64 r.1.to, .int .i64 r.1.bk, .int .i64 r.1.wt], .bool r.2]) ∧ Grow w w') := by
  unfold dep_memory_m at hm
  have hk := Base.rfl (w := w)
  refine calls_of_WC (n := 80) (args := [.agg #[v_l_logs, v_l_body, v_l_outs], .int .i64 from_, .int .i64 to]) Try.func64 rfl rfl (Nat.le_of_ble_eq_true rfl) ?_ (Own.startK hk (Own.start w))
  refine WC.seq ?_
  refine WC.region ?_
  refine WL.effect rfl ?_
  refine (EV.boxAgg (by decide) rfl rfl (fun b1 => ?_))
  refine WL.effect rfl ?_
  refine (EV.alloc (by decide) ze61 (fun b2 => ?_))
  refine WL.q rfl rfl rfl (QV.assign rfl rfl) ?_
  refine WL.nil ?_
  refine WQ.then ?_
  refine WC.seq ?_
  refine WC.dr (m := 14) (S := Own noM w [kn noM w.heap.size w w, blk b2 [.int .i64 0, .int .i64 0, .int .i64 0, .int .i64 0] 61, blk b1 [v_l_logs, v_l_body, v_l_outs] 49]) (by kernel_rfl) (by kernel_rfl) (fun w hw => hw.pick [2, 0, 1] (by decide)) ?_
  refine WD.toL 0 (by kernel_rfl) ?_
  refine WD.qL 0 0 1 rfl (by kernel_rfl) rfl rfl rfl (QV.fieldAddr fd49_1 rfl rfl) ?_
  refine WD.qL 1 1 3 rfl (by kernel_rfl) rfl rfl rfl (QV.load pl47 rfl rfl (Own.cell 2 rfl rfl)) ?_
  refine WD.qL 2 3 7 rfl (by kernel_rfl) rfl rfl rfl (QV.move rfl rfl) ?_
  obtain ⟨c3, hm4⟩ := ck_some hm; clear hm
  obtain ⟨p5, hp6⟩ := h_l_body.lenMap.ix (sz := 9) ln_len c3
  refine WD.qL 3 7 15 rfl (by kernel_rfl) rfl rfl rfl (QV.indexSlice sl47 rfl rfl rfl rfl hp6) ?_
  refine WD.qL 4 15 31 rfl (by kernel_rfl) rfl rfl rfl (QV.loadAgg ag59 rfl rfl rfl (fun w hw => ((Own.karr 0 rfl hk h_l_body) w hw).ele hp6 c3)) ?_
  refine WD.qL 5 31 63 rfl (by kernel_rfl) rfl rfl rfl (QV.fieldAddr fd49_1 rfl rfl) ?_
  refine WD.qL 6 63 127 rfl (by kernel_rfl) rfl rfl rfl (QV.load pl47 rfl rfl (Own.cell 2 rfl rfl)) ?_
  refine WD.qL 7 127 255 rfl (by kernel_rfl) rfl rfl rfl (QV.move rfl rfl) ?_
  obtain ⟨c7, hm8⟩ := ck_some hm4; clear hm4
  obtain ⟨p9, hp10⟩ := h_l_body.lenMap.ix (sz := 9) ln_len c7
  refine WD.qL 8 255 511 rfl (by kernel_rfl) rfl rfl rfl (QV.indexSlice sl47 rfl rfl rfl rfl hp10) ?_
  refine WD.qL 9 511 1023 rfl (by kernel_rfl) rfl rfl rfl (QV.loadAgg ag59 rfl rfl rfl (fun w hw => ((Own.karr 0 rfl hk h_l_body) w hw).ele hp10 c7)) ?_
  refine WD.cut2 (fun (b11 : Nat) (b12 : Nat) => [(1, (true, .int .i64 from_)), (2, (true, .int .i64 to)), (3, (true, .pointer (some (⟨b1, 0, none⟩)))), (6, (true, .pointer (some (⟨b2, 0, none⟩)))), (8, (true, .pointer (some (⟨b11, 0, none⟩)))), (9, (true, .pointer (some (⟨b12, 0, none⟩))))]) (fun (b11 : Nat) (b12 : Nat) => Own noM w [blk b12 [.int .i64 ((ele l.body to).op), .int .i64 (((ele l.body to).a).st), .int .i64 (((ele l.body to).a).bk), .int .i64 (((ele l.body to).b).st), .int .i64 (((ele l.body to).b).bk), .int .i64 ((ele l.body to).ar), .int .i64 ((ele l.body to).sp), .int .i64 ((ele l.body to).pl), .int .i64 ((ele l.body to).n)] 59, blk b11 [.int .i64 ((ele l.body from_).op), .int .i64 (((ele l.body from_).a).st), .int .i64 (((ele l.body from_).a).bk), .int .i64 (((ele l.body from_).b).st), .int .i64 (((ele l.body from_).b).bk), .int .i64 ((ele l.body from_).ar), .int .i64 ((ele l.body from_).sp), .int .i64 ((ele l.body from_).pl), .int .i64 ((ele l.body from_).n)] 59, blk b2 [.int .i64 0, .int .i64 0, .int .i64 0, .int .i64 0] 61, blk b1 [v_l_logs, v_l_body, v_l_outs] 49, kn noM w.heap.size w w]) ?_ ?_
  · skip
    rintro b11 b12
    refine WQ.then ?_
    refine WC.seq ?_
    refine WC.seq ?_
    refine WC.region ?_
    refine WL.q rfl rfl rfl (QV.loadAgg ag59 rfl rfl rfl (Own.cellsBlk 1 rfl)) ?_
    obtain ⟨x13, hx14, hm15⟩ := bd_some hm8; clear hm8
    refine WL.q rfl rfl rfl (QV.call en104 (EvAll.cons rfl rfl EvAll.nil) (fun w hw => have h := dep_words_w w hx14 ; h)) ?_
    refine WL.q rfl rfl rfl (QV.not rfl rfl) ?_
    refine WL.q rfl rfl rfl (QV.move rfl rfl) ?_
    refine WL.g rfl rfl (GuardIs.neg rfl rfl) (fun hG => QV.loadAgg ag59 rfl rfl rfl (Own.cellsBlk 0 rfl)) ?_
    obtain ⟨x16, hx17, hm18⟩ := bdG_some hm15; clear hm15
    refine WL.g rfl rfl (GuardIs.neg rfl rfl) (fun hG => QV.call en104 (EvAll.cons rfl hG EvAll.nil) (fun w hw => have h := dep_words_w w (hx17 hG) ; h)) ?_
    refine WL.g rfl rfl (GuardIs.neg rfl rfl) (fun hG => QV.not rfl hG) ?_
    refine WL.q rfl rfl rfl (QV.pickOr rfl rfl rfl (fun h => notF h)) ?_
    refine WL.q rfl rfl rfl (QV.move rfl rfl) ?_
    refine WL.g rfl rfl (GuardIs.neg rfl rfl) (fun hG => QV.fieldAddr fd59_3 rfl rfl) ?_
    refine WL.g rfl rfl (GuardIs.neg rfl rfl) (fun hG => QV.load pl3 rfl hG (Own.cell 1 rfl rfl)) ?_
    refine WL.g rfl rfl (GuardIs.neg rfl rfl) (fun hG => QV.fieldAddr fd59_3 rfl rfl) ?_
    refine WL.g rfl rfl (GuardIs.neg rfl rfl) (fun hG => QV.load pl3 rfl hG (Own.cell 0 rfl rfl)) ?_
    refine WL.g rfl rfl (GuardIs.neg rfl rfl) (fun hG => QV.neq rfl hG rfl hG) ?_
    refine WL.q rfl rfl rfl (QV.pickOr rfl rfl rfl (fun h => notF h)) ?_
    refine WL.q rfl rfl rfl (QV.move rfl rfl) ?_
    refine WL.g rfl rfl (GuardIs.neg rfl rfl) (fun hG => QV.fieldAddr fd59_0 rfl rfl) ?_
    refine WL.g rfl rfl (GuardIs.neg rfl rfl) (fun hG => QV.load pl3 rfl hG (Own.cell 1 rfl rfl)) ?_
    refine WL.g rfl rfl (GuardIs.neg rfl rfl) (fun hG => QV.eql rfl hG rfl rfl) ?_
    refine WL.g rfl rfl (GuardIs.neg rfl rfl) (fun hG => QV.move rfl hG) ?_
    refine WL.g rfl rfl (GuardIs.posC rfl rfl) (fun hG => QV.fieldAddr fd59_0 rfl rfl) ?_
    refine WL.g rfl rfl (GuardIs.posC rfl rfl) (fun hG => QV.load pl3 rfl hG (Own.cell 0 rfl rfl)) ?_
    refine WL.g rfl rfl (GuardIs.posC rfl rfl) (fun hG => QV.eql rfl hG rfl rfl) ?_
    refine WL.g rfl rfl (GuardIs.neg rfl rfl) (fun hG => QV.pickAnd rfl hG rfl (fun h => andT hG h)) ?_
    refine WL.q rfl rfl rfl (QV.pickOr rfl rfl rfl (fun h => notF h)) ?_
    refine WL.nil ?_
    refine WQ.then ?_
    refine WC.cond rfl (fun h19 => ?_) (fun h19 => ?_)
    · skip
      have hm20 := br_t h19 hm18; clear hm18
      refine WC.seq ?_
      refine WC.region ?_
      refine WL.q rfl rfl rfl (QV.build (ps := []) (cells := [.int .i64 0, .int .i64 0, .int .i64 0, .int .i64 0]) EvAll.nil (by kernel_rfl)) ?_
      refine WL.effect rfl ?_
      refine (EV.store 2 rfl rfl rfl rfl rfl rfl (vs := [.int .i64 0, .int .i64 0, .int .i64 0, .int .i64 0]) (show Value.cells _ = List.toArray _ from rfl) sz61 (Nat.le_of_ble_eq_true rfl) (one_cons rfl (one_cons rfl (one_cons rfl (one_cons rfl one_nil)))) ?_)
      refine WL.q rfl rfl rfl (QV.assign rfl rfl) ?_
      refine WL.nil ?_
      refine WQ.then ?_
      refine WC.ret ?_
      refine WQ.then_ret ?_
      obtain rfl := (eq_of_some hm20).symm
      refine WQ.retCellTmp rfl ag61 rfl rfl rfl (Own.cellsBlk 2 rfl) (fun w hw => ?_)
      exact ⟨rfl, Own.kgrow (fun _ x => x) hw⟩
    · skip
      have hm21 := br_f h19 hm18; clear hm18
      refine WC.skip ?_
      refine WQ.then ?_
      refine WC.seq ?_
      refine WC.region ?_
      refine WL.q rfl rfl rfl (QV.assign rfl rfl) ?_
      refine WL.q rfl rfl rfl (QV.assign rfl rfl) ?_
      refine WL.nil ?_
      refine WQ.then ?_
      refine WC.seq ?_
      refine WC.seq ?_
      refine WC.region ?_
      refine WL.q rfl rfl rfl (QV.move rfl rfl) ?_
      refine WL.q rfl rfl rfl (QV.move rfl rfl) ?_
      refine WL.q rfl rfl rfl (QV.geq rfl rfl rfl rfl) ?_
      refine WL.nil ?_
      refine WQ.then ?_
      obtain ⟨o22, hj23, hm24⟩ := bd_some hm21; clear hm21
      refine WC.joint1 (H2 := [blk b12 [.int .i64 ((ele l.body to).op), .int .i64 (((ele l.body to).a).st), .int .i64 (((ele l.body to).a).bk), .int .i64 (((ele l.body to).b).st), .int .i64 (((ele l.body to).b).bk), .int .i64 ((ele l.body to).ar), .int .i64 ((ele l.body to).sp), .int .i64 ((ele l.body to).pl), .int .i64 ((ele l.body to).n)] 59, blk b11 [.int .i64 ((ele l.body from_).op), .int .i64 (((ele l.body from_).a).st), .int .i64 (((ele l.body from_).a).bk), .int .i64 (((ele l.body from_).b).st), .int .i64 (((ele l.body from_).b).bk), .int .i64 ((ele l.body from_).ar), .int .i64 ((ele l.body from_).sp), .int .i64 ((ele l.body from_).pl), .int .i64 ((ele l.body from_).n)] 59, blk b2 [.int .i64 0, .int .i64 0, .int .i64 0, .int .i64 0] 61, blk b1 [v_l_logs, v_l_body, v_l_outs] 49, kn noM w.heap.size w w]) (τ := [(1, (true, _)), (2, (true, _)), (3, (true, _)), (6, (true, _)), (8, (true, _)), (9, (true, _)), (11, (true, _))]) (fun (least10_1 : Int) => [(10, (true, .int .i64 least10_1))]) (fun (least10_1 : Int) => []) (fun (least10_1 : Int) => o22 = .go least10_1) ⟨rfl, rfl, rfl, rfl, rfl, rfl, rfl, trivial⟩ (fun w hw => hw.pick [0, 1, 2, 3, 4] (by decide)) ?_ ?_
      · skip
        rintro least10_1 rfl
        refine WC.seq ?_
        refine WC.seq ?_
        refine WC.region ?_
        refine WL.q rfl rfl rfl (QV.fieldAddr fd59_0 rfl rfl) ?_
        refine WL.q rfl rfl rfl (QV.load pl3 rfl rfl (Own.cell 1 rfl rfl)) ?_
        refine WL.q rfl rfl rfl (QV.eql rfl rfl rfl rfl) ?_
        refine WL.nil ?_
        refine WQ.then ?_
        obtain ⟨o25, hj26, hm27⟩ := bd_some hm24; clear hm24
        refine WC.joint1 (H2 := [blk b12 [.int .i64 ((ele l.body to).op), .int .i64 (((ele l.body to).a).st), .int .i64 (((ele l.body to).a).bk), .int .i64 (((ele l.body to).b).st), .int .i64 (((ele l.body to).b).bk), .int .i64 ((ele l.body to).ar), .int .i64 ((ele l.body to).sp), .int .i64 ((ele l.body to).pl), .int .i64 ((ele l.body to).n)] 59, blk b11 [.int .i64 ((ele l.body from_).op), .int .i64 (((ele l.body from_).a).st), .int .i64 (((ele l.body from_).a).bk), .int .i64 (((ele l.body from_).b).st), .int .i64 (((ele l.body from_).b).bk), .int .i64 ((ele l.body from_).ar), .int .i64 ((ele l.body from_).sp), .int .i64 ((ele l.body from_).pl), .int .i64 ((ele l.body from_).n)] 59, blk b2 [.int .i64 0, .int .i64 0, .int .i64 0, .int .i64 0] 61, blk b1 [v_l_logs, v_l_body, v_l_outs] 49, kn noM w.heap.size w w]) (τ := [(1, (true, _)), (2, (true, _)), (3, (true, _)), (6, (true, _)), (8, (true, _)), (9, (true, _)), (10, (true, _))]) (fun (wait11_2 : Int) => [(11, (true, .int .i64 wait11_2))]) (fun (wait11_2 : Int) => []) (fun (wait11_2 : Int) => o25 = .go wait11_2) ⟨rfl, rfl, rfl, rfl, rfl, rfl, rfl, trivial⟩ (fun w hw => hw.pick [0, 1, 2, 3, 4] (by decide)) ?_ ?_
        · skip
          rintro wait11_2 rfl
          refine WC.seq ?_
          refine WC.region ?_
          refine WL.q rfl rfl rfl (QV.fieldAddr fd49_0 rfl rfl) ?_
          refine WL.q rfl rfl rfl (QV.load pl30 rfl rfl (Own.cell 3 rfl rfl)) ?_
          refine WL.q rfl rfl rfl (QV.fieldAddr fd59_3 rfl rfl) ?_
          refine WL.q rfl rfl rfl (QV.load pl3 rfl rfl (Own.cell 1 rfl rfl)) ?_
          obtain ⟨c28, hm29⟩ := ck_some hm27; clear hm27
          obtain ⟨p30, hp31⟩ := h_l_logs.lenMap.ix (sz := 1) ln_len c28
          refine WL.q rfl rfl rfl (QV.indexSlice sl30 rfl rfl rfl rfl hp31) ?_
          refine WL.q rfl rfl rfl (QV.load pl3 rfl rfl (fun w hw => CellsAt.one 0 (((Own.karr 4 rfl hk h_l_logs) w hw).ele hp31 c28) rfl)) ?_
          obtain ⟨c32, hm33⟩ := ck_some hm29; clear hm29
          refine WL.q rfl rfl rfl (QV.shlD rfl rfl rfl rfl c32) ?_
          refine WL.q rfl rfl rfl (QV.assign rfl rfl) ?_
          refine WL.nil ?_
          refine WQ.then ?_
          refine WC.seq ?_
          refine WC.seq ?_
          refine WC.region ?_
          refine WL.q rfl rfl rfl (QV.move rfl rfl) ?_
          refine WL.q rfl rfl rfl (QV.assign rfl rfl) ?_
          refine WL.nil ?_
          refine WQ.then ?_
          obtain ⟨o34, ho35, hm36⟩ := bd_some hm33; clear hm33; obtain ⟨n37, ho38⟩ := lp_some ho35
          refine WC.bloop1 (H2 := [blk b12 [.int .i64 ((ele l.body to).op), .int .i64 (((ele l.body to).a).st), .int .i64 (((ele l.body to).a).bk), .int .i64 (((ele l.body to).b).st), .int .i64 (((ele l.body to).b).bk), .int .i64 ((ele l.body to).ar), .int .i64 ((ele l.body to).sp), .int .i64 ((ele l.body to).pl), .int .i64 ((ele l.body to).n)] 59, blk b11 [.int .i64 ((ele l.body from_).op), .int .i64 (((ele l.body from_).a).st), .int .i64 (((ele l.body from_).a).bk), .int .i64 (((ele l.body from_).b).st), .int .i64 (((ele l.body from_).b).bk), .int .i64 ((ele l.body from_).ar), .int .i64 ((ele l.body from_).sp), .int .i64 ((ele l.body from_).pl), .int .i64 ((ele l.body from_).n)] 59, blk b2 [.int .i64 0, .int .i64 0, .int .i64 0, .int .i64 0] 61, blk b1 [v_l_logs, v_l_body, v_l_outs] 49, kn noM w.heap.size w w]) (τ := [(1, (true, _)), (2, (true, _)), (6, (true, _)), (8, (true, _)), (9, (true, _)), (11, (true, _)), (12, (true, _))]) (fun (back13_3 : Int) => [(13, (true, .int .i64 back13_3))]) (fun (back13_3 : Int) => []) (fun (back13_3 : Int) (m : Nat) => iter (dep_memory_L0 l from_ to wait11_2) m back13_3 = some o34) (fun (back13_3 : Int) => o34 = .go back13_3) least10_1 n37 ho38 ⟨rfl, rfl, rfl, rfl, rfl, rfl, rfl, rfl, trivial⟩ (fun w hw => hw.pick [0, 1, 2, 3, 4] (by decide)) ?_ ?_
          · skip
            rintro back13_3 rfl
            refine WQ.then ?_
            refine WC.seq ?_
            refine WC.region ?_
            refine WL.q rfl rfl rfl (QV.build (ps := []) (cells := [.int .i64 0, .int .i64 0, .int .i64 0, .int .i64 0]) EvAll.nil (by kernel_rfl)) ?_
            refine WL.effect rfl ?_
            refine (EV.store 2 rfl rfl rfl rfl rfl rfl (vs := [.int .i64 0, .int .i64 0, .int .i64 0, .int .i64 0]) (show Value.cells _ = List.toArray _ from rfl) sz61 (Nat.le_of_ble_eq_true rfl) (one_cons rfl (one_cons rfl (one_cons rfl (one_cons rfl one_nil)))) ?_)
            refine WL.q rfl rfl rfl (QV.assign rfl rfl) ?_
            refine WL.nil ?_
            refine WQ.then ?_
            refine WC.ret ?_
            obtain rfl := (eq_of_some hm36).symm
            refine WQ.retCellTmp rfl ag61 rfl rfl rfl (Own.cellsBlk 2 rfl) (fun w hw => ?_)
            exact ⟨rfl, Own.kgrow (fun _ x => x) hw⟩
          · skip
            rintro back13_3 m39 hI40
            obtain ⟨m41, s42, rfl, hm43, hn44⟩ := iter_step hI40; clear hI40; unfold dep_memory_L0 at hm43
            refine WC.seq ?_
            refine WC.seq ?_
            refine WC.region ?_
            refine WL.q rfl rfl rfl (QV.move rfl rfl) ?_
            refine WL.q rfl rfl rfl (QV.move rfl rfl) ?_
            refine WL.q rfl rfl rfl (QV.leq rfl rfl rfl rfl) ?_
            refine WL.nil ?_
            refine WQ.then ?_
            refine WC.cond rfl (fun h45 => ?_) (fun h45 => ?_)
            · skip
              have hm46 := br_t h45 hm43; clear hm43
              refine WC.skip ?_
              refine WQ.then ?_
              refine WC.seq ?_
              refine WC.block ?_
              refine WC.seq ?_
              refine WC.region ?_
              refine WL.q rfl rfl rfl (QV.loadAgg ag59 rfl rfl rfl (Own.cellsBlk 1 rfl)) ?_
              refine WL.q rfl rfl rfl (QV.loadAgg ag59 rfl rfl rfl (Own.cellsBlk 0 rfl)) ?_
              refine WL.q rfl rfl rfl (QV.move rfl rfl) ?_
              refine WL.q rfl rfl rfl (QV.move rfl rfl) ?_
              obtain ⟨x47, hx48, hm49⟩ := bd_some hm46; clear hm46
              refine WL.q rfl rfl rfl (QV.call en105 (EvAll.cons rfl rfl (EvAll.cons rfl rfl (EvAll.cons rfl rfl (EvAll.cons rfl rfl EvAll.nil)))) (fun w hw => have h := dep_meet_w w hx48 ; h)) ?_
              refine WL.nil ?_
              refine WQ.then ?_
              refine WC.cond rfl (fun h50 => ?_) (fun h50 => ?_)
              · skip
                have hm51 := br_t h50 hm49; clear hm49
                refine WC.seq ?_
                refine WC.region ?_
                refine WL.q rfl rfl rfl (QV.move rfl rfl) ?_
                refine WL.q rfl rfl rfl (QV.move rfl rfl) ?_
                refine WL.q rfl rfl rfl (QV.move rfl rfl) ?_
                refine WL.q rfl rfl rfl (QV.move rfl rfl) ?_
                refine WL.q rfl rfl rfl (QV.build (ps := [(0, .tmp 74), (1, .tmp 75), (2, .tmp 76), (3, .tmp 77)]) (cells := [.int .i64 from_, .int .i64 to, .int .i64 back13_3, .int .i64 wait11_2]) (EvAll.cons rfl rfl (EvAll.cons rfl rfl (EvAll.cons rfl rfl (EvAll.cons rfl rfl EvAll.nil)))) (by kernel_rfl)) ?_
                refine WL.effect rfl ?_
                refine (EV.store 2 rfl rfl rfl rfl rfl rfl (vs := [.int .i64 from_, .int .i64 to, .int .i64 back13_3, .int .i64 wait11_2]) (show Value.cells _ = List.toArray _ from rfl) sz61 (Nat.le_of_ble_eq_true rfl) (one_cons rfl (one_cons rfl (one_cons rfl (one_cons rfl one_nil)))) ?_)
                refine WL.q rfl rfl rfl (QV.assign rfl rfl) ?_
                refine WL.nil ?_
                refine WQ.then ?_
                refine WC.ret ?_
                refine WQ.block_ret ?_
                refine WQ.then_ret ?_
                refine WQ.then_ret ?_
                refine WQ.block_ret ?_
                refine WQ.then_ret ?_
                refine WQ.then_ret ?_
                obtain rfl := up_ret hm51 hn44
                obtain rfl := (eq_of_some hm36).symm
                refine WQ.retCellTmp rfl ag61 rfl rfl rfl (Own.cellsBlk 2 rfl) (fun w hw => ?_)
                exact ⟨rfl, Own.kgrow (fun _ x => x) hw⟩
              · skip
                have hm52 := br_f h50 hm49; clear hm49
                refine WC.skip ?_
                refine WQ.block ?_
                refine WQ.then ?_
                refine WC.region ?_
                refine WL.q rfl rfl rfl (QV.move rfl rfl) ?_
                obtain ⟨c53, hm54⟩ := ck_some hm52; clear hm52
                refine WL.q rfl rfl rfl (QV.add rfl rfl rfl rfl c53) ?_
                refine WL.q rfl rfl rfl (QV.assign rfl rfl) ?_
                refine WL.nil ?_
                exact WQ.again1 (back13_3 + 1) m41 (up_next hm54 hn44) (Nat.lt_succ_self _) ⟨rfl, rfl, rfl, rfl, rfl, rfl, rfl, rfl, trivial⟩ (fun w hw => hw.pick [0, 1, 2, 3, 4] (by decide))
            · skip
              have hm55 := br_f h45 hm43; clear hm43
              refine WC.exit ?_
              refine WQ.then_exit ?_
              refine WQ.then_exit ?_
              refine WQ.block_exit ?_
              exact WQ.out1 back13_3 (up_brk hm55 hn44) ⟨rfl, rfl, rfl, rfl, rfl, rfl, rfl, rfl, trivial⟩ (fun w hw => hw.pick [0, 1, 2, 3, 4] (by decide))
        · skip
          refine WC.cond rfl (fun h56 => ?_) (fun h56 => ?_)
          · skip
            have hm57 := br_t h56 hj26; clear hj26
            refine WC.region ?_
            refine WL.q rfl rfl rfl (QV.assign rfl rfl) ?_
            refine WL.nil ?_
            exact WQ.out1 1 (eq_of_some hm57) ⟨rfl, rfl, rfl, rfl, rfl, rfl, rfl, rfl, trivial⟩ (fun w hw => hw.pick [0, 1, 2, 3, 4] (by decide))
          · skip
            have hm58 := br_f h56 hj26; clear hj26
            refine WC.skip ?_
            exact WQ.out1 0 (eq_of_some hm58) ⟨rfl, rfl, rfl, rfl, rfl, rfl, rfl, rfl, trivial⟩ (fun w hw => hw.pick [0, 1, 2, 3, 4] (by decide))
      · skip
        refine WC.cond rfl (fun h59 => ?_) (fun h59 => ?_)
        · skip
          have hm60 := br_t h59 hj23; clear hj23
          refine WC.region ?_
          refine WL.q rfl rfl rfl (QV.assign rfl rfl) ?_
          refine WL.nil ?_
          exact WQ.out1 1 (eq_of_some hm60) ⟨rfl, rfl, rfl, rfl, rfl, rfl, rfl, rfl, trivial⟩ (fun w hw => hw.pick [0, 1, 2, 3, 4] (by decide))
        · skip
          have hm61 := br_f h59 hj23; clear hj23
          refine WC.skip ?_
          exact WQ.out1 0 (eq_of_some hm61) ⟨rfl, rfl, rfl, rfl, rfl, rfl, rfl, rfl, trivial⟩ (fun w hw => hw.pick [0, 1, 2, 3, 4] (by decide))
  · skip
    refine WD.two 10 11 1023 2047 3071 (by kernel_rfl) rfl rfl rfl rfl (by kernel_rfl) (by kernel_rfl) ?_ ?_
    · skip
      refine (EV.alloc (by decide) ze59 (fun b62 => ?_))
      refine WD.b (H' := [kn noM w.heap.size w w, blk b2 [.int .i64 0, .int .i64 0, .int .i64 0, .int .i64 0] 61, blk b1 [v_l_logs, v_l_body, v_l_outs] 49]) (fun w hw => hw.pick [3, 1, 2] (by decide)) (fun w hw => hw) ?_
      refine WD.oL 11 2047 4095 rfl (by kernel_rfl) rfl ?_
      refine (EV.alloc (by decide) ze59 (fun b63 => ?_))
      refine WD.b (H' := [kn noM w.heap.size w w, blk b2 [.int .i64 0, .int .i64 0, .int .i64 0, .int .i64 0] 61, blk b1 [v_l_logs, v_l_body, v_l_outs] 49]) (fun w hw => hw.pick [4, 2, 3] (by decide)) (fun w hw => hw) ?_
      refine WD.oL 12 4095 8191 rfl (by kernel_rfl) rfl ?_
      refine (EV.store 1 rfl rfl rfl rfl rfl rfl (vs := [.int .i64 ((ele l.body from_).op), .int .i64 (((ele l.body from_).a).st), .int .i64 (((ele l.body from_).a).bk), .int .i64 (((ele l.body from_).b).st), .int .i64 (((ele l.body from_).b).bk), .int .i64 ((ele l.body from_).ar), .int .i64 ((ele l.body from_).sp), .int .i64 ((ele l.body from_).pl), .int .i64 ((ele l.body from_).n)]) (show Value.cells _ = List.toArray _ from rfl) sz59 (Nat.le_of_ble_eq_true rfl) (one_cons rfl (one_cons rfl (one_cons rfl (one_cons rfl (one_cons rfl (one_cons rfl (one_cons rfl (one_cons rfl (one_cons rfl one_nil))))))))) ?_)
      refine WD.b (H' := [kn noM w.heap.size w w, blk b2 [.int .i64 0, .int .i64 0, .int .i64 0, .int .i64 0] 61, blk b1 [v_l_logs, v_l_body, v_l_outs] 49]) (fun w hw => hw.pick [4, 2, 3] (by decide)) (fun w hw => hw) ?_
      refine WD.oL 13 8191 16383 rfl (by kernel_rfl) rfl ?_
      refine (EV.store 0 rfl rfl rfl rfl rfl rfl (vs := [.int .i64 ((ele l.body to).op), .int .i64 (((ele l.body to).a).st), .int .i64 (((ele l.body to).a).bk), .int .i64 (((ele l.body to).b).st), .int .i64 (((ele l.body to).b).bk), .int .i64 ((ele l.body to).ar), .int .i64 ((ele l.body to).sp), .int .i64 ((ele l.body to).pl), .int .i64 ((ele l.body to).n)]) (show Value.cells _ = List.toArray _ from rfl) sz59 (Nat.le_of_ble_eq_true rfl) (one_cons rfl (one_cons rfl (one_cons rfl (one_cons rfl (one_cons rfl (one_cons rfl (one_cons rfl (one_cons rfl (one_cons rfl one_nil))))))))) ?_)
      refine WD.b (H' := [kn noM w.heap.size w w, blk b2 [.int .i64 0, .int .i64 0, .int .i64 0, .int .i64 0] 61, blk b1 [v_l_logs, v_l_body, v_l_outs] 49]) (fun w hw => hw.pick [4, 2, 3] (by decide)) (fun w hw => hw) ?_
      refine WD.eL (by kernel_rfl) ?_
      exact WQ.cutEnd2 b62 b63 ⟨rfl, rfl, rfl, rfl, rfl, rfl, trivial⟩ (fun w hw => hw.pick [0, 1, 2, 3, 4] (by decide))
    · skip
      refine (EV.alloc (by decide) ze59 (fun b64 => ?_))
      refine WD.b (H' := [kn noM w.heap.size w w, blk b2 [.int .i64 0, .int .i64 0, .int .i64 0, .int .i64 0] 61, blk b1 [v_l_logs, v_l_body, v_l_outs] 49]) (fun w hw => hw.pick [3, 1, 2] (by decide)) (fun w hw => hw) ?_
      refine WD.oL 10 3071 4095 rfl (by kernel_rfl) rfl ?_
      refine (EV.alloc (by decide) ze59 (fun b65 => ?_))
      refine WD.b (H' := [kn noM w.heap.size w w, blk b2 [.int .i64 0, .int .i64 0, .int .i64 0, .int .i64 0] 61, blk b1 [v_l_logs, v_l_body, v_l_outs] 49]) (fun w hw => hw.pick [4, 2, 3] (by decide)) (fun w hw => hw) ?_
      refine WD.oL 12 4095 8191 rfl (by kernel_rfl) rfl ?_
      refine (EV.store 0 rfl rfl rfl rfl rfl rfl (vs := [.int .i64 ((ele l.body from_).op), .int .i64 (((ele l.body from_).a).st), .int .i64 (((ele l.body from_).a).bk), .int .i64 (((ele l.body from_).b).st), .int .i64 (((ele l.body from_).b).bk), .int .i64 ((ele l.body from_).ar), .int .i64 ((ele l.body from_).sp), .int .i64 ((ele l.body from_).pl), .int .i64 ((ele l.body from_).n)]) (show Value.cells _ = List.toArray _ from rfl) sz59 (Nat.le_of_ble_eq_true rfl) (one_cons rfl (one_cons rfl (one_cons rfl (one_cons rfl (one_cons rfl (one_cons rfl (one_cons rfl (one_cons rfl (one_cons rfl one_nil))))))))) ?_)
      refine WD.b (H' := [kn noM w.heap.size w w, blk b2 [.int .i64 0, .int .i64 0, .int .i64 0, .int .i64 0] 61, blk b1 [v_l_logs, v_l_body, v_l_outs] 49]) (fun w hw => hw.pick [4, 2, 3] (by decide)) (fun w hw => hw) ?_
      refine WD.oL 13 8191 16383 rfl (by kernel_rfl) rfl ?_
      refine (EV.store 1 rfl rfl rfl rfl rfl rfl (vs := [.int .i64 ((ele l.body to).op), .int .i64 (((ele l.body to).a).st), .int .i64 (((ele l.body to).a).bk), .int .i64 (((ele l.body to).b).st), .int .i64 (((ele l.body to).b).bk), .int .i64 ((ele l.body to).ar), .int .i64 ((ele l.body to).sp), .int .i64 ((ele l.body to).pl), .int .i64 ((ele l.body to).n)]) (show Value.cells _ = List.toArray _ from rfl) sz59 (Nat.le_of_ble_eq_true rfl) (one_cons rfl (one_cons rfl (one_cons rfl (one_cons rfl (one_cons rfl (one_cons rfl (one_cons rfl (one_cons rfl (one_cons rfl one_nil))))))))) ?_)
      refine WD.b (H' := [kn noM w.heap.size w w, blk b2 [.int .i64 0, .int .i64 0, .int .i64 0, .int .i64 0] 61, blk b1 [v_l_logs, v_l_body, v_l_outs] 49]) (fun w hw => hw.pick [4, 2, 3] (by decide)) (fun w hw => hw) ?_
      refine WD.eL (by kernel_rfl) ?_
      exact WQ.cutEnd2 b65 b64 ⟨rfl, rfl, rfl, rfl, rfl, rfl, trivial⟩ (fun w hw => hw.pick [1, 0, 2, 3, 4] (by decide))

set_option maxRecDepth 8000 in
theorem dep_Edges_w {v_l_logs : Value} {v_l_body : Value} {v_l_outs : Value} {l : Lp} {t : Tgt} {r : List Edg × Int} {K0 : World} (hm : dep_Edges_m l t = some r) (h_l_logs : Arr K0 v_l_logs 1 (l.logs.map icell)) (h_l_body : Arr K0 v_l_body 9 (l.body.map Stm.cells)) (h_l_outs : Arr K0 v_l_outs 1 (l.outs.map icell)) (M : Nat → Prop) (w : World) (hk : Base M K0 w) (hw0 : Own M w [] w) : Calls Try.prog 23 #[.agg #[v_l_logs, v_l_body, v_l_outs], .agg #[.int .i64 t.u0, .int .i64 t.u1, .int .i64 t.u2, .int .i64 t.w0, .int .i64 t.w1, .int .i64 t.w2, .int .i64 t.regs]] w (fun e w' => ∃ X : Value × World, e = .returned (.tuple #[X.1, .int .i64 r.2]) ∧ Own M w (kn M w.heap.size K0 X.2 :: []) w' ∧ Arr X.2 X.1 4 (r.1.map Edg.cells)) := by
  unfold dep_Edges_m at hm
  refine calls_of_WC (n := 80) (args := [.agg #[v_l_logs, v_l_body, v_l_outs], .agg #[.int .i64 t.u0, .int .i64 t.u1, .int .i64 t.u2, .int .i64 t.w0, .int .i64 t.w1, .int .i64 t.w2, .int .i64 t.regs]]) Try.func23 rfl rfl (Nat.le_of_ble_eq_true rfl) ?_ (Own.startK hk hw0)
  refine WC.seq ?_
  refine WC.region ?_
  refine WL.effect rfl ?_
  refine (EV.boxAgg (by decide) rfl rfl (fun b1 => ?_))
  refine WL.effect rfl ?_
  refine (EV.boxAgg (by decide) rfl rfl (fun b2 => ?_))
  refine WL.q rfl rfl rfl (QV.assign rfl rfl) ?_
  refine WL.q rfl rfl rfl (QV.assign rfl rfl) ?_
  refine WL.nil ?_
  refine WQ.then ?_
  refine WC.seq ?_
  refine WC.seq ?_
  refine WC.region ?_
  refine WL.q rfl rfl rfl (QV.loadAgg ag49 rfl rfl rfl (Own.cellsBlk 1 rfl)) ?_
  obtain ⟨x3, hx4, hm5⟩ := bd_some hm; clear hm
  refine WL.q rfl rfl rfl (QV.call en61 (EvAll.cons rfl rfl EvAll.nil) (fun w hw => have h := loop_May_w w hx4 ((Own.karr 2 rfl hk h_l_logs) w hw) ((Own.karr 2 rfl hk h_l_body) w hw) ((Own.karr 2 rfl hk h_l_outs) w hw); h)) ?_
  refine WL.q rfl rfl rfl (QV.not rfl rfl) ?_
  refine WL.q rfl rfl rfl (QV.move rfl rfl) ?_
  refine WL.g rfl rfl (GuardIs.neg rfl rfl) (fun hG => QV.loadAgg ag24 rfl rfl rfl (Own.cellsBlk 0 rfl)) ?_
  obtain ⟨x6, hx7, hm8⟩ := bdG_some hm5; clear hm5
  refine WL.g rfl rfl (GuardIs.neg rfl rfl) (fun hG => QV.call en46 (EvAll.cons rfl hG EvAll.nil) (fun w hw => have h := target_May_w w (hx7 hG) ; h)) ?_
  refine WL.g rfl rfl (GuardIs.neg rfl rfl) (fun hG => QV.not rfl hG) ?_
  refine WL.q rfl rfl rfl (QV.pickOr rfl rfl rfl (fun h => notF h)) ?_
  refine WL.nil ?_
  refine WQ.then ?_
  refine WC.cond rfl (fun h9 => ?_) (fun h9 => ?_)
  · skip
    have hm10 := br_t h9 hm8; clear hm8
    refine WC.seq ?_
    refine WC.region ?_
    refine WL.q rfl rfl rfl (QV.assign rfl rfl) ?_
    refine WL.q rfl rfl rfl (QV.assign rfl rfl) ?_
    refine WL.nil ?_
    refine WQ.then ?_
    refine WC.ret ?_
    refine WQ.then_ret ?_
    obtain rfl := (eq_of_some hm10).symm
    refine WQ.ret2 rfl rfl rfl (fun w hw => ?_)
    exact ⟨(.slice none 0 0, K0), rfl, hw.pick [2] (by decide), Arr.nil⟩
  · skip
    have hm11 := br_f h9 hm8; clear hm8
    refine WC.skip ?_
    refine WQ.then ?_
    refine WC.seq ?_
    refine WC.region ?_
    refine WL.q rfl rfl rfl (QV.assign rfl rfl) ?_
    refine WL.nil ?_
    refine WQ.then ?_
    refine WC.seq ?_
    refine WC.seq ?_
    refine WC.region ?_
    refine WL.q rfl rfl rfl (QV.fieldAddr fd49_1 rfl rfl) ?_
    refine WL.q rfl rfl rfl (QV.load pl47 rfl rfl (Own.cell 1 rfl rfl)) ?_
    refine WL.q rfl rfl rfl (QV.lenS Try.underlying47 rfl rfl h_l_body.lenMap) ?_
    refine WL.q rfl rfl rfl (QV.move rfl rfl) ?_
    refine WL.nil ?_
    refine WQ.then ?_
    refine WK.of (fun w hw => hw.vecNil (E := 61) (sz := 4) (enc := Edg.cells)) ?_
    obtain ⟨o13, ho14, hm15⟩ := bd_some hm11; clear hm11; obtain ⟨n16, ho17⟩ := lp_some ho14
    refine WC.bloop4 (H2 := [blk b2 [.int .i64 t.u0, .int .i64 t.u1, .int .i64 t.u2, .int .i64 t.w0, .int .i64 t.w1, .int .i64 t.w2, .int .i64 t.regs] 24, blk b1 [v_l_logs, v_l_body, v_l_outs] 49]) (τ := [(2, (true, _)), (3, (true, _)), (23, (true, _)), (24, (true, _))]) (fun (v12_7 : List Edg) (x25_7 : Int) (uv12_7 : Value) (k_7 : World) => [(6, (true, uv12_7)), (25, (true, .int .i64 x25_7))]) (fun (v12_7 : List Edg) (x25_7 : Int) (uv12_7 : Value) (k_7 : World) => [vec uv12_7 61 4 (List.map Edg.cells v12_7), kn M w.heap.size K0 k_7]) (fun (v12_7 : List Edg) (x25_7 : Int) (uv12_7 : Value) (k_7 : World) (m : Nat) => iter (dep_Edges_L0 l t) m (v12_7, x25_7) = some o13 ∧ SliceLen uv12_7 v12_7.length ∧ Le K0 k_7) (fun (v12_7 : List Edg) (x25_7 : Int) (uv12_7 : Value) (k_7 : World) => o13 = .go (v12_7, x25_7) ∧ SliceLen uv12_7 v12_7.length ∧ Le K0 k_7) [] 0 (.slice none 0 0) K0 n16 ⟨ho17, SliceLen.nil, (Le.refl _)⟩ ⟨rfl, rfl, rfl, rfl, rfl, rfl, trivial⟩ (fun w hw => hw.pick [0, 3, 1, 2] (by decide)) ?_ ?_
    · skip
      rintro v12_7 x25_7 uv12_7 k_7 ⟨rfl, hlv12_7, hle_7⟩
      refine WQ.then ?_
      refine WC.seq ?_
      refine WC.region ?_
      refine WL.q rfl rfl rfl (QV.move rfl rfl) ?_
      refine WL.effect rfl ?_
      obtain ⟨x18, hx19, hm20⟩ := bd_some hm15; clear hm15
      refine EV.of (C' := Own M w [kn M w.heap.size K0 k_7, vec uv12_7 61 4 (List.map Edg.cells v12_7), blk b2 [.int .i64 t.u0, .int .i64 t.u1, .int .i64 t.u2, .int .i64 t.w0, .int .i64 t.w1, .int .i64 t.w2, .int .i64 t.regs] 24, blk b1 [v_l_logs, v_l_body, v_l_outs] 49]) (fun w hw => hw.pick [1, 0, 2, 3] (by decide)) ?_
      refine (EV.callR (X := World) (R := [vec uv12_7 61 4 (List.map Edg.cells v12_7)]) (fun X => .tuple #[]) (fun X => [vec uv12_7 61 4 (List.map Edg.cells x18)]) (fun X => X) (fun X => SliceLen uv12_7 (x18).length) hk (fun _ h => by cases h; decide) en65 (EvAll.cons rfl rfl (EvAll.cons rfl rfl EvAll.nil)) (fun M w h1 h2 => have h := SortFunc_w hx19 hlv12_7 M w h1 h2; h) (fun X21 hF21 hle21 => ?_))
      refine WL.nil ?_
      refine WQ.then ?_
      refine WC.seq ?_
      refine WC.region ?_
      refine WL.q rfl rfl rfl (QV.move rfl rfl) ?_
      refine WL.effect rfl ?_
      obtain ⟨x22, hx23, hm24⟩ := bd_some hm20; clear hm20
      refine (EV.callR (X := Value × World) (R := [vec uv12_7 61 4 (List.map Edg.cells x18)]) (fun X => X.1) (fun X => []) (fun X => X.2) (fun X => Arr X.2 X.1 4 (x22.map Edg.cells)) hk (fun _ h => by cases h; decide) en67 (EvAll.cons rfl rfl EvAll.nil) (fun M w h1 h2 => have h := slices_Compact___api_Edge_api_Edge__w hx23 hF21 M w h1 h2; h) (fun X25 hF25 hle25 => ?_))
      refine WL.q rfl rfl rfl (QV.assign rfl rfl) ?_
      refine WL.q rfl rfl rfl (QV.assign rfl rfl) ?_
      refine WL.nil ?_
      refine WQ.then ?_
      refine WC.ret ?_
      obtain rfl := (eq_of_some hm24).symm
      refine WQ.ret2 rfl rfl rfl (fun w hw => ?_)
      exact ⟨(X25.1, X25.2), rfl, hw.pick [0] (by decide), hF25⟩
    · skip
      rintro v12_7 x25_7 uv12_7 k_7 m26 ⟨hI27, hlv12_7, hle_7⟩
      obtain ⟨m28, s29, rfl, hm30, hn31⟩ := iter_step hI27; clear hI27; unfold dep_Edges_L0 at hm30; simp only at hm30
      refine WC.seq ?_
      refine WC.region ?_
      refine WL.q rfl rfl rfl (QV.lss rfl rfl rfl rfl) ?_
      refine WL.nil ?_
      refine WQ.then ?_
      refine WC.seq ?_
      refine WC.cond rfl (fun h32 => ?_) (fun h32 => ?_)
      · skip
        have hm33 := br_t h32 hm30; clear hm30
        refine WC.skip ?_
        refine WQ.then ?_
        refine WC.seq ?_
        refine WC.block ?_
        refine WC.seq ?_
        refine WC.region ?_
        refine WL.q rfl rfl rfl (QV.move rfl rfl) ?_
        obtain ⟨c34, hm35⟩ := ck_some hm33; clear hm33
        obtain ⟨p36, hp37⟩ := (h_l_body.le hle_7).lenMap.ix (sz := 9) ln_len c34
        refine WL.q rfl rfl rfl (QV.indexSlice sl47 rfl rfl rfl rfl hp37) ?_
        refine WL.q rfl rfl rfl (QV.loadAgg ag59 rfl rfl rfl (fun w hw => ((Own.karr 1 rfl hk (h_l_body.le hle_7)) w hw).ele hp37 c34)) ?_
        refine WL.effect rfl ?_
        refine (EV.alloc (by decide) ze59 (fun b38 => ?_))
        refine WL.q rfl rfl rfl (QV.assign rfl rfl) ?_
        refine WL.effect rfl ?_
        refine (EV.store 0 rfl rfl rfl rfl rfl rfl (vs := [.int .i64 ((ele l.body x25_7).op), .int .i64 (((ele l.body x25_7).a).st), .int .i64 (((ele l.body x25_7).a).bk), .int .i64 (((ele l.body x25_7).b).st), .int .i64 (((ele l.body x25_7).b).bk), .int .i64 ((ele l.body x25_7).ar), .int .i64 ((ele l.body x25_7).sp), .int .i64 ((ele l.body x25_7).pl), .int .i64 ((ele l.body x25_7).n)]) (show Value.cells _ = List.toArray _ from rfl) sz59 (Nat.le_of_ble_eq_true rfl) (one_cons rfl (one_cons rfl (one_cons rfl (one_cons rfl (one_cons rfl (one_cons rfl (one_cons rfl (one_cons rfl (one_cons rfl one_nil))))))))) ?_)
        refine WL.nil ?_
        refine WQ.then ?_
        refine WC.seq ?_
        refine WC.seq ?_
        refine WC.region ?_
        refine WL.q rfl rfl rfl (QV.loadAgg ag59 rfl rfl rfl (Own.cellsBlk 0 rfl)) ?_
        refine WL.effect rfl ?_
        obtain ⟨x39, hx40, hm41⟩ := bd_some hm35; clear hm35
        refine EV.of (C' := Own M w [kn M w.heap.size K0 k_7, blk b38 [.int .i64 ((ele l.body x25_7).op), .int .i64 (((ele l.body x25_7).a).st), .int .i64 (((ele l.body x25_7).a).bk), .int .i64 (((ele l.body x25_7).b).st), .int .i64 (((ele l.body x25_7).b).bk), .int .i64 ((ele l.body x25_7).ar), .int .i64 ((ele l.body x25_7).sp), .int .i64 ((ele l.body x25_7).pl), .int .i64 ((ele l.body x25_7).n)] 59, vec uv12_7 61 4 (List.map Edg.cells v12_7), blk b2 [.int .i64 t.u0, .int .i64 t.u1, .int .i64 t.u2, .int .i64 t.w0, .int .i64 t.w1, .int .i64 t.w2, .int .i64 t.regs] 24, blk b1 [v_l_logs, v_l_body, v_l_outs] 49]) (fun w hw => hw.pick [2, 0, 1, 3, 4] (by decide)) ?_
        refine (EV.callR (X := Value × World) (R := []) (fun X => X.1) (fun X => []) (fun X => X.2) (fun X => Arr X.2 X.1 2 (x39.map Rf.cells)) hk (fun _ h => by cases h; decide) en62 (EvAll.cons rfl rfl EvAll.nil) (fun M w h1 h2 => have h := loop_Uses_w hx40  M w h1 h2; h) (fun X42 hF42 hle42 => ?_))
        refine WL.q rfl rfl rfl (QV.lenS Try.underlying106 rfl rfl hF42.lenMap) ?_
        refine WL.q rfl rfl rfl (QV.move rfl rfl) ?_
        refine WL.nil ?_
        refine WQ.then ?_
        obtain ⟨o43, ho44, hm45⟩ := bd_some hm41; clear hm41; obtain ⟨n46, ho47⟩ := lp_some ho44
        refine WC.bloop3 (H2 := [kn M w.heap.size K0 X42.2, blk b38 [.int .i64 ((ele l.body x25_7).op), .int .i64 (((ele l.body x25_7).a).st), .int .i64 (((ele l.body x25_7).a).bk), .int .i64 (((ele l.body x25_7).b).st), .int .i64 (((ele l.body x25_7).b).bk), .int .i64 ((ele l.body x25_7).ar), .int .i64 ((ele l.body x25_7).sp), .int .i64 ((ele l.body x25_7).pl), .int .i64 ((ele l.body x25_7).n)] 59, blk b2 [.int .i64 t.u0, .int .i64 t.u1, .int .i64 t.u2, .int .i64 t.w0, .int .i64 t.w1, .int .i64 t.w2, .int .i64 t.regs] 24, blk b1 [v_l_logs, v_l_body, v_l_outs] 49]) (τ := [(2, (true, _)), (3, (true, _)), (7, (true, _)), (23, (true, _)), (24, (true, _)), (25, (true, _)), (31, (true, _)), (32, (true, _))]) (fun (v12_8 : List Edg) (x33_8 : Int) (uv12_8 : Value) => [(6, (true, uv12_8)), (33, (true, .int .i64 x33_8))]) (fun (v12_8 : List Edg) (x33_8 : Int) (uv12_8 : Value) => [vec uv12_8 61 4 (List.map Edg.cells v12_8)]) (fun (v12_8 : List Edg) (x33_8 : Int) (uv12_8 : Value) (m : Nat) => iter (dep_Edges_L2 l t x25_7 x39) m (v12_8, x33_8) = some o43 ∧ SliceLen uv12_8 v12_8.length) (fun (v12_8 : List Edg) (x33_8 : Int) (uv12_8 : Value) => o43 = .go (v12_8, x33_8) ∧ SliceLen uv12_8 v12_8.length) v12_7 0 uv12_7 n46 ⟨ho47, hlv12_7⟩ ⟨rfl, rfl, rfl, rfl, rfl, rfl, rfl, rfl, rfl, rfl, trivial⟩ (fun w hw => hw.pick [2, 0, 1, 3, 4] (by decide)) ?_ ?_
        · skip
          rintro v12_8 x33_8 uv12_8 ⟨rfl, hlv12_8⟩
          refine WQ.then ?_
          refine WC.seq ?_
          refine WC.region ?_
          refine WL.q rfl rfl rfl (QV.fieldAddr fd49_1 rfl rfl) ?_
          refine WL.q rfl rfl rfl (QV.load pl47 rfl rfl (Own.cell 4 rfl rfl)) ?_
          refine WL.q rfl rfl rfl (QV.lenS Try.underlying47 rfl rfl (h_l_body.le (hle_7.trans hle42)).lenMap) ?_
          refine WL.q rfl rfl rfl (QV.move rfl rfl) ?_
          refine WL.nil ?_
          refine WQ.then ?_
          obtain ⟨o48, ho49, hm50⟩ := bd_some hm45; clear hm45; obtain ⟨n51, ho52⟩ := lp_some ho49
          refine WC.bloop3 (H2 := [kn M w.heap.size K0 X42.2, blk b38 [.int .i64 ((ele l.body x25_7).op), .int .i64 (((ele l.body x25_7).a).st), .int .i64 (((ele l.body x25_7).a).bk), .int .i64 (((ele l.body x25_7).b).st), .int .i64 (((ele l.body x25_7).b).bk), .int .i64 ((ele l.body x25_7).ar), .int .i64 ((ele l.body x25_7).sp), .int .i64 ((ele l.body x25_7).pl), .int .i64 ((ele l.body x25_7).n)] 59, blk b2 [.int .i64 t.u0, .int .i64 t.u1, .int .i64 t.u2, .int .i64 t.w0, .int .i64 t.w1, .int .i64 t.w2, .int .i64 t.regs] 24, blk b1 [v_l_logs, v_l_body, v_l_outs] 49]) (τ := [(2, (true, _)), (3, (true, _)), (7, (true, _)), (23, (true, _)), (24, (true, _)), (25, (true, _)), (58, (true, _))]) (fun (v12_9 : List Edg) (x59_9 : Int) (uv12_9 : Value) => [(6, (true, uv12_9)), (59, (true, .int .i64 x59_9))]) (fun (v12_9 : List Edg) (x59_9 : Int) (uv12_9 : Value) => [vec uv12_9 61 4 (List.map Edg.cells v12_9)]) (fun (v12_9 : List Edg) (x59_9 : Int) (uv12_9 : Value) (m : Nat) => iter (dep_Edges_L4 l x25_7) m (v12_9, x59_9) = some o48 ∧ SliceLen uv12_9 v12_9.length) (fun (v12_9 : List Edg) (x59_9 : Int) (uv12_9 : Value) => o48 = .go (v12_9, x59_9) ∧ SliceLen uv12_9 v12_9.length) v12_8 0 uv12_8 n51 ⟨ho52, hlv12_8⟩ ⟨rfl, rfl, rfl, rfl, rfl, rfl, rfl, rfl, rfl, trivial⟩ (fun w hw => hw.pick [0, 1, 2, 3, 4] (by decide)) ?_ ?_
          · skip
            rintro v12_9 x59_9 uv12_9 ⟨rfl, hlv12_9⟩
            refine WQ.block ?_
            refine WQ.then ?_
            refine WC.region ?_
            obtain ⟨c53, hm54⟩ := ck_some hm50; clear hm50
            refine WL.q rfl rfl rfl (QV.add rfl rfl rfl rfl c53) ?_
            refine WL.q rfl rfl rfl (QV.move rfl rfl) ?_
            refine WL.nil ?_
            exact WQ.again4 v12_9 (x25_7 + 1) uv12_9 X42.2 m28 ⟨up_next hm54 hn31, hlv12_9, (hle_7.trans hle42)⟩ (Nat.lt_succ_self _) ⟨rfl, rfl, rfl, rfl, rfl, rfl, trivial⟩ (fun w hw => hw.pick [0, 1, 3, 4] (by decide))
          · skip
            rintro v12_9 x59_9 uv12_9 m55 ⟨hI56, hlv12_9⟩
            obtain ⟨m57, s58, rfl, hm59, hn60⟩ := iter_step hI56; clear hI56; unfold dep_Edges_L4 at hm59; simp only at hm59
            refine WC.seq ?_
            refine WC.region ?_
            refine WL.q rfl rfl rfl (QV.lss rfl rfl rfl rfl) ?_
            refine WL.nil ?_
            refine WQ.then ?_
            refine WC.seq ?_
            refine WC.cond rfl (fun h61 => ?_) (fun h61 => ?_)
            · skip
              have hm62 := br_t h61 hm59; clear hm59
              refine WC.skip ?_
              refine WQ.then ?_
              refine WC.seq ?_
              refine WC.block ?_
              refine WC.seq ?_
              refine WC.region ?_
              refine WL.q rfl rfl rfl (QV.move rfl rfl) ?_
              refine WL.q rfl rfl rfl (QV.assign rfl rfl) ?_
              refine WL.nil ?_
              refine WQ.then ?_
              refine WC.seq ?_
              refine WC.region ?_
              refine WL.q rfl rfl rfl (QV.loadAgg ag49 rfl rfl rfl (Own.cellsBlk 4 rfl)) ?_
              refine WL.q rfl rfl rfl (QV.move rfl rfl) ?_
              refine WL.q rfl rfl rfl (QV.move rfl rfl) ?_
              obtain ⟨x63, hx64, hm65⟩ := bd_some hm62; clear hm62
              refine WL.q rfl rfl rfl (QV.call en64 (EvAll.cons rfl rfl (EvAll.cons rfl rfl (EvAll.cons rfl rfl EvAll.nil))) (fun w hw => have h := dep_memory_w w hx64 ((Own.karr 1 rfl hk (h_l_logs.le (hle_7.trans hle42))) w hw) ((Own.karr 1 rfl hk (h_l_body.le (hle_7.trans hle42))) w hw) ((Own.karr 1 rfl hk (h_l_outs.le (hle_7.trans hle42))) w hw); h)) ?_
              refine WL.q rfl rfl rfl (QV.move rfl rfl) ?_
              refine WL.q rfl rfl rfl (QV.extract rfl rfl rfl) ?_
              refine WL.q rfl rfl rfl (QV.extract rfl rfl rfl) ?_
              refine WL.effect rfl ?_
              refine (EV.alloc (by decide) ze61 (fun b66 => ?_))
              refine WL.effect rfl ?_
              refine (EV.store 0 rfl rfl rfl rfl rfl rfl (vs := [.int .i64 x63.1.fr, .int .i64 x63.1.to, .int .i64 x63.1.bk, .int .i64 x63.1.wt]) (show Value.cells _ = List.toArray _ from rfl) sz61 (Nat.le_of_ble_eq_true rfl) (one_cons rfl (one_cons rfl (one_cons rfl (one_cons rfl one_nil)))) ?_)
              refine WL.q rfl rfl rfl (QV.assign rfl rfl) ?_
              refine WL.nil ?_
              refine WQ.then ?_
              refine WC.seq ?_
              refine WC.region ?_
              refine WL.q rfl rfl rfl (QV.move rfl rfl) ?_
              refine WL.nil ?_
              refine WQ.then ?_
              refine WC.cond rfl (fun h67 => ?_) (fun h67 => ?_)
              · skip
                have hm68 := br_t h67 hm65; clear hm65
                refine WC.region ?_
                refine WL.q rfl rfl rfl (QV.move rfl rfl) ?_
                refine WL.q rfl rfl rfl (QV.loadAgg ag61 rfl rfl rfl (Own.cellsBlk 0 rfl)) ?_
                refine WL.effect rfl ?_
                refine (EV.buildSlice (by decide) sz_50 (by decide) (by decide) (ps := [(0, .tmp 71)]) (cells := [.int .i64 x63.1.fr, .int .i64 x63.1.to, .int .i64 x63.1.bk, .int .i64 x63.1.wt]) (EvAll.cons rfl rfl EvAll.nil) (by kernel_rfl) (fun b69 => ?_))
                refine WL.effect rfl ?_
                obtain ⟨c70, hm71⟩ := ck_some hm68; clear hm68
                refine (EV.appendL (enc := Edg.cells) (xs := v12_9) (ys := [x63.1]) ((v12_9 ++ [x63.1])) 2 (by decide) ve50 rfl rfl rfl rfl rfl (Own.blkArr 0 (rows := [x63.1].map Edg.cells) rfl rfl (rows_len Edg.cells_len)) Edg.cells_len (Edg.cells_one _) rfl c70.1 c70.2 (fun u72 hu73 => ?_))
                refine WL.q rfl rfl rfl (QV.assign rfl rfl) ?_
                refine WL.nil ?_
                refine WQ.block ?_
                refine WQ.then ?_
                refine WC.region ?_
                obtain ⟨c74, hm75⟩ := ck_some hm71; clear hm71
                refine WL.q rfl rfl rfl (QV.add rfl rfl rfl rfl c74) ?_
                refine WL.q rfl rfl rfl (QV.move rfl rfl) ?_
                refine WL.nil ?_
                exact WQ.again3 (v12_9 ++ [x63.1]) (x59_9 + 1) u72 m57 ⟨up_next hm75 hn60, hu73⟩ (Nat.lt_succ_self _) ⟨rfl, rfl, rfl, rfl, rfl, rfl, rfl, rfl, rfl, trivial⟩ (fun w hw => hw.pick [2, 3, 4, 5, 6] (by decide))
              · skip
                have hm76 := br_f h67 hm65; clear hm65
                refine WC.skip ?_
                refine WQ.block ?_
                refine WQ.then ?_
                refine WC.region ?_
                obtain ⟨c77, hm78⟩ := ck_some hm76; clear hm76
                refine WL.q rfl rfl rfl (QV.add rfl rfl rfl rfl c77) ?_
                refine WL.q rfl rfl rfl (QV.move rfl rfl) ?_
                refine WL.nil ?_
                exact WQ.again3 v12_9 (x59_9 + 1) uv12_9 m57 ⟨up_next hm78 hn60, hlv12_9⟩ (Nat.lt_succ_self _) ⟨rfl, rfl, rfl, rfl, rfl, rfl, rfl, rfl, rfl, trivial⟩ (fun w hw => hw.pick [1, 2, 3, 4, 5] (by decide))
            · skip
              have hm79 := br_f h61 hm59; clear hm59
              refine WC.exit ?_
              refine WQ.then_exit ?_
              refine WQ.then_exit ?_
              refine WQ.block_exit ?_
              exact WQ.out3 v12_9 x59_9 uv12_9 ⟨up_brk hm79 hn60, hlv12_9⟩ ⟨rfl, rfl, rfl, rfl, rfl, rfl, rfl, rfl, rfl, trivial⟩ (fun w hw => hw.pick [0, 1, 2, 3, 4] (by decide))
        · skip
          rintro v12_8 x33_8 uv12_8 m80 ⟨hI81, hlv12_8⟩
          obtain ⟨m82, s83, rfl, hm84, hn85⟩ := iter_step hI81; clear hI81; unfold dep_Edges_L2 at hm84; simp only at hm84
          refine WC.seq ?_
          refine WC.region ?_
          refine WL.q rfl rfl rfl (QV.lss rfl rfl rfl rfl) ?_
          refine WL.nil ?_
          refine WQ.then ?_
          refine WC.seq ?_
          refine WC.cond rfl (fun h86 => ?_) (fun h86 => ?_)
          · skip
            have hm87 := br_t h86 hm84; clear hm84
            refine WC.skip ?_
            refine WQ.then ?_
            refine WC.seq ?_
            refine WC.block ?_
            refine WC.seq ?_
            refine WC.region ?_
            obtain ⟨c88, hm89⟩ := ck_some hm87; clear hm87
            obtain ⟨p90, hp91⟩ := hF42.lenMap.ix (sz := 2) ln_len c88
            refine WL.q rfl rfl rfl (QV.indexSlice sl106 rfl rfl rfl rfl hp91) ?_
            refine WL.q rfl rfl rfl (QV.loadAgg ag57 rfl rfl rfl (fun w hw => ((Own.karr 1 rfl hk hF42) w hw).ele hp91 c88)) ?_
            refine WL.effect rfl ?_
            refine (EV.alloc (by decide) ze57 (fun b92 => ?_))
            refine WL.effect rfl ?_
            refine (EV.store 0 rfl rfl rfl rfl rfl rfl (vs := [.int .i64 ((ele x39 x33_8).st), .int .i64 ((ele x39 x33_8).bk)]) (show Value.cells _ = List.toArray _ from rfl) sz57 (Nat.le_of_ble_eq_true rfl) (one_cons rfl (one_cons rfl one_nil)) ?_)
            refine WL.nil ?_
            refine WQ.then ?_
            refine WC.dr (m := 19) (S := Own M w [kn M w.heap.size K0 X42.2, blk b92 [.int .i64 ((ele x39 x33_8).st), .int .i64 ((ele x39 x33_8).bk)] 57, blk b38 [.int .i64 ((ele l.body x25_7).op), .int .i64 (((ele l.body x25_7).a).st), .int .i64 (((ele l.body x25_7).a).bk), .int .i64 (((ele l.body x25_7).b).st), .int .i64 (((ele l.body x25_7).b).bk), .int .i64 ((ele l.body x25_7).ar), .int .i64 ((ele l.body x25_7).sp), .int .i64 ((ele l.body x25_7).pl), .int .i64 ((ele l.body x25_7).n)] 59, blk b2 [.int .i64 t.u0, .int .i64 t.u1, .int .i64 t.u2, .int .i64 t.w0, .int .i64 t.w1, .int .i64 t.w2, .int .i64 t.regs] 24, blk b1 [v_l_logs, v_l_body, v_l_outs] 49]) (by kernel_rfl) (by kernel_rfl) (fun w hw => hw.pick [2, 0, 3, 4, 5] (by decide)) ?_
            refine WD.q 0 rfl (by kernel_rfl) rfl rfl rfl (QV.move rfl rfl) ?_
            refine WD.q 1 rfl (by kernel_rfl) rfl rfl rfl (QV.fieldAddr fd57_0 rfl rfl) ?_
            refine WD.q 2 rfl (by kernel_rfl) rfl rfl rfl (QV.load pl3 rfl rfl (Own.cell 1 rfl rfl)) ?_
            refine WD.q 3 rfl (by kernel_rfl) rfl rfl rfl (QV.move rfl rfl) ?_
            refine WD.q 4 rfl (by kernel_rfl) rfl rfl rfl (QV.fieldAddr fd57_1 rfl rfl) ?_
            refine WD.q 5 rfl (by kernel_rfl) rfl rfl rfl (QV.load pl3 rfl rfl (Own.cell 1 rfl rfl)) ?_
            refine WD.q 6 rfl (by kernel_rfl) rfl rfl rfl (QV.loadAgg ag24 rfl rfl rfl (Own.cellsBlk 3 rfl)) ?_
            refine WD.q 7 rfl (by kernel_rfl) rfl rfl rfl (QV.fieldAddr fd49_1 rfl rfl) ?_
            refine WD.q 8 rfl (by kernel_rfl) rfl rfl rfl (QV.load pl47 rfl rfl (Own.cell 4 rfl rfl)) ?_
            refine WD.q 9 rfl (by kernel_rfl) rfl rfl rfl (QV.fieldAddr fd57_0 rfl rfl) ?_
            refine WD.q 10 rfl (by kernel_rfl) rfl rfl rfl (QV.load pl3 rfl rfl (Own.cell 1 rfl rfl)) ?_
            obtain ⟨c93, hm94⟩ := ck_some hm89; clear hm89
            obtain ⟨p95, hp96⟩ := (h_l_body.le (hle_7.trans hle42)).lenMap.ix (sz := 9) ln_len c93
            refine WD.q 11 rfl (by kernel_rfl) rfl rfl rfl (QV.indexSlice sl47 rfl rfl rfl rfl hp96) ?_
            refine WD.q 12 rfl (by kernel_rfl) rfl rfl rfl (QV.fieldAddr fd59_0 rfl rfl) ?_
            refine WD.q 13 rfl (by kernel_rfl) rfl rfl rfl (QV.load pl3 rfl rfl (fun w hw => CellsAt.one 0 (((Own.karr 0 rfl hk (h_l_body.le (hle_7.trans hle42))) w hw).ele hp96 c93) rfl)) ?_
            obtain ⟨x97, hx98, hm99⟩ := bd_some hm94; clear hm94
            refine WD.q 14 rfl (by kernel_rfl) rfl rfl rfl (QV.call en63 (EvAll.cons rfl rfl (EvAll.cons rfl rfl EvAll.nil)) (fun w hw => have h := target_Wait_w w hx98 ; h)) ?_
            refine WD.q 15 rfl (by kernel_rfl) rfl rfl rfl (QV.build (ps := [(0, .tmp 39), (1, .tmp 40), (2, .tmp 42), (3, .tmp 51)]) (cells := [.int .i64 ((ele x39 x33_8).st), .int .i64 x25_7, .int .i64 ((ele x39 x33_8).bk), .int .i64 x97]) (EvAll.cons rfl rfl (EvAll.cons rfl rfl (EvAll.cons rfl rfl (EvAll.cons rfl rfl EvAll.nil)))) (by kernel_rfl)) ?_
            refine WD.o 16 rfl (by kernel_rfl) rfl ?_
            refine (EV.buildSlice (by decide) sz_50 (by decide) (by decide) (ps := [(0, .tmp 52)]) (cells := [.int .i64 ((ele x39 x33_8).st), .int .i64 x25_7, .int .i64 ((ele x39 x33_8).bk), .int .i64 x97]) (EvAll.cons rfl rfl EvAll.nil) (by kernel_rfl) (fun b100 => ?_))
            refine WD.b (H' := [kn M w.heap.size K0 X42.2, blk b100 [.int .i64 ((ele x39 x33_8).st), .int .i64 x25_7, .int .i64 ((ele x39 x33_8).bk), .int .i64 x97] 61, blk b92 [.int .i64 ((ele x39 x33_8).st), .int .i64 ((ele x39 x33_8).bk)] 57, blk b38 [.int .i64 ((ele l.body x25_7).op), .int .i64 (((ele l.body x25_7).a).st), .int .i64 (((ele l.body x25_7).a).bk), .int .i64 (((ele l.body x25_7).b).st), .int .i64 (((ele l.body x25_7).b).bk), .int .i64 ((ele l.body x25_7).ar), .int .i64 ((ele l.body x25_7).sp), .int .i64 ((ele l.body x25_7).pl), .int .i64 ((ele l.body x25_7).n)] 59, blk b2 [.int .i64 t.u0, .int .i64 t.u1, .int .i64 t.u2, .int .i64 t.w0, .int .i64 t.w1, .int .i64 t.w2, .int .i64 t.regs] 24, blk b1 [v_l_logs, v_l_body, v_l_outs] 49]) (fun w hw => hw.pick [3, 0, 1, 4, 5, 6] (by decide)) (fun w hw => hw.pick [0, 2, 3, 4, 5] (by decide)) ?_
            refine WD.o 17 rfl (by kernel_rfl) rfl ?_
            obtain ⟨c101, hm102⟩ := ck_some hm99; clear hm99
            refine (EV.appendL (enc := Edg.cells) (xs := v12_8) (ys := [(Edg.mk ((ele x39 x33_8).st) x25_7 ((ele x39 x33_8).bk) x97)]) ((v12_8 ++ [(Edg.mk ((ele x39 x33_8).st) x25_7 ((ele x39 x33_8).bk) x97)])) 2 (by decide) ve50 rfl rfl rfl rfl rfl (Own.blkArr 0 (rows := [(Edg.mk ((ele x39 x33_8).st) x25_7 ((ele x39 x33_8).bk) x97)].map Edg.cells) rfl rfl (rows_len Edg.cells_len)) Edg.cells_len (Edg.cells_one _) rfl c101.1 c101.2 (fun u103 hu104 => ?_))
            refine WD.b (H' := [kn M w.heap.size K0 X42.2, blk b100 [.int .i64 ((ele x39 x33_8).st), .int .i64 x25_7, .int .i64 ((ele x39 x33_8).bk), .int .i64 x97] 61, blk b92 [.int .i64 ((ele x39 x33_8).st), .int .i64 ((ele x39 x33_8).bk)] 57, vec u103 61 4 (List.map Edg.cells (v12_8 ++ [(Edg.mk ((ele x39 x33_8).st) x25_7 ((ele x39 x33_8).bk) x97)])), blk b38 [.int .i64 ((ele l.body x25_7).op), .int .i64 (((ele l.body x25_7).a).st), .int .i64 (((ele l.body x25_7).a).bk), .int .i64 (((ele l.body x25_7).b).st), .int .i64 (((ele l.body x25_7).b).bk), .int .i64 ((ele l.body x25_7).ar), .int .i64 ((ele l.body x25_7).sp), .int .i64 ((ele l.body x25_7).pl), .int .i64 ((ele l.body x25_7).n)] 59, blk b2 [.int .i64 t.u0, .int .i64 t.u1, .int .i64 t.u2, .int .i64 t.w0, .int .i64 t.w1, .int .i64 t.w2, .int .i64 t.regs] 24, blk b1 [v_l_logs, v_l_body, v_l_outs] 49]) (fun w hw => hw.pick [3, 0, 1, 2, 4, 5, 6] (by decide)) (fun w hw => hw.pick [0, 1, 2, 4, 5, 6] (by decide)) ?_
            refine WD.q 18 rfl (by kernel_rfl) rfl rfl rfl (QV.assign rfl rfl) ?_
            refine WD.e (by kernel_rfl) ?_
            refine WQ.block ?_
            refine WQ.then ?_
            refine WC.region ?_
            obtain ⟨c105, hm106⟩ := ck_some hm102; clear hm102
            refine WL.q rfl rfl rfl (QV.add rfl rfl rfl rfl c105) ?_
            refine WL.q rfl rfl rfl (QV.move rfl rfl) ?_
            refine WL.nil ?_
            exact WQ.again3 (v12_8 ++ [(Edg.mk ((ele x39 x33_8).st) x25_7 ((ele x39 x33_8).bk) x97)]) (x33_8 + 1) u103 m82 ⟨up_next hm106 hn85, hu104⟩ (Nat.lt_succ_self _) ⟨rfl, rfl, rfl, rfl, rfl, rfl, rfl, rfl, rfl, rfl, trivial⟩ (fun w hw => hw.pick [2, 3, 4, 5, 6] (by decide))
          · skip
            have hm107 := br_f h86 hm84; clear hm84
            refine WC.exit ?_
            refine WQ.then_exit ?_
            refine WQ.then_exit ?_
            refine WQ.block_exit ?_
            exact WQ.out3 v12_8 x33_8 uv12_8 ⟨up_brk hm107 hn85, hlv12_8⟩ ⟨rfl, rfl, rfl, rfl, rfl, rfl, rfl, rfl, rfl, rfl, trivial⟩ (fun w hw => hw.pick [0, 1, 2, 3, 4] (by decide))
      · skip
        have hm108 := br_f h32 hm30; clear hm30
        refine WC.exit ?_
        refine WQ.then_exit ?_
        refine WQ.then_exit ?_
        refine WQ.block_exit ?_
        exact WQ.out4 v12_7 x25_7 uv12_7 k_7 ⟨up_brk hm108 hn31, hlv12_7, hle_7⟩ ⟨rfl, rfl, rfl, rfl, rfl, rfl, trivial⟩ (fun w hw => hw.pick [0, 1, 2, 3] (by decide))
end Go.Proofs.Ytaimbkndebaaiab
