/- Walks: the functions do what the models say. -/
import Derived.Test.YtaimbkndebaaiaaMCode
import Derived.Test.YtaimbkndebaaiaaProg
import Derived.KernelRfl
namespace Go.Proofs.Ytaimbkndebaaiaa
open Go.Rd
set_option linter.unusedVariables false
set_option linter.unusedSimpArgs false
namespace TCode
theorem ag32 : AggT Try.prog 32 3 := ⟨_, Try.underlying32, rfl, by kernel_rfl⟩
theorem ag70 : AggT Try.prog 70 10 := ⟨_, Try.underlying70, rfl, by kernel_rfl⟩
theorem ag72 : AggT Try.prog 72 9 := ⟨_, Try.underlying72, rfl, by kernel_rfl⟩
theorem ar95 : ArrayT Try.prog 95 8 1 := ⟨_, Try.underlying95, by kernel_rfl⟩
theorem en38 : Enters Try.prog 38 := ⟨Try.f38, Try.func38, by kernel_rfl, by kernel_rfl⟩
theorem en39 : Enters Try.prog 39 := ⟨Try.f39, Try.func39, by kernel_rfl, by kernel_rfl⟩
theorem en40 : Enters Try.prog 40 := ⟨Try.f40, Try.func40, by kernel_rfl, by kernel_rfl⟩
theorem en41 : Enters Try.prog 41 := ⟨Try.f41, Try.func41, by kernel_rfl, by kernel_rfl⟩
theorem en42 : Enters Try.prog 42 := ⟨Try.f42, Try.func42, by kernel_rfl, by kernel_rfl⟩
theorem en43 : Enters Try.prog 43 := ⟨Try.f43, Try.func43, by kernel_rfl, by kernel_rfl⟩
theorem eq70 : EqT Try.prog 70 10 := ⟨by kernel_rfl, ⟨_, Try.underlying70⟩, by kernel_rfl, by kernel_rfl⟩
theorem fd32_0 : FieldT Try.prog 32 0 0 := ⟨_, _, 0, Try.underlying32, rfl, rfl, by kernel_rfl⟩
theorem fd32_1 : FieldT Try.prog 32 1 1 := ⟨_, _, 0, Try.underlying32, rfl, rfl, by kernel_rfl⟩
theorem fd32_2 : FieldT Try.prog 32 2 2 := ⟨_, _, 0, Try.underlying32, rfl, rfl, by kernel_rfl⟩
theorem fd70_0 : FieldT Try.prog 70 0 0 := ⟨_, _, 0, Try.underlying70, rfl, rfl, by kernel_rfl⟩
theorem fd70_1 : FieldT Try.prog 70 1 1 := ⟨_, _, 0, Try.underlying70, rfl, rfl, by kernel_rfl⟩
theorem fd70_2 : FieldT Try.prog 70 2 2 := ⟨_, _, 0, Try.underlying70, rfl, rfl, by kernel_rfl⟩
theorem fd70_3 : FieldT Try.prog 70 3 3 := ⟨_, _, 0, Try.underlying70, rfl, rfl, by kernel_rfl⟩
theorem fd70_4 : FieldT Try.prog 70 4 4 := ⟨_, _, 0, Try.underlying70, rfl, rfl, by kernel_rfl⟩
theorem fd70_5 : FieldT Try.prog 70 5 5 := ⟨_, _, 0, Try.underlying70, rfl, rfl, by kernel_rfl⟩
theorem fd70_6 : FieldT Try.prog 70 6 6 := ⟨_, _, 0, Try.underlying70, rfl, rfl, by kernel_rfl⟩
theorem fd70_7 : FieldT Try.prog 70 7 7 := ⟨_, _, 0, Try.underlying70, rfl, rfl, by kernel_rfl⟩
theorem fd70_8 : FieldT Try.prog 70 8 8 := ⟨_, _, 0, Try.underlying70, rfl, rfl, by kernel_rfl⟩
theorem fd70_9 : FieldT Try.prog 70 9 9 := ⟨_, _, 0, Try.underlying70, rfl, rfl, by kernel_rfl⟩
theorem pl2 : Plain Try.prog 2 := ⟨_, Try.underlying2, rfl⟩
theorem pl3 : Plain Try.prog 3 := ⟨_, Try.underlying3, rfl⟩
theorem pl30 : Plain Try.prog 30 := ⟨_, Try.underlying30, rfl⟩
theorem pl33 : Plain Try.prog 33 := ⟨_, Try.underlying33, rfl⟩
theorem pl5 : Plain Try.prog 5 := ⟨_, Try.underlying5, rfl⟩
theorem pl71 : Plain Try.prog 71 := ⟨_, Try.underlying71, rfl⟩
theorem sl30 : SliceT Try.prog 30 70 10 := ⟨Try.underlying30, by kernel_rfl⟩
theorem sl33 : SliceT Try.prog 33 5 1 := ⟨Try.underlying33, by kernel_rfl⟩
theorem sl48 : SliceT Try.prog 48 3 1 := ⟨Try.underlying48, by kernel_rfl⟩
theorem sl57 : SliceT Try.prog 57 2 1 := ⟨Try.underlying57, by kernel_rfl⟩
theorem sz2 : SizeT Try.prog 2 1 := by unfold SizeT; kernel_rfl
theorem sz3 : SizeT Try.prog 3 1 := by unfold SizeT; kernel_rfl
theorem sz30 : SizeT Try.prog 30 1 := by unfold SizeT; kernel_rfl
theorem sz32 : SizeT Try.prog 32 3 := by unfold SizeT; kernel_rfl
theorem sz33 : SizeT Try.prog 33 1 := by unfold SizeT; kernel_rfl
theorem sz5 : SizeT Try.prog 5 1 := by unfold SizeT; kernel_rfl
theorem sz70 : SizeT Try.prog 70 10 := by unfold SizeT; kernel_rfl
theorem sz71 : SizeT Try.prog 71 1 := by unfold SizeT; kernel_rfl
theorem sz72 : SizeT Try.prog 72 9 := by unfold SizeT; kernel_rfl
theorem sz_30 : SliceZ Try.prog 30 70 10 [.int .i64 0, .int .i64 0, .int .i64 0, .int .i64 0, .int .i64 0, .int .i64 0, .int .i64 0, .int .i64 0, .int .i64 0, .int .i64 0] := ⟨Try.underlying30, by kernel_rfl⟩
theorem sz_33 : SliceZ Try.prog 33 5 1 [.int .u8 0] := ⟨Try.underlying33, by kernel_rfl⟩
theorem sz_48 : SliceZ Try.prog 48 3 1 [.int .i64 0] := ⟨Try.underlying48, by kernel_rfl⟩
theorem sz_57 : SliceZ Try.prog 57 2 1 [.int .i64 0] := ⟨Try.underlying57, by kernel_rfl⟩
theorem ve30 : VecT Try.prog 30 70 10 80 := ⟨Try.underlying30, by kernel_rfl, by decide⟩
theorem ve33 : VecT Try.prog 33 5 1 1 := ⟨Try.underlying33, by kernel_rfl, by decide⟩
theorem ze32 : ZeroT Try.prog 32 [.int .i64 0, .int .i64 0, .slice none 0 0] := by unfold ZeroT; kernel_rfl
theorem ze33 : ZeroT Try.prog 33 [.slice none 0 0] := by unfold ZeroT; kernel_rfl
theorem ze70 : ZeroT Try.prog 70 [.int .i64 0, .int .i64 0, .int .i64 0, .int .i64 0, .int .i64 0, .int .i64 0, .int .i64 0, .int .i64 0, .int .i64 0, .int .i64 0] := by unfold ZeroT; kernel_rfl
theorem ze72 : ZeroT Try.prog 72 [.pointer none, .pointer none, .pointer none, .pointer none, .pointer none, .pointer none, .pointer none, .pointer none, .pointer none] := by unfold ZeroT; kernel_rfl
theorem ze95 : ZeroT Try.prog 95 [.int .u8 0, .int .u8 0, .int .u8 0, .int .u8 0, .int .u8 0, .int .u8 0, .int .u8 0, .int .u8 0] := by unfold ZeroT; kernel_rfl
end TCode
open TCode
set_option maxRecDepth 8000 in
theorem code_fields_w {b : Nat} {r : Unit} (w : World) (hm : code_fields_m  = some r)  : Calls Try.prog 39 #[.pointer (some (⟨b, 0, none⟩))] w (fun e w' => e = .returned (.agg #[.pointer (some ⟨b, 0, none⟩), .pointer (some ⟨b, 1, none⟩), .pointer (some ⟨b, 2, none⟩), .pointer (some ⟨b, 3, none⟩), .pointer (some ⟨b, 4, none⟩), .pointer (some ⟨b, 5, none⟩), .pointer (some ⟨b, 6, none⟩), .pointer (some ⟨b, 7, none⟩), .pointer (some ⟨b, 8, none⟩)]) ∧ Grow w w') := by
  unfold code_fields_m at hm
  have hk := Base.rfl (w := w)
  refine calls_of_WC (n := 31) (args := [.pointer (some (⟨b, 0, none⟩))]) Try.func39 rfl rfl (Nat.le_of_ble_eq_true rfl) ?_ (Own.startK hk (Own.start w))
  refine WC.seq ?_
  refine WC.region ?_
  refine WL.effect rfl ?_
  refine (EV.alloc (by decide) ze72 (fun b1 => ?_))
  refine WL.nil ?_
  refine WQ.then ?_
  refine WC.seq ?_
  refine WC.dr (m := 29) (S := Own noM w [kn noM w.heap.size w w, blk b1 [.pointer none, .pointer none, .pointer none, .pointer none, .pointer none, .pointer none, .pointer none, .pointer none, .pointer none] 72]) (by kernel_rfl) (by kernel_rfl) (fun w hw => hw.pick [1, 0] (by decide)) ?_
  refine WD.q 0 rfl (by kernel_rfl) rfl rfl rfl (QV.move rfl rfl) ?_
  refine WD.q 1 rfl (by kernel_rfl) rfl rfl rfl (QV.nilCheck rfl rfl) ?_
  refine WD.q 2 rfl (by kernel_rfl) rfl rfl rfl (QV.fieldAddr fd70_0 rfl rfl) ?_
  refine WD.q 3 rfl (by kernel_rfl) rfl rfl rfl (QV.move rfl rfl) ?_
  refine WD.q 4 rfl (by kernel_rfl) rfl rfl rfl (QV.nilCheck rfl rfl) ?_
  refine WD.q 5 rfl (by kernel_rfl) rfl rfl rfl (QV.fieldAddr fd70_1 rfl rfl) ?_
  refine WD.q 6 rfl (by kernel_rfl) rfl rfl rfl (QV.move rfl rfl) ?_
  refine WD.q 7 rfl (by kernel_rfl) rfl rfl rfl (QV.nilCheck rfl rfl) ?_
  refine WD.q 8 rfl (by kernel_rfl) rfl rfl rfl (QV.fieldAddr fd70_2 rfl rfl) ?_
  refine WD.q 9 rfl (by kernel_rfl) rfl rfl rfl (QV.move rfl rfl) ?_
  refine WD.q 10 rfl (by kernel_rfl) rfl rfl rfl (QV.nilCheck rfl rfl) ?_
  refine WD.q 11 rfl (by kernel_rfl) rfl rfl rfl (QV.fieldAddr fd70_3 rfl rfl) ?_
  refine WD.q 12 rfl (by kernel_rfl) rfl rfl rfl (QV.move rfl rfl) ?_
  refine WD.q 13 rfl (by kernel_rfl) rfl rfl rfl (QV.nilCheck rfl rfl) ?_
  refine WD.q 14 rfl (by kernel_rfl) rfl rfl rfl (QV.fieldAddr fd70_4 rfl rfl) ?_
  refine WD.q 15 rfl (by kernel_rfl) rfl rfl rfl (QV.move rfl rfl) ?_
  refine WD.q 16 rfl (by kernel_rfl) rfl rfl rfl (QV.nilCheck rfl rfl) ?_
  refine WD.q 17 rfl (by kernel_rfl) rfl rfl rfl (QV.fieldAddr fd70_5 rfl rfl) ?_
  refine WD.q 18 rfl (by kernel_rfl) rfl rfl rfl (QV.move rfl rfl) ?_
  refine WD.q 19 rfl (by kernel_rfl) rfl rfl rfl (QV.nilCheck rfl rfl) ?_
  refine WD.q 20 rfl (by kernel_rfl) rfl rfl rfl (QV.fieldAddr fd70_6 rfl rfl) ?_
  refine WD.q 21 rfl (by kernel_rfl) rfl rfl rfl (QV.move rfl rfl) ?_
  refine WD.q 22 rfl (by kernel_rfl) rfl rfl rfl (QV.nilCheck rfl rfl) ?_
  refine WD.q 23 rfl (by kernel_rfl) rfl rfl rfl (QV.fieldAddr fd70_7 rfl rfl) ?_
  refine WD.q 24 rfl (by kernel_rfl) rfl rfl rfl (QV.move rfl rfl) ?_
  refine WD.q 25 rfl (by kernel_rfl) rfl rfl rfl (QV.nilCheck rfl rfl) ?_
  refine WD.q 26 rfl (by kernel_rfl) rfl rfl rfl (QV.fieldAddr fd70_8 rfl rfl) ?_
  refine WD.q 27 rfl (by kernel_rfl) rfl rfl rfl (QV.build (ps := [(0, .tmp 5), (1, .tmp 8), (2, .tmp 11), (3, .tmp 14), (4, .tmp 17), (5, .tmp 20), (6, .tmp 23), (7, .tmp 26), (8, .tmp 29)]) (cells := [.pointer (some (⟨b, 0, none⟩)), .pointer (some (⟨b, 1, none⟩)), .pointer (some (⟨b, 2, none⟩)), .pointer (some (⟨b, 3, none⟩)), .pointer (some (⟨b, 4, none⟩)), .pointer (some (⟨b, 5, none⟩)), .pointer (some (⟨b, 6, none⟩)), .pointer (some (⟨b, 7, none⟩)), .pointer (some (⟨b, 8, none⟩))]) (EvAll.cons rfl rfl (EvAll.cons rfl rfl (EvAll.cons rfl rfl (EvAll.cons rfl rfl (EvAll.cons rfl rfl (EvAll.cons rfl rfl (EvAll.cons rfl rfl (EvAll.cons rfl rfl (EvAll.cons rfl rfl EvAll.nil))))))))) (by kernel_rfl)) ?_
  refine WD.l 28 rfl (by kernel_rfl) rfl ?_
  refine (EV.store 0 rfl rfl rfl rfl rfl rfl (vs := [.pointer (some (⟨b, 0, none⟩)), .pointer (some (⟨b, 1, none⟩)), .pointer (some (⟨b, 2, none⟩)), .pointer (some (⟨b, 3, none⟩)), .pointer (some (⟨b, 4, none⟩)), .pointer (some (⟨b, 5, none⟩)), .pointer (some (⟨b, 6, none⟩)), .pointer (some (⟨b, 7, none⟩)), .pointer (some (⟨b, 8, none⟩))]) (show Value.cells _ = List.toArray _ from rfl) sz72 (Nat.le_of_ble_eq_true rfl) (one_cons rfl (one_cons rfl (one_cons rfl (one_cons rfl (one_cons rfl (one_cons rfl (one_cons rfl (one_cons rfl (one_cons rfl one_nil))))))))) ?_)
  refine WQ.then ?_
  refine WC.ret ?_
  obtain rfl := eq_of_some hm
  refine WQ.retCell rfl ag72 rfl rfl (Own.cellsBlk 0 rfl) (fun w hw => ?_)
  exact ⟨rfl, Own.kgrow (fun _ x => x) hw⟩

set_option maxRecDepth 8000 in
theorem code_Put_c1_w {v_l : Value} {v_b : Value} {b_b : Nat} {l : List Int} {b : List UInt8} {r : List UInt8} {K0 : World} (hm : code_Put_c1_m l b = some r) (h_l : Arr K0 v_l 1 (l.map icell)) (h_b : SliceLen v_b b.length) (M : Nat → Prop) (w : World) (hk : Base M K0 w) (hw0 : Own M w [blk b_b [v_b] 33, vec v_b 5 1 (List.map bcell b)] w) : Calls Try.prog 38 #[v_l, .pointer (some (⟨b_b, 0, none⟩))] w (fun e w' => ∃ X : Value × World, e = .returned (.tuple #[]) ∧ Own M w (kn M w.heap.size K0 X.2 :: [blk b_b [X.1] 33, vec X.1 5 1 (List.map bcell r)]) w' ∧ SliceLen X.1 (r).length) := by
  unfold code_Put_c1_m at hm
  refine calls_of_WC (n := 24) (args := [v_l, .pointer (some (⟨b_b, 0, none⟩))]) Try.func38 rfl rfl (Nat.le_of_ble_eq_true rfl) ?_ (Own.startK hk hw0)
  refine WC.seq ?_
  refine WC.region ?_
  refine WL.q rfl rfl rfl (QV.move rfl rfl) ?_
  refine WL.q rfl rfl rfl (QV.lenS Try.underlying57 rfl rfl h_l.lenMap) ?_
  refine WL.q rfl rfl rfl (QV.move rfl rfl) ?_
  refine WL.nil ?_
  refine WQ.then ?_
  obtain ⟨o1, ho2, hm3⟩ := bd_some hm; clear hm; obtain ⟨n4, ho5⟩ := lp_some ho2
  refine WC.bloop3 (H2 := [kn M w.heap.size K0 K0]) (τ := [(1, (true, _)), (6, (true, _)), (7, (true, _))]) (fun (own1v0_3 : List UInt8) (x8_3 : Int) (uown1v0_3 : Value) => [(8, (true, .int .i64 x8_3))]) (fun (own1v0_3 : List UInt8) (x8_3 : Int) (uown1v0_3 : Value) => [blk b_b [uown1v0_3] 33, vec uown1v0_3 5 1 (List.map bcell own1v0_3)]) (fun (own1v0_3 : List UInt8) (x8_3 : Int) (uown1v0_3 : Value) (m : Nat) => iter (code_Put_c1_L0 l) m (own1v0_3, x8_3) = some o1 ∧ SliceLen uown1v0_3 own1v0_3.length) (fun (own1v0_3 : List UInt8) (x8_3 : Int) (uown1v0_3 : Value) => o1 = .go (own1v0_3, x8_3) ∧ SliceLen uown1v0_3 own1v0_3.length) b 0 v_b n4 ⟨ho5, h_b⟩ ⟨rfl, rfl, rfl, rfl, trivial⟩ (fun w hw => hw.pick [1, 2, 0] (by decide)) ?_ ?_
  · skip
    rintro own1v0_3 x8_3 uown1v0_3 ⟨rfl, hlown1v0_3⟩
    obtain rfl := eq_of_some hm3
    refine WQ.end0 rfl (fun w hw => ?_)
    exact ⟨(uown1v0_3, K0), rfl, hw.pick [2, 0, 1] (by decide), hlown1v0_3⟩
  · skip
    rintro own1v0_3 x8_3 uown1v0_3 m6 ⟨hI7, hlown1v0_3⟩
    obtain ⟨m8, s9, rfl, hm10, hn11⟩ := iter_step hI7; clear hI7; unfold code_Put_c1_L0 at hm10; simp only at hm10
    refine WC.seq ?_
    refine WC.region ?_
    refine WL.q rfl rfl rfl (QV.lss rfl rfl rfl rfl) ?_
    refine WL.nil ?_
    refine WQ.then ?_
    refine WC.seq ?_
    refine WC.cond rfl (fun h12 => ?_) (fun h12 => ?_)
    · skip
      have hm13 := br_t h12 hm10; clear hm10
      refine WC.skip ?_
      refine WQ.then ?_
      refine WC.seq ?_
      refine WC.block ?_
      refine WC.seq ?_
      refine WC.region ?_
      obtain ⟨c14, hm15⟩ := ck_some hm13; clear hm13
      obtain ⟨p16, hp17⟩ := h_l.lenMap.ix (sz := 1) ln_len c14
      refine WL.q rfl rfl rfl (QV.indexSlice sl57 rfl rfl rfl rfl hp17) ?_
      refine WL.q rfl rfl rfl (QV.load pl2 rfl rfl (fun w hw => CellsAt.one 0 (((Own.karr 2 rfl hk h_l) w hw).ele hp17 c14) rfl)) ?_
      refine WL.q rfl rfl rfl (QV.assign rfl rfl) ?_
      refine WL.nil ?_
      refine WQ.then ?_
      refine WC.seq ?_
      refine WC.region ?_
      refine WL.q rfl rfl rfl (QV.assign rfl rfl) ?_
      refine WL.nil ?_
      refine WQ.then ?_
      obtain ⟨o18, ho19, hm20⟩ := bd_some hm15; clear hm15; obtain ⟨n21, ho22⟩ := lp_some ho19
      refine WC.bloop3 (H2 := [kn M w.heap.size K0 K0]) (τ := [(1, (true, _)), (4, (true, _)), (6, (true, _)), (7, (true, _)), (8, (true, _))]) (fun (own1v0_4 : List UInt8) (at5_4 : Int) (uown1v0_4 : Value) => [(5, (true, .int .i64 at5_4))]) (fun (own1v0_4 : List UInt8) (at5_4 : Int) (uown1v0_4 : Value) => [blk b_b [uown1v0_4] 33, vec uown1v0_4 5 1 (List.map bcell own1v0_4)]) (fun (own1v0_4 : List UInt8) (at5_4 : Int) (uown1v0_4 : Value) (m : Nat) => iter (code_Put_c1_L2 l x8_3) m (own1v0_4, at5_4) = some o18 ∧ SliceLen uown1v0_4 own1v0_4.length) (fun (own1v0_4 : List UInt8) (at5_4 : Int) (uown1v0_4 : Value) => o18 = .go (own1v0_4, at5_4) ∧ SliceLen uown1v0_4 own1v0_4.length) own1v0_3 56 uown1v0_3 n21 ⟨ho22, hlown1v0_3⟩ ⟨rfl, rfl, rfl, rfl, rfl, rfl, trivial⟩ (fun w hw => hw.pick [0, 1, 2] (by decide)) ?_ ?_
      · skip
        rintro own1v0_4 at5_4 uown1v0_4 ⟨rfl, hlown1v0_4⟩
        refine WQ.block ?_
        refine WQ.then ?_
        refine WC.region ?_
        obtain ⟨c23, hm24⟩ := ck_some hm20; clear hm20
        refine WL.q rfl rfl rfl (QV.add rfl rfl rfl rfl c23) ?_
        refine WL.q rfl rfl rfl (QV.move rfl rfl) ?_
        refine WL.nil ?_
        exact WQ.again3 own1v0_4 (x8_3 + 1) uown1v0_4 m8 ⟨up_next hm24 hn11, hlown1v0_4⟩ (Nat.lt_succ_self _) ⟨rfl, rfl, rfl, rfl, trivial⟩ (fun w hw => hw.pick [0, 1, 2] (by decide))
      · skip
        rintro own1v0_4 at5_4 uown1v0_4 m25 ⟨hI26, hlown1v0_4⟩
        obtain ⟨m27, s28, rfl, hm29, hn30⟩ := iter_step hI26; clear hI26; unfold code_Put_c1_L2 at hm29; simp only at hm29
        refine WC.seq ?_
        refine WC.seq ?_
        refine WC.region ?_
        refine WL.q rfl rfl rfl (QV.move rfl rfl) ?_
        refine WL.q rfl rfl rfl (QV.geq rfl rfl rfl rfl) ?_
        refine WL.nil ?_
        refine WQ.then ?_
        refine WC.cond rfl (fun h31 => ?_) (fun h31 => ?_)
        · skip
          have hm32 := br_t h31 hm29; clear hm29
          refine WC.skip ?_
          refine WQ.then ?_
          refine WC.seq ?_
          refine WC.block ?_
          refine WC.dr (m := 8) (S := Own M w [kn M w.heap.size K0 K0, blk b_b [uown1v0_4] 33]) (by kernel_rfl) (by kernel_rfl) (fun w hw => hw.pick [2, 0] (by decide)) ?_
          refine WD.q 0 rfl (by kernel_rfl) rfl rfl rfl (QV.load pl33 rfl rfl (Own.cell 1 rfl rfl)) ?_
          refine WD.q 1 rfl (by kernel_rfl) rfl rfl rfl (QV.move rfl rfl) ?_
          refine WD.q 2 rfl (by kernel_rfl) rfl rfl rfl (QV.move rfl rfl) ?_
          obtain ⟨c33, hm34⟩ := ck_some hm32; clear hm32
          refine WD.q 3 rfl (by kernel_rfl) rfl rfl rfl (QV.shrD rfl rfl rfl rfl c33) ?_
          refine WD.q 4 rfl (by kernel_rfl) rfl rfl rfl (QV.eqv (wrap_bt (shrD (ele l x8_3) at5_4)) (QV.intToInt Try.underlying5 Try.underlying2 rfl rfl)) ?_
          refine WD.o 5 rfl (by kernel_rfl) rfl ?_
          refine (EV.buildSlice (by decide) sz_33 (by decide) (by decide) (ps := [(0, .tmp 20)]) (cells := [.int .u8 ((bt (shrD (ele l x8_3) at5_4)).toNat : Int)]) (EvAll.cons rfl rfl EvAll.nil) (by kernel_rfl) (fun b35 => ?_))
          refine WD.b (H' := [kn M w.heap.size K0 K0, blk b35 [.int .u8 ((bt (shrD (ele l x8_3) at5_4)).toNat : Int)] 5, blk b_b [uown1v0_4] 33]) (fun w hw => hw.pick [3, 0, 1] (by decide)) (fun w hw => hw.pick [0, 2] (by decide)) ?_
          refine WD.o 6 rfl (by kernel_rfl) rfl ?_
          obtain ⟨c36, hm37⟩ := ck_some hm34; clear hm34
          refine (EV.appendL (enc := bcell) (xs := own1v0_4) (ys := [(bt (shrD (ele l x8_3) at5_4))]) ((own1v0_4 ++ [(bt (shrD (ele l x8_3) at5_4))])) 2 (by decide) ve33 rfl rfl rfl rfl rfl (Own.blkArr 0 (rows := [(bt (shrD (ele l x8_3) at5_4))].map bcell) rfl rfl (rows_len bcell_len)) bcell_len (bcell_one _) rfl c36.1 c36.2 (fun u38 hu39 => ?_))
          refine WD.b (H' := [kn M w.heap.size K0 K0, blk b35 [.int .u8 ((bt (shrD (ele l x8_3) at5_4)).toNat : Int)] 5, blk b_b [uown1v0_4] 33, vec u38 5 1 (List.map bcell (own1v0_4 ++ [(bt (shrD (ele l x8_3) at5_4))]))]) (fun w hw => hw.pick [3, 0, 1, 2] (by decide)) (fun w hw => hw.pick [0, 1, 2] (by decide)) ?_
          refine WD.l 7 rfl (by kernel_rfl) rfl ?_
          refine (EV.store 1 rfl rfl rfl rfl rfl rfl (vs := [u38]) (SliceLen.cells hu39) sz33 (Nat.le_of_ble_eq_true rfl) (one_cons (SliceLen.one hu39) one_nil) ?_)
          refine WQ.block ?_
          refine WQ.then ?_
          refine WC.region ?_
          refine WL.q rfl rfl rfl (QV.move rfl rfl) ?_
          obtain ⟨c40, hm41⟩ := ck_some hm37; clear hm37
          refine WL.q rfl rfl rfl (QV.sub rfl rfl rfl rfl c40) ?_
          refine WL.q rfl rfl rfl (QV.assign rfl rfl) ?_
          refine WL.nil ?_
          exact WQ.again3 (own1v0_4 ++ [(bt (shrD (ele l x8_3) at5_4))]) (at5_4 - 8) u38 m27 ⟨up_next hm41 hn30, hu39⟩ (Nat.lt_succ_self _) ⟨rfl, rfl, rfl, rfl, rfl, rfl, trivial⟩ (fun w hw => hw.pick [1, 2, 3] (by decide))
        · skip
          have hm42 := br_f h31 hm29; clear hm29
          refine WC.exit ?_
          refine WQ.then_exit ?_
          refine WQ.then_exit ?_
          refine WQ.block_exit ?_
          exact WQ.out3 own1v0_4 at5_4 uown1v0_4 ⟨up_brk hm42 hn30, hlown1v0_4⟩ ⟨rfl, rfl, rfl, rfl, rfl, rfl, trivial⟩ (fun w hw => hw.pick [0, 1, 2] (by decide))
    · skip
      have hm43 := br_f h12 hm10; clear hm10
      refine WC.exit ?_
      refine WQ.then_exit ?_
      refine WQ.then_exit ?_
      refine WQ.block_exit ?_
      exact WQ.out3 own1v0_3 x8_3 uown1v0_3 ⟨up_brk hm43 hn11, hlown1v0_3⟩ ⟨rfl, rfl, rfl, rfl, trivial⟩ (fun w hw => hw.pick [0, 1, 2] (by decide))

set_option maxRecDepth 8000 in
theorem code_Put_w {v_k__ops : Value} {k_ : Krn} {r : List UInt8 × Int} {K0 : World} (hm : code_Put_m k_ = some r) (h_k__ops : Arr K0 v_k__ops 10 (k_.ops.map Opr.cells)) (M : Nat → Prop) (w : World) (hk : Base M K0 w) (hw0 : Own M w [] w) : Calls Try.prog 18 #[.agg #[.int .i64 k_.pace, .int .i64 k_.stages, v_k__ops]] w (fun e w' => ∃ X : Value × World, e = .returned (.tuple #[X.1, .int .i64 r.2]) ∧ Own M w (kn M w.heap.size K0 X.2 :: []) w' ∧ Arr X.2 X.1 1 (r.1.map bcell)) := by
  unfold code_Put_m at hm
  refine calls_of_WC (n := 50) (args := [.agg #[.int .i64 k_.pace, .int .i64 k_.stages, v_k__ops]]) Try.func18 rfl rfl (Nat.le_of_ble_eq_true rfl) ?_ (Own.startK hk hw0)
  refine WC.seq ?_
  refine WC.region ?_
  refine WL.effect rfl ?_
  refine (EV.boxAgg (by decide) rfl rfl (fun b1 => ?_))
  refine WL.q rfl rfl rfl (QV.assign rfl rfl) ?_
  refine WL.q rfl rfl rfl (QV.assign rfl rfl) ?_
  refine WL.nil ?_
  refine WQ.then ?_
  refine WC.seq ?_
  refine WC.seq ?_
  refine WC.region ?_
  refine WL.q rfl rfl rfl (QV.fieldAddr fd32_2 rfl rfl) ?_
  refine WL.q rfl rfl rfl (QV.load pl30 rfl rfl (Own.cell 0 rfl rfl)) ?_
  refine WL.q rfl rfl rfl (QV.lenS Try.underlying30 rfl rfl h_k__ops.lenMap) ?_
  refine WL.q rfl rfl rfl (QV.gtr rfl rfl rfl rfl) ?_
  refine WL.nil ?_
  refine WQ.then ?_
  refine WC.cond rfl (fun h2 => ?_) (fun h2 => ?_)
  · skip
    have hm3 := br_t h2 hm; clear hm
    refine WC.seq ?_
    refine WC.region ?_
    refine WL.q rfl rfl rfl (QV.assign rfl rfl) ?_
    refine WL.q rfl rfl rfl (QV.assign rfl rfl) ?_
    refine WL.nil ?_
    refine WQ.then ?_
    refine WC.ret ?_
    refine WQ.then_ret ?_
    obtain rfl := eq_of_some hm3
    refine WQ.ret2 rfl rfl rfl (fun w hw => ?_)
    exact ⟨(.slice none 0 0, K0), rfl, hw.pick [1] (by decide), Arr.nil⟩
  · skip
    have hm4 := br_f h2 hm; clear hm
    refine WC.skip ?_
    refine WQ.then ?_
    refine WC.seq ?_
    refine WC.region ?_
    refine WL.effect rfl ?_
    refine (EV.alloc (by decide) ze33 (fun b5 => ?_))
    refine WL.nil ?_
    refine WQ.then ?_
    refine WC.seq ?_
    refine WC.region ?_
    refine WL.q rfl rfl rfl (QV.makeFunc (EvAll.cons rfl rfl EvAll.nil)) ?_
    refine WL.q rfl rfl rfl (QV.assign rfl rfl) ?_
    refine WL.nil ?_
    refine WQ.then ?_
    refine WC.seq ?_
    refine WC.region ?_
    refine WL.q rfl rfl rfl (QV.move rfl rfl) ?_
    refine WL.q rfl rfl rfl (QV.fieldAddr fd32_0 rfl rfl) ?_
    refine WL.q rfl rfl rfl (QV.load pl3 rfl rfl (Own.cell 1 rfl rfl)) ?_
    refine WL.q rfl rfl rfl (QV.fieldAddr fd32_1 rfl rfl) ?_
    refine WL.q rfl rfl rfl (QV.load pl3 rfl rfl (Own.cell 1 rfl rfl)) ?_
    refine WL.q rfl rfl rfl (QV.fieldAddr fd32_2 rfl rfl) ?_
    refine WL.q rfl rfl rfl (QV.load pl30 rfl rfl (Own.cell 1 rfl rfl)) ?_
    refine WL.q rfl rfl rfl (QV.lenS Try.underlying30 rfl rfl h_k__ops.lenMap) ?_
    refine WL.effect rfl ?_
    refine (EV.buildSlice (by decide) sz_57 (by decide) (by decide) (ps := [(0, .tmp 17), (1, .tmp 19), (2, .tmp 22)]) (cells := [.int .i64 k_.pace, .int .i64 k_.stages, .int .i64 (ln k_.ops)]) (EvAll.cons rfl rfl (EvAll.cons rfl rfl (EvAll.cons rfl rfl EvAll.nil))) (by kernel_rfl) (fun b6 => ?_))
    refine WL.effect rfl ?_
    refine EV.of (fun w hw => hw.blkVec icell ([k_.pace, k_.stages, (ln k_.ops)] : List Int) rfl icell_len (Nat.le_of_ble_eq_true rfl)) ?_
    refine EV.of (C' := Own M w [kn M w.heap.size K0 K0, vec (blkSlice b6 3 3) 2 1 (List.map icell [k_.pace, k_.stages, (ln k_.ops)]), blk b5 [.slice none 0 0] 33, blk b1 [.int .i64 k_.pace, .int .i64 k_.stages, v_k__ops] 32]) (fun w hw => hw.pick [3, 0, 1, 2] (by decide)) ?_
    refine EV.freeze hk (fun k7 hle7 hr7 => ?_)
    have hA7 := vec_arr hr7
    refine EV.of (fun w hw => hw.vecNil (E := 5) (sz := 1) (enc := bcell)) ?_
    obtain ⟨x9, hx10, hm11⟩ := bd_some hm4; clear hm4
    refine EV.of (C' := Own M w [kn M w.heap.size K0 k7, blk b5 [.slice none 0 0] 33, vec (.slice none 0 0) 5 1 (List.map bcell []), blk b1 [.int .i64 k_.pace, .int .i64 k_.stages, v_k__ops] 32]) (fun w hw => hw.pick [1, 2, 0, 3] (by decide)) ?_
    refine (EV.callRV (X := Value × World) (R := [blk b5 [.slice none 0 0] 33, vec (.slice none 0 0) 5 1 (List.map bcell [])]) (fun X => .tuple #[]) (fun X => [blk b5 [X.1] 33, vec X.1 5 1 (List.map bcell x9)]) (fun X => X.2) (fun X => SliceLen X.1 (x9).length) hk (fun _ h => by cases h; decide) en38 rfl rfl (EvAll.cons rfl rfl EvAll.nil) (fun M w h1 h2 => have h := code_Put_c1_w hx10 hA7 SliceLen.nil M w h1 h2; h) (fun X12 hF12 hle12 => ?_))
    refine WL.nil ?_
    refine WQ.then ?_
    refine WC.seq ?_
    refine WC.seq ?_
    refine WC.region ?_
    refine WL.q rfl rfl rfl (QV.fieldAddr fd32_2 rfl rfl) ?_
    refine WL.q rfl rfl rfl (QV.load pl30 rfl rfl (Own.cell 3 rfl rfl)) ?_
    refine WL.q rfl rfl rfl (QV.lenS Try.underlying30 rfl rfl (h_k__ops.le (hle7.trans hle12)).lenMap) ?_
    refine WL.q rfl rfl rfl (QV.move rfl rfl) ?_
    refine WL.nil ?_
    refine WQ.then ?_
    obtain ⟨o13, ho14, hm15⟩ := bd_some hm11; clear hm11; obtain ⟨n16, ho17⟩ := lp_some ho14
    refine WC.bloop4 (H2 := [blk b1 [.int .i64 k_.pace, .int .i64 k_.stages, v_k__ops] 32]) (τ := [(4, (true, _)), (5, (true, _)), (26, (true, _)), (27, (true, _))]) (fun (v8_3 : List UInt8) (x28_3 : Int) (uv8_3 : Value) (k_3 : World) => [(28, (true, .int .i64 x28_3))]) (fun (v8_3 : List UInt8) (x28_3 : Int) (uv8_3 : Value) (k_3 : World) => [kn M w.heap.size K0 k_3, blk b5 [uv8_3] 33, vec uv8_3 5 1 (List.map bcell v8_3)]) (fun (v8_3 : List UInt8) (x28_3 : Int) (uv8_3 : Value) (k_3 : World) (m : Nat) => iter (code_Put_L0 k_) m (v8_3, x28_3) = some o13 ∧ SliceLen uv8_3 v8_3.length ∧ Le X12.2 k_3) (fun (v8_3 : List UInt8) (x28_3 : Int) (uv8_3 : Value) (k_3 : World) => o13 = .go (v8_3, x28_3) ∧ SliceLen uv8_3 v8_3.length ∧ Le X12.2 k_3) x9 0 X12.1 X12.2 n16 ⟨ho17, hF12, (Le.refl _)⟩ ⟨rfl, rfl, rfl, rfl, rfl, trivial⟩ (fun w hw => hw.pick [0, 1, 2, 3] (by decide)) ?_ ?_
    · skip
      rintro v8_3 x28_3 uv8_3 k_3 ⟨rfl, hlv8_3, hle_3⟩
      refine WQ.then ?_
      refine WC.seq ?_
      refine WC.region ?_
      refine WL.q rfl rfl rfl (QV.load pl33 rfl rfl (Own.cell 1 rfl rfl)) ?_
      refine WL.q rfl rfl rfl (QV.assign rfl rfl) ?_
      refine WL.q rfl rfl rfl (QV.assign rfl rfl) ?_
      refine WL.nil ?_
      refine WQ.then ?_
      refine WC.ret ?_
      obtain rfl := eq_of_some hm15
      refine WK.of (C' := Own M w [kn M w.heap.size K0 k_3, vec uv8_3 5 1 (List.map bcell v8_3), blk b5 [uv8_3] 33, blk b1 [.int .i64 k_.pace, .int .i64 k_.stages, v_k__ops] 32]) (fun w hw => hw.pick [0, 2, 1, 3] (by decide)) ?_
      refine WK.freeze hk (fun k18 hle18 hr18 => ?_)
      have hA18 := vec_arr hr18
      refine WQ.ret2 rfl rfl rfl (fun w hw => ?_)
      exact ⟨(uv8_3, k18), rfl, hw.pick [0] (by decide), hA18⟩
    · skip
      rintro v8_3 x28_3 uv8_3 k_3 m19 ⟨hI20, hlv8_3, hle_3⟩
      obtain ⟨m21, s22, rfl, hm23, hn24⟩ := iter_step hI20; clear hI20; unfold code_Put_L0 at hm23; simp only at hm23
      refine WC.seq ?_
      refine WC.region ?_
      refine WL.q rfl rfl rfl (QV.lss rfl rfl rfl rfl) ?_
      refine WL.nil ?_
      refine WQ.then ?_
      refine WC.seq ?_
      refine WC.cond rfl (fun h25 => ?_) (fun h25 => ?_)
      · skip
        have hm26 := br_t h25 hm23; clear hm23
        refine WC.skip ?_
        refine WQ.then ?_
        refine WC.seq ?_
        refine WC.block ?_
        refine WC.seq ?_
        refine WC.region ?_
        obtain ⟨c27, hm28⟩ := ck_some hm26; clear hm26
        obtain ⟨p29, hp30⟩ := (h_k__ops.le ((hle7.trans hle12).trans hle_3)).lenMap.ix (sz := 10) ln_len c27
        refine WL.q rfl rfl rfl (QV.indexSlice sl30 rfl rfl rfl rfl hp30) ?_
        refine WL.q rfl rfl rfl (QV.loadAgg ag70 rfl rfl rfl (fun w hw => ((Own.karr 0 rfl hk (h_k__ops.le ((hle7.trans hle12).trans hle_3))) w hw).ele hp30 c27)) ?_
        refine WL.effect rfl ?_
        refine (EV.alloc (by decide) ze70 (fun b31 => ?_))
        refine WL.effect rfl ?_
        refine (EV.store 0 rfl rfl rfl rfl rfl rfl (vs := [.int .i64 ((ele k_.ops x28_3).slot), .int .i64 ((ele k_.ops x28_3).stage), .int .i64 ((ele k_.ops x28_3).op), .int .i64 ((ele k_.ops x28_3).dest), .int .i64 ((ele k_.ops x28_3).a), .int .i64 ((ele k_.ops x28_3).b), .int .i64 ((ele k_.ops x28_3).ar), .int .i64 ((ele k_.ops x28_3).sp), .int .i64 ((ele k_.ops x28_3).pl), .int .i64 ((ele k_.ops x28_3).n)]) (show Value.cells _ = List.toArray _ from rfl) sz70 (Nat.le_of_ble_eq_true rfl) (one_cons rfl (one_cons rfl (one_cons rfl (one_cons rfl (one_cons rfl (one_cons rfl (one_cons rfl (one_cons rfl (one_cons rfl (one_cons rfl one_nil)))))))))) ?_)
        refine WL.nil ?_
        refine WQ.then ?_
        refine WC.seq ?_
        refine WC.seq ?_
        refine WC.region ?_
        refine WL.q rfl rfl rfl (QV.call en39 (EvAll.cons rfl rfl EvAll.nil) (fun w hw => have h := code_fields_w w  (r := ()) rfl; h)) ?_
        refine WL.q rfl rfl rfl (QV.move rfl rfl) ?_
        refine WL.nil ?_
        refine WQ.then ?_
        obtain ⟨o32, ho33, hm34⟩ := bd_some hm28; clear hm28; obtain ⟨n35, ho36⟩ := lp_some ho33
        refine WC.bloop4 (H2 := [blk b31 (List.map i64v ([(ele k_.ops x28_3).slot, (ele k_.ops x28_3).stage, (ele k_.ops x28_3).op, (ele k_.ops x28_3).dest, (ele k_.ops x28_3).a, (ele k_.ops x28_3).b, (ele k_.ops x28_3).ar, (ele k_.ops x28_3).sp, (ele k_.ops x28_3).pl, (ele k_.ops x28_3).n] : List Int)) 70, blk b1 [.int .i64 k_.pace, .int .i64 k_.stages, v_k__ops] 32]) (τ := [(4, (true, _)), (5, (true, _)), (7, (true, _)), (26, (true, _)), (27, (true, _)), (28, (true, _)), (32, (true, _))]) (fun (v8_4 : List UInt8) (x33_4 : Int) (uv8_4 : Value) (k_4 : World) => [(33, (true, .int .i64 x33_4))]) (fun (v8_4 : List UInt8) (x33_4 : Int) (uv8_4 : Value) (k_4 : World) => [kn M w.heap.size K0 k_4, blk b5 [uv8_4] 33, vec uv8_4 5 1 (List.map bcell v8_4)]) (fun (v8_4 : List UInt8) (x33_4 : Int) (uv8_4 : Value) (k_4 : World) (m : Nat) => iter (code_Put_L2 k_ x28_3) m (v8_4, x33_4) = some o32 ∧ SliceLen uv8_4 v8_4.length ∧ Le k_3 k_4) (fun (v8_4 : List UInt8) (x33_4 : Int) (uv8_4 : Value) (k_4 : World) => o32 = .go (v8_4, x33_4) ∧ SliceLen uv8_4 v8_4.length ∧ Le k_3 k_4) v8_3 0 uv8_3 k_3 n35 ⟨ho36, hlv8_3, (Le.refl _)⟩ ⟨rfl, rfl, rfl, rfl, rfl, rfl, rfl, rfl, trivial⟩ (fun w hw => hw.pick [1, 2, 3, 0, 4] (by decide)) ?_ ?_
        · skip
          rintro v8_4 x33_4 uv8_4 k_4 ⟨rfl, hlv8_4, hle_4⟩
          refine WQ.then ?_
          refine WC.region ?_
          refine WL.q rfl rfl rfl (QV.move rfl rfl) ?_
          refine WL.q rfl rfl rfl (QV.fieldAddr fd70_9 rfl rfl) ?_
          obtain ⟨c37, hm38⟩ := ck_some hm34; clear hm34
          refine WL.q rfl rfl rfl (QV.load pl2 rfl rfl (Own.cellG (c := i64v) (xs := ([(ele k_.ops x28_3).slot, (ele k_.ops x28_3).stage, (ele k_.ops x28_3).op, (ele k_.ops x28_3).dest, (ele k_.ops x28_3).a, (ele k_.ops x28_3).b, (ele k_.ops x28_3).ar, (ele k_.ops x28_3).sp, (ele k_.ops x28_3).pl, (ele k_.ops x28_3).n] : List Int)) 3 rfl c37 (by first | rfl | exact addr_lit _))) ?_
          refine WL.effect rfl ?_
          refine (EV.buildSlice (by decide) sz_57 (by decide) (by decide) (ps := [(0, .tmp 45)]) (cells := [.int .i64 (ele ([(ele k_.ops x28_3).slot, (ele k_.ops x28_3).stage, (ele k_.ops x28_3).op, (ele k_.ops x28_3).dest, (ele k_.ops x28_3).a, (ele k_.ops x28_3).b, (ele k_.ops x28_3).ar, (ele k_.ops x28_3).sp, (ele k_.ops x28_3).pl, (ele k_.ops x28_3).n] : List Int) 9)]) (EvAll.cons rfl rfl EvAll.nil) (by kernel_rfl) (fun b39 => ?_))
          refine WL.effect rfl ?_
          refine EV.of (fun w hw => hw.blkVec icell ([(ele ([(ele k_.ops x28_3).slot, (ele k_.ops x28_3).stage, (ele k_.ops x28_3).op, (ele k_.ops x28_3).dest, (ele k_.ops x28_3).a, (ele k_.ops x28_3).b, (ele k_.ops x28_3).ar, (ele k_.ops x28_3).sp, (ele k_.ops x28_3).pl, (ele k_.ops x28_3).n] : List Int) 9)] : List Int) rfl icell_len (Nat.le_of_ble_eq_true rfl)) ?_
          refine EV.of (C' := Own M w [kn M w.heap.size K0 k_4, vec (blkSlice b39 1 1) 2 1 (List.map icell [(ele ([(ele k_.ops x28_3).slot, (ele k_.ops x28_3).stage, (ele k_.ops x28_3).op, (ele k_.ops x28_3).dest, (ele k_.ops x28_3).a, (ele k_.ops x28_3).b, (ele k_.ops x28_3).ar, (ele k_.ops x28_3).sp, (ele k_.ops x28_3).pl, (ele k_.ops x28_3).n] : List Int) 9)]), blk b5 [uv8_4] 33, vec uv8_4 5 1 (List.map bcell v8_4), blk b31 (List.map i64v ([(ele k_.ops x28_3).slot, (ele k_.ops x28_3).stage, (ele k_.ops x28_3).op, (ele k_.ops x28_3).dest, (ele k_.ops x28_3).a, (ele k_.ops x28_3).b, (ele k_.ops x28_3).ar, (ele k_.ops x28_3).sp, (ele k_.ops x28_3).pl, (ele k_.ops x28_3).n] : List Int)) 70, blk b1 [.int .i64 k_.pace, .int .i64 k_.stages, v_k__ops] 32]) (fun w hw => hw.pick [1, 0, 2, 3, 4, 5] (by decide)) ?_
          refine EV.freeze hk (fun k40 hle40 hr40 => ?_)
          have hA40 := vec_arr hr40
          obtain ⟨x41, hx42, hm43⟩ := bd_some hm38; clear hm38
          refine (EV.callRV (X := Value × World) (R := [blk b5 [uv8_4] 33, vec uv8_4 5 1 (List.map bcell v8_4)]) (fun X => .tuple #[]) (fun X => [blk b5 [X.1] 33, vec X.1 5 1 (List.map bcell x41)]) (fun X => X.2) (fun X => SliceLen X.1 (x41).length) hk (fun _ h => by cases h; decide) en38 rfl rfl (EvAll.cons rfl rfl EvAll.nil) (fun M w h1 h2 => have h := code_Put_c1_w hx42 hA40 hlv8_4 M w h1 h2; h) (fun X44 hF44 hle44 => ?_))
          refine WL.nil ?_
          refine WQ.block ?_
          refine WQ.then ?_
          refine WC.region ?_
          obtain ⟨c45, hm46⟩ := ck_some hm43; clear hm43
          refine WL.q rfl rfl rfl (QV.add rfl rfl rfl rfl c45) ?_
          refine WL.q rfl rfl rfl (QV.move rfl rfl) ?_
          refine WL.nil ?_
          exact WQ.again4 x41 (x28_3 + 1) X44.1 X44.2 m21 ⟨up_next hm46 hn24, hF44, (((hle_3.trans hle_4).trans hle40).trans hle44)⟩ (Nat.lt_succ_self _) ⟨rfl, rfl, rfl, rfl, rfl, trivial⟩ (fun w hw => hw.pick [0, 1, 2, 4] (by decide))
        · skip
          rintro v8_4 x33_4 uv8_4 k_4 m47 ⟨hI48, hlv8_4, hle_4⟩
          obtain ⟨m49, s50, rfl, hm51, hn52⟩ := iter_step hI48; clear hI48; unfold code_Put_L2 at hm51; simp only at hm51
          refine WC.seq ?_
          refine WC.region ?_
          refine WL.q rfl rfl rfl (QV.lss rfl rfl rfl rfl) ?_
          refine WL.nil ?_
          refine WQ.then ?_
          refine WC.seq ?_
          refine WC.cond rfl (fun h53 => ?_) (fun h53 => ?_)
          · skip
            have hm54 := br_t h53 hm51; clear hm51
            refine WC.skip ?_
            refine WQ.then ?_
            refine WC.seq ?_
            refine WC.block ?_
            refine WC.seq ?_
            refine WC.region ?_
            obtain ⟨c55, hm56⟩ := ck_some hm54; clear hm54
            refine WL.q rfl rfl rfl (QV.indexPtrs (b := b31) (m := 9) Try.underlying72 pl71 sz71 rfl rfl rfl rfl c55) ?_
            refine WL.q rfl rfl rfl (QV.assign rfl rfl) ?_
            refine WL.nil ?_
            refine WQ.then ?_
            refine WC.region ?_
            refine WL.q rfl rfl rfl (QV.move rfl rfl) ?_
            refine WL.q rfl rfl rfl (QV.move rfl rfl) ?_
            refine WL.q rfl rfl rfl (QV.nilCheck rfl rfl) ?_
            obtain ⟨c57, hm58⟩ := ck_some hm56; clear hm56
            refine WL.q rfl rfl rfl (QV.load pl3 rfl rfl (Own.cellG (c := i64v) (xs := ([(ele k_.ops x28_3).slot, (ele k_.ops x28_3).stage, (ele k_.ops x28_3).op, (ele k_.ops x28_3).dest, (ele k_.ops x28_3).a, (ele k_.ops x28_3).b, (ele k_.ops x28_3).ar, (ele k_.ops x28_3).sp, (ele k_.ops x28_3).pl, (ele k_.ops x28_3).n] : List Int)) 3 rfl c57 (by first | rfl | exact addr_dyn0 | exact addr_dyn c55.1))) ?_
            refine WL.effect rfl ?_
            refine (EV.buildSlice (by decide) sz_57 (by decide) (by decide) (ps := [(0, .tmp 39)]) (cells := [.int .i64 (ele ([(ele k_.ops x28_3).slot, (ele k_.ops x28_3).stage, (ele k_.ops x28_3).op, (ele k_.ops x28_3).dest, (ele k_.ops x28_3).a, (ele k_.ops x28_3).b, (ele k_.ops x28_3).ar, (ele k_.ops x28_3).sp, (ele k_.ops x28_3).pl, (ele k_.ops x28_3).n] : List Int) x33_4)]) (EvAll.cons rfl rfl EvAll.nil) (by kernel_rfl) (fun b59 => ?_))
            refine WL.effect rfl ?_
            refine EV.of (fun w hw => hw.blkVec icell ([(ele ([(ele k_.ops x28_3).slot, (ele k_.ops x28_3).stage, (ele k_.ops x28_3).op, (ele k_.ops x28_3).dest, (ele k_.ops x28_3).a, (ele k_.ops x28_3).b, (ele k_.ops x28_3).ar, (ele k_.ops x28_3).sp, (ele k_.ops x28_3).pl, (ele k_.ops x28_3).n] : List Int) x33_4)] : List Int) rfl icell_len (Nat.le_of_ble_eq_true rfl)) ?_
            refine EV.of (C' := Own M w [kn M w.heap.size K0 k_4, vec (blkSlice b59 1 1) 2 1 (List.map icell [(ele ([(ele k_.ops x28_3).slot, (ele k_.ops x28_3).stage, (ele k_.ops x28_3).op, (ele k_.ops x28_3).dest, (ele k_.ops x28_3).a, (ele k_.ops x28_3).b, (ele k_.ops x28_3).ar, (ele k_.ops x28_3).sp, (ele k_.ops x28_3).pl, (ele k_.ops x28_3).n] : List Int) x33_4)]), blk b5 [uv8_4] 33, vec uv8_4 5 1 (List.map bcell v8_4), blk b31 (List.map i64v ([(ele k_.ops x28_3).slot, (ele k_.ops x28_3).stage, (ele k_.ops x28_3).op, (ele k_.ops x28_3).dest, (ele k_.ops x28_3).a, (ele k_.ops x28_3).b, (ele k_.ops x28_3).ar, (ele k_.ops x28_3).sp, (ele k_.ops x28_3).pl, (ele k_.ops x28_3).n] : List Int)) 70, blk b1 [.int .i64 k_.pace, .int .i64 k_.stages, v_k__ops] 32]) (fun w hw => hw.pick [1, 0, 2, 3, 4, 5] (by decide)) ?_
            refine EV.freeze hk (fun k60 hle60 hr60 => ?_)
            have hA60 := vec_arr hr60
            obtain ⟨x61, hx62, hm63⟩ := bd_some hm58; clear hm58
            refine (EV.callRV (X := Value × World) (R := [blk b5 [uv8_4] 33, vec uv8_4 5 1 (List.map bcell v8_4)]) (fun X => .tuple #[]) (fun X => [blk b5 [X.1] 33, vec X.1 5 1 (List.map bcell x61)]) (fun X => X.2) (fun X => SliceLen X.1 (x61).length) hk (fun _ h => by cases h; decide) en38 rfl rfl (EvAll.cons rfl rfl EvAll.nil) (fun M w h1 h2 => have h := code_Put_c1_w hx62 hA60 hlv8_4 M w h1 h2; h) (fun X64 hF64 hle64 => ?_))
            refine WL.nil ?_
            refine WQ.block ?_
            refine WQ.then ?_
            refine WC.region ?_
            obtain ⟨c65, hm66⟩ := ck_some hm63; clear hm63
            refine WL.q rfl rfl rfl (QV.add rfl rfl rfl rfl c65) ?_
            refine WL.q rfl rfl rfl (QV.move rfl rfl) ?_
            refine WL.nil ?_
            exact WQ.again4 x61 (x33_4 + 1) X64.1 X64.2 m49 ⟨up_next hm66 hn52, hF64, ((hle_4.trans hle60).trans hle64)⟩ (Nat.lt_succ_self _) ⟨rfl, rfl, rfl, rfl, rfl, rfl, rfl, rfl, trivial⟩ (fun w hw => hw.pick [0, 1, 2, 3, 4] (by decide))
          · skip
            have hm67 := br_f h53 hm51; clear hm51
            refine WC.exit ?_
            refine WQ.then_exit ?_
            refine WQ.then_exit ?_
            refine WQ.block_exit ?_
            exact WQ.out4 v8_4 x33_4 uv8_4 k_4 ⟨up_brk hm67 hn52, hlv8_4, hle_4⟩ ⟨rfl, rfl, rfl, rfl, rfl, rfl, rfl, rfl, trivial⟩ (fun w hw => hw.pick [0, 1, 2, 3, 4] (by decide))
      · skip
        have hm68 := br_f h25 hm23; clear hm23
        refine WC.exit ?_
        refine WQ.then_exit ?_
        refine WQ.then_exit ?_
        refine WQ.block_exit ?_
        exact WQ.out4 v8_3 x28_3 uv8_3 k_3 ⟨up_brk hm68 hn24, hlv8_3, hle_3⟩ ⟨rfl, rfl, rfl, rfl, rfl, trivial⟩ (fun w hw => hw.pick [0, 1, 2, 3] (by decide))

set_option maxRecDepth 8000 in
theorem code_Get_c1_w {v_b : Value} {b_b : Nat} {b : List UInt8} {r : Int × List UInt8} {K0 : World} (hm : code_Get_c1_m b = some r) (h_b : Arr K0 v_b 1 (b.map bcell)) (M : Nat → Prop) (w : World) (hk : Base M K0 w) (hw0 : Own M w [blk b_b [v_b] 33] w) : Calls Try.prog 42 #[.pointer (some (⟨b_b, 0, none⟩))] w (fun e w' => ∃ X : Value × World, e = .returned (.int .i64 r.1) ∧ Own M w (kn M w.heap.size K0 X.2 :: [blk b_b [X.1] 33]) w' ∧ Arr X.2 X.1 1 (r.2.map bcell)) := by
  unfold code_Get_c1_m at hm
  refine calls_of_WC (n := 21) (args := [.pointer (some (⟨b_b, 0, none⟩))]) Try.func42 rfl rfl (Nat.le_of_ble_eq_true rfl) ?_ (Own.startK hk hw0)
  refine WC.seq ?_
  refine WC.region ?_
  refine WL.q rfl rfl rfl (QV.assign rfl rfl) ?_
  refine WL.nil ?_
  refine WQ.then ?_
  refine WC.seq ?_
  refine WC.region ?_
  refine WL.q rfl rfl rfl (QV.assign rfl rfl) ?_
  refine WL.nil ?_
  refine WQ.then ?_
  refine WC.seq ?_
  refine WC.seq ?_
  refine WC.region ?_
  refine WL.q rfl rfl rfl (QV.load pl33 rfl rfl (Own.cell 1 rfl rfl)) ?_
  obtain ⟨c1, hm2⟩ := ck_some hm; clear hm
  have hA3 := subS_sub h_b c1
  refine WL.q rfl rfl rfl (QV.sliceHd sl33 rfl rfl h_b.lenMap rfl rfl c1) ?_
  refine WL.q rfl rfl rfl (QV.lenS Try.underlying33 rfl rfl hA3.lenMap) ?_
  refine WL.q rfl rfl rfl (QV.move rfl rfl) ?_
  refine WL.nil ?_
  refine WQ.then ?_
  obtain ⟨o4, ho5, hm6⟩ := bd_some hm2; clear hm2; obtain ⟨n7, ho8⟩ := lp_some ho5
  refine WC.bloop2 (H2 := [kn M w.heap.size K0 K0, blk b_b [v_b] 33]) (τ := [(0, (true, _)), (6, (true, _)), (7, (true, _))]) (fun (n2_1 : Int) (x8_1 : Int) => [(2, (true, .int .i64 n2_1)), (8, (true, .int .i64 x8_1))]) (fun (n2_1 : Int) (x8_1 : Int) => []) (fun (n2_1 : Int) (x8_1 : Int) (m : Nat) => iter (code_Get_c1_L0 b) m (n2_1, x8_1) = some o4) (fun (n2_1 : Int) (x8_1 : Int) => o4 = .go (n2_1, x8_1)) 0 0 n7 ho8 ⟨rfl, rfl, rfl, rfl, rfl, trivial⟩ (fun w hw => hw.pick [0, 1] (by decide)) ?_ ?_
  · skip
    rintro n2_1 x8_1 rfl
    refine WQ.then ?_
    refine WC.seq ?_
    refine WC.region ?_
    refine WL.q rfl rfl rfl (QV.load pl33 rfl rfl (Own.cell 1 rfl rfl)) ?_
    obtain ⟨c9, hm10⟩ := ck_some hm6; clear hm6
    have hA11 := subS_sub h_b c9
    refine WL.q rfl rfl rfl (QV.sliceLd sl33 rfl rfl h_b.lenMap rfl rfl c9) ?_
    refine WL.effect rfl ?_
    refine (EV.store 1 rfl rfl rfl rfl rfl rfl (vs := [(subS v_b 1 (Int.toNat 8) (Int.toNat (ln b)))]) (SliceLen.cells hA11.lenMap) sz33 (Nat.le_of_ble_eq_true rfl) (one_cons (SliceLen.one hA11.lenMap) one_nil) ?_)
    refine WL.nil ?_
    refine WQ.then ?_
    refine WC.seq ?_
    refine WC.region ?_
    refine WL.q rfl rfl rfl (QV.move rfl rfl) ?_
    refine WL.q rfl rfl rfl (QV.assign rfl rfl) ?_
    refine WL.nil ?_
    refine WQ.then ?_
    refine WC.ret ?_
    obtain rfl := eq_of_some hm10
    refine WQ.ret1 rfl rfl (fun w hw => ?_)
    exact ⟨((subS v_b 1 (Int.toNat 8) (Int.toNat (ln b))), K0), rfl, hw.pick [0, 1] (by decide), hA11⟩
  · skip
    rintro n2_1 x8_1 m12 hI13
    obtain ⟨m14, s15, rfl, hm16, hn17⟩ := iter_step hI13; clear hI13; unfold code_Get_c1_L0 at hm16; simp only at hm16
    refine WC.seq ?_
    refine WC.region ?_
    refine WL.q rfl rfl rfl (QV.lss rfl rfl rfl rfl) ?_
    refine WL.nil ?_
    refine WQ.then ?_
    refine WC.seq ?_
    refine WC.cond rfl (fun h18 => ?_) (fun h18 => ?_)
    · skip
      have hm19 := br_t h18 hm16; clear hm16
      refine WC.skip ?_
      refine WQ.then ?_
      refine WC.seq ?_
      refine WC.block ?_
      refine WC.seq ?_
      refine WC.region ?_
      obtain ⟨c20, hm21⟩ := ck_some hm19; clear hm19
      obtain ⟨p22, hp23⟩ := hA3.lenMap.ix (sz := 1) ln_len c20
      refine WL.q rfl rfl rfl (QV.indexSlice sl33 rfl rfl rfl rfl hp23) ?_
      refine WL.q rfl rfl rfl (QV.load pl5 rfl rfl (fun w hw => CellsAt.one 0 (((Own.karr 0 rfl hk hA3) w hw).ele hp23 c20) rfl)) ?_
      refine WL.q rfl rfl rfl (QV.assign rfl rfl) ?_
      refine WL.nil ?_
      refine WQ.then ?_
      refine WC.region ?_
      refine WL.q rfl rfl rfl (QV.move rfl rfl) ?_
      refine WL.q rfl rfl rfl (QV.shlD rfl rfl rfl rfl (by decide)) ?_
      refine WL.q rfl rfl rfl (QV.move rfl rfl) ?_
      refine WL.q rfl rfl rfl (QV.eqv (wrap_byte (ele (sub b 0 8) x8_1)) (QV.intToInt Try.underlying2 Try.underlying5 rfl rfl)) ?_
      refine WL.q rfl rfl rfl (QV.orW rfl rfl rfl rfl) ?_
      refine WL.q rfl rfl rfl (QV.assign rfl rfl) ?_
      refine WL.nil ?_
      refine WQ.block ?_
      refine WQ.then ?_
      refine WC.region ?_
      obtain ⟨c24, hm25⟩ := ck_some hm21; clear hm21
      refine WL.q rfl rfl rfl (QV.add rfl rfl rfl rfl c24) ?_
      refine WL.q rfl rfl rfl (QV.move rfl rfl) ?_
      refine WL.nil ?_
      exact WQ.again2 (bitOr (shlD n2_1 8) (((ele (sub b 0 8) x8_1)).toNat : Int)) (x8_1 + 1) m14 (up_next hm25 hn17) (Nat.lt_succ_self _) ⟨rfl, rfl, rfl, rfl, rfl, trivial⟩ (fun w hw => hw.pick [0, 1] (by decide))
    · skip
      have hm26 := br_f h18 hm16; clear hm16
      refine WC.exit ?_
      refine WQ.then_exit ?_
      refine WQ.then_exit ?_
      refine WQ.block_exit ?_
      exact WQ.out2 n2_1 x8_1 (up_brk hm26 hn17) ⟨rfl, rfl, rfl, rfl, rfl, trivial⟩ (fun w hw => hw.pick [0, 1] (by decide))

set_option maxRecDepth 8000 in
theorem code_Get_w {v_b : Value} {b : List UInt8} {r : Krn × Int} {K0 : World} (hm : code_Get_m b = some r) (h_b : Arr K0 v_b 1 (b.map bcell)) (M : Nat → Prop) (w : World) (hk : Base M K0 w) (hw0 : Own M w [] w) : Calls Try.prog 20 #[v_b] w (fun e w' => ∃ X : Value × World, e = .returned (.tuple #[.agg #[.int .i64 r.1.pace, .int .i64 r.1.stages, X.1], .int .i64 r.2]) ∧ Own M w (kn M w.heap.size K0 X.2 :: []) w' ∧ Arr X.2 X.1 10 (r.1.ops.map Opr.cells)) := by
  unfold code_Get_m at hm
  refine calls_of_WC (n := 59) (args := [v_b]) Try.func20 rfl rfl (Nat.le_of_ble_eq_true rfl) ?_ (Own.startK hk hw0)
  refine WC.seq ?_
  refine WC.region ?_
  refine WL.effect rfl ?_
  refine (EV.box1 (by decide) rfl rfl (SliceLen.cells h_b.lenMap) (fun b1 => ?_))
  refine WL.effect rfl ?_
  refine (EV.alloc (by decide) ze32 (fun b2 => ?_))
  refine WL.q rfl rfl rfl (QV.assign rfl rfl) ?_
  refine WL.nil ?_
  refine WQ.then ?_
  refine WC.seq ?_
  refine WC.region ?_
  refine WL.q rfl rfl rfl (QV.makeFunc (EvAll.cons rfl rfl EvAll.nil)) ?_
  refine WL.q rfl rfl rfl (QV.assign rfl rfl) ?_
  refine WL.nil ?_
  refine WQ.then ?_
  refine WC.seq ?_
  refine WC.seq ?_
  refine WC.region ?_
  refine WL.q rfl rfl rfl (QV.load pl33 rfl rfl (Own.cell 1 rfl rfl)) ?_
  refine WL.q rfl rfl rfl (QV.lenS Try.underlying33 rfl rfl h_b.lenMap) ?_
  refine WL.q rfl rfl rfl (QV.lss rfl rfl rfl rfl) ?_
  refine WL.nil ?_
  refine WQ.then ?_
  refine WC.cond rfl (fun h3 => ?_) (fun h3 => ?_)
  · skip
    have hm4 := br_t h3 hm; clear hm
    refine WC.seq ?_
    refine WC.region ?_
    refine WL.q rfl rfl rfl (QV.build (ps := []) (cells := [.int .i64 0, .int .i64 0, .slice none 0 0]) EvAll.nil (by kernel_rfl)) ?_
    refine WL.effect rfl ?_
    refine (EV.store 0 rfl rfl rfl rfl rfl rfl (vs := [.int .i64 0, .int .i64 0, .slice none 0 0]) (show Value.cells _ = List.toArray _ from rfl) sz32 (Nat.le_of_ble_eq_true rfl) (one_cons rfl (one_cons rfl (one_cons rfl one_nil))) ?_)
    refine WL.q rfl rfl rfl (QV.assign rfl rfl) ?_
    refine WL.nil ?_
    refine WQ.then ?_
    refine WC.ret ?_
    refine WQ.then_ret ?_
    obtain rfl := eq_of_some hm4
    refine WQ.retCellTmp rfl ag32 rfl rfl rfl (Own.cellsBlk 0 rfl) (fun w hw => ?_)
    exact ⟨(.slice none 0 0, K0), rfl, hw.pick [2] (by decide), Arr.nil⟩
  · skip
    have hm5 := br_f h3 hm; clear hm
    refine WC.skip ?_
    refine WQ.then ?_
    refine WC.seq ?_
    refine WC.region ?_
    refine WL.q rfl rfl rfl (QV.move rfl rfl) ?_
    refine WL.effect rfl ?_
    obtain ⟨x6, hx7, hm8⟩ := bd_some hm5; clear hm5
    refine EV.of (C' := Own M w [kn M w.heap.size K0 K0, blk b1 [v_b] 33, blk b2 [.int .i64 0, .int .i64 0, .slice none 0 0] 32]) (fun w hw => hw.pick [2, 1, 0] (by decide)) ?_
    refine (EV.callRV (X := Value × World) (R := [blk b1 [v_b] 33]) (fun X => .int .i64 x6.1) (fun X => [blk b1 [X.1] 33]) (fun X => X.2) (fun X => Arr X.2 X.1 1 (x6.2.map bcell)) hk (fun _ h => by cases h; decide) en42 rfl rfl EvAll.nil (fun M w h1 h2 => have h := code_Get_c1_w hx7 h_b M w h1 h2; h) (fun X9 hF9 hle9 => ?_))
    refine WL.q rfl rfl rfl (QV.move rfl rfl) ?_
    refine WL.effect rfl ?_
    obtain ⟨x10, hx11, hm12⟩ := bd_some hm8; clear hm8
    refine (EV.callRV (X := Value × World) (R := [blk b1 [X9.1] 33]) (fun X => .int .i64 x10.1) (fun X => [blk b1 [X.1] 33]) (fun X => X.2) (fun X => Arr X.2 X.1 1 (x10.2.map bcell)) hk (fun _ h => by cases h; decide) en42 rfl rfl EvAll.nil (fun M w h1 h2 => have h := code_Get_c1_w hx11 hF9 M w h1 h2; h) (fun X13 hF13 hle13 => ?_))
    refine WL.q rfl rfl rfl (QV.build (ps := [(0, .tmp 16), (1, .tmp 18)]) (cells := [.int .i64 x6.1, .int .i64 x10.1, .slice none 0 0]) (EvAll.cons rfl rfl (EvAll.cons rfl rfl EvAll.nil)) (by kernel_rfl)) ?_
    refine WL.effect rfl ?_
    refine (EV.alloc (by decide) ze32 (fun b14 => ?_))
    refine WL.effect rfl ?_
    refine (EV.store 0 rfl rfl rfl rfl rfl rfl (vs := [.int .i64 x6.1, .int .i64 x10.1, .slice none 0 0]) (show Value.cells _ = List.toArray _ from rfl) sz32 (Nat.le_of_ble_eq_true rfl) (one_cons rfl (one_cons rfl (one_cons rfl one_nil))) ?_)
    refine WL.nil ?_
    refine WQ.then ?_
    refine WC.seq ?_
    refine WC.region ?_
    refine WL.q rfl rfl rfl (QV.move rfl rfl) ?_
    refine WL.effect rfl ?_
    obtain ⟨x15, hx16, hm17⟩ := bd_some hm12; clear hm12
    refine EV.of (C' := Own M w [kn M w.heap.size K0 X13.2, blk b1 [X13.1] 33, blk b14 [.int .i64 x6.1, .int .i64 x10.1, .slice none 0 0] 32, blk b2 [.int .i64 0, .int .i64 0, .slice none 0 0] 32]) (fun w hw => hw.pick [1, 2, 0, 3] (by decide)) ?_
    refine (EV.callRV (X := Value × World) (R := [blk b1 [X13.1] 33]) (fun X => .int .i64 x15.1) (fun X => [blk b1 [X.1] 33]) (fun X => X.2) (fun X => Arr X.2 X.1 1 (x15.2.map bcell)) hk (fun _ h => by cases h; decide) en42 rfl rfl EvAll.nil (fun M w h1 h2 => have h := code_Get_c1_w hx16 hF13 M w h1 h2; h) (fun X18 hF18 hle18 => ?_))
    refine WL.q rfl rfl rfl (QV.assign rfl rfl) ?_
    refine WL.nil ?_
    refine WQ.then ?_
    refine WC.seq ?_
    refine WC.seq ?_
    refine WC.region ?_
    refine WL.q rfl rfl rfl (QV.move rfl rfl) ?_
    refine WL.q rfl rfl rfl (QV.lss rfl rfl rfl rfl) ?_
    refine WL.q rfl rfl rfl (QV.move rfl rfl) ?_
    refine WL.g rfl rfl (GuardIs.neg rfl rfl) (fun hG => QV.move rfl rfl) ?_
    refine WL.g rfl rfl (GuardIs.neg rfl rfl) (fun hG => QV.gtr rfl hG rfl rfl) ?_
    refine WL.q rfl rfl rfl (QV.pickOr rfl rfl rfl (fun h => notF h)) ?_
    refine WL.q rfl rfl rfl (QV.move rfl rfl) ?_
    refine WL.g rfl rfl (GuardIs.neg rfl rfl) (fun hG => QV.load pl33 rfl rfl (Own.cell 1 rfl rfl)) ?_
    refine WL.g rfl rfl (GuardIs.neg rfl rfl) (fun hG => QV.lenS Try.underlying33 rfl hG hF18.lenMap) ?_
    refine WL.g rfl rfl (GuardIs.neg rfl rfl) (fun hG => QV.move rfl rfl) ?_
    obtain ⟨c19, hm20⟩ := ck_some hm17; clear hm17
    refine WL.g rfl rfl (GuardIs.neg rfl rfl) (fun hG => QV.mul rfl rfl rfl hG (c19 hG)) ?_
    refine WL.g rfl rfl (GuardIs.neg rfl rfl) (fun hG => QV.neq rfl hG rfl hG) ?_
    refine WL.q rfl rfl rfl (QV.pickOr rfl rfl rfl (fun h => notF h)) ?_
    refine WL.nil ?_
    refine WQ.then ?_
    refine WC.cond rfl (fun h21 => ?_) (fun h21 => ?_)
    · skip
      have hm22 := br_t h21 hm20; clear hm20
      refine WC.seq ?_
      refine WC.region ?_
      refine WL.q rfl rfl rfl (QV.build (ps := []) (cells := [.int .i64 0, .int .i64 0, .slice none 0 0]) EvAll.nil (by kernel_rfl)) ?_
      refine WL.effect rfl ?_
      refine (EV.store 3 rfl rfl rfl rfl rfl rfl (vs := [.int .i64 0, .int .i64 0, .slice none 0 0]) (show Value.cells _ = List.toArray _ from rfl) sz32 (Nat.le_of_ble_eq_true rfl) (one_cons rfl (one_cons rfl (one_cons rfl one_nil))) ?_)
      refine WL.q rfl rfl rfl (QV.assign rfl rfl) ?_
      refine WL.nil ?_
      refine WQ.then ?_
      refine WC.ret ?_
      refine WQ.then_ret ?_
      obtain rfl := eq_of_some hm22
      refine WQ.retCellTmp rfl ag32 rfl rfl rfl (Own.cellsBlk 3 rfl) (fun w hw => ?_)
      exact ⟨(.slice none 0 0, X18.2), rfl, hw.pick [0] (by decide), Arr.nil⟩
    · skip
      have hm23 := br_f h21 hm20; clear hm20
      refine WC.skip ?_
      refine WQ.then ?_
      refine WC.seq ?_
      refine WC.seq ?_
      refine WC.region ?_
      refine WL.q rfl rfl rfl (QV.move rfl rfl) ?_
      refine WL.q rfl rfl rfl (QV.move rfl rfl) ?_
      refine WL.nil ?_
      refine WQ.then ?_
      refine WK.of (fun w hw => hw.vecNil (E := 70) (sz := 10) (enc := Opr.cells)) ?_
      obtain ⟨o25, ho26, hm27⟩ := bd_some hm23; clear hm23; obtain ⟨n28, ho29⟩ := lp_some ho26
      refine WC.bloop6 (H2 := [blk b2 [.int .i64 0, .int .i64 0, .slice none 0 0] 32]) (τ := [(2, (true, _)), (4, (true, _)), (5, (true, _)), (36, (true, _))]) (fun (v24_4 : List Opr) (b1c0_4 : List UInt8) (x37_4 : Int) (uv24_4 : Value) (vb1c0_4 : Value) (k_4 : World) => [(37, (true, .int .i64 x37_4))]) (fun (v24_4 : List Opr) (b1c0_4 : List UInt8) (x37_4 : Int) (uv24_4 : Value) (vb1c0_4 : Value) (k_4 : World) => [vec uv24_4 70 10 (List.map Opr.cells v24_4), kn M w.heap.size K0 k_4, blk b1 [vb1c0_4] 33, blk b14 [.int .i64 x6.1, .int .i64 x10.1, uv24_4] 32]) (fun (v24_4 : List Opr) (b1c0_4 : List UInt8) (x37_4 : Int) (uv24_4 : Value) (vb1c0_4 : Value) (k_4 : World) (m : Nat) => iter (code_Get_L0 x15) m (v24_4, b1c0_4, x37_4) = some o25 ∧ SliceLen uv24_4 v24_4.length ∧ Arr k_4 vb1c0_4 1 (b1c0_4.map bcell) ∧ Le X18.2 k_4) (fun (v24_4 : List Opr) (b1c0_4 : List UInt8) (x37_4 : Int) (uv24_4 : Value) (vb1c0_4 : Value) (k_4 : World) => o25 = .go (v24_4, b1c0_4, x37_4) ∧ SliceLen uv24_4 v24_4.length ∧ Arr k_4 vb1c0_4 1 (b1c0_4.map bcell) ∧ Le X18.2 k_4) [] x15.2 0 (.slice none 0 0) X18.1 X18.2 n28 ⟨ho29, SliceLen.nil, hF18, (Le.refl _)⟩ ⟨rfl, rfl, rfl, rfl, rfl, trivial⟩ (fun w hw => hw.pick [0, 1, 2, 3, 4] (by decide)) ?_ ?_
      · skip
        rintro v24_4 b1c0_4 x37_4 uv24_4 vb1c0_4 k_4 ⟨rfl, hlv24_4, hAb1c0_4, hle_4⟩
        refine WQ.then ?_
        refine WC.seq ?_
        refine WC.region ?_
        refine WL.q rfl rfl rfl (QV.loadAgg ag32 rfl rfl rfl (Own.cellsBlk 3 rfl)) ?_
        refine WL.effect rfl ?_
        refine (EV.store 4 rfl rfl rfl rfl rfl rfl (vs := [.int .i64 x6.1, .int .i64 x10.1, uv24_4]) (show Value.cells _ = List.toArray _ from rfl) sz32 (Nat.le_of_ble_eq_true rfl) (one_cons rfl (one_cons rfl (one_cons (SliceLen.one hlv24_4) one_nil))) ?_)
        refine WL.q rfl rfl rfl (QV.assign rfl rfl) ?_
        refine WL.nil ?_
        refine WQ.then ?_
        refine WC.ret ?_
        obtain rfl := eq_of_some hm27
        refine WK.of (C' := Own M w [kn M w.heap.size K0 k_4, vec uv24_4 70 10 (List.map Opr.cells v24_4), blk b1 [vb1c0_4] 33, blk b14 [.int .i64 x6.1, .int .i64 x10.1, uv24_4] 32, blk b2 [.int .i64 x6.1, .int .i64 x10.1, uv24_4] 32]) (fun w hw => hw.pick [1, 0, 2, 3, 4] (by decide)) ?_
        refine WK.freeze hk (fun k30 hle30 hr30 => ?_)
        have hA30 := vec_arr hr30
        refine WQ.retCellTmp rfl ag32 rfl rfl rfl (Own.cellsBlk 3 rfl) (fun w hw => ?_)
        exact ⟨(uv24_4, k30), rfl, hw.pick [0] (by decide), hA30⟩
      · skip
        rintro v24_4 b1c0_4 x37_4 uv24_4 vb1c0_4 k_4 m31 ⟨hI32, hlv24_4, hAb1c0_4, hle_4⟩
        obtain ⟨m33, s34, rfl, hm35, hn36⟩ := iter_step hI32; clear hI32; unfold code_Get_L0 at hm35; simp only at hm35
        refine WC.seq ?_
        refine WC.region ?_
        refine WL.q rfl rfl rfl (QV.lss rfl rfl rfl rfl) ?_
        refine WL.nil ?_
        refine WQ.then ?_
        refine WC.seq ?_
        refine WC.cond rfl (fun h37 => ?_) (fun h37 => ?_)
        · skip
          have hm38 := br_t h37 hm35; clear hm35
          refine WC.skip ?_
          refine WQ.then ?_
          refine WC.seq ?_
          refine WC.block ?_
          refine WC.seq ?_
          refine WC.region ?_
          refine WL.effect rfl ?_
          refine (EV.alloc (by decide) ze70 (fun b39 => ?_))
          refine WL.nil ?_
          refine WQ.then ?_
          refine WC.seq ?_
          refine WC.seq ?_
          refine WC.region ?_
          refine WL.q rfl rfl rfl (QV.call en39 (EvAll.cons rfl rfl EvAll.nil) (fun w hw => have h := code_fields_w w  (r := ()) rfl; h)) ?_
          refine WL.q rfl rfl rfl (QV.move rfl rfl) ?_
          refine WL.nil ?_
          refine WQ.then ?_
          obtain ⟨o40, ho41, hm42⟩ := bd_some hm38; clear hm38; obtain ⟨n43, ho44⟩ := lp_some ho41
          refine WC.bloop5 (H2 := [vec uv24_4 70 10 (List.map Opr.cells v24_4), blk b14 [.int .i64 x6.1, .int .i64 x10.1, uv24_4] 32, blk b2 [.int .i64 0, .int .i64 0, .slice none 0 0] 32]) (τ := [(2, (true, _)), (4, (true, _)), (5, (true, _)), (7, (true, _)), (36, (true, _)), (37, (true, _)), (39, (true, _))]) (fun (b39n_5 : List Int) (b1c0_5 : List UInt8) (x40_5 : Int) (vb1c0_5 : Value) (k_5 : World) => [(40, (true, .int .i64 x40_5))]) (fun (b39n_5 : List Int) (b1c0_5 : List UInt8) (x40_5 : Int) (vb1c0_5 : Value) (k_5 : World) => [blk b39 (List.map i64v b39n_5) 70, kn M w.heap.size K0 k_5, blk b1 [vb1c0_5] 33]) (fun (b39n_5 : List Int) (b1c0_5 : List UInt8) (x40_5 : Int) (vb1c0_5 : Value) (k_5 : World) (m : Nat) => iter (code_Get_L2) m (b39n_5, b1c0_5, x40_5) = some o40 ∧ Arr k_5 vb1c0_5 1 (b1c0_5.map bcell) ∧ Le k_4 k_5) (fun (b39n_5 : List Int) (b1c0_5 : List UInt8) (x40_5 : Int) (vb1c0_5 : Value) (k_5 : World) => o40 = .go (b39n_5, b1c0_5, x40_5) ∧ Arr k_5 vb1c0_5 1 (b1c0_5.map bcell) ∧ Le k_4 k_5) ([0, 0, 0, 0, 0, 0, 0, 0, 0, 0] : List Int) b1c0_4 0 vb1c0_4 k_4 n43 ⟨ho44, hAb1c0_4, (Le.refl _)⟩ ⟨rfl, rfl, rfl, rfl, rfl, rfl, rfl, rfl, trivial⟩ (fun w hw => hw.pick [0, 2, 3, 1, 4, 5] (by decide)) ?_ ?_
          · skip
            rintro b39n_5 b1c0_5 x40_5 vb1c0_5 k_5 ⟨rfl, hAb1c0_5, hle_5⟩
            refine WQ.then ?_
            refine WC.seq ?_
            refine WC.region ?_
            refine WL.q rfl rfl rfl (QV.move rfl rfl) ?_
            refine WL.effect rfl ?_
            obtain ⟨x45, hx46, hm47⟩ := bd_some hm42; clear hm42
            refine EV.of (C' := Own M w [kn M w.heap.size K0 k_5, blk b1 [vb1c0_5] 33, blk b39 (List.map i64v b39n_5) 70, vec uv24_4 70 10 (List.map Opr.cells v24_4), blk b14 [.int .i64 x6.1, .int .i64 x10.1, uv24_4] 32, blk b2 [.int .i64 0, .int .i64 0, .slice none 0 0] 32]) (fun w hw => hw.pick [1, 2, 0, 3, 4, 5] (by decide)) ?_
            refine (EV.callRV (X := Value × World) (R := [blk b1 [vb1c0_5] 33]) (fun X => .int .i64 x45.1) (fun X => [blk b1 [X.1] 33]) (fun X => X.2) (fun X => Arr X.2 X.1 1 (x45.2.map bcell)) hk (fun _ h => by cases h; decide) en42 rfl rfl EvAll.nil (fun M w h1 h2 => have h := code_Get_c1_w hx46 hAb1c0_5 M w h1 h2; h) (fun X48 hF48 hle48 => ?_))
            refine WL.q rfl rfl rfl (QV.fieldAddr fd70_9 rfl rfl) ?_
            refine WL.effect rfl ?_
            obtain ⟨c49, hm50⟩ := ck_some hm47; clear hm47
            refine (EV.storeB (c := i64v) (xs := b39n_5) 2 9 x45.1 rfl rfl rfl rfl rfl (by first | rfl | exact addr_dyn0 | exact addr_lit _ | exact addr_dyn (c49).1) c49 rfl rfl sz2 ?_)
            refine WL.nil ?_
            refine WQ.then ?_
            refine WC.region ?_
            refine WL.q rfl rfl rfl (QV.fieldAddr fd32_2 rfl rfl) ?_
            refine WL.q rfl rfl rfl (QV.load pl30 rfl rfl (Own.cell 4 rfl rfl)) ?_
            obtain ⟨c51, hm52⟩ := ck_some hm50; clear hm50
            refine WL.q rfl rfl rfl (QV.loadAgg (cs := (oprOf (upd b39n_5 9 x45.1)).cells) ag70 rfl rfl rfl (Own.cellsL (c := i64v) (xs := (upd b39n_5 9 x45.1)) 2 rfl (oprOf_cells c51))) ?_
            refine WL.effect rfl ?_
            refine (EV.buildSlice (by decide) sz_30 (by decide) (by decide) (ps := [(0, .tmp 53)]) (cells := [.int .i64 ((oprOf (upd b39n_5 9 x45.1)).slot), .int .i64 ((oprOf (upd b39n_5 9 x45.1)).stage), .int .i64 ((oprOf (upd b39n_5 9 x45.1)).op), .int .i64 ((oprOf (upd b39n_5 9 x45.1)).dest), .int .i64 ((oprOf (upd b39n_5 9 x45.1)).a), .int .i64 ((oprOf (upd b39n_5 9 x45.1)).b), .int .i64 ((oprOf (upd b39n_5 9 x45.1)).ar), .int .i64 ((oprOf (upd b39n_5 9 x45.1)).sp), .int .i64 ((oprOf (upd b39n_5 9 x45.1)).pl), .int .i64 ((oprOf (upd b39n_5 9 x45.1)).n)]) (EvAll.cons rfl rfl EvAll.nil) (by kernel_rfl) (fun b53 => ?_))
            refine WL.effect rfl ?_
            obtain ⟨c54, hm55⟩ := ck_some hm52; clear hm52
            refine (EV.appendL (enc := Opr.cells) (xs := v24_4) (ys := [(oprOf (upd b39n_5 9 x45.1))]) ((v24_4 ++ [(oprOf (upd b39n_5 9 x45.1))])) 4 (by decide) ve30 rfl rfl rfl rfl rfl (Own.blkArr 0 (rows := [(oprOf (upd b39n_5 9 x45.1))].map Opr.cells) rfl rfl (rows_len Opr.cells_len)) Opr.cells_len (Opr.cells_one _) rfl c54.1 c54.2 (fun u56 hu57 => ?_))
            refine WL.q rfl rfl rfl (QV.fieldAddr fd32_2 rfl rfl) ?_
            refine WL.effect rfl ?_
            refine (EV.store 5 rfl rfl rfl rfl rfl rfl (vs := [u56]) (SliceLen.cells hu57) sz30 (Nat.le_of_ble_eq_true rfl) (one_cons (SliceLen.one hu57) one_nil) ?_)
            refine WL.nil ?_
            refine WQ.block ?_
            refine WQ.then ?_
            refine WC.region ?_
            obtain ⟨c58, hm59⟩ := ck_some hm55; clear hm55
            refine WL.q rfl rfl rfl (QV.add rfl rfl rfl rfl c58) ?_
            refine WL.q rfl rfl rfl (QV.move rfl rfl) ?_
            refine WL.nil ?_
            exact WQ.again6 (v24_4 ++ [(oprOf (upd b39n_5 9 x45.1))]) x45.2 (x37_4 + 1) u56 X48.1 X48.2 m33 ⟨up_next hm59 hn36, hu57, hF48, ((hle_4.trans hle_5).trans hle48)⟩ (Nat.lt_succ_self _) ⟨rfl, rfl, rfl, rfl, rfl, trivial⟩ (fun w hw => hw.pick [4, 1, 2, 5, 6] (by decide))
          · skip
            rintro b39n_5 b1c0_5 x40_5 vb1c0_5 k_5 m60 ⟨hI61, hAb1c0_5, hle_5⟩
            obtain ⟨m62, s63, rfl, hm64, hn65⟩ := iter_step hI61; clear hI61; unfold code_Get_L2 at hm64; simp only at hm64
            refine WC.seq ?_
            refine WC.region ?_
            refine WL.q rfl rfl rfl (QV.lss rfl rfl rfl rfl) ?_
            refine WL.nil ?_
            refine WQ.then ?_
            refine WC.seq ?_
            refine WC.cond rfl (fun h66 => ?_) (fun h66 => ?_)
            · skip
              have hm67 := br_t h66 hm64; clear hm64
              refine WC.skip ?_
              refine WQ.then ?_
              refine WC.seq ?_
              refine WC.block ?_
              refine WC.seq ?_
              refine WC.region ?_
              obtain ⟨c68, hm69⟩ := ck_some hm67; clear hm67
              refine WL.q rfl rfl rfl (QV.indexPtrs (b := b39) (m := 9) Try.underlying72 pl71 sz71 rfl rfl rfl rfl c68) ?_
              refine WL.q rfl rfl rfl (QV.assign rfl rfl) ?_
              refine WL.nil ?_
              refine WQ.then ?_
              refine WC.region ?_
              refine WL.q rfl rfl rfl (QV.move rfl rfl) ?_
              refine WL.q rfl rfl rfl (QV.move rfl rfl) ?_
              refine WL.effect rfl ?_
              obtain ⟨x70, hx71, hm72⟩ := bd_some hm69; clear hm69
              refine EV.of (C' := Own M w [kn M w.heap.size K0 k_5, blk b1 [vb1c0_5] 33, blk b39 (List.map i64v b39n_5) 70, vec uv24_4 70 10 (List.map Opr.cells v24_4), blk b14 [.int .i64 x6.1, .int .i64 x10.1, uv24_4] 32, blk b2 [.int .i64 0, .int .i64 0, .slice none 0 0] 32]) (fun w hw => hw.pick [1, 2, 0, 3, 4, 5] (by decide)) ?_
              refine (EV.callRV (X := Value × World) (R := [blk b1 [vb1c0_5] 33]) (fun X => .int .i64 x70.1) (fun X => [blk b1 [X.1] 33]) (fun X => X.2) (fun X => Arr X.2 X.1 1 (x70.2.map bcell)) hk (fun _ h => by cases h; decide) en42 rfl rfl EvAll.nil (fun M w h1 h2 => have h := code_Get_c1_w hx71 hAb1c0_5 M w h1 h2; h) (fun X73 hF73 hle73 => ?_))
              refine WL.q rfl rfl rfl (QV.nilCheck rfl rfl) ?_
              refine WL.effect rfl ?_
              obtain ⟨c74, hm75⟩ := ck_some hm72; clear hm72
              refine (EV.storeB (c := i64v) (xs := b39n_5) 2 x40_5 x70.1 rfl rfl rfl rfl rfl (by first | rfl | exact addr_dyn0 | exact addr_lit _ | exact addr_dyn (c68).1) c74 rfl rfl sz3 ?_)
              refine WL.nil ?_
              refine WQ.block ?_
              refine WQ.then ?_
              refine WC.region ?_
              obtain ⟨c76, hm77⟩ := ck_some hm75; clear hm75
              refine WL.q rfl rfl rfl (QV.add rfl rfl rfl rfl c76) ?_
              refine WL.q rfl rfl rfl (QV.move rfl rfl) ?_
              refine WL.nil ?_
              exact WQ.again5 (upd b39n_5 x40_5 x70.1) x70.2 (x40_5 + 1) X73.1 X73.2 m62 ⟨up_next hm77 hn65, hF73, (hle_5.trans hle73)⟩ (Nat.lt_succ_self _) ⟨rfl, rfl, rfl, rfl, rfl, rfl, rfl, rfl, trivial⟩ (fun w hw => hw.pick [2, 0, 1, 3, 4, 5] (by decide))
            · skip
              have hm78 := br_f h66 hm64; clear hm64
              refine WC.exit ?_
              refine WQ.then_exit ?_
              refine WQ.then_exit ?_
              refine WQ.block_exit ?_
              exact WQ.out5 b39n_5 b1c0_5 x40_5 vb1c0_5 k_5 ⟨up_brk hm78 hn65, hAb1c0_5, hle_5⟩ ⟨rfl, rfl, rfl, rfl, rfl, rfl, rfl, rfl, trivial⟩ (fun w hw => hw.pick [0, 1, 2, 3, 4, 5] (by decide))
        · skip
          have hm79 := br_f h37 hm35; clear hm35
          refine WC.exit ?_
          refine WQ.then_exit ?_
          refine WQ.then_exit ?_
          refine WQ.block_exit ?_
          exact WQ.out6 v24_4 b1c0_4 x37_4 uv24_4 vb1c0_4 k_4 ⟨up_brk hm79 hn36, hlv24_4, hAb1c0_4, hle_4⟩ ⟨rfl, rfl, rfl, rfl, rfl, trivial⟩ (fun w hw => hw.pick [0, 1, 2, 3, 4] (by decide))

set_option maxRecDepth 8000 in
theorem roundelayref13_number_w {n_ : Int} {r : List UInt8} (w : World) (hm : roundelayref13_number_m n_ = some r)  : Calls Try.prog 41 #[.int .i64 n_] w (fun e w' => e = .returned (strV r) ∧ Grow w w') := by
  unfold roundelayref13_number_m at hm
  have hk := Base.rfl (w := w)
  refine calls_of_WC (n := 26) (args := [.int .i64 n_]) Try.func41 rfl rfl (Nat.le_of_ble_eq_true rfl) ?_ (Own.startK hk (Own.start w))
  refine WC.seq ?_
  refine WC.region ?_
  refine WL.q rfl rfl rfl (QV.assign rfl rfl) ?_
  refine WL.nil ?_
  refine WQ.then ?_
  refine WC.seq ?_
  refine WC.region ?_
  refine WL.effect rfl ?_
  refine (EV.alloc (by decide) ze95 (fun b1 => ?_))
  refine WL.nil ?_
  refine WQ.then ?_
  refine WC.seq ?_
  refine WC.seq ?_
  refine WC.region ?_
  refine WL.q rfl rfl rfl (QV.assign rfl rfl) ?_
  refine WL.nil ?_
  refine WQ.then ?_
  obtain ⟨o2, ho3, hm4⟩ := bd_some hm; clear hm; obtain ⟨n5, ho6⟩ := lp_some ho3
  refine WC.bloop3 (H2 := [kn noM w.heap.size w w]) (τ := [(3, (true, _))]) (fun (b1n_1 : List UInt8) (n0_1 : Int) (k4_1 : Int) => [(0, (true, .int .i64 n0_1)), (4, (true, .int .i64 k4_1))]) (fun (b1n_1 : List UInt8) (n0_1 : Int) (k4_1 : Int) => [blk b1 (List.map bval b1n_1) 95]) (fun (b1n_1 : List UInt8) (n0_1 : Int) (k4_1 : Int) (m : Nat) => iter (roundelayref13_number_L0) m (b1n_1, n0_1, k4_1) = some o2) (fun (b1n_1 : List UInt8) (n0_1 : Int) (k4_1 : Int) => o2 = .go (b1n_1, n0_1, k4_1)) ([(0 : UInt8), (0 : UInt8), (0 : UInt8), (0 : UInt8), (0 : UInt8), (0 : UInt8), (0 : UInt8), (0 : UInt8)] : List UInt8) n_ 7 n5 ho6 ⟨rfl, rfl, rfl, trivial⟩ (fun w hw => hw.pick [0, 1] (by decide)) ?_ ?_
  · skip
    rintro b1n_1 n0_1 k4_1 rfl
    refine WQ.then ?_
    refine WC.seq ?_
    refine WC.region ?_
    obtain ⟨c7, hm8⟩ := ck_some hm4; clear hm4
    refine WL.q rfl rfl rfl (QV.sliceArr ar95 (by decide) rfl rfl) ?_
    refine WL.q rfl rfl rfl (QV.strOf Try.underlying33 Try.underlying5 Try.underlying9 rfl rfl (Own.blkArrL 0 bcell_eq rfl c7)) ?_
    refine WL.q rfl rfl rfl (QV.assign rfl rfl) ?_
    refine WL.nil ?_
    refine WQ.then ?_
    refine WC.ret ?_
    obtain rfl := eq_of_some hm8
    refine WQ.ret1 rfl rfl (fun w hw => ?_)
    exact ⟨rfl, Own.kgrow (fun _ x => x) hw⟩
  · skip
    rintro b1n_1 n0_1 k4_1 m9 hI10
    obtain ⟨m11, s12, rfl, hm13, hn14⟩ := iter_step hI10; clear hI10; unfold roundelayref13_number_L0 at hm13; simp only at hm13
    refine WC.seq ?_
    refine WC.seq ?_
    refine WC.region ?_
    refine WL.q rfl rfl rfl (QV.move rfl rfl) ?_
    refine WL.q rfl rfl rfl (QV.geq rfl rfl rfl rfl) ?_
    refine WL.nil ?_
    refine WQ.then ?_
    refine WC.cond rfl (fun h15 => ?_) (fun h15 => ?_)
    · skip
      have hm16 := br_t h15 hm13; clear hm13
      refine WC.skip ?_
      refine WQ.then ?_
      refine WC.seq ?_
      refine WC.block ?_
      refine WC.seq ?_
      refine WC.region ?_
      refine WL.q rfl rfl rfl (QV.move rfl rfl) ?_
      refine WL.q rfl rfl rfl (QV.rem rfl rfl rfl rfl (by decide)) ?_
      refine WL.q rfl rfl rfl (QV.assign rfl rfl) ?_
      refine WL.nil ?_
      refine WQ.then ?_
      refine WC.seq ?_
      refine WC.seq ?_
      refine WC.region ?_
      refine WL.q rfl rfl rfl (QV.move rfl rfl) ?_
      refine WL.q rfl rfl rfl (QV.lss rfl rfl rfl rfl) ?_
      refine WL.nil ?_
      refine WQ.then ?_
      refine WC.cond rfl (fun h17 => ?_) (fun h17 => ?_)
      · skip
        have hm18 := br_t h17 hm16; clear hm16
        refine WC.region ?_
        refine WL.q rfl rfl rfl (QV.move rfl rfl) ?_
        obtain ⟨c19, hm20⟩ := ck_some hm18; clear hm18
        refine WL.q rfl rfl rfl (QV.add rfl rfl rfl rfl c19) ?_
        refine WL.q rfl rfl rfl (QV.assign rfl rfl) ?_
        refine WL.nil ?_
        refine WQ.then ?_
        refine WC.seq ?_
        refine WC.region ?_
        refine WL.q rfl rfl rfl (QV.move rfl rfl) ?_
        refine WL.q rfl rfl rfl (QV.move rfl rfl) ?_
        refine WL.q rfl rfl rfl (QV.eqv (wrap_bt ((Int.tmod n0_1 256) + 256)) (QV.intToInt Try.underlying5 Try.underlying2 rfl rfl)) ?_
        obtain ⟨c21, hm22⟩ := ck_some hm20; clear hm20
        refine WL.q rfl rfl rfl (QV.indexArray ar95 rfl rfl rfl rfl c21.1 c21.2) ?_
        refine WL.effect rfl ?_
        obtain ⟨c23, hm24⟩ := ck_some hm22; clear hm22
        refine (EV.storeB (c := bval) (xs := b1n_1) 0 k4_1 (bt ((Int.tmod n0_1 256) + 256)) rfl rfl rfl rfl rfl (by first | rfl | exact addr_dyn0 | exact addr_lit _ | exact addr_dyn (c21).1) c23 rfl rfl sz5 ?_)
        refine WL.nil ?_
        refine WQ.then ?_
        refine WC.region ?_
        refine WL.q rfl rfl rfl (QV.move rfl rfl) ?_
        refine WL.q rfl rfl rfl (QV.move rfl rfl) ?_
        obtain ⟨c25, hm26⟩ := ck_some hm24; clear hm24
        refine WL.q rfl rfl rfl (QV.sub rfl rfl rfl rfl c25) ?_
        obtain ⟨c27, hm28⟩ := ck_some hm26; clear hm26
        refine WL.q rfl rfl rfl (QV.quo rfl rfl rfl rfl (by decide) c27) ?_
        refine WL.q rfl rfl rfl (QV.assign rfl rfl) ?_
        refine WL.nil ?_
        refine WQ.block ?_
        refine WQ.then ?_
        refine WC.region ?_
        refine WL.q rfl rfl rfl (QV.move rfl rfl) ?_
        obtain ⟨c29, hm30⟩ := ck_some hm28; clear hm28
        refine WL.q rfl rfl rfl (QV.sub rfl rfl rfl rfl c29) ?_
        refine WL.q rfl rfl rfl (QV.assign rfl rfl) ?_
        refine WL.nil ?_
        exact WQ.again3 (upd b1n_1 k4_1 (bt ((Int.tmod n0_1 256) + 256))) (Int.tdiv (n0_1 - ((Int.tmod n0_1 256) + 256)) 256) (k4_1 - 1) m11 (up_next hm30 hn14) (Nat.lt_succ_self _) ⟨rfl, rfl, rfl, trivial⟩ (fun w hw => hw.pick [0, 1] (by decide))
      · skip
        have hm31 := br_f h17 hm16; clear hm16
        refine WC.skip ?_
        refine WQ.then ?_
        refine WC.seq ?_
        refine WC.region ?_
        refine WL.q rfl rfl rfl (QV.move rfl rfl) ?_
        refine WL.q rfl rfl rfl (QV.move rfl rfl) ?_
        refine WL.q rfl rfl rfl (QV.eqv (wrap_bt (Int.tmod n0_1 256)) (QV.intToInt Try.underlying5 Try.underlying2 rfl rfl)) ?_
        obtain ⟨c32, hm33⟩ := ck_some hm31; clear hm31
        refine WL.q rfl rfl rfl (QV.indexArray ar95 rfl rfl rfl rfl c32.1 c32.2) ?_
        refine WL.effect rfl ?_
        obtain ⟨c34, hm35⟩ := ck_some hm33; clear hm33
        refine (EV.storeB (c := bval) (xs := b1n_1) 0 k4_1 (bt (Int.tmod n0_1 256)) rfl rfl rfl rfl rfl (by first | rfl | exact addr_dyn0 | exact addr_lit _ | exact addr_dyn (c32).1) c34 rfl rfl sz5 ?_)
        refine WL.nil ?_
        refine WQ.then ?_
        refine WC.region ?_
        refine WL.q rfl rfl rfl (QV.move rfl rfl) ?_
        refine WL.q rfl rfl rfl (QV.move rfl rfl) ?_
        obtain ⟨c36, hm37⟩ := ck_some hm35; clear hm35
        refine WL.q rfl rfl rfl (QV.sub rfl rfl rfl rfl c36) ?_
        obtain ⟨c38, hm39⟩ := ck_some hm37; clear hm37
        refine WL.q rfl rfl rfl (QV.quo rfl rfl rfl rfl (by decide) c38) ?_
        refine WL.q rfl rfl rfl (QV.assign rfl rfl) ?_
        refine WL.nil ?_
        refine WQ.block ?_
        refine WQ.then ?_
        refine WC.region ?_
        refine WL.q rfl rfl rfl (QV.move rfl rfl) ?_
        obtain ⟨c40, hm41⟩ := ck_some hm39; clear hm39
        refine WL.q rfl rfl rfl (QV.sub rfl rfl rfl rfl c40) ?_
        refine WL.q rfl rfl rfl (QV.assign rfl rfl) ?_
        refine WL.nil ?_
        exact WQ.again3 (upd b1n_1 k4_1 (bt (Int.tmod n0_1 256))) (Int.tdiv (n0_1 - (Int.tmod n0_1 256)) 256) (k4_1 - 1) m11 (up_next hm41 hn14) (Nat.lt_succ_self _) ⟨rfl, rfl, rfl, trivial⟩ (fun w hw => hw.pick [0, 1] (by decide))
    · skip
      have hm42 := br_f h15 hm13; clear hm13
      refine WC.exit ?_
      refine WQ.then_exit ?_
      refine WQ.then_exit ?_
      refine WQ.block_exit ?_
      exact WQ.out3 b1n_1 n0_1 k4_1 (up_brk hm42 hn14) ⟨rfl, rfl, rfl, trivial⟩ (fun w hw => hw.pick [0, 1] (by decide))

set_option maxRecDepth 8000 in
theorem roundelayref13_numbers_w {v_l : Value} {l : List Int} {r : List UInt8} (w : World) (hm : roundelayref13_numbers_m l = some r) (h_l : Arr w v_l 1 (l.map icell)) : Calls Try.prog 40 #[v_l] w (fun e w' => e = .returned (strV r) ∧ Grow w w') := by
  unfold roundelayref13_numbers_m at hm
  have hk := Base.rfl (w := w)
  refine calls_of_WC (n := 21) (args := [v_l]) Try.func40 rfl rfl (Nat.le_of_ble_eq_true rfl) ?_ (Own.startK hk (Own.start w))
  refine WC.seq ?_
  refine WC.region ?_
  refine WL.q rfl rfl rfl (QV.assign rfl rfl) ?_
  refine WL.nil ?_
  refine WQ.then ?_
  refine WC.seq ?_
  refine WC.region ?_
  refine WL.q rfl rfl rfl (QV.assign rfl rfl) ?_
  refine WL.nil ?_
  refine WQ.then ?_
  refine WC.seq ?_
  refine WC.seq ?_
  refine WC.region ?_
  refine WL.q rfl rfl rfl (QV.assign rfl rfl) ?_
  refine WL.nil ?_
  refine WQ.then ?_
  obtain ⟨o1, ho2, hm3⟩ := bd_some hm; clear hm; obtain ⟨n4, ho5⟩ := lp_some ho2
  refine WC.bloop2 (H2 := [kn noM w.heap.size w w]) (τ := [(0, (true, _))]) (fun (s3_1 : List UInt8) (i4_1 : Int) => [(3, (true, strV s3_1)), (4, (true, .int .i64 i4_1))]) (fun (s3_1 : List UInt8) (i4_1 : Int) => []) (fun (s3_1 : List UInt8) (i4_1 : Int) (m : Nat) => iter (roundelayref13_numbers_L0 l) m (s3_1, i4_1) = some o1) (fun (s3_1 : List UInt8) (i4_1 : Int) => o1 = .go (s3_1, i4_1)) [] 0 n4 ho5 ⟨rfl, rfl, rfl, trivial⟩ (fun w hw => hw.pick [0] (by decide)) ?_ ?_
  · skip
    rintro s3_1 i4_1 rfl
    refine WQ.then ?_
    refine WC.seq ?_
    refine WC.region ?_
    refine WL.q rfl rfl rfl (QV.move rfl rfl) ?_
    refine WL.q rfl rfl rfl (QV.assign rfl rfl) ?_
    refine WL.nil ?_
    refine WQ.then ?_
    refine WC.ret ?_
    obtain rfl := eq_of_some hm3
    refine WQ.ret1 rfl rfl (fun w hw => ?_)
    exact ⟨rfl, Own.kgrow (fun _ x => x) hw⟩
  · skip
    rintro s3_1 i4_1 m6 hI7
    obtain ⟨m8, s9, rfl, hm10, hn11⟩ := iter_step hI7; clear hI7; unfold roundelayref13_numbers_L0 at hm10; simp only at hm10
    refine WC.seq ?_
    refine WC.seq ?_
    refine WC.region ?_
    refine WL.q rfl rfl rfl (QV.move rfl rfl) ?_
    refine WL.q rfl rfl rfl (QV.move rfl rfl) ?_
    refine WL.q rfl rfl rfl (QV.lenS Try.underlying48 rfl rfl h_l.lenMap) ?_
    refine WL.q rfl rfl rfl (QV.lss rfl rfl rfl rfl) ?_
    refine WL.nil ?_
    refine WQ.then ?_
    refine WC.cond rfl (fun h12 => ?_) (fun h12 => ?_)
    · skip
      have hm13 := br_t h12 hm10; clear hm10
      refine WC.skip ?_
      refine WQ.then ?_
      refine WC.seq ?_
      refine WC.block ?_
      refine WC.seq ?_
      refine WC.region ?_
      refine WL.q rfl rfl rfl (QV.move rfl rfl) ?_
      refine WL.q rfl rfl rfl (QV.move rfl rfl) ?_
      obtain ⟨c14, hm15⟩ := ck_some hm13; clear hm13
      obtain ⟨p16, hp17⟩ := h_l.lenMap.ix (sz := 1) ln_len c14
      refine WL.q rfl rfl rfl (QV.indexSlice sl48 rfl rfl rfl rfl hp17) ?_
      refine WL.q rfl rfl rfl (QV.load pl3 rfl rfl (fun w hw => CellsAt.one 0 (((Own.karr 0 rfl hk h_l) w hw).ele hp17 c14) rfl)) ?_
      obtain ⟨x18, hx19, hm20⟩ := bd_some hm15; clear hm15
      refine WL.q rfl rfl rfl (QV.call en41 (EvAll.cons rfl rfl EvAll.nil) (fun w hw => have h := roundelayref13_number_w w hx19 ; h)) ?_
      refine WL.q rfl rfl rfl (QV.assign rfl rfl) ?_
      refine WL.nil ?_
      refine WQ.then ?_
      refine WC.region ?_
      refine WL.q rfl rfl rfl (QV.move rfl rfl) ?_
      refine WL.q rfl rfl rfl (QV.move rfl rfl) ?_
      obtain ⟨c21, hm22⟩ := ck_some hm20; clear hm20
      refine WL.q rfl rfl rfl (QV.strAddD rfl rfl rfl rfl c21) ?_
      refine WL.q rfl rfl rfl (QV.assign rfl rfl) ?_
      refine WL.nil ?_
      refine WQ.block ?_
      refine WQ.then ?_
      refine WC.region ?_
      refine WL.q rfl rfl rfl (QV.move rfl rfl) ?_
      obtain ⟨c23, hm24⟩ := ck_some hm22; clear hm22
      refine WL.q rfl rfl rfl (QV.add rfl rfl rfl rfl c23) ?_
      refine WL.q rfl rfl rfl (QV.assign rfl rfl) ?_
      refine WL.nil ?_
      exact WQ.again2 (s3_1 ++ x18) (i4_1 + 1) m8 (up_next hm24 hn11) (Nat.lt_succ_self _) ⟨rfl, rfl, rfl, trivial⟩ (fun w hw => hw.pick [0] (by decide))
    · skip
      have hm25 := br_f h12 hm10; clear hm10
      refine WC.exit ?_
      refine WQ.then_exit ?_
      refine WQ.then_exit ?_
      refine WQ.block_exit ?_
      exact WQ.out2 s3_1 i4_1 (up_brk hm25 hn11) ⟨rfl, rfl, rfl, trivial⟩ (fun w hw => hw.pick [0] (by decide))

set_option maxRecDepth 8000 in
theorem roundelayref13_Bytes_w {v_k__ops : Value} {k_ : Krn} {r : List UInt8} (w : World) (hm : roundelayref13_Bytes_m k_ = some r) (h_k__ops : Arr w v_k__ops 10 (k_.ops.map Opr.cells)) : Calls Try.prog 19 #[.agg #[.int .i64 k_.pace, .int .i64 k_.stages, v_k__ops]] w (fun e w' => e = .returned (strV r) ∧ Grow w w') := by
  unfold roundelayref13_Bytes_m at hm
  have hk := Base.rfl (w := w)
  refine calls_of_WC (n := 54) (args := [.agg #[.int .i64 k_.pace, .int .i64 k_.stages, v_k__ops]]) Try.func19 rfl rfl (Nat.le_of_ble_eq_true rfl) ?_ (Own.startK hk (Own.start w))
  refine WC.seq ?_
  refine WC.region ?_
  refine WL.effect rfl ?_
  refine (EV.boxAgg (by decide) rfl rfl (fun b1 => ?_))
  refine WL.q rfl rfl rfl (QV.assign rfl rfl) ?_
  refine WL.nil ?_
  refine WQ.then ?_
  refine WC.seq ?_
  refine WC.region ?_
  refine WL.q rfl rfl rfl (QV.fieldAddr fd32_0 rfl rfl) ?_
  refine WL.q rfl rfl rfl (QV.load pl3 rfl rfl (Own.cell 0 rfl rfl)) ?_
  refine WL.q rfl rfl rfl (QV.fieldAddr fd32_1 rfl rfl) ?_
  refine WL.q rfl rfl rfl (QV.load pl3 rfl rfl (Own.cell 0 rfl rfl)) ?_
  refine WL.q rfl rfl rfl (QV.fieldAddr fd32_2 rfl rfl) ?_
  refine WL.q rfl rfl rfl (QV.load pl30 rfl rfl (Own.cell 0 rfl rfl)) ?_
  refine WL.q rfl rfl rfl (QV.lenS Try.underlying30 rfl rfl h_k__ops.lenMap) ?_
  refine WL.effect rfl ?_
  refine (EV.buildSlice (by decide) sz_48 (by decide) (by decide) (ps := [(0, .tmp 7), (1, .tmp 9), (2, .tmp 12)]) (cells := [.int .i64 k_.pace, .int .i64 k_.stages, .int .i64 (ln k_.ops)]) (EvAll.cons rfl rfl (EvAll.cons rfl rfl (EvAll.cons rfl rfl EvAll.nil))) (by kernel_rfl) (fun b2 => ?_))
  obtain ⟨x3, hx4, hm5⟩ := bd_some hm; clear hm
  refine WL.q rfl rfl rfl (QV.call en40 (EvAll.cons rfl rfl EvAll.nil) (fun w hw => have h := roundelayref13_numbers_w w hx4 ((Own.blkArr 0 (rows := [k_.pace, k_.stages, (ln k_.ops)].map icell) rfl rfl (rows_len icell_len)) w hw); h)) ?_
  refine WL.q rfl rfl rfl (QV.assign rfl rfl) ?_
  refine WL.nil ?_
  refine WQ.then ?_
  refine WC.seq ?_
  refine WC.seq ?_
  refine WC.region ?_
  refine WL.q rfl rfl rfl (QV.assign rfl rfl) ?_
  refine WL.nil ?_
  refine WQ.then ?_
  obtain ⟨o6, ho7, hm8⟩ := bd_some hm5; clear hm5; obtain ⟨n9, ho10⟩ := lp_some ho7
  refine WC.bloop2 (H2 := [blk b2 [.int .i64 k_.pace, .int .i64 k_.stages, .int .i64 (ln k_.ops)] 3, blk b1 [.int .i64 k_.pace, .int .i64 k_.stages, v_k__ops] 32, kn noM w.heap.size w w]) (τ := [(1, (true, _))]) (fun (s3_1 : List UInt8) (i4_1 : Int) => [(3, (true, strV s3_1)), (4, (true, .int .i64 i4_1))]) (fun (s3_1 : List UInt8) (i4_1 : Int) => []) (fun (s3_1 : List UInt8) (i4_1 : Int) (m : Nat) => iter (roundelayref13_Bytes_L0 k_) m (s3_1, i4_1) = some o6) (fun (s3_1 : List UInt8) (i4_1 : Int) => o6 = .go (s3_1, i4_1)) x3 0 n9 ho10 ⟨rfl, rfl, rfl, trivial⟩ (fun w hw => hw.pick [0, 1, 2] (by decide)) ?_ ?_
  · skip
    rintro s3_1 i4_1 rfl
    refine WQ.then ?_
    refine WC.seq ?_
    refine WC.region ?_
    refine WL.q rfl rfl rfl (QV.move rfl rfl) ?_
    refine WL.q rfl rfl rfl (QV.assign rfl rfl) ?_
    refine WL.nil ?_
    refine WQ.then ?_
    refine WC.ret ?_
    obtain rfl := eq_of_some hm8
    refine WQ.ret1 rfl rfl (fun w hw => ?_)
    exact ⟨rfl, Own.kgrow (fun _ x => x) hw⟩
  · skip
    rintro s3_1 i4_1 m11 hI12
    obtain ⟨m13, s14, rfl, hm15, hn16⟩ := iter_step hI12; clear hI12; unfold roundelayref13_Bytes_L0 at hm15; simp only at hm15
    refine WC.seq ?_
    refine WC.seq ?_
    refine WC.region ?_
    refine WL.q rfl rfl rfl (QV.move rfl rfl) ?_
    refine WL.q rfl rfl rfl (QV.fieldAddr fd32_2 rfl rfl) ?_
    refine WL.q rfl rfl rfl (QV.load pl30 rfl rfl (Own.cell 1 rfl rfl)) ?_
    refine WL.q rfl rfl rfl (QV.lenS Try.underlying30 rfl rfl h_k__ops.lenMap) ?_
    refine WL.q rfl rfl rfl (QV.lss rfl rfl rfl rfl) ?_
    refine WL.nil ?_
    refine WQ.then ?_
    refine WC.cond rfl (fun h17 => ?_) (fun h17 => ?_)
    · skip
      have hm18 := br_t h17 hm15; clear hm15
      refine WC.skip ?_
      refine WQ.then ?_
      refine WC.seq ?_
      refine WC.block ?_
      refine WC.seq ?_
      refine WC.region ?_
      refine WL.q rfl rfl rfl (QV.fieldAddr fd32_2 rfl rfl) ?_
      refine WL.q rfl rfl rfl (QV.load pl30 rfl rfl (Own.cell 1 rfl rfl)) ?_
      refine WL.q rfl rfl rfl (QV.move rfl rfl) ?_
      obtain ⟨c19, hm20⟩ := ck_some hm18; clear hm18
      obtain ⟨p21, hp22⟩ := h_k__ops.lenMap.ix (sz := 10) ln_len c19
      refine WL.q rfl rfl rfl (QV.indexSlice sl30 rfl rfl rfl rfl hp22) ?_
      refine WL.q rfl rfl rfl (QV.loadAgg ag70 rfl rfl rfl (fun w hw => ((Own.karr 2 rfl hk h_k__ops) w hw).ele hp22 c19)) ?_
      refine WL.effect rfl ?_
      refine (EV.alloc (by decide) ze70 (fun b23 => ?_))
      refine WL.effect rfl ?_
      refine (EV.store 0 rfl rfl rfl rfl rfl rfl (vs := [.int .i64 ((ele k_.ops i4_1).slot), .int .i64 ((ele k_.ops i4_1).stage), .int .i64 ((ele k_.ops i4_1).op), .int .i64 ((ele k_.ops i4_1).dest), .int .i64 ((ele k_.ops i4_1).a), .int .i64 ((ele k_.ops i4_1).b), .int .i64 ((ele k_.ops i4_1).ar), .int .i64 ((ele k_.ops i4_1).sp), .int .i64 ((ele k_.ops i4_1).pl), .int .i64 ((ele k_.ops i4_1).n)]) (show Value.cells _ = List.toArray _ from rfl) sz70 (Nat.le_of_ble_eq_true rfl) (one_cons rfl (one_cons rfl (one_cons rfl (one_cons rfl (one_cons rfl (one_cons rfl (one_cons rfl (one_cons rfl (one_cons rfl (one_cons rfl one_nil)))))))))) ?_)
      refine WL.nil ?_
      refine WQ.then ?_
      refine WC.dr (m := 27) (S := Own noM w [kn noM w.heap.size w w, blk b23 [.int .i64 ((ele k_.ops i4_1).slot), .int .i64 ((ele k_.ops i4_1).stage), .int .i64 ((ele k_.ops i4_1).op), .int .i64 ((ele k_.ops i4_1).dest), .int .i64 ((ele k_.ops i4_1).a), .int .i64 ((ele k_.ops i4_1).b), .int .i64 ((ele k_.ops i4_1).ar), .int .i64 ((ele k_.ops i4_1).sp), .int .i64 ((ele k_.ops i4_1).pl), .int .i64 ((ele k_.ops i4_1).n)] 70, blk b2 [.int .i64 k_.pace, .int .i64 k_.stages, .int .i64 (ln k_.ops)] 3, blk b1 [.int .i64 k_.pace, .int .i64 k_.stages, v_k__ops] 32]) (by kernel_rfl) (by kernel_rfl) (fun w hw => hw.pick [3, 0, 1, 2] (by decide)) ?_
      refine WD.q 0 rfl (by kernel_rfl) rfl rfl rfl (QV.move rfl rfl) ?_
      refine WD.q 1 rfl (by kernel_rfl) rfl rfl rfl (QV.fieldAddr fd70_0 rfl rfl) ?_
      refine WD.q 2 rfl (by kernel_rfl) rfl rfl rfl (QV.load pl3 rfl rfl (Own.cell 1 rfl rfl)) ?_
      refine WD.q 3 rfl (by kernel_rfl) rfl rfl rfl (QV.fieldAddr fd70_1 rfl rfl) ?_
      refine WD.q 4 rfl (by kernel_rfl) rfl rfl rfl (QV.load pl3 rfl rfl (Own.cell 1 rfl rfl)) ?_
      refine WD.q 5 rfl (by kernel_rfl) rfl rfl rfl (QV.fieldAddr fd70_2 rfl rfl) ?_
      refine WD.q 6 rfl (by kernel_rfl) rfl rfl rfl (QV.load pl3 rfl rfl (Own.cell 1 rfl rfl)) ?_
      refine WD.q 7 rfl (by kernel_rfl) rfl rfl rfl (QV.fieldAddr fd70_3 rfl rfl) ?_
      refine WD.q 8 rfl (by kernel_rfl) rfl rfl rfl (QV.load pl3 rfl rfl (Own.cell 1 rfl rfl)) ?_
      refine WD.q 9 rfl (by kernel_rfl) rfl rfl rfl (QV.fieldAddr fd70_4 rfl rfl) ?_
      refine WD.q 10 rfl (by kernel_rfl) rfl rfl rfl (QV.load pl3 rfl rfl (Own.cell 1 rfl rfl)) ?_
      refine WD.q 11 rfl (by kernel_rfl) rfl rfl rfl (QV.fieldAddr fd70_5 rfl rfl) ?_
      refine WD.q 12 rfl (by kernel_rfl) rfl rfl rfl (QV.load pl3 rfl rfl (Own.cell 1 rfl rfl)) ?_
      refine WD.q 13 rfl (by kernel_rfl) rfl rfl rfl (QV.fieldAddr fd70_6 rfl rfl) ?_
      refine WD.q 14 rfl (by kernel_rfl) rfl rfl rfl (QV.load pl3 rfl rfl (Own.cell 1 rfl rfl)) ?_
      refine WD.q 15 rfl (by kernel_rfl) rfl rfl rfl (QV.fieldAddr fd70_7 rfl rfl) ?_
      refine WD.q 16 rfl (by kernel_rfl) rfl rfl rfl (QV.load pl3 rfl rfl (Own.cell 1 rfl rfl)) ?_
      refine WD.q 17 rfl (by kernel_rfl) rfl rfl rfl (QV.fieldAddr fd70_8 rfl rfl) ?_
      refine WD.q 18 rfl (by kernel_rfl) rfl rfl rfl (QV.load pl3 rfl rfl (Own.cell 1 rfl rfl)) ?_
      refine WD.toL 524287 (by kernel_rfl) ?_
      refine WD.qL 22 524287 4718591 rfl (by kernel_rfl) rfl rfl rfl (QV.fieldAddr fd70_9 rfl rfl) ?_
      refine WD.qL 23 4718591 13107199 rfl (by kernel_rfl) rfl rfl rfl (QV.load pl2 rfl rfl (Own.cell 1 rfl rfl)) ?_
      refine WD.oL 19 13107199 13631487 rfl (by kernel_rfl) rfl ?_
      refine (EV.buildSlice (by decide) sz_48 (by decide) (by decide) (ps := [(0, .tmp 29), (1, .tmp 31), (2, .tmp 33), (3, .tmp 35), (4, .tmp 37), (5, .tmp 39), (6, .tmp 41), (7, .tmp 43), (8, .tmp 45)]) (cells := [.int .i64 ((ele k_.ops i4_1).slot), .int .i64 ((ele k_.ops i4_1).stage), .int .i64 ((ele k_.ops i4_1).op), .int .i64 ((ele k_.ops i4_1).dest), .int .i64 ((ele k_.ops i4_1).a), .int .i64 ((ele k_.ops i4_1).b), .int .i64 ((ele k_.ops i4_1).ar), .int .i64 ((ele k_.ops i4_1).sp), .int .i64 ((ele k_.ops i4_1).pl)]) (EvAll.cons rfl rfl (EvAll.cons rfl rfl (EvAll.cons rfl rfl (EvAll.cons rfl rfl (EvAll.cons rfl rfl (EvAll.cons rfl rfl (EvAll.cons rfl rfl (EvAll.cons rfl rfl (EvAll.cons rfl rfl EvAll.nil))))))))) (by kernel_rfl) (fun b24 => ?_))
      refine WD.b (H' := [kn noM w.heap.size w w, blk b24 [.int .i64 ((ele k_.ops i4_1).slot), .int .i64 ((ele k_.ops i4_1).stage), .int .i64 ((ele k_.ops i4_1).op), .int .i64 ((ele k_.ops i4_1).dest), .int .i64 ((ele k_.ops i4_1).a), .int .i64 ((ele k_.ops i4_1).b), .int .i64 ((ele k_.ops i4_1).ar), .int .i64 ((ele k_.ops i4_1).sp), .int .i64 ((ele k_.ops i4_1).pl)] 3, blk b23 [.int .i64 ((ele k_.ops i4_1).slot), .int .i64 ((ele k_.ops i4_1).stage), .int .i64 ((ele k_.ops i4_1).op), .int .i64 ((ele k_.ops i4_1).dest), .int .i64 ((ele k_.ops i4_1).a), .int .i64 ((ele k_.ops i4_1).b), .int .i64 ((ele k_.ops i4_1).ar), .int .i64 ((ele k_.ops i4_1).sp), .int .i64 ((ele k_.ops i4_1).pl), .int .i64 ((ele k_.ops i4_1).n)] 70, blk b2 [.int .i64 k_.pace, .int .i64 k_.stages, .int .i64 (ln k_.ops)] 3, blk b1 [.int .i64 k_.pace, .int .i64 k_.stages, v_k__ops] 32]) (fun w hw => hw.pick [4, 0, 1, 2, 3] (by decide)) (fun w hw => hw.pick [0, 2, 3, 4] (by decide)) ?_
      obtain ⟨x25, hx26, hm27⟩ := bd_some hm20; clear hm20
      refine WD.qL 20 13631487 14680063 rfl (by kernel_rfl) rfl rfl rfl (QV.call en40 (EvAll.cons rfl rfl EvAll.nil) (fun w hw => have h := roundelayref13_numbers_w w hx26 ((Own.blkArr 1 (rows := [(ele k_.ops i4_1).slot, (ele k_.ops i4_1).stage, (ele k_.ops i4_1).op, (ele k_.ops i4_1).dest, (ele k_.ops i4_1).a, (ele k_.ops i4_1).b, (ele k_.ops i4_1).ar, (ele k_.ops i4_1).sp, (ele k_.ops i4_1).pl].map icell) rfl rfl (rows_len icell_len)) w hw); h)) ?_
      obtain ⟨c28, hm29⟩ := ck_some hm27; clear hm27
      refine WD.qL 21 14680063 16777215 rfl (by kernel_rfl) rfl rfl rfl (QV.strAddD rfl rfl rfl rfl c28) ?_
      obtain ⟨x30, hx31, hm32⟩ := bd_some hm29; clear hm29
      refine WD.qL 24 16777215 33554431 rfl (by kernel_rfl) rfl rfl rfl (QV.call en41 (EvAll.cons rfl rfl EvAll.nil) (fun w hw => have h := roundelayref13_number_w w hx31 ; h)) ?_
      obtain ⟨c33, hm34⟩ := ck_some hm32; clear hm32
      refine WD.qL 25 33554431 67108863 rfl (by kernel_rfl) rfl rfl rfl (QV.strAddD rfl rfl rfl rfl c33) ?_
      refine WD.qL 26 67108863 134217727 rfl (by kernel_rfl) rfl rfl rfl (QV.assign rfl rfl) ?_
      refine WD.eL (by kernel_rfl) ?_
      refine WQ.block ?_
      refine WQ.then ?_
      refine WC.region ?_
      refine WL.q rfl rfl rfl (QV.move rfl rfl) ?_
      obtain ⟨c35, hm36⟩ := ck_some hm34; clear hm34
      refine WL.q rfl rfl rfl (QV.add rfl rfl rfl rfl c35) ?_
      refine WL.q rfl rfl rfl (QV.assign rfl rfl) ?_
      refine WL.nil ?_
      exact WQ.again2 ((s3_1 ++ x25) ++ x30) (i4_1 + 1) m13 (up_next hm36 hn16) (Nat.lt_succ_self _) ⟨rfl, rfl, rfl, trivial⟩ (fun w hw => hw.pick [2, 3, 4] (by decide))
    · skip
      have hm37 := br_f h17 hm15; clear hm15
      refine WC.exit ?_
      refine WQ.then_exit ?_
      refine WQ.then_exit ?_
      refine WQ.block_exit ?_
      exact WQ.out2 s3_1 i4_1 (up_brk hm37 hn16) ⟨rfl, rfl, rfl, trivial⟩ (fun w hw => hw.pick [0, 1, 2] (by decide))

set_option maxRecDepth 8000 in
theorem roundelayref13_at_w {v_b : Value} {b : List UInt8} {k_ : Int} {r : Int} (w : World) (hm : roundelayref13_at_m b k_ = some r) (h_b : Arr w v_b 1 (b.map bcell)) : Calls Try.prog 43 #[v_b, .int .i64 k_] w (fun e w' => e = .returned (.int .i64 r) ∧ Grow w w') := by
  unfold roundelayref13_at_m at hm
  have hk := Base.rfl (w := w)
  refine calls_of_WC (n := 23) (args := [v_b, .int .i64 k_]) Try.func43 rfl rfl (Nat.le_of_ble_eq_true rfl) ?_ (Own.startK hk (Own.start w))
  refine WC.seq ?_
  refine WC.region ?_
  refine WL.q rfl rfl rfl (QV.assign rfl rfl) ?_
  refine WL.nil ?_
  refine WQ.then ?_
  refine WC.seq ?_
  refine WC.region ?_
  refine WL.q rfl rfl rfl (QV.assign rfl rfl) ?_
  refine WL.nil ?_
  refine WQ.then ?_
  refine WC.seq ?_
  refine WC.seq ?_
  refine WC.region ?_
  refine WL.q rfl rfl rfl (QV.assign rfl rfl) ?_
  refine WL.nil ?_
  refine WQ.then ?_
  obtain ⟨o1, ho2, hm3⟩ := bd_some hm; clear hm; obtain ⟨n4, ho5⟩ := lp_some ho2
  refine WC.bloop2 (H2 := [kn noM w.heap.size w w]) (τ := [(0, (true, _)), (1, (true, _))]) (fun (n5_1 : Int) (i6_1 : Int) => [(5, (true, .int .i64 n5_1)), (6, (true, .int .i64 i6_1))]) (fun (n5_1 : Int) (i6_1 : Int) => []) (fun (n5_1 : Int) (i6_1 : Int) (m : Nat) => iter (roundelayref13_at_L0 b k_) m (n5_1, i6_1) = some o1) (fun (n5_1 : Int) (i6_1 : Int) => o1 = .go (n5_1, i6_1)) 0 0 n4 ho5 ⟨rfl, rfl, rfl, rfl, trivial⟩ (fun w hw => hw.pick [0] (by decide)) ?_ ?_
  · skip
    rintro n5_1 i6_1 rfl
    refine WQ.then ?_
    refine WC.seq ?_
    refine WC.region ?_
    refine WL.q rfl rfl rfl (QV.move rfl rfl) ?_
    refine WL.q rfl rfl rfl (QV.assign rfl rfl) ?_
    refine WL.nil ?_
    refine WQ.then ?_
    refine WC.ret ?_
    obtain rfl := eq_of_some hm3
    refine WQ.ret1 rfl rfl (fun w hw => ?_)
    exact ⟨rfl, Own.kgrow (fun _ x => x) hw⟩
  · skip
    rintro n5_1 i6_1 m6 hI7
    obtain ⟨m8, s9, rfl, hm10, hn11⟩ := iter_step hI7; clear hI7; unfold roundelayref13_at_L0 at hm10; simp only at hm10
    refine WC.seq ?_
    refine WC.seq ?_
    refine WC.region ?_
    refine WL.q rfl rfl rfl (QV.move rfl rfl) ?_
    refine WL.q rfl rfl rfl (QV.lss rfl rfl rfl rfl) ?_
    refine WL.nil ?_
    refine WQ.then ?_
    refine WC.cond rfl (fun h12 => ?_) (fun h12 => ?_)
    · skip
      have hm13 := br_t h12 hm10; clear hm10
      refine WC.skip ?_
      refine WQ.then ?_
      refine WC.seq ?_
      refine WC.block ?_
      refine WC.region ?_
      refine WL.q rfl rfl rfl (QV.move rfl rfl) ?_
      refine WL.q rfl rfl rfl (QV.mulW rfl rfl rfl rfl) ?_
      refine WL.q rfl rfl rfl (QV.move rfl rfl) ?_
      refine WL.q rfl rfl rfl (QV.move rfl rfl) ?_
      obtain ⟨c14, hm15⟩ := ck_some hm13; clear hm13
      refine WL.q rfl rfl rfl (QV.mul rfl rfl rfl rfl c14) ?_
      refine WL.q rfl rfl rfl (QV.move rfl rfl) ?_
      obtain ⟨c16, hm17⟩ := ck_some hm15; clear hm15
      refine WL.q rfl rfl rfl (QV.add rfl rfl rfl rfl c16) ?_
      obtain ⟨c18, hm19⟩ := ck_some hm17; clear hm17
      obtain ⟨p20, hp21⟩ := h_b.lenMap.ix (sz := 1) ln_len c18
      refine WL.q rfl rfl rfl (QV.indexSlice sl33 rfl rfl rfl rfl hp21) ?_
      refine WL.q rfl rfl rfl (QV.load pl5 rfl rfl (fun w hw => CellsAt.one 0 (((Own.karr 0 rfl hk h_b) w hw).ele hp21 c18) rfl)) ?_
      refine WL.q rfl rfl rfl (QV.eqv (wrap_byte (ele b ((8 * k_) + i6_1))) (QV.intToInt Try.underlying2 Try.underlying5 rfl rfl)) ?_
      refine WL.q rfl rfl rfl (QV.addW rfl rfl rfl rfl) ?_
      refine WL.q rfl rfl rfl (QV.assign rfl rfl) ?_
      refine WL.nil ?_
      refine WQ.block ?_
      refine WQ.then ?_
      refine WC.region ?_
      refine WL.q rfl rfl rfl (QV.move rfl rfl) ?_
      obtain ⟨c22, hm23⟩ := ck_some hm19; clear hm19
      refine WL.q rfl rfl rfl (QV.add rfl rfl rfl rfl c22) ?_
      refine WL.q rfl rfl rfl (QV.assign rfl rfl) ?_
      refine WL.nil ?_
      exact WQ.again2 (IntKind.i64.wrap ((IntKind.i64.wrap (n5_1 * 256)) + (((ele b ((8 * k_) + i6_1))).toNat : Int))) (i6_1 + 1) m8 (up_next hm23 hn11) (Nat.lt_succ_self _) ⟨rfl, rfl, rfl, rfl, trivial⟩ (fun w hw => hw.pick [0] (by decide))
    · skip
      have hm24 := br_f h12 hm10; clear hm10
      refine WC.exit ?_
      refine WQ.then_exit ?_
      refine WQ.then_exit ?_
      refine WQ.block_exit ?_
      exact WQ.out2 n5_1 i6_1 (up_brk hm24 hn11) ⟨rfl, rfl, rfl, rfl, trivial⟩ (fun w hw => hw.pick [0] (by decide))

set_option maxRecDepth 8000 in
theorem roundelayref13_Get_w {v_b : Value} {b : List UInt8} {r : Krn × Int} {K0 : World} (hm : roundelayref13_Get_m b = some r) (h_b : Arr K0 v_b 1 (b.map bcell)) (M : Nat → Prop) (w : World) (hk : Base M K0 w) (hw0 : Own M w [] w) : Calls Try.prog 21 #[v_b] w (fun e w' => ∃ X : Value × World, e = .returned (.tuple #[.agg #[.int .i64 r.1.pace, .int .i64 r.1.stages, X.1], .int .i64 r.2]) ∧ Own M w (kn M w.heap.size K0 X.2 :: []) w' ∧ Arr X.2 X.1 10 (r.1.ops.map Opr.cells)) := by
  unfold roundelayref13_Get_m at hm
  refine calls_of_WC (n := 94) (args := [v_b]) Try.func21 rfl rfl (Nat.le_of_ble_eq_true rfl) ?_ (Own.startK hk hw0)
  refine WC.seq ?_
  refine WC.region ?_
  refine WL.effect rfl ?_
  refine (EV.alloc (by decide) ze32 (fun b1 => ?_))
  refine WL.q rfl rfl rfl (QV.assign rfl rfl) ?_
  refine WL.nil ?_
  refine WQ.then ?_
  refine WC.seq ?_
  refine WC.seq ?_
  refine WC.region ?_
  refine WL.q rfl rfl rfl (QV.move rfl rfl) ?_
  refine WL.q rfl rfl rfl (QV.lenS Try.underlying33 rfl rfl h_b.lenMap) ?_
  refine WL.q rfl rfl rfl (QV.lss rfl rfl rfl rfl) ?_
  refine WL.nil ?_
  refine WQ.then ?_
  refine WC.cond rfl (fun h2 => ?_) (fun h2 => ?_)
  · skip
    have hm3 := br_t h2 hm; clear hm
    refine WC.seq ?_
    refine WC.region ?_
    refine WL.q rfl rfl rfl (QV.build (ps := []) (cells := [.int .i64 0, .int .i64 0, .slice none 0 0]) EvAll.nil (by kernel_rfl)) ?_
    refine WL.effect rfl ?_
    refine (EV.store 0 rfl rfl rfl rfl rfl rfl (vs := [.int .i64 0, .int .i64 0, .slice none 0 0]) (show Value.cells _ = List.toArray _ from rfl) sz32 (Nat.le_of_ble_eq_true rfl) (one_cons rfl (one_cons rfl (one_cons rfl one_nil))) ?_)
    refine WL.q rfl rfl rfl (QV.assign rfl rfl) ?_
    refine WL.nil ?_
    refine WQ.then ?_
    refine WC.ret ?_
    refine WQ.then_ret ?_
    obtain rfl := eq_of_some hm3
    refine WQ.retCellTmp rfl ag32 rfl rfl rfl (Own.cellsBlk 0 rfl) (fun w hw => ?_)
    exact ⟨(.slice none 0 0, K0), rfl, hw.pick [1] (by decide), Arr.nil⟩
  · skip
    have hm4 := br_f h2 hm; clear hm
    refine WC.skip ?_
    refine WQ.then ?_
    refine WC.seq ?_
    refine WC.region ?_
    refine WL.q rfl rfl rfl (QV.move rfl rfl) ?_
    obtain ⟨x5, hx6, hm7⟩ := bd_some hm4; clear hm4
    refine WL.q rfl rfl rfl (QV.call en43 (EvAll.cons rfl rfl (EvAll.cons rfl rfl EvAll.nil)) (fun w hw => have h := roundelayref13_at_w w hx6 ((Own.karr 1 rfl hk h_b) w hw); h)) ?_
    refine WL.q rfl rfl rfl (QV.assign rfl rfl) ?_
    refine WL.nil ?_
    refine WQ.then ?_
    refine WC.seq ?_
    refine WC.seq ?_
    refine WC.region ?_
    refine WL.q rfl rfl rfl (QV.move rfl rfl) ?_
    refine WL.q rfl rfl rfl (QV.lss rfl rfl rfl rfl) ?_
    refine WL.q rfl rfl rfl (QV.move rfl rfl) ?_
    refine WL.g rfl rfl (GuardIs.neg rfl rfl) (fun hG => QV.move rfl rfl) ?_
    refine WL.g rfl rfl (GuardIs.neg rfl rfl) (fun hG => QV.gtr rfl hG rfl rfl) ?_
    refine WL.q rfl rfl rfl (QV.pickOr rfl rfl rfl (fun h => notF h)) ?_
    refine WL.q rfl rfl rfl (QV.move rfl rfl) ?_
    refine WL.g rfl rfl (GuardIs.neg rfl rfl) (fun hG => QV.move rfl rfl) ?_
    refine WL.g rfl rfl (GuardIs.neg rfl rfl) (fun hG => QV.lenS Try.underlying33 rfl hG h_b.lenMap) ?_
    refine WL.g rfl rfl (GuardIs.neg rfl rfl) (fun hG => QV.move rfl rfl) ?_
    obtain ⟨c8, hm9⟩ := ck_some hm7; clear hm7
    refine WL.g rfl rfl (GuardIs.neg rfl rfl) (fun hG => QV.mul rfl rfl rfl hG (c8 hG)) ?_
    obtain ⟨c10, hm11⟩ := ck_some hm9; clear hm9
    refine WL.g rfl rfl (GuardIs.neg rfl rfl) (fun hG => QV.add rfl rfl rfl hG (c10 hG)) ?_
    refine WL.g rfl rfl (GuardIs.neg rfl rfl) (fun hG => QV.neq rfl hG rfl hG) ?_
    refine WL.q rfl rfl rfl (QV.pickOr rfl rfl rfl (fun h => notF h)) ?_
    refine WL.nil ?_
    refine WQ.then ?_
    refine WC.cond rfl (fun h12 => ?_) (fun h12 => ?_)
    · skip
      have hm13 := br_t h12 hm11; clear hm11
      refine WC.seq ?_
      refine WC.region ?_
      refine WL.q rfl rfl rfl (QV.build (ps := []) (cells := [.int .i64 0, .int .i64 0, .slice none 0 0]) EvAll.nil (by kernel_rfl)) ?_
      refine WL.effect rfl ?_
      refine (EV.store 0 rfl rfl rfl rfl rfl rfl (vs := [.int .i64 0, .int .i64 0, .slice none 0 0]) (show Value.cells _ = List.toArray _ from rfl) sz32 (Nat.le_of_ble_eq_true rfl) (one_cons rfl (one_cons rfl (one_cons rfl one_nil))) ?_)
      refine WL.q rfl rfl rfl (QV.assign rfl rfl) ?_
      refine WL.nil ?_
      refine WQ.then ?_
      refine WC.ret ?_
      refine WQ.then_ret ?_
      obtain rfl := eq_of_some hm13
      refine WQ.retCellTmp rfl ag32 rfl rfl rfl (Own.cellsBlk 0 rfl) (fun w hw => ?_)
      exact ⟨(.slice none 0 0, K0), rfl, hw.pick [1] (by decide), Arr.nil⟩
    · skip
      have hm14 := br_f h12 hm11; clear hm11
      refine WC.skip ?_
      refine WQ.then ?_
      refine WC.seq ?_
      refine WC.region ?_
      refine WL.q rfl rfl rfl (QV.move rfl rfl) ?_
      obtain ⟨x15, hx16, hm17⟩ := bd_some hm14; clear hm14
      refine WL.q rfl rfl rfl (QV.call en43 (EvAll.cons rfl rfl (EvAll.cons rfl rfl EvAll.nil)) (fun w hw => have h := roundelayref13_at_w w hx16 ((Own.karr 1 rfl hk h_b) w hw); h)) ?_
      refine WL.q rfl rfl rfl (QV.move rfl rfl) ?_
      obtain ⟨x18, hx19, hm20⟩ := bd_some hm17; clear hm17
      refine WL.q rfl rfl rfl (QV.call en43 (EvAll.cons rfl rfl (EvAll.cons rfl rfl EvAll.nil)) (fun w hw => have h := roundelayref13_at_w w hx19 ((Own.karr 1 rfl hk h_b) w hw); h)) ?_
      refine WL.q rfl rfl rfl (QV.build (ps := [(0, .tmp 31), (1, .tmp 33)]) (cells := [.int .i64 x15, .int .i64 x18, .slice none 0 0]) (EvAll.cons rfl rfl (EvAll.cons rfl rfl EvAll.nil)) (by kernel_rfl)) ?_
      refine WL.effect rfl ?_
      refine (EV.alloc (by decide) ze32 (fun b21 => ?_))
      refine WL.effect rfl ?_
      refine (EV.store 0 rfl rfl rfl rfl rfl rfl (vs := [.int .i64 x15, .int .i64 x18, .slice none 0 0]) (show Value.cells _ = List.toArray _ from rfl) sz32 (Nat.le_of_ble_eq_true rfl) (one_cons rfl (one_cons rfl (one_cons rfl one_nil))) ?_)
      refine WL.nil ?_
      refine WQ.then ?_
      refine WC.seq ?_
      refine WC.seq ?_
      refine WC.region ?_
      refine WL.q rfl rfl rfl (QV.assign rfl rfl) ?_
      refine WL.nil ?_
      refine WQ.then ?_
      refine WK.of (fun w hw => hw.vecNil (E := 70) (sz := 10) (enc := Opr.cells)) ?_
      obtain ⟨o23, ho24, hm25⟩ := bd_some hm20; clear hm20; obtain ⟨n26, ho27⟩ := lp_some ho24
      refine WC.bloop3 (H2 := [blk b1 [.int .i64 0, .int .i64 0, .slice none 0 0] 32, kn M w.heap.size K0 K0]) (τ := [(0, (true, _)), (2, (true, _)), (4, (true, _)), (5, (true, _))]) (fun (v22_1 : List Opr) (i6_1 : Int) (uv22_1 : Value) => [(6, (true, .int .i64 i6_1))]) (fun (v22_1 : List Opr) (i6_1 : Int) (uv22_1 : Value) => [vec uv22_1 70 10 (List.map Opr.cells v22_1), blk b21 [.int .i64 x15, .int .i64 x18, uv22_1] 32]) (fun (v22_1 : List Opr) (i6_1 : Int) (uv22_1 : Value) (m : Nat) => iter (roundelayref13_Get_L0 b x5) m (v22_1, i6_1) = some o23 ∧ SliceLen uv22_1 v22_1.length) (fun (v22_1 : List Opr) (i6_1 : Int) (uv22_1 : Value) => o23 = .go (v22_1, i6_1) ∧ SliceLen uv22_1 v22_1.length) [] 0 (.slice none 0 0) n26 ⟨ho27, SliceLen.nil⟩ ⟨rfl, rfl, rfl, rfl, rfl, trivial⟩ (fun w hw => hw.pick [0, 1, 2, 3] (by decide)) ?_ ?_
      · skip
        rintro v22_1 i6_1 uv22_1 ⟨rfl, hlv22_1⟩
        refine WQ.then ?_
        refine WC.seq ?_
        refine WC.region ?_
        refine WL.q rfl rfl rfl (QV.loadAgg ag32 rfl rfl rfl (Own.cellsBlk 1 rfl)) ?_
        refine WL.effect rfl ?_
        refine (EV.store 2 rfl rfl rfl rfl rfl rfl (vs := [.int .i64 x15, .int .i64 x18, uv22_1]) (show Value.cells _ = List.toArray _ from rfl) sz32 (Nat.le_of_ble_eq_true rfl) (one_cons rfl (one_cons rfl (one_cons (SliceLen.one hlv22_1) one_nil))) ?_)
        refine WL.q rfl rfl rfl (QV.assign rfl rfl) ?_
        refine WL.nil ?_
        refine WQ.then ?_
        refine WC.ret ?_
        obtain rfl := eq_of_some hm25
        refine WK.of (C' := Own M w [kn M w.heap.size K0 K0, vec uv22_1 70 10 (List.map Opr.cells v22_1), blk b21 [.int .i64 x15, .int .i64 x18, uv22_1] 32, blk b1 [.int .i64 x15, .int .i64 x18, uv22_1] 32]) (fun w hw => hw.pick [3, 0, 1, 2] (by decide)) ?_
        refine WK.freeze hk (fun k28 hle28 hr28 => ?_)
        have hA28 := vec_arr hr28
        refine WQ.retCellTmp rfl ag32 rfl rfl rfl (Own.cellsBlk 2 rfl) (fun w hw => ?_)
        exact ⟨(uv22_1, k28), rfl, hw.pick [0] (by decide), hA28⟩
      · skip
        rintro v22_1 i6_1 uv22_1 m29 ⟨hI30, hlv22_1⟩
        obtain ⟨m31, s32, rfl, hm33, hn34⟩ := iter_step hI30; clear hI30; unfold roundelayref13_Get_L0 at hm33; simp only at hm33
        refine WC.seq ?_
        refine WC.seq ?_
        refine WC.region ?_
        refine WL.q rfl rfl rfl (QV.move rfl rfl) ?_
        refine WL.q rfl rfl rfl (QV.move rfl rfl) ?_
        refine WL.q rfl rfl rfl (QV.lss rfl rfl rfl rfl) ?_
        refine WL.nil ?_
        refine WQ.then ?_
        refine WC.cond rfl (fun h35 => ?_) (fun h35 => ?_)
        · skip
          have hm36 := br_t h35 hm33; clear hm33
          refine WC.skip ?_
          refine WQ.then ?_
          refine WC.seq ?_
          refine WC.block ?_
          refine WC.seq ?_
          refine WC.region ?_
          refine WL.q rfl rfl rfl (QV.move rfl rfl) ?_
          obtain ⟨c37, hm38⟩ := ck_some hm36; clear hm36
          refine WL.q rfl rfl rfl (QV.mul rfl rfl rfl rfl c37) ?_
          obtain ⟨c39, hm40⟩ := ck_some hm38; clear hm38
          refine WL.q rfl rfl rfl (QV.add rfl rfl rfl rfl c39) ?_
          refine WL.q rfl rfl rfl (QV.assign rfl rfl) ?_
          refine WL.nil ?_
          refine WQ.then ?_
          refine WC.seq ?_
          refine WC.region ?_
          refine WL.q rfl rfl rfl (QV.move rfl rfl) ?_
          refine WL.q rfl rfl rfl (QV.move rfl rfl) ?_
          obtain ⟨x41, hx42, hm43⟩ := bd_some hm40; clear hm40
          refine WL.q rfl rfl rfl (QV.call en43 (EvAll.cons rfl rfl (EvAll.cons rfl rfl EvAll.nil)) (fun w hw => have h := roundelayref13_at_w w hx42 ((Own.karr 3 rfl hk h_b) w hw); h)) ?_
          refine WL.q rfl rfl rfl (QV.move rfl rfl) ?_
          refine WL.q rfl rfl rfl (QV.move rfl rfl) ?_
          obtain ⟨c44, hm45⟩ := ck_some hm43; clear hm43
          refine WL.q rfl rfl rfl (QV.add rfl rfl rfl rfl c44) ?_
          obtain ⟨x46, hx47, hm48⟩ := bd_some hm45; clear hm45
          refine WL.q rfl rfl rfl (QV.call en43 (EvAll.cons rfl rfl (EvAll.cons rfl rfl EvAll.nil)) (fun w hw => have h := roundelayref13_at_w w hx47 ((Own.karr 3 rfl hk h_b) w hw); h)) ?_
          refine WL.q rfl rfl rfl (QV.move rfl rfl) ?_
          refine WL.q rfl rfl rfl (QV.move rfl rfl) ?_
          obtain ⟨c49, hm50⟩ := ck_some hm48; clear hm48
          refine WL.q rfl rfl rfl (QV.add rfl rfl rfl rfl c49) ?_
          obtain ⟨x51, hx52, hm53⟩ := bd_some hm50; clear hm50
          refine WL.q rfl rfl rfl (QV.call en43 (EvAll.cons rfl rfl (EvAll.cons rfl rfl EvAll.nil)) (fun w hw => have h := roundelayref13_at_w w hx52 ((Own.karr 3 rfl hk h_b) w hw); h)) ?_
          refine WL.q rfl rfl rfl (QV.move rfl rfl) ?_
          refine WL.q rfl rfl rfl (QV.move rfl rfl) ?_
          obtain ⟨c54, hm55⟩ := ck_some hm53; clear hm53
          refine WL.q rfl rfl rfl (QV.add rfl rfl rfl rfl c54) ?_
          obtain ⟨x56, hx57, hm58⟩ := bd_some hm55; clear hm55
          refine WL.q rfl rfl rfl (QV.call en43 (EvAll.cons rfl rfl (EvAll.cons rfl rfl EvAll.nil)) (fun w hw => have h := roundelayref13_at_w w hx57 ((Own.karr 3 rfl hk h_b) w hw); h)) ?_
          refine WL.q rfl rfl rfl (QV.move rfl rfl) ?_
          refine WL.q rfl rfl rfl (QV.move rfl rfl) ?_
          obtain ⟨c59, hm60⟩ := ck_some hm58; clear hm58
          refine WL.q rfl rfl rfl (QV.add rfl rfl rfl rfl c59) ?_
          obtain ⟨x61, hx62, hm63⟩ := bd_some hm60; clear hm60
          refine WL.q rfl rfl rfl (QV.call en43 (EvAll.cons rfl rfl (EvAll.cons rfl rfl EvAll.nil)) (fun w hw => have h := roundelayref13_at_w w hx62 ((Own.karr 3 rfl hk h_b) w hw); h)) ?_
          refine WL.q rfl rfl rfl (QV.move rfl rfl) ?_
          refine WL.q rfl rfl rfl (QV.move rfl rfl) ?_
          obtain ⟨c64, hm65⟩ := ck_some hm63; clear hm63
          refine WL.q rfl rfl rfl (QV.add rfl rfl rfl rfl c64) ?_
          obtain ⟨x66, hx67, hm68⟩ := bd_some hm65; clear hm65
          refine WL.q rfl rfl rfl (QV.call en43 (EvAll.cons rfl rfl (EvAll.cons rfl rfl EvAll.nil)) (fun w hw => have h := roundelayref13_at_w w hx67 ((Own.karr 3 rfl hk h_b) w hw); h)) ?_
          refine WL.q rfl rfl rfl (QV.build (ps := [(0, .tmp 45), (1, .tmp 49), (2, .tmp 53), (3, .tmp 57), (4, .tmp 61), (5, .tmp 65)]) (cells := [.int .i64 x41, .int .i64 x46, .int .i64 x51, .int .i64 x56, .int .i64 x61, .int .i64 x66, .int .i64 0, .int .i64 0, .int .i64 0, .int .i64 0]) (EvAll.cons rfl rfl (EvAll.cons rfl rfl (EvAll.cons rfl rfl (EvAll.cons rfl rfl (EvAll.cons rfl rfl (EvAll.cons rfl rfl EvAll.nil)))))) (by kernel_rfl)) ?_
          refine WL.effect rfl ?_
          refine (EV.alloc (by decide) ze70 (fun b69 => ?_))
          refine WL.effect rfl ?_
          refine (EV.store 0 rfl rfl rfl rfl rfl rfl (vs := [.int .i64 x41, .int .i64 x46, .int .i64 x51, .int .i64 x56, .int .i64 x61, .int .i64 x66, .int .i64 0, .int .i64 0, .int .i64 0, .int .i64 0]) (show Value.cells _ = List.toArray _ from rfl) sz70 (Nat.le_of_ble_eq_true rfl) (one_cons rfl (one_cons rfl (one_cons rfl (one_cons rfl (one_cons rfl (one_cons rfl (one_cons rfl (one_cons rfl (one_cons rfl (one_cons rfl one_nil)))))))))) ?_)
          refine WL.nil ?_
          refine WQ.then ?_
          refine WC.seq ?_
          refine WC.region ?_
          refine WL.q rfl rfl rfl (QV.move rfl rfl) ?_
          refine WL.q rfl rfl rfl (QV.move rfl rfl) ?_
          obtain ⟨c70, hm71⟩ := ck_some hm68; clear hm68
          refine WL.q rfl rfl rfl (QV.add rfl rfl rfl rfl c70) ?_
          obtain ⟨x72, hx73, hm74⟩ := bd_some hm71; clear hm71
          refine WL.q rfl rfl rfl (QV.call en43 (EvAll.cons rfl rfl (EvAll.cons rfl rfl EvAll.nil)) (fun w hw => have h := roundelayref13_at_w w hx73 ((Own.karr 4 rfl hk h_b) w hw); h)) ?_
          refine WL.q rfl rfl rfl (QV.fieldAddr fd70_6 rfl rfl) ?_
          refine WL.effect rfl ?_
          refine (EV.store 0 rfl rfl rfl rfl rfl rfl (vs := [.int .i64 x72]) (show Value.cells _ = List.toArray _ from rfl) sz3 (Nat.le_of_ble_eq_true rfl) (one_cons rfl one_nil) ?_)
          refine WL.nil ?_
          refine WQ.then ?_
          refine WC.seq ?_
          refine WC.region ?_
          refine WL.q rfl rfl rfl (QV.move rfl rfl) ?_
          refine WL.q rfl rfl rfl (QV.move rfl rfl) ?_
          obtain ⟨c75, hm76⟩ := ck_some hm74; clear hm74
          refine WL.q rfl rfl rfl (QV.add rfl rfl rfl rfl c75) ?_
          obtain ⟨x77, hx78, hm79⟩ := bd_some hm76; clear hm76
          refine WL.q rfl rfl rfl (QV.call en43 (EvAll.cons rfl rfl (EvAll.cons rfl rfl EvAll.nil)) (fun w hw => have h := roundelayref13_at_w w hx78 ((Own.karr 4 rfl hk h_b) w hw); h)) ?_
          refine WL.q rfl rfl rfl (QV.fieldAddr fd70_7 rfl rfl) ?_
          refine WL.effect rfl ?_
          refine (EV.store 0 rfl rfl rfl rfl rfl rfl (vs := [.int .i64 x77]) (show Value.cells _ = List.toArray _ from rfl) sz3 (Nat.le_of_ble_eq_true rfl) (one_cons rfl one_nil) ?_)
          refine WL.nil ?_
          refine WQ.then ?_
          refine WC.seq ?_
          refine WC.region ?_
          refine WL.q rfl rfl rfl (QV.move rfl rfl) ?_
          refine WL.q rfl rfl rfl (QV.move rfl rfl) ?_
          obtain ⟨c80, hm81⟩ := ck_some hm79; clear hm79
          refine WL.q rfl rfl rfl (QV.add rfl rfl rfl rfl c80) ?_
          obtain ⟨x82, hx83, hm84⟩ := bd_some hm81; clear hm81
          refine WL.q rfl rfl rfl (QV.call en43 (EvAll.cons rfl rfl (EvAll.cons rfl rfl EvAll.nil)) (fun w hw => have h := roundelayref13_at_w w hx83 ((Own.karr 4 rfl hk h_b) w hw); h)) ?_
          refine WL.q rfl rfl rfl (QV.fieldAddr fd70_8 rfl rfl) ?_
          refine WL.effect rfl ?_
          refine (EV.store 0 rfl rfl rfl rfl rfl rfl (vs := [.int .i64 x82]) (show Value.cells _ = List.toArray _ from rfl) sz3 (Nat.le_of_ble_eq_true rfl) (one_cons rfl one_nil) ?_)
          refine WL.nil ?_
          refine WQ.then ?_
          refine WC.seq ?_
          refine WC.region ?_
          refine WL.q rfl rfl rfl (QV.move rfl rfl) ?_
          refine WL.q rfl rfl rfl (QV.move rfl rfl) ?_
          obtain ⟨c85, hm86⟩ := ck_some hm84; clear hm84
          refine WL.q rfl rfl rfl (QV.add rfl rfl rfl rfl c85) ?_
          obtain ⟨x87, hx88, hm89⟩ := bd_some hm86; clear hm86
          refine WL.q rfl rfl rfl (QV.call en43 (EvAll.cons rfl rfl (EvAll.cons rfl rfl EvAll.nil)) (fun w hw => have h := roundelayref13_at_w w hx88 ((Own.karr 4 rfl hk h_b) w hw); h)) ?_
          refine WL.q rfl rfl rfl (QV.fieldAddr fd70_9 rfl rfl) ?_
          refine WL.effect rfl ?_
          refine (EV.store 0 rfl rfl rfl rfl rfl rfl (vs := [.int .i64 x87]) (show Value.cells _ = List.toArray _ from rfl) sz2 (Nat.le_of_ble_eq_true rfl) (one_cons rfl one_nil) ?_)
          refine WL.nil ?_
          refine WQ.then ?_
          refine WC.region ?_
          refine WL.q rfl rfl rfl (QV.fieldAddr fd32_2 rfl rfl) ?_
          refine WL.q rfl rfl rfl (QV.load pl30 rfl rfl (Own.cell 2 rfl rfl)) ?_
          refine WL.q rfl rfl rfl (QV.loadAgg ag70 rfl rfl rfl (Own.cellsBlk 0 rfl)) ?_
          refine WL.effect rfl ?_
          refine (EV.buildSlice (by decide) sz_30 (by decide) (by decide) (ps := [(0, .tmp 89)]) (cells := [.int .i64 x41, .int .i64 x46, .int .i64 x51, .int .i64 x56, .int .i64 x61, .int .i64 x66, .int .i64 x72, .int .i64 x77, .int .i64 x82, .int .i64 x87]) (EvAll.cons rfl rfl EvAll.nil) (by kernel_rfl) (fun b90 => ?_))
          refine WL.effect rfl ?_
          obtain ⟨c91, hm92⟩ := ck_some hm89; clear hm89
          refine (EV.appendL (enc := Opr.cells) (xs := v22_1) (ys := [(Opr.mk x41 x46 x51 x56 x61 x66 x72 x77 x82 x87)]) ((v22_1 ++ [(Opr.mk x41 x46 x51 x56 x61 x66 x72 x77 x82 x87)])) 2 (by decide) ve30 rfl rfl rfl rfl rfl (Own.blkArr 0 (rows := [(Opr.mk x41 x46 x51 x56 x61 x66 x72 x77 x82 x87)].map Opr.cells) rfl rfl (rows_len Opr.cells_len)) Opr.cells_len (Opr.cells_one _) rfl c91.1 c91.2 (fun u93 hu94 => ?_))
          refine WL.q rfl rfl rfl (QV.fieldAddr fd32_2 rfl rfl) ?_
          refine WL.effect rfl ?_
          refine (EV.store 3 rfl rfl rfl rfl rfl rfl (vs := [u93]) (SliceLen.cells hu94) sz30 (Nat.le_of_ble_eq_true rfl) (one_cons (SliceLen.one hu94) one_nil) ?_)
          refine WL.nil ?_
          refine WQ.block ?_
          refine WQ.then ?_
          refine WC.region ?_
          refine WL.q rfl rfl rfl (QV.move rfl rfl) ?_
          obtain ⟨c95, hm96⟩ := ck_some hm92; clear hm92
          refine WL.q rfl rfl rfl (QV.add rfl rfl rfl rfl c95) ?_
          refine WL.q rfl rfl rfl (QV.assign rfl rfl) ?_
          refine WL.nil ?_
          exact WQ.again3 (v22_1 ++ [(Opr.mk x41 x46 x51 x56 x61 x66 x72 x77 x82 x87)]) (i6_1 + 1) u93 m31 ⟨up_next hm96 hn34, hu94⟩ (Nat.lt_succ_self _) ⟨rfl, rfl, rfl, rfl, rfl, trivial⟩ (fun w hw => hw.pick [2, 3, 4, 5] (by decide))
        · skip
          have hm97 := br_f h35 hm33; clear hm33
          refine WC.exit ?_
          refine WQ.then_exit ?_
          refine WQ.then_exit ?_
          refine WQ.block_exit ?_
          exact WQ.out3 v22_1 i6_1 uv22_1 ⟨up_brk hm97 hn34, hlv22_1⟩ ⟨rfl, rfl, rfl, rfl, rfl, trivial⟩ (fun w hw => hw.pick [0, 1, 2, 3] (by decide))

set_option maxRecDepth 8000 in
theorem roundelayref13_Same_w {v_a_ops : Value} {v_b_ops : Value} {a : Krn} {b : Krn} {r : Bool} (w : World) (hm : roundelayref13_Same_m a b = some r) (h_a_ops : Arr w v_a_ops 10 (a.ops.map Opr.cells)) (h_b_ops : Arr w v_b_ops 10 (b.ops.map Opr.cells)) : Calls Try.prog 22 #[.agg #[.int .i64 a.pace, .int .i64 a.stages, v_a_ops], .agg #[.int .i64 b.pace, .int .i64 b.stages, v_b_ops]] w (fun e w' => e = .returned (.bool r) ∧ Grow w w') := by
  unfold roundelayref13_Same_m at hm
  have hk := Base.rfl (w := w)
  refine calls_of_WC (n := 45) (args := [.agg #[.int .i64 a.pace, .int .i64 a.stages, v_a_ops], .agg #[.int .i64 b.pace, .int .i64 b.stages, v_b_ops]]) Try.func22 rfl rfl (Nat.le_of_ble_eq_true rfl) ?_ (Own.startK hk (Own.start w))
  refine WC.seq ?_
  refine WC.region ?_
  refine WL.effect rfl ?_
  refine (EV.boxAgg (by decide) rfl rfl (fun b1 => ?_))
  refine WL.effect rfl ?_
  refine (EV.boxAgg (by decide) rfl rfl (fun b2 => ?_))
  refine WL.q rfl rfl rfl (QV.assign rfl rfl) ?_
  refine WL.nil ?_
  refine WQ.then ?_
  refine WC.seq ?_
  refine WC.seq ?_
  refine WC.region ?_
  refine WL.q rfl rfl rfl (QV.fieldAddr fd32_0 rfl rfl) ?_
  refine WL.q rfl rfl rfl (QV.load pl3 rfl rfl (Own.cell 1 rfl rfl)) ?_
  refine WL.q rfl rfl rfl (QV.fieldAddr fd32_0 rfl rfl) ?_
  refine WL.q rfl rfl rfl (QV.load pl3 rfl rfl (Own.cell 0 rfl rfl)) ?_
  refine WL.q rfl rfl rfl (QV.neq rfl rfl rfl rfl) ?_
  refine WL.q rfl rfl rfl (QV.move rfl rfl) ?_
  refine WL.g rfl rfl (GuardIs.neg rfl rfl) (fun hG => QV.fieldAddr fd32_1 rfl rfl) ?_
  refine WL.g rfl rfl (GuardIs.neg rfl rfl) (fun hG => QV.load pl3 rfl hG (Own.cell 1 rfl rfl)) ?_
  refine WL.g rfl rfl (GuardIs.neg rfl rfl) (fun hG => QV.fieldAddr fd32_1 rfl rfl) ?_
  refine WL.g rfl rfl (GuardIs.neg rfl rfl) (fun hG => QV.load pl3 rfl hG (Own.cell 0 rfl rfl)) ?_
  refine WL.g rfl rfl (GuardIs.neg rfl rfl) (fun hG => QV.neq rfl hG rfl hG) ?_
  refine WL.q rfl rfl rfl (QV.pickOr rfl rfl rfl (fun h => notF h)) ?_
  refine WL.q rfl rfl rfl (QV.move rfl rfl) ?_
  refine WL.g rfl rfl (GuardIs.neg rfl rfl) (fun hG => QV.fieldAddr fd32_2 rfl rfl) ?_
  refine WL.g rfl rfl (GuardIs.neg rfl rfl) (fun hG => QV.load pl30 rfl hG (Own.cell 1 rfl rfl)) ?_
  refine WL.g rfl rfl (GuardIs.neg rfl rfl) (fun hG => QV.lenS Try.underlying30 rfl hG h_a_ops.lenMap) ?_
  refine WL.g rfl rfl (GuardIs.neg rfl rfl) (fun hG => QV.fieldAddr fd32_2 rfl rfl) ?_
  refine WL.g rfl rfl (GuardIs.neg rfl rfl) (fun hG => QV.load pl30 rfl hG (Own.cell 0 rfl rfl)) ?_
  refine WL.g rfl rfl (GuardIs.neg rfl rfl) (fun hG => QV.lenS Try.underlying30 rfl hG h_b_ops.lenMap) ?_
  refine WL.g rfl rfl (GuardIs.neg rfl rfl) (fun hG => QV.neq rfl hG rfl hG) ?_
  refine WL.q rfl rfl rfl (QV.pickOr rfl rfl rfl (fun h => notF h)) ?_
  refine WL.nil ?_
  refine WQ.then ?_
  refine WC.cond rfl (fun h3 => ?_) (fun h3 => ?_)
  · skip
    have hm4 := br_t h3 hm; clear hm
    refine WC.seq ?_
    refine WC.region ?_
    refine WL.q rfl rfl rfl (QV.assign rfl rfl) ?_
    refine WL.nil ?_
    refine WQ.then ?_
    refine WC.ret ?_
    refine WQ.then_ret ?_
    obtain rfl := eq_of_some hm4
    refine WQ.ret1 rfl rfl (fun w hw => ?_)
    exact ⟨rfl, Own.kgrow (fun _ x => x) hw⟩
  · skip
    have hm5 := br_f h3 hm; clear hm
    refine WC.skip ?_
    refine WQ.then ?_
    refine WC.seq ?_
    refine WC.seq ?_
    refine WC.region ?_
    refine WL.q rfl rfl rfl (QV.assign rfl rfl) ?_
    refine WL.nil ?_
    refine WQ.then ?_
    obtain ⟨o6, ho7, hm8⟩ := bd_some hm5; clear hm5; obtain ⟨n9, ho10⟩ := lp_some ho7
    refine WC.bloop1 (H2 := [blk b2 [.int .i64 b.pace, .int .i64 b.stages, v_b_ops] 32, blk b1 [.int .i64 a.pace, .int .i64 a.stages, v_a_ops] 32, kn noM w.heap.size w w]) (τ := [(2, (true, _)), (3, (true, _))]) (fun (i5_1 : Int) => [(5, (true, .int .i64 i5_1))]) (fun (i5_1 : Int) => []) (fun (i5_1 : Int) (m : Nat) => iter (roundelayref13_Same_L0 a b) m i5_1 = some o6) (fun (i5_1 : Int) => o6 = .go i5_1) 0 n9 ho10 ⟨rfl, rfl, rfl, trivial⟩ (fun w hw => hw.pick [0, 1, 2] (by decide)) ?_ ?_
    · skip
      rintro i5_1 rfl
      refine WQ.then ?_
      refine WC.seq ?_
      refine WC.region ?_
      refine WL.q rfl rfl rfl (QV.assign rfl rfl) ?_
      refine WL.nil ?_
      refine WQ.then ?_
      refine WC.ret ?_
      obtain rfl := eq_of_some hm8
      refine WQ.ret1 rfl rfl (fun w hw => ?_)
      exact ⟨rfl, Own.kgrow (fun _ x => x) hw⟩
    · skip
      rintro i5_1 m11 hI12
      obtain ⟨m13, s14, rfl, hm15, hn16⟩ := iter_step hI12; clear hI12; unfold roundelayref13_Same_L0 at hm15
      refine WC.seq ?_
      refine WC.seq ?_
      refine WC.region ?_
      refine WL.q rfl rfl rfl (QV.move rfl rfl) ?_
      refine WL.q rfl rfl rfl (QV.fieldAddr fd32_2 rfl rfl) ?_
      refine WL.q rfl rfl rfl (QV.load pl30 rfl rfl (Own.cell 1 rfl rfl)) ?_
      refine WL.q rfl rfl rfl (QV.lenS Try.underlying30 rfl rfl h_a_ops.lenMap) ?_
      refine WL.q rfl rfl rfl (QV.lss rfl rfl rfl rfl) ?_
      refine WL.nil ?_
      refine WQ.then ?_
      refine WC.cond rfl (fun h17 => ?_) (fun h17 => ?_)
      · skip
        have hm18 := br_t h17 hm15; clear hm15
        refine WC.skip ?_
        refine WQ.then ?_
        refine WC.seq ?_
        refine WC.block ?_
        refine WC.seq ?_
        refine WC.dr (m := 11) (S := Own noM w [kn noM w.heap.size w w, blk b2 [.int .i64 b.pace, .int .i64 b.stages, v_b_ops] 32, blk b1 [.int .i64 a.pace, .int .i64 a.stages, v_a_ops] 32]) (by kernel_rfl) (by kernel_rfl) (fun w hw => hw.pick [2, 0, 1] (by decide)) ?_
        refine WD.q 0 rfl (by kernel_rfl) rfl rfl rfl (QV.fieldAddr fd32_2 rfl rfl) ?_
        refine WD.q 1 rfl (by kernel_rfl) rfl rfl rfl (QV.load pl30 rfl rfl (Own.cell 2 rfl rfl)) ?_
        refine WD.q 2 rfl (by kernel_rfl) rfl rfl rfl (QV.move rfl rfl) ?_
        obtain ⟨c19, hm20⟩ := ck_some hm18; clear hm18
        obtain ⟨p21, hp22⟩ := h_a_ops.lenMap.ix (sz := 10) ln_len c19
        refine WD.q 3 rfl (by kernel_rfl) rfl rfl rfl (QV.indexSlice sl30 rfl rfl rfl rfl hp22) ?_
        refine WD.q 4 rfl (by kernel_rfl) rfl rfl rfl (QV.loadAgg ag70 rfl rfl rfl (fun w hw => ((Own.karr 0 rfl hk h_a_ops) w hw).ele hp22 c19)) ?_
        refine WD.q 5 rfl (by kernel_rfl) rfl rfl rfl (QV.fieldAddr fd32_2 rfl rfl) ?_
        refine WD.q 6 rfl (by kernel_rfl) rfl rfl rfl (QV.load pl30 rfl rfl (Own.cell 1 rfl rfl)) ?_
        refine WD.q 7 rfl (by kernel_rfl) rfl rfl rfl (QV.move rfl rfl) ?_
        obtain ⟨c23, hm24⟩ := ck_some hm20; clear hm20
        obtain ⟨p25, hp26⟩ := h_b_ops.lenMap.ix (sz := 10) ln_len c23
        refine WD.q 8 rfl (by kernel_rfl) rfl rfl rfl (QV.indexSlice sl30 rfl rfl rfl rfl hp26) ?_
        refine WD.q 9 rfl (by kernel_rfl) rfl rfl rfl (QV.loadAgg ag70 rfl rfl rfl (fun w hw => ((Own.karr 0 rfl hk h_b_ops) w hw).ele hp26 c23)) ?_
        refine WD.q 10 rfl (by kernel_rfl) rfl rfl rfl (QV.neqF eq70 (ns := [(ele a.ops i5_1).slot, (ele a.ops i5_1).stage, (ele a.ops i5_1).op, (ele a.ops i5_1).dest, (ele a.ops i5_1).a, (ele a.ops i5_1).b, (ele a.ops i5_1).ar, (ele a.ops i5_1).sp, (ele a.ops i5_1).pl, (ele a.ops i5_1).n]) (ms := [(ele b.ops i5_1).slot, (ele b.ops i5_1).stage, (ele b.ops i5_1).op, (ele b.ops i5_1).dest, (ele b.ops i5_1).a, (ele b.ops i5_1).b, (ele b.ops i5_1).ar, (ele b.ops i5_1).sp, (ele b.ops i5_1).pl, (ele b.ops i5_1).n]) rfl rfl rfl rfl rfl rfl) ?_
        refine WD.e (by kernel_rfl) ?_
        refine WQ.then ?_
        refine WC.cond rfl (fun h27 => ?_) (fun h27 => ?_)
        · skip
          have hm28 := br_t h27 hm24; clear hm24
          refine WC.seq ?_
          refine WC.region ?_
          refine WL.q rfl rfl rfl (QV.assign rfl rfl) ?_
          refine WL.nil ?_
          refine WQ.then ?_
          refine WC.ret ?_
          refine WQ.block_ret ?_
          refine WQ.then_ret ?_
          refine WQ.then_ret ?_
          refine WQ.block_ret ?_
          refine WQ.then_ret ?_
          refine WQ.then_ret ?_
          obtain rfl := up_ret hm28 hn16
          obtain rfl := eq_of_some hm8
          refine WQ.ret1 rfl rfl (fun w hw => ?_)
          exact ⟨rfl, Own.kgrow (fun _ x => x) hw⟩
        · skip
          have hm29 := br_f h27 hm24; clear hm24
          refine WC.skip ?_
          refine WQ.block ?_
          refine WQ.then ?_
          refine WC.region ?_
          refine WL.q rfl rfl rfl (QV.move rfl rfl) ?_
          obtain ⟨c30, hm31⟩ := ck_some hm29; clear hm29
          refine WL.q rfl rfl rfl (QV.add rfl rfl rfl rfl c30) ?_
          refine WL.q rfl rfl rfl (QV.assign rfl rfl) ?_
          refine WL.nil ?_
          exact WQ.again1 (i5_1 + 1) m13 (up_next hm31 hn16) (Nat.lt_succ_self _) ⟨rfl, rfl, rfl, trivial⟩ (fun w hw => hw.pick [0, 1, 2] (by decide))
      · skip
        have hm32 := br_f h17 hm15; clear hm15
        refine WC.exit ?_
        refine WQ.then_exit ?_
        refine WQ.then_exit ?_
        refine WQ.block_exit ?_
        exact WQ.out1 i5_1 (up_brk hm32 hn16) ⟨rfl, rfl, rfl, trivial⟩ (fun w hw => hw.pick [0, 1, 2] (by decide))
end Go.Proofs.Ytaimbkndebaaiaa
