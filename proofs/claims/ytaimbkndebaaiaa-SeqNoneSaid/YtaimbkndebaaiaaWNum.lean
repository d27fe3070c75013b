/- Walks: the functions do what the models say. -/
import Derived.Test.YtaimbkndebaaiaaMNum
import Derived.Test.YtaimbkndebaaiaaProg
import Derived.KernelRfl
namespace Go.Proofs.Ytaimbkndebaaiaa
open Go.Rd
set_option linter.unusedVariables false
set_option linter.unusedSimpArgs false
namespace TNum
theorem en37 : Enters Try.prog 37 := ⟨Try.f37, Try.func37, by kernel_rfl, by kernel_rfl⟩
theorem en44 : Enters Try.prog 44 := ⟨Try.f44, Try.func44, by kernel_rfl, by kernel_rfl⟩
theorem en45 : Enters Try.prog 45 := ⟨Try.f45, Try.func45, by kernel_rfl, by kernel_rfl⟩
theorem en46 : Enters Try.prog 46 := ⟨Try.f46, Try.func46, by kernel_rfl, by kernel_rfl⟩
theorem en47 : Enters Try.prog 47 := ⟨Try.f47, Try.func47, by kernel_rfl, by kernel_rfl⟩
end TNum
open TNum
set_option maxRecDepth 8000 in
theorem num_Index_c1_w {n_ : Int} {r : Bool} (w : World) (hm : num_Index_c1_m n_ = some r)  : Calls Try.prog 37 #[.int .i64 n_] w (fun e w' => e = .returned (.bool r) ∧ Grow w w') := by
  unfold num_Index_c1_m at hm
  have hk := Base.rfl (w := w)
  refine calls_of_WC (n := 9) (args := [.int .i64 n_]) Try.func37 rfl rfl (Nat.le_of_ble_eq_true rfl) ?_ (Own.startK hk (Own.start w))
  refine WC.seq ?_
  refine WC.region ?_
  refine WL.q rfl rfl rfl (QV.assign rfl rfl) ?_
  refine WL.nil ?_
  refine WQ.then ?_
  refine WC.seq ?_
  refine WC.region ?_
  refine WL.q rfl rfl rfl (QV.move rfl rfl) ?_
  refine WL.q rfl rfl rfl (QV.geq rfl rfl rfl rfl) ?_
  refine WL.q rfl rfl rfl (QV.move rfl rfl) ?_
  refine WL.g rfl rfl (GuardIs.pos rfl rfl) (fun hG => QV.move rfl rfl) ?_
  refine WL.g rfl rfl (GuardIs.pos rfl rfl) (fun hG => QV.leq rfl hG rfl rfl) ?_
  refine WL.q rfl rfl rfl (QV.pickAnd rfl rfl rfl (fun h => h)) ?_
  refine WL.q rfl rfl rfl (QV.assign rfl rfl) ?_
  refine WL.nil ?_
  refine WQ.then ?_
  refine WC.ret ?_
  obtain rfl := eq_of_some hm
  refine WQ.ret1 rfl rfl (fun w hw => ?_)
  exact ⟨rfl, Own.kgrow (fun _ x => x) hw⟩

set_option maxRecDepth 8000 in
theorem num_Index_w {step : Int} {plus : Int} {turn : Int} {log : Int} {r : Int} (w : World) (hm : num_Index_m step plus turn log = some r)  : Calls Try.prog 13 #[.int .i64 step, .int .i64 plus, .int .i64 turn, .int .i64 log] w (fun e w' => e = .returned (.int .i64 r) ∧ Grow w w') := by
  unfold num_Index_m at hm
  have hk := Base.rfl (w := w)
  refine calls_of_WC (n := 45) (args := [.int .i64 step, .int .i64 plus, .int .i64 turn, .int .i64 log]) Try.func13 rfl rfl (Nat.le_of_ble_eq_true rfl) ?_ (Own.startK hk (Own.start w))
  refine WC.seq ?_
  refine WC.region ?_
  refine WL.q rfl rfl rfl (QV.assign rfl rfl) ?_
  refine WL.nil ?_
  refine WQ.then ?_
  refine WC.seq ?_
  refine WC.region ?_
  refine WL.q rfl rfl rfl (QV.assign rfl rfl) ?_
  refine WL.nil ?_
  refine WQ.then ?_
  refine WC.seq ?_
  refine WC.seq ?_
  refine WC.region ?_
  refine WL.q rfl rfl rfl (QV.move rfl rfl) ?_
  refine WL.q rfl rfl rfl (QV.lss rfl rfl rfl rfl) ?_
  refine WL.q rfl rfl rfl (QV.move rfl rfl) ?_
  refine WL.g rfl rfl (GuardIs.neg rfl rfl) (fun hG => QV.move rfl rfl) ?_
  refine WL.g rfl rfl (GuardIs.neg rfl rfl) (fun hG => QV.gtr rfl hG rfl rfl) ?_
  refine WL.q rfl rfl rfl (QV.pickOr rfl rfl rfl (fun h => notF h)) ?_
  refine WL.q rfl rfl rfl (QV.move rfl rfl) ?_
  refine WL.g rfl rfl (GuardIs.neg rfl rfl) (fun hG => QV.move rfl rfl) ?_
  refine WL.g rfl rfl (GuardIs.neg rfl rfl) (fun hG => QV.move rfl rfl) ?_
  obtain ⟨x1, hx2, hm3⟩ := bdG_some hm; clear hm
  refine WL.g rfl rfl (GuardIs.neg rfl rfl) (fun hG => QV.callV en37 rfl hG (EvAll.cons rfl hG EvAll.nil) (fun w hw => have h := num_Index_c1_w w (hx2 hG) ; h)) ?_
  refine WL.g rfl rfl (GuardIs.neg rfl rfl) (fun hG => QV.not rfl hG) ?_
  refine WL.q rfl rfl rfl (QV.pickOr rfl rfl rfl (fun h => notF h)) ?_
  refine WL.q rfl rfl rfl (QV.move rfl rfl) ?_
  refine WL.g rfl rfl (GuardIs.neg rfl rfl) (fun hG => QV.move rfl rfl) ?_
  refine WL.g rfl rfl (GuardIs.neg rfl rfl) (fun hG => QV.move rfl rfl) ?_
  obtain ⟨x4, hx5, hm6⟩ := bdG_some hm3; clear hm3
  refine WL.g rfl rfl (GuardIs.neg rfl rfl) (fun hG => QV.callV en37 rfl hG (EvAll.cons rfl hG EvAll.nil) (fun w hw => have h := num_Index_c1_w w (hx5 hG) ; h)) ?_
  refine WL.g rfl rfl (GuardIs.neg rfl rfl) (fun hG => QV.not rfl hG) ?_
  refine WL.q rfl rfl rfl (QV.pickOr rfl rfl rfl (fun h => notF h)) ?_
  refine WL.q rfl rfl rfl (QV.move rfl rfl) ?_
  refine WL.g rfl rfl (GuardIs.neg rfl rfl) (fun hG => QV.move rfl rfl) ?_
  refine WL.g rfl rfl (GuardIs.neg rfl rfl) (fun hG => QV.lss rfl hG rfl rfl) ?_
  refine WL.q rfl rfl rfl (QV.pickOr rfl rfl rfl (fun h => notF h)) ?_
  refine WL.q rfl rfl rfl (QV.move rfl rfl) ?_
  refine WL.g rfl rfl (GuardIs.neg rfl rfl) (fun hG => QV.move rfl rfl) ?_
  refine WL.g rfl rfl (GuardIs.neg rfl rfl) (fun hG => QV.gtr rfl hG rfl rfl) ?_
  refine WL.q rfl rfl rfl (QV.pickOr rfl rfl rfl (fun h => notF h)) ?_
  refine WL.nil ?_
  refine WQ.then ?_
  refine WC.cond rfl (fun h7 => ?_) (fun h7 => ?_)
  · skip
    have hm8 := br_t h7 hm6; clear hm6
    refine WC.seq ?_
    refine WC.region ?_
    refine WL.q rfl rfl rfl (QV.assign rfl rfl) ?_
    refine WL.nil ?_
    refine WQ.then ?_
    refine WC.ret ?_
    refine WQ.then_ret ?_
    obtain rfl := eq_of_some hm8
    refine WQ.ret1 rfl rfl (fun w hw => ?_)
    exact ⟨rfl, Own.kgrow (fun _ x => x) hw⟩
  · skip
    have hm9 := br_f h7 hm6; clear hm6
    refine WC.skip ?_
    refine WQ.then ?_
    refine WC.seq ?_
    refine WC.region ?_
    refine WL.q rfl rfl rfl (QV.move rfl rfl) ?_
    refine WL.q rfl rfl rfl (QV.move rfl rfl) ?_
    obtain ⟨c10, hm11⟩ := ck_some hm9; clear hm9
    refine WL.q rfl rfl rfl (QV.mul rfl rfl rfl rfl c10) ?_
    refine WL.q rfl rfl rfl (QV.move rfl rfl) ?_
    obtain ⟨c12, hm13⟩ := ck_some hm11; clear hm11
    refine WL.q rfl rfl rfl (QV.add rfl rfl rfl rfl c12) ?_
    refine WL.q rfl rfl rfl (QV.move rfl rfl) ?_
    obtain ⟨c14, hm15⟩ := ck_some hm13; clear hm13
    refine WL.q rfl rfl rfl (QV.shlD rfl rfl rfl rfl c14) ?_
    obtain ⟨c16, hm17⟩ := ck_some hm15; clear hm15
    refine WL.q rfl rfl rfl (QV.sub rfl rfl rfl rfl c16) ?_
    refine WL.q rfl rfl rfl (QV.andW rfl rfl rfl rfl) ?_
    refine WL.q rfl rfl rfl (QV.assign rfl rfl) ?_
    refine WL.nil ?_
    refine WQ.then ?_
    refine WC.ret ?_
    obtain rfl := eq_of_some hm17
    refine WQ.ret1 rfl rfl (fun w hw => ?_)
    exact ⟨rfl, Own.kgrow (fun _ x => x) hw⟩

set_option maxRecDepth 8000 in
theorem num_Op_c1_w {is : Bool} {r : Int} (w : World) (hm : num_Op_c1_m is = some r)  : Calls Try.prog 44 #[.bool is] w (fun e w' => e = .returned (.int .i64 r) ∧ Grow w w') := by
  unfold num_Op_c1_m at hm
  have hk := Base.rfl (w := w)
  refine calls_of_WC (n := 4) (args := [.bool is]) Try.func44 rfl rfl (Nat.le_of_ble_eq_true rfl) ?_ (Own.startK hk (Own.start w))
  refine WC.seq ?_
  refine WC.region ?_
  refine WL.q rfl rfl rfl (QV.assign rfl rfl) ?_
  refine WL.nil ?_
  refine WQ.then ?_
  refine WC.seq ?_
  refine WC.seq ?_
  refine WC.region ?_
  refine WL.q rfl rfl rfl (QV.move rfl rfl) ?_
  refine WL.nil ?_
  refine WQ.then ?_
  refine WC.cond rfl (fun h1 => ?_) (fun h1 => ?_)
  · skip
    have hm2 := br_t h1 hm; clear hm
    refine WC.seq ?_
    refine WC.region ?_
    refine WL.q rfl rfl rfl (QV.assign rfl rfl) ?_
    refine WL.nil ?_
    refine WQ.then ?_
    refine WC.ret ?_
    refine WQ.then_ret ?_
    obtain rfl := eq_of_some hm2
    refine WQ.ret1 rfl rfl (fun w hw => ?_)
    exact ⟨rfl, Own.kgrow (fun _ x => x) hw⟩
  · skip
    have hm3 := br_f h1 hm; clear hm
    refine WC.skip ?_
    refine WQ.then ?_
    refine WC.seq ?_
    refine WC.region ?_
    refine WL.q rfl rfl rfl (QV.assign rfl rfl) ?_
    refine WL.nil ?_
    refine WQ.then ?_
    refine WC.ret ?_
    obtain rfl := eq_of_some hm3
    refine WQ.ret1 rfl rfl (fun w hw => ?_)
    exact ⟨rfl, Own.kgrow (fun _ x => x) hw⟩

set_option maxRecDepth 8000 in
theorem num_Op_w {op : Int} {a : Int} {b : Int} {r : Int} (w : World) (hm : num_Op_m op a b = some r)  : Calls Try.prog 23 #[.int .i64 op, .int .i64 a, .int .i64 b] w (fun e w' => e = .returned (.int .i64 r) ∧ Grow w w') := by
  unfold num_Op_m at hm
  have hk := Base.rfl (w := w)
  refine calls_of_WC (n := 53) (args := [.int .i64 op, .int .i64 a, .int .i64 b]) Try.func23 rfl rfl (Nat.le_of_ble_eq_true rfl) ?_ (Own.startK hk (Own.start w))
  refine WC.seq ?_
  refine WC.region ?_
  refine WL.q rfl rfl rfl (QV.assign rfl rfl) ?_
  refine WL.nil ?_
  refine WQ.then ?_
  refine WC.seq ?_
  refine WC.region ?_
  refine WL.q rfl rfl rfl (QV.assign rfl rfl) ?_
  refine WL.nil ?_
  refine WQ.then ?_
  refine WC.seq ?_
  refine WC.seq ?_
  refine WC.region ?_
  refine WL.q rfl rfl rfl (QV.move rfl rfl) ?_
  refine WL.nil ?_
  refine WQ.then ?_
  refine WC.block ?_
  refine WC.seq ?_
  refine WC.region ?_
  refine WL.q rfl rfl rfl (QV.eql rfl rfl rfl rfl) ?_
  refine WL.q rfl rfl rfl (QV.assign rfl rfl) ?_
  refine WL.nil ?_
  refine WQ.then ?_
  refine WC.cond rfl (fun h1 => ?_) (fun h1 => ?_)
  · skip
    have hm2 := br_t h1 hm; clear hm
    refine WC.seq ?_
    refine WC.region ?_
    refine WL.q rfl rfl rfl (QV.move rfl rfl) ?_
    refine WL.q rfl rfl rfl (QV.move rfl rfl) ?_
    refine WL.q rfl rfl rfl (QV.addW rfl rfl rfl rfl) ?_
    refine WL.q rfl rfl rfl (QV.assign rfl rfl) ?_
    refine WL.nil ?_
    refine WQ.then ?_
    refine WC.ret ?_
    refine WQ.block_ret ?_
    refine WQ.then_ret ?_
    obtain rfl := eq_of_some hm2
    refine WQ.ret1 rfl rfl (fun w hw => ?_)
    exact ⟨rfl, Own.kgrow (fun _ x => x) hw⟩
  · skip
    have hm3 := br_f h1 hm; clear hm
    refine WC.seq ?_
    refine WC.region ?_
    refine WL.q rfl rfl rfl (QV.eql rfl rfl rfl rfl) ?_
    refine WL.q rfl rfl rfl (QV.assign rfl rfl) ?_
    refine WL.nil ?_
    refine WQ.then ?_
    refine WC.cond rfl (fun h4 => ?_) (fun h4 => ?_)
    · skip
      have hm5 := br_t h4 hm3; clear hm3
      refine WC.seq ?_
      refine WC.region ?_
      refine WL.q rfl rfl rfl (QV.move rfl rfl) ?_
      refine WL.q rfl rfl rfl (QV.move rfl rfl) ?_
      refine WL.q rfl rfl rfl (QV.subW rfl rfl rfl rfl) ?_
      refine WL.q rfl rfl rfl (QV.assign rfl rfl) ?_
      refine WL.nil ?_
      refine WQ.then ?_
      refine WC.ret ?_
      refine WQ.block_ret ?_
      refine WQ.then_ret ?_
      obtain rfl := eq_of_some hm5
      refine WQ.ret1 rfl rfl (fun w hw => ?_)
      exact ⟨rfl, Own.kgrow (fun _ x => x) hw⟩
    · skip
      have hm6 := br_f h4 hm3; clear hm3
      refine WC.seq ?_
      refine WC.region ?_
      refine WL.q rfl rfl rfl (QV.eql rfl rfl rfl rfl) ?_
      refine WL.q rfl rfl rfl (QV.assign rfl rfl) ?_
      refine WL.nil ?_
      refine WQ.then ?_
      refine WC.cond rfl (fun h7 => ?_) (fun h7 => ?_)
      · skip
        have hm8 := br_t h7 hm6; clear hm6
        refine WC.seq ?_
        refine WC.region ?_
        refine WL.q rfl rfl rfl (QV.move rfl rfl) ?_
        refine WL.q rfl rfl rfl (QV.move rfl rfl) ?_
        refine WL.q rfl rfl rfl (QV.mulW rfl rfl rfl rfl) ?_
        refine WL.q rfl rfl rfl (QV.assign rfl rfl) ?_
        refine WL.nil ?_
        refine WQ.then ?_
        refine WC.ret ?_
        refine WQ.block_ret ?_
        refine WQ.then_ret ?_
        obtain rfl := eq_of_some hm8
        refine WQ.ret1 rfl rfl (fun w hw => ?_)
        exact ⟨rfl, Own.kgrow (fun _ x => x) hw⟩
      · skip
        have hm9 := br_f h7 hm6; clear hm6
        refine WC.seq ?_
        refine WC.region ?_
        refine WL.q rfl rfl rfl (QV.eql rfl rfl rfl rfl) ?_
        refine WL.q rfl rfl rfl (QV.assign rfl rfl) ?_
        refine WL.nil ?_
        refine WQ.then ?_
        refine WC.cond rfl (fun h10 => ?_) (fun h10 => ?_)
        · skip
          have hm11 := br_t h10 hm9; clear hm9
          refine WC.seq ?_
          refine WC.region ?_
          refine WL.q rfl rfl rfl (QV.move rfl rfl) ?_
          refine WL.q rfl rfl rfl (QV.move rfl rfl) ?_
          refine WL.q rfl rfl rfl (QV.andW rfl rfl rfl rfl) ?_
          refine WL.q rfl rfl rfl (QV.assign rfl rfl) ?_
          refine WL.nil ?_
          refine WQ.then ?_
          refine WC.ret ?_
          refine WQ.block_ret ?_
          refine WQ.then_ret ?_
          obtain rfl := eq_of_some hm11
          refine WQ.ret1 rfl rfl (fun w hw => ?_)
          exact ⟨rfl, Own.kgrow (fun _ x => x) hw⟩
        · skip
          have hm12 := br_f h10 hm9; clear hm9
          refine WC.seq ?_
          refine WC.region ?_
          refine WL.q rfl rfl rfl (QV.eql rfl rfl rfl rfl) ?_
          refine WL.q rfl rfl rfl (QV.assign rfl rfl) ?_
          refine WL.nil ?_
          refine WQ.then ?_
          refine WC.cond rfl (fun h13 => ?_) (fun h13 => ?_)
          · skip
            have hm14 := br_t h13 hm12; clear hm12
            refine WC.seq ?_
            refine WC.region ?_
            refine WL.q rfl rfl rfl (QV.move rfl rfl) ?_
            refine WL.q rfl rfl rfl (QV.move rfl rfl) ?_
            refine WL.q rfl rfl rfl (QV.orW rfl rfl rfl rfl) ?_
            refine WL.q rfl rfl rfl (QV.assign rfl rfl) ?_
            refine WL.nil ?_
            refine WQ.then ?_
            refine WC.ret ?_
            refine WQ.block_ret ?_
            refine WQ.then_ret ?_
            obtain rfl := eq_of_some hm14
            refine WQ.ret1 rfl rfl (fun w hw => ?_)
            exact ⟨rfl, Own.kgrow (fun _ x => x) hw⟩
          · skip
            have hm15 := br_f h13 hm12; clear hm12
            refine WC.seq ?_
            refine WC.region ?_
            refine WL.q rfl rfl rfl (QV.eql rfl rfl rfl rfl) ?_
            refine WL.q rfl rfl rfl (QV.assign rfl rfl) ?_
            refine WL.nil ?_
            refine WQ.then ?_
            refine WC.cond rfl (fun h16 => ?_) (fun h16 => ?_)
            · skip
              have hm17 := br_t h16 hm15; clear hm15
              refine WC.seq ?_
              refine WC.region ?_
              refine WL.q rfl rfl rfl (QV.move rfl rfl) ?_
              refine WL.q rfl rfl rfl (QV.move rfl rfl) ?_
              refine WL.q rfl rfl rfl (QV.xorW rfl rfl rfl rfl) ?_
              refine WL.q rfl rfl rfl (QV.assign rfl rfl) ?_
              refine WL.nil ?_
              refine WQ.then ?_
              refine WC.ret ?_
              refine WQ.block_ret ?_
              refine WQ.then_ret ?_
              obtain rfl := eq_of_some hm17
              refine WQ.ret1 rfl rfl (fun w hw => ?_)
              exact ⟨rfl, Own.kgrow (fun _ x => x) hw⟩
            · skip
              have hm18 := br_f h16 hm15; clear hm15
              refine WC.seq ?_
              refine WC.region ?_
              refine WL.q rfl rfl rfl (QV.eql rfl rfl rfl rfl) ?_
              refine WL.q rfl rfl rfl (QV.assign rfl rfl) ?_
              refine WL.nil ?_
              refine WQ.then ?_
              refine WC.cond rfl (fun h19 => ?_) (fun h19 => ?_)
              · skip
                have hm20 := br_t h19 hm18; clear hm18
                refine WC.seq ?_
                refine WC.region ?_
                refine WL.q rfl rfl rfl (QV.move rfl rfl) ?_
                refine WL.q rfl rfl rfl (QV.move rfl rfl) ?_
                refine WL.q rfl rfl rfl (QV.move rfl rfl) ?_
                refine WL.q rfl rfl rfl (QV.lss rfl rfl rfl rfl) ?_
                obtain ⟨x21, hx22, hm23⟩ := bd_some hm20; clear hm20
                refine WL.q rfl rfl rfl (QV.callV en44 rfl rfl (EvAll.cons rfl rfl EvAll.nil) (fun w hw => have h := num_Op_c1_w w hx22 ; h)) ?_
                refine WL.q rfl rfl rfl (QV.assign rfl rfl) ?_
                refine WL.nil ?_
                refine WQ.then ?_
                refine WC.ret ?_
                refine WQ.block_ret ?_
                refine WQ.then_ret ?_
                obtain rfl := eq_of_some hm23
                refine WQ.ret1 rfl rfl (fun w hw => ?_)
                exact ⟨rfl, Own.kgrow (fun _ x => x) hw⟩
              · skip
                have hm24 := br_f h19 hm18; clear hm18
                refine WC.seq ?_
                refine WC.region ?_
                refine WL.q rfl rfl rfl (QV.eql rfl rfl rfl rfl) ?_
                refine WL.q rfl rfl rfl (QV.assign rfl rfl) ?_
                refine WL.nil ?_
                refine WQ.then ?_
                refine WC.cond rfl (fun h25 => ?_) (fun h25 => ?_)
                · skip
                  have hm26 := br_t h25 hm24; clear hm24
                  refine WC.seq ?_
                  refine WC.region ?_
                  refine WL.q rfl rfl rfl (QV.move rfl rfl) ?_
                  refine WL.q rfl rfl rfl (QV.move rfl rfl) ?_
                  refine WL.q rfl rfl rfl (QV.move rfl rfl) ?_
                  refine WL.q rfl rfl rfl (QV.eql rfl rfl rfl rfl) ?_
                  obtain ⟨x27, hx28, hm29⟩ := bd_some hm26; clear hm26
                  refine WL.q rfl rfl rfl (QV.callV en44 rfl rfl (EvAll.cons rfl rfl EvAll.nil) (fun w hw => have h := num_Op_c1_w w hx28 ; h)) ?_
                  refine WL.q rfl rfl rfl (QV.assign rfl rfl) ?_
                  refine WL.nil ?_
                  refine WQ.then ?_
                  refine WC.ret ?_
                  refine WQ.block_ret ?_
                  refine WQ.then_ret ?_
                  obtain rfl := eq_of_some hm29
                  refine WQ.ret1 rfl rfl (fun w hw => ?_)
                  exact ⟨rfl, Own.kgrow (fun _ x => x) hw⟩
                · skip
                  have hm30 := br_f h25 hm24; clear hm24
                  refine WC.skip ?_
                  refine WQ.block ?_
                  refine WQ.then ?_
                  refine WC.seq ?_
                  refine WC.region ?_
                  refine WL.q rfl rfl rfl (QV.assign rfl rfl) ?_
                  refine WL.nil ?_
                  refine WQ.then ?_
                  refine WC.ret ?_
                  obtain rfl := eq_of_some hm30
                  refine WQ.ret1 rfl rfl (fun w hw => ?_)
                  exact ⟨rfl, Own.kgrow (fun _ x => x) hw⟩

set_option maxRecDepth 8000 in
theorem num_Class_w {op : Int} {r : Int} (w : World) (hm : num_Class_m op = some r)  : Calls Try.prog 24 #[.int .i64 op] w (fun e w' => e = .returned (.int .i64 r) ∧ Grow w w') := by
  unfold num_Class_m at hm
  have hk := Base.rfl (w := w)
  refine calls_of_WC (n := 9) (args := [.int .i64 op]) Try.func24 rfl rfl (Nat.le_of_ble_eq_true rfl) ?_ (Own.startK hk (Own.start w))
  refine WC.seq ?_
  refine WC.region ?_
  refine WL.q rfl rfl rfl (QV.assign rfl rfl) ?_
  refine WL.nil ?_
  refine WQ.then ?_
  refine WC.seq ?_
  refine WC.seq ?_
  refine WC.region ?_
  refine WL.q rfl rfl rfl (QV.move rfl rfl) ?_
  refine WL.nil ?_
  refine WQ.then ?_
  refine WC.block ?_
  refine WC.seq ?_
  refine WC.seq ?_
  refine WC.region ?_
  refine WL.q rfl rfl rfl (QV.eql rfl rfl rfl rfl) ?_
  refine WL.q rfl rfl rfl (QV.assign rfl rfl) ?_
  refine WL.nil ?_
  refine WQ.then ?_
  refine WC.cond rfl (fun h1 => ?_) (fun h1 => ?_)
  · skip
    have hm2 := br_t h1 hm; clear hm
    refine WC.skip ?_
    refine WQ.then ?_
    refine WC.cond rfl (fun h3 => ?_) (fun h3 => ?_)
    · skip
      have hm4 := br_t h3 hm2; clear hm2
      refine WC.seq ?_
      refine WC.region ?_
      refine WL.q rfl rfl rfl (QV.assign rfl rfl) ?_
      refine WL.nil ?_
      refine WQ.then ?_
      refine WC.ret ?_
      refine WQ.block_ret ?_
      refine WQ.then_ret ?_
      obtain rfl := eq_of_some hm4
      refine WQ.ret1 rfl rfl (fun w hw => ?_)
      exact ⟨rfl, Own.kgrow (fun _ x => x) hw⟩
    · skip
      have hm5 := br_f h3 hm2; clear hm2
      refine WC.seq ?_
      refine WC.region ?_
      refine WL.q rfl rfl rfl (QV.eql rfl rfl rfl rfl) ?_
      refine WL.q rfl rfl rfl (QV.assign rfl rfl) ?_
      refine WL.nil ?_
      refine WQ.then ?_
      refine WC.cond rfl (fun h6 => ?_) (fun h6 => ?_)
      · skip
        have hm7 := br_t h6 hm5; clear hm5
        refine WC.seq ?_
        refine WC.region ?_
        refine WL.q rfl rfl rfl (QV.assign rfl rfl) ?_
        refine WL.nil ?_
        refine WQ.then ?_
        refine WC.ret ?_
        refine WQ.block_ret ?_
        refine WQ.then_ret ?_
        obtain rfl := eq_of_some hm7
        refine WQ.ret1 rfl rfl (fun w hw => ?_)
        exact ⟨rfl, Own.kgrow (fun _ x => x) hw⟩
      · skip
        have hm8 := br_f h6 hm5; clear hm5
        refine WC.skip ?_
        refine WQ.block ?_
        refine WQ.then ?_
        refine WC.seq ?_
        refine WC.region ?_
        refine WL.q rfl rfl rfl (QV.assign rfl rfl) ?_
        refine WL.nil ?_
        refine WQ.then ?_
        refine WC.ret ?_
        obtain rfl := eq_of_some hm8
        refine WQ.ret1 rfl rfl (fun w hw => ?_)
        exact ⟨rfl, Own.kgrow (fun _ x => x) hw⟩
  · skip
    have hm9 := br_f h1 hm; clear hm
    refine WC.region ?_
    refine WL.q rfl rfl rfl (QV.eql rfl rfl rfl rfl) ?_
    refine WL.q rfl rfl rfl (QV.assign rfl rfl) ?_
    refine WL.nil ?_
    refine WQ.then ?_
    refine WC.cond rfl (fun h10 => ?_) (fun h10 => ?_)
    · skip
      have hm11 := br_t h10 hm9; clear hm9
      refine WC.seq ?_
      refine WC.region ?_
      refine WL.q rfl rfl rfl (QV.assign rfl rfl) ?_
      refine WL.nil ?_
      refine WQ.then ?_
      refine WC.ret ?_
      refine WQ.block_ret ?_
      refine WQ.then_ret ?_
      obtain rfl := eq_of_some hm11
      refine WQ.ret1 rfl rfl (fun w hw => ?_)
      exact ⟨rfl, Own.kgrow (fun _ x => x) hw⟩
    · skip
      have hm12 := br_f h10 hm9; clear hm9
      refine WC.seq ?_
      refine WC.region ?_
      refine WL.q rfl rfl rfl (QV.eql rfl rfl rfl rfl) ?_
      refine WL.q rfl rfl rfl (QV.assign rfl rfl) ?_
      refine WL.nil ?_
      refine WQ.then ?_
      refine WC.cond rfl (fun h13 => ?_) (fun h13 => ?_)
      · skip
        have hm14 := br_t h13 hm12; clear hm12
        refine WC.seq ?_
        refine WC.region ?_
        refine WL.q rfl rfl rfl (QV.assign rfl rfl) ?_
        refine WL.nil ?_
        refine WQ.then ?_
        refine WC.ret ?_
        refine WQ.block_ret ?_
        refine WQ.then_ret ?_
        obtain rfl := eq_of_some hm14
        refine WQ.ret1 rfl rfl (fun w hw => ?_)
        exact ⟨rfl, Own.kgrow (fun _ x => x) hw⟩
      · skip
        have hm15 := br_f h13 hm12; clear hm12
        refine WC.skip ?_
        refine WQ.block ?_
        refine WQ.then ?_
        refine WC.seq ?_
        refine WC.region ?_
        refine WL.q rfl rfl rfl (QV.assign rfl rfl) ?_
        refine WL.nil ?_
        refine WQ.then ?_
        refine WC.ret ?_
        obtain rfl := eq_of_some hm15
        refine WQ.ret1 rfl rfl (fun w hw => ?_)
        exact ⟨rfl, Own.kgrow (fun _ x => x) hw⟩

set_option maxRecDepth 8000 in
theorem roundelayref1_Class_w {op : Int} {r : Int} (w : World) (hm : roundelayref1_Class_m op = some r)  : Calls Try.prog 26 #[.int .i64 op] w (fun e w' => e = .returned (.int .i64 r) ∧ Grow w w') := by
  unfold roundelayref1_Class_m at hm
  have hk := Base.rfl (w := w)
  refine calls_of_WC (n := 11) (args := [.int .i64 op]) Try.func26 rfl rfl (Nat.le_of_ble_eq_true rfl) ?_ (Own.startK hk (Own.start w))
  refine WC.seq ?_
  refine WC.region ?_
  refine WL.q rfl rfl rfl (QV.assign rfl rfl) ?_
  refine WL.nil ?_
  refine WQ.then ?_
  refine WC.seq ?_
  refine WC.seq ?_
  refine WC.region ?_
  refine WL.q rfl rfl rfl (QV.move rfl rfl) ?_
  refine WL.q rfl rfl rfl (QV.eql rfl rfl rfl rfl) ?_
  refine WL.q rfl rfl rfl (QV.move rfl rfl) ?_
  refine WL.g rfl rfl (GuardIs.neg rfl rfl) (fun hG => QV.move rfl rfl) ?_
  refine WL.g rfl rfl (GuardIs.neg rfl rfl) (fun hG => QV.eql rfl hG rfl rfl) ?_
  refine WL.q rfl rfl rfl (QV.pickOr rfl rfl rfl (fun h => notF h)) ?_
  refine WL.nil ?_
  refine WQ.then ?_
  refine WC.cond rfl (fun h1 => ?_) (fun h1 => ?_)
  · skip
    have hm2 := br_t h1 hm; clear hm
    refine WC.seq ?_
    refine WC.region ?_
    refine WL.q rfl rfl rfl (QV.assign rfl rfl) ?_
    refine WL.nil ?_
    refine WQ.then ?_
    refine WC.ret ?_
    refine WQ.then_ret ?_
    obtain rfl := eq_of_some hm2
    refine WQ.ret1 rfl rfl (fun w hw => ?_)
    exact ⟨rfl, Own.kgrow (fun _ x => x) hw⟩
  · skip
    have hm3 := br_f h1 hm; clear hm
    refine WC.skip ?_
    refine WQ.then ?_
    refine WC.seq ?_
    refine WC.seq ?_
    refine WC.region ?_
    refine WL.q rfl rfl rfl (QV.move rfl rfl) ?_
    refine WL.q rfl rfl rfl (QV.eql rfl rfl rfl rfl) ?_
    refine WL.nil ?_
    refine WQ.then ?_
    refine WC.cond rfl (fun h4 => ?_) (fun h4 => ?_)
    · skip
      have hm5 := br_t h4 hm3; clear hm3
      refine WC.seq ?_
      refine WC.region ?_
      refine WL.q rfl rfl rfl (QV.assign rfl rfl) ?_
      refine WL.nil ?_
      refine WQ.then ?_
      refine WC.ret ?_
      refine WQ.then_ret ?_
      obtain rfl := eq_of_some hm5
      refine WQ.ret1 rfl rfl (fun w hw => ?_)
      exact ⟨rfl, Own.kgrow (fun _ x => x) hw⟩
    · skip
      have hm6 := br_f h4 hm3; clear hm3
      refine WC.skip ?_
      refine WQ.then ?_
      refine WC.seq ?_
      refine WC.region ?_
      refine WL.q rfl rfl rfl (QV.assign rfl rfl) ?_
      refine WL.nil ?_
      refine WQ.then ?_
      refine WC.ret ?_
      obtain rfl := eq_of_some hm6
      refine WQ.ret1 rfl rfl (fun w hw => ?_)
      exact ⟨rfl, Own.kgrow (fun _ x => x) hw⟩

set_option maxRecDepth 8000 in
theorem roundelayref1_Size_w {log : Int} {r : Int} (w : World) (hm : roundelayref1_Size_m log = some r)  : Calls Try.prog 47 #[.int .i64 log] w (fun e w' => e = .returned (.int .i64 r) ∧ Grow w w') := by
  unfold roundelayref1_Size_m at hm
  have hk := Base.rfl (w := w)
  refine calls_of_WC (n := 14) (args := [.int .i64 log]) Try.func47 rfl rfl (Nat.le_of_ble_eq_true rfl) ?_ (Own.startK hk (Own.start w))
  refine WC.seq ?_
  refine WC.region ?_
  refine WL.q rfl rfl rfl (QV.assign rfl rfl) ?_
  refine WL.nil ?_
  refine WQ.then ?_
  refine WC.seq ?_
  refine WC.region ?_
  refine WL.q rfl rfl rfl (QV.assign rfl rfl) ?_
  refine WL.nil ?_
  refine WQ.then ?_
  refine WC.seq ?_
  refine WC.seq ?_
  refine WC.region ?_
  refine WL.q rfl rfl rfl (QV.assign rfl rfl) ?_
  refine WL.nil ?_
  refine WQ.then ?_
  obtain ⟨o1, ho2, hm3⟩ := bd_some hm; clear hm; obtain ⟨n4, ho5⟩ := lp_some ho2
  refine WC.bloop2 (H2 := [kn noM w.heap.size w w]) (τ := [(0, (true, _))]) (fun (n3_1 : Int) (i4_1 : Int) => [(3, (true, .int .i64 n3_1)), (4, (true, .int .i64 i4_1))]) (fun (n3_1 : Int) (i4_1 : Int) => []) (fun (n3_1 : Int) (i4_1 : Int) (m : Nat) => iter (roundelayref1_Size_L0 log) m (n3_1, i4_1) = some o1) (fun (n3_1 : Int) (i4_1 : Int) => o1 = .go (n3_1, i4_1)) 1 0 n4 ho5 ⟨rfl, rfl, rfl, trivial⟩ (fun w hw => hw.pick [0] (by decide)) ?_ ?_
  · skip
    rintro n3_1 i4_1 rfl
    refine WQ.then ?_
    refine WC.seq ?_
    refine WC.region ?_
    refine WL.q rfl rfl rfl (QV.move rfl rfl) ?_
    refine WL.q rfl rfl rfl (QV.assign rfl rfl) ?_
    refine WL.nil ?_
    refine WQ.then ?_
    refine WC.ret ?_
    obtain rfl := eq_of_some hm3
    refine WQ.ret1 rfl rfl (fun w hw => ?_)
    exact ⟨rfl, Own.kgrow (fun _ x => x) hw⟩
  · skip
    rintro n3_1 i4_1 m6 hI7
    obtain ⟨m8, s9, rfl, hm10, hn11⟩ := iter_step hI7; clear hI7; unfold roundelayref1_Size_L0 at hm10; simp only at hm10
    refine WC.seq ?_
    refine WC.seq ?_
    refine WC.region ?_
    refine WL.q rfl rfl rfl (QV.move rfl rfl) ?_
    refine WL.q rfl rfl rfl (QV.move rfl rfl) ?_
    refine WL.q rfl rfl rfl (QV.lss rfl rfl rfl rfl) ?_
    refine WL.nil ?_
    refine WQ.then ?_
    refine WC.cond rfl (fun h12 => ?_) (fun h12 => ?_)
    · skip
      have hm13 := br_t h12 hm10; clear hm10
      refine WC.skip ?_
      refine WQ.then ?_
      refine WC.seq ?_
      refine WC.block ?_
      refine WC.region ?_
      refine WL.q rfl rfl rfl (QV.move rfl rfl) ?_
      refine WL.q rfl rfl rfl (QV.move rfl rfl) ?_
      obtain ⟨c14, hm15⟩ := ck_some hm13; clear hm13
      refine WL.q rfl rfl rfl (QV.add rfl rfl rfl rfl c14) ?_
      refine WL.q rfl rfl rfl (QV.assign rfl rfl) ?_
      refine WL.nil ?_
      refine WQ.block ?_
      refine WQ.then ?_
      refine WC.region ?_
      refine WL.q rfl rfl rfl (QV.move rfl rfl) ?_
      obtain ⟨c16, hm17⟩ := ck_some hm15; clear hm15
      refine WL.q rfl rfl rfl (QV.add rfl rfl rfl rfl c16) ?_
      refine WL.q rfl rfl rfl (QV.assign rfl rfl) ?_
      refine WL.nil ?_
      exact WQ.again2 (n3_1 + n3_1) (i4_1 + 1) m8 (up_next hm17 hn11) (Nat.lt_succ_self _) ⟨rfl, rfl, rfl, trivial⟩ (fun w hw => hw.pick [0] (by decide))
    · skip
      have hm18 := br_f h12 hm10; clear hm10
      refine WC.exit ?_
      refine WQ.then_exit ?_
      refine WQ.then_exit ?_
      refine WQ.block_exit ?_
      exact WQ.out2 n3_1 i4_1 (up_brk hm18 hn11) ⟨rfl, rfl, rfl, trivial⟩ (fun w hw => hw.pick [0] (by decide))

set_option maxRecDepth 8000 in
theorem roundelayref1_Rest_w {a : Int} {b : Int} {r : Int} (w : World) (hm : roundelayref1_Rest_m a b = some r)  : Calls Try.prog 46 #[.int .i64 a, .int .i64 b] w (fun e w' => e = .returned (.int .i64 r) ∧ Grow w w') := by
  unfold roundelayref1_Rest_m at hm
  have hk := Base.rfl (w := w)
  refine calls_of_WC (n := 15) (args := [.int .i64 a, .int .i64 b]) Try.func46 rfl rfl (Nat.le_of_ble_eq_true rfl) ?_ (Own.startK hk (Own.start w))
  refine WC.seq ?_
  refine WC.region ?_
  refine WL.q rfl rfl rfl (QV.assign rfl rfl) ?_
  refine WL.nil ?_
  refine WQ.then ?_
  refine WC.seq ?_
  refine WC.region ?_
  refine WL.q rfl rfl rfl (QV.move rfl rfl) ?_
  refine WL.q rfl rfl rfl (QV.move rfl rfl) ?_
  obtain ⟨c1, hm2⟩ := ck_some hm; clear hm
  refine WL.q rfl rfl rfl (QV.rem rfl rfl rfl rfl c1) ?_
  refine WL.q rfl rfl rfl (QV.assign rfl rfl) ?_
  refine WL.nil ?_
  refine WQ.then ?_
  refine WC.seq ?_
  refine WC.seq ?_
  refine WC.region ?_
  refine WL.q rfl rfl rfl (QV.move rfl rfl) ?_
  refine WL.q rfl rfl rfl (QV.lss rfl rfl rfl rfl) ?_
  refine WL.nil ?_
  refine WQ.then ?_
  refine WC.cond rfl (fun h3 => ?_) (fun h3 => ?_)
  · skip
    have hm4 := br_t h3 hm2; clear hm2
    refine WC.region ?_
    refine WL.q rfl rfl rfl (QV.move rfl rfl) ?_
    refine WL.q rfl rfl rfl (QV.move rfl rfl) ?_
    obtain ⟨c5, hm6⟩ := ck_some hm4; clear hm4
    refine WL.q rfl rfl rfl (QV.add rfl rfl rfl rfl c5) ?_
    refine WL.q rfl rfl rfl (QV.assign rfl rfl) ?_
    refine WL.nil ?_
    refine WQ.then ?_
    refine WC.seq ?_
    refine WC.region ?_
    refine WL.q rfl rfl rfl (QV.move rfl rfl) ?_
    refine WL.q rfl rfl rfl (QV.assign rfl rfl) ?_
    refine WL.nil ?_
    refine WQ.then ?_
    refine WC.ret ?_
    obtain rfl := eq_of_some hm6
    refine WQ.ret1 rfl rfl (fun w hw => ?_)
    exact ⟨rfl, Own.kgrow (fun _ x => x) hw⟩
  · skip
    have hm7 := br_f h3 hm2; clear hm2
    refine WC.skip ?_
    refine WQ.then ?_
    refine WC.seq ?_
    refine WC.region ?_
    refine WL.q rfl rfl rfl (QV.move rfl rfl) ?_
    refine WL.q rfl rfl rfl (QV.assign rfl rfl) ?_
    refine WL.nil ?_
    refine WQ.then ?_
    refine WC.ret ?_
    obtain rfl := eq_of_some hm7
    refine WQ.ret1 rfl rfl (fun w hw => ?_)
    exact ⟨rfl, Own.kgrow (fun _ x => x) hw⟩

set_option maxRecDepth 8000 in
theorem roundelayref1_bits_w {op : Int} {a : Int} {b : Int} {r : Int} (w : World) (hm : roundelayref1_bits_m op a b = some r)  : Calls Try.prog 45 #[.int .i64 op, .int .i64 a, .int .i64 b] w (fun e w' => e = .returned (.int .i64 r) ∧ Grow w w') := by
  unfold roundelayref1_bits_m at hm
  have hk := Base.rfl (w := w)
  refine calls_of_WC (n := 76) (args := [.int .i64 op, .int .i64 a, .int .i64 b]) Try.func45 rfl rfl (Nat.le_of_ble_eq_true rfl) ?_ (Own.startK hk (Own.start w))
  refine WC.seq ?_
  refine WC.region ?_
  refine WL.q rfl rfl rfl (QV.assign rfl rfl) ?_
  refine WL.nil ?_
  refine WQ.then ?_
  refine WC.seq ?_
  refine WC.region ?_
  refine WL.q rfl rfl rfl (QV.assign rfl rfl) ?_
  refine WL.nil ?_
  refine WQ.then ?_
  refine WC.seq ?_
  refine WC.region ?_
  refine WL.q rfl rfl rfl (QV.assign rfl rfl) ?_
  refine WL.nil ?_
  refine WQ.then ?_
  refine WC.seq ?_
  refine WC.seq ?_
  refine WC.region ?_
  refine WL.q rfl rfl rfl (QV.assign rfl rfl) ?_
  refine WL.nil ?_
  refine WQ.then ?_
  obtain ⟨o1, ho2, hm3⟩ := bd_some hm; clear hm; obtain ⟨n4, ho5⟩ := lp_some ho2
  refine WC.bloop5 (H2 := [kn noM w.heap.size w w]) (τ := [(0, (true, _))]) (fun (a1_1 : Int) (b2_1 : Int) (n7_1 : Int) (power8_1 : Int) (i9_1 : Int) => [(1, (true, .int .i64 a1_1)), (2, (true, .int .i64 b2_1)), (7, (true, .int .i64 n7_1)), (8, (true, .int .i64 power8_1)), (9, (true, .int .i64 i9_1))]) (fun (a1_1 : Int) (b2_1 : Int) (n7_1 : Int) (power8_1 : Int) (i9_1 : Int) => []) (fun (a1_1 : Int) (b2_1 : Int) (n7_1 : Int) (power8_1 : Int) (i9_1 : Int) (m : Nat) => iter (roundelayref1_bits_L0 op) m (a1_1, b2_1, n7_1, power8_1, i9_1) = some o1) (fun (a1_1 : Int) (b2_1 : Int) (n7_1 : Int) (power8_1 : Int) (i9_1 : Int) => o1 = .go (a1_1, b2_1, n7_1, power8_1, i9_1)) a b 0 1 0 n4 ho5 ⟨rfl, rfl, rfl, rfl, rfl, rfl, trivial⟩ (fun w hw => hw.pick [0] (by decide)) ?_ ?_
  · skip
    rintro a1_1 b2_1 n7_1 power8_1 i9_1 rfl
    refine WQ.then ?_
    refine WC.seq ?_
    refine WC.region ?_
    refine WL.q rfl rfl rfl (QV.move rfl rfl) ?_
    refine WL.q rfl rfl rfl (QV.assign rfl rfl) ?_
    refine WL.nil ?_
    refine WQ.then ?_
    refine WC.ret ?_
    obtain rfl := eq_of_some hm3
    refine WQ.ret1 rfl rfl (fun w hw => ?_)
    exact ⟨rfl, Own.kgrow (fun _ x => x) hw⟩
  · skip
    rintro a1_1 b2_1 n7_1 power8_1 i9_1 m6 hI7
    obtain ⟨m8, s9, rfl, hm10, hn11⟩ := iter_step hI7; clear hI7; unfold roundelayref1_bits_L0 at hm10; simp only at hm10
    refine WC.seq ?_
    refine WC.seq ?_
    refine WC.region ?_
    refine WL.q rfl rfl rfl (QV.move rfl rfl) ?_
    refine WL.q rfl rfl rfl (QV.lss rfl rfl rfl rfl) ?_
    refine WL.nil ?_
    refine WQ.then ?_
    refine WC.cond rfl (fun h12 => ?_) (fun h12 => ?_)
    · skip
      have hm13 := br_t h12 hm10; clear hm10
      refine WC.skip ?_
      refine WQ.then ?_
      refine WC.seq ?_
      refine WC.block ?_
      refine WC.seq ?_
      refine WC.region ?_
      refine WL.q rfl rfl rfl (QV.move rfl rfl) ?_
      refine WL.q rfl rfl rfl (QV.rem rfl rfl rfl rfl (by decide)) ?_
      refine WL.q rfl rfl rfl (QV.assign rfl rfl) ?_
      refine WL.nil ?_
      refine WQ.then ?_
      refine WC.seq ?_
      refine WC.region ?_
      refine WL.q rfl rfl rfl (QV.move rfl rfl) ?_
      refine WL.q rfl rfl rfl (QV.rem rfl rfl rfl rfl (by decide)) ?_
      refine WL.q rfl rfl rfl (QV.assign rfl rfl) ?_
      refine WL.nil ?_
      refine WQ.then ?_
      refine WC.seq ?_
      refine WC.region ?_
      refine WL.q rfl rfl rfl (QV.move rfl rfl) ?_
      refine WL.q rfl rfl rfl (QV.neq rfl rfl rfl rfl) ?_
      refine WL.q rfl rfl rfl (QV.assign rfl rfl) ?_
      refine WL.nil ?_
      refine WQ.then ?_
      refine WC.seq ?_
      refine WC.region ?_
      refine WL.q rfl rfl rfl (QV.move rfl rfl) ?_
      refine WL.q rfl rfl rfl (QV.neq rfl rfl rfl rfl) ?_
      refine WL.q rfl rfl rfl (QV.assign rfl rfl) ?_
      refine WL.nil ?_
      refine WQ.then ?_
      refine WC.seq ?_
      refine WC.seq ?_
      refine WC.region ?_
      refine WL.q rfl rfl rfl (QV.move rfl rfl) ?_
      refine WL.q rfl rfl rfl (QV.eql rfl rfl rfl rfl) ?_
      refine WL.q rfl rfl rfl (QV.move rfl rfl) ?_
      refine WL.g rfl rfl (GuardIs.pos rfl rfl) (fun hG => QV.move rfl rfl) ?_
      refine WL.q rfl rfl rfl (QV.pickAnd rfl rfl rfl (fun h => h)) ?_
      refine WL.q rfl rfl rfl (QV.move rfl rfl) ?_
      refine WL.g rfl rfl (GuardIs.pos rfl rfl) (fun hG => QV.move rfl rfl) ?_
      refine WL.q rfl rfl rfl (QV.pickAnd rfl rfl rfl (fun h => h)) ?_
      refine WL.q rfl rfl rfl (QV.move rfl rfl) ?_
      refine WL.g rfl rfl (GuardIs.neg rfl rfl) (fun hG => QV.move rfl rfl) ?_
      refine WL.g rfl rfl (GuardIs.neg rfl rfl) (fun hG => QV.eql rfl hG rfl rfl) ?_
      refine WL.g rfl rfl (GuardIs.neg rfl rfl) (fun hG => QV.move rfl hG) ?_
      refine WL.g rfl rfl (GuardIs.posC rfl rfl) (fun hG => QV.move rfl rfl) ?_
      refine WL.g rfl rfl (GuardIs.posC rfl rfl) (fun hG => QV.move rfl hG) ?_
      refine WL.g rfl rfl (GuardIs.negC rfl rfl) (fun hG => QV.move rfl rfl) ?_
      refine WL.g rfl rfl (GuardIs.posC rfl rfl) (fun hG => QV.pickOr rfl hG rfl (fun h => andN hG h)) ?_
      refine WL.g rfl rfl (GuardIs.neg rfl rfl) (fun hG => QV.pickAnd rfl hG rfl (fun h => andT hG h)) ?_
      refine WL.q rfl rfl rfl (QV.pickOr rfl rfl rfl (fun h => notF h)) ?_
      refine WL.q rfl rfl rfl (QV.move rfl rfl) ?_
      refine WL.g rfl rfl (GuardIs.neg rfl rfl) (fun hG => QV.move rfl rfl) ?_
      refine WL.g rfl rfl (GuardIs.neg rfl rfl) (fun hG => QV.eql rfl hG rfl rfl) ?_
      refine WL.g rfl rfl (GuardIs.neg rfl rfl) (fun hG => QV.move rfl hG) ?_
      refine WL.g rfl rfl (GuardIs.posC rfl rfl) (fun hG => QV.move rfl rfl) ?_
      refine WL.g rfl rfl (GuardIs.posC rfl rfl) (fun hG => QV.move rfl rfl) ?_
      refine WL.g rfl rfl (GuardIs.posC rfl rfl) (fun hG => QV.neqB Try.underlying4 rfl hG rfl hG) ?_
      refine WL.g rfl rfl (GuardIs.neg rfl rfl) (fun hG => QV.pickAnd rfl hG rfl (fun h => andT hG h)) ?_
      refine WL.q rfl rfl rfl (QV.pickOr rfl rfl rfl (fun h => notF h)) ?_
      refine WL.nil ?_
      refine WQ.then ?_
      refine WC.cond rfl (fun h14 => ?_) (fun h14 => ?_)
      · skip
        have hm15 := br_t h14 hm13; clear hm13
        refine WC.region ?_
        refine WL.q rfl rfl rfl (QV.move rfl rfl) ?_
        refine WL.q rfl rfl rfl (QV.move rfl rfl) ?_
        refine WL.q rfl rfl rfl (QV.addW rfl rfl rfl rfl) ?_
        refine WL.q rfl rfl rfl (QV.assign rfl rfl) ?_
        refine WL.nil ?_
        refine WQ.then ?_
        refine WC.seq ?_
        refine WC.region ?_
        refine WL.q rfl rfl rfl (QV.move rfl rfl) ?_
        refine WL.q rfl rfl rfl (QV.move rfl rfl) ?_
        refine WL.q rfl rfl rfl (QV.addW rfl rfl rfl rfl) ?_
        refine WL.q rfl rfl rfl (QV.assign rfl rfl) ?_
        refine WL.nil ?_
        refine WQ.then ?_
        refine WC.seq ?_
        refine WC.seq ?_
        refine WC.region ?_
        refine WL.q rfl rfl rfl (QV.move rfl rfl) ?_
        refine WL.q rfl rfl rfl (QV.lss rfl rfl rfl rfl) ?_
        refine WL.nil ?_
        refine WQ.then ?_
        refine WC.cond rfl (fun h16 => ?_) (fun h16 => ?_)
        · skip
          have hm17 := br_t h16 hm15; clear hm15
          refine WC.region ?_
          refine WL.q rfl rfl rfl (QV.move rfl rfl) ?_
          refine WL.q rfl rfl rfl (QV.addW rfl rfl rfl rfl) ?_
          refine WL.q rfl rfl rfl (QV.assign rfl rfl) ?_
          refine WL.nil ?_
          refine WQ.then ?_
          refine WC.seq ?_
          refine WC.seq ?_
          refine WC.region ?_
          refine WL.q rfl rfl rfl (QV.move rfl rfl) ?_
          refine WL.q rfl rfl rfl (QV.lss rfl rfl rfl rfl) ?_
          refine WL.nil ?_
          refine WQ.then ?_
          refine WC.cond rfl (fun h18 => ?_) (fun h18 => ?_)
          · skip
            have hm19 := br_t h18 hm17; clear hm17
            refine WC.region ?_
            refine WL.q rfl rfl rfl (QV.move rfl rfl) ?_
            refine WL.q rfl rfl rfl (QV.addW rfl rfl rfl rfl) ?_
            refine WL.q rfl rfl rfl (QV.assign rfl rfl) ?_
            refine WL.nil ?_
            refine WQ.then ?_
            refine WC.seq ?_
            refine WC.region ?_
            refine WL.q rfl rfl rfl (QV.move rfl rfl) ?_
            refine WL.q rfl rfl rfl (QV.move rfl rfl) ?_
            refine WL.q rfl rfl rfl (QV.subW rfl rfl rfl rfl) ?_
            obtain ⟨c20, hm21⟩ := ck_some hm19; clear hm19
            refine WL.q rfl rfl rfl (QV.quo rfl rfl rfl rfl (by decide) c20) ?_
            refine WL.q rfl rfl rfl (QV.assign rfl rfl) ?_
            refine WL.nil ?_
            refine WQ.then ?_
            refine WC.region ?_
            refine WL.q rfl rfl rfl (QV.move rfl rfl) ?_
            refine WL.q rfl rfl rfl (QV.move rfl rfl) ?_
            refine WL.q rfl rfl rfl (QV.subW rfl rfl rfl rfl) ?_
            obtain ⟨c22, hm23⟩ := ck_some hm21; clear hm21
            refine WL.q rfl rfl rfl (QV.quo rfl rfl rfl rfl (by decide) c22) ?_
            refine WL.q rfl rfl rfl (QV.assign rfl rfl) ?_
            refine WL.nil ?_
            refine WQ.block ?_
            refine WQ.then ?_
            refine WC.region ?_
            refine WL.q rfl rfl rfl (QV.move rfl rfl) ?_
            refine WL.q rfl rfl rfl (QV.addW rfl rfl rfl rfl) ?_
            refine WL.q rfl rfl rfl (QV.assign rfl rfl) ?_
            refine WL.nil ?_
            exact WQ.again5 (Int.tdiv (IntKind.i64.wrap (a1_1 - (IntKind.i64.wrap ((Int.tmod a1_1 2) + 2)))) 2) (Int.tdiv (IntKind.i64.wrap (b2_1 - (IntKind.i64.wrap ((Int.tmod b2_1 2) + 2)))) 2) (IntKind.i64.wrap (n7_1 + power8_1)) (IntKind.i64.wrap (power8_1 + power8_1)) (IntKind.i64.wrap (i9_1 + 1)) m8 (up_next hm23 hn11) (Nat.lt_succ_self _) ⟨rfl, rfl, rfl, rfl, rfl, rfl, trivial⟩ (fun w hw => hw.pick [0] (by decide))
          · skip
            have hm24 := br_f h18 hm17; clear hm17
            refine WC.skip ?_
            refine WQ.then ?_
            refine WC.seq ?_
            refine WC.region ?_
            refine WL.q rfl rfl rfl (QV.move rfl rfl) ?_
            refine WL.q rfl rfl rfl (QV.move rfl rfl) ?_
            refine WL.q rfl rfl rfl (QV.subW rfl rfl rfl rfl) ?_
            obtain ⟨c25, hm26⟩ := ck_some hm24; clear hm24
            refine WL.q rfl rfl rfl (QV.quo rfl rfl rfl rfl (by decide) c25) ?_
            refine WL.q rfl rfl rfl (QV.assign rfl rfl) ?_
            refine WL.nil ?_
            refine WQ.then ?_
            refine WC.region ?_
            refine WL.q rfl rfl rfl (QV.move rfl rfl) ?_
            refine WL.q rfl rfl rfl (QV.move rfl rfl) ?_
            refine WL.q rfl rfl rfl (QV.subW rfl rfl rfl rfl) ?_
            obtain ⟨c27, hm28⟩ := ck_some hm26; clear hm26
            refine WL.q rfl rfl rfl (QV.quo rfl rfl rfl rfl (by decide) c27) ?_
            refine WL.q rfl rfl rfl (QV.assign rfl rfl) ?_
            refine WL.nil ?_
            refine WQ.block ?_
            refine WQ.then ?_
            refine WC.region ?_
            refine WL.q rfl rfl rfl (QV.move rfl rfl) ?_
            refine WL.q rfl rfl rfl (QV.addW rfl rfl rfl rfl) ?_
            refine WL.q rfl rfl rfl (QV.assign rfl rfl) ?_
            refine WL.nil ?_
            exact WQ.again5 (Int.tdiv (IntKind.i64.wrap (a1_1 - (IntKind.i64.wrap ((Int.tmod a1_1 2) + 2)))) 2) (Int.tdiv (IntKind.i64.wrap (b2_1 - (Int.tmod b2_1 2))) 2) (IntKind.i64.wrap (n7_1 + power8_1)) (IntKind.i64.wrap (power8_1 + power8_1)) (IntKind.i64.wrap (i9_1 + 1)) m8 (up_next hm28 hn11) (Nat.lt_succ_self _) ⟨rfl, rfl, rfl, rfl, rfl, rfl, trivial⟩ (fun w hw => hw.pick [0] (by decide))
        · skip
          have hm29 := br_f h16 hm15; clear hm15
          refine WC.skip ?_
          refine WQ.then ?_
          refine WC.seq ?_
          refine WC.seq ?_
          refine WC.region ?_
          refine WL.q rfl rfl rfl (QV.move rfl rfl) ?_
          refine WL.q rfl rfl rfl (QV.lss rfl rfl rfl rfl) ?_
          refine WL.nil ?_
          refine WQ.then ?_
          refine WC.cond rfl (fun h30 => ?_) (fun h30 => ?_)
          · skip
            have hm31 := br_t h30 hm29; clear hm29
            refine WC.region ?_
            refine WL.q rfl rfl rfl (QV.move rfl rfl) ?_
            refine WL.q rfl rfl rfl (QV.addW rfl rfl rfl rfl) ?_
            refine WL.q rfl rfl rfl (QV.assign rfl rfl) ?_
            refine WL.nil ?_
            refine WQ.then ?_
            refine WC.seq ?_
            refine WC.region ?_
            refine WL.q rfl rfl rfl (QV.move rfl rfl) ?_
            refine WL.q rfl rfl rfl (QV.move rfl rfl) ?_
            refine WL.q rfl rfl rfl (QV.subW rfl rfl rfl rfl) ?_
            obtain ⟨c32, hm33⟩ := ck_some hm31; clear hm31
            refine WL.q rfl rfl rfl (QV.quo rfl rfl rfl rfl (by decide) c32) ?_
            refine WL.q rfl rfl rfl (QV.assign rfl rfl) ?_
            refine WL.nil ?_
            refine WQ.then ?_
            refine WC.region ?_
            refine WL.q rfl rfl rfl (QV.move rfl rfl) ?_
            refine WL.q rfl rfl rfl (QV.move rfl rfl) ?_
            refine WL.q rfl rfl rfl (QV.subW rfl rfl rfl rfl) ?_
            obtain ⟨c34, hm35⟩ := ck_some hm33; clear hm33
            refine WL.q rfl rfl rfl (QV.quo rfl rfl rfl rfl (by decide) c34) ?_
            refine WL.q rfl rfl rfl (QV.assign rfl rfl) ?_
            refine WL.nil ?_
            refine WQ.block ?_
            refine WQ.then ?_
            refine WC.region ?_
            refine WL.q rfl rfl rfl (QV.move rfl rfl) ?_
            refine WL.q rfl rfl rfl (QV.addW rfl rfl rfl rfl) ?_
            refine WL.q rfl rfl rfl (QV.assign rfl rfl) ?_
            refine WL.nil ?_
            exact WQ.again5 (Int.tdiv (IntKind.i64.wrap (a1_1 - (Int.tmod a1_1 2))) 2) (Int.tdiv (IntKind.i64.wrap (b2_1 - (IntKind.i64.wrap ((Int.tmod b2_1 2) + 2)))) 2) (IntKind.i64.wrap (n7_1 + power8_1)) (IntKind.i64.wrap (power8_1 + power8_1)) (IntKind.i64.wrap (i9_1 + 1)) m8 (up_next hm35 hn11) (Nat.lt_succ_self _) ⟨rfl, rfl, rfl, rfl, rfl, rfl, trivial⟩ (fun w hw => hw.pick [0] (by decide))
          · skip
            have hm36 := br_f h30 hm29; clear hm29
            refine WC.skip ?_
            refine WQ.then ?_
            refine WC.seq ?_
            refine WC.region ?_
            refine WL.q rfl rfl rfl (QV.move rfl rfl) ?_
            refine WL.q rfl rfl rfl (QV.move rfl rfl) ?_
            refine WL.q rfl rfl rfl (QV.subW rfl rfl rfl rfl) ?_
            obtain ⟨c37, hm38⟩ := ck_some hm36; clear hm36
            refine WL.q rfl rfl rfl (QV.quo rfl rfl rfl rfl (by decide) c37) ?_
            refine WL.q rfl rfl rfl (QV.assign rfl rfl) ?_
            refine WL.nil ?_
            refine WQ.then ?_
            refine WC.region ?_
            refine WL.q rfl rfl rfl (QV.move rfl rfl) ?_
            refine WL.q rfl rfl rfl (QV.move rfl rfl) ?_
            refine WL.q rfl rfl rfl (QV.subW rfl rfl rfl rfl) ?_
            obtain ⟨c39, hm40⟩ := ck_some hm38; clear hm38
            refine WL.q rfl rfl rfl (QV.quo rfl rfl rfl rfl (by decide) c39) ?_
            refine WL.q rfl rfl rfl (QV.assign rfl rfl) ?_
            refine WL.nil ?_
            refine WQ.block ?_
            refine WQ.then ?_
            refine WC.region ?_
            refine WL.q rfl rfl rfl (QV.move rfl rfl) ?_
            refine WL.q rfl rfl rfl (QV.addW rfl rfl rfl rfl) ?_
            refine WL.q rfl rfl rfl (QV.assign rfl rfl) ?_
            refine WL.nil ?_
            exact WQ.again5 (Int.tdiv (IntKind.i64.wrap (a1_1 - (Int.tmod a1_1 2))) 2) (Int.tdiv (IntKind.i64.wrap (b2_1 - (Int.tmod b2_1 2))) 2) (IntKind.i64.wrap (n7_1 + power8_1)) (IntKind.i64.wrap (power8_1 + power8_1)) (IntKind.i64.wrap (i9_1 + 1)) m8 (up_next hm40 hn11) (Nat.lt_succ_self _) ⟨rfl, rfl, rfl, rfl, rfl, rfl, trivial⟩ (fun w hw => hw.pick [0] (by decide))
      · skip
        have hm41 := br_f h14 hm13; clear hm13
        refine WC.skip ?_
        refine WQ.then ?_
        refine WC.seq ?_
        refine WC.region ?_
        refine WL.q rfl rfl rfl (QV.move rfl rfl) ?_
        refine WL.q rfl rfl rfl (QV.move rfl rfl) ?_
        refine WL.q rfl rfl rfl (QV.addW rfl rfl rfl rfl) ?_
        refine WL.q rfl rfl rfl (QV.assign rfl rfl) ?_
        refine WL.nil ?_
        refine WQ.then ?_
        refine WC.seq ?_
        refine WC.seq ?_
        refine WC.region ?_
        refine WL.q rfl rfl rfl (QV.move rfl rfl) ?_
        refine WL.q rfl rfl rfl (QV.lss rfl rfl rfl rfl) ?_
        refine WL.nil ?_
        refine WQ.then ?_
        refine WC.cond rfl (fun h42 => ?_) (fun h42 => ?_)
        · skip
          have hm43 := br_t h42 hm41; clear hm41
          refine WC.region ?_
          refine WL.q rfl rfl rfl (QV.move rfl rfl) ?_
          refine WL.q rfl rfl rfl (QV.addW rfl rfl rfl rfl) ?_
          refine WL.q rfl rfl rfl (QV.assign rfl rfl) ?_
          refine WL.nil ?_
          refine WQ.then ?_
          refine WC.seq ?_
          refine WC.seq ?_
          refine WC.region ?_
          refine WL.q rfl rfl rfl (QV.move rfl rfl) ?_
          refine WL.q rfl rfl rfl (QV.lss rfl rfl rfl rfl) ?_
          refine WL.nil ?_
          refine WQ.then ?_
          refine WC.cond rfl (fun h44 => ?_) (fun h44 => ?_)
          · skip
            have hm45 := br_t h44 hm43; clear hm43
            refine WC.region ?_
            refine WL.q rfl rfl rfl (QV.move rfl rfl) ?_
            refine WL.q rfl rfl rfl (QV.addW rfl rfl rfl rfl) ?_
            refine WL.q rfl rfl rfl (QV.assign rfl rfl) ?_
            refine WL.nil ?_
            refine WQ.then ?_
            refine WC.seq ?_
            refine WC.region ?_
            refine WL.q rfl rfl rfl (QV.move rfl rfl) ?_
            refine WL.q rfl rfl rfl (QV.move rfl rfl) ?_
            refine WL.q rfl rfl rfl (QV.subW rfl rfl rfl rfl) ?_
            obtain ⟨c46, hm47⟩ := ck_some hm45; clear hm45
            refine WL.q rfl rfl rfl (QV.quo rfl rfl rfl rfl (by decide) c46) ?_
            refine WL.q rfl rfl rfl (QV.assign rfl rfl) ?_
            refine WL.nil ?_
            refine WQ.then ?_
            refine WC.region ?_
            refine WL.q rfl rfl rfl (QV.move rfl rfl) ?_
            refine WL.q rfl rfl rfl (QV.move rfl rfl) ?_
            refine WL.q rfl rfl rfl (QV.subW rfl rfl rfl rfl) ?_
            obtain ⟨c48, hm49⟩ := ck_some hm47; clear hm47
            refine WL.q rfl rfl rfl (QV.quo rfl rfl rfl rfl (by decide) c48) ?_
            refine WL.q rfl rfl rfl (QV.assign rfl rfl) ?_
            refine WL.nil ?_
            refine WQ.block ?_
            refine WQ.then ?_
            refine WC.region ?_
            refine WL.q rfl rfl rfl (QV.move rfl rfl) ?_
            refine WL.q rfl rfl rfl (QV.addW rfl rfl rfl rfl) ?_
            refine WL.q rfl rfl rfl (QV.assign rfl rfl) ?_
            refine WL.nil ?_
            exact WQ.again5 (Int.tdiv (IntKind.i64.wrap (a1_1 - (IntKind.i64.wrap ((Int.tmod a1_1 2) + 2)))) 2) (Int.tdiv (IntKind.i64.wrap (b2_1 - (IntKind.i64.wrap ((Int.tmod b2_1 2) + 2)))) 2) n7_1 (IntKind.i64.wrap (power8_1 + power8_1)) (IntKind.i64.wrap (i9_1 + 1)) m8 (up_next hm49 hn11) (Nat.lt_succ_self _) ⟨rfl, rfl, rfl, rfl, rfl, rfl, trivial⟩ (fun w hw => hw.pick [0] (by decide))
          · skip
            have hm50 := br_f h44 hm43; clear hm43
            refine WC.skip ?_
            refine WQ.then ?_
            refine WC.seq ?_
            refine WC.region ?_
            refine WL.q rfl rfl rfl (QV.move rfl rfl) ?_
            refine WL.q rfl rfl rfl (QV.move rfl rfl) ?_
            refine WL.q rfl rfl rfl (QV.subW rfl rfl rfl rfl) ?_
            obtain ⟨c51, hm52⟩ := ck_some hm50; clear hm50
            refine WL.q rfl rfl rfl (QV.quo rfl rfl rfl rfl (by decide) c51) ?_
            refine WL.q rfl rfl rfl (QV.assign rfl rfl) ?_
            refine WL.nil ?_
            refine WQ.then ?_
            refine WC.region ?_
            refine WL.q rfl rfl rfl (QV.move rfl rfl) ?_
            refine WL.q rfl rfl rfl (QV.move rfl rfl) ?_
            refine WL.q rfl rfl rfl (QV.subW rfl rfl rfl rfl) ?_
            obtain ⟨c53, hm54⟩ := ck_some hm52; clear hm52
            refine WL.q rfl rfl rfl (QV.quo rfl rfl rfl rfl (by decide) c53) ?_
            refine WL.q rfl rfl rfl (QV.assign rfl rfl) ?_
            refine WL.nil ?_
            refine WQ.block ?_
            refine WQ.then ?_
            refine WC.region ?_
            refine WL.q rfl rfl rfl (QV.move rfl rfl) ?_
            refine WL.q rfl rfl rfl (QV.addW rfl rfl rfl rfl) ?_
            refine WL.q rfl rfl rfl (QV.assign rfl rfl) ?_
            refine WL.nil ?_
            exact WQ.again5 (Int.tdiv (IntKind.i64.wrap (a1_1 - (IntKind.i64.wrap ((Int.tmod a1_1 2) + 2)))) 2) (Int.tdiv (IntKind.i64.wrap (b2_1 - (Int.tmod b2_1 2))) 2) n7_1 (IntKind.i64.wrap (power8_1 + power8_1)) (IntKind.i64.wrap (i9_1 + 1)) m8 (up_next hm54 hn11) (Nat.lt_succ_self _) ⟨rfl, rfl, rfl, rfl, rfl, rfl, trivial⟩ (fun w hw => hw.pick [0] (by decide))
        · skip
          have hm55 := br_f h42 hm41; clear hm41
          refine WC.skip ?_
          refine WQ.then ?_
          refine WC.seq ?_
          refine WC.seq ?_
          refine WC.region ?_
          refine WL.q rfl rfl rfl (QV.move rfl rfl) ?_
          refine WL.q rfl rfl rfl (QV.lss rfl rfl rfl rfl) ?_
          refine WL.nil ?_
          refine WQ.then ?_
          refine WC.cond rfl (fun h56 => ?_) (fun h56 => ?_)
          · skip
            have hm57 := br_t h56 hm55; clear hm55
            refine WC.region ?_
            refine WL.q rfl rfl rfl (QV.move rfl rfl) ?_
            refine WL.q rfl rfl rfl (QV.addW rfl rfl rfl rfl) ?_
            refine WL.q rfl rfl rfl (QV.assign rfl rfl) ?_
            refine WL.nil ?_
            refine WQ.then ?_
            refine WC.seq ?_
            refine WC.region ?_
            refine WL.q rfl rfl rfl (QV.move rfl rfl) ?_
            refine WL.q rfl rfl rfl (QV.move rfl rfl) ?_
            refine WL.q rfl rfl rfl (QV.subW rfl rfl rfl rfl) ?_
            obtain ⟨c58, hm59⟩ := ck_some hm57; clear hm57
            refine WL.q rfl rfl rfl (QV.quo rfl rfl rfl rfl (by decide) c58) ?_
            refine WL.q rfl rfl rfl (QV.assign rfl rfl) ?_
            refine WL.nil ?_
            refine WQ.then ?_
            refine WC.region ?_
            refine WL.q rfl rfl rfl (QV.move rfl rfl) ?_
            refine WL.q rfl rfl rfl (QV.move rfl rfl) ?_
            refine WL.q rfl rfl rfl (QV.subW rfl rfl rfl rfl) ?_
            obtain ⟨c60, hm61⟩ := ck_some hm59; clear hm59
            refine WL.q rfl rfl rfl (QV.quo rfl rfl rfl rfl (by decide) c60) ?_
            refine WL.q rfl rfl rfl (QV.assign rfl rfl) ?_
            refine WL.nil ?_
            refine WQ.block ?_
            refine WQ.then ?_
            refine WC.region ?_
            refine WL.q rfl rfl rfl (QV.move rfl rfl) ?_
            refine WL.q rfl rfl rfl (QV.addW rfl rfl rfl rfl) ?_
            refine WL.q rfl rfl rfl (QV.assign rfl rfl) ?_
            refine WL.nil ?_
            exact WQ.again5 (Int.tdiv (IntKind.i64.wrap (a1_1 - (Int.tmod a1_1 2))) 2) (Int.tdiv (IntKind.i64.wrap (b2_1 - (IntKind.i64.wrap ((Int.tmod b2_1 2) + 2)))) 2) n7_1 (IntKind.i64.wrap (power8_1 + power8_1)) (IntKind.i64.wrap (i9_1 + 1)) m8 (up_next hm61 hn11) (Nat.lt_succ_self _) ⟨rfl, rfl, rfl, rfl, rfl, rfl, trivial⟩ (fun w hw => hw.pick [0] (by decide))
          · skip
            have hm62 := br_f h56 hm55; clear hm55
            refine WC.skip ?_
            refine WQ.then ?_
            refine WC.seq ?_
            refine WC.region ?_
            refine WL.q rfl rfl rfl (QV.move rfl rfl) ?_
            refine WL.q rfl rfl rfl (QV.move rfl rfl) ?_
            refine WL.q rfl rfl rfl (QV.subW rfl rfl rfl rfl) ?_
            obtain ⟨c63, hm64⟩ := ck_some hm62; clear hm62
            refine WL.q rfl rfl rfl (QV.quo rfl rfl rfl rfl (by decide) c63) ?_
            refine WL.q rfl rfl rfl (QV.assign rfl rfl) ?_
            refine WL.nil ?_
            refine WQ.then ?_
            refine WC.region ?_
            refine WL.q rfl rfl rfl (QV.move rfl rfl) ?_
            refine WL.q rfl rfl rfl (QV.move rfl rfl) ?_
            refine WL.q rfl rfl rfl (QV.subW rfl rfl rfl rfl) ?_
            obtain ⟨c65, hm66⟩ := ck_some hm64; clear hm64
            refine WL.q rfl rfl rfl (QV.quo rfl rfl rfl rfl (by decide) c65) ?_
            refine WL.q rfl rfl rfl (QV.assign rfl rfl) ?_
            refine WL.nil ?_
            refine WQ.block ?_
            refine WQ.then ?_
            refine WC.region ?_
            refine WL.q rfl rfl rfl (QV.move rfl rfl) ?_
            refine WL.q rfl rfl rfl (QV.addW rfl rfl rfl rfl) ?_
            refine WL.q rfl rfl rfl (QV.assign rfl rfl) ?_
            refine WL.nil ?_
            exact WQ.again5 (Int.tdiv (IntKind.i64.wrap (a1_1 - (Int.tmod a1_1 2))) 2) (Int.tdiv (IntKind.i64.wrap (b2_1 - (Int.tmod b2_1 2))) 2) n7_1 (IntKind.i64.wrap (power8_1 + power8_1)) (IntKind.i64.wrap (i9_1 + 1)) m8 (up_next hm66 hn11) (Nat.lt_succ_self _) ⟨rfl, rfl, rfl, rfl, rfl, rfl, trivial⟩ (fun w hw => hw.pick [0] (by decide))
    · skip
      have hm67 := br_f h12 hm10; clear hm10
      refine WC.exit ?_
      refine WQ.then_exit ?_
      refine WQ.then_exit ?_
      refine WQ.block_exit ?_
      exact WQ.out5 a1_1 b2_1 n7_1 power8_1 i9_1 (up_brk hm67 hn11) ⟨rfl, rfl, rfl, rfl, rfl, rfl, trivial⟩ (fun w hw => hw.pick [0] (by decide))

set_option maxRecDepth 8000 in
theorem roundelayref1_Op_w {op : Int} {a : Int} {b : Int} {r : Int} (w : World) (hm : roundelayref1_Op_m op a b = some r)  : Calls Try.prog 25 #[.int .i64 op, .int .i64 a, .int .i64 b] w (fun e w' => e = .returned (.int .i64 r) ∧ Grow w w') := by
  unfold roundelayref1_Op_m at hm
  have hk := Base.rfl (w := w)
  refine calls_of_WC (n := 41) (args := [.int .i64 op, .int .i64 a, .int .i64 b]) Try.func25 rfl rfl (Nat.le_of_ble_eq_true rfl) ?_ (Own.startK hk (Own.start w))
  refine WC.seq ?_
  refine WC.region ?_
  refine WL.q rfl rfl rfl (QV.assign rfl rfl) ?_
  refine WL.nil ?_
  refine WQ.then ?_
  refine WC.seq ?_
  refine WC.seq ?_
  refine WC.region ?_
  refine WL.q rfl rfl rfl (QV.move rfl rfl) ?_
  refine WL.nil ?_
  refine WQ.then ?_
  refine WC.block ?_
  refine WC.seq ?_
  refine WC.region ?_
  refine WL.q rfl rfl rfl (QV.eql rfl rfl rfl rfl) ?_
  refine WL.q rfl rfl rfl (QV.assign rfl rfl) ?_
  refine WL.nil ?_
  refine WQ.then ?_
  refine WC.cond rfl (fun h1 => ?_) (fun h1 => ?_)
  · skip
    have hm2 := br_t h1 hm; clear hm
    refine WC.seq ?_
    refine WC.region ?_
    refine WL.q rfl rfl rfl (QV.move rfl rfl) ?_
    refine WL.q rfl rfl rfl (QV.move rfl rfl) ?_
    refine WL.q rfl rfl rfl (QV.addW rfl rfl rfl rfl) ?_
    refine WL.q rfl rfl rfl (QV.assign rfl rfl) ?_
    refine WL.nil ?_
    refine WQ.then ?_
    refine WC.ret ?_
    refine WQ.block_ret ?_
    refine WQ.then_ret ?_
    obtain rfl := eq_of_some hm2
    refine WQ.ret1 rfl rfl (fun w hw => ?_)
    exact ⟨rfl, Own.kgrow (fun _ x => x) hw⟩
  · skip
    have hm3 := br_f h1 hm; clear hm
    refine WC.seq ?_
    refine WC.region ?_
    refine WL.q rfl rfl rfl (QV.eql rfl rfl rfl rfl) ?_
    refine WL.q rfl rfl rfl (QV.assign rfl rfl) ?_
    refine WL.nil ?_
    refine WQ.then ?_
    refine WC.cond rfl (fun h4 => ?_) (fun h4 => ?_)
    · skip
      have hm5 := br_t h4 hm3; clear hm3
      refine WC.seq ?_
      refine WC.region ?_
      refine WL.q rfl rfl rfl (QV.move rfl rfl) ?_
      refine WL.q rfl rfl rfl (QV.move rfl rfl) ?_
      refine WL.q rfl rfl rfl (QV.subW rfl rfl rfl rfl) ?_
      refine WL.q rfl rfl rfl (QV.assign rfl rfl) ?_
      refine WL.nil ?_
      refine WQ.then ?_
      refine WC.ret ?_
      refine WQ.block_ret ?_
      refine WQ.then_ret ?_
      obtain rfl := eq_of_some hm5
      refine WQ.ret1 rfl rfl (fun w hw => ?_)
      exact ⟨rfl, Own.kgrow (fun _ x => x) hw⟩
    · skip
      have hm6 := br_f h4 hm3; clear hm3
      refine WC.seq ?_
      refine WC.region ?_
      refine WL.q rfl rfl rfl (QV.eql rfl rfl rfl rfl) ?_
      refine WL.q rfl rfl rfl (QV.assign rfl rfl) ?_
      refine WL.nil ?_
      refine WQ.then ?_
      refine WC.cond rfl (fun h7 => ?_) (fun h7 => ?_)
      · skip
        have hm8 := br_t h7 hm6; clear hm6
        refine WC.seq ?_
        refine WC.region ?_
        refine WL.q rfl rfl rfl (QV.move rfl rfl) ?_
        refine WL.q rfl rfl rfl (QV.move rfl rfl) ?_
        refine WL.q rfl rfl rfl (QV.mulW rfl rfl rfl rfl) ?_
        refine WL.q rfl rfl rfl (QV.assign rfl rfl) ?_
        refine WL.nil ?_
        refine WQ.then ?_
        refine WC.ret ?_
        refine WQ.block_ret ?_
        refine WQ.then_ret ?_
        obtain rfl := eq_of_some hm8
        refine WQ.ret1 rfl rfl (fun w hw => ?_)
        exact ⟨rfl, Own.kgrow (fun _ x => x) hw⟩
      · skip
        have hm9 := br_f h7 hm6; clear hm6
        refine WC.seq ?_
        refine WC.seq ?_
        refine WC.region ?_
        refine WL.q rfl rfl rfl (QV.eql rfl rfl rfl rfl) ?_
        refine WL.q rfl rfl rfl (QV.assign rfl rfl) ?_
        refine WL.nil ?_
        refine WQ.then ?_
        refine WC.cond rfl (fun h10 => ?_) (fun h10 => ?_)
        · skip
          have hm11 := br_t h10 hm9; clear hm9
          refine WC.skip ?_
          refine WQ.then ?_
          refine WC.cond rfl (fun h12 => ?_) (fun h12 => ?_)
          · skip
            have hm13 := br_t h12 hm11; clear hm11
            refine WC.seq ?_
            refine WC.region ?_
            refine WL.q rfl rfl rfl (QV.move rfl rfl) ?_
            refine WL.q rfl rfl rfl (QV.move rfl rfl) ?_
            refine WL.q rfl rfl rfl (QV.move rfl rfl) ?_
            obtain ⟨x14, hx15, hm16⟩ := bd_some hm13; clear hm13
            refine WL.q rfl rfl rfl (QV.call en45 (EvAll.cons rfl rfl (EvAll.cons rfl rfl (EvAll.cons rfl rfl EvAll.nil))) (fun w hw => have h := roundelayref1_bits_w w hx15 ; h)) ?_
            refine WL.q rfl rfl rfl (QV.assign rfl rfl) ?_
            refine WL.nil ?_
            refine WQ.then ?_
            refine WC.ret ?_
            refine WQ.block_ret ?_
            refine WQ.then_ret ?_
            obtain rfl := eq_of_some hm16
            refine WQ.ret1 rfl rfl (fun w hw => ?_)
            exact ⟨rfl, Own.kgrow (fun _ x => x) hw⟩
          · skip
            have hm17 := br_f h12 hm11; clear hm11
            refine WC.seq ?_
            refine WC.region ?_
            refine WL.q rfl rfl rfl (QV.eql rfl rfl rfl rfl) ?_
            refine WL.q rfl rfl rfl (QV.assign rfl rfl) ?_
            refine WL.nil ?_
            refine WQ.then ?_
            refine WC.cond rfl (fun h18 => ?_) (fun h18 => ?_)
            · skip
              have hm19 := br_t h18 hm17; clear hm17
              refine WC.seq ?_
              refine WC.region ?_
              refine WL.q rfl rfl rfl (QV.move rfl rfl) ?_
              refine WL.q rfl rfl rfl (QV.move rfl rfl) ?_
              refine WL.q rfl rfl rfl (QV.lss rfl rfl rfl rfl) ?_
              refine WL.nil ?_
              refine WQ.then ?_
              refine WC.cond rfl (fun h20 => ?_) (fun h20 => ?_)
              · skip
                have hm21 := br_t h20 hm19; clear hm19
                refine WC.seq ?_
                refine WC.region ?_
                refine WL.q rfl rfl rfl (QV.assign rfl rfl) ?_
                refine WL.nil ?_
                refine WQ.then ?_
                refine WC.ret ?_
                refine WQ.block_ret ?_
                refine WQ.then_ret ?_
                obtain rfl := eq_of_some hm21
                refine WQ.ret1 rfl rfl (fun w hw => ?_)
                exact ⟨rfl, Own.kgrow (fun _ x => x) hw⟩
              · skip
                have hm22 := br_f h20 hm19; clear hm19
                refine WC.skip ?_
                refine WQ.block ?_
                refine WQ.then ?_
                refine WC.seq ?_
                refine WC.region ?_
                refine WL.q rfl rfl rfl (QV.assign rfl rfl) ?_
                refine WL.nil ?_
                refine WQ.then ?_
                refine WC.ret ?_
                obtain rfl := eq_of_some hm22
                refine WQ.ret1 rfl rfl (fun w hw => ?_)
                exact ⟨rfl, Own.kgrow (fun _ x => x) hw⟩
            · skip
              have hm23 := br_f h18 hm17; clear hm17
              refine WC.seq ?_
              refine WC.region ?_
              refine WL.q rfl rfl rfl (QV.eql rfl rfl rfl rfl) ?_
              refine WL.q rfl rfl rfl (QV.assign rfl rfl) ?_
              refine WL.nil ?_
              refine WQ.then ?_
              refine WC.cond rfl (fun h24 => ?_) (fun h24 => ?_)
              · skip
                have hm25 := br_t h24 hm23; clear hm23
                refine WC.seq ?_
                refine WC.region ?_
                refine WL.q rfl rfl rfl (QV.move rfl rfl) ?_
                refine WL.q rfl rfl rfl (QV.move rfl rfl) ?_
                refine WL.q rfl rfl rfl (QV.eql rfl rfl rfl rfl) ?_
                refine WL.nil ?_
                refine WQ.then ?_
                refine WC.cond rfl (fun h26 => ?_) (fun h26 => ?_)
                · skip
                  have hm27 := br_t h26 hm25; clear hm25
                  refine WC.seq ?_
                  refine WC.region ?_
                  refine WL.q rfl rfl rfl (QV.assign rfl rfl) ?_
                  refine WL.nil ?_
                  refine WQ.then ?_
                  refine WC.ret ?_
                  refine WQ.block_ret ?_
                  refine WQ.then_ret ?_
                  obtain rfl := eq_of_some hm27
                  refine WQ.ret1 rfl rfl (fun w hw => ?_)
                  exact ⟨rfl, Own.kgrow (fun _ x => x) hw⟩
                · skip
                  have hm28 := br_f h26 hm25; clear hm25
                  refine WC.skip ?_
                  refine WQ.block ?_
                  refine WQ.then ?_
                  refine WC.seq ?_
                  refine WC.region ?_
                  refine WL.q rfl rfl rfl (QV.assign rfl rfl) ?_
                  refine WL.nil ?_
                  refine WQ.then ?_
                  refine WC.ret ?_
                  obtain rfl := eq_of_some hm28
                  refine WQ.ret1 rfl rfl (fun w hw => ?_)
                  exact ⟨rfl, Own.kgrow (fun _ x => x) hw⟩
              · skip
                have hm29 := br_f h24 hm23; clear hm23
                refine WC.skip ?_
                refine WQ.block ?_
                refine WQ.then ?_
                refine WC.seq ?_
                refine WC.region ?_
                refine WL.q rfl rfl rfl (QV.assign rfl rfl) ?_
                refine WL.nil ?_
                refine WQ.then ?_
                refine WC.ret ?_
                obtain rfl := eq_of_some hm29
                refine WQ.ret1 rfl rfl (fun w hw => ?_)
                exact ⟨rfl, Own.kgrow (fun _ x => x) hw⟩
        · skip
          have hm30 := br_f h10 hm9; clear hm9
          refine WC.seq ?_
          refine WC.region ?_
          refine WL.q rfl rfl rfl (QV.eql rfl rfl rfl rfl) ?_
          refine WL.q rfl rfl rfl (QV.assign rfl rfl) ?_
          refine WL.nil ?_
          refine WQ.then ?_
          refine WC.cond rfl (fun h31 => ?_) (fun h31 => ?_)
          · skip
            have hm32 := br_t h31 hm30; clear hm30
            refine WC.skip ?_
            refine WQ.then ?_
            refine WC.cond rfl (fun h33 => ?_) (fun h33 => ?_)
            · skip
              have hm34 := br_t h33 hm32; clear hm32
              refine WC.seq ?_
              refine WC.region ?_
              refine WL.q rfl rfl rfl (QV.move rfl rfl) ?_
              refine WL.q rfl rfl rfl (QV.move rfl rfl) ?_
              refine WL.q rfl rfl rfl (QV.move rfl rfl) ?_
              obtain ⟨x35, hx36, hm37⟩ := bd_some hm34; clear hm34
              refine WL.q rfl rfl rfl (QV.call en45 (EvAll.cons rfl rfl (EvAll.cons rfl rfl (EvAll.cons rfl rfl EvAll.nil))) (fun w hw => have h := roundelayref1_bits_w w hx36 ; h)) ?_
              refine WL.q rfl rfl rfl (QV.assign rfl rfl) ?_
              refine WL.nil ?_
              refine WQ.then ?_
              refine WC.ret ?_
              refine WQ.block_ret ?_
              refine WQ.then_ret ?_
              obtain rfl := eq_of_some hm37
              refine WQ.ret1 rfl rfl (fun w hw => ?_)
              exact ⟨rfl, Own.kgrow (fun _ x => x) hw⟩
            · skip
              have hm38 := br_f h33 hm32; clear hm32
              refine WC.seq ?_
              refine WC.region ?_
              refine WL.q rfl rfl rfl (QV.eql rfl rfl rfl rfl) ?_
              refine WL.q rfl rfl rfl (QV.assign rfl rfl) ?_
              refine WL.nil ?_
              refine WQ.then ?_
              refine WC.cond rfl (fun h39 => ?_) (fun h39 => ?_)
              · skip
                have hm40 := br_t h39 hm38; clear hm38
                refine WC.seq ?_
                refine WC.region ?_
                refine WL.q rfl rfl rfl (QV.move rfl rfl) ?_
                refine WL.q rfl rfl rfl (QV.move rfl rfl) ?_
                refine WL.q rfl rfl rfl (QV.lss rfl rfl rfl rfl) ?_
                refine WL.nil ?_
                refine WQ.then ?_
                refine WC.cond rfl (fun h41 => ?_) (fun h41 => ?_)
                · skip
                  have hm42 := br_t h41 hm40; clear hm40
                  refine WC.seq ?_
                  refine WC.region ?_
                  refine WL.q rfl rfl rfl (QV.assign rfl rfl) ?_
                  refine WL.nil ?_
                  refine WQ.then ?_
                  refine WC.ret ?_
                  refine WQ.block_ret ?_
                  refine WQ.then_ret ?_
                  obtain rfl := eq_of_some hm42
                  refine WQ.ret1 rfl rfl (fun w hw => ?_)
                  exact ⟨rfl, Own.kgrow (fun _ x => x) hw⟩
                · skip
                  have hm43 := br_f h41 hm40; clear hm40
                  refine WC.skip ?_
                  refine WQ.block ?_
                  refine WQ.then ?_
                  refine WC.seq ?_
                  refine WC.region ?_
                  refine WL.q rfl rfl rfl (QV.assign rfl rfl) ?_
                  refine WL.nil ?_
                  refine WQ.then ?_
                  refine WC.ret ?_
                  obtain rfl := eq_of_some hm43
                  refine WQ.ret1 rfl rfl (fun w hw => ?_)
                  exact ⟨rfl, Own.kgrow (fun _ x => x) hw⟩
              · skip
                have hm44 := br_f h39 hm38; clear hm38
                refine WC.seq ?_
                refine WC.region ?_
                refine WL.q rfl rfl rfl (QV.eql rfl rfl rfl rfl) ?_
                refine WL.q rfl rfl rfl (QV.assign rfl rfl) ?_
                refine WL.nil ?_
                refine WQ.then ?_
                refine WC.cond rfl (fun h45 => ?_) (fun h45 => ?_)
                · skip
                  have hm46 := br_t h45 hm44; clear hm44
                  refine WC.seq ?_
                  refine WC.region ?_
                  refine WL.q rfl rfl rfl (QV.move rfl rfl) ?_
                  refine WL.q rfl rfl rfl (QV.move rfl rfl) ?_
                  refine WL.q rfl rfl rfl (QV.eql rfl rfl rfl rfl) ?_
                  refine WL.nil ?_
                  refine WQ.then ?_
                  refine WC.cond rfl (fun h47 => ?_) (fun h47 => ?_)
                  · skip
                    have hm48 := br_t h47 hm46; clear hm46
                    refine WC.seq ?_
                    refine WC.region ?_
                    refine WL.q rfl rfl rfl (QV.assign rfl rfl) ?_
                    refine WL.nil ?_
                    refine WQ.then ?_
                    refine WC.ret ?_
                    refine WQ.block_ret ?_
                    refine WQ.then_ret ?_
                    obtain rfl := eq_of_some hm48
                    refine WQ.ret1 rfl rfl (fun w hw => ?_)
                    exact ⟨rfl, Own.kgrow (fun _ x => x) hw⟩
                  · skip
                    have hm49 := br_f h47 hm46; clear hm46
                    refine WC.skip ?_
                    refine WQ.block ?_
                    refine WQ.then ?_
                    refine WC.seq ?_
                    refine WC.region ?_
                    refine WL.q rfl rfl rfl (QV.assign rfl rfl) ?_
                    refine WL.nil ?_
                    refine WQ.then ?_
                    refine WC.ret ?_
                    obtain rfl := eq_of_some hm49
                    refine WQ.ret1 rfl rfl (fun w hw => ?_)
                    exact ⟨rfl, Own.kgrow (fun _ x => x) hw⟩
                · skip
                  have hm50 := br_f h45 hm44; clear hm44
                  refine WC.skip ?_
                  refine WQ.block ?_
                  refine WQ.then ?_
                  refine WC.seq ?_
                  refine WC.region ?_
                  refine WL.q rfl rfl rfl (QV.assign rfl rfl) ?_
                  refine WL.nil ?_
                  refine WQ.then ?_
                  refine WC.ret ?_
                  obtain rfl := eq_of_some hm50
                  refine WQ.ret1 rfl rfl (fun w hw => ?_)
                  exact ⟨rfl, Own.kgrow (fun _ x => x) hw⟩
          · skip
            have hm51 := br_f h31 hm30; clear hm30
            refine WC.region ?_
            refine WL.q rfl rfl rfl (QV.eql rfl rfl rfl rfl) ?_
            refine WL.q rfl rfl rfl (QV.assign rfl rfl) ?_
            refine WL.nil ?_
            refine WQ.then ?_
            refine WC.cond rfl (fun h52 => ?_) (fun h52 => ?_)
            · skip
              have hm53 := br_t h52 hm51; clear hm51
              refine WC.seq ?_
              refine WC.region ?_
              refine WL.q rfl rfl rfl (QV.move rfl rfl) ?_
              refine WL.q rfl rfl rfl (QV.move rfl rfl) ?_
              refine WL.q rfl rfl rfl (QV.move rfl rfl) ?_
              obtain ⟨x54, hx55, hm56⟩ := bd_some hm53; clear hm53
              refine WL.q rfl rfl rfl (QV.call en45 (EvAll.cons rfl rfl (EvAll.cons rfl rfl (EvAll.cons rfl rfl EvAll.nil))) (fun w hw => have h := roundelayref1_bits_w w hx55 ; h)) ?_
              refine WL.q rfl rfl rfl (QV.assign rfl rfl) ?_
              refine WL.nil ?_
              refine WQ.then ?_
              refine WC.ret ?_
              refine WQ.block_ret ?_
              refine WQ.then_ret ?_
              obtain rfl := eq_of_some hm56
              refine WQ.ret1 rfl rfl (fun w hw => ?_)
              exact ⟨rfl, Own.kgrow (fun _ x => x) hw⟩
            · skip
              have hm57 := br_f h52 hm51; clear hm51
              refine WC.seq ?_
              refine WC.region ?_
              refine WL.q rfl rfl rfl (QV.eql rfl rfl rfl rfl) ?_
              refine WL.q rfl rfl rfl (QV.assign rfl rfl) ?_
              refine WL.nil ?_
              refine WQ.then ?_
              refine WC.cond rfl (fun h58 => ?_) (fun h58 => ?_)
              · skip
                have hm59 := br_t h58 hm57; clear hm57
                refine WC.seq ?_
                refine WC.region ?_
                refine WL.q rfl rfl rfl (QV.move rfl rfl) ?_
                refine WL.q rfl rfl rfl (QV.move rfl rfl) ?_
                refine WL.q rfl rfl rfl (QV.lss rfl rfl rfl rfl) ?_
                refine WL.nil ?_
                refine WQ.then ?_
                refine WC.cond rfl (fun h60 => ?_) (fun h60 => ?_)
                · skip
                  have hm61 := br_t h60 hm59; clear hm59
                  refine WC.seq ?_
                  refine WC.region ?_
                  refine WL.q rfl rfl rfl (QV.assign rfl rfl) ?_
                  refine WL.nil ?_
                  refine WQ.then ?_
                  refine WC.ret ?_
                  refine WQ.block_ret ?_
                  refine WQ.then_ret ?_
                  obtain rfl := eq_of_some hm61
                  refine WQ.ret1 rfl rfl (fun w hw => ?_)
                  exact ⟨rfl, Own.kgrow (fun _ x => x) hw⟩
                · skip
                  have hm62 := br_f h60 hm59; clear hm59
                  refine WC.skip ?_
                  refine WQ.block ?_
                  refine WQ.then ?_
                  refine WC.seq ?_
                  refine WC.region ?_
                  refine WL.q rfl rfl rfl (QV.assign rfl rfl) ?_
                  refine WL.nil ?_
                  refine WQ.then ?_
                  refine WC.ret ?_
                  obtain rfl := eq_of_some hm62
                  refine WQ.ret1 rfl rfl (fun w hw => ?_)
                  exact ⟨rfl, Own.kgrow (fun _ x => x) hw⟩
              · skip
                have hm63 := br_f h58 hm57; clear hm57
                refine WC.seq ?_
                refine WC.region ?_
                refine WL.q rfl rfl rfl (QV.eql rfl rfl rfl rfl) ?_
                refine WL.q rfl rfl rfl (QV.assign rfl rfl) ?_
                refine WL.nil ?_
                refine WQ.then ?_
                refine WC.cond rfl (fun h64 => ?_) (fun h64 => ?_)
                · skip
                  have hm65 := br_t h64 hm63; clear hm63
                  refine WC.seq ?_
                  refine WC.region ?_
                  refine WL.q rfl rfl rfl (QV.move rfl rfl) ?_
                  refine WL.q rfl rfl rfl (QV.move rfl rfl) ?_
                  refine WL.q rfl rfl rfl (QV.eql rfl rfl rfl rfl) ?_
                  refine WL.nil ?_
                  refine WQ.then ?_
                  refine WC.cond rfl (fun h66 => ?_) (fun h66 => ?_)
                  · skip
                    have hm67 := br_t h66 hm65; clear hm65
                    refine WC.seq ?_
                    refine WC.region ?_
                    refine WL.q rfl rfl rfl (QV.assign rfl rfl) ?_
                    refine WL.nil ?_
                    refine WQ.then ?_
                    refine WC.ret ?_
                    refine WQ.block_ret ?_
                    refine WQ.then_ret ?_
                    obtain rfl := eq_of_some hm67
                    refine WQ.ret1 rfl rfl (fun w hw => ?_)
                    exact ⟨rfl, Own.kgrow (fun _ x => x) hw⟩
                  · skip
                    have hm68 := br_f h66 hm65; clear hm65
                    refine WC.skip ?_
                    refine WQ.block ?_
                    refine WQ.then ?_
                    refine WC.seq ?_
                    refine WC.region ?_
                    refine WL.q rfl rfl rfl (QV.assign rfl rfl) ?_
                    refine WL.nil ?_
                    refine WQ.then ?_
                    refine WC.ret ?_
                    obtain rfl := eq_of_some hm68
                    refine WQ.ret1 rfl rfl (fun w hw => ?_)
                    exact ⟨rfl, Own.kgrow (fun _ x => x) hw⟩
                · skip
                  have hm69 := br_f h64 hm63; clear hm63
                  refine WC.skip ?_
                  refine WQ.block ?_
                  refine WQ.then ?_
                  refine WC.seq ?_
                  refine WC.region ?_
                  refine WL.q rfl rfl rfl (QV.assign rfl rfl) ?_
                  refine WL.nil ?_
                  refine WQ.then ?_
                  refine WC.ret ?_
                  obtain rfl := eq_of_some hm69
                  refine WQ.ret1 rfl rfl (fun w hw => ?_)
                  exact ⟨rfl, Own.kgrow (fun _ x => x) hw⟩

set_option maxRecDepth 8000 in
theorem roundelayref1_Index_w {step : Int} {plus : Int} {turn : Int} {log : Int} {r : Int} (w : World) (hm : roundelayref1_Index_m step plus turn log = some r)  : Calls Try.prog 27 #[.int .i64 step, .int .i64 plus, .int .i64 turn, .int .i64 log] w (fun e w' => e = .returned (.int .i64 r) ∧ Grow w w') := by
  unfold roundelayref1_Index_m at hm
  have hk := Base.rfl (w := w)
  refine calls_of_WC (n := 47) (args := [.int .i64 step, .int .i64 plus, .int .i64 turn, .int .i64 log]) Try.func27 rfl rfl (Nat.le_of_ble_eq_true rfl) ?_ (Own.startK hk (Own.start w))
  refine WC.seq ?_
  refine WC.region ?_
  refine WL.q rfl rfl rfl (QV.assign rfl rfl) ?_
  refine WL.nil ?_
  refine WQ.then ?_
  refine WC.seq ?_
  refine WC.seq ?_
  refine WC.region ?_
  refine WL.q rfl rfl rfl (QV.move rfl rfl) ?_
  refine WL.q rfl rfl rfl (QV.lss rfl rfl rfl rfl) ?_
  refine WL.q rfl rfl rfl (QV.move rfl rfl) ?_
  refine WL.g rfl rfl (GuardIs.neg rfl rfl) (fun hG => QV.move rfl rfl) ?_
  refine WL.g rfl rfl (GuardIs.neg rfl rfl) (fun hG => QV.gtr rfl hG rfl rfl) ?_
  refine WL.q rfl rfl rfl (QV.pickOr rfl rfl rfl (fun h => notF h)) ?_
  refine WL.q rfl rfl rfl (QV.move rfl rfl) ?_
  refine WL.g rfl rfl (GuardIs.neg rfl rfl) (fun hG => QV.move rfl rfl) ?_
  refine WL.g rfl rfl (GuardIs.neg rfl rfl) (fun hG => QV.lss rfl hG rfl rfl) ?_
  refine WL.q rfl rfl rfl (QV.pickOr rfl rfl rfl (fun h => notF h)) ?_
  refine WL.q rfl rfl rfl (QV.move rfl rfl) ?_
  refine WL.g rfl rfl (GuardIs.neg rfl rfl) (fun hG => QV.move rfl rfl) ?_
  refine WL.g rfl rfl (GuardIs.neg rfl rfl) (fun hG => QV.gtr rfl hG rfl rfl) ?_
  refine WL.q rfl rfl rfl (QV.pickOr rfl rfl rfl (fun h => notF h)) ?_
  refine WL.q rfl rfl rfl (QV.move rfl rfl) ?_
  refine WL.g rfl rfl (GuardIs.neg rfl rfl) (fun hG => QV.move rfl rfl) ?_
  refine WL.g rfl rfl (GuardIs.neg rfl rfl) (fun hG => QV.lss rfl hG rfl rfl) ?_
  refine WL.q rfl rfl rfl (QV.pickOr rfl rfl rfl (fun h => notF h)) ?_
  refine WL.q rfl rfl rfl (QV.move rfl rfl) ?_
  refine WL.g rfl rfl (GuardIs.neg rfl rfl) (fun hG => QV.move rfl rfl) ?_
  refine WL.g rfl rfl (GuardIs.neg rfl rfl) (fun hG => QV.gtr rfl hG rfl rfl) ?_
  refine WL.q rfl rfl rfl (QV.pickOr rfl rfl rfl (fun h => notF h)) ?_
  refine WL.q rfl rfl rfl (QV.move rfl rfl) ?_
  refine WL.g rfl rfl (GuardIs.neg rfl rfl) (fun hG => QV.move rfl rfl) ?_
  refine WL.g rfl rfl (GuardIs.neg rfl rfl) (fun hG => QV.lss rfl hG rfl rfl) ?_
  refine WL.q rfl rfl rfl (QV.pickOr rfl rfl rfl (fun h => notF h)) ?_
  refine WL.q rfl rfl rfl (QV.move rfl rfl) ?_
  refine WL.g rfl rfl (GuardIs.neg rfl rfl) (fun hG => QV.move rfl rfl) ?_
  refine WL.g rfl rfl (GuardIs.neg rfl rfl) (fun hG => QV.gtr rfl hG rfl rfl) ?_
  refine WL.q rfl rfl rfl (QV.pickOr rfl rfl rfl (fun h => notF h)) ?_
  refine WL.nil ?_
  refine WQ.then ?_
  refine WC.cond rfl (fun h1 => ?_) (fun h1 => ?_)
  · skip
    have hm2 := br_t h1 hm; clear hm
    refine WC.seq ?_
    refine WC.region ?_
    refine WL.q rfl rfl rfl (QV.assign rfl rfl) ?_
    refine WL.nil ?_
    refine WQ.then ?_
    refine WC.ret ?_
    refine WQ.then_ret ?_
    obtain rfl := eq_of_some hm2
    refine WQ.ret1 rfl rfl (fun w hw => ?_)
    exact ⟨rfl, Own.kgrow (fun _ x => x) hw⟩
  · skip
    have hm3 := br_f h1 hm; clear hm
    refine WC.skip ?_
    refine WQ.then ?_
    refine WC.seq ?_
    refine WC.region ?_
    refine WL.q rfl rfl rfl (QV.move rfl rfl) ?_
    refine WL.q rfl rfl rfl (QV.move rfl rfl) ?_
    obtain ⟨c4, hm5⟩ := ck_some hm3; clear hm3
    refine WL.q rfl rfl rfl (QV.mul rfl rfl rfl rfl c4) ?_
    refine WL.q rfl rfl rfl (QV.move rfl rfl) ?_
    obtain ⟨c6, hm7⟩ := ck_some hm5; clear hm5
    refine WL.q rfl rfl rfl (QV.add rfl rfl rfl rfl c6) ?_
    refine WL.q rfl rfl rfl (QV.move rfl rfl) ?_
    obtain ⟨x8, hx9, hm10⟩ := bd_some hm7; clear hm7
    refine WL.q rfl rfl rfl (QV.call en47 (EvAll.cons rfl rfl EvAll.nil) (fun w hw => have h := roundelayref1_Size_w w hx9 ; h)) ?_
    obtain ⟨x11, hx12, hm13⟩ := bd_some hm10; clear hm10
    refine WL.q rfl rfl rfl (QV.call en46 (EvAll.cons rfl rfl (EvAll.cons rfl rfl EvAll.nil)) (fun w hw => have h := roundelayref1_Rest_w w hx12 ; h)) ?_
    refine WL.q rfl rfl rfl (QV.assign rfl rfl) ?_
    refine WL.nil ?_
    refine WQ.then ?_
    refine WC.ret ?_
    obtain rfl := eq_of_some hm13
    refine WQ.ret1 rfl rfl (fun w hw => ?_)
    exact ⟨rfl, Own.kgrow (fun _ x => x) hw⟩
end Go.Proofs.Ytaimbkndebaaiaa
