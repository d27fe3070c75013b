/- Walks. -/
import Derived.Test.YtaimbkndebaaiaaTypes
import Derived.Test.YtaimbkndebaaiaaNum
namespace Go.Proofs.Ytaimbkndebaaiaa
open Go.Rd
set_option linter.unusedVariables false
set_option linter.unusedSimpArgs false
set_option maxRecDepth 4000 in
theorem num_Index_c1 (n : Int) (w : World)  : Calls Try.prog 37 #[.int .i64 n] w (fun e w' => e = .returned (.bool (decide (-64 ≤ n) && decide (n ≤ 64))) ∧ Grow w w') := by
  refine calls_of_WC (n := 9) (args := [.int .i64 n]) Try.func37 rfl rfl (Nat.le_of_ble_eq_true rfl) ?_ (Own.start w)
  refine WC.seq ?_
  refine WC.region ?_
  refine WL.quiet Own.closed rfl (by decide) (GuardIs.none) (fun _ => QV.assign rfl rfl) ?_
  refine WL.nil ?_
  refine WQ.then ?_
  refine WC.seq ?_
  refine WC.region ?_
  refine WL.quiet Own.closed rfl (by decide) (GuardIs.none) (fun _ => QV.move rfl rfl) ?_
  refine WL.quiet Own.closed rfl (by decide) (GuardIs.none) (fun _ => QV.geq rfl rfl rfl rfl) ?_
  refine WL.quiet Own.closed rfl (by decide) (GuardIs.none) (fun _ => QV.move rfl rfl) ?_
  refine WL.quiet Own.closed rfl (by decide) (GuardIs.pos rfl rfl) (fun hG => QV.move rfl rfl) ?_
  refine WL.quiet Own.closed rfl (by decide) (GuardIs.pos rfl rfl) (fun hG => QV.leq rfl hG rfl rfl) ?_
  refine WL.quiet Own.closed rfl (by decide) (GuardIs.none) (fun _ => QV.pickAnd rfl rfl rfl (fun h => h)) ?_
  refine WL.quiet Own.closed rfl (by decide) (GuardIs.none) (fun _ => QV.assign rfl rfl) ?_
  refine WL.nil ?_
  refine WQ.then ?_
  refine WC.ret ?_
  refine WQ.ret1 rfl rfl (fun w hw => ?_)
  exact ⟨rfl, hw.grow⟩

set_option maxRecDepth 4000 in
theorem num_Index (step plus turn log : Int) (w : World)  : Calls Try.prog 13 #[.int .i64 step, .int .i64 plus, .int .i64 turn, .int .i64 log] w (fun e w' => e = .returned (.int .i64 (idx step plus turn log)) ∧ Grow w w') := by
  refine calls_of_WC (n := 45) (args := [.int .i64 step, .int .i64 plus, .int .i64 turn, .int .i64 log]) Try.func13 rfl rfl (Nat.le_of_ble_eq_true rfl) ?_ (Own.start w)
  refine WC.seq ?_
  refine WC.region ?_
  refine WL.quiet Own.closed rfl (by decide) (GuardIs.none) (fun _ => QV.assign rfl rfl) ?_
  refine WL.nil ?_
  refine WQ.then ?_
  refine WC.seq ?_
  refine WC.region ?_
  refine WL.quiet Own.closed rfl (by decide) (GuardIs.none) (fun _ => QV.assign rfl rfl) ?_
  refine WL.nil ?_
  refine WQ.then ?_
  refine WC.seq ?_
  refine WC.seq ?_
  refine WC.region ?_
  refine WL.quiet Own.closed rfl (by decide) (GuardIs.none) (fun _ => QV.move rfl rfl) ?_
  refine WL.quiet Own.closed rfl (by decide) (GuardIs.none) (fun _ => QV.lss rfl rfl rfl rfl) ?_
  refine WL.quiet Own.closed rfl (by decide) (GuardIs.none) (fun _ => QV.move rfl rfl) ?_
  refine WL.quiet Own.closed rfl (by decide) (GuardIs.neg rfl rfl) (fun hG => QV.move rfl rfl) ?_
  refine WL.quiet Own.closed rfl (by decide) (GuardIs.neg rfl rfl) (fun hG => QV.gtr rfl hG rfl rfl) ?_
  refine WL.quiet Own.closed rfl (by decide) (GuardIs.none) (fun _ => QV.pickOr rfl rfl rfl (fun h => notF h)) ?_
  refine WL.quiet Own.closed rfl (by decide) (GuardIs.none) (fun _ => QV.move rfl rfl) ?_
  refine WL.quiet Own.closed rfl (by decide) (GuardIs.neg rfl rfl) (fun hG => QV.move rfl rfl) ?_
  refine WL.quiet Own.closed rfl (by decide) (GuardIs.neg rfl rfl) (fun hG => QV.move rfl rfl) ?_
  refine WL.quiet Own.closed rfl (by decide) (GuardIs.neg rfl rfl) (fun hG => QV.callV en37 rfl hG (EvAll.cons rfl hG EvAll.nil) (fun w hw => num_Index_c1 _ w)) ?_
  refine WL.quiet Own.closed rfl (by decide) (GuardIs.neg rfl rfl) (fun hG => QV.not rfl hG) ?_
  refine WL.quiet Own.closed rfl (by decide) (GuardIs.none) (fun _ => QV.pickOr rfl rfl rfl (fun h => notF h)) ?_
  refine WL.quiet Own.closed rfl (by decide) (GuardIs.none) (fun _ => QV.move rfl rfl) ?_
  refine WL.quiet Own.closed rfl (by decide) (GuardIs.neg rfl rfl) (fun hG => QV.move rfl rfl) ?_
  refine WL.quiet Own.closed rfl (by decide) (GuardIs.neg rfl rfl) (fun hG => QV.move rfl rfl) ?_
  refine WL.quiet Own.closed rfl (by decide) (GuardIs.neg rfl rfl) (fun hG => QV.callV en37 rfl hG (EvAll.cons rfl hG EvAll.nil) (fun w hw => num_Index_c1 _ w)) ?_
  refine WL.quiet Own.closed rfl (by decide) (GuardIs.neg rfl rfl) (fun hG => QV.not rfl hG) ?_
  refine WL.quiet Own.closed rfl (by decide) (GuardIs.none) (fun _ => QV.pickOr rfl rfl rfl (fun h => notF h)) ?_
  refine WL.quiet Own.closed rfl (by decide) (GuardIs.none) (fun _ => QV.move rfl rfl) ?_
  refine WL.quiet Own.closed rfl (by decide) (GuardIs.neg rfl rfl) (fun hG => QV.move rfl rfl) ?_
  refine WL.quiet Own.closed rfl (by decide) (GuardIs.neg rfl rfl) (fun hG => QV.lss rfl hG rfl rfl) ?_
  refine WL.quiet Own.closed rfl (by decide) (GuardIs.none) (fun _ => QV.pickOr rfl rfl rfl (fun h => notF h)) ?_
  refine WL.quiet Own.closed rfl (by decide) (GuardIs.none) (fun _ => QV.move rfl rfl) ?_
  refine WL.quiet Own.closed rfl (by decide) (GuardIs.neg rfl rfl) (fun hG => QV.move rfl rfl) ?_
  refine WL.quiet Own.closed rfl (by decide) (GuardIs.neg rfl rfl) (fun hG => QV.gtr rfl hG rfl rfl) ?_
  refine WL.quiet Own.closed rfl (by decide) (GuardIs.none) (fun _ => QV.pickOr rfl rfl rfl (fun h => notF h)) ?_
  refine WL.nil ?_
  refine WQ.then ?_
  refine WC.cond rfl (fun h35 => ?_) (fun h35 => ?_)
  · skip
    refine WC.seq ?_
    refine WC.region ?_
    refine WL.quiet Own.closed rfl (by decide) (GuardIs.none) (fun _ => QV.assign rfl rfl) ?_
    refine WL.nil ?_
    refine WQ.then ?_
    refine WC.ret ?_
    refine WQ.then_ret ?_
    refine WQ.ret1 rfl rfl (fun w hw => ?_)
    refine ⟨ret_int ?_, hw.grow⟩; simp [-List.getD_eq_getElem?_getD, -Int.pred_toNat] at h35; first | exact idx_go (by unfold OkIdx; omega) | (rw [idx, if_neg (by unfold OkIdx; omega)])
  · skip
    refine WC.skip ?_
    refine WQ.then ?_
    refine WC.seq ?_
    refine WC.region ?_
    refine WL.quiet Own.closed rfl (by decide) (GuardIs.none) (fun _ => QV.move rfl rfl) ?_
    refine WL.quiet Own.closed rfl (by decide) (GuardIs.none) (fun _ => QV.move rfl rfl) ?_
    refine WL.quiet Own.closed rfl (by decide) (GuardIs.none) (fun _ => QV.mulW rfl rfl rfl rfl) ?_
    refine WL.quiet Own.closed rfl (by decide) (GuardIs.none) (fun _ => QV.move rfl rfl) ?_
    refine WL.quiet Own.closed rfl (by decide) (GuardIs.none) (fun _ => QV.addW rfl rfl rfl rfl) ?_
    refine WL.quiet Own.closed rfl (by decide) (GuardIs.none) (fun _ => QV.move rfl rfl) ?_
    refine WL.quiet Own.closed rfl (by decide) (GuardIs.none) (fun _ => QV.shlW rfl rfl rfl rfl (by simp [-List.getD_eq_getElem?_getD, -Int.pred_toNat] at h35; omega)) ?_
    refine WL.quiet Own.closed rfl (by decide) (GuardIs.none) (fun _ => QV.subW rfl rfl rfl rfl) ?_
    refine WL.quiet Own.closed rfl (by decide) (GuardIs.none) (fun _ => QV.andW rfl rfl rfl rfl) ?_
    refine WL.quiet Own.closed rfl (by decide) (GuardIs.none) (fun _ => QV.assign rfl rfl) ?_
    refine WL.nil ?_
    refine WQ.then ?_
    refine WC.ret ?_
    refine WQ.ret1 rfl rfl (fun w hw => ?_)
    refine ⟨ret_int ?_, hw.grow⟩; simp [-List.getD_eq_getElem?_getD, -Int.pred_toNat] at h35; first | exact idx_go (by unfold OkIdx; omega) | (rw [idx, if_neg (by unfold OkIdx; omega)])

set_option maxRecDepth 4000 in
theorem num_Op_c1 (t : Bool) (w : World)  : Calls Try.prog 44 #[.bool t] w (fun e w' => e = .returned (.int .i64 (if t = true then 1 else 0)) ∧ Grow w w') := by
  refine calls_of_WC (n := 4) (args := [.bool t]) Try.func44 rfl rfl (Nat.le_of_ble_eq_true rfl) ?_ (Own.start w)
  refine WC.seq ?_
  refine WC.region ?_
  refine WL.quiet Own.closed rfl (by decide) (GuardIs.none) (fun _ => QV.assign rfl rfl) ?_
  refine WL.nil ?_
  refine WQ.then ?_
  refine WC.seq ?_
  refine WC.seq ?_
  refine WC.region ?_
  refine WL.quiet Own.closed rfl (by decide) (GuardIs.none) (fun _ => QV.move rfl rfl) ?_
  refine WL.nil ?_
  refine WQ.then ?_
  refine WC.cond rfl (fun h3 => ?_) (fun h3 => ?_)
  · skip
    refine WC.seq ?_
    refine WC.region ?_
    refine WL.quiet Own.closed rfl (by decide) (GuardIs.none) (fun _ => QV.assign rfl rfl) ?_
    refine WL.nil ?_
    refine WQ.then ?_
    refine WC.ret ?_
    refine WQ.then_ret ?_
    refine WQ.ret1 rfl rfl (fun w hw => ?_)
    exact ⟨by simp [h3], hw.grow⟩
  · skip
    refine WC.skip ?_
    refine WQ.then ?_
    refine WC.seq ?_
    refine WC.region ?_
    refine WL.quiet Own.closed rfl (by decide) (GuardIs.none) (fun _ => QV.assign rfl rfl) ?_
    refine WL.nil ?_
    refine WQ.then ?_
    refine WC.ret ?_
    refine WQ.ret1 rfl rfl (fun w hw => ?_)
    exact ⟨by simp [h3], hw.grow⟩

set_option maxRecDepth 4000 in
theorem num_Op (op a b : Int) (w : World)  : Calls Try.prog 23 #[.int .i64 op, .int .i64 a, .int .i64 b] w (fun e w' => e = .returned (.int .i64 (opV op a b)) ∧ Grow w w') := by
  refine calls_of_WC (n := 53) (args := [.int .i64 op, .int .i64 a, .int .i64 b]) Try.func23 rfl rfl (Nat.le_of_ble_eq_true rfl) ?_ (Own.start w)
  refine WC.seq ?_
  refine WC.region ?_
  refine WL.quiet Own.closed rfl (by decide) (GuardIs.none) (fun _ => QV.assign rfl rfl) ?_
  refine WL.nil ?_
  refine WQ.then ?_
  refine WC.seq ?_
  refine WC.region ?_
  refine WL.quiet Own.closed rfl (by decide) (GuardIs.none) (fun _ => QV.assign rfl rfl) ?_
  refine WL.nil ?_
  refine WQ.then ?_
  refine WC.seq ?_
  refine WC.seq ?_
  refine WC.region ?_
  refine WL.quiet Own.closed rfl (by decide) (GuardIs.none) (fun _ => QV.move rfl rfl) ?_
  refine WL.nil ?_
  refine WQ.then ?_
  refine WC.block ?_
  refine WC.seq ?_
  refine WC.region ?_
  refine WL.quiet Own.closed rfl (by decide) (GuardIs.none) (fun _ => QV.eql rfl rfl rfl rfl) ?_
  refine WL.quiet Own.closed rfl (by decide) (GuardIs.none) (fun _ => QV.assign rfl rfl) ?_
  refine WL.nil ?_
  refine WQ.then ?_
  refine WC.cond rfl (fun h9 => ?_) (fun h9 => ?_)
  · skip
    refine WC.seq ?_
    refine WC.region ?_
    refine WL.quiet Own.closed rfl (by decide) (GuardIs.none) (fun _ => QV.move rfl rfl) ?_
    refine WL.quiet Own.closed rfl (by decide) (GuardIs.none) (fun _ => QV.move rfl rfl) ?_
    refine WL.quiet Own.closed rfl (by decide) (GuardIs.none) (fun _ => QV.addW rfl rfl rfl rfl) ?_
    refine WL.quiet Own.closed rfl (by decide) (GuardIs.none) (fun _ => QV.assign rfl rfl) ?_
    refine WL.nil ?_
    refine WQ.then ?_
    refine WC.ret ?_
    refine WQ.block_ret ?_
    refine WQ.then_ret ?_
    refine WQ.ret1 rfl rfl (fun w hw => ?_)
    refine ⟨ret_int ?_, hw.grow⟩; unfold opV; simp [-List.getD_eq_getElem?_getD, -Int.pred_toNat] at *; simp [*]
  · skip
    refine WC.seq ?_
    refine WC.region ?_
    refine WL.quiet Own.closed rfl (by decide) (GuardIs.none) (fun _ => QV.eql rfl rfl rfl rfl) ?_
    refine WL.quiet Own.closed rfl (by decide) (GuardIs.none) (fun _ => QV.assign rfl rfl) ?_
    refine WL.nil ?_
    refine WQ.then ?_
    refine WC.cond rfl (fun h14 => ?_) (fun h14 => ?_)
    · skip
      refine WC.seq ?_
      refine WC.region ?_
      refine WL.quiet Own.closed rfl (by decide) (GuardIs.none) (fun _ => QV.move rfl rfl) ?_
      refine WL.quiet Own.closed rfl (by decide) (GuardIs.none) (fun _ => QV.move rfl rfl) ?_
      refine WL.quiet Own.closed rfl (by decide) (GuardIs.none) (fun _ => QV.subW rfl rfl rfl rfl) ?_
      refine WL.quiet Own.closed rfl (by decide) (GuardIs.none) (fun _ => QV.assign rfl rfl) ?_
      refine WL.nil ?_
      refine WQ.then ?_
      refine WC.ret ?_
      refine WQ.block_ret ?_
      refine WQ.then_ret ?_
      refine WQ.ret1 rfl rfl (fun w hw => ?_)
      refine ⟨ret_int ?_, hw.grow⟩; unfold opV; simp [-List.getD_eq_getElem?_getD, -Int.pred_toNat] at *; simp [*]
    · skip
      refine WC.seq ?_
      refine WC.region ?_
      refine WL.quiet Own.closed rfl (by decide) (GuardIs.none) (fun _ => QV.eql rfl rfl rfl rfl) ?_
      refine WL.quiet Own.closed rfl (by decide) (GuardIs.none) (fun _ => QV.assign rfl rfl) ?_
      refine WL.nil ?_
      refine WQ.then ?_
      refine WC.cond rfl (fun h19 => ?_) (fun h19 => ?_)
      · skip
        refine WC.seq ?_
        refine WC.region ?_
        refine WL.quiet Own.closed rfl (by decide) (GuardIs.none) (fun _ => QV.move rfl rfl) ?_
        refine WL.quiet Own.closed rfl (by decide) (GuardIs.none) (fun _ => QV.move rfl rfl) ?_
        refine WL.quiet Own.closed rfl (by decide) (GuardIs.none) (fun _ => QV.mulW rfl rfl rfl rfl) ?_
        refine WL.quiet Own.closed rfl (by decide) (GuardIs.none) (fun _ => QV.assign rfl rfl) ?_
        refine WL.nil ?_
        refine WQ.then ?_
        refine WC.ret ?_
        refine WQ.block_ret ?_
        refine WQ.then_ret ?_
        refine WQ.ret1 rfl rfl (fun w hw => ?_)
        refine ⟨ret_int ?_, hw.grow⟩; unfold opV; simp [-List.getD_eq_getElem?_getD, -Int.pred_toNat] at *; simp [*]
      · skip
        refine WC.seq ?_
        refine WC.region ?_
        refine WL.quiet Own.closed rfl (by decide) (GuardIs.none) (fun _ => QV.eql rfl rfl rfl rfl) ?_
        refine WL.quiet Own.closed rfl (by decide) (GuardIs.none) (fun _ => QV.assign rfl rfl) ?_
        refine WL.nil ?_
        refine WQ.then ?_
        refine WC.cond rfl (fun h24 => ?_) (fun h24 => ?_)
        · skip
          refine WC.seq ?_
          refine WC.region ?_
          refine WL.quiet Own.closed rfl (by decide) (GuardIs.none) (fun _ => QV.move rfl rfl) ?_
          refine WL.quiet Own.closed rfl (by decide) (GuardIs.none) (fun _ => QV.move rfl rfl) ?_
          refine WL.quiet Own.closed rfl (by decide) (GuardIs.none) (fun _ => QV.andW rfl rfl rfl rfl) ?_
          refine WL.quiet Own.closed rfl (by decide) (GuardIs.none) (fun _ => QV.assign rfl rfl) ?_
          refine WL.nil ?_
          refine WQ.then ?_
          refine WC.ret ?_
          refine WQ.block_ret ?_
          refine WQ.then_ret ?_
          refine WQ.ret1 rfl rfl (fun w hw => ?_)
          refine ⟨ret_int ?_, hw.grow⟩; unfold opV; simp [-List.getD_eq_getElem?_getD, -Int.pred_toNat] at *; simp [*]
        · skip
          refine WC.seq ?_
          refine WC.region ?_
          refine WL.quiet Own.closed rfl (by decide) (GuardIs.none) (fun _ => QV.eql rfl rfl rfl rfl) ?_
          refine WL.quiet Own.closed rfl (by decide) (GuardIs.none) (fun _ => QV.assign rfl rfl) ?_
          refine WL.nil ?_
          refine WQ.then ?_
          refine WC.cond rfl (fun h29 => ?_) (fun h29 => ?_)
          · skip
            refine WC.seq ?_
            refine WC.region ?_
            refine WL.quiet Own.closed rfl (by decide) (GuardIs.none) (fun _ => QV.move rfl rfl) ?_
            refine WL.quiet Own.closed rfl (by decide) (GuardIs.none) (fun _ => QV.move rfl rfl) ?_
            refine WL.quiet Own.closed rfl (by decide) (GuardIs.none) (fun _ => QV.orW rfl rfl rfl rfl) ?_
            refine WL.quiet Own.closed rfl (by decide) (GuardIs.none) (fun _ => QV.assign rfl rfl) ?_
            refine WL.nil ?_
            refine WQ.then ?_
            refine WC.ret ?_
            refine WQ.block_ret ?_
            refine WQ.then_ret ?_
            refine WQ.ret1 rfl rfl (fun w hw => ?_)
            refine ⟨ret_int ?_, hw.grow⟩; unfold opV; simp [-List.getD_eq_getElem?_getD, -Int.pred_toNat] at *; simp [*]
          · skip
            refine WC.seq ?_
            refine WC.region ?_
            refine WL.quiet Own.closed rfl (by decide) (GuardIs.none) (fun _ => QV.eql rfl rfl rfl rfl) ?_
            refine WL.quiet Own.closed rfl (by decide) (GuardIs.none) (fun _ => QV.assign rfl rfl) ?_
            refine WL.nil ?_
            refine WQ.then ?_
            refine WC.cond rfl (fun h34 => ?_) (fun h34 => ?_)
            · skip
              refine WC.seq ?_
              refine WC.region ?_
              refine WL.quiet Own.closed rfl (by decide) (GuardIs.none) (fun _ => QV.move rfl rfl) ?_
              refine WL.quiet Own.closed rfl (by decide) (GuardIs.none) (fun _ => QV.move rfl rfl) ?_
              refine WL.quiet Own.closed rfl (by decide) (GuardIs.none) (fun _ => QV.xorW rfl rfl rfl rfl) ?_
              refine WL.quiet Own.closed rfl (by decide) (GuardIs.none) (fun _ => QV.assign rfl rfl) ?_
              refine WL.nil ?_
              refine WQ.then ?_
              refine WC.ret ?_
              refine WQ.block_ret ?_
              refine WQ.then_ret ?_
              refine WQ.ret1 rfl rfl (fun w hw => ?_)
              refine ⟨ret_int ?_, hw.grow⟩; unfold opV; simp [-List.getD_eq_getElem?_getD, -Int.pred_toNat] at *; simp [*]
            · skip
              refine WC.seq ?_
              refine WC.region ?_
              refine WL.quiet Own.closed rfl (by decide) (GuardIs.none) (fun _ => QV.eql rfl rfl rfl rfl) ?_
              refine WL.quiet Own.closed rfl (by decide) (GuardIs.none) (fun _ => QV.assign rfl rfl) ?_
              refine WL.nil ?_
              refine WQ.then ?_
              refine WC.cond rfl (fun h39 => ?_) (fun h39 => ?_)
              · skip
                refine WC.seq ?_
                refine WC.region ?_
                refine WL.quiet Own.closed rfl (by decide) (GuardIs.none) (fun _ => QV.move rfl rfl) ?_
                refine WL.quiet Own.closed rfl (by decide) (GuardIs.none) (fun _ => QV.move rfl rfl) ?_
                refine WL.quiet Own.closed rfl (by decide) (GuardIs.none) (fun _ => QV.move rfl rfl) ?_
                refine WL.quiet Own.closed rfl (by decide) (GuardIs.none) (fun _ => QV.lss rfl rfl rfl rfl) ?_
                refine WL.quiet Own.closed rfl (by decide) (GuardIs.none) (fun _ => QV.callV en44 rfl rfl (EvAll.cons rfl rfl EvAll.nil) (fun w hw => num_Op_c1 _ w)) ?_
                refine WL.quiet Own.closed rfl (by decide) (GuardIs.none) (fun _ => QV.assign rfl rfl) ?_
                refine WL.nil ?_
                refine WQ.then ?_
                refine WC.ret ?_
                refine WQ.block_ret ?_
                refine WQ.then_ret ?_
                refine WQ.ret1 rfl rfl (fun w hw => ?_)
                refine ⟨ret_int ?_, hw.grow⟩; unfold opV; simp [-List.getD_eq_getElem?_getD, -Int.pred_toNat] at *; simp [*]
              · skip
                refine WC.seq ?_
                refine WC.region ?_
                refine WL.quiet Own.closed rfl (by decide) (GuardIs.none) (fun _ => QV.eql rfl rfl rfl rfl) ?_
                refine WL.quiet Own.closed rfl (by decide) (GuardIs.none) (fun _ => QV.assign rfl rfl) ?_
                refine WL.nil ?_
                refine WQ.then ?_
                refine WC.cond rfl (fun h46 => ?_) (fun h46 => ?_)
                · skip
                  refine WC.seq ?_
                  refine WC.region ?_
                  refine WL.quiet Own.closed rfl (by decide) (GuardIs.none) (fun _ => QV.move rfl rfl) ?_
                  refine WL.quiet Own.closed rfl (by decide) (GuardIs.none) (fun _ => QV.move rfl rfl) ?_
                  refine WL.quiet Own.closed rfl (by decide) (GuardIs.none) (fun _ => QV.move rfl rfl) ?_
                  refine WL.quiet Own.closed rfl (by decide) (GuardIs.none) (fun _ => QV.eql rfl rfl rfl rfl) ?_
                  refine WL.quiet Own.closed rfl (by decide) (GuardIs.none) (fun _ => QV.callV en44 rfl rfl (EvAll.cons rfl rfl EvAll.nil) (fun w hw => num_Op_c1 _ w)) ?_
                  refine WL.quiet Own.closed rfl (by decide) (GuardIs.none) (fun _ => QV.assign rfl rfl) ?_
                  refine WL.nil ?_
                  refine WQ.then ?_
                  refine WC.ret ?_
                  refine WQ.block_ret ?_
                  refine WQ.then_ret ?_
                  refine WQ.ret1 rfl rfl (fun w hw => ?_)
                  refine ⟨ret_int ?_, hw.grow⟩; unfold opV; simp [-List.getD_eq_getElem?_getD, -Int.pred_toNat] at *; simp [*]
                · skip
                  refine WC.skip ?_
                  refine WQ.block ?_
                  refine WQ.then ?_
                  refine WC.seq ?_
                  refine WC.region ?_
                  refine WL.quiet Own.closed rfl (by decide) (GuardIs.none) (fun _ => QV.assign rfl rfl) ?_
                  refine WL.nil ?_
                  refine WQ.then ?_
                  refine WC.ret ?_
                  refine WQ.ret1 rfl rfl (fun w hw => ?_)
                  refine ⟨ret_int ?_, hw.grow⟩; unfold opV; simp [-List.getD_eq_getElem?_getD, -Int.pred_toNat] at *; simp [*]

set_option maxRecDepth 4000 in
theorem num_Class (op : Int) (w : World)  : Calls Try.prog 24 #[.int .i64 op] w (fun e w' => e = .returned (.int .i64 (clsV op)) ∧ Grow w w') := by
  refine calls_of_WC (n := 9) (args := [.int .i64 op]) Try.func24 rfl rfl (Nat.le_of_ble_eq_true rfl) ?_ (Own.start w)
  refine WC.seq ?_
  refine WC.region ?_
  refine WL.quiet Own.closed rfl (by decide) (GuardIs.none) (fun _ => QV.assign rfl rfl) ?_
  refine WL.nil ?_
  refine WQ.then ?_
  refine WC.seq ?_
  refine WC.seq ?_
  refine WC.region ?_
  refine WL.quiet Own.closed rfl (by decide) (GuardIs.none) (fun _ => QV.move rfl rfl) ?_
  refine WL.nil ?_
  refine WQ.then ?_
  refine WC.block ?_
  refine WC.seq ?_
  refine WC.seq ?_
  refine WC.region ?_
  refine WL.quiet Own.closed rfl (by decide) (GuardIs.none) (fun _ => QV.eql rfl rfl rfl rfl) ?_
  refine WL.quiet Own.closed rfl (by decide) (GuardIs.none) (fun _ => QV.assign rfl rfl) ?_
  refine WL.nil ?_
  refine WQ.then ?_
  refine WC.cond rfl (fun h4 => ?_) (fun h4 => ?_)
  · skip
    refine WC.skip ?_
    refine WQ.then ?_
    refine WC.cond rfl (fun h4 => ?_) (fun h4 => ?_)
    · skip
      refine WC.seq ?_
      refine WC.region ?_
      refine WL.quiet Own.closed rfl (by decide) (GuardIs.none) (fun _ => QV.assign rfl rfl) ?_
      refine WL.nil ?_
      refine WQ.then ?_
      refine WC.ret ?_
      refine WQ.block_ret ?_
      refine WQ.then_ret ?_
      refine WQ.ret1 rfl rfl (fun w hw => ?_)
      refine ⟨ret_int ?_, hw.grow⟩; unfold clsV; simp_all
    · skip
      refine WC.seq ?_
      refine WC.region ?_
      refine WL.quiet Own.closed rfl (by decide) (GuardIs.none) (fun _ => QV.eql rfl rfl rfl rfl) ?_
      refine WL.quiet Own.closed rfl (by decide) (GuardIs.none) (fun _ => QV.assign rfl rfl) ?_
      refine WL.nil ?_
      refine WQ.then ?_
      refine WC.cond rfl (fun h7 => ?_) (fun h7 => ?_)
      · skip
        refine WC.seq ?_
        refine WC.region ?_
        refine WL.quiet Own.closed rfl (by decide) (GuardIs.none) (fun _ => QV.assign rfl rfl) ?_
        refine WL.nil ?_
        refine WQ.then ?_
        refine WC.ret ?_
        refine WQ.block_ret ?_
        refine WQ.then_ret ?_
        refine WQ.ret1 rfl rfl (fun w hw => ?_)
        refine ⟨ret_int ?_, hw.grow⟩; unfold clsV; simp_all
      · skip
        refine WC.skip ?_
        refine WQ.block ?_
        refine WQ.then ?_
        refine WC.seq ?_
        refine WC.region ?_
        refine WL.quiet Own.closed rfl (by decide) (GuardIs.none) (fun _ => QV.assign rfl rfl) ?_
        refine WL.nil ?_
        refine WQ.then ?_
        refine WC.ret ?_
        refine WQ.ret1 rfl rfl (fun w hw => ?_)
        refine ⟨ret_int ?_, hw.grow⟩; unfold clsV; simp_all
  · skip
    refine WC.region ?_
    refine WL.quiet Own.closed rfl (by decide) (GuardIs.none) (fun _ => QV.eql rfl rfl rfl rfl) ?_
    refine WL.quiet Own.closed rfl (by decide) (GuardIs.none) (fun _ => QV.assign rfl rfl) ?_
    refine WL.nil ?_
    refine WQ.then ?_
    refine WC.cond rfl (fun h4 => ?_) (fun h4 => ?_)
    · skip
      refine WC.seq ?_
      refine WC.region ?_
      refine WL.quiet Own.closed rfl (by decide) (GuardIs.none) (fun _ => QV.assign rfl rfl) ?_
      refine WL.nil ?_
      refine WQ.then ?_
      refine WC.ret ?_
      refine WQ.block_ret ?_
      refine WQ.then_ret ?_
      refine WQ.ret1 rfl rfl (fun w hw => ?_)
      refine ⟨ret_int ?_, hw.grow⟩; unfold clsV; simp_all
    · skip
      refine WC.seq ?_
      refine WC.region ?_
      refine WL.quiet Own.closed rfl (by decide) (GuardIs.none) (fun _ => QV.eql rfl rfl rfl rfl) ?_
      refine WL.quiet Own.closed rfl (by decide) (GuardIs.none) (fun _ => QV.assign rfl rfl) ?_
      refine WL.nil ?_
      refine WQ.then ?_
      refine WC.cond rfl (fun h7 => ?_) (fun h7 => ?_)
      · skip
        refine WC.seq ?_
        refine WC.region ?_
        refine WL.quiet Own.closed rfl (by decide) (GuardIs.none) (fun _ => QV.assign rfl rfl) ?_
        refine WL.nil ?_
        refine WQ.then ?_
        refine WC.ret ?_
        refine WQ.block_ret ?_
        refine WQ.then_ret ?_
        refine WQ.ret1 rfl rfl (fun w hw => ?_)
        refine ⟨ret_int ?_, hw.grow⟩; unfold clsV; simp_all
      · skip
        refine WC.skip ?_
        refine WQ.block ?_
        refine WQ.then ?_
        refine WC.seq ?_
        refine WC.region ?_
        refine WL.quiet Own.closed rfl (by decide) (GuardIs.none) (fun _ => QV.assign rfl rfl) ?_
        refine WL.nil ?_
        refine WQ.then ?_
        refine WC.ret ?_
        refine WQ.ret1 rfl rfl (fun w hw => ?_)
        refine ⟨ret_int ?_, hw.grow⟩; unfold clsV; simp_all

set_option maxRecDepth 4000 in
theorem roundelayref1_Class (op : Int) (w : World)  : Calls Try.prog 26 #[.int .i64 op] w (fun e w' => e = .returned (.int .i64 (clsV op)) ∧ Grow w w') := by
  refine calls_of_WC (n := 11) (args := [.int .i64 op]) Try.func26 rfl rfl (Nat.le_of_ble_eq_true rfl) ?_ (Own.start w)
  refine WC.seq ?_
  refine WC.region ?_
  refine WL.quiet Own.closed rfl (by decide) (GuardIs.none) (fun _ => QV.assign rfl rfl) ?_
  refine WL.nil ?_
  refine WQ.then ?_
  refine WC.seq ?_
  refine WC.seq ?_
  refine WC.region ?_
  refine WL.quiet Own.closed rfl (by decide) (GuardIs.none) (fun _ => QV.move rfl rfl) ?_
  refine WL.quiet Own.closed rfl (by decide) (GuardIs.none) (fun _ => QV.eql rfl rfl rfl rfl) ?_
  refine WL.quiet Own.closed rfl (by decide) (GuardIs.none) (fun _ => QV.move rfl rfl) ?_
  refine WL.quiet Own.closed rfl (by decide) (GuardIs.neg rfl rfl) (fun hG => QV.move rfl rfl) ?_
  refine WL.quiet Own.closed rfl (by decide) (GuardIs.neg rfl rfl) (fun hG => QV.eql rfl hG rfl rfl) ?_
  refine WL.quiet Own.closed rfl (by decide) (GuardIs.none) (fun _ => QV.pickOr rfl rfl rfl (fun h => notF h)) ?_
  refine WL.nil ?_
  refine WQ.then ?_
  refine WC.cond rfl (fun h8 => ?_) (fun h8 => ?_)
  · skip
    refine WC.seq ?_
    refine WC.region ?_
    refine WL.quiet Own.closed rfl (by decide) (GuardIs.none) (fun _ => QV.assign rfl rfl) ?_
    refine WL.nil ?_
    refine WQ.then ?_
    refine WC.ret ?_
    refine WQ.then_ret ?_
    refine WQ.ret1 rfl rfl (fun w hw => ?_)
    refine ⟨ret_int ?_, hw.grow⟩; unfold clsV; simp_all
  · skip
    refine WC.skip ?_
    refine WQ.then ?_
    refine WC.seq ?_
    refine WC.seq ?_
    refine WC.region ?_
    refine WL.quiet Own.closed rfl (by decide) (GuardIs.none) (fun _ => QV.move rfl rfl) ?_
    refine WL.quiet Own.closed rfl (by decide) (GuardIs.none) (fun _ => QV.eql rfl rfl rfl rfl) ?_
    refine WL.nil ?_
    refine WQ.then ?_
    refine WC.cond rfl (fun h10 => ?_) (fun h10 => ?_)
    · skip
      refine WC.seq ?_
      refine WC.region ?_
      refine WL.quiet Own.closed rfl (by decide) (GuardIs.none) (fun _ => QV.assign rfl rfl) ?_
      refine WL.nil ?_
      refine WQ.then ?_
      refine WC.ret ?_
      refine WQ.then_ret ?_
      refine WQ.ret1 rfl rfl (fun w hw => ?_)
      refine ⟨ret_int ?_, hw.grow⟩; unfold clsV; simp_all
    · skip
      refine WC.skip ?_
      refine WQ.then ?_
      refine WC.seq ?_
      refine WC.region ?_
      refine WL.quiet Own.closed rfl (by decide) (GuardIs.none) (fun _ => QV.assign rfl rfl) ?_
      refine WL.nil ?_
      refine WQ.then ?_
      refine WC.ret ?_
      refine WQ.ret1 rfl rfl (fun w hw => ?_)
      refine ⟨ret_int ?_, hw.grow⟩; unfold clsV; simp_all

set_option maxRecDepth 4000 in
theorem roundelayref1_Size (log : Int) (w : World) (hl : log ≤ 5) : Calls Try.prog 47 #[.int .i64 log] w (fun e w' => e = .returned (.int .i64 (2 ^ log.toNat)) ∧ Grow w w') := by
  refine calls_of_WC (n := 14) (args := [.int .i64 log]) Try.func47 rfl rfl (Nat.le_of_ble_eq_true rfl) ?_ (Own.start w)
  refine WC.seq ?_
  refine WC.region ?_
  refine WL.quiet Own.closed rfl (by decide) (GuardIs.none) (fun _ => QV.assign rfl rfl) ?_
  refine WL.nil ?_
  refine WQ.then ?_
  refine WC.seq ?_
  refine WC.region ?_
  refine WL.quiet Own.closed rfl (by decide) (GuardIs.none) (fun _ => QV.assign rfl rfl) ?_
  refine WL.nil ?_
  refine WQ.then ?_
  refine WC.seq ?_
  refine WC.seq ?_
  refine WC.region ?_
  refine WL.quiet Own.closed rfl (by decide) (GuardIs.none) (fun _ => QV.assign rfl rfl) ?_
  refine WL.nil ?_
  refine WQ.then ?_
  refine WC.block ?_
  refine WC.loopC (τ := [(0, (true, _)), (2, (true, _))]) (fun i : Nat => [(3, (true, .int .i64 (2 ^ i))), (4, (true, .int .i64 i))]) _ (fun i : Nat => i ≤ log.toNat) (fun i : Nat => log.toNat - i) 0 (Nat.zero_le _) ⟨rfl, rfl, rfl, rfl, trivial⟩ (fun w hw => hw) ?_
  rintro i hi
  have hp2 := two_pow_5 i (by omega)
  refine WC.seq ?_
  refine WC.seq ?_
  refine WC.region ?_
  refine WL.quiet Own.closed rfl (by decide) (GuardIs.none) (fun _ => QV.move rfl rfl) ?_
  refine WL.quiet Own.closed rfl (by decide) (GuardIs.none) (fun _ => QV.move rfl rfl) ?_
  refine WL.quiet Own.closed rfl (by decide) (GuardIs.none) (fun _ => QV.lss rfl rfl rfl rfl) ?_
  refine WL.nil ?_
  refine WQ.then ?_
  refine WC.cond rfl (fun h7 => ?_) (fun h7 => ?_)
  · skip
    refine WC.skip ?_
    refine WQ.then ?_
    refine WC.seq ?_
    refine WC.block ?_
    refine WC.region ?_
    refine WL.quiet Own.closed rfl (by decide) (GuardIs.none) (fun _ => QV.move rfl rfl) ?_
    refine WL.quiet Own.closed rfl (by decide) (GuardIs.none) (fun _ => QV.move rfl rfl) ?_
    refine WL.quiet Own.closed rfl (by decide) (GuardIs.none) (fun _ => QV.add rfl rfl rfl rfl (by omega)) ?_
    refine WL.quiet Own.closed rfl (by decide) (GuardIs.none) (fun _ => QV.assign rfl rfl) ?_
    refine WL.nil ?_
    refine WQ.block ?_
    refine WQ.then ?_
    refine WC.region ?_
    refine WL.quiet Own.closed rfl (by decide) (GuardIs.none) (fun _ => QV.move rfl rfl) ?_
    refine WL.quiet Own.closed rfl (by decide) (GuardIs.none) (fun _ => QV.add rfl rfl rfl rfl (by omega)) ?_
    refine WL.quiet Own.closed rfl (by decide) (GuardIs.none) (fun _ => QV.assign rfl rfl) ?_
    refine WL.nil ?_
    refine WQ.againC (i + 1) ?_ ?_ ⟨look_int rfl (pow_next i), look_int rfl (by omega), rfl, rfl, trivial⟩ (fun w hw => hw)
    · simp [-List.getD_eq_getElem?_getD, -Int.pred_toNat] at h7; omega
    · simp [-List.getD_eq_getElem?_getD, -Int.pred_toNat] at h7; omega
  · skip
    refine WC.exit ?_
    refine WQ.then_exit ?_
    refine WQ.then_exit ?_
    refine WQ.block_exit ?_
    refine WQ.then ?_
    refine WC.seq ?_
    refine WC.region ?_
    refine WL.quiet Own.closed rfl (by decide) (GuardIs.none) (fun _ => QV.move rfl rfl) ?_
    refine WL.quiet Own.closed rfl (by decide) (GuardIs.none) (fun _ => QV.assign rfl rfl) ?_
    refine WL.nil ?_
    refine WQ.then ?_
    refine WC.ret ?_
    refine WQ.ret1 rfl rfl (fun w hw => ?_)
    refine ⟨ret_int ?_, hw.grow⟩; simp [-List.getD_eq_getElem?_getD, -Int.pred_toNat] at h7; rw [show i = log.toNat from by omega]

set_option maxRecDepth 4000 in
theorem roundelayref1_Rest (a b : Int) (w : World) (hb : 0 < b) (hB : b ≤ 9223372036854775807) : Calls Try.prog 46 #[.int .i64 a, .int .i64 b] w (fun e w' => e = .returned (.int .i64 (a % b)) ∧ Grow w w') := by
  refine calls_of_WC (n := 15) (args := [.int .i64 a, .int .i64 b]) Try.func46 rfl rfl (Nat.le_of_ble_eq_true rfl) ?_ (Own.start w)
  have htm := tmod_lt' a hb
  refine WC.seq ?_
  refine WC.region ?_
  refine WL.quiet Own.closed rfl (by decide) (GuardIs.none) (fun _ => QV.assign rfl rfl) ?_
  refine WL.nil ?_
  refine WQ.then ?_
  refine WC.seq ?_
  refine WC.region ?_
  refine WL.quiet Own.closed rfl (by decide) (GuardIs.none) (fun _ => QV.move rfl rfl) ?_
  refine WL.quiet Own.closed rfl (by decide) (GuardIs.none) (fun _ => QV.move rfl rfl) ?_
  refine WL.quiet Own.closed rfl (by decide) (GuardIs.none) (fun _ => QV.rem rfl rfl rfl rfl (by omega)) ?_
  refine WL.quiet Own.closed rfl (by decide) (GuardIs.none) (fun _ => QV.assign rfl rfl) ?_
  refine WL.nil ?_
  refine WQ.then ?_
  refine WC.seq ?_
  refine WC.seq ?_
  refine WC.region ?_
  refine WL.quiet Own.closed rfl (by decide) (GuardIs.none) (fun _ => QV.move rfl rfl) ?_
  refine WL.quiet Own.closed rfl (by decide) (GuardIs.none) (fun _ => QV.lss rfl rfl rfl rfl) ?_
  refine WL.nil ?_
  refine WQ.then ?_
  refine WC.cond rfl (fun h10 => ?_) (fun h10 => ?_)
  · skip
    refine WC.region ?_
    refine WL.quiet Own.closed rfl (by decide) (GuardIs.none) (fun _ => QV.move rfl rfl) ?_
    refine WL.quiet Own.closed rfl (by decide) (GuardIs.none) (fun _ => QV.move rfl rfl) ?_
    refine WL.quiet Own.closed rfl (by decide) (GuardIs.none) (fun _ => QV.add rfl rfl rfl rfl (by simp [-List.getD_eq_getElem?_getD, -Int.pred_toNat] at h10; omega)) ?_
    refine WL.quiet Own.closed rfl (by decide) (GuardIs.none) (fun _ => QV.assign rfl rfl) ?_
    refine WL.nil ?_
    refine WQ.then ?_
    refine WC.seq ?_
    refine WC.region ?_
    refine WL.quiet Own.closed rfl (by decide) (GuardIs.none) (fun _ => QV.move rfl rfl) ?_
    refine WL.quiet Own.closed rfl (by decide) (GuardIs.none) (fun _ => QV.assign rfl rfl) ?_
    refine WL.nil ?_
    refine WQ.then ?_
    refine WC.ret ?_
    refine WQ.ret1 rfl rfl (fun w hw => ?_)
    refine ⟨ret_int ?_, hw.grow⟩; simp [-List.getD_eq_getElem?_getD, -Int.pred_toNat] at h10; rw [← tmod_fix hb]; first | rw [if_pos h10] | rw [if_neg (by omega)]
  · skip
    refine WC.skip ?_
    refine WQ.then ?_
    refine WC.seq ?_
    refine WC.region ?_
    refine WL.quiet Own.closed rfl (by decide) (GuardIs.none) (fun _ => QV.move rfl rfl) ?_
    refine WL.quiet Own.closed rfl (by decide) (GuardIs.none) (fun _ => QV.assign rfl rfl) ?_
    refine WL.nil ?_
    refine WQ.then ?_
    refine WC.ret ?_
    refine WQ.ret1 rfl rfl (fun w hw => ?_)
    refine ⟨ret_int ?_, hw.grow⟩; simp [-List.getD_eq_getElem?_getD, -Int.pred_toNat] at h10; rw [← tmod_fix hb]; first | rw [if_pos h10] | rw [if_neg (by omega)]

set_option maxRecDepth 8000 in
set_option maxHeartbeats 1000000 in
theorem roundelayref1_bits (op a b : Int) (w : World) (ha : -9223372036854775808 ≤ a ∧ a ≤ 9223372036854775807) (hb : -9223372036854775808 ≤ b ∧ b ≤ 9223372036854775807) : Calls Try.prog 45 #[.int .i64 op, .int .i64 a, .int .i64 b] w (fun e w' => e = .returned (.int .i64 (IntKind.i64.wrap (bitsN op a b 64))) ∧ Grow w w') := by
  refine calls_of_WC (n := 76) (args := [.int .i64 op, .int .i64 a, .int .i64 b]) Try.func45 rfl rfl (Nat.le_of_ble_eq_true rfl) ?_ (Own.start w)
  refine WC.seq ?_
  refine WC.region ?_
  refine WL.quiet Own.closed rfl (by decide) (GuardIs.none) (fun _ => QV.assign rfl rfl) ?_
  refine WL.nil ?_
  refine WQ.then ?_
  refine WC.seq ?_
  refine WC.region ?_
  refine WL.quiet Own.closed rfl (by decide) (GuardIs.none) (fun _ => QV.assign rfl rfl) ?_
  refine WL.nil ?_
  refine WQ.then ?_
  refine WC.seq ?_
  refine WC.region ?_
  refine WL.quiet Own.closed rfl (by decide) (GuardIs.none) (fun _ => QV.assign rfl rfl) ?_
  refine WL.nil ?_
  refine WQ.then ?_
  refine WC.seq ?_
  refine WC.seq ?_
  refine WC.region ?_
  refine WL.quiet Own.closed rfl (by decide) (GuardIs.none) (fun _ => QV.assign rfl rfl) ?_
  refine WL.nil ?_
  refine WQ.then ?_
  refine WC.block ?_
  refine WC.loopC (τ := [(0, (true, _)), (6, (true, _))]) (fun i : Nat => [(1, (true, .int .i64 (a / 2 ^ i))), (2, (true, .int .i64 (b / 2 ^ i))), (7, (true, .int .i64 (IntKind.i64.wrap (bitsN op a b i)))), (8, (true, .int .i64 (IntKind.i64.wrap (2 ^ i)))), (9, (true, .int .i64 i))]) _ (fun i : Nat => i ≤ 64) (fun i : Nat => 64 - i) 0 (by omega) ⟨look_int rfl (by simp), look_int rfl (by simp), look_int rfl (by rfl), look_int rfl (by rfl), rfl, rfl, rfl, trivial⟩ (fun w hw => hw) ?_
  rintro i hi
  have hba := half_bd ha.1 ha.2 i; have hbb := half_bd hb.1 hb.2 i; have hcd := bits_cond op a b i
  refine WC.seq ?_
  refine WC.seq ?_
  refine WC.region ?_
  refine WL.quiet Own.closed rfl (by decide) (GuardIs.none) (fun _ => QV.move rfl rfl) ?_
  refine WL.quiet Own.closed rfl (by decide) (GuardIs.none) (fun _ => QV.lss rfl rfl rfl rfl) ?_
  refine WL.nil ?_
  refine WQ.then ?_
  refine WC.cond rfl (fun h15 => ?_) (fun h15 => ?_)
  · skip
    refine WC.skip ?_
    refine WQ.then ?_
    refine WC.seq ?_
    refine WC.block ?_
    refine WC.seq ?_
    refine WC.region ?_
    refine WL.quiet Own.closed rfl (by decide) (GuardIs.none) (fun _ => QV.move rfl rfl) ?_
    refine WL.quiet Own.closed rfl (by decide) (GuardIs.none) (fun _ => QV.rem rfl rfl rfl rfl (by omega)) ?_
    refine WL.quiet Own.closed rfl (by decide) (GuardIs.none) (fun _ => QV.assign rfl rfl) ?_
    refine WL.nil ?_
    refine WQ.then ?_
    refine WC.seq ?_
    refine WC.region ?_
    refine WL.quiet Own.closed rfl (by decide) (GuardIs.none) (fun _ => QV.move rfl rfl) ?_
    refine WL.quiet Own.closed rfl (by decide) (GuardIs.none) (fun _ => QV.rem rfl rfl rfl rfl (by omega)) ?_
    refine WL.quiet Own.closed rfl (by decide) (GuardIs.none) (fun _ => QV.assign rfl rfl) ?_
    refine WL.nil ?_
    refine WQ.then ?_
    refine WC.seq ?_
    refine WC.region ?_
    refine WL.quiet Own.closed rfl (by decide) (GuardIs.none) (fun _ => QV.move rfl rfl) ?_
    refine WL.quiet Own.closed rfl (by decide) (GuardIs.none) (fun _ => QV.neq rfl rfl rfl rfl) ?_
    refine WL.quiet Own.closed rfl (by decide) (GuardIs.none) (fun _ => QV.assign rfl rfl) ?_
    refine WL.nil ?_
    refine WQ.then ?_
    refine WC.seq ?_
    refine WC.region ?_
    refine WL.quiet Own.closed rfl (by decide) (GuardIs.none) (fun _ => QV.move rfl rfl) ?_
    refine WL.quiet Own.closed rfl (by decide) (GuardIs.none) (fun _ => QV.neq rfl rfl rfl rfl) ?_
    refine WL.quiet Own.closed rfl (by decide) (GuardIs.none) (fun _ => QV.assign rfl rfl) ?_
    refine WL.nil ?_
    refine WQ.then ?_
    refine WC.seq ?_
    refine WC.seq ?_
    refine WC.region ?_
    refine WL.quiet Own.closed rfl (by decide) (GuardIs.none) (fun _ => QV.move rfl rfl) ?_
    refine WL.quiet Own.closed rfl (by decide) (GuardIs.none) (fun _ => QV.eql rfl rfl rfl rfl) ?_
    refine WL.quiet Own.closed rfl (by decide) (GuardIs.none) (fun _ => QV.move rfl rfl) ?_
    refine WL.quiet Own.closed rfl (by decide) (GuardIs.pos rfl rfl) (fun hG => QV.move rfl rfl) ?_
    refine WL.quiet Own.closed rfl (by decide) (GuardIs.none) (fun _ => QV.pickAnd rfl rfl rfl (fun h => h)) ?_
    refine WL.quiet Own.closed rfl (by decide) (GuardIs.none) (fun _ => QV.move rfl rfl) ?_
    refine WL.quiet Own.closed rfl (by decide) (GuardIs.pos rfl rfl) (fun hG => QV.move rfl rfl) ?_
    refine WL.quiet Own.closed rfl (by decide) (GuardIs.none) (fun _ => QV.pickAnd rfl rfl rfl (fun h => h)) ?_
    refine WL.quiet Own.closed rfl (by decide) (GuardIs.none) (fun _ => QV.move rfl rfl) ?_
    refine WL.quiet Own.closed rfl (by decide) (GuardIs.neg rfl rfl) (fun hG => QV.move rfl rfl) ?_
    refine WL.quiet Own.closed rfl (by decide) (GuardIs.neg rfl rfl) (fun hG => QV.eql rfl hG rfl rfl) ?_
    refine WL.quiet Own.closed rfl (by decide) (GuardIs.neg rfl rfl) (fun hG => QV.move rfl hG) ?_
    refine WL.quiet Own.closed rfl (by decide) (GuardIs.posC rfl rfl) (fun hG => QV.move rfl rfl) ?_
    refine WL.quiet Own.closed rfl (by decide) (GuardIs.posC rfl rfl) (fun hG => QV.move rfl hG) ?_
    refine WL.quiet Own.closed rfl (by decide) (GuardIs.negC rfl rfl) (fun hG => QV.move rfl rfl) ?_
    refine WL.quiet Own.closed rfl (by decide) (GuardIs.posC rfl rfl) (fun hG => QV.pickOr rfl hG rfl (fun h => andN hG h)) ?_
    refine WL.quiet Own.closed rfl (by decide) (GuardIs.neg rfl rfl) (fun hG => QV.pickAnd rfl hG rfl (fun h => andT hG h)) ?_
    refine WL.quiet Own.closed rfl (by decide) (GuardIs.none) (fun _ => QV.pickOr rfl rfl rfl (fun h => notF h)) ?_
    refine WL.quiet Own.closed rfl (by decide) (GuardIs.none) (fun _ => QV.move rfl rfl) ?_
    refine WL.quiet Own.closed rfl (by decide) (GuardIs.neg rfl rfl) (fun hG => QV.move rfl rfl) ?_
    refine WL.quiet Own.closed rfl (by decide) (GuardIs.neg rfl rfl) (fun hG => QV.eql rfl hG rfl rfl) ?_
    refine WL.quiet Own.closed rfl (by decide) (GuardIs.neg rfl rfl) (fun hG => QV.move rfl hG) ?_
    refine WL.quiet Own.closed rfl (by decide) (GuardIs.posC rfl rfl) (fun hG => QV.move rfl rfl) ?_
    refine WL.quiet Own.closed rfl (by decide) (GuardIs.posC rfl rfl) (fun hG => QV.move rfl rfl) ?_
    refine WL.quiet Own.closed rfl (by decide) (GuardIs.posC rfl rfl) (fun hG => QV.neqB Try.underlying4 rfl hG rfl hG) ?_
    refine WL.quiet Own.closed rfl (by decide) (GuardIs.neg rfl rfl) (fun hG => QV.pickAnd rfl hG rfl (fun h => andT hG h)) ?_
    refine WL.quiet Own.closed rfl (by decide) (GuardIs.none) (fun _ => QV.pickOr rfl rfl rfl (fun h => notF h)) ?_
    refine WL.nil ?_
    refine WQ.then ?_
    refine WC.cond rfl (fun h52 => ?_) (fun h52 => ?_)
    · skip
      refine WC.region ?_
      refine WL.quiet Own.closed rfl (by decide) (GuardIs.none) (fun _ => QV.move rfl rfl) ?_
      refine WL.quiet Own.closed rfl (by decide) (GuardIs.none) (fun _ => QV.move rfl rfl) ?_
      refine WL.quiet Own.closed rfl (by decide) (GuardIs.none) (fun _ => QV.addW rfl rfl rfl rfl) ?_
      refine WL.quiet Own.closed rfl (by decide) (GuardIs.none) (fun _ => QV.assign rfl rfl) ?_
      refine WL.nil ?_
      refine WQ.then ?_
      refine WC.seq ?_
      refine WC.region ?_
      refine WL.quiet Own.closed rfl (by decide) (GuardIs.none) (fun _ => QV.move rfl rfl) ?_
      refine WL.quiet Own.closed rfl (by decide) (GuardIs.none) (fun _ => QV.move rfl rfl) ?_
      refine WL.quiet Own.closed rfl (by decide) (GuardIs.none) (fun _ => QV.addW rfl rfl rfl rfl) ?_
      refine WL.quiet Own.closed rfl (by decide) (GuardIs.none) (fun _ => QV.assign rfl rfl) ?_
      refine WL.nil ?_
      refine WQ.then ?_
      refine WC.seq ?_
      refine WC.seq ?_
      refine WC.region ?_
      refine WL.quiet Own.closed rfl (by decide) (GuardIs.none) (fun _ => QV.move rfl rfl) ?_
      refine WL.quiet Own.closed rfl (by decide) (GuardIs.none) (fun _ => QV.lss rfl rfl rfl rfl) ?_
      refine WL.nil ?_
      refine WQ.then ?_
      refine WC.cond rfl (fun h60 => ?_) (fun h60 => ?_)
      · skip
        refine WC.region ?_
        refine WL.quiet Own.closed rfl (by decide) (GuardIs.none) (fun _ => QV.move rfl rfl) ?_
        refine WL.quiet Own.closed rfl (by decide) (GuardIs.none) (fun _ => QV.addW rfl rfl rfl rfl) ?_
        refine WL.quiet Own.closed rfl (by decide) (GuardIs.none) (fun _ => QV.assign rfl rfl) ?_
        refine WL.nil ?_
        refine WQ.then ?_
        refine WC.seq ?_
        refine WC.seq ?_
        refine WC.region ?_
        refine WL.quiet Own.closed rfl (by decide) (GuardIs.none) (fun _ => QV.move rfl rfl) ?_
        refine WL.quiet Own.closed rfl (by decide) (GuardIs.none) (fun _ => QV.lss rfl rfl rfl rfl) ?_
        refine WL.nil ?_
        refine WQ.then ?_
        refine WC.cond rfl (fun h64 => ?_) (fun h64 => ?_)
        · skip
          refine WC.region ?_
          refine WL.quiet Own.closed rfl (by decide) (GuardIs.none) (fun _ => QV.move rfl rfl) ?_
          refine WL.quiet Own.closed rfl (by decide) (GuardIs.none) (fun _ => QV.addW rfl rfl rfl rfl) ?_
          refine WL.quiet Own.closed rfl (by decide) (GuardIs.none) (fun _ => QV.assign rfl rfl) ?_
          refine WL.nil ?_
          refine WQ.then ?_
          refine WC.seq ?_
          refine WC.region ?_
          refine WL.quiet Own.closed rfl (by decide) (GuardIs.none) (fun _ => QV.move rfl rfl) ?_
          refine WL.quiet Own.closed rfl (by decide) (GuardIs.none) (fun _ => QV.move rfl rfl) ?_
          refine WL.quiet Own.closed rfl (by decide) (GuardIs.none) (fun _ => QV.subW rfl rfl rfl rfl) ?_
          refine WL.quiet Own.closed rfl (by decide) (GuardIs.none) (fun _ => QV.quoW rfl rfl rfl rfl (by omega)) ?_
          refine WL.quiet Own.closed rfl (by decide) (GuardIs.none) (fun _ => QV.assign rfl rfl) ?_
          refine WL.nil ?_
          refine WQ.then ?_
          refine WC.region ?_
          refine WL.quiet Own.closed rfl (by decide) (GuardIs.none) (fun _ => QV.move rfl rfl) ?_
          refine WL.quiet Own.closed rfl (by decide) (GuardIs.none) (fun _ => QV.move rfl rfl) ?_
          refine WL.quiet Own.closed rfl (by decide) (GuardIs.none) (fun _ => QV.subW rfl rfl rfl rfl) ?_
          refine WL.quiet Own.closed rfl (by decide) (GuardIs.none) (fun _ => QV.quoW rfl rfl rfl rfl (by omega)) ?_
          refine WL.quiet Own.closed rfl (by decide) (GuardIs.none) (fun _ => QV.assign rfl rfl) ?_
          refine WL.nil ?_
          refine WQ.block ?_
          refine WQ.then ?_
          refine WC.region ?_
          refine WL.quiet Own.closed rfl (by decide) (GuardIs.none) (fun _ => QV.move rfl rfl) ?_
          refine WL.quiet Own.closed rfl (by decide) (GuardIs.none) (fun _ => QV.addW rfl rfl rfl rfl) ?_
          refine WL.quiet Own.closed rfl (by decide) (GuardIs.none) (fun _ => QV.assign rfl rfl) ?_
          refine WL.nil ?_
          refine WQ.againC (i + 1) ?_ ?_ ⟨look_int rfl (by rw [← half_next]; first | (have hx := of_decide_eq_true h60; exact half_neg hba.1 hba.2 hx) | (have hx := of_decide_eq_false h60; exact half_pos hba.1 hba.2 hx)), look_int rfl (by rw [← half_next]; first | (have hx := of_decide_eq_true h64; exact half_neg hbb.1 hbb.2 hx) | (have hx := of_decide_eq_false h64; exact half_pos hbb.1 hbb.2 hx)), look_int rfl (by first | (have hx := bits_n_yes h52 hcd; exact hx) | (have hx := bits_n_no h52 hcd; exact hx)), look_int rfl (by rw [wrap_add2, pow_next]), look_int rfl (by rw [wrap_i64 (by omega) (by omega)]; omega), rfl, rfl, trivial⟩ (fun w hw => hw)
          · simp [-List.getD_eq_getElem?_getD, -Int.pred_toNat] at h15; omega
          · simp [-List.getD_eq_getElem?_getD, -Int.pred_toNat] at h15; omega
        · skip
          refine WC.skip ?_
          refine WQ.then ?_
          refine WC.seq ?_
          refine WC.region ?_
          refine WL.quiet Own.closed rfl (by decide) (GuardIs.none) (fun _ => QV.move rfl rfl) ?_
          refine WL.quiet Own.closed rfl (by decide) (GuardIs.none) (fun _ => QV.move rfl rfl) ?_
          refine WL.quiet Own.closed rfl (by decide) (GuardIs.none) (fun _ => QV.subW rfl rfl rfl rfl) ?_
          refine WL.quiet Own.closed rfl (by decide) (GuardIs.none) (fun _ => QV.quoW rfl rfl rfl rfl (by omega)) ?_
          refine WL.quiet Own.closed rfl (by decide) (GuardIs.none) (fun _ => QV.assign rfl rfl) ?_
          refine WL.nil ?_
          refine WQ.then ?_
          refine WC.region ?_
          refine WL.quiet Own.closed rfl (by decide) (GuardIs.none) (fun _ => QV.move rfl rfl) ?_
          refine WL.quiet Own.closed rfl (by decide) (GuardIs.none) (fun _ => QV.move rfl rfl) ?_
          refine WL.quiet Own.closed rfl (by decide) (GuardIs.none) (fun _ => QV.subW rfl rfl rfl rfl) ?_
          refine WL.quiet Own.closed rfl (by decide) (GuardIs.none) (fun _ => QV.quoW rfl rfl rfl rfl (by omega)) ?_
          refine WL.quiet Own.closed rfl (by decide) (GuardIs.none) (fun _ => QV.assign rfl rfl) ?_
          refine WL.nil ?_
          refine WQ.block ?_
          refine WQ.then ?_
          refine WC.region ?_
          refine WL.quiet Own.closed rfl (by decide) (GuardIs.none) (fun _ => QV.move rfl rfl) ?_
          refine WL.quiet Own.closed rfl (by decide) (GuardIs.none) (fun _ => QV.addW rfl rfl rfl rfl) ?_
          refine WL.quiet Own.closed rfl (by decide) (GuardIs.none) (fun _ => QV.assign rfl rfl) ?_
          refine WL.nil ?_
          refine WQ.againC (i + 1) ?_ ?_ ⟨look_int rfl (by rw [← half_next]; first | (have hx := of_decide_eq_true h60; exact half_neg hba.1 hba.2 hx) | (have hx := of_decide_eq_false h60; exact half_pos hba.1 hba.2 hx)), look_int rfl (by rw [← half_next]; first | (have hx := of_decide_eq_true h64; exact half_neg hbb.1 hbb.2 hx) | (have hx := of_decide_eq_false h64; exact half_pos hbb.1 hbb.2 hx)), look_int rfl (by first | (have hx := bits_n_yes h52 hcd; exact hx) | (have hx := bits_n_no h52 hcd; exact hx)), look_int rfl (by rw [wrap_add2, pow_next]), look_int rfl (by rw [wrap_i64 (by omega) (by omega)]; omega), rfl, rfl, trivial⟩ (fun w hw => hw)
          · simp [-List.getD_eq_getElem?_getD, -Int.pred_toNat] at h15; omega
          · simp [-List.getD_eq_getElem?_getD, -Int.pred_toNat] at h15; omega
      · skip
        refine WC.skip ?_
        refine WQ.then ?_
        refine WC.seq ?_
        refine WC.seq ?_
        refine WC.region ?_
        refine WL.quiet Own.closed rfl (by decide) (GuardIs.none) (fun _ => QV.move rfl rfl) ?_
        refine WL.quiet Own.closed rfl (by decide) (GuardIs.none) (fun _ => QV.lss rfl rfl rfl rfl) ?_
        refine WL.nil ?_
        refine WQ.then ?_
        refine WC.cond rfl (fun h64 => ?_) (fun h64 => ?_)
        · skip
          refine WC.region ?_
          refine WL.quiet Own.closed rfl (by decide) (GuardIs.none) (fun _ => QV.move rfl rfl) ?_
          refine WL.quiet Own.closed rfl (by decide) (GuardIs.none) (fun _ => QV.addW rfl rfl rfl rfl) ?_
          refine WL.quiet Own.closed rfl (by decide) (GuardIs.none) (fun _ => QV.assign rfl rfl) ?_
          refine WL.nil ?_
          refine WQ.then ?_
          refine WC.seq ?_
          refine WC.region ?_
          refine WL.quiet Own.closed rfl (by decide) (GuardIs.none) (fun _ => QV.move rfl rfl) ?_
          refine WL.quiet Own.closed rfl (by decide) (GuardIs.none) (fun _ => QV.move rfl rfl) ?_
          refine WL.quiet Own.closed rfl (by decide) (GuardIs.none) (fun _ => QV.subW rfl rfl rfl rfl) ?_
          refine WL.quiet Own.closed rfl (by decide) (GuardIs.none) (fun _ => QV.quoW rfl rfl rfl rfl (by omega)) ?_
          refine WL.quiet Own.closed rfl (by decide) (GuardIs.none) (fun _ => QV.assign rfl rfl) ?_
          refine WL.nil ?_
          refine WQ.then ?_
          refine WC.region ?_
          refine WL.quiet Own.closed rfl (by decide) (GuardIs.none) (fun _ => QV.move rfl rfl) ?_
          refine WL.quiet Own.closed rfl (by decide) (GuardIs.none) (fun _ => QV.move rfl rfl) ?_
          refine WL.quiet Own.closed rfl (by decide) (GuardIs.none) (fun _ => QV.subW rfl rfl rfl rfl) ?_
          refine WL.quiet Own.closed rfl (by decide) (GuardIs.none) (fun _ => QV.quoW rfl rfl rfl rfl (by omega)) ?_
          refine WL.quiet Own.closed rfl (by decide) (GuardIs.none) (fun _ => QV.assign rfl rfl) ?_
          refine WL.nil ?_
          refine WQ.block ?_
          refine WQ.then ?_
          refine WC.region ?_
          refine WL.quiet Own.closed rfl (by decide) (GuardIs.none) (fun _ => QV.move rfl rfl) ?_
          refine WL.quiet Own.closed rfl (by decide) (GuardIs.none) (fun _ => QV.addW rfl rfl rfl rfl) ?_
          refine WL.quiet Own.closed rfl (by decide) (GuardIs.none) (fun _ => QV.assign rfl rfl) ?_
          refine WL.nil ?_
          refine WQ.againC (i + 1) ?_ ?_ ⟨look_int rfl (by rw [← half_next]; first | (have hx := of_decide_eq_true h60; exact half_neg hba.1 hba.2 hx) | (have hx := of_decide_eq_false h60; exact half_pos hba.1 hba.2 hx)), look_int rfl (by rw [← half_next]; first | (have hx := of_decide_eq_true h64; exact half_neg hbb.1 hbb.2 hx) | (have hx := of_decide_eq_false h64; exact half_pos hbb.1 hbb.2 hx)), look_int rfl (by first | (have hx := bits_n_yes h52 hcd; exact hx) | (have hx := bits_n_no h52 hcd; exact hx)), look_int rfl (by rw [wrap_add2, pow_next]), look_int rfl (by rw [wrap_i64 (by omega) (by omega)]; omega), rfl, rfl, trivial⟩ (fun w hw => hw)
          · simp [-List.getD_eq_getElem?_getD, -Int.pred_toNat] at h15; omega
          · simp [-List.getD_eq_getElem?_getD, -Int.pred_toNat] at h15; omega
        · skip
          refine WC.skip ?_
          refine WQ.then ?_
          refine WC.seq ?_
          refine WC.region ?_
          refine WL.quiet Own.closed rfl (by decide) (GuardIs.none) (fun _ => QV.move rfl rfl) ?_
          refine WL.quiet Own.closed rfl (by decide) (GuardIs.none) (fun _ => QV.move rfl rfl) ?_
          refine WL.quiet Own.closed rfl (by decide) (GuardIs.none) (fun _ => QV.subW rfl rfl rfl rfl) ?_
          refine WL.quiet Own.closed rfl (by decide) (GuardIs.none) (fun _ => QV.quoW rfl rfl rfl rfl (by omega)) ?_
          refine WL.quiet Own.closed rfl (by decide) (GuardIs.none) (fun _ => QV.assign rfl rfl) ?_
          refine WL.nil ?_
          refine WQ.then ?_
          refine WC.region ?_
          refine WL.quiet Own.closed rfl (by decide) (GuardIs.none) (fun _ => QV.move rfl rfl) ?_
          refine WL.quiet Own.closed rfl (by decide) (GuardIs.none) (fun _ => QV.move rfl rfl) ?_
          refine WL.quiet Own.closed rfl (by decide) (GuardIs.none) (fun _ => QV.subW rfl rfl rfl rfl) ?_
          refine WL.quiet Own.closed rfl (by decide) (GuardIs.none) (fun _ => QV.quoW rfl rfl rfl rfl (by omega)) ?_
          refine WL.quiet Own.closed rfl (by decide) (GuardIs.none) (fun _ => QV.assign rfl rfl) ?_
          refine WL.nil ?_
          refine WQ.block ?_
          refine WQ.then ?_
          refine WC.region ?_
          refine WL.quiet Own.closed rfl (by decide) (GuardIs.none) (fun _ => QV.move rfl rfl) ?_
          refine WL.quiet Own.closed rfl (by decide) (GuardIs.none) (fun _ => QV.addW rfl rfl rfl rfl) ?_
          refine WL.quiet Own.closed rfl (by decide) (GuardIs.none) (fun _ => QV.assign rfl rfl) ?_
          refine WL.nil ?_
          refine WQ.againC (i + 1) ?_ ?_ ⟨look_int rfl (by rw [← half_next]; first | (have hx := of_decide_eq_true h60; exact half_neg hba.1 hba.2 hx) | (have hx := of_decide_eq_false h60; exact half_pos hba.1 hba.2 hx)), look_int rfl (by rw [← half_next]; first | (have hx := of_decide_eq_true h64; exact half_neg hbb.1 hbb.2 hx) | (have hx := of_decide_eq_false h64; exact half_pos hbb.1 hbb.2 hx)), look_int rfl (by first | (have hx := bits_n_yes h52 hcd; exact hx) | (have hx := bits_n_no h52 hcd; exact hx)), look_int rfl (by rw [wrap_add2, pow_next]), look_int rfl (by rw [wrap_i64 (by omega) (by omega)]; omega), rfl, rfl, trivial⟩ (fun w hw => hw)
          · simp [-List.getD_eq_getElem?_getD, -Int.pred_toNat] at h15; omega
          · simp [-List.getD_eq_getElem?_getD, -Int.pred_toNat] at h15; omega
    · skip
      refine WC.skip ?_
      refine WQ.then ?_
      refine WC.seq ?_
      refine WC.region ?_
      refine WL.quiet Own.closed rfl (by decide) (GuardIs.none) (fun _ => QV.move rfl rfl) ?_
      refine WL.quiet Own.closed rfl (by decide) (GuardIs.none) (fun _ => QV.move rfl rfl) ?_
      refine WL.quiet Own.closed rfl (by decide) (GuardIs.none) (fun _ => QV.addW rfl rfl rfl rfl) ?_
      refine WL.quiet Own.closed rfl (by decide) (GuardIs.none) (fun _ => QV.assign rfl rfl) ?_
      refine WL.nil ?_
      refine WQ.then ?_
      refine WC.seq ?_
      refine WC.seq ?_
      refine WC.region ?_
      refine WL.quiet Own.closed rfl (by decide) (GuardIs.none) (fun _ => QV.move rfl rfl) ?_
      refine WL.quiet Own.closed rfl (by decide) (GuardIs.none) (fun _ => QV.lss rfl rfl rfl rfl) ?_
      refine WL.nil ?_
      refine WQ.then ?_
      refine WC.cond rfl (fun h60 => ?_) (fun h60 => ?_)
      · skip
        refine WC.region ?_
        refine WL.quiet Own.closed rfl (by decide) (GuardIs.none) (fun _ => QV.move rfl rfl) ?_
        refine WL.quiet Own.closed rfl (by decide) (GuardIs.none) (fun _ => QV.addW rfl rfl rfl rfl) ?_
        refine WL.quiet Own.closed rfl (by decide) (GuardIs.none) (fun _ => QV.assign rfl rfl) ?_
        refine WL.nil ?_
        refine WQ.then ?_
        refine WC.seq ?_
        refine WC.seq ?_
        refine WC.region ?_
        refine WL.quiet Own.closed rfl (by decide) (GuardIs.none) (fun _ => QV.move rfl rfl) ?_
        refine WL.quiet Own.closed rfl (by decide) (GuardIs.none) (fun _ => QV.lss rfl rfl rfl rfl) ?_
        refine WL.nil ?_
        refine WQ.then ?_
        refine WC.cond rfl (fun h64 => ?_) (fun h64 => ?_)
        · skip
          refine WC.region ?_
          refine WL.quiet Own.closed rfl (by decide) (GuardIs.none) (fun _ => QV.move rfl rfl) ?_
          refine WL.quiet Own.closed rfl (by decide) (GuardIs.none) (fun _ => QV.addW rfl rfl rfl rfl) ?_
          refine WL.quiet Own.closed rfl (by decide) (GuardIs.none) (fun _ => QV.assign rfl rfl) ?_
          refine WL.nil ?_
          refine WQ.then ?_
          refine WC.seq ?_
          refine WC.region ?_
          refine WL.quiet Own.closed rfl (by decide) (GuardIs.none) (fun _ => QV.move rfl rfl) ?_
          refine WL.quiet Own.closed rfl (by decide) (GuardIs.none) (fun _ => QV.move rfl rfl) ?_
          refine WL.quiet Own.closed rfl (by decide) (GuardIs.none) (fun _ => QV.subW rfl rfl rfl rfl) ?_
          refine WL.quiet Own.closed rfl (by decide) (GuardIs.none) (fun _ => QV.quoW rfl rfl rfl rfl (by omega)) ?_
          refine WL.quiet Own.closed rfl (by decide) (GuardIs.none) (fun _ => QV.assign rfl rfl) ?_
          refine WL.nil ?_
          refine WQ.then ?_
          refine WC.region ?_
          refine WL.quiet Own.closed rfl (by decide) (GuardIs.none) (fun _ => QV.move rfl rfl) ?_
          refine WL.quiet Own.closed rfl (by decide) (GuardIs.none) (fun _ => QV.move rfl rfl) ?_
          refine WL.quiet Own.closed rfl (by decide) (GuardIs.none) (fun _ => QV.subW rfl rfl rfl rfl) ?_
          refine WL.quiet Own.closed rfl (by decide) (GuardIs.none) (fun _ => QV.quoW rfl rfl rfl rfl (by omega)) ?_
          refine WL.quiet Own.closed rfl (by decide) (GuardIs.none) (fun _ => QV.assign rfl rfl) ?_
          refine WL.nil ?_
          refine WQ.block ?_
          refine WQ.then ?_
          refine WC.region ?_
          refine WL.quiet Own.closed rfl (by decide) (GuardIs.none) (fun _ => QV.move rfl rfl) ?_
          refine WL.quiet Own.closed rfl (by decide) (GuardIs.none) (fun _ => QV.addW rfl rfl rfl rfl) ?_
          refine WL.quiet Own.closed rfl (by decide) (GuardIs.none) (fun _ => QV.assign rfl rfl) ?_
          refine WL.nil ?_
          refine WQ.againC (i + 1) ?_ ?_ ⟨look_int rfl (by rw [← half_next]; first | (have hx := of_decide_eq_true h60; exact half_neg hba.1 hba.2 hx) | (have hx := of_decide_eq_false h60; exact half_pos hba.1 hba.2 hx)), look_int rfl (by rw [← half_next]; first | (have hx := of_decide_eq_true h64; exact half_neg hbb.1 hbb.2 hx) | (have hx := of_decide_eq_false h64; exact half_pos hbb.1 hbb.2 hx)), look_int rfl (by first | (have hx := bits_n_yes h52 hcd; exact hx) | (have hx := bits_n_no h52 hcd; exact hx)), look_int rfl (by rw [wrap_add2, pow_next]), look_int rfl (by rw [wrap_i64 (by omega) (by omega)]; omega), rfl, rfl, trivial⟩ (fun w hw => hw)
          · simp [-List.getD_eq_getElem?_getD, -Int.pred_toNat] at h15; omega
          · simp [-List.getD_eq_getElem?_getD, -Int.pred_toNat] at h15; omega
        · skip
          refine WC.skip ?_
          refine WQ.then ?_
          refine WC.seq ?_
          refine WC.region ?_
          refine WL.quiet Own.closed rfl (by decide) (GuardIs.none) (fun _ => QV.move rfl rfl) ?_
          refine WL.quiet Own.closed rfl (by decide) (GuardIs.none) (fun _ => QV.move rfl rfl) ?_
          refine WL.quiet Own.closed rfl (by decide) (GuardIs.none) (fun _ => QV.subW rfl rfl rfl rfl) ?_
          refine WL.quiet Own.closed rfl (by decide) (GuardIs.none) (fun _ => QV.quoW rfl rfl rfl rfl (by omega)) ?_
          refine WL.quiet Own.closed rfl (by decide) (GuardIs.none) (fun _ => QV.assign rfl rfl) ?_
          refine WL.nil ?_
          refine WQ.then ?_
          refine WC.region ?_
          refine WL.quiet Own.closed rfl (by decide) (GuardIs.none) (fun _ => QV.move rfl rfl) ?_
          refine WL.quiet Own.closed rfl (by decide) (GuardIs.none) (fun _ => QV.move rfl rfl) ?_
          refine WL.quiet Own.closed rfl (by decide) (GuardIs.none) (fun _ => QV.subW rfl rfl rfl rfl) ?_
          refine WL.quiet Own.closed rfl (by decide) (GuardIs.none) (fun _ => QV.quoW rfl rfl rfl rfl (by omega)) ?_
          refine WL.quiet Own.closed rfl (by decide) (GuardIs.none) (fun _ => QV.assign rfl rfl) ?_
          refine WL.nil ?_
          refine WQ.block ?_
          refine WQ.then ?_
          refine WC.region ?_
          refine WL.quiet Own.closed rfl (by decide) (GuardIs.none) (fun _ => QV.move rfl rfl) ?_
          refine WL.quiet Own.closed rfl (by decide) (GuardIs.none) (fun _ => QV.addW rfl rfl rfl rfl) ?_
          refine WL.quiet Own.closed rfl (by decide) (GuardIs.none) (fun _ => QV.assign rfl rfl) ?_
          refine WL.nil ?_
          refine WQ.againC (i + 1) ?_ ?_ ⟨look_int rfl (by rw [← half_next]; first | (have hx := of_decide_eq_true h60; exact half_neg hba.1 hba.2 hx) | (have hx := of_decide_eq_false h60; exact half_pos hba.1 hba.2 hx)), look_int rfl (by rw [← half_next]; first | (have hx := of_decide_eq_true h64; exact half_neg hbb.1 hbb.2 hx) | (have hx := of_decide_eq_false h64; exact half_pos hbb.1 hbb.2 hx)), look_int rfl (by first | (have hx := bits_n_yes h52 hcd; exact hx) | (have hx := bits_n_no h52 hcd; exact hx)), look_int rfl (by rw [wrap_add2, pow_next]), look_int rfl (by rw [wrap_i64 (by omega) (by omega)]; omega), rfl, rfl, trivial⟩ (fun w hw => hw)
          · simp [-List.getD_eq_getElem?_getD, -Int.pred_toNat] at h15; omega
          · simp [-List.getD_eq_getElem?_getD, -Int.pred_toNat] at h15; omega
      · skip
        refine WC.skip ?_
        refine WQ.then ?_
        refine WC.seq ?_
        refine WC.seq ?_
        refine WC.region ?_
        refine WL.quiet Own.closed rfl (by decide) (GuardIs.none) (fun _ => QV.move rfl rfl) ?_
        refine WL.quiet Own.closed rfl (by decide) (GuardIs.none) (fun _ => QV.lss rfl rfl rfl rfl) ?_
        refine WL.nil ?_
        refine WQ.then ?_
        refine WC.cond rfl (fun h64 => ?_) (fun h64 => ?_)
        · skip
          refine WC.region ?_
          refine WL.quiet Own.closed rfl (by decide) (GuardIs.none) (fun _ => QV.move rfl rfl) ?_
          refine WL.quiet Own.closed rfl (by decide) (GuardIs.none) (fun _ => QV.addW rfl rfl rfl rfl) ?_
          refine WL.quiet Own.closed rfl (by decide) (GuardIs.none) (fun _ => QV.assign rfl rfl) ?_
          refine WL.nil ?_
          refine WQ.then ?_
          refine WC.seq ?_
          refine WC.region ?_
          refine WL.quiet Own.closed rfl (by decide) (GuardIs.none) (fun _ => QV.move rfl rfl) ?_
          refine WL.quiet Own.closed rfl (by decide) (GuardIs.none) (fun _ => QV.move rfl rfl) ?_
          refine WL.quiet Own.closed rfl (by decide) (GuardIs.none) (fun _ => QV.subW rfl rfl rfl rfl) ?_
          refine WL.quiet Own.closed rfl (by decide) (GuardIs.none) (fun _ => QV.quoW rfl rfl rfl rfl (by omega)) ?_
          refine WL.quiet Own.closed rfl (by decide) (GuardIs.none) (fun _ => QV.assign rfl rfl) ?_
          refine WL.nil ?_
          refine WQ.then ?_
          refine WC.region ?_
          refine WL.quiet Own.closed rfl (by decide) (GuardIs.none) (fun _ => QV.move rfl rfl) ?_
          refine WL.quiet Own.closed rfl (by decide) (GuardIs.none) (fun _ => QV.move rfl rfl) ?_
          refine WL.quiet Own.closed rfl (by decide) (GuardIs.none) (fun _ => QV.subW rfl rfl rfl rfl) ?_
          refine WL.quiet Own.closed rfl (by decide) (GuardIs.none) (fun _ => QV.quoW rfl rfl rfl rfl (by omega)) ?_
          refine WL.quiet Own.closed rfl (by decide) (GuardIs.none) (fun _ => QV.assign rfl rfl) ?_
          refine WL.nil ?_
          refine WQ.block ?_
          refine WQ.then ?_
          refine WC.region ?_
          refine WL.quiet Own.closed rfl (by decide) (GuardIs.none) (fun _ => QV.move rfl rfl) ?_
          refine WL.quiet Own.closed rfl (by decide) (GuardIs.none) (fun _ => QV.addW rfl rfl rfl rfl) ?_
          refine WL.quiet Own.closed rfl (by decide) (GuardIs.none) (fun _ => QV.assign rfl rfl) ?_
          refine WL.nil ?_
          refine WQ.againC (i + 1) ?_ ?_ ⟨look_int rfl (by rw [← half_next]; first | (have hx := of_decide_eq_true h60; exact half_neg hba.1 hba.2 hx) | (have hx := of_decide_eq_false h60; exact half_pos hba.1 hba.2 hx)), look_int rfl (by rw [← half_next]; first | (have hx := of_decide_eq_true h64; exact half_neg hbb.1 hbb.2 hx) | (have hx := of_decide_eq_false h64; exact half_pos hbb.1 hbb.2 hx)), look_int rfl (by first | (have hx := bits_n_yes h52 hcd; exact hx) | (have hx := bits_n_no h52 hcd; exact hx)), look_int rfl (by rw [wrap_add2, pow_next]), look_int rfl (by rw [wrap_i64 (by omega) (by omega)]; omega), rfl, rfl, trivial⟩ (fun w hw => hw)
          · simp [-List.getD_eq_getElem?_getD, -Int.pred_toNat] at h15; omega
          · simp [-List.getD_eq_getElem?_getD, -Int.pred_toNat] at h15; omega
        · skip
          refine WC.skip ?_
          refine WQ.then ?_
          refine WC.seq ?_
          refine WC.region ?_
          refine WL.quiet Own.closed rfl (by decide) (GuardIs.none) (fun _ => QV.move rfl rfl) ?_
          refine WL.quiet Own.closed rfl (by decide) (GuardIs.none) (fun _ => QV.move rfl rfl) ?_
          refine WL.quiet Own.closed rfl (by decide) (GuardIs.none) (fun _ => QV.subW rfl rfl rfl rfl) ?_
          refine WL.quiet Own.closed rfl (by decide) (GuardIs.none) (fun _ => QV.quoW rfl rfl rfl rfl (by omega)) ?_
          refine WL.quiet Own.closed rfl (by decide) (GuardIs.none) (fun _ => QV.assign rfl rfl) ?_
          refine WL.nil ?_
          refine WQ.then ?_
          refine WC.region ?_
          refine WL.quiet Own.closed rfl (by decide) (GuardIs.none) (fun _ => QV.move rfl rfl) ?_
          refine WL.quiet Own.closed rfl (by decide) (GuardIs.none) (fun _ => QV.move rfl rfl) ?_
          refine WL.quiet Own.closed rfl (by decide) (GuardIs.none) (fun _ => QV.subW rfl rfl rfl rfl) ?_
          refine WL.quiet Own.closed rfl (by decide) (GuardIs.none) (fun _ => QV.quoW rfl rfl rfl rfl (by omega)) ?_
          refine WL.quiet Own.closed rfl (by decide) (GuardIs.none) (fun _ => QV.assign rfl rfl) ?_
          refine WL.nil ?_
          refine WQ.block ?_
          refine WQ.then ?_
          refine WC.region ?_
          refine WL.quiet Own.closed rfl (by decide) (GuardIs.none) (fun _ => QV.move rfl rfl) ?_
          refine WL.quiet Own.closed rfl (by decide) (GuardIs.none) (fun _ => QV.addW rfl rfl rfl rfl) ?_
          refine WL.quiet Own.closed rfl (by decide) (GuardIs.none) (fun _ => QV.assign rfl rfl) ?_
          refine WL.nil ?_
          refine WQ.againC (i + 1) ?_ ?_ ⟨look_int rfl (by rw [← half_next]; first | (have hx := of_decide_eq_true h60; exact half_neg hba.1 hba.2 hx) | (have hx := of_decide_eq_false h60; exact half_pos hba.1 hba.2 hx)), look_int rfl (by rw [← half_next]; first | (have hx := of_decide_eq_true h64; exact half_neg hbb.1 hbb.2 hx) | (have hx := of_decide_eq_false h64; exact half_pos hbb.1 hbb.2 hx)), look_int rfl (by first | (have hx := bits_n_yes h52 hcd; exact hx) | (have hx := bits_n_no h52 hcd; exact hx)), look_int rfl (by rw [wrap_add2, pow_next]), look_int rfl (by rw [wrap_i64 (by omega) (by omega)]; omega), rfl, rfl, trivial⟩ (fun w hw => hw)
          · simp [-List.getD_eq_getElem?_getD, -Int.pred_toNat] at h15; omega
          · simp [-List.getD_eq_getElem?_getD, -Int.pred_toNat] at h15; omega
  · skip
    refine WC.exit ?_
    refine WQ.then_exit ?_
    refine WQ.then_exit ?_
    refine WQ.block_exit ?_
    refine WQ.then ?_
    refine WC.seq ?_
    refine WC.region ?_
    refine WL.quiet Own.closed rfl (by decide) (GuardIs.none) (fun _ => QV.move rfl rfl) ?_
    refine WL.quiet Own.closed rfl (by decide) (GuardIs.none) (fun _ => QV.assign rfl rfl) ?_
    refine WL.nil ?_
    refine WQ.then ?_
    refine WC.ret ?_
    refine WQ.ret1 rfl rfl (fun w hw => ?_)
    refine ⟨ret_int ?_, hw.grow⟩; simp [-List.getD_eq_getElem?_getD, -Int.pred_toNat] at h15; rw [show i = 64 from by omega]

set_option maxRecDepth 4000 in
theorem roundelayref1_Op (op a b : Int) (w : World) (ha : -9223372036854775808 ≤ a ∧ a ≤ 9223372036854775807) (hb : -9223372036854775808 ≤ b ∧ b ≤ 9223372036854775807) : Calls Try.prog 25 #[.int .i64 op, .int .i64 a, .int .i64 b] w (fun e w' => e = .returned (.int .i64 (opV op a b)) ∧ Grow w w') := by
  refine calls_of_WC (n := 41) (args := [.int .i64 op, .int .i64 a, .int .i64 b]) Try.func25 rfl rfl (Nat.le_of_ble_eq_true rfl) ?_ (Own.start w)
  refine WC.seq ?_
  refine WC.region ?_
  refine WL.quiet Own.closed rfl (by decide) (GuardIs.none) (fun _ => QV.assign rfl rfl) ?_
  refine WL.nil ?_
  refine WQ.then ?_
  refine WC.seq ?_
  refine WC.seq ?_
  refine WC.region ?_
  refine WL.quiet Own.closed rfl (by decide) (GuardIs.none) (fun _ => QV.move rfl rfl) ?_
  refine WL.nil ?_
  refine WQ.then ?_
  refine WC.block ?_
  refine WC.seq ?_
  refine WC.region ?_
  refine WL.quiet Own.closed rfl (by decide) (GuardIs.none) (fun _ => QV.eql rfl rfl rfl rfl) ?_
  refine WL.quiet Own.closed rfl (by decide) (GuardIs.none) (fun _ => QV.assign rfl rfl) ?_
  refine WL.nil ?_
  refine WQ.then ?_
  refine WC.cond rfl (fun h8 => ?_) (fun h8 => ?_)
  · skip
    refine WC.seq ?_
    refine WC.region ?_
    refine WL.quiet Own.closed rfl (by decide) (GuardIs.none) (fun _ => QV.move rfl rfl) ?_
    refine WL.quiet Own.closed rfl (by decide) (GuardIs.none) (fun _ => QV.move rfl rfl) ?_
    refine WL.quiet Own.closed rfl (by decide) (GuardIs.none) (fun _ => QV.addW rfl rfl rfl rfl) ?_
    refine WL.quiet Own.closed rfl (by decide) (GuardIs.none) (fun _ => QV.assign rfl rfl) ?_
    refine WL.nil ?_
    refine WQ.then ?_
    refine WC.ret ?_
    refine WQ.block_ret ?_
    refine WQ.then_ret ?_
    refine WQ.ret1 rfl rfl (fun w hw => ?_)
    refine ⟨ret_int ?_, hw.grow⟩; first | (have hx := opV_bits op a b (.inl h23); exact hx) | (have hx := opV_bits op a b (.inr (.inl h23)); exact hx) | (have hx := opV_bits op a b (.inr (.inr h23)); exact hx) | (exfalso; simp only [beq_iff_eq, beq_eq_false_iff_ne] at *; omega) | (unfold opV; simp only [beq_iff_eq, beq_eq_false_iff_ne, decide_eq_true_eq, decide_eq_false_iff_not] at *; simp [*]; done)
  · skip
    refine WC.seq ?_
    refine WC.region ?_
    refine WL.quiet Own.closed rfl (by decide) (GuardIs.none) (fun _ => QV.eql rfl rfl rfl rfl) ?_
    refine WL.quiet Own.closed rfl (by decide) (GuardIs.none) (fun _ => QV.assign rfl rfl) ?_
    refine WL.nil ?_
    refine WQ.then ?_
    refine WC.cond rfl (fun h13 => ?_) (fun h13 => ?_)
    · skip
      refine WC.seq ?_
      refine WC.region ?_
      refine WL.quiet Own.closed rfl (by decide) (GuardIs.none) (fun _ => QV.move rfl rfl) ?_
      refine WL.quiet Own.closed rfl (by decide) (GuardIs.none) (fun _ => QV.move rfl rfl) ?_
      refine WL.quiet Own.closed rfl (by decide) (GuardIs.none) (fun _ => QV.subW rfl rfl rfl rfl) ?_
      refine WL.quiet Own.closed rfl (by decide) (GuardIs.none) (fun _ => QV.assign rfl rfl) ?_
      refine WL.nil ?_
      refine WQ.then ?_
      refine WC.ret ?_
      refine WQ.block_ret ?_
      refine WQ.then_ret ?_
      refine WQ.ret1 rfl rfl (fun w hw => ?_)
      refine ⟨ret_int ?_, hw.grow⟩; first | (have hx := opV_bits op a b (.inl h23); exact hx) | (have hx := opV_bits op a b (.inr (.inl h23)); exact hx) | (have hx := opV_bits op a b (.inr (.inr h23)); exact hx) | (exfalso; simp only [beq_iff_eq, beq_eq_false_iff_ne] at *; omega) | (unfold opV; simp only [beq_iff_eq, beq_eq_false_iff_ne, decide_eq_true_eq, decide_eq_false_iff_not] at *; simp [*]; done)
    · skip
      refine WC.seq ?_
      refine WC.region ?_
      refine WL.quiet Own.closed rfl (by decide) (GuardIs.none) (fun _ => QV.eql rfl rfl rfl rfl) ?_
      refine WL.quiet Own.closed rfl (by decide) (GuardIs.none) (fun _ => QV.assign rfl rfl) ?_
      refine WL.nil ?_
      refine WQ.then ?_
      refine WC.cond rfl (fun h18 => ?_) (fun h18 => ?_)
      · skip
        refine WC.seq ?_
        refine WC.region ?_
        refine WL.quiet Own.closed rfl (by decide) (GuardIs.none) (fun _ => QV.move rfl rfl) ?_
        refine WL.quiet Own.closed rfl (by decide) (GuardIs.none) (fun _ => QV.move rfl rfl) ?_
        refine WL.quiet Own.closed rfl (by decide) (GuardIs.none) (fun _ => QV.mulW rfl rfl rfl rfl) ?_
        refine WL.quiet Own.closed rfl (by decide) (GuardIs.none) (fun _ => QV.assign rfl rfl) ?_
        refine WL.nil ?_
        refine WQ.then ?_
        refine WC.ret ?_
        refine WQ.block_ret ?_
        refine WQ.then_ret ?_
        refine WQ.ret1 rfl rfl (fun w hw => ?_)
        refine ⟨ret_int ?_, hw.grow⟩; first | (have hx := opV_bits op a b (.inl h23); exact hx) | (have hx := opV_bits op a b (.inr (.inl h23)); exact hx) | (have hx := opV_bits op a b (.inr (.inr h23)); exact hx) | (exfalso; simp only [beq_iff_eq, beq_eq_false_iff_ne] at *; omega) | (unfold opV; simp only [beq_iff_eq, beq_eq_false_iff_ne, decide_eq_true_eq, decide_eq_false_iff_not] at *; simp [*]; done)
      · skip
        refine WC.seq ?_
        refine WC.seq ?_
        refine WC.region ?_
        refine WL.quiet Own.closed rfl (by decide) (GuardIs.none) (fun _ => QV.eql rfl rfl rfl rfl) ?_
        refine WL.quiet Own.closed rfl (by decide) (GuardIs.none) (fun _ => QV.assign rfl rfl) ?_
        refine WL.nil ?_
        refine WQ.then ?_
        refine WC.cond rfl (fun h23 => ?_) (fun h23 => ?_)
        · skip
          refine WC.skip ?_
          refine WQ.then ?_
          refine WC.cond rfl (fun h23 => ?_) (fun h23 => ?_)
          · skip
            refine WC.seq ?_
            refine WC.region ?_
            refine WL.quiet Own.closed rfl (by decide) (GuardIs.none) (fun _ => QV.move rfl rfl) ?_
            refine WL.quiet Own.closed rfl (by decide) (GuardIs.none) (fun _ => QV.move rfl rfl) ?_
            refine WL.quiet Own.closed rfl (by decide) (GuardIs.none) (fun _ => QV.move rfl rfl) ?_
            refine WL.quiet Own.closed rfl (by decide) (GuardIs.none) (fun _ => QV.call en45 (EvAll.cons rfl rfl (EvAll.cons rfl rfl (EvAll.cons rfl rfl EvAll.nil))) (fun w hw => roundelayref1_bits _ _ _ w (by omega) (by omega))) ?_
            refine WL.quiet Own.closed rfl (by decide) (GuardIs.none) (fun _ => QV.assign rfl rfl) ?_
            refine WL.nil ?_
            refine WQ.then ?_
            refine WC.ret ?_
            refine WQ.block_ret ?_
            refine WQ.then_ret ?_
            refine WQ.ret1 rfl rfl (fun w hw => ?_)
            refine ⟨ret_int ?_, hw.grow⟩; first | (have hx := opV_bits op a b (.inl h23); exact hx) | (have hx := opV_bits op a b (.inr (.inl h23)); exact hx) | (have hx := opV_bits op a b (.inr (.inr h23)); exact hx) | (exfalso; simp only [beq_iff_eq, beq_eq_false_iff_ne] at *; omega) | (unfold opV; simp only [beq_iff_eq, beq_eq_false_iff_ne, decide_eq_true_eq, decide_eq_false_iff_not] at *; simp [*]; done)
          · skip
            refine WC.seq ?_
            refine WC.region ?_
            refine WL.quiet Own.closed rfl (by decide) (GuardIs.none) (fun _ => QV.eql rfl rfl rfl rfl) ?_
            refine WL.quiet Own.closed rfl (by decide) (GuardIs.none) (fun _ => QV.assign rfl rfl) ?_
            refine WL.nil ?_
            refine WQ.then ?_
            refine WC.cond rfl (fun h31 => ?_) (fun h31 => ?_)
            · skip
              refine WC.seq ?_
              refine WC.region ?_
              refine WL.quiet Own.closed rfl (by decide) (GuardIs.none) (fun _ => QV.move rfl rfl) ?_
              refine WL.quiet Own.closed rfl (by decide) (GuardIs.none) (fun _ => QV.move rfl rfl) ?_
              refine WL.quiet Own.closed rfl (by decide) (GuardIs.none) (fun _ => QV.lss rfl rfl rfl rfl) ?_
              refine WL.nil ?_
              refine WQ.then ?_
              refine WC.cond rfl (fun h35 => ?_) (fun h35 => ?_)
              · skip
                refine WC.seq ?_
                refine WC.region ?_
                refine WL.quiet Own.closed rfl (by decide) (GuardIs.none) (fun _ => QV.assign rfl rfl) ?_
                refine WL.nil ?_
                refine WQ.then ?_
                refine WC.ret ?_
                refine WQ.block_ret ?_
                refine WQ.then_ret ?_
                refine WQ.ret1 rfl rfl (fun w hw => ?_)
                refine ⟨ret_int ?_, hw.grow⟩; first | (have hx := opV_bits op a b (.inl h23); exact hx) | (have hx := opV_bits op a b (.inr (.inl h23)); exact hx) | (have hx := opV_bits op a b (.inr (.inr h23)); exact hx) | (exfalso; simp only [beq_iff_eq, beq_eq_false_iff_ne] at *; omega) | (unfold opV; simp only [beq_iff_eq, beq_eq_false_iff_ne, decide_eq_true_eq, decide_eq_false_iff_not] at *; simp [*]; done)
              · skip
                refine WC.skip ?_
                refine WQ.block ?_
                refine WQ.then ?_
                refine WC.seq ?_
                refine WC.region ?_
                refine WL.quiet Own.closed rfl (by decide) (GuardIs.none) (fun _ => QV.assign rfl rfl) ?_
                refine WL.nil ?_
                refine WQ.then ?_
                refine WC.ret ?_
                refine WQ.ret1 rfl rfl (fun w hw => ?_)
                refine ⟨ret_int ?_, hw.grow⟩; first | (have hx := opV_bits op a b (.inl h23); exact hx) | (have hx := opV_bits op a b (.inr (.inl h23)); exact hx) | (have hx := opV_bits op a b (.inr (.inr h23)); exact hx) | (exfalso; simp only [beq_iff_eq, beq_eq_false_iff_ne] at *; omega) | (unfold opV; simp only [beq_iff_eq, beq_eq_false_iff_ne, decide_eq_true_eq, decide_eq_false_iff_not] at *; simp [*]; done)
            · skip
              refine WC.seq ?_
              refine WC.region ?_
              refine WL.quiet Own.closed rfl (by decide) (GuardIs.none) (fun _ => QV.eql rfl rfl rfl rfl) ?_
              refine WL.quiet Own.closed rfl (by decide) (GuardIs.none) (fun _ => QV.assign rfl rfl) ?_
              refine WL.nil ?_
              refine WQ.then ?_
              refine WC.cond rfl (fun h36 => ?_) (fun h36 => ?_)
              · skip
                refine WC.seq ?_
                refine WC.region ?_
                refine WL.quiet Own.closed rfl (by decide) (GuardIs.none) (fun _ => QV.move rfl rfl) ?_
                refine WL.quiet Own.closed rfl (by decide) (GuardIs.none) (fun _ => QV.move rfl rfl) ?_
                refine WL.quiet Own.closed rfl (by decide) (GuardIs.none) (fun _ => QV.eql rfl rfl rfl rfl) ?_
                refine WL.nil ?_
                refine WQ.then ?_
                refine WC.cond rfl (fun h40 => ?_) (fun h40 => ?_)
                · skip
                  refine WC.seq ?_
                  refine WC.region ?_
                  refine WL.quiet Own.closed rfl (by decide) (GuardIs.none) (fun _ => QV.assign rfl rfl) ?_
                  refine WL.nil ?_
                  refine WQ.then ?_
                  refine WC.ret ?_
                  refine WQ.block_ret ?_
                  refine WQ.then_ret ?_
                  refine WQ.ret1 rfl rfl (fun w hw => ?_)
                  refine ⟨ret_int ?_, hw.grow⟩; first | (have hx := opV_bits op a b (.inl h23); exact hx) | (have hx := opV_bits op a b (.inr (.inl h23)); exact hx) | (have hx := opV_bits op a b (.inr (.inr h23)); exact hx) | (exfalso; simp only [beq_iff_eq, beq_eq_false_iff_ne] at *; omega) | (unfold opV; simp only [beq_iff_eq, beq_eq_false_iff_ne, decide_eq_true_eq, decide_eq_false_iff_not] at *; simp [*]; done)
                · skip
                  refine WC.skip ?_
                  refine WQ.block ?_
                  refine WQ.then ?_
                  refine WC.seq ?_
                  refine WC.region ?_
                  refine WL.quiet Own.closed rfl (by decide) (GuardIs.none) (fun _ => QV.assign rfl rfl) ?_
                  refine WL.nil ?_
                  refine WQ.then ?_
                  refine WC.ret ?_
                  refine WQ.ret1 rfl rfl (fun w hw => ?_)
                  refine ⟨ret_int ?_, hw.grow⟩; first | (have hx := opV_bits op a b (.inl h23); exact hx) | (have hx := opV_bits op a b (.inr (.inl h23)); exact hx) | (have hx := opV_bits op a b (.inr (.inr h23)); exact hx) | (exfalso; simp only [beq_iff_eq, beq_eq_false_iff_ne] at *; omega) | (unfold opV; simp only [beq_iff_eq, beq_eq_false_iff_ne, decide_eq_true_eq, decide_eq_false_iff_not] at *; simp [*]; done)
              · skip
                refine WC.skip ?_
                refine WQ.block ?_
                refine WQ.then ?_
                refine WC.seq ?_
                refine WC.region ?_
                refine WL.quiet Own.closed rfl (by decide) (GuardIs.none) (fun _ => QV.assign rfl rfl) ?_
                refine WL.nil ?_
                refine WQ.then ?_
                refine WC.ret ?_
                refine WQ.ret1 rfl rfl (fun w hw => ?_)
                refine ⟨ret_int ?_, hw.grow⟩; first | (have hx := opV_bits op a b (.inl h23); exact hx) | (have hx := opV_bits op a b (.inr (.inl h23)); exact hx) | (have hx := opV_bits op a b (.inr (.inr h23)); exact hx) | (exfalso; simp only [beq_iff_eq, beq_eq_false_iff_ne] at *; omega) | (unfold opV; simp only [beq_iff_eq, beq_eq_false_iff_ne, decide_eq_true_eq, decide_eq_false_iff_not] at *; simp [*]; done)
        · skip
          refine WC.seq ?_
          refine WC.region ?_
          refine WL.quiet Own.closed rfl (by decide) (GuardIs.none) (fun _ => QV.eql rfl rfl rfl rfl) ?_
          refine WL.quiet Own.closed rfl (by decide) (GuardIs.none) (fun _ => QV.assign rfl rfl) ?_
          refine WL.nil ?_
          refine WQ.then ?_
          refine WC.cond rfl (fun h23 => ?_) (fun h23 => ?_)
          · skip
            refine WC.skip ?_
            refine WQ.then ?_
            refine WC.cond rfl (fun h23 => ?_) (fun h23 => ?_)
            · skip
              refine WC.seq ?_
              refine WC.region ?_
              refine WL.quiet Own.closed rfl (by decide) (GuardIs.none) (fun _ => QV.move rfl rfl) ?_
              refine WL.quiet Own.closed rfl (by decide) (GuardIs.none) (fun _ => QV.move rfl rfl) ?_
              refine WL.quiet Own.closed rfl (by decide) (GuardIs.none) (fun _ => QV.move rfl rfl) ?_
              refine WL.quiet Own.closed rfl (by decide) (GuardIs.none) (fun _ => QV.call en45 (EvAll.cons rfl rfl (EvAll.cons rfl rfl (EvAll.cons rfl rfl EvAll.nil))) (fun w hw => roundelayref1_bits _ _ _ w (by omega) (by omega))) ?_
              refine WL.quiet Own.closed rfl (by decide) (GuardIs.none) (fun _ => QV.assign rfl rfl) ?_
              refine WL.nil ?_
              refine WQ.then ?_
              refine WC.ret ?_
              refine WQ.block_ret ?_
              refine WQ.then_ret ?_
              refine WQ.ret1 rfl rfl (fun w hw => ?_)
              refine ⟨ret_int ?_, hw.grow⟩; first | (have hx := opV_bits op a b (.inl h23); exact hx) | (have hx := opV_bits op a b (.inr (.inl h23)); exact hx) | (have hx := opV_bits op a b (.inr (.inr h23)); exact hx) | (exfalso; simp only [beq_iff_eq, beq_eq_false_iff_ne] at *; omega) | (unfold opV; simp only [beq_iff_eq, beq_eq_false_iff_ne, decide_eq_true_eq, decide_eq_false_iff_not] at *; simp [*]; done)
            · skip
              refine WC.seq ?_
              refine WC.region ?_
              refine WL.quiet Own.closed rfl (by decide) (GuardIs.none) (fun _ => QV.eql rfl rfl rfl rfl) ?_
              refine WL.quiet Own.closed rfl (by decide) (GuardIs.none) (fun _ => QV.assign rfl rfl) ?_
              refine WL.nil ?_
              refine WQ.then ?_
              refine WC.cond rfl (fun h31 => ?_) (fun h31 => ?_)
              · skip
                refine WC.seq ?_
                refine WC.region ?_
                refine WL.quiet Own.closed rfl (by decide) (GuardIs.none) (fun _ => QV.move rfl rfl) ?_
                refine WL.quiet Own.closed rfl (by decide) (GuardIs.none) (fun _ => QV.move rfl rfl) ?_
                refine WL.quiet Own.closed rfl (by decide) (GuardIs.none) (fun _ => QV.lss rfl rfl rfl rfl) ?_
                refine WL.nil ?_
                refine WQ.then ?_
                refine WC.cond rfl (fun h35 => ?_) (fun h35 => ?_)
                · skip
                  refine WC.seq ?_
                  refine WC.region ?_
                  refine WL.quiet Own.closed rfl (by decide) (GuardIs.none) (fun _ => QV.assign rfl rfl) ?_
                  refine WL.nil ?_
                  refine WQ.then ?_
                  refine WC.ret ?_
                  refine WQ.block_ret ?_
                  refine WQ.then_ret ?_
                  refine WQ.ret1 rfl rfl (fun w hw => ?_)
                  refine ⟨ret_int ?_, hw.grow⟩; first | (have hx := opV_bits op a b (.inl h23); exact hx) | (have hx := opV_bits op a b (.inr (.inl h23)); exact hx) | (have hx := opV_bits op a b (.inr (.inr h23)); exact hx) | (exfalso; simp only [beq_iff_eq, beq_eq_false_iff_ne] at *; omega) | (unfold opV; simp only [beq_iff_eq, beq_eq_false_iff_ne, decide_eq_true_eq, decide_eq_false_iff_not] at *; simp [*]; done)
                · skip
                  refine WC.skip ?_
                  refine WQ.block ?_
                  refine WQ.then ?_
                  refine WC.seq ?_
                  refine WC.region ?_
                  refine WL.quiet Own.closed rfl (by decide) (GuardIs.none) (fun _ => QV.assign rfl rfl) ?_
                  refine WL.nil ?_
                  refine WQ.then ?_
                  refine WC.ret ?_
                  refine WQ.ret1 rfl rfl (fun w hw => ?_)
                  refine ⟨ret_int ?_, hw.grow⟩; first | (have hx := opV_bits op a b (.inl h23); exact hx) | (have hx := opV_bits op a b (.inr (.inl h23)); exact hx) | (have hx := opV_bits op a b (.inr (.inr h23)); exact hx) | (exfalso; simp only [beq_iff_eq, beq_eq_false_iff_ne] at *; omega) | (unfold opV; simp only [beq_iff_eq, beq_eq_false_iff_ne, decide_eq_true_eq, decide_eq_false_iff_not] at *; simp [*]; done)
              · skip
                refine WC.seq ?_
                refine WC.region ?_
                refine WL.quiet Own.closed rfl (by decide) (GuardIs.none) (fun _ => QV.eql rfl rfl rfl rfl) ?_
                refine WL.quiet Own.closed rfl (by decide) (GuardIs.none) (fun _ => QV.assign rfl rfl) ?_
                refine WL.nil ?_
                refine WQ.then ?_
                refine WC.cond rfl (fun h36 => ?_) (fun h36 => ?_)
                · skip
                  refine WC.seq ?_
                  refine WC.region ?_
                  refine WL.quiet Own.closed rfl (by decide) (GuardIs.none) (fun _ => QV.move rfl rfl) ?_
                  refine WL.quiet Own.closed rfl (by decide) (GuardIs.none) (fun _ => QV.move rfl rfl) ?_
                  refine WL.quiet Own.closed rfl (by decide) (GuardIs.none) (fun _ => QV.eql rfl rfl rfl rfl) ?_
                  refine WL.nil ?_
                  refine WQ.then ?_
                  refine WC.cond rfl (fun h40 => ?_) (fun h40 => ?_)
                  · skip
                    refine WC.seq ?_
                    refine WC.region ?_
                    refine WL.quiet Own.closed rfl (by decide) (GuardIs.none) (fun _ => QV.assign rfl rfl) ?_
                    refine WL.nil ?_
                    refine WQ.then ?_
                    refine WC.ret ?_
                    refine WQ.block_ret ?_
                    refine WQ.then_ret ?_
                    refine WQ.ret1 rfl rfl (fun w hw => ?_)
                    refine ⟨ret_int ?_, hw.grow⟩; first | (have hx := opV_bits op a b (.inl h23); exact hx) | (have hx := opV_bits op a b (.inr (.inl h23)); exact hx) | (have hx := opV_bits op a b (.inr (.inr h23)); exact hx) | (exfalso; simp only [beq_iff_eq, beq_eq_false_iff_ne] at *; omega) | (unfold opV; simp only [beq_iff_eq, beq_eq_false_iff_ne, decide_eq_true_eq, decide_eq_false_iff_not] at *; simp [*]; done)
                  · skip
                    refine WC.skip ?_
                    refine WQ.block ?_
                    refine WQ.then ?_
                    refine WC.seq ?_
                    refine WC.region ?_
                    refine WL.quiet Own.closed rfl (by decide) (GuardIs.none) (fun _ => QV.assign rfl rfl) ?_
                    refine WL.nil ?_
                    refine WQ.then ?_
                    refine WC.ret ?_
                    refine WQ.ret1 rfl rfl (fun w hw => ?_)
                    refine ⟨ret_int ?_, hw.grow⟩; first | (have hx := opV_bits op a b (.inl h23); exact hx) | (have hx := opV_bits op a b (.inr (.inl h23)); exact hx) | (have hx := opV_bits op a b (.inr (.inr h23)); exact hx) | (exfalso; simp only [beq_iff_eq, beq_eq_false_iff_ne] at *; omega) | (unfold opV; simp only [beq_iff_eq, beq_eq_false_iff_ne, decide_eq_true_eq, decide_eq_false_iff_not] at *; simp [*]; done)
                · skip
                  refine WC.skip ?_
                  refine WQ.block ?_
                  refine WQ.then ?_
                  refine WC.seq ?_
                  refine WC.region ?_
                  refine WL.quiet Own.closed rfl (by decide) (GuardIs.none) (fun _ => QV.assign rfl rfl) ?_
                  refine WL.nil ?_
                  refine WQ.then ?_
                  refine WC.ret ?_
                  refine WQ.ret1 rfl rfl (fun w hw => ?_)
                  refine ⟨ret_int ?_, hw.grow⟩; first | (have hx := opV_bits op a b (.inl h23); exact hx) | (have hx := opV_bits op a b (.inr (.inl h23)); exact hx) | (have hx := opV_bits op a b (.inr (.inr h23)); exact hx) | (exfalso; simp only [beq_iff_eq, beq_eq_false_iff_ne] at *; omega) | (unfold opV; simp only [beq_iff_eq, beq_eq_false_iff_ne, decide_eq_true_eq, decide_eq_false_iff_not] at *; simp [*]; done)
          · skip
            refine WC.region ?_
            refine WL.quiet Own.closed rfl (by decide) (GuardIs.none) (fun _ => QV.eql rfl rfl rfl rfl) ?_
            refine WL.quiet Own.closed rfl (by decide) (GuardIs.none) (fun _ => QV.assign rfl rfl) ?_
            refine WL.nil ?_
            refine WQ.then ?_
            refine WC.cond rfl (fun h23 => ?_) (fun h23 => ?_)
            · skip
              refine WC.seq ?_
              refine WC.region ?_
              refine WL.quiet Own.closed rfl (by decide) (GuardIs.none) (fun _ => QV.move rfl rfl) ?_
              refine WL.quiet Own.closed rfl (by decide) (GuardIs.none) (fun _ => QV.move rfl rfl) ?_
              refine WL.quiet Own.closed rfl (by decide) (GuardIs.none) (fun _ => QV.move rfl rfl) ?_
              refine WL.quiet Own.closed rfl (by decide) (GuardIs.none) (fun _ => QV.call en45 (EvAll.cons rfl rfl (EvAll.cons rfl rfl (EvAll.cons rfl rfl EvAll.nil))) (fun w hw => roundelayref1_bits _ _ _ w (by omega) (by omega))) ?_
              refine WL.quiet Own.closed rfl (by decide) (GuardIs.none) (fun _ => QV.assign rfl rfl) ?_
              refine WL.nil ?_
              refine WQ.then ?_
              refine WC.ret ?_
              refine WQ.block_ret ?_
              refine WQ.then_ret ?_
              refine WQ.ret1 rfl rfl (fun w hw => ?_)
              refine ⟨ret_int ?_, hw.grow⟩; first | (have hx := opV_bits op a b (.inl h23); exact hx) | (have hx := opV_bits op a b (.inr (.inl h23)); exact hx) | (have hx := opV_bits op a b (.inr (.inr h23)); exact hx) | (exfalso; simp only [beq_iff_eq, beq_eq_false_iff_ne] at *; omega) | (unfold opV; simp only [beq_iff_eq, beq_eq_false_iff_ne, decide_eq_true_eq, decide_eq_false_iff_not] at *; simp [*]; done)
            · skip
              refine WC.seq ?_
              refine WC.region ?_
              refine WL.quiet Own.closed rfl (by decide) (GuardIs.none) (fun _ => QV.eql rfl rfl rfl rfl) ?_
              refine WL.quiet Own.closed rfl (by decide) (GuardIs.none) (fun _ => QV.assign rfl rfl) ?_
              refine WL.nil ?_
              refine WQ.then ?_
              refine WC.cond rfl (fun h31 => ?_) (fun h31 => ?_)
              · skip
                refine WC.seq ?_
                refine WC.region ?_
                refine WL.quiet Own.closed rfl (by decide) (GuardIs.none) (fun _ => QV.move rfl rfl) ?_
                refine WL.quiet Own.closed rfl (by decide) (GuardIs.none) (fun _ => QV.move rfl rfl) ?_
                refine WL.quiet Own.closed rfl (by decide) (GuardIs.none) (fun _ => QV.lss rfl rfl rfl rfl) ?_
                refine WL.nil ?_
                refine WQ.then ?_
                refine WC.cond rfl (fun h35 => ?_) (fun h35 => ?_)
                · skip
                  refine WC.seq ?_
                  refine WC.region ?_
                  refine WL.quiet Own.closed rfl (by decide) (GuardIs.none) (fun _ => QV.assign rfl rfl) ?_
                  refine WL.nil ?_
                  refine WQ.then ?_
                  refine WC.ret ?_
                  refine WQ.block_ret ?_
                  refine WQ.then_ret ?_
                  refine WQ.ret1 rfl rfl (fun w hw => ?_)
                  refine ⟨ret_int ?_, hw.grow⟩; first | (have hx := opV_bits op a b (.inl h23); exact hx) | (have hx := opV_bits op a b (.inr (.inl h23)); exact hx) | (have hx := opV_bits op a b (.inr (.inr h23)); exact hx) | (exfalso; simp only [beq_iff_eq, beq_eq_false_iff_ne] at *; omega) | (unfold opV; simp only [beq_iff_eq, beq_eq_false_iff_ne, decide_eq_true_eq, decide_eq_false_iff_not] at *; simp [*]; done)
                · skip
                  refine WC.skip ?_
                  refine WQ.block ?_
                  refine WQ.then ?_
                  refine WC.seq ?_
                  refine WC.region ?_
                  refine WL.quiet Own.closed rfl (by decide) (GuardIs.none) (fun _ => QV.assign rfl rfl) ?_
                  refine WL.nil ?_
                  refine WQ.then ?_
                  refine WC.ret ?_
                  refine WQ.ret1 rfl rfl (fun w hw => ?_)
                  refine ⟨ret_int ?_, hw.grow⟩; first | (have hx := opV_bits op a b (.inl h23); exact hx) | (have hx := opV_bits op a b (.inr (.inl h23)); exact hx) | (have hx := opV_bits op a b (.inr (.inr h23)); exact hx) | (exfalso; simp only [beq_iff_eq, beq_eq_false_iff_ne] at *; omega) | (unfold opV; simp only [beq_iff_eq, beq_eq_false_iff_ne, decide_eq_true_eq, decide_eq_false_iff_not] at *; simp [*]; done)
              · skip
                refine WC.seq ?_
                refine WC.region ?_
                refine WL.quiet Own.closed rfl (by decide) (GuardIs.none) (fun _ => QV.eql rfl rfl rfl rfl) ?_
                refine WL.quiet Own.closed rfl (by decide) (GuardIs.none) (fun _ => QV.assign rfl rfl) ?_
                refine WL.nil ?_
                refine WQ.then ?_
                refine WC.cond rfl (fun h36 => ?_) (fun h36 => ?_)
                · skip
                  refine WC.seq ?_
                  refine WC.region ?_
                  refine WL.quiet Own.closed rfl (by decide) (GuardIs.none) (fun _ => QV.move rfl rfl) ?_
                  refine WL.quiet Own.closed rfl (by decide) (GuardIs.none) (fun _ => QV.move rfl rfl) ?_
                  refine WL.quiet Own.closed rfl (by decide) (GuardIs.none) (fun _ => QV.eql rfl rfl rfl rfl) ?_
                  refine WL.nil ?_
                  refine WQ.then ?_
                  refine WC.cond rfl (fun h40 => ?_) (fun h40 => ?_)
                  · skip
                    refine WC.seq ?_
                    refine WC.region ?_
                    refine WL.quiet Own.closed rfl (by decide) (GuardIs.none) (fun _ => QV.assign rfl rfl) ?_
                    refine WL.nil ?_
                    refine WQ.then ?_
                    refine WC.ret ?_
                    refine WQ.block_ret ?_
                    refine WQ.then_ret ?_
                    refine WQ.ret1 rfl rfl (fun w hw => ?_)
                    refine ⟨ret_int ?_, hw.grow⟩; first | (have hx := opV_bits op a b (.inl h23); exact hx) | (have hx := opV_bits op a b (.inr (.inl h23)); exact hx) | (have hx := opV_bits op a b (.inr (.inr h23)); exact hx) | (exfalso; simp only [beq_iff_eq, beq_eq_false_iff_ne] at *; omega) | (unfold opV; simp only [beq_iff_eq, beq_eq_false_iff_ne, decide_eq_true_eq, decide_eq_false_iff_not] at *; simp [*]; done)
                  · skip
                    refine WC.skip ?_
                    refine WQ.block ?_
                    refine WQ.then ?_
                    refine WC.seq ?_
                    refine WC.region ?_
                    refine WL.quiet Own.closed rfl (by decide) (GuardIs.none) (fun _ => QV.assign rfl rfl) ?_
                    refine WL.nil ?_
                    refine WQ.then ?_
                    refine WC.ret ?_
                    refine WQ.ret1 rfl rfl (fun w hw => ?_)
                    refine ⟨ret_int ?_, hw.grow⟩; first | (have hx := opV_bits op a b (.inl h23); exact hx) | (have hx := opV_bits op a b (.inr (.inl h23)); exact hx) | (have hx := opV_bits op a b (.inr (.inr h23)); exact hx) | (exfalso; simp only [beq_iff_eq, beq_eq_false_iff_ne] at *; omega) | (unfold opV; simp only [beq_iff_eq, beq_eq_false_iff_ne, decide_eq_true_eq, decide_eq_false_iff_not] at *; simp [*]; done)
                · skip
                  refine WC.skip ?_
                  refine WQ.block ?_
                  refine WQ.then ?_
                  refine WC.seq ?_
                  refine WC.region ?_
                  refine WL.quiet Own.closed rfl (by decide) (GuardIs.none) (fun _ => QV.assign rfl rfl) ?_
                  refine WL.nil ?_
                  refine WQ.then ?_
                  refine WC.ret ?_
                  refine WQ.ret1 rfl rfl (fun w hw => ?_)
                  refine ⟨ret_int ?_, hw.grow⟩; first | (have hx := opV_bits op a b (.inl h23); exact hx) | (have hx := opV_bits op a b (.inr (.inl h23)); exact hx) | (have hx := opV_bits op a b (.inr (.inr h23)); exact hx) | (exfalso; simp only [beq_iff_eq, beq_eq_false_iff_ne] at *; omega) | (unfold opV; simp only [beq_iff_eq, beq_eq_false_iff_ne, decide_eq_true_eq, decide_eq_false_iff_not] at *; simp [*]; done)

set_option maxRecDepth 4000 in
theorem roundelayref1_Index (step plus turn log : Int) (w : World)  : Calls Try.prog 27 #[.int .i64 step, .int .i64 plus, .int .i64 turn, .int .i64 log] w (fun e w' => e = .returned (.int .i64 (idx step plus turn log)) ∧ Grow w w') := by
  refine calls_of_WC (n := 47) (args := [.int .i64 step, .int .i64 plus, .int .i64 turn, .int .i64 log]) Try.func27 rfl rfl (Nat.le_of_ble_eq_true rfl) ?_ (Own.start w)
  refine WC.seq ?_
  refine WC.region ?_
  refine WL.quiet Own.closed rfl (by decide) (GuardIs.none) (fun _ => QV.assign rfl rfl) ?_
  refine WL.nil ?_
  refine WQ.then ?_
  refine WC.seq ?_
  refine WC.seq ?_
  refine WC.region ?_
  refine WL.quiet Own.closed rfl (by decide) (GuardIs.none) (fun _ => QV.move rfl rfl) ?_
  refine WL.quiet Own.closed rfl (by decide) (GuardIs.none) (fun _ => QV.lss rfl rfl rfl rfl) ?_
  refine WL.quiet Own.closed rfl (by decide) (GuardIs.none) (fun _ => QV.move rfl rfl) ?_
  refine WL.quiet Own.closed rfl (by decide) (GuardIs.neg rfl rfl) (fun hG => QV.move rfl rfl) ?_
  refine WL.quiet Own.closed rfl (by decide) (GuardIs.neg rfl rfl) (fun hG => QV.gtr rfl hG rfl rfl) ?_
  refine WL.quiet Own.closed rfl (by decide) (GuardIs.none) (fun _ => QV.pickOr rfl rfl rfl (fun h => notF h)) ?_
  refine WL.quiet Own.closed rfl (by decide) (GuardIs.none) (fun _ => QV.move rfl rfl) ?_
  refine WL.quiet Own.closed rfl (by decide) (GuardIs.neg rfl rfl) (fun hG => QV.move rfl rfl) ?_
  refine WL.quiet Own.closed rfl (by decide) (GuardIs.neg rfl rfl) (fun hG => QV.lss rfl hG rfl rfl) ?_
  refine WL.quiet Own.closed rfl (by decide) (GuardIs.none) (fun _ => QV.pickOr rfl rfl rfl (fun h => notF h)) ?_
  refine WL.quiet Own.closed rfl (by decide) (GuardIs.none) (fun _ => QV.move rfl rfl) ?_
  refine WL.quiet Own.closed rfl (by decide) (GuardIs.neg rfl rfl) (fun hG => QV.move rfl rfl) ?_
  refine WL.quiet Own.closed rfl (by decide) (GuardIs.neg rfl rfl) (fun hG => QV.gtr rfl hG rfl rfl) ?_
  refine WL.quiet Own.closed rfl (by decide) (GuardIs.none) (fun _ => QV.pickOr rfl rfl rfl (fun h => notF h)) ?_
  refine WL.quiet Own.closed rfl (by decide) (GuardIs.none) (fun _ => QV.move rfl rfl) ?_
  refine WL.quiet Own.closed rfl (by decide) (GuardIs.neg rfl rfl) (fun hG => QV.move rfl rfl) ?_
  refine WL.quiet Own.closed rfl (by decide) (GuardIs.neg rfl rfl) (fun hG => QV.lss rfl hG rfl rfl) ?_
  refine WL.quiet Own.closed rfl (by decide) (GuardIs.none) (fun _ => QV.pickOr rfl rfl rfl (fun h => notF h)) ?_
  refine WL.quiet Own.closed rfl (by decide) (GuardIs.none) (fun _ => QV.move rfl rfl) ?_
  refine WL.quiet Own.closed rfl (by decide) (GuardIs.neg rfl rfl) (fun hG => QV.move rfl rfl) ?_
  refine WL.quiet Own.closed rfl (by decide) (GuardIs.neg rfl rfl) (fun hG => QV.gtr rfl hG rfl rfl) ?_
  refine WL.quiet Own.closed rfl (by decide) (GuardIs.none) (fun _ => QV.pickOr rfl rfl rfl (fun h => notF h)) ?_
  refine WL.quiet Own.closed rfl (by decide) (GuardIs.none) (fun _ => QV.move rfl rfl) ?_
  refine WL.quiet Own.closed rfl (by decide) (GuardIs.neg rfl rfl) (fun hG => QV.move rfl rfl) ?_
  refine WL.quiet Own.closed rfl (by decide) (GuardIs.neg rfl rfl) (fun hG => QV.lss rfl hG rfl rfl) ?_
  refine WL.quiet Own.closed rfl (by decide) (GuardIs.none) (fun _ => QV.pickOr rfl rfl rfl (fun h => notF h)) ?_
  refine WL.quiet Own.closed rfl (by decide) (GuardIs.none) (fun _ => QV.move rfl rfl) ?_
  refine WL.quiet Own.closed rfl (by decide) (GuardIs.neg rfl rfl) (fun hG => QV.move rfl rfl) ?_
  refine WL.quiet Own.closed rfl (by decide) (GuardIs.neg rfl rfl) (fun hG => QV.gtr rfl hG rfl rfl) ?_
  refine WL.quiet Own.closed rfl (by decide) (GuardIs.none) (fun _ => QV.pickOr rfl rfl rfl (fun h => notF h)) ?_
  refine WL.nil ?_
  refine WQ.then ?_
  refine WC.cond rfl (fun h38 => ?_) (fun h38 => ?_)
  · skip
    refine WC.seq ?_
    refine WC.region ?_
    refine WL.quiet Own.closed rfl (by decide) (GuardIs.none) (fun _ => QV.assign rfl rfl) ?_
    refine WL.nil ?_
    refine WQ.then ?_
    refine WC.ret ?_
    refine WQ.then_ret ?_
    refine WQ.ret1 rfl rfl (fun w hw => ?_)
    refine ⟨ret_int ?_, hw.grow⟩; first | (rw [idx, if_pos hok]) | (simp [-List.getD_eq_getElem?_getD, -Int.pred_toNat] at h38; rw [idx, if_neg (by unfold OkIdx; omega)])
  · skip
    have hok : OkIdx step plus turn log := (by simp [-List.getD_eq_getElem?_getD, -Int.pred_toNat] at h38; unfold OkIdx; omega); have hp2 := two_pow_5 log.toNat (by have := hok.1; have := hok.2.1; omega); have hb := hok; unfold OkIdx at hb; have hst := step_turn hb.2.2.1 hb.2.2.2.1 hb.2.2.2.2.2.2.1 hb.2.2.2.2.2.2.2
    refine WC.skip ?_
    refine WQ.then ?_
    refine WC.seq ?_
    refine WC.region ?_
    refine WL.quiet Own.closed rfl (by decide) (GuardIs.none) (fun _ => QV.move rfl rfl) ?_
    refine WL.quiet Own.closed rfl (by decide) (GuardIs.none) (fun _ => QV.move rfl rfl) ?_
    refine WL.quiet Own.closed rfl (by decide) (GuardIs.none) (fun _ => QV.mul rfl rfl rfl rfl (by omega)) ?_
    refine WL.quiet Own.closed rfl (by decide) (GuardIs.none) (fun _ => QV.move rfl rfl) ?_
    refine WL.quiet Own.closed rfl (by decide) (GuardIs.none) (fun _ => QV.add rfl rfl rfl rfl (by omega)) ?_
    refine WL.quiet Own.closed rfl (by decide) (GuardIs.none) (fun _ => QV.move rfl rfl) ?_
    refine WL.quiet Own.closed rfl (by decide) (GuardIs.none) (fun _ => QV.call en47 (EvAll.cons rfl rfl EvAll.nil) (fun w hw => roundelayref1_Size _ w (by omega))) ?_
    refine WL.quiet Own.closed rfl (by decide) (GuardIs.none) (fun _ => QV.call en46 (EvAll.cons rfl rfl (EvAll.cons rfl rfl EvAll.nil)) (fun w hw => roundelayref1_Rest _ _ w (by omega) (by omega))) ?_
    refine WL.quiet Own.closed rfl (by decide) (GuardIs.none) (fun _ => QV.assign rfl rfl) ?_
    refine WL.nil ?_
    refine WQ.then ?_
    refine WC.ret ?_
    refine WQ.ret1 rfl rfl (fun w hw => ?_)
    refine ⟨ret_int ?_, hw.grow⟩; first | (rw [idx, if_pos hok]) | (simp [-List.getD_eq_getElem?_getD, -Int.pred_toNat] at h38; rw [idx, if_neg (by unfold OkIdx; omega)])

set_option maxRecDepth 4000 in
theorem roundelaykeep_NumRound (step plus turn log : Int) (w : World) (w0 : -9223372036854775808 ≤ step ∧ step ≤ 9223372036854775807) (w1 : -9223372036854775808 ≤ plus ∧ plus ≤ 9223372036854775807) (w2 : -9223372036854775808 ≤ turn ∧ turn ≤ 9223372036854775807) (w3 : -9223372036854775808 ≤ log ∧ log ≤ 9223372036854775807) : Calls Try.prog 3 #[.int .i64 step, .int .i64 plus, .int .i64 turn, .int .i64 log] w (fun e w' => e = .returned (.bool true) ∧ Grow w w') := by
  refine calls_of_WC (n := 96) (args := [.int .i64 step, .int .i64 plus, .int .i64 turn, .int .i64 log]) Try.func3 rfl rfl (Nat.le_of_ble_eq_true rfl) ?_ (Own.start w)
  refine WC.seq ?_
  refine WC.region ?_
  refine WL.quiet Own.closed rfl (by decide) (GuardIs.none) (fun _ => QV.assign rfl rfl) ?_
  refine WL.nil ?_
  refine WQ.then ?_
  refine WC.seq ?_
  refine WC.region ?_
  refine WL.quiet Own.closed rfl (by decide) (GuardIs.none) (fun _ => QV.move rfl rfl) ?_
  refine WL.quiet Own.closed rfl (by decide) (GuardIs.none) (fun _ => QV.move rfl rfl) ?_
  refine WL.quiet Own.closed rfl (by decide) (GuardIs.none) (fun _ => QV.move rfl rfl) ?_
  refine WL.quiet Own.closed rfl (by decide) (GuardIs.none) (fun _ => QV.move rfl rfl) ?_
  refine WL.quiet Own.closed rfl (by decide) (GuardIs.none) (fun _ => QV.call en13 (EvAll.cons rfl rfl (EvAll.cons rfl rfl (EvAll.cons rfl rfl (EvAll.cons rfl rfl EvAll.nil)))) (fun w hw => num_Index _ _ _ _ w)) ?_
  refine WL.quiet Own.closed rfl (by decide) (GuardIs.none) (fun _ => QV.assign rfl rfl) ?_
  refine WL.nil ?_
  refine WQ.then ?_
  refine WC.seq ?_
  refine WC.seq ?_
  refine WC.region ?_
  refine WL.quiet Own.closed rfl (by decide) (GuardIs.none) (fun _ => QV.call en13 (EvAll.cons rfl rfl (EvAll.cons rfl rfl (EvAll.cons rfl rfl (EvAll.cons rfl rfl EvAll.nil)))) (fun w hw => num_Index _ _ _ _ w)) ?_
  refine WL.quiet Own.closed rfl (by decide) (GuardIs.none) (fun _ => QV.neq rfl rfl rfl rfl) ?_
  refine WL.nil ?_
  refine WQ.then ?_
  refine WC.cond rfl (fun h17 => ?_) (fun h17 => ?_)
  · skip
    exfalso; exact absurd h17 (by decide)
  · skip
    refine WC.skip ?_
    refine WQ.then ?_
    refine WC.seq ?_
    refine WC.seq ?_
    refine WC.region ?_
    refine WL.quiet Own.closed rfl (by decide) (GuardIs.none) (fun _ => QV.move rfl rfl) ?_
    refine WL.quiet Own.closed rfl (by decide) (GuardIs.none) (fun _ => QV.lss rfl rfl rfl rfl) ?_
    refine WL.quiet Own.closed rfl (by decide) (GuardIs.none) (fun _ => QV.move rfl rfl) ?_
    refine WL.quiet Own.closed rfl (by decide) (GuardIs.neg rfl rfl) (fun hG => QV.move rfl rfl) ?_
    refine WL.quiet Own.closed rfl (by decide) (GuardIs.neg rfl rfl) (fun hG => QV.gtr rfl hG rfl rfl) ?_
    refine WL.quiet Own.closed rfl (by decide) (GuardIs.none) (fun _ => QV.pickOr rfl rfl rfl (fun h => notF h)) ?_
    refine WL.quiet Own.closed rfl (by decide) (GuardIs.none) (fun _ => QV.move rfl rfl) ?_
    refine WL.quiet Own.closed rfl (by decide) (GuardIs.neg rfl rfl) (fun hG => QV.move rfl rfl) ?_
    refine WL.quiet Own.closed rfl (by decide) (GuardIs.neg rfl rfl) (fun hG => QV.lss rfl hG rfl rfl) ?_
    refine WL.quiet Own.closed rfl (by decide) (GuardIs.none) (fun _ => QV.pickOr rfl rfl rfl (fun h => notF h)) ?_
    refine WL.quiet Own.closed rfl (by decide) (GuardIs.none) (fun _ => QV.move rfl rfl) ?_
    refine WL.quiet Own.closed rfl (by decide) (GuardIs.neg rfl rfl) (fun hG => QV.move rfl rfl) ?_
    refine WL.quiet Own.closed rfl (by decide) (GuardIs.neg rfl rfl) (fun hG => QV.gtr rfl hG rfl rfl) ?_
    refine WL.quiet Own.closed rfl (by decide) (GuardIs.none) (fun _ => QV.pickOr rfl rfl rfl (fun h => notF h)) ?_
    refine WL.quiet Own.closed rfl (by decide) (GuardIs.none) (fun _ => QV.move rfl rfl) ?_
    refine WL.quiet Own.closed rfl (by decide) (GuardIs.neg rfl rfl) (fun hG => QV.move rfl rfl) ?_
    refine WL.quiet Own.closed rfl (by decide) (GuardIs.neg rfl rfl) (fun hG => QV.lss rfl hG rfl rfl) ?_
    refine WL.quiet Own.closed rfl (by decide) (GuardIs.none) (fun _ => QV.pickOr rfl rfl rfl (fun h => notF h)) ?_
    refine WL.quiet Own.closed rfl (by decide) (GuardIs.none) (fun _ => QV.move rfl rfl) ?_
    refine WL.quiet Own.closed rfl (by decide) (GuardIs.neg rfl rfl) (fun hG => QV.move rfl rfl) ?_
    refine WL.quiet Own.closed rfl (by decide) (GuardIs.neg rfl rfl) (fun hG => QV.gtr rfl hG rfl rfl) ?_
    refine WL.quiet Own.closed rfl (by decide) (GuardIs.none) (fun _ => QV.pickOr rfl rfl rfl (fun h => notF h)) ?_
    refine WL.quiet Own.closed rfl (by decide) (GuardIs.none) (fun _ => QV.move rfl rfl) ?_
    refine WL.quiet Own.closed rfl (by decide) (GuardIs.neg rfl rfl) (fun hG => QV.move rfl rfl) ?_
    refine WL.quiet Own.closed rfl (by decide) (GuardIs.neg rfl rfl) (fun hG => QV.lss rfl hG rfl rfl) ?_
    refine WL.quiet Own.closed rfl (by decide) (GuardIs.none) (fun _ => QV.pickOr rfl rfl rfl (fun h => notF h)) ?_
    refine WL.quiet Own.closed rfl (by decide) (GuardIs.none) (fun _ => QV.move rfl rfl) ?_
    refine WL.quiet Own.closed rfl (by decide) (GuardIs.neg rfl rfl) (fun hG => QV.move rfl rfl) ?_
    refine WL.quiet Own.closed rfl (by decide) (GuardIs.neg rfl rfl) (fun hG => QV.gtr rfl hG rfl rfl) ?_
    refine WL.quiet Own.closed rfl (by decide) (GuardIs.none) (fun _ => QV.pickOr rfl rfl rfl (fun h => notF h)) ?_
    refine WL.nil ?_
    refine WQ.then ?_
    refine WC.cond rfl (fun h47 => ?_) (fun h47 => ?_)
    · skip
      refine WC.seq ?_
      refine WC.region ?_
      refine WL.quiet Own.closed rfl (by decide) (GuardIs.none) (fun _ => QV.move rfl rfl) ?_
      refine WL.quiet Own.closed rfl (by decide) (GuardIs.none) (fun _ => QV.eql rfl rfl rfl rfl) ?_
      refine WL.quiet Own.closed rfl (by decide) (GuardIs.none) (fun _ => QV.assign rfl rfl) ?_
      refine WL.nil ?_
      refine WQ.then ?_
      refine WC.ret ?_
      refine WQ.then_ret ?_
      refine WQ.ret1 rfl rfl (fun w hw => ?_)
      refine ⟨ret_bool ?_, hw.grow⟩; first | (simp [-List.getD_eq_getElem?_getD, -Int.pred_toNat] at h47; rw [idx, if_neg (by unfold OkIdx; omega)]; rfl) | (have := idx_range hok; simp [-List.getD_eq_getElem?_getD, -Int.pred_toNat] at h55; first | (simp; omega) | (simp [idx_split hok, idx_round hok (by omega)]; omega))
    · skip
      have hok : OkIdx step plus turn log := (by simp [-List.getD_eq_getElem?_getD, -Int.pred_toNat] at h47; unfold OkIdx; omega); have hp2 := two_pow_5 log.toNat (by have := hok.1; have := hok.2.1; omega); have hb := hok; unfold OkIdx at hb; have hst := step_turn hb.2.2.1 hb.2.2.2.1 hb.2.2.2.2.2.2.1 hb.2.2.2.2.2.2.2
      refine WC.skip ?_
      refine WQ.then ?_
      refine WC.seq ?_
      refine WC.region ?_
      refine WL.quiet Own.closed rfl (by decide) (GuardIs.none) (fun _ => QV.move rfl rfl) ?_
      refine WL.quiet Own.closed rfl (by decide) (GuardIs.none) (fun _ => QV.shlOne rfl rfl rfl rfl (by omega) (by omega)) ?_
      refine WL.quiet Own.closed rfl (by decide) (GuardIs.none) (fun _ => QV.assign rfl rfl) ?_
      refine WL.nil ?_
      refine WQ.then ?_
      refine WC.seq ?_
      refine WC.seq ?_
      refine WC.region ?_
      refine WL.quiet Own.closed rfl (by decide) (GuardIs.none) (fun _ => QV.move rfl rfl) ?_
      refine WL.quiet Own.closed rfl (by decide) (GuardIs.none) (fun _ => QV.move rfl rfl) ?_
      refine WL.quiet Own.closed rfl (by decide) (GuardIs.none) (fun _ => QV.add rfl rfl rfl rfl (by omega)) ?_
      refine WL.quiet Own.closed rfl (by decide) (GuardIs.none) (fun _ => QV.gtr rfl rfl rfl rfl) ?_
      refine WL.nil ?_
      refine WQ.then ?_
      refine WC.cond rfl (fun h55 => ?_) (fun h55 => ?_)
      · skip
        refine WC.seq ?_
        refine WC.region ?_
        refine WL.quiet Own.closed rfl (by decide) (GuardIs.none) (fun _ => QV.move rfl rfl) ?_
        refine WL.quiet Own.closed rfl (by decide) (GuardIs.none) (fun _ => QV.geq rfl rfl rfl rfl) ?_
        refine WL.quiet Own.closed rfl (by decide) (GuardIs.none) (fun _ => QV.move rfl rfl) ?_
        refine WL.quiet Own.closed rfl (by decide) (GuardIs.pos rfl rfl) (fun hG => QV.move rfl rfl) ?_
        refine WL.quiet Own.closed rfl (by decide) (GuardIs.pos rfl rfl) (fun hG => QV.move rfl rfl) ?_
        refine WL.quiet Own.closed rfl (by decide) (GuardIs.pos rfl rfl) (fun hG => QV.lss rfl hG rfl hG) ?_
        refine WL.quiet Own.closed rfl (by decide) (GuardIs.none) (fun _ => QV.pickAnd rfl rfl rfl (fun h => h)) ?_
        refine WL.quiet Own.closed rfl (by decide) (GuardIs.none) (fun _ => QV.assign rfl rfl) ?_
        refine WL.nil ?_
        refine WQ.then ?_
        refine WC.ret ?_
        refine WQ.then_ret ?_
        refine WQ.ret1 rfl rfl (fun w hw => ?_)
        refine ⟨ret_bool ?_, hw.grow⟩; first | (simp [-List.getD_eq_getElem?_getD, -Int.pred_toNat] at h47; rw [idx, if_neg (by unfold OkIdx; omega)]; rfl) | (have := idx_range hok; simp [-List.getD_eq_getElem?_getD, -Int.pred_toNat] at h55; first | (simp; omega) | (simp [idx_split hok, idx_round hok (by omega)]; omega))
      · skip
        refine WC.skip ?_
        refine WQ.then ?_
        refine WC.seq ?_
        refine WC.drawnL 34 #[false, false, false, false, false, false, false, false, false, false, false, false, false, false, false, false, false, false, false, false, false, false, false, false, false, false, false, false, false, false, false, false, false, false] (by kernel_rfl) (by kernel_rfl) (by kernel_rfl) Own.closed ?_
        refine WD.take 0 rfl (by kernel_rfl) (by kernel_rfl) (by kernel_rfl) (show _ = #[true, false, false, false, false, false, false, false, false, false, false, false, false, false, false, false, false, false, false, false, false, false, false, false, false, false, false, false, false, false, false, false, false, false] by kernel_rfl) (PanicOk.then PanicOk.body) Own.closed rfl (by decide) (GuardIs.none) (fun _ => QV.move rfl rfl) ?_
        refine WD.take 1 rfl (by kernel_rfl) (by kernel_rfl) (by kernel_rfl) (show _ = #[true, true, false, false, false, false, false, false, false, false, false, false, false, false, false, false, false, false, false, false, false, false, false, false, false, false, false, false, false, false, false, false, false, false] by kernel_rfl) (PanicOk.then PanicOk.body) Own.closed rfl (by decide) (GuardIs.none) (fun _ => QV.geq rfl rfl rfl rfl) ?_
        refine WD.take 2 rfl (by kernel_rfl) (by kernel_rfl) (by kernel_rfl) (show _ = #[true, true, true, false, false, false, false, false, false, false, false, false, false, false, false, false, false, false, false, false, false, false, false, false, false, false, false, false, false, false, false, false, false, false] by kernel_rfl) (PanicOk.then PanicOk.body) Own.closed rfl (by decide) (GuardIs.none) (fun _ => QV.move rfl rfl) ?_
        refine WD.take 3 rfl (by kernel_rfl) (by kernel_rfl) (by kernel_rfl) (show _ = #[true, true, true, true, false, false, false, false, false, false, false, false, false, false, false, false, false, false, false, false, false, false, false, false, false, false, false, false, false, false, false, false, false, false] by kernel_rfl) (PanicOk.then PanicOk.body) Own.closed rfl (by decide) (GuardIs.pos rfl rfl) (fun hG => QV.move rfl rfl) ?_
        refine WD.take 4 rfl (by kernel_rfl) (by kernel_rfl) (by kernel_rfl) (show _ = #[true, true, true, true, true, false, false, false, false, false, false, false, false, false, false, false, false, false, false, false, false, false, false, false, false, false, false, false, false, false, false, false, false, false] by kernel_rfl) (PanicOk.then PanicOk.body) Own.closed rfl (by decide) (GuardIs.pos rfl rfl) (fun hG => QV.move rfl rfl) ?_
        refine WD.take 5 rfl (by kernel_rfl) (by kernel_rfl) (by kernel_rfl) (show _ = #[true, true, true, true, true, true, false, false, false, false, false, false, false, false, false, false, false, false, false, false, false, false, false, false, false, false, false, false, false, false, false, false, false, false] by kernel_rfl) (PanicOk.then PanicOk.body) Own.closed rfl (by decide) (GuardIs.pos rfl rfl) (fun hG => QV.lss rfl hG rfl hG) ?_
        refine WD.take 6 rfl (by kernel_rfl) (by kernel_rfl) (by kernel_rfl) (show _ = #[true, true, true, true, true, true, true, false, false, false, false, false, false, false, false, false, false, false, false, false, false, false, false, false, false, false, false, false, false, false, false, false, false, false] by kernel_rfl) (PanicOk.then PanicOk.body) Own.closed rfl (by decide) (GuardIs.none) (fun _ => QV.pickAnd rfl rfl rfl (fun h => h)) ?_
        refine WD.take 7 rfl (by kernel_rfl) (by kernel_rfl) (by kernel_rfl) (show _ = #[true, true, true, true, true, true, true, true, false, false, false, false, false, false, false, false, false, false, false, false, false, false, false, false, false, false, false, false, false, false, false, false, false, false] by kernel_rfl) (PanicOk.then PanicOk.body) Own.closed rfl (by decide) (GuardIs.none) (fun _ => QV.move rfl rfl) ?_
        refine WD.take 8 rfl (by kernel_rfl) (by kernel_rfl) (by kernel_rfl) (show _ = #[true, true, true, true, true, true, true, true, true, false, false, false, false, false, false, false, false, false, false, false, false, false, false, false, false, false, false, false, false, false, false, false, false, false] by kernel_rfl) (PanicOk.then PanicOk.body) Own.closed rfl (by decide) (GuardIs.pos rfl rfl) (fun hG => QV.move rfl rfl) ?_
        refine WD.take 9 rfl (by kernel_rfl) (by kernel_rfl) (by kernel_rfl) (show _ = #[true, true, true, true, true, true, true, true, true, true, false, false, false, false, false, false, false, false, false, false, false, false, false, false, false, false, false, false, false, false, false, false, false, false] by kernel_rfl) (PanicOk.then PanicOk.body) Own.closed rfl (by decide) (GuardIs.pos rfl rfl) (fun hG => QV.move rfl rfl) ?_
        refine WD.take 10 rfl (by kernel_rfl) (by kernel_rfl) (by kernel_rfl) (show _ = #[true, true, true, true, true, true, true, true, true, true, true, false, false, false, false, false, false, false, false, false, false, false, false, false, false, false, false, false, false, false, false, false, false, false] by kernel_rfl) (PanicOk.then PanicOk.body) Own.closed rfl (by decide) (GuardIs.pos rfl rfl) (fun hG => QV.move rfl rfl) ?_
        refine WD.take 11 rfl (by kernel_rfl) (by kernel_rfl) (by kernel_rfl) (show _ = #[true, true, true, true, true, true, true, true, true, true, true, true, false, false, false, false, false, false, false, false, false, false, false, false, false, false, false, false, false, false, false, false, false, false] by kernel_rfl) (PanicOk.then PanicOk.body) Own.closed rfl (by decide) (GuardIs.pos rfl rfl) (fun hG => QV.move rfl rfl) ?_
        refine WD.take 12 rfl (by kernel_rfl) (by kernel_rfl) (by kernel_rfl) (show _ = #[true, true, true, true, true, true, true, true, true, true, true, true, true, false, false, false, false, false, false, false, false, false, false, false, false, false, false, false, false, false, false, false, false, false] by kernel_rfl) (PanicOk.then PanicOk.body) Own.closed rfl (by decide) (GuardIs.pos rfl rfl) (fun hG => QV.add rfl hG rfl hG (by omega)) ?_
        refine WD.take 13 rfl (by kernel_rfl) (by kernel_rfl) (by kernel_rfl) (show _ = #[true, true, true, true, true, true, true, true, true, true, true, true, true, true, false, false, false, false, false, false, false, false, false, false, false, false, false, false, false, false, false, false, false, false] by kernel_rfl) (PanicOk.then PanicOk.body) Own.closed rfl (by decide) (GuardIs.pos rfl rfl) (fun hG => QV.move rfl rfl) ?_
        refine WD.take 14 rfl (by kernel_rfl) (by kernel_rfl) (by kernel_rfl) (show _ = #[true, true, true, true, true, true, true, true, true, true, true, true, true, true, true, false, false, false, false, false, false, false, false, false, false, false, false, false, false, false, false, false, false, false] by kernel_rfl) (PanicOk.then PanicOk.body) Own.closed rfl (by decide) (GuardIs.pos rfl rfl) (fun hG => QV.call en13 (EvAll.cons rfl hG (EvAll.cons rfl hG (EvAll.cons rfl hG (EvAll.cons rfl hG EvAll.nil)))) (fun w hw => num_Index _ _ _ _ w)) ?_
        refine WD.take 15 rfl (by kernel_rfl) (by kernel_rfl) (by kernel_rfl) (show _ = #[true, true, true, true, true, true, true, true, true, true, true, true, true, true, true, true, false, false, false, false, false, false, false, false, false, false, false, false, false, false, false, false, false, false] by kernel_rfl) (PanicOk.then PanicOk.body) Own.closed rfl (by decide) (GuardIs.pos rfl rfl) (fun hG => QV.move rfl rfl) ?_
        refine WD.take 16 rfl (by kernel_rfl) (by kernel_rfl) (by kernel_rfl) (show _ = #[true, true, true, true, true, true, true, true, true, true, true, true, true, true, true, true, true, false, false, false, false, false, false, false, false, false, false, false, false, false, false, false, false, false] by kernel_rfl) (PanicOk.then PanicOk.body) Own.closed rfl (by decide) (GuardIs.pos rfl rfl) (fun hG => QV.eql rfl hG rfl hG) ?_
        refine WD.take 17 rfl (by kernel_rfl) (by kernel_rfl) (by kernel_rfl) (show _ = #[true, true, true, true, true, true, true, true, true, true, true, true, true, true, true, true, true, true, false, false, false, false, false, false, false, false, false, false, false, false, false, false, false, false] by kernel_rfl) (PanicOk.then PanicOk.body) Own.closed rfl (by decide) (GuardIs.none) (fun _ => QV.pickAnd rfl rfl rfl (fun h => h)) ?_
        refine WD.take 18 rfl (by kernel_rfl) (by kernel_rfl) (by kernel_rfl) (show _ = #[true, true, true, true, true, true, true, true, true, true, true, true, true, true, true, true, true, true, true, false, false, false, false, false, false, false, false, false, false, false, false, false, false, false] by kernel_rfl) (PanicOk.then PanicOk.body) Own.closed rfl (by decide) (GuardIs.none) (fun _ => QV.move rfl rfl) ?_
        refine WD.take 19 rfl (by kernel_rfl) (by kernel_rfl) (by kernel_rfl) (show _ = #[true, true, true, true, true, true, true, true, true, true, true, true, true, true, true, true, true, true, true, true, false, false, false, false, false, false, false, false, false, false, false, false, false, false] by kernel_rfl) (PanicOk.then PanicOk.body) Own.closed rfl (by decide) (GuardIs.pos rfl rfl) (fun hG => QV.move rfl rfl) ?_
        refine WD.take 20 rfl (by kernel_rfl) (by kernel_rfl) (by kernel_rfl) (show _ = #[true, true, true, true, true, true, true, true, true, true, true, true, true, true, true, true, true, true, true, true, true, false, false, false, false, false, false, false, false, false, false, false, false, false] by kernel_rfl) (PanicOk.then PanicOk.body) Own.closed rfl (by decide) (GuardIs.pos rfl rfl) (fun hG => QV.move rfl rfl) ?_
        refine WD.take 21 rfl (by kernel_rfl) (by kernel_rfl) (by kernel_rfl) (show _ = #[true, true, true, true, true, true, true, true, true, true, true, true, true, true, true, true, true, true, true, true, true, true, false, false, false, false, false, false, false, false, false, false, false, false] by kernel_rfl) (PanicOk.then PanicOk.body) Own.closed rfl (by decide) (GuardIs.pos rfl rfl) (fun hG => QV.mul rfl hG rfl hG (by omega)) ?_
        refine WD.take 22 rfl (by kernel_rfl) (by kernel_rfl) (by kernel_rfl) (show _ = #[true, true, true, true, true, true, true, true, true, true, true, true, true, true, true, true, true, true, true, true, true, true, true, false, false, false, false, false, false, false, false, false, false, false] by kernel_rfl) (PanicOk.then PanicOk.body) Own.closed rfl (by decide) (GuardIs.pos rfl rfl) (fun hG => QV.move rfl rfl) ?_
        refine WD.take 23 rfl (by kernel_rfl) (by kernel_rfl) (by kernel_rfl) (show _ = #[true, true, true, true, true, true, true, true, true, true, true, true, true, true, true, true, true, true, true, true, true, true, true, true, false, false, false, false, false, false, false, false, false, false] by kernel_rfl) (PanicOk.then PanicOk.body) Own.closed rfl (by decide) (GuardIs.pos rfl rfl) (fun hG => QV.rem rfl hG rfl hG (by omega)) ?_
        refine WD.take 24 rfl (by kernel_rfl) (by kernel_rfl) (by kernel_rfl) (show _ = #[true, true, true, true, true, true, true, true, true, true, true, true, true, true, true, true, true, true, true, true, true, true, true, true, true, false, false, false, false, false, false, false, false, false] by kernel_rfl) (PanicOk.then PanicOk.body) Own.closed rfl (by decide) (GuardIs.pos rfl rfl) (fun hG => QV.move rfl rfl) ?_
        refine WD.take 25 rfl (by kernel_rfl) (by kernel_rfl) (by kernel_rfl) (show _ = #[true, true, true, true, true, true, true, true, true, true, true, true, true, true, true, true, true, true, true, true, true, true, true, true, true, true, false, false, false, false, false, false, false, false] by kernel_rfl) (PanicOk.then PanicOk.body) Own.closed rfl (by decide) (GuardIs.pos rfl rfl) (fun hG => QV.move rfl rfl) ?_
        refine WD.take 26 rfl (by kernel_rfl) (by kernel_rfl) (by kernel_rfl) (show _ = #[true, true, true, true, true, true, true, true, true, true, true, true, true, true, true, true, true, true, true, true, true, true, true, true, true, true, true, false, false, false, false, false, false, false] by kernel_rfl) (PanicOk.then PanicOk.body) Own.closed rfl (by decide) (GuardIs.pos rfl rfl) (fun hG => QV.rem rfl hG rfl hG (by omega)) ?_
        refine WD.take 27 rfl (by kernel_rfl) (by kernel_rfl) (by kernel_rfl) (show _ = #[true, true, true, true, true, true, true, true, true, true, true, true, true, true, true, true, true, true, true, true, true, true, true, true, true, true, true, true, false, false, false, false, false, false] by kernel_rfl) (PanicOk.then PanicOk.body) Own.closed rfl (by decide) (GuardIs.pos rfl rfl) (fun hG => QV.add rfl hG rfl hG (by have := tmod_lt' (step * turn) (m := 2 ^ log.toNat) (by omega); have := tmod_lt' plus (m := 2 ^ log.toNat) (by omega); omega)) ?_
        refine WD.take 28 rfl (by kernel_rfl) (by kernel_rfl) (by kernel_rfl) (show _ = #[true, true, true, true, true, true, true, true, true, true, true, true, true, true, true, true, true, true, true, true, true, true, true, true, true, true, true, true, true, false, false, false, false, false] by kernel_rfl) (PanicOk.then PanicOk.body) Own.closed rfl (by decide) (GuardIs.pos rfl rfl) (fun hG => QV.move rfl rfl) ?_
        refine WD.take 29 rfl (by kernel_rfl) (by kernel_rfl) (by kernel_rfl) (show _ = #[true, true, true, true, true, true, true, true, true, true, true, true, true, true, true, true, true, true, true, true, true, true, true, true, true, true, true, true, true, true, false, false, false, false] by kernel_rfl) (PanicOk.then PanicOk.body) Own.closed rfl (by decide) (GuardIs.pos rfl rfl) (fun hG => QV.call en13 (EvAll.cons rfl rfl (EvAll.cons rfl hG (EvAll.cons rfl rfl (EvAll.cons rfl hG EvAll.nil)))) (fun w hw => num_Index _ _ _ _ w)) ?_
        refine WD.take 30 rfl (by kernel_rfl) (by kernel_rfl) (by kernel_rfl) (show _ = #[true, true, true, true, true, true, true, true, true, true, true, true, true, true, true, true, true, true, true, true, true, true, true, true, true, true, true, true, true, true, true, false, false, false] by kernel_rfl) (PanicOk.then PanicOk.body) Own.closed rfl (by decide) (GuardIs.pos rfl rfl) (fun hG => QV.move rfl rfl) ?_
        refine WD.take 31 rfl (by kernel_rfl) (by kernel_rfl) (by kernel_rfl) (show _ = #[true, true, true, true, true, true, true, true, true, true, true, true, true, true, true, true, true, true, true, true, true, true, true, true, true, true, true, true, true, true, true, true, false, false] by kernel_rfl) (PanicOk.then PanicOk.body) Own.closed rfl (by decide) (GuardIs.pos rfl rfl) (fun hG => QV.eql rfl hG rfl hG) ?_
        refine WD.take 32 rfl (by kernel_rfl) (by kernel_rfl) (by kernel_rfl) (show _ = #[true, true, true, true, true, true, true, true, true, true, true, true, true, true, true, true, true, true, true, true, true, true, true, true, true, true, true, true, true, true, true, true, true, false] by kernel_rfl) (PanicOk.then PanicOk.body) Own.closed rfl (by decide) (GuardIs.none) (fun _ => QV.pickAnd rfl rfl rfl (fun h => h)) ?_
        refine WD.take 33 rfl (by kernel_rfl) (by kernel_rfl) (by kernel_rfl) (show _ = #[true, true, true, true, true, true, true, true, true, true, true, true, true, true, true, true, true, true, true, true, true, true, true, true, true, true, true, true, true, true, true, true, true, true] by kernel_rfl) (PanicOk.then PanicOk.body) Own.closed rfl (by decide) (GuardIs.none) (fun _ => QV.assign rfl rfl) ?_
        refine WD.done (by kernel_rfl) ?_
        refine WQ.then ?_
        refine WC.ret ?_
        refine WQ.ret1 rfl rfl (fun w hw => ?_)
        refine ⟨ret_bool ?_, hw.grow⟩; first | (simp [-List.getD_eq_getElem?_getD, -Int.pred_toNat] at h47; rw [idx, if_neg (by unfold OkIdx; omega)]; rfl) | (have := idx_range hok; simp [-List.getD_eq_getElem?_getD, -Int.pred_toNat] at h55; first | (simp; omega) | (simp [idx_split hok, idx_round hok (by omega)]; omega))

set_option maxRecDepth 4000 in
theorem roundelaylaw_NumTells (op a b step plus turn log : Int) (w : World) (ha : -9223372036854775808 ≤ a ∧ a ≤ 9223372036854775807) (hb : -9223372036854775808 ≤ b ∧ b ≤ 9223372036854775807) : Calls Try.prog 7 #[.int .i64 op, .int .i64 a, .int .i64 b, .int .i64 step, .int .i64 plus, .int .i64 turn, .int .i64 log] w (fun e w' => e = .returned (.bool true) ∧ Grow w w') := by
  refine calls_of_WC (n := 50) (args := [.int .i64 op, .int .i64 a, .int .i64 b, .int .i64 step, .int .i64 plus, .int .i64 turn, .int .i64 log]) Try.func7 rfl rfl (Nat.le_of_ble_eq_true rfl) ?_ (Own.start w)
  refine WC.seq ?_
  refine WC.region ?_
  refine WL.quiet Own.closed rfl (by decide) (GuardIs.none) (fun _ => QV.assign rfl rfl) ?_
  refine WL.nil ?_
  refine WQ.then ?_
  refine WC.seq ?_
  refine WC.region ?_
  refine WL.quiet Own.closed rfl (by decide) (GuardIs.none) (fun _ => QV.move rfl rfl) ?_
  refine WL.quiet Own.closed rfl (by decide) (GuardIs.none) (fun _ => QV.move rfl rfl) ?_
  refine WL.quiet Own.closed rfl (by decide) (GuardIs.none) (fun _ => QV.move rfl rfl) ?_
  refine WL.quiet Own.closed rfl (by decide) (GuardIs.none) (fun _ => QV.call en23 (EvAll.cons rfl rfl (EvAll.cons rfl rfl (EvAll.cons rfl rfl EvAll.nil))) (fun w hw => num_Op _ _ _ w)) ?_
  refine WL.quiet Own.closed rfl (by decide) (GuardIs.none) (fun _ => QV.assign rfl rfl) ?_
  refine WL.nil ?_
  refine WQ.then ?_
  refine WC.seq ?_
  refine WC.region ?_
  refine WL.quiet Own.closed rfl (by decide) (GuardIs.none) (fun _ => QV.move rfl rfl) ?_
  refine WL.quiet Own.closed rfl (by decide) (GuardIs.none) (fun _ => QV.call en24 (EvAll.cons rfl rfl EvAll.nil) (fun w hw => num_Class _ w)) ?_
  refine WL.quiet Own.closed rfl (by decide) (GuardIs.none) (fun _ => QV.assign rfl rfl) ?_
  refine WL.nil ?_
  refine WQ.then ?_
  refine WC.seq ?_
  refine WC.region ?_
  refine WL.quiet Own.closed rfl (by decide) (GuardIs.none) (fun _ => QV.move rfl rfl) ?_
  refine WL.quiet Own.closed rfl (by decide) (GuardIs.none) (fun _ => QV.move rfl rfl) ?_
  refine WL.quiet Own.closed rfl (by decide) (GuardIs.none) (fun _ => QV.move rfl rfl) ?_
  refine WL.quiet Own.closed rfl (by decide) (GuardIs.none) (fun _ => QV.move rfl rfl) ?_
  refine WL.quiet Own.closed rfl (by decide) (GuardIs.none) (fun _ => QV.call en13 (EvAll.cons rfl rfl (EvAll.cons rfl rfl (EvAll.cons rfl rfl (EvAll.cons rfl rfl EvAll.nil)))) (fun w hw => num_Index _ _ _ _ w)) ?_
  refine WL.quiet Own.closed rfl (by decide) (GuardIs.none) (fun _ => QV.assign rfl rfl) ?_
  refine WL.nil ?_
  refine WQ.then ?_
  refine WC.seq ?_
  refine WC.region ?_
  refine WL.quiet Own.closed rfl (by decide) (GuardIs.none) (fun _ => QV.move rfl rfl) ?_
  refine WL.quiet Own.closed rfl (by decide) (GuardIs.none) (fun _ => QV.move rfl rfl) ?_
  refine WL.quiet Own.closed rfl (by decide) (GuardIs.none) (fun _ => QV.move rfl rfl) ?_
  refine WL.quiet Own.closed rfl (by decide) (GuardIs.none) (fun _ => QV.move rfl rfl) ?_
  refine WL.quiet Own.closed rfl (by decide) (GuardIs.none) (fun _ => QV.call en25 (EvAll.cons rfl rfl (EvAll.cons rfl rfl (EvAll.cons rfl rfl EvAll.nil))) (fun w hw => roundelayref1_Op _ _ _ w (by omega) (by omega))) ?_
  refine WL.quiet Own.closed rfl (by decide) (GuardIs.none) (fun _ => QV.eql rfl rfl rfl rfl) ?_
  refine WL.quiet Own.closed rfl (by decide) (GuardIs.none) (fun _ => QV.move rfl rfl) ?_
  refine WL.quiet Own.closed rfl (by decide) (GuardIs.pos rfl rfl) (fun hG => QV.move rfl rfl) ?_
  refine WL.quiet Own.closed rfl (by decide) (GuardIs.pos rfl rfl) (fun hG => QV.move rfl rfl) ?_
  refine WL.quiet Own.closed rfl (by decide) (GuardIs.pos rfl rfl) (fun hG => QV.call en26 (EvAll.cons rfl hG EvAll.nil) (fun w hw => roundelayref1_Class _ w)) ?_
  refine WL.quiet Own.closed rfl (by decide) (GuardIs.pos rfl rfl) (fun hG => QV.eql rfl hG rfl hG) ?_
  refine WL.quiet Own.closed rfl (by decide) (GuardIs.none) (fun _ => QV.pickAnd rfl rfl rfl (fun h => h)) ?_
  refine WL.quiet Own.closed rfl (by decide) (GuardIs.none) (fun _ => QV.move rfl rfl) ?_
  refine WL.quiet Own.closed rfl (by decide) (GuardIs.pos rfl rfl) (fun hG => QV.move rfl rfl) ?_
  refine WL.quiet Own.closed rfl (by decide) (GuardIs.pos rfl rfl) (fun hG => QV.move rfl rfl) ?_
  refine WL.quiet Own.closed rfl (by decide) (GuardIs.pos rfl rfl) (fun hG => QV.move rfl rfl) ?_
  refine WL.quiet Own.closed rfl (by decide) (GuardIs.pos rfl rfl) (fun hG => QV.move rfl rfl) ?_
  refine WL.quiet Own.closed rfl (by decide) (GuardIs.pos rfl rfl) (fun hG => QV.move rfl rfl) ?_
  refine WL.quiet Own.closed rfl (by decide) (GuardIs.pos rfl rfl) (fun hG => QV.call en27 (EvAll.cons rfl hG (EvAll.cons rfl hG (EvAll.cons rfl hG (EvAll.cons rfl hG EvAll.nil)))) (fun w hw => roundelayref1_Index _ _ _ _ w)) ?_
  refine WL.quiet Own.closed rfl (by decide) (GuardIs.pos rfl rfl) (fun hG => QV.eql rfl hG rfl hG) ?_
  refine WL.quiet Own.closed rfl (by decide) (GuardIs.none) (fun _ => QV.pickAnd rfl rfl rfl (fun h => h)) ?_
  refine WL.quiet Own.closed rfl (by decide) (GuardIs.none) (fun _ => QV.assign rfl rfl) ?_
  refine WL.nil ?_
  refine WQ.then ?_
  refine WC.ret ?_
  refine WQ.ret1 rfl rfl (fun w hw => ?_)
  exact ⟨ret_bool (by simp), hw.grow⟩
end Go.Proofs.Ytaimbkndebaaiaa
