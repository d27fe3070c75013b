/- Walks: the functions do what the models say. -/
import Derived.Test.YtaimbkndebaaiaaMClone
import Derived.Test.YtaimbkndebaaiaaProg
import Derived.KernelRfl
namespace Go.Proofs.Ytaimbkndebaaiaa
open Go.Rd
set_option linter.unusedVariables false
set_option linter.unusedSimpArgs false
namespace TClone
theorem sz_57 : SliceZ Try.prog 57 2 1 [.int .i64 0] := ⟨Try.underlying57, by kernel_rfl⟩
theorem ve57 : VecT Try.prog 57 2 1 8 := ⟨Try.underlying57, by kernel_rfl, by decide⟩
end TClone
open TClone
set_option maxRecDepth 8000 in
theorem slices_Clone___int64_int64__w {v_s : Value} {s : List Int} {r : List Int} {K0 : World} (hm : slices_Clone___int64_int64__m v_s s = some r) (h_s : Arr K0 v_s 1 (s.map icell)) (M : Nat → Prop) (w : World) (hk : Base M K0 w) (hw0 : Own M w [] w) : Calls Try.prog 60 #[v_s] w (fun e w' => ∃ X : Value × World, e = .returned (X.1) ∧ Own M w (kn M w.heap.size K0 X.2 :: [vec X.1 2 1 (List.map icell r)]) w' ∧ SliceLen X.1 (r).length) := by
  unfold slices_Clone___int64_int64__m at hm
  refine calls_of_WC (n := 8) (args := [v_s]) Try.func60 rfl rfl (Nat.le_of_ble_eq_true rfl) ?_ (Own.startK hk hw0)
  refine WC.seq ?_
  refine WC.region ?_
  refine WL.q rfl rfl rfl (QV.assign rfl rfl) ?_
  refine WL.nil ?_
  refine WQ.then ?_
  refine WC.seq ?_
  refine WC.seq ?_
  refine WC.region ?_
  refine WL.q rfl rfl rfl (QV.move rfl rfl) ?_
  refine WL.q rfl rfl rfl (QV.eqlNil Try.underlying57 rfl rfl h_s.lenMap) ?_
  refine WL.nil ?_
  refine WQ.then ?_
  refine WC.cond rfl (fun h1 => ?_) (fun h1 => ?_)
  · skip
    have hm2 := br_t h1 hm; clear hm
    refine WC.seq ?_
    refine WC.region ?_
    refine WL.q rfl rfl rfl (QV.assign rfl rfl) ?_
    refine WL.nil ?_
    refine WQ.then ?_
    refine WC.ret ?_
    refine WQ.then_ret ?_
    obtain rfl := eq_of_some hm2
    refine WK.of (fun w hw => hw.vecNil (E := 2) (sz := 1) (enc := icell)) ?_
    refine WQ.ret1 rfl rfl (fun w hw => ?_)
    exact ⟨(.slice none 0 0, K0), rfl, hw.pick [1, 0] (by decide), SliceLen.nil⟩
  · skip
    have hm4 := br_f h1 hm; clear hm
    refine WC.skip ?_
    refine WQ.then ?_
    refine WC.seq ?_
    refine WC.region ?_
    refine WL.effect rfl ?_
    refine (EV.buildSlice0 (by decide) sz_57 (fun b5 => ?_))
    refine WL.q rfl rfl rfl (QV.move rfl rfl) ?_
    refine WL.effect rfl ?_
    refine EV.of (fun w hw => hw.blkVec icell ([] : List Int) rfl icell_len (Nat.le_of_ble_eq_true rfl)) ?_
    obtain ⟨c6, hm7⟩ := ck_some hm4; clear hm4
    refine (EV.appendL (enc := icell) (xs := []) (ys := s) (([] ++ s)) 0 (by decide) ve57 rfl rfl rfl rfl rfl (Own.karr 1 rfl hk h_s) icell_len (icell_one _) rfl c6.1 c6.2 (fun u8 hu9 => ?_))
    refine WL.q rfl rfl rfl (QV.assign rfl rfl) ?_
    refine WL.nil ?_
    refine WQ.then ?_
    refine WC.ret ?_
    obtain rfl := eq_of_some hm7
    refine WQ.ret1 rfl rfl (fun w hw => ?_)
    exact ⟨(u8, K0), rfl, hw.pick [1, 0] (by decide), hu9⟩

theorem Clone_w {v_s : Value} {s : List Int} {r : List Int} {K0 : World} (hm : Clone_m s = some r) (h_s : Arr K0 v_s 1 (s.map icell)) (M : Nat → Prop) (w : World) (hk : Base M K0 w) (hw0 : Own M w [] w) : Calls Try.prog 60 #[v_s] w (fun e w' => ∃ X : Value × World, e = .returned (X.1) ∧ Own M w (kn M w.heap.size K0 X.2 :: [vec X.1 2 1 (r.map icell)]) w' ∧ SliceLen X.1 (r).length) := by
  obtain ⟨h1, h2⟩ := ck_some hm
  obtain rfl := eq_of_some h2
  refine slices_Clone___int64_int64__w ?_ h_s M w hk hw0
  unfold slices_Clone___int64_int64__m
  cases hn : isNilS v_s with
  | true =>
    have := isNilS_len h_s.lenMap hn
    rw [List.length_eq_zero_iff.1 this]; rfl
  | false => simp [br, ck_yes h1]
end Go.Proofs.Ytaimbkndebaaiaa
