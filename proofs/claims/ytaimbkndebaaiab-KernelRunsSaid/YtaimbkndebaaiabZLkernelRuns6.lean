/- The law. -/
import Derived.Test.YtaimbkndebaaiabZLkernelRuns5
import Derived.Test.YtaimbkndebaaiabRows
set_option linter.unusedVariables false
set_option linter.unusedSimpArgs false
set_option maxRecDepth 8000
namespace Go.Proofs.Ytaimbkndebaaiab.kernelRuns
open Go.Rd Go.ChangeShapes Go.WideShapes Go.ChangeAt Go.RowKit
theorem own : ownKnob Try.prog.godebug = none := by kernel_rfl
theorem laidOut : laidOutB Try.prog = true := by kernel_rfl
set_option maxRecDepth 100000 in
theorem lifted (os : Os) (started : os.Started) (H : Type) (enc : TypeId × Value → H) :
    ReturnsInHanded {} Try.checked os 3 .any (Rows.kernelRunsSpec.pre6 enc Try.prog Try.f3 Rows.kernelRunsRow.domain false) (Rows.kernelRunsSpec.post enc Try.prog Try.f3 false true false false) := by
  refine returnsInHanded_of_change_sized (C := Try.checked) own started (by kernel_rfl) Try.func3
    (ChangeSpec.witness6 (enc := enc) (C := Try.checked) false ⟨#[], #[.agg #[.int .i64 0, .int .i64 0, .int .i64 0, .int .i64 0, .int .i64 0, .int .i64 0, .int .i64 0], .agg #[.int .i64 0, .int .i64 0, .slice none 0 0], .slice none 0 0, .slice none 0 0, .int .i64 0], []⟩ 8 (by kernel_rfl) (by kernel_rfl) (by kernel_rfl) (by kernel_rfl)) ?_
  intro W base args ds gs before hval0 hW hcnd hsz0 _
  have hsz : (DataW.weightsEach Try.prog (Try.f3.params.toList ++ Rows.kernelRunsSpec.plain.varTypes Try.prog) (ds ++ gs)).all (· ≤ reachBytes) = true := hsz0
  have hval : ∀ (j : Nat) t v, Try.f3.params[j]? = some t → args[j]? = some v → Value.okWide Try.prog W .any base t v := hval0
  have hW' := hW
  obtain ⟨p, q, hA0, hV, rfl, hfz, hnd⟩ := hW
  have hA : DataW.TrodAll enc Try.prog W 0 (fun _ => true) true Try.f3.params.toList args.toList ds p := hA0
  rw [Try.params3] at hA hval hsz
  obtain ⟨v0, vs0, d0, ds0, p0, q0, hargs, rfl, rfl, h0, r0⟩ := trodAll_cons hA
  obtain ⟨v1, vs1, d1, ds1, p1, q1, rfl, rfl, rfl, h1, r1⟩ := trodAll_cons r0
  obtain ⟨v2, vs2, d2, ds2, p2, q2, rfl, rfl, rfl, h2, r2⟩ := trodAll_cons r1
  obtain ⟨v3, vs3, d3, ds3, p3, q3, rfl, rfl, rfl, h3, r3⟩ := trodAll_cons r2
  obtain ⟨v4, vs4, d4, ds4, p4, q4, rfl, rfl, rfl, h4, r4⟩ := trodAll_cons r3
  obtain ⟨rfl, rfl, rfl⟩ := trodAll_nil r4
  obtain rfl : args = #[v0, v1, v2, v3, v4] := by cases args; simp_all
  obtain ⟨rfl, rfl⟩ := trodVars_none hV
  obtain ⟨cs0, rfl⟩ := okWide_agg Try.underlying24 (hval 0 24 v0 rfl rfl); obtain ⟨fuel0, hf0⟩ := h0; obtain ⟨ns0, hns0, hln0, hr0⟩ := trod_flat (k := 6) (by kernel_rfl) hf0; rw [show Try.prog.cellsOf 24 = 7 from by kernel_rfl] at hln0; obtain ⟨m0_0, m0_1, m0_2, m0_3, m0_4, m0_5, m0_6, rfl⟩ := seven hln0; obtain rfl : cs0 = [m0_0, m0_1, m0_2, m0_3, m0_4, m0_5, m0_6].map i64v := by simpa [Value.cells] using hns0
  obtain ⟨cs1, rfl⟩ := okWide_agg Try.underlying27 (hval 1 27 v1 rfl rfl); obtain ⟨fuel1, hf1⟩ := h1; obtain ⟨x1, k1, hcs1, hK1⟩ := krn_arg Try.underlying27 (by rfl) Try.underlying3 Try.underlying25 (by kernel_rfl) ⟨by kernel_rfl, by kernel_rfl, by kernel_rfl, by kernel_rfl⟩ hf1; obtain rfl : cs1 = [.int .i64 k1.pace, .int .i64 k1.stages, x1] := by simpa [Value.cells] using hcs1
  obtain ⟨sa2, sl2, sc2, rfl⟩ := okWide_slice Try.underlying28 (hval 2 28 v2 rfl rfl); obtain ⟨fuel2, hf2⟩ := h2; obtain ⟨xs2, hX2, hr2, hl2⟩ := ints_arg Try.underlying28 (by kernel_rfl) (by kernel_rfl) hf2
  obtain ⟨sa3, sl3, sc3, rfl⟩ := okWide_slice Try.underlying29 (hval 3 29 v3 rfl rfl); obtain ⟨fuel3, hf3⟩ := h3; obtain ⟨B3, hB3⟩ := rows_arg Try.underlying29 Try.underlying28 (by kernel_rfl) (by kernel_rfl) (by kernel_rfl) hf3; have hm3 := rows_reach hB3 (show Program.bytesOf Try.prog 28 = 24 by kernel_rfl) (slice_reach (j := 3) Try.underlying29 hf3 hsz rfl rfl)
  obtain ⟨a4, rfl, rfl, rfl, wf4⟩ := open_int Try.underlying3 (hval 4 3 v4 rfl rfl) h4; have ra4 := wf_i64 wf4
  clear hA0 hval0
  have ht := KernelRuns_true ⟨m0_0, m0_1, m0_2, m0_3, m0_4, m0_5, m0_6⟩ k1 xs2 (B3.map (·.2)) a4 hK1 hr2 hl2 hB3.plain.2 hm3 ra4
  refine (roundelaylaw_KernelRuns_w W ht hK1.ops hX2 hB3.plain.1).mono fun e W' ⟨he, hg⟩ => ?_
  subst he
  exact ⟨_, rfl, law_post (tb := 4) laidOut hW' rfl (of_decide_eq_true (by kernel_rfl)) rfl Try.underlying4 rfl hg.below⟩
theorem over : Rows.kernelRunsRow.holds Try.pinned (OpenSpec.ofChange Rows.kernelRunsSpec) :=
  OpenClaim.holds_of_wide 3 Try.f3 rfl rfl rfl rfl rfl rfl rfl ⟨rfl, rfl, rfl, rfl, rfl⟩ rfl rfl rfl rfl rfl (by kernel_rfl) Try.func3 (by kernel_rfl)
    (of_decide_eq_true (by kernel_rfl)) (by unfold Func.isWrapper; first | (rw [if_pos (by decide +kernel)]; kernel_rfl) | (rw [if_neg (by decide +kernel)]; exact ⟨rfl, rfl⟩))
    (fun os started H enc _ => lifted os started H enc)
/-- THE STATEMENT. -/
theorem proved : Rows.KernelRunsSaid := over
#print axioms proved
end Go.Proofs.Ytaimbkndebaaiab.kernelRuns