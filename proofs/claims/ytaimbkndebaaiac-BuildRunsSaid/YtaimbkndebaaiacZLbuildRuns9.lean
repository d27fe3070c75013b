/- The law. -/
import Derived.Test.YtaimbkndebaaiacZLbuildRuns8
import Derived.Test.YtaimbkndebaaiacRows
set_option linter.unusedVariables false
set_option linter.unusedSimpArgs false
set_option maxRecDepth 8000
namespace Go.Proofs.Ytaimbkndebaaiac.buildRuns
open Go.Rd Go.ChangeShapes Go.WideShapes Go.ChangeAt Go.RowKit
theorem own : ownKnob Try.prog.godebug = none := by kernel_rfl
theorem laidOut : laidOutB Try.prog = true := by kernel_rfl
set_option maxRecDepth 100000 in
theorem lifted (os : Os) (started : os.Started) (H : Type) (enc : TypeId × Value → H) :
    ReturnsInHanded {} Try.checked os 6 .any (Rows.buildRunsSpec.pre6 enc Try.prog Try.f6 Rows.buildRunsRow.domain false) (Rows.buildRunsSpec.post enc Try.prog Try.f6 false true false false) := by
  refine returnsInHanded_of_change (C := Try.checked) own started (by kernel_rfl) Try.func6
    (ChangeSpec.witness6 (enc := enc) (C := Try.checked) false ⟨#[], #[.agg #[.slice none 0 0, .slice none 0 0, .slice none 0 0], .agg #[.int .i64 0, .int .i64 0, .int .i64 0, .int .i64 0, .int .i64 0, .int .i64 0, .int .i64 0], .agg #[.slice none 0 0, .slice none 0 0], .int .i64 0], []⟩ 8 (by kernel_rfl) (by kernel_rfl) (by kernel_rfl) (by kernel_rfl)) ?_
  intro W base args ds gs before hval0 hW hcnd _
  have hval : ∀ (j : Nat) t v, Try.f6.params[j]? = some t → args[j]? = some v → Value.okWide Try.prog W .any base t v := hval0
  have hW' := hW
  obtain ⟨p, q, hA0, hV, rfl, hfz, hnd⟩ := hW
  have hA : DataW.TrodAll enc Try.prog W 0 (fun _ => true) true Try.f6.params.toList args.toList ds p := hA0
  rw [Try.params6] at hA hval
  obtain ⟨v0, vs0, d0, ds0, p0, q0, hargs, rfl, rfl, h0, r0⟩ := trodAll_cons hA
  obtain ⟨v1, vs1, d1, ds1, p1, q1, rfl, rfl, rfl, h1, r1⟩ := trodAll_cons r0
  obtain ⟨v2, vs2, d2, ds2, p2, q2, rfl, rfl, rfl, h2, r2⟩ := trodAll_cons r1
  obtain ⟨v3, vs3, d3, ds3, p3, q3, rfl, rfl, rfl, h3, r3⟩ := trodAll_cons r2
  obtain ⟨rfl, rfl, rfl⟩ := trodAll_nil r3
  obtain rfl : args = #[v0, v1, v2, v3] := by cases args; simp_all
  obtain ⟨rfl, rfl⟩ := trodVars_none hV
  obtain ⟨cs0, rfl⟩ := Sk Try.underlying25 (hval 0 25 v0 rfl rfl); obtain ⟨fuel0, hf0⟩ := h0; obtain ⟨x1_0, x2_0, x3_0, l0, hcs0, hL0⟩ := Akv Try.underlying25 (by rfl) Try.underlying22 Try.underlying23 (by kernel_rfl) (by kernel_rfl) ⟨by kernel_rfl, by kernel_rfl, by kernel_rfl, by kernel_rfl, by kernel_rfl⟩ hf0; obtain rfl : cs0 = [x1_0, x2_0, x3_0] := by simpa [Value.cells] using hcs0
  obtain ⟨cs1, rfl⟩ := Sk Try.underlying28 (hval 1 28 v1 rfl rfl); obtain ⟨fuel1, hf1⟩ := h1; obtain ⟨ns1, hns1, hln1, hr1⟩ := Od (k := 6) (by kernel_rfl) hf1; rw [show Try.prog.cellsOf 28 = 7 from by kernel_rfl] at hln1; obtain ⟨m1_0, m1_1, m1_2, m1_3, m1_4, m1_5, m1_6, rfl⟩ := seven hln1; obtain rfl : cs1 = [m1_0, m1_1, m1_2, m1_3, m1_4, m1_5, m1_6].map Cg := by simpa [Value.cells] using hns1
  obtain ⟨cs2, rfl⟩ := Sk Try.underlying50 (hval 2 50 v2 rfl rfl); obtain ⟨fuel2, hf2⟩ := h2; obtain ⟨y4_2, y5_2, B2, M2, hcs2, hB2, hM2⟩ := Ag5 Try.underlying50 (by rfl) Try.underlying32 Try.underlying33 (by kernel_rfl) ⟨by kernel_rfl, by kernel_rfl, by kernel_rfl, by kernel_rfl⟩ hf2; obtain rfl : cs2 = [y4_2, y5_2] := by simpa [Value.cells] using hcs2
  obtain ⟨a3, rfl, rfl, rfl, wf3⟩ := open_int Try.underlying3 (hval 3 3 v3 rfl rfl) h3; have ra3 := Ai1 wf3
  clear hA0 hval0
  have ht := X3 l0 ⟨m1_0, m1_1, m1_2, m1_3, m1_4, m1_5, m1_6⟩ ⟨B2.map (·.2), M2.map (·.2)⟩ a3 hL0 hB2.plain.2 hM2.plain.2 ra3
  refine (Nf W ht hL0.logs hL0.body hL0.outs hB2.plain.1 hM2.plain.1).mono fun e W' ⟨he, hg⟩ => ?_
  subst he
  exact ⟨_, rfl, Ak0 (tb := 4) laidOut hW' rfl (of_decide_eq_true (by kernel_rfl)) rfl Try.underlying4 rfl hg.below⟩
theorem over : Rows.buildRunsRow.holds Try.pinned (OpenSpec.ofChange Rows.buildRunsSpec) :=
  OpenClaim.holds_of_wide 6 Try.f6 rfl rfl rfl rfl rfl rfl rfl ⟨rfl, rfl, rfl, rfl, rfl⟩ rfl rfl rfl rfl rfl (by kernel_rfl) Try.func6 (by kernel_rfl)
    (of_decide_eq_true (by kernel_rfl)) (by unfold Func.isWrapper; first | (rw [if_pos (by decide +kernel)]; kernel_rfl) | (rw [if_neg (by decide +kernel)]; exact ⟨rfl, rfl⟩))
    (fun os started H enc _ => lifted os started H enc)
/-- THE STATEMENT. -/
theorem proved : Rows.BuildRunsSaid := over
#print axioms proved
end Go.Proofs.Ytaimbkndebaaiac.buildRuns