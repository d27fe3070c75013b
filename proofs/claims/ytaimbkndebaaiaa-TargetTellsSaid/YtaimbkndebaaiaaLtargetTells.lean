/-
  TargetTells: for every input the call returns true, and each argument reads behind it as before. No condition.
-/
import Derived.Test.YtaimbkndebaaiaaWTarget
import Derived.Test.YtaimbkndebaaiaaRows
import Derived.Test.YtaimbkndebaaiaaLaw
namespace Go.Proofs.Ytaimbkndebaaiaa.targetTells
open Go.Rd Go.ChangeShapes Go.WideShapes Go.ChangeAt Go.RowKit
set_option linter.unusedVariables false
set_option linter.unusedSimpArgs false

theorem own : ownKnob Try.prog.godebug = none := by kernel_rfl
theorem laidOut : laidOutB Try.prog = true := by kernel_rfl

set_option maxRecDepth 100000 in
theorem lifted (os : Os) (started : os.Started) (H : Type) (enc : TypeId × Value → H) :
    ReturnsInHanded {} Try.checked os 4 .any (Rows.targetTellsSpec.pre6 enc Try.prog Try.f4 Rows.targetTellsRow.domain false) (Rows.targetTellsSpec.post enc Try.prog Try.f4 false true false false) := by
  refine returnsInHanded_of_change (C := Try.checked) own started (by kernel_rfl) Try.func4
    (ChangeSpec.witness6 (enc := enc) (C := Try.checked) false ⟨#[], #[.agg #[.int .i64 0, .int .i64 0, .int .i64 0, .int .i64 0, .int .i64 0, .int .i64 0, .int .i64 0], .int .i64 0], []⟩ 8 (by kernel_rfl) (by kernel_rfl) (by kernel_rfl) (by kernel_rfl)) ?_
  intro W base args ds gs before hval0 hW hcnd _
  have hval : ∀ (j : Nat) t v, Try.f4.params[j]? = some t → args[j]? = some v → Value.okWide Try.prog W .any base t v := hval0
  have hW' := hW
  obtain ⟨p, q, hA0, hV, rfl, hfz, hnd⟩ := hW
  have hA : DataW.TrodAll enc Try.prog W 0 (fun _ => true) true Try.f4.params.toList args.toList ds p := hA0
  rw [Try.params4] at hA hval
  obtain ⟨v0, vs0, d0, ds0, p0, q0, hargs, rfl, rfl, h0, r0⟩ := trodAll_cons hA
  obtain ⟨v1, vs1, d1, ds1, p1, q1, rfl, rfl, rfl, h1, r1⟩ := trodAll_cons r0
  obtain ⟨rfl, rfl, rfl⟩ := trodAll_nil r1
  obtain rfl : args = #[v0, v1] := by cases args; simp_all
  obtain ⟨rfl, rfl⟩ := trodVars_none hV
  obtain ⟨cs0, rfl⟩ := okWide_agg Try.underlying26 (hval 0 26 v0 rfl rfl); obtain ⟨fuel0, hf0⟩ := h0; obtain ⟨ns0, hns0, hln0, hr0⟩ := trod_flat (k := 6) (by kernel_rfl) hf0; rw [show Try.prog.cellsOf 26 = 7 from by kernel_rfl] at hln0; obtain ⟨m0, m1, m2, m3, m4, m5, m6, rfl⟩ := seven hln0; obtain rfl : cs0 = [m0, m1, m2, m3, m4, m5, m6].map i64v := by simpa [Value.cells] using hns0
  obtain ⟨a1, rfl, rfl, rfl, wf1⟩ := open_int Try.underlying3 (hval 1 3 v1 rfl rfl) h1; have w1 := wf_i64 wf1
  clear hA0 hval0
  refine (roundelaylaw_TargetTells ⟨m0, m1, m2, m3, m4, m5, m6⟩ a1 W).mono fun e W' ⟨he, hg⟩ => ?_
  subst he
  exact ⟨_, rfl, law_post (tb := 4) laidOut hW' rfl (of_decide_eq_true (by kernel_rfl)) rfl Try.underlying4 rfl hg⟩

theorem over : Rows.targetTellsRow.holds Try.pinned (OpenSpec.ofChange Rows.targetTellsSpec) :=
  OpenClaim.holds_of_wide 4 Try.f4 rfl rfl rfl rfl rfl rfl rfl ⟨rfl, rfl, rfl, rfl, rfl⟩ rfl rfl rfl rfl rfl (by kernel_rfl) Try.func4 (by kernel_rfl)
    (of_decide_eq_true (by kernel_rfl)) (by unfold Func.isWrapper; first | (rw [if_pos (by decide +kernel)]; kernel_rfl) | (rw [if_neg (by decide +kernel)]; exact ⟨rfl, rfl⟩))
    (fun os started H enc _ => lifted os started H enc)

/-- THE STATEMENT. -/
theorem proved : Rows.TargetTellsSaid := over
#print axioms proved
end Go.Proofs.Ytaimbkndebaaiaa.targetTells
