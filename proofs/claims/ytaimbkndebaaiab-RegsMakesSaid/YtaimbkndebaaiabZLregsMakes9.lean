/- The law. -/
import Derived.Test.YtaimbkndebaaiabZLregsMakes8
import Derived.Test.YtaimbkndebaaiabRows
namespace Go.Proofs.Ytaimbkndebaaiab.regsMakes
open Go.Rd Go.ChangeShapes Go.WideShapes Go.ChangeAt Go.RowKit
set_option linter.unusedVariables false
set_option linter.unusedSimpArgs false

theorem own : ownKnob Try.prog.godebug = none := by kernel_rfl
theorem laidOut : laidOutB Try.prog = true := by kernel_rfl

set_option maxRecDepth 100000 in
theorem lifted (os : Os) (started : os.Started) (H : Type) (enc : TypeId × Value → H) :
    ReturnsInHanded {} Try.checked os 12 .any (Rows.regsMakesSpec.pre6 enc Try.prog Try.f12 Rows.regsMakesRow.domain false) (Rows.regsMakesSpec.post enc Try.prog Try.f12 false true false false) := by
  refine returnsInHanded_of_change (C := Try.checked) own started (by kernel_rfl) Try.func12
    (ChangeSpec.witness6 (enc := enc) (C := Try.checked) false ⟨#[], #[.agg #[.slice none 0 0, .slice none 0 0, .slice none 0 0], .agg #[.int .i64 0, .int .i64 0, .int .i64 0, .int .i64 0, .int .i64 0, .int .i64 0, .int .i64 0], .agg #[.int .i64 0, .slice none 0 0]], []⟩ 8 (by kernel_rfl) (by kernel_rfl) (by kernel_rfl) (by kernel_rfl)) ?_
  intro W base args ds gs before hval0 hW hcnd _
  have hval : ∀ (j : Nat) t v, Try.f12.params[j]? = some t → args[j]? = some v → Value.okWide Try.prog W .any base t v := hval0
  have hW' := hW
  obtain ⟨p, q, hA0, hV, rfl, hfz, hnd⟩ := hW
  have hA : DataW.TrodAll enc Try.prog W 0 (fun _ => true) true Try.f12.params.toList args.toList ds p := hA0
  rw [Try.params12] at hA hval
  obtain ⟨v0, vs0, d0, ds0, p0, q0, hargs, rfl, rfl, h0, r0⟩ := trodAll_cons hA
  obtain ⟨v1, vs1, d1, ds1, p1, q1, rfl, rfl, rfl, h1, r1⟩ := trodAll_cons r0
  obtain ⟨v2, vs2, d2, ds2, p2, q2, rfl, rfl, rfl, h2, r2⟩ := trodAll_cons r1
  obtain ⟨rfl, rfl, rfl⟩ := trodAll_nil r2
  obtain rfl : args = #[v0, v1, v2] := by cases args; simp_all
  obtain ⟨rfl, rfl⟩ := trodVars_none hV
  obtain ⟨cs0, rfl⟩ := okWide_agg Try.underlying49 (hval 0 49 v0 rfl rfl); obtain ⟨fuel0, hf0⟩ := h0; obtain ⟨x1_0, x2_0, x3_0, l0, hcs0, hL0⟩ := loop_arg Try.underlying49 (by rfl) Try.underlying30 Try.underlying47 (by kernel_rfl) (by kernel_rfl) ⟨by kernel_rfl, by kernel_rfl, by kernel_rfl, by kernel_rfl, by kernel_rfl⟩ hf0; obtain rfl : cs0 = [x1_0, x2_0, x3_0] := by simpa [Value.cells] using hcs0
  obtain ⟨cs1, rfl⟩ := okWide_agg Try.underlying24 (hval 1 24 v1 rfl rfl); obtain ⟨fuel1, hf1⟩ := h1; obtain ⟨ns1, hns1, hln1, hr1⟩ := trod_flat (k := 6) (by kernel_rfl) hf1; rw [show Try.prog.cellsOf 24 = 7 from by kernel_rfl] at hln1; obtain ⟨m1_0, m1_1, m1_2, m1_3, m1_4, m1_5, m1_6, rfl⟩ := seven hln1; obtain rfl : cs1 = [m1_0, m1_1, m1_2, m1_3, m1_4, m1_5, m1_6].map i64v := by simpa [Value.cells] using hns1
  obtain ⟨cs2, rfl⟩ := okWide_agg Try.underlying63 (hval 2 63 v2 rfl rfl); obtain ⟨fuel2, hf2⟩ := h2; obtain ⟨x2, p2, hcs2, hP2⟩ := pln_arg Try.underlying63 (by rfl) Try.underlying3 Try.underlying30 (by kernel_rfl) ⟨by kernel_rfl, by kernel_rfl, by kernel_rfl, by kernel_rfl⟩ hf2; obtain rfl : cs2 = [.int .i64 p2.pace, x2] := by simpa [Value.cells] using hcs2
  clear hA0 hval0
  have ht := RegsMakes_true l0 ⟨m1_0, m1_1, m1_2, m1_3, m1_4, m1_5, m1_6⟩ p2 hL0 hP2
  refine (roundelaylaw_RegsMakes_w W ht hL0.logs hL0.body hL0.outs hP2.times).mono fun e W' ⟨he, hg⟩ => ?_
  subst he
  exact ⟨_, rfl, law_post (tb := 4) laidOut hW' rfl (of_decide_eq_true (by kernel_rfl)) rfl Try.underlying4 rfl hg.below⟩

theorem over : Rows.regsMakesRow.holds Try.pinned (OpenSpec.ofChange Rows.regsMakesSpec) :=
  OpenClaim.holds_of_wide 12 Try.f12 rfl rfl rfl rfl rfl rfl rfl ⟨rfl, rfl, rfl, rfl, rfl⟩ rfl rfl rfl rfl rfl (by kernel_rfl) Try.func12 (by kernel_rfl)
    (of_decide_eq_true (by kernel_rfl)) (by unfold Func.isWrapper; first | (rw [if_pos (by decide +kernel)]; kernel_rfl) | (rw [if_neg (by decide +kernel)]; exact ⟨rfl, rfl⟩))
    (fun os started H enc _ => lifted os started H enc)

/-- THE STATEMENT. -/
theorem proved : Rows.RegsMakesSaid := over
#print axioms proved
end Go.Proofs.Ytaimbkndebaaiab.regsMakes
