/- The law. -/
import Derived.Test.YtaimbkndebaaiabZLcheckSound6
import Derived.Test.YtaimbkndebaaiabRows
namespace Go.Proofs.Ytaimbkndebaaiab.checkSound
open Go.Rd Go.ChangeShapes Go.WideShapes Go.ChangeAt Go.RowKit
set_option linter.unusedVariables false
set_option linter.unusedSimpArgs false

theorem own : ownKnob Try.prog.godebug = none := by kernel_rfl
theorem laidOut : laidOutB Try.prog = true := by kernel_rfl

set_option maxRecDepth 100000 in
theorem lifted (os : Os) (started : os.Started) (H : Type) (enc : TypeId × Value → H) :
    ReturnsInHanded {} Try.checked os 13 .any (Rows.checkSoundSpec.pre6 enc Try.prog Try.f13 Rows.checkSoundRow.domain false) (Rows.checkSoundSpec.post enc Try.prog Try.f13 false true false false) := by
  refine returnsInHanded_of_change (C := Try.checked) own started (by kernel_rfl) Try.func13
    (ChangeSpec.witness6 (enc := enc) (C := Try.checked) false ⟨#[], #[.agg #[.slice none 0 0, .slice none 0 0, .slice none 0 0], .agg #[.int .i64 0, .int .i64 0, .int .i64 0, .int .i64 0, .int .i64 0, .int .i64 0, .int .i64 0], .agg #[.int .i64 0, .int .i64 0, .slice none 0 0], .slice none 0 0, .agg #[.slice none 0 0, .slice none 0 0], .int .i64 0], []⟩ 8 (by kernel_rfl) (by kernel_rfl) (by kernel_rfl) (by kernel_rfl)) ?_
  intro W base args ds gs before hval0 hW hcnd _
  have hval : ∀ (j : Nat) t v, Try.f13.params[j]? = some t → args[j]? = some v → Value.okWide Try.prog W .any base t v := hval0
  have hW' := hW
  obtain ⟨p, q, hA0, hV, rfl, hfz, hnd⟩ := hW
  have hA : DataW.TrodAll enc Try.prog W 0 (fun _ => true) true Try.f13.params.toList args.toList ds p := hA0
  rw [Try.params13] at hA hval
  obtain ⟨v0, vs0, d0, ds0, p0, q0, hargs, rfl, rfl, h0, r0⟩ := trodAll_cons hA
  obtain ⟨v1, vs1, d1, ds1, p1, q1, rfl, rfl, rfl, h1, r1⟩ := trodAll_cons r0
  obtain ⟨v2, vs2, d2, ds2, p2, q2, rfl, rfl, rfl, h2, r2⟩ := trodAll_cons r1
  obtain ⟨v3, vs3, d3, ds3, p3, q3, rfl, rfl, rfl, h3, r3⟩ := trodAll_cons r2
  obtain ⟨v4, vs4, d4, ds4, p4, q4, rfl, rfl, rfl, h4, r4⟩ := trodAll_cons r3
  obtain ⟨v5, vs5, d5, ds5, p5, q5, rfl, rfl, rfl, h5, r5⟩ := trodAll_cons r4
  obtain ⟨rfl, rfl, rfl⟩ := trodAll_nil r5
  obtain rfl : args = #[v0, v1, v2, v3, v4, v5] := by cases args; simp_all
  obtain ⟨rfl, rfl⟩ := trodVars_none hV
  obtain ⟨cs0, rfl⟩ := okWide_agg Try.underlying49 (hval 0 49 v0 rfl rfl); obtain ⟨fuel0, hf0⟩ := h0; obtain ⟨x1_0, x2_0, x3_0, l0, hcs0, hL0⟩ := loop_arg Try.underlying49 (by rfl) Try.underlying30 Try.underlying47 (by kernel_rfl) (by kernel_rfl) ⟨by kernel_rfl, by kernel_rfl, by kernel_rfl, by kernel_rfl, by kernel_rfl⟩ hf0; obtain rfl : cs0 = [x1_0, x2_0, x3_0] := by simpa [Value.cells] using hcs0
  obtain ⟨cs1, rfl⟩ := okWide_agg Try.underlying24 (hval 1 24 v1 rfl rfl); obtain ⟨fuel1, hf1⟩ := h1; obtain ⟨ns1, hns1, hln1, hr1⟩ := trod_flat (k := 6) (by kernel_rfl) hf1; rw [show Try.prog.cellsOf 24 = 7 from by kernel_rfl] at hln1; obtain ⟨m1_0, m1_1, m1_2, m1_3, m1_4, m1_5, m1_6, rfl⟩ := seven hln1; obtain rfl : cs1 = [m1_0, m1_1, m1_2, m1_3, m1_4, m1_5, m1_6].map i64v := by simpa [Value.cells] using hns1
  obtain ⟨cs2, rfl⟩ := okWide_agg Try.underlying27 (hval 2 27 v2 rfl rfl); obtain ⟨fuel2, hf2⟩ := h2; obtain ⟨x2, k2, hcs2, hK2⟩ := krn_arg Try.underlying27 (by rfl) Try.underlying3 Try.underlying25 (by kernel_rfl) ⟨by kernel_rfl, by kernel_rfl, by kernel_rfl, by kernel_rfl⟩ hf2; obtain rfl : cs2 = [.int .i64 k2.pace, .int .i64 k2.stages, x2] := by simpa [Value.cells] using hcs2
  obtain ⟨sa3, sl3, sc3, rfl⟩ := okWide_slice Try.underlying30 (hval 3 30 v3 rfl rfl); obtain ⟨fuel3, hf3⟩ := h3; obtain ⟨xs3, hX3, hr3, hl3⟩ := ints_arg Try.underlying30 (by kernel_rfl) (by kernel_rfl) hf3
  obtain ⟨cs4, rfl⟩ := okWide_agg Try.underlying80 (hval 4 80 v4 rfl rfl); obtain ⟨fuel4, hf4⟩ := h4; obtain ⟨y4_4, y5_4, B4, M4, hcs4, hB4, hM4⟩ := state_arg Try.underlying80 (by rfl) Try.underlying29 Try.underlying28 (by kernel_rfl) ⟨by kernel_rfl, by kernel_rfl, by kernel_rfl, by kernel_rfl⟩ hf4; obtain rfl : cs4 = [y4_4, y5_4] := by simpa [Value.cells] using hcs4
  obtain ⟨a5, rfl, rfl, rfl, wf5⟩ := open_int Try.underlying3 (hval 5 3 v5 rfl rfl) h5; have ra5 := wf_i64 wf5
  clear hA0 hval0
  have ht := CheckSound_true l0 ⟨m1_0, m1_1, m1_2, m1_3, m1_4, m1_5, m1_6⟩ k2 xs3 ⟨B4.map (·.2), M4.map (·.2)⟩ a5 hL0 hK2 hr3 hl3 hB4.plain.2 hM4.plain.2 ra5
  refine (roundelaylaw_CheckSound_w W ht hL0.logs hL0.body hL0.outs hK2.ops hX3 hB4.plain.1 hM4.plain.1).mono fun e W' ⟨he, hg⟩ => ?_
  subst he
  exact ⟨_, rfl, law_post (tb := 4) laidOut hW' rfl (of_decide_eq_true (by kernel_rfl)) rfl Try.underlying4 rfl hg.below⟩

theorem over : Rows.checkSoundRow.holds Try.pinned (OpenSpec.ofChange Rows.checkSoundSpec) :=
  OpenClaim.holds_of_wide 13 Try.f13 rfl rfl rfl rfl rfl rfl rfl ⟨rfl, rfl, rfl, rfl, rfl⟩ rfl rfl rfl rfl rfl (by kernel_rfl) Try.func13 (by kernel_rfl)
    (of_decide_eq_true (by kernel_rfl)) (by unfold Func.isWrapper; first | (rw [if_pos (by decide +kernel)]; kernel_rfl) | (rw [if_neg (by decide +kernel)]; exact ⟨rfl, rfl⟩))
    (fun os started H enc _ => lifted os started H enc)

/-- THE STATEMENT. -/
theorem proved : Rows.CheckSoundSaid := over
#print axioms proved
end Go.Proofs.Ytaimbkndebaaiab.checkSound
