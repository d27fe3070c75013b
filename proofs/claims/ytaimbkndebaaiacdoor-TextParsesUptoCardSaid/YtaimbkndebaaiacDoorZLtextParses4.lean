/- The law. -/
import Derived.Test.YtaimbkndebaaiacDoorZLtextParses3
import Derived.Test.YtaimbkndebaaiacDoorRows
import Derived.Test.YtaimbkndebaaiacDoorCards
import Derived.Test.YtaimbkndebaaiacDoorTie
import Derived.Deep.DeepHandedRow
import Derived.Deep.DeepWitnessRowRef
import Derived.LaidMore
set_option linter.unusedVariables false
set_option linter.unusedSimpArgs false
set_option maxRecDepth 8000
namespace Go.Proofs.YtaimbkndebaaiacDoor.textParses
open Go.Rd Go.ChangeShapes Go.WideShapes Go.ChangeAt Go.RowKit Go.ChangeMaps
theorem own : ownKnob Tryd.prog.godebug = none := by kernel_rfl
theorem laidOut : laidOutB Tryd.prog = true := by kernel_rfl
theorem plainL : (Rows.textParsesUptoRow.laid.all fun x => x.2.handleName?.isNone) = true := by kernel_rfl
theorem glb {W : World} (hL : laidMetH Tryd.prog Rows.textParsesUptoRow.laid W) (hS : W.ShapedOpen Tryd.prog) : Glb Tryd.prog W := by
  rw [MakeChecks.laidMetH_plain _ _ _ plainL] at hL
  have h : laidMet Tryd.prog Rows.textParsesUptoRow.laid W := hL
  exact {
    pow := laid_tab h 2 (by kernel_rfl) (g := 3) (t := 119) (by kernel_rfl) (by kernel_rfl) Tryd.underlying119 Tryd.underlying104 (by kernel_rfl) (by kernel_rfl)
    sp := laid_tab h 7 (by kernel_rfl) (g := 0) (t := 89) (by kernel_rfl) (by kernel_rfl) Tryd.underlying89 Tryd.underlying5 (by kernel_rfl) (by kernel_rfl)
    syn := fun _ => laid_errB h 5 (by kernel_rfl) (g := 6) (t := 55) (by kernel_rfl) (by kernel_rfl) Tryd.underlying55
    rng := fun _ => laid_errB h 4 (by kernel_rfl) (g := 7) (t := 55) (by kernel_rfl) (by kernel_rfl) Tryd.underlying55
    mx := fun g hg => by
      obtain rfl := Option.some.inj ((show Tryd.prog.globalNamed "internal/bytealg.MaxLen" = some 2 by kernel_rfl).symm.trans hg)
      exact cell_of_shapedOpen_int (zero := #[.int .i64 0]) (t := 3) hS (of_decide_eq_true (by kernel_rfl)) (by kernel_rfl) rfl (by kernel_rfl) (by kernel_rfl) Tryd.underlying3 }
set_option maxRecDepth 20000 in
theorem contract (H : Type) (enc : TypeId × Value → H) (W : World) (base : Nat) (args : Array Value) (ds gs : List (DataW H)) (before : List MemPlace)
    (hval : ∀ (j : Nat) t v, Tryd.f3.params[j]? = some t → args[j]? = some v → Value.okWide Tryd.prog W .any base t v)
    (hW : DataW.Whole enc Tryd.prog Tryd.f3.params.toList Rows.textParsesSpec.vars false W args.toList ds gs before) (hb : Rows.uptoBulkAll (ds ++ gs) ≤ 1048576) (hG : Glb Tryd.prog W) :
    Calls Tryd.prog 3 args W fun e W' => ∃ v, e = .returned v ∧ Rows.textParsesSpec.post enc Tryd.prog Tryd.f3 false true false false W args v W' := by
  have hW' := hW
  obtain ⟨p, q, hA0, hV, rfl, hfz, hnd⟩ := hW
  have hA : DataW.TrodAll enc Tryd.prog W 0 (fun _ => true) true Tryd.f3.params.toList args.toList ds p := hA0
  rw [Tryd.params3] at hA hval
  obtain ⟨v0, vs0, d0, ds0, p0, q0, hargs, rfl, rfl, h0, r0⟩ := trodAll_cons hA
  obtain ⟨rfl, rfl, rfl⟩ := trodAll_nil r0
  obtain rfl : args = #[v0] := by cases args; simp_all
  obtain ⟨rfl, rfl⟩ := trodVars_none hV
  obtain ⟨s0, rfl, rfl, rfl, hs0⟩ := open_string Tryd.underlying9 (hval 0 9 v0 rfl rfl) h0; obtain ⟨ss0, rfl⟩ : ∃ l : List UInt8, s0 = ⟨l.toArray⟩ := ⟨s0.data.toList, by simp⟩; have hl0 : ss0.length ≤ maxLen := hs0
  clear hA0
  simp only [Rows.uptoBulkAll, Rows.uptoBulk, List.append_nil, List.cons_append, List.nil_append, List.toList_toArray] at hb
  have ht := TextParses_true ss0 (by omega)
  refine (roundelaylaw_TextParses_w W ht  hG).mono fun e W' ⟨he, hg⟩ => ?_
  subst he
  exact ⟨_, rfl, law_post (tb := 4) laidOut hW' rfl (of_decide_eq_true (by kernel_rfl)) rfl Tryd.underlying4 rfl hg.below⟩
theorem met1 (os : Os) : (DataW.laidRun Tryd.prog ((doorWith Tryd.prog 400 4 (Go.Pinned.utf8FirstZ.map fun z : Nat => Value.int .u8 (z : Int)).toArray os).forCall (fun _ _ => 0) ⟨#[], #[.string ByteArray.empty], []⟩).memory 8 (Rows.textParsesUptoRow.laid.map (·.1))).map (·.1) = some Rows.textParsesUptoRow.laid := by kernel_rfl
theorem met2 (os : Os) : (DataW.laidRun Tryd.prog ((doorWith Tryd.prog 400 4 (Go.Pinned.utf8FirstZ.map fun z : Nat => Value.int .u8 (z : Int)).toArray os).forCall (fun _ _ => 0) ⟨#[], #[.string ByteArray.empty], []⟩).memory 8 (Rows.textParsesUptoRow.laid.map (·.1))).map (fun x => seenB 0 (x.2.map placeKey)) = some true := by kernel_rfl
theorem met3 (os : Os) : (DataW.laidRun Tryd.prog ((doorWith Tryd.prog 400 4 (Go.Pinned.utf8FirstZ.map fun z : Nat => Value.int .u8 (z : Int)).toArray os).forCall (fun _ _ => 0) ⟨#[], #[.string ByteArray.empty], []⟩).memory 8 (Rows.textParsesUptoRow.laid.map (·.1))).map (fun x => laidRowsB Tryd.prog ((doorWith Tryd.prog 400 4 (Go.Pinned.utf8FirstZ.map fun z : Nat => Value.int .u8 (z : Int)).toArray os).forCall (fun _ _ => 0) ⟨#[], #[.string ByteArray.empty], []⟩).memory x.2) = some true := by kernel_rfl
theorem laid_met (os : Os) : laidMetH Tryd.prog Rows.textParsesUptoRow.laid ((doorWith Tryd.prog 400 4 (Go.Pinned.utf8FirstZ.map fun z : Nat => Value.int .u8 (z : Int)).toArray os).forCall (fun _ _ => 0) ⟨#[], #[.string ByteArray.empty], []⟩).memory := by
  rw [MakeChecks.laidMetH_plain _ _ _ plainL]
  exact laidMet_of_run2 8 (met1 os) (met2 os) (met3 os)
set_option maxRecDepth 100000 in
theorem lifted (os : Os) (started : os.Started) (H : Type) (enc : TypeId × Value → H) (F : Stop.Interp) :
    ReturnsInHanded {} Tryd.checked os 3 .any ((Rows.OpenSpec.upto Rows.textParsesSpec).preRow enc Tryd.prog Tryd.f3 Rows.textParsesUptoRow.domain false Rows.textParsesUptoRow.laid) (((Rows.OpenSpec.upto Rows.textParsesSpec).at F).post enc Tryd.prog Tryd.f3 false true false false) := by
  have hx : DataW.whole enc Tryd.prog ((doorWith Tryd.prog 400 4 (Go.Pinned.utf8FirstZ.map fun z : Nat => Value.int .u8 (z : Int)).toArray os).forCall (fun _ _ => 0) ⟨#[], #[.string ByteArray.empty], []⟩).memory Tryd.f3.params.toList Rows.textParsesSpec.vars false (#[.string ByteArray.empty] : Array Value).toList 8 = some ([.lit (.string [])], [], []) := by kernel_rfl
  refine returnsInHanded_of_row (C := Tryd.checked) (s := (Rows.OpenSpec.upto Rows.textParsesSpec)) own started (by kernel_rfl) Tryd.func3
    (witness_row_atRef (enc := enc) (C := Tryd.checked) false (doorWith Tryd.prog 400 4 (Go.Pinned.utf8FirstZ.map fun z : Nat => Value.int .u8 (z : Int)).toArray os) #[.string ByteArray.empty] rfl (by kernel_rfl) (by kernel_rfl) (by kernel_rfl)
      (OpenSpec.preRow_of_cond 8 hx rfl (fun k hk => by cases hk; kernel_rfl) (by kernel_rfl) (laid_met os))) ?_
  intro W base args ds gs before hval hW _ hcond _ hL hS _
  exact contract H enc W base args ds gs before hval hW (of_decide_eq_true (hcond _ rfl)) (glb hL hS)
theorem said : Rows.TextParsesUptoSaid :=
  OpenClaim.holds_of_cond 3 Tryd.f3 rfl rfl rfl rfl rfl rfl rfl ⟨rfl, rfl, rfl, rfl, rfl⟩ rfl rfl rfl rfl rfl (by kernel_rfl) Tryd.func3 (by kernel_rfl)
    (of_decide_eq_true (by kernel_rfl)) (by unfold Func.isWrapper; first | (rw [if_pos (by decide +kernel)]; kernel_rfl) | (rw [if_neg (by decide +kernel)]; exact ⟨rfl, rfl⟩))
    (fun os started H enc _ F => by rw [OpenClaim.pre_eq_preRow]; exact lifted os started H enc F)
theorem plain (f : FuncId) (fn : Func) (hf : Tryd.pinned.checked.prog.funcNamed "roundelay/roundelaylaw.TextParses" = some f) (hfn : Tryd.pinned.checked.prog.funcs[f]? = some fn) :
    true = Tryd.pinned.checked.prog.looks [] ∧ ∀ (j : Nat) t, fn.params[j]? = some t → Tryd.pinned.checked.prog.wantsStandIn t = false := by
  obtain rfl : f = 3 := Option.some.inj ((show Tryd.prog.funcNamed "roundelay/roundelaylaw.TextParses" = some 3 by kernel_rfl).symm.trans hf) |>.symm
  obtain rfl : fn = Tryd.f3 := (Option.some.inj (Tryd.func3.symm.trans hfn)).symm
  refine ⟨by kernel_rfl, fun j t ht => ?_⟩
  rw [Tryd.params3] at ht
  have hm : t ∈ [9] := by simpa using Array.mem_of_getElem? ht
  have hall : ([9].all fun u => !Tryd.prog.wantsStandIn u) = true := by kernel_rfl
  exact (show Tryd.prog.wantsStandIn t = false by simpa using List.all_eq_true.1 hall t hm)
/-- THE CARD. -/
theorem proved : Rows.TextParsesUptoCardSaid :=
  Claim7.holds_tied_plain_at .later [] _ _ _ _ said (fun _ h => by cases h) (by kernel_rfl) (fun _ h => by cases h) textParsesUpto_row_tie rfl ⟨rfl, rfl⟩ (by kernel_rfl) rfl plain (by kernel_rfl)
#print axioms proved
end Go.Proofs.YtaimbkndebaaiacDoor.textParses