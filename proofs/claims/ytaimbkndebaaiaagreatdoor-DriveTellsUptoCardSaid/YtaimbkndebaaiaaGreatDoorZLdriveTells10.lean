/- The law. -/
import Derived.Test.YtaimbkndebaaiaaGreatDoorZLdriveTells9
import Derived.Test.YtaimbkndebaaiaaGreatDoorRows
import Derived.Test.YtaimbkndebaaiaaGreatDoorCards
import Derived.Test.YtaimbkndebaaiaaGreatDoorTie
import Derived.Deep.DeepHandedRow
import Derived.Deep.DeepWitnessRowRef
import Derived.LaidMore
set_option linter.unusedVariables false
set_option linter.unusedSimpArgs false
set_option maxRecDepth 8000
namespace Go.Proofs.YtaimbkndebaaiaaGreatDoor.driveTells
open Go.Rd Go.ChangeShapes Go.WideShapes Go.ChangeAt Go.RowKit Go.ChangeMaps
theorem own : ownKnob Tryz.prog.godebug = none := by kernel_rfl
theorem laidOut : laidOutB Tryz.prog = true := by kernel_rfl
theorem plainL : (Rows.driveTellsUptoRow.laid.all fun x => x.2.handleName?.isNone) = true := by kernel_rfl
theorem glb {W : World} (hL : laidMetH Tryz.prog Rows.driveTellsUptoRow.laid W) (hS : W.ShapedOpen Tryz.prog) : Glb Tryz.prog W := by
  rw [MakeChecks.laidMetH_plain _ _ _ plainL] at hL
  have h : laidMet Tryz.prog Rows.driveTellsUptoRow.laid W := hL
  exact {
    pow := Apg h 2 (by kernel_rfl) (g := 3) (t := 250) (by kernel_rfl) (by kernel_rfl) Tryz.underlying250 Tryz.underlying193 (by kernel_rfl) (by kernel_rfl)
    sp := Apg h 7 (by kernel_rfl) (g := 6) (t := 243) (by kernel_rfl) (by kernel_rfl) Tryz.underlying243 Tryz.underlying5 (by kernel_rfl) (by kernel_rfl)
    syn := fun _ => Akh h 5 (by kernel_rfl) (g := 4) (t := 118) (by kernel_rfl) (by kernel_rfl) Tryz.underlying118
    rng := fun _ => Akh h 4 (by kernel_rfl) (g := 5) (t := 118) (by kernel_rfl) (by kernel_rfl) Tryz.underlying118
    mx := fun g hg => by
      obtain rfl := Option.some.inj ((show Tryz.prog.globalNamed "internal/bytealg.MaxLen" = some 0 by kernel_rfl).symm.trans hg)
      exact cell_of_shapedOpen_int (zero := #[.int .i64 0]) (t := 3) hS (of_decide_eq_true (by kernel_rfl)) (by kernel_rfl) rfl (by kernel_rfl) (by kernel_rfl) Tryz.underlying3 }
set_option maxRecDepth 20000 in
theorem contract (H : Type) (enc : TypeId × Value → H) (W : World) (base : Nat) (args : Array Value) (ds gs : List (DataW H)) (before : List MemPlace)
    (hval : ∀ (j : Nat) t v, Tryz.f3.params[j]? = some t → args[j]? = some v → Value.okWide Tryz.prog W .any base t v)
    (hW : DataW.Whole enc Tryz.prog Tryz.f3.params.toList Rows.driveTellsSpec.vars false W args.toList ds gs before) (hb : Rows.uptoBulkAll (ds ++ gs) ≤ 1048576) (hG : Glb Tryz.prog W) :
    Calls Tryz.prog 3 args W fun e W' => ∃ v, e = .returned v ∧ Rows.driveTellsSpec.post enc Tryz.prog Tryz.f3 false true false false W args v W' := by
  have hW' := hW
  obtain ⟨p, q, hA0, hV, rfl, hfz, hnd⟩ := hW
  have hA : DataW.TrodAll enc Tryz.prog W 0 (fun _ => true) true Tryz.f3.params.toList args.toList ds p := hA0
  rw [Tryz.params3] at hA hval
  obtain ⟨v0, vs0, d0, ds0, p0, q0, hargs, rfl, rfl, h0, r0⟩ := trodAll_cons hA
  obtain ⟨rfl, rfl, rfl⟩ := trodAll_nil r0
  obtain rfl : args = #[v0] := by cases args; simp_all
  obtain ⟨rfl, rfl⟩ := trodVars_none hV
  obtain ⟨s0, rfl, rfl, rfl, hs0⟩ := open_string Tryz.underlying9 (hval 0 9 v0 rfl rfl) h0; obtain ⟨ss0, rfl⟩ : ∃ l : List UInt8, s0 = ⟨l.toArray⟩ := ⟨s0.data.toList, by simp⟩; have hl0 : ss0.length ≤ maxLen := hs0
  clear hA0
  simp only [Rows.uptoBulkAll, Rows.uptoBulk, List.append_nil, List.cons_append, List.nil_append, List.toList_toArray] at hb
  have ht := Afp ss0 (by omega)
  refine (Tc W ht  hG).mono fun e W' ⟨he, hg⟩ => ?_
  subst he
  exact ⟨_, rfl, A0q (tb := 4) laidOut hW' rfl (of_decide_eq_true (by kernel_rfl)) rfl Tryz.underlying4 rfl hg.below⟩
theorem met1 (os : Os) : (DataW.laidRun Tryz.prog ((Sw Tryz.prog 400 1 (Go.Pinned.utf8FirstZ.map fun z : Nat => Value.int .u8 (z : Int)).toArray os).forCall (fun _ _ => 0) ⟨#[], #[.string ByteArray.empty], []⟩).memory 8 (Rows.driveTellsUptoRow.laid.map (·.1))).map (·.1) = some Rows.driveTellsUptoRow.laid := by kernel_rfl
theorem met2 (os : Os) : (DataW.laidRun Tryz.prog ((Sw Tryz.prog 400 1 (Go.Pinned.utf8FirstZ.map fun z : Nat => Value.int .u8 (z : Int)).toArray os).forCall (fun _ _ => 0) ⟨#[], #[.string ByteArray.empty], []⟩).memory 8 (Rows.driveTellsUptoRow.laid.map (·.1))).map (fun x => Aod 0 (x.2.map Acm)) = some true := by kernel_rfl
theorem met3 (os : Os) : (DataW.laidRun Tryz.prog ((Sw Tryz.prog 400 1 (Go.Pinned.utf8FirstZ.map fun z : Nat => Value.int .u8 (z : Int)).toArray os).forCall (fun _ _ => 0) ⟨#[], #[.string ByteArray.empty], []⟩).memory 8 (Rows.driveTellsUptoRow.laid.map (·.1))).map (fun x => laidRowsB Tryz.prog ((Sw Tryz.prog 400 1 (Go.Pinned.utf8FirstZ.map fun z : Nat => Value.int .u8 (z : Int)).toArray os).forCall (fun _ _ => 0) ⟨#[], #[.string ByteArray.empty], []⟩).memory x.2) = some true := by kernel_rfl
theorem laid_met (os : Os) : laidMetH Tryz.prog Rows.driveTellsUptoRow.laid ((Sw Tryz.prog 400 1 (Go.Pinned.utf8FirstZ.map fun z : Nat => Value.int .u8 (z : Int)).toArray os).forCall (fun _ _ => 0) ⟨#[], #[.string ByteArray.empty], []⟩).memory := by
  rw [MakeChecks.laidMetH_plain _ _ _ plainL]
  exact Afn 8 (met1 os) (met2 os) (met3 os)
set_option maxRecDepth 100000 in
theorem lifted (os : Os) (started : os.Started) (H : Type) (enc : TypeId × Value → H) (F : Stop.Interp) :
    ReturnsInHanded {} Tryz.checked os 3 .any ((Rows.OpenSpec.upto Rows.driveTellsSpec).preRow enc Tryz.prog Tryz.f3 Rows.driveTellsUptoRow.domain false Rows.driveTellsUptoRow.laid) (((Rows.OpenSpec.upto Rows.driveTellsSpec).at F).post enc Tryz.prog Tryz.f3 false true false false) := by
  have hx : DataW.whole enc Tryz.prog ((Sw Tryz.prog 400 1 (Go.Pinned.utf8FirstZ.map fun z : Nat => Value.int .u8 (z : Int)).toArray os).forCall (fun _ _ => 0) ⟨#[], #[.string ByteArray.empty], []⟩).memory Tryz.f3.params.toList Rows.driveTellsSpec.vars false (#[.string ByteArray.empty] : Array Value).toList 8 = some ([.lit (.string [])], [], []) := by kernel_rfl
  refine returnsInHanded_of_row (C := Tryz.checked) (s := (Rows.OpenSpec.upto Rows.driveTellsSpec)) own started (by kernel_rfl) Tryz.func3
    (witness_row_atRef (enc := enc) (C := Tryz.checked) false (Sw Tryz.prog 400 1 (Go.Pinned.utf8FirstZ.map fun z : Nat => Value.int .u8 (z : Int)).toArray os) #[.string ByteArray.empty] rfl (by kernel_rfl) (by kernel_rfl) (by kernel_rfl)
      (OpenSpec.preRow_of_cond 8 hx rfl (fun k hk => by cases hk; kernel_rfl) (by kernel_rfl) (laid_met os))) ?_
  intro W base args ds gs before hval hW _ hcond _ hL hS _
  exact contract H enc W base args ds gs before hval hW (of_decide_eq_true (hcond _ rfl)) (glb hL hS)
theorem said : Rows.DriveTellsUptoSaid :=
  OpenClaim.holds_of_cond 3 Tryz.f3 rfl rfl rfl rfl rfl rfl rfl ⟨rfl, rfl, rfl, rfl, rfl⟩ rfl rfl rfl rfl rfl (by kernel_rfl) Tryz.func3 (by kernel_rfl)
    (of_decide_eq_true (by kernel_rfl)) (by unfold Func.isWrapper; first | (rw [if_pos (by decide +kernel)]; kernel_rfl) | (rw [if_neg (by decide +kernel)]; exact ⟨rfl, rfl⟩))
    (fun os started H enc _ F => by rw [OpenClaim.pre_eq_preRow]; exact lifted os started H enc F)
theorem plain (f : FuncId) (fn : Func) (hf : Tryz.pinned.checked.prog.funcNamed "roundelay/roundelaykeep.DriveTells" = some f) (hfn : Tryz.pinned.checked.prog.funcs[f]? = some fn) :
    true = Tryz.pinned.checked.prog.looks [] ∧ ∀ (j : Nat) t, fn.params[j]? = some t → Tryz.pinned.checked.prog.wantsStandIn t = false := by
  obtain rfl : f = 3 := Option.some.inj ((show Tryz.prog.funcNamed "roundelay/roundelaykeep.DriveTells" = some 3 by kernel_rfl).symm.trans hf) |>.symm
  obtain rfl : fn = Tryz.f3 := (Option.some.inj (Tryz.func3.symm.trans hfn)).symm
  refine ⟨by kernel_rfl, fun j t ht => ?_⟩
  rw [Tryz.params3] at ht
  have hm : t ∈ [9] := by simpa using Array.mem_of_getElem? ht
  have hall : ([9].all fun u => !Tryz.prog.wantsStandIn u) = true := by kernel_rfl
  exact (show Tryz.prog.wantsStandIn t = false by simpa using List.all_eq_true.1 hall t hm)
/-- THE CARD. -/
theorem proved : Rows.DriveTellsUptoCardSaid :=
  Claim7.holds_tied_plain_at .later [] _ _ _ _ said (fun _ h => by cases h) (by kernel_rfl) (fun _ h => by cases h) driveTellsUpto_row_tie rfl ⟨rfl, rfl⟩ (by kernel_rfl) rfl plain (by kernel_rfl)
#print axioms proved
end Go.Proofs.YtaimbkndebaaiaaGreatDoor.driveTells