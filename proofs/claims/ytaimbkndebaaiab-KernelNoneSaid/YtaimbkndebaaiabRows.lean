/-
  No cell of these rows narrows 'for every input' (looked for: loops, veiled, ifaces, maps, wideKeys, modest, calm, conditions, laid).
  DERIVED. THE GIVEN ROWS OF THIS SEAT. 11 by the template 'for every input the law returns true; each argument reads behind the call as it read before'; 0 by the template 'total and deterministic' (their statements: YtaimbkndebaaiabTotals.lean).
  GIVEN WITH THE SEED: the statements are not yours to turn. If you find one false, say at which input.
  Laid BY PROGRAM, IN A SANDBOX (cutbox-rows.mjs): the forced cells as the released guide's own fill.sh prints them over the translation 372a0cabdd4d179b… (all of the seat's roots in one cut). By AI agents, Wed Nov 11 2026. No macro, syntax, notation, axiom, sorry.
-/
import Derived.Test.YtaimbkndebaaiabChecked
import GoSem.Claim
import GoSem.ClaimJoined
import GoSem.ClaimMapViews
import Derived.JoinedTies
import Derived.KernelRfl
namespace Go.Proofs.Ytaimbkndebaaiab
/- THE CELL 'sum', in the pinned program and in every row, IS THE sha256 OF THE DUMP (.gsa) THAT YtaimbkndebaaiabProg.lean LOADS. Nothing in Lean hashes anything: it is a label: what it is worth is what the hold of that sum in a sandbox is worth. -/
noncomputable def Try.pinned : Pinned := { name := "ytaimbkndebaaiab", sum := "372a0cabdd4d179b8d081267bb54baf691522301396834ca47c5cf60490e0425", checked := Try.checked }
namespace Rows
def none {H : Type} : Left H := { results := [], args := [] }

/-- 'roundelaylaw.KernelRuns': WHATEVER THE INPUT: true; the input reads as it did. -/
def kernelRunsSpec : ChangeSpec := { name := "kernelRuns", fn := fun _ => fun
  | [d1, d2, d3, d4, d5] => { results := [.lit (.bool true)], args := [d1, d2, d3, d4, d5] }
  | _ => none }
def kernelRunsRow : OpenClaim := { program := "ytaimbkndebaaiab", sum := "372a0cabdd4d179b8d081267bb54baf691522301396834ca47c5cf60490e0425", func := "roundelay/roundelaylaw.KernelRuns", spec := "kernelRuns", unfollowed := true, recurses := true, plainKeys := false, apart := false }
def KernelRunsSaid : Prop := kernelRunsRow.holds Try.pinned (OpenSpec.ofChange kernelRunsSpec)

/-- ITS FALSE NEIGHBOUR: 'it returns false'. Refute it at one input. -/
def kernelRunsWrong : ChangeSpec := { name := "kernelRuns", fn := fun _ => fun
  | [d1, d2, d3, d4, d5] => { results := [.lit (.bool false)], args := [d1, d2, d3, d4, d5] }
  | _ => none }
def KernelRunsWrongFalsely : Prop := kernelRunsRow.holds Try.pinned (OpenSpec.ofChange kernelRunsWrong)

/-- 'roundelaykeep.KernelNone': WHATEVER THE INPUT: true; the input reads as it did. -/
def kernelNoneSpec : ChangeSpec := { name := "kernelNone", fn := fun _ => fun
  | [d1, d2, d3, d4] => { results := [.lit (.bool true)], args := [d1, d2, d3, d4] }
  | _ => none }
def kernelNoneRow : OpenClaim := { program := "ytaimbkndebaaiab", sum := "372a0cabdd4d179b8d081267bb54baf691522301396834ca47c5cf60490e0425", func := "roundelay/roundelaykeep.KernelNone", spec := "kernelNone", unfollowed := true, recurses := true, plainKeys := false, apart := false }
def KernelNoneSaid : Prop := kernelNoneRow.holds Try.pinned (OpenSpec.ofChange kernelNoneSpec)

/-- ITS FALSE NEIGHBOUR: 'it returns false'. Refute it at one input. -/
def kernelNoneWrong : ChangeSpec := { name := "kernelNone", fn := fun _ => fun
  | [d1, d2, d3, d4] => { results := [.lit (.bool false)], args := [d1, d2, d3, d4] }
  | _ => none }
def KernelNoneWrongFalsely : Prop := kernelNoneRow.holds Try.pinned (OpenSpec.ofChange kernelNoneWrong)

/-- 'roundelaylaw.DepTells': WHATEVER THE INPUT: true; the input reads as it did. -/
def depTellsSpec : ChangeSpec := { name := "depTells", fn := fun _ => fun
  | [d1, d2] => { results := [.lit (.bool true)], args := [d1, d2] }
  | _ => none }
def depTellsRow : OpenClaim := { program := "ytaimbkndebaaiab", sum := "372a0cabdd4d179b8d081267bb54baf691522301396834ca47c5cf60490e0425", func := "roundelay/roundelaylaw.DepTells", spec := "depTells", unfollowed := true, recurses := true, plainKeys := false, apart := false }
def DepTellsSaid : Prop := depTellsRow.holds Try.pinned (OpenSpec.ofChange depTellsSpec)

/-- ITS FALSE NEIGHBOUR: 'it returns false'. Refute it at one input. -/
def depTellsWrong : ChangeSpec := { name := "depTells", fn := fun _ => fun
  | [d1, d2] => { results := [.lit (.bool false)], args := [d1, d2] }
  | _ => none }
def DepTellsWrongFalsely : Prop := depTellsRow.holds Try.pinned (OpenSpec.ofChange depTellsWrong)

/-- 'roundelaykeep.DepForward': WHATEVER THE INPUT: true; the input reads as it did. -/
def depForwardSpec : ChangeSpec := { name := "depForward", fn := fun _ => fun
  | [d1, d2] => { results := [.lit (.bool true)], args := [d1, d2] }
  | _ => none }
def depForwardRow : OpenClaim := { program := "ytaimbkndebaaiab", sum := "372a0cabdd4d179b8d081267bb54baf691522301396834ca47c5cf60490e0425", func := "roundelay/roundelaykeep.DepForward", spec := "depForward", unfollowed := true, recurses := true, plainKeys := false, apart := false }
def DepForwardSaid : Prop := depForwardRow.holds Try.pinned (OpenSpec.ofChange depForwardSpec)

/-- ITS FALSE NEIGHBOUR: 'it returns false'. Refute it at one input. -/
def depForwardWrong : ChangeSpec := { name := "depForward", fn := fun _ => fun
  | [d1, d2] => { results := [.lit (.bool false)], args := [d1, d2] }
  | _ => none }
def DepForwardWrongFalsely : Prop := depForwardRow.holds Try.pinned (OpenSpec.ofChange depForwardWrong)

/-- 'roundelaylaw.SchedLegal': WHATEVER THE INPUT: true; the input reads as it did. -/
def schedLegalSpec : ChangeSpec := { name := "schedLegal", fn := fun _ => fun
  | [d1, d2, d3] => { results := [.lit (.bool true)], args := [d1, d2, d3] }
  | _ => none }
def schedLegalRow : OpenClaim := { program := "ytaimbkndebaaiab", sum := "372a0cabdd4d179b8d081267bb54baf691522301396834ca47c5cf60490e0425", func := "roundelay/roundelaylaw.SchedLegal", spec := "schedLegal", unfollowed := true, recurses := true, plainKeys := false, apart := false }
def SchedLegalSaid : Prop := schedLegalRow.holds Try.pinned (OpenSpec.ofChange schedLegalSpec)

/-- ITS FALSE NEIGHBOUR: 'it returns false'. Refute it at one input. -/
def schedLegalWrong : ChangeSpec := { name := "schedLegal", fn := fun _ => fun
  | [d1, d2, d3] => { results := [.lit (.bool false)], args := [d1, d2, d3] }
  | _ => none }
def SchedLegalWrongFalsely : Prop := schedLegalRow.holds Try.pinned (OpenSpec.ofChange schedLegalWrong)

/-- 'roundelaylaw.BoundTells': WHATEVER THE INPUT: true; the input reads as it did. -/
def boundTellsSpec : ChangeSpec := { name := "boundTells", fn := fun _ => fun
  | [d1, d2] => { results := [.lit (.bool true)], args := [d1, d2] }
  | _ => none }
def boundTellsRow : OpenClaim := { program := "ytaimbkndebaaiab", sum := "372a0cabdd4d179b8d081267bb54baf691522301396834ca47c5cf60490e0425", func := "roundelay/roundelaylaw.BoundTells", spec := "boundTells", unfollowed := true, recurses := true, plainKeys := false, apart := false }
def BoundTellsSaid : Prop := boundTellsRow.holds Try.pinned (OpenSpec.ofChange boundTellsSpec)

/-- ITS FALSE NEIGHBOUR: 'it returns false'. Refute it at one input. -/
def boundTellsWrong : ChangeSpec := { name := "boundTells", fn := fun _ => fun
  | [d1, d2] => { results := [.lit (.bool false)], args := [d1, d2] }
  | _ => none }
def BoundTellsWrongFalsely : Prop := boundTellsRow.holds Try.pinned (OpenSpec.ofChange boundTellsWrong)

/-- 'roundelaylaw.BoundHolds': WHATEVER THE INPUT: true; the input reads as it did. -/
def boundHoldsSpec : ChangeSpec := { name := "boundHolds", fn := fun _ => fun
  | [d1, d2, d3] => { results := [.lit (.bool true)], args := [d1, d2, d3] }
  | _ => none }
def boundHoldsRow : OpenClaim := { program := "ytaimbkndebaaiab", sum := "372a0cabdd4d179b8d081267bb54baf691522301396834ca47c5cf60490e0425", func := "roundelay/roundelaylaw.BoundHolds", spec := "boundHolds", unfollowed := true, recurses := true, plainKeys := false, apart := false }
def BoundHoldsSaid : Prop := boundHoldsRow.holds Try.pinned (OpenSpec.ofChange boundHoldsSpec)

/-- ITS FALSE NEIGHBOUR: 'it returns false'. Refute it at one input. -/
def boundHoldsWrong : ChangeSpec := { name := "boundHolds", fn := fun _ => fun
  | [d1, d2, d3] => { results := [.lit (.bool false)], args := [d1, d2, d3] }
  | _ => none }
def BoundHoldsWrongFalsely : Prop := boundHoldsRow.holds Try.pinned (OpenSpec.ofChange boundHoldsWrong)

/-- 'roundelaylaw.EmitTells': WHATEVER THE INPUT: true; the input reads as it did. -/
def emitTellsSpec : ChangeSpec := { name := "emitTells", fn := fun _ => fun
  | [d1, d2, d3, d4] => { results := [.lit (.bool true)], args := [d1, d2, d3, d4] }
  | _ => none }
def emitTellsRow : OpenClaim := { program := "ytaimbkndebaaiab", sum := "372a0cabdd4d179b8d081267bb54baf691522301396834ca47c5cf60490e0425", func := "roundelay/roundelaylaw.EmitTells", spec := "emitTells", unfollowed := true, recurses := true, plainKeys := false, apart := false }
def EmitTellsSaid : Prop := emitTellsRow.holds Try.pinned (OpenSpec.ofChange emitTellsSpec)

/-- ITS FALSE NEIGHBOUR: 'it returns false'. Refute it at one input. -/
def emitTellsWrong : ChangeSpec := { name := "emitTells", fn := fun _ => fun
  | [d1, d2, d3, d4] => { results := [.lit (.bool false)], args := [d1, d2, d3, d4] }
  | _ => none }
def EmitTellsWrongFalsely : Prop := emitTellsRow.holds Try.pinned (OpenSpec.ofChange emitTellsWrong)

/-- 'roundelaylaw.SchedMakes': WHATEVER THE INPUT: true; the input reads as it did. -/
def schedMakesSpec : ChangeSpec := { name := "schedMakes", fn := fun _ => fun
  | [d1, d2, d3] => { results := [.lit (.bool true)], args := [d1, d2, d3] }
  | _ => none }
def schedMakesRow : OpenClaim := { program := "ytaimbkndebaaiab", sum := "372a0cabdd4d179b8d081267bb54baf691522301396834ca47c5cf60490e0425", func := "roundelay/roundelaylaw.SchedMakes", spec := "schedMakes", unfollowed := true, recurses := true, plainKeys := false, apart := false }
def SchedMakesSaid : Prop := schedMakesRow.holds Try.pinned (OpenSpec.ofChange schedMakesSpec)

/-- ITS FALSE NEIGHBOUR: 'it returns false'. Refute it at one input. -/
def schedMakesWrong : ChangeSpec := { name := "schedMakes", fn := fun _ => fun
  | [d1, d2, d3] => { results := [.lit (.bool false)], args := [d1, d2, d3] }
  | _ => none }
def SchedMakesWrongFalsely : Prop := schedMakesRow.holds Try.pinned (OpenSpec.ofChange schedMakesWrong)

/-- 'roundelaylaw.RegsMakes': WHATEVER THE INPUT: true; the input reads as it did. -/
def regsMakesSpec : ChangeSpec := { name := "regsMakes", fn := fun _ => fun
  | [d1, d2, d3] => { results := [.lit (.bool true)], args := [d1, d2, d3] }
  | _ => none }
def regsMakesRow : OpenClaim := { program := "ytaimbkndebaaiab", sum := "372a0cabdd4d179b8d081267bb54baf691522301396834ca47c5cf60490e0425", func := "roundelay/roundelaylaw.RegsMakes", spec := "regsMakes", unfollowed := true, recurses := true, plainKeys := false, apart := false }
def RegsMakesSaid : Prop := regsMakesRow.holds Try.pinned (OpenSpec.ofChange regsMakesSpec)

/-- ITS FALSE NEIGHBOUR: 'it returns false'. Refute it at one input. -/
def regsMakesWrong : ChangeSpec := { name := "regsMakes", fn := fun _ => fun
  | [d1, d2, d3] => { results := [.lit (.bool false)], args := [d1, d2, d3] }
  | _ => none }
def RegsMakesWrongFalsely : Prop := regsMakesRow.holds Try.pinned (OpenSpec.ofChange regsMakesWrong)

/-- 'roundelaylaw.CheckSound': WHATEVER THE INPUT: true; the input reads as it did. -/
def checkSoundSpec : ChangeSpec := { name := "checkSound", fn := fun _ => fun
  | [d1, d2, d3, d4, d5, d6] => { results := [.lit (.bool true)], args := [d1, d2, d3, d4, d5, d6] }
  | _ => none }
def checkSoundRow : OpenClaim := { program := "ytaimbkndebaaiab", sum := "372a0cabdd4d179b8d081267bb54baf691522301396834ca47c5cf60490e0425", func := "roundelay/roundelaylaw.CheckSound", spec := "checkSound", unfollowed := true, recurses := true, plainKeys := false, apart := false }
def CheckSoundSaid : Prop := checkSoundRow.holds Try.pinned (OpenSpec.ofChange checkSoundSpec)

/-- ITS FALSE NEIGHBOUR: 'it returns false'. Refute it at one input. -/
def checkSoundWrong : ChangeSpec := { name := "checkSound", fn := fun _ => fun
  | [d1, d2, d3, d4, d5, d6] => { results := [.lit (.bool false)], args := [d1, d2, d3, d4, d5, d6] }
  | _ => none }
def CheckSoundWrongFalsely : Prop := checkSoundRow.holds Try.pinned (OpenSpec.ofChange checkSoundWrong)

/- THE SECOND FORM. 'bulk': how many values and letters a reading holds, each counted each time it is reached (what is shared counts as often as it is met; a slice's spare places count too). A statement '..UptoSaid' is the law's where the arguments, and the package variables that the reading takes, are together of bulk at most 1048576: NARROWER than '..Said'. Prove '..Said' where nothing that the law and all that it calls make is longer than what came in: it says more and counts as full. Else prove '..UptoSaid'. A law counts once. -/
mutual
def uptoBulk {H : Type} : DataW H → Nat
  | .lit (.string bytes) => bytes.length + 1
  | .lit _ => 1
  | .nil => 1
  | .ptr d => uptoBulk d + 1
  | .slice elems spare => uptoBulkAll elems + uptoBulkAll spare + 1
  | .agg parts => uptoBulkAll parts + 1
  | .iface _ d => uptoBulk d + 1
  | .map entries => uptoBulkEntries entries + 1
  | .held _ => 1
def uptoBulkAll {H : Type} : List (DataW H) → Nat
  | [] => 0
  | d :: r => uptoBulk d + uptoBulkAll r
def uptoBulkEntries {H : Type} : List (Lit × DataW H) → Nat
  | [] => 0
  | x :: r => uptoBulkEntry x + uptoBulkEntries r
def uptoBulkEntry {H : Type} : Lit × DataW H → Nat
  | (.string bytes, d) => bytes.length + uptoBulk d + 1
  | (_, d) => uptoBulk d + 1
 end
def uptoSmall : (H : Type) → List (DataW H) → Bool := fun _ ds => decide (uptoBulkAll ds ≤ 1048576)
def OpenSpec.upto (s : _root_.Go.ChangeSpec) : _root_.Go.OpenSpec := { _root_.Go.OpenSpec.ofChange s with cond := some uptoSmall }

/-- 'roundelaylaw.KernelRuns', WHERE WHAT IT READS IS OF BULK AT MOST 1048576: true; the input reads as it did. -/
def kernelRunsUptoRow : OpenClaim := { program := "ytaimbkndebaaiab", sum := "372a0cabdd4d179b8d081267bb54baf691522301396834ca47c5cf60490e0425", func := "roundelay/roundelaylaw.KernelRuns", spec := "kernelRuns", unfollowed := true, recurses := true, plainKeys := false, apart := false, narrowed := true }
def KernelRunsUptoSaid : Prop := kernelRunsUptoRow.holds Try.pinned (OpenSpec.upto kernelRunsSpec)

/-- 'roundelaykeep.KernelNone', WHERE WHAT IT READS IS OF BULK AT MOST 1048576: true; the input reads as it did. -/
def kernelNoneUptoRow : OpenClaim := { program := "ytaimbkndebaaiab", sum := "372a0cabdd4d179b8d081267bb54baf691522301396834ca47c5cf60490e0425", func := "roundelay/roundelaykeep.KernelNone", spec := "kernelNone", unfollowed := true, recurses := true, plainKeys := false, apart := false, narrowed := true }
def KernelNoneUptoSaid : Prop := kernelNoneUptoRow.holds Try.pinned (OpenSpec.upto kernelNoneSpec)

/-- 'roundelaylaw.DepTells', WHERE WHAT IT READS IS OF BULK AT MOST 1048576: true; the input reads as it did. -/
def depTellsUptoRow : OpenClaim := { program := "ytaimbkndebaaiab", sum := "372a0cabdd4d179b8d081267bb54baf691522301396834ca47c5cf60490e0425", func := "roundelay/roundelaylaw.DepTells", spec := "depTells", unfollowed := true, recurses := true, plainKeys := false, apart := false, narrowed := true }
def DepTellsUptoSaid : Prop := depTellsUptoRow.holds Try.pinned (OpenSpec.upto depTellsSpec)

/-- 'roundelaykeep.DepForward', WHERE WHAT IT READS IS OF BULK AT MOST 1048576: true; the input reads as it did. -/
def depForwardUptoRow : OpenClaim := { program := "ytaimbkndebaaiab", sum := "372a0cabdd4d179b8d081267bb54baf691522301396834ca47c5cf60490e0425", func := "roundelay/roundelaykeep.DepForward", spec := "depForward", unfollowed := true, recurses := true, plainKeys := false, apart := false, narrowed := true }
def DepForwardUptoSaid : Prop := depForwardUptoRow.holds Try.pinned (OpenSpec.upto depForwardSpec)

/-- 'roundelaylaw.SchedLegal', WHERE WHAT IT READS IS OF BULK AT MOST 1048576: true; the input reads as it did. -/
def schedLegalUptoRow : OpenClaim := { program := "ytaimbkndebaaiab", sum := "372a0cabdd4d179b8d081267bb54baf691522301396834ca47c5cf60490e0425", func := "roundelay/roundelaylaw.SchedLegal", spec := "schedLegal", unfollowed := true, recurses := true, plainKeys := false, apart := false, narrowed := true }
def SchedLegalUptoSaid : Prop := schedLegalUptoRow.holds Try.pinned (OpenSpec.upto schedLegalSpec)

/-- 'roundelaylaw.BoundTells', WHERE WHAT IT READS IS OF BULK AT MOST 1048576: true; the input reads as it did. -/
def boundTellsUptoRow : OpenClaim := { program := "ytaimbkndebaaiab", sum := "372a0cabdd4d179b8d081267bb54baf691522301396834ca47c5cf60490e0425", func := "roundelay/roundelaylaw.BoundTells", spec := "boundTells", unfollowed := true, recurses := true, plainKeys := false, apart := false, narrowed := true }
def BoundTellsUptoSaid : Prop := boundTellsUptoRow.holds Try.pinned (OpenSpec.upto boundTellsSpec)

/-- 'roundelaylaw.BoundHolds', WHERE WHAT IT READS IS OF BULK AT MOST 1048576: true; the input reads as it did. -/
def boundHoldsUptoRow : OpenClaim := { program := "ytaimbkndebaaiab", sum := "372a0cabdd4d179b8d081267bb54baf691522301396834ca47c5cf60490e0425", func := "roundelay/roundelaylaw.BoundHolds", spec := "boundHolds", unfollowed := true, recurses := true, plainKeys := false, apart := false, narrowed := true }
def BoundHoldsUptoSaid : Prop := boundHoldsUptoRow.holds Try.pinned (OpenSpec.upto boundHoldsSpec)

/-- 'roundelaylaw.EmitTells', WHERE WHAT IT READS IS OF BULK AT MOST 1048576: true; the input reads as it did. -/
def emitTellsUptoRow : OpenClaim := { program := "ytaimbkndebaaiab", sum := "372a0cabdd4d179b8d081267bb54baf691522301396834ca47c5cf60490e0425", func := "roundelay/roundelaylaw.EmitTells", spec := "emitTells", unfollowed := true, recurses := true, plainKeys := false, apart := false, narrowed := true }
def EmitTellsUptoSaid : Prop := emitTellsUptoRow.holds Try.pinned (OpenSpec.upto emitTellsSpec)

/-- 'roundelaylaw.SchedMakes', WHERE WHAT IT READS IS OF BULK AT MOST 1048576: true; the input reads as it did. -/
def schedMakesUptoRow : OpenClaim := { program := "ytaimbkndebaaiab", sum := "372a0cabdd4d179b8d081267bb54baf691522301396834ca47c5cf60490e0425", func := "roundelay/roundelaylaw.SchedMakes", spec := "schedMakes", unfollowed := true, recurses := true, plainKeys := false, apart := false, narrowed := true }
def SchedMakesUptoSaid : Prop := schedMakesUptoRow.holds Try.pinned (OpenSpec.upto schedMakesSpec)

/-- 'roundelaylaw.RegsMakes', WHERE WHAT IT READS IS OF BULK AT MOST 1048576: true; the input reads as it did. -/
def regsMakesUptoRow : OpenClaim := { program := "ytaimbkndebaaiab", sum := "372a0cabdd4d179b8d081267bb54baf691522301396834ca47c5cf60490e0425", func := "roundelay/roundelaylaw.RegsMakes", spec := "regsMakes", unfollowed := true, recurses := true, plainKeys := false, apart := false, narrowed := true }
def RegsMakesUptoSaid : Prop := regsMakesUptoRow.holds Try.pinned (OpenSpec.upto regsMakesSpec)

/-- 'roundelaylaw.CheckSound', WHERE WHAT IT READS IS OF BULK AT MOST 1048576: true; the input reads as it did. -/
def checkSoundUptoRow : OpenClaim := { program := "ytaimbkndebaaiab", sum := "372a0cabdd4d179b8d081267bb54baf691522301396834ca47c5cf60490e0425", func := "roundelay/roundelaylaw.CheckSound", spec := "checkSound", unfollowed := true, recurses := true, plainKeys := false, apart := false, narrowed := true }
def CheckSoundUptoSaid : Prop := checkSoundUptoRow.holds Try.pinned (OpenSpec.upto checkSoundSpec)

end Rows
end Go.Proofs.Ytaimbkndebaaiab
