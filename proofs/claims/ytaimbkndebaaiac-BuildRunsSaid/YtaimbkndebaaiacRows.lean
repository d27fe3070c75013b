/-
  No cell of these rows narrows 'for every input' (looked for: loops, veiled, ifaces, maps, wideKeys, modest, calm, conditions, laid).
  DERIVED. THE GIVEN ROWS OF THIS SEAT. 4 by the template 'for every input the law returns true; each argument reads behind the call as it read before'; 0 by the template 'total and deterministic' (their statements: YtaimbkndebaaiacTotals.lean).
  GIVEN WITH THE SEED: the statements are not yours to turn. If you find one false, say at which input.
  Laid BY PROGRAM, IN A SANDBOX (cutbox-rows.mjs): the forced cells as the released guide's own fill.sh prints them over the translation 885eb4fca8bc9b1b… (all of the seat's roots in one cut). By AI agents, Wed Nov 11 2026. No macro, syntax, notation, axiom, sorry.
-/
import Derived.Test.YtaimbkndebaaiacChecked
import GoSem.Claim
import GoSem.ClaimJoined
import GoSem.ClaimMapViews
import Derived.JoinedTies
import Derived.KernelRfl
namespace Go.Proofs.Ytaimbkndebaaiac
/- THE CELL 'sum', in the pinned program and in every row, IS THE sha256 OF THE DUMP (.gsa) THAT YtaimbkndebaaiacProg.lean LOADS. Nothing in Lean hashes anything: it is a label: what it is worth is what the hold of that sum in a sandbox is worth. -/
noncomputable def Try.pinned : Pinned := { name := "ytaimbkndebaaiac", sum := "885eb4fca8bc9b1b480cad1295215d4a49f234f525150922e71675d900365f58", checked := Try.checked }
namespace Rows
def none {H : Type} : Left H := { results := [], args := [] }

/-- 'roundelaylaw.CheckTells': WHATEVER THE INPUT: true; the input reads as it did. -/
def checkTellsSpec : ChangeSpec := { name := "checkTells", fn := fun _ => fun
  | [d1, d2, d3, d4, d5, d6, d7] => { results := [.lit (.bool true)], args := [d1, d2, d3, d4, d5, d6, d7] }
  | _ => none }
def checkTellsRow : OpenClaim := { program := "ytaimbkndebaaiac", sum := "885eb4fca8bc9b1b480cad1295215d4a49f234f525150922e71675d900365f58", func := "roundelay/roundelaylaw.CheckTells", spec := "checkTells", unfollowed := true, recurses := true, plainKeys := false, apart := false }
def CheckTellsSaid : Prop := checkTellsRow.holds Try.pinned (OpenSpec.ofChange checkTellsSpec)

/-- ITS FALSE NEIGHBOUR: 'it returns false'. Refute it at one input. -/
def checkTellsWrong : ChangeSpec := { name := "checkTells", fn := fun _ => fun
  | [d1, d2, d3, d4, d5, d6, d7] => { results := [.lit (.bool false)], args := [d1, d2, d3, d4, d5, d6, d7] }
  | _ => none }
def CheckTellsWrongFalsely : Prop := checkTellsRow.holds Try.pinned (OpenSpec.ofChange checkTellsWrong)

/-- 'roundelaylaw.BuildMakes': WHATEVER THE INPUT: true; the input reads as it did. -/
def buildMakesSpec : ChangeSpec := { name := "buildMakes", fn := fun _ => fun
  | [d1, d2] => { results := [.lit (.bool true)], args := [d1, d2] }
  | _ => none }
def buildMakesRow : OpenClaim := { program := "ytaimbkndebaaiac", sum := "885eb4fca8bc9b1b480cad1295215d4a49f234f525150922e71675d900365f58", func := "roundelay/roundelaylaw.BuildMakes", spec := "buildMakes", unfollowed := true, recurses := true, plainKeys := false, apart := false }
def BuildMakesSaid : Prop := buildMakesRow.holds Try.pinned (OpenSpec.ofChange buildMakesSpec)

/-- ITS FALSE NEIGHBOUR: 'it returns false'. Refute it at one input. -/
def buildMakesWrong : ChangeSpec := { name := "buildMakes", fn := fun _ => fun
  | [d1, d2] => { results := [.lit (.bool false)], args := [d1, d2] }
  | _ => none }
def BuildMakesWrongFalsely : Prop := buildMakesRow.holds Try.pinned (OpenSpec.ofChange buildMakesWrong)

/-- 'roundelaylaw.BuildSame': WHATEVER THE INPUT: true; the input reads as it did. -/
def buildSameSpec : ChangeSpec := { name := "buildSame", fn := fun _ => fun
  | [d1, d2, d3, d4] => { results := [.lit (.bool true)], args := [d1, d2, d3, d4] }
  | _ => none }
def buildSameRow : OpenClaim := { program := "ytaimbkndebaaiac", sum := "885eb4fca8bc9b1b480cad1295215d4a49f234f525150922e71675d900365f58", func := "roundelay/roundelaylaw.BuildSame", spec := "buildSame", unfollowed := true, recurses := true, plainKeys := false, apart := false }
def BuildSameSaid : Prop := buildSameRow.holds Try.pinned (OpenSpec.ofChange buildSameSpec)

/-- ITS FALSE NEIGHBOUR: 'it returns false'. Refute it at one input. -/
def buildSameWrong : ChangeSpec := { name := "buildSame", fn := fun _ => fun
  | [d1, d2, d3, d4] => { results := [.lit (.bool false)], args := [d1, d2, d3, d4] }
  | _ => none }
def BuildSameWrongFalsely : Prop := buildSameRow.holds Try.pinned (OpenSpec.ofChange buildSameWrong)

/-- 'roundelaykeep.BuildRuns': WHATEVER THE INPUT: true; the input reads as it did. -/
def buildRunsSpec : ChangeSpec := { name := "buildRuns", fn := fun _ => fun
  | [d1, d2, d3, d4] => { results := [.lit (.bool true)], args := [d1, d2, d3, d4] }
  | _ => none }
def buildRunsRow : OpenClaim := { program := "ytaimbkndebaaiac", sum := "885eb4fca8bc9b1b480cad1295215d4a49f234f525150922e71675d900365f58", func := "roundelay/roundelaykeep.BuildRuns", spec := "buildRuns", unfollowed := true, recurses := true, plainKeys := false, apart := false }
def BuildRunsSaid : Prop := buildRunsRow.holds Try.pinned (OpenSpec.ofChange buildRunsSpec)

/-- ITS FALSE NEIGHBOUR: 'it returns false'. Refute it at one input. -/
def buildRunsWrong : ChangeSpec := { name := "buildRuns", fn := fun _ => fun
  | [d1, d2, d3, d4] => { results := [.lit (.bool false)], args := [d1, d2, d3, d4] }
  | _ => none }
def BuildRunsWrongFalsely : Prop := buildRunsRow.holds Try.pinned (OpenSpec.ofChange buildRunsWrong)

/- THE SECOND FORM. 'bulk': how many values and letters a reading holds, each counted each time it is reached (what is shared counts as often as it is met; a slice's spare places count too). A statement '..UptoSaid' is the law's where the arguments, and the package variables that the reading takes, are together of bulk at most 1048576: NARROWER than '..Said'. Prove '..Said' where nothing that the law and all that it calls make is longer than what came in: it says more and counts as full. Else prove '..UptoSaid'. A law counts once. -/
mutual
def uptoBulk {H : Type} : DataW H → Nat
  | .lit (.string bytes) => bytes.length + 1
  | .lit _ => 1
  | .nil => 1
  | .ptr d => uptoBulk d + 1
  | .slice elems spare => uptoBulkAll elems + uptoBulkAll spare + 1
  | .agg parts => uptoBulkAll parts + 1
  | .iface _ d => uptoBulk d + 1
  | .map entries => uptoBulkEntries entries + 1
  | .held _ => 1
def uptoBulkAll {H : Type} : List (DataW H) → Nat
  | [] => 0
  | d :: r => uptoBulk d + uptoBulkAll r
def uptoBulkEntries {H : Type} : List (Lit × DataW H) → Nat
  | [] => 0
  | x :: r => uptoBulkEntry x + uptoBulkEntries r
def uptoBulkEntry {H : Type} : Lit × DataW H → Nat
  | (.string bytes, d) => bytes.length + uptoBulk d + 1
  | (_, d) => uptoBulk d + 1
 end
def uptoSmall : (H : Type) → List (DataW H) → Bool := fun _ ds => decide (uptoBulkAll ds ≤ 1048576)
def OpenSpec.upto (s : _root_.Go.ChangeSpec) : _root_.Go.OpenSpec := { _root_.Go.OpenSpec.ofChange s with cond := some uptoSmall }

/-- 'roundelaylaw.CheckTells', WHERE WHAT IT READS IS OF BULK AT MOST 1048576: true; the input reads as it did. -/
def checkTellsUptoRow : OpenClaim := { program := "ytaimbkndebaaiac", sum := "885eb4fca8bc9b1b480cad1295215d4a49f234f525150922e71675d900365f58", func := "roundelay/roundelaylaw.CheckTells", spec := "checkTells", unfollowed := true, recurses := true, plainKeys := false, apart := false, narrowed := true }
def CheckTellsUptoSaid : Prop := checkTellsUptoRow.holds Try.pinned (OpenSpec.upto checkTellsSpec)

/-- 'roundelaylaw.BuildMakes', WHERE WHAT IT READS IS OF BULK AT MOST 1048576: true; the input reads as it did. -/
def buildMakesUptoRow : OpenClaim := { program := "ytaimbkndebaaiac", sum := "885eb4fca8bc9b1b480cad1295215d4a49f234f525150922e71675d900365f58", func := "roundelay/roundelaylaw.BuildMakes", spec := "buildMakes", unfollowed := true, recurses := true, plainKeys := false, apart := false, narrowed := true }
def BuildMakesUptoSaid : Prop := buildMakesUptoRow.holds Try.pinned (OpenSpec.upto buildMakesSpec)

/-- 'roundelaylaw.BuildSame', WHERE WHAT IT READS IS OF BULK AT MOST 1048576: true; the input reads as it did. -/
def buildSameUptoRow : OpenClaim := { program := "ytaimbkndebaaiac", sum := "885eb4fca8bc9b1b480cad1295215d4a49f234f525150922e71675d900365f58", func := "roundelay/roundelaylaw.BuildSame", spec := "buildSame", unfollowed := true, recurses := true, plainKeys := false, apart := false, narrowed := true }
def BuildSameUptoSaid : Prop := buildSameUptoRow.holds Try.pinned (OpenSpec.upto buildSameSpec)

/-- 'roundelaykeep.BuildRuns', WHERE WHAT IT READS IS OF BULK AT MOST 1048576: true; the input reads as it did. -/
def buildRunsUptoRow : OpenClaim := { program := "ytaimbkndebaaiac", sum := "885eb4fca8bc9b1b480cad1295215d4a49f234f525150922e71675d900365f58", func := "roundelay/roundelaykeep.BuildRuns", spec := "buildRuns", unfollowed := true, recurses := true, plainKeys := false, apart := false, narrowed := true }
def BuildRunsUptoSaid : Prop := buildRunsUptoRow.holds Try.pinned (OpenSpec.upto buildRunsSpec)

end Rows
end Go.Proofs.Ytaimbkndebaaiac
