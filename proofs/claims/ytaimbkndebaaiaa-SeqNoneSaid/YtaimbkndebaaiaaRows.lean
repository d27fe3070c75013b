/-
  No cell of these rows narrows 'for every input' (looked for: loops, veiled, ifaces, maps, wideKeys, modest, calm, conditions, laid).
  DERIVED. THE GIVEN ROWS OF THIS SEAT. 10 by the template 'for every input the law returns true; each argument reads behind the call as it read before'; 0 by the template 'total and deterministic' (their statements: YtaimbkndebaaiaaTotals.lean).
  GIVEN WITH THE SEED: the statements are not yours to turn. If you find one false, say at which input.
  Laid BY PROGRAM, IN A SANDBOX (cutbox-rows.mjs): the forced cells as the released guide's own fill.sh prints them over the translation 93c89ea46b3e12ce… (all of the seat's roots in one cut). By AI agents, Wed Nov 11 2026. No macro, syntax, notation, axiom, sorry.
-/
import Derived.Test.YtaimbkndebaaiaaChecked
import GoSem.Claim
import GoSem.ClaimJoined
import GoSem.ClaimMapViews
import Derived.JoinedTies
import Derived.KernelRfl
namespace Go.Proofs.Ytaimbkndebaaiaa
/- THE CELL 'sum', in the pinned program and in every row, IS THE sha256 OF THE DUMP (.gsa) THAT YtaimbkndebaaiaaProg.lean LOADS. Nothing in Lean hashes anything: it is a label: what it is worth is what the hold of that sum in a sandbox is worth. -/
noncomputable def Try.pinned : Pinned := { name := "ytaimbkndebaaiaa", sum := "93c89ea46b3e12ce5c31e485aeaef748bd6f11613186b2fbb52fb098c887afbc", checked := Try.checked }
namespace Rows
def none {H : Type} : Left H := { results := [], args := [] }

/-- 'roundelaykeep.NumRound': WHATEVER THE INPUT: true; the input reads as it did. -/
def numRoundSpec : ChangeSpec := { name := "numRound", fn := fun _ => fun
  | [d1, d2, d3, d4] => { results := [.lit (.bool true)], args := [d1, d2, d3, d4] }
  | _ => none }
def numRoundRow : OpenClaim := { program := "ytaimbkndebaaiaa", sum := "93c89ea46b3e12ce5c31e485aeaef748bd6f11613186b2fbb52fb098c887afbc", func := "roundelay/roundelaykeep.NumRound", spec := "numRound", unfollowed := true, recurses := true, apart := false }
def NumRoundSaid : Prop := numRoundRow.holds Try.pinned (OpenSpec.ofChange numRoundSpec)

/-- ITS FALSE NEIGHBOUR: 'it returns false'. Refute it at one input. -/
def numRoundWrong : ChangeSpec := { name := "numRound", fn := fun _ => fun
  | [d1, d2, d3, d4] => { results := [.lit (.bool false)], args := [d1, d2, d3, d4] }
  | _ => none }
def NumRoundWrongFalsely : Prop := numRoundRow.holds Try.pinned (OpenSpec.ofChange numRoundWrong)

/-- 'roundelaylaw.TargetTells': WHATEVER THE INPUT: true; the input reads as it did. -/
def targetTellsSpec : ChangeSpec := { name := "targetTells", fn := fun _ => fun
  | [d1, d2] => { results := [.lit (.bool true)], args := [d1, d2] }
  | _ => none }
def targetTellsRow : OpenClaim := { program := "ytaimbkndebaaiaa", sum := "93c89ea46b3e12ce5c31e485aeaef748bd6f11613186b2fbb52fb098c887afbc", func := "roundelay/roundelaylaw.TargetTells", spec := "targetTells", apart := false }
def TargetTellsSaid : Prop := targetTellsRow.holds Try.pinned (OpenSpec.ofChange targetTellsSpec)

/-- ITS FALSE NEIGHBOUR: 'it returns false'. Refute it at one input. -/
def targetTellsWrong : ChangeSpec := { name := "targetTells", fn := fun _ => fun
  | [d1, d2] => { results := [.lit (.bool false)], args := [d1, d2] }
  | _ => none }
def TargetTellsWrongFalsely : Prop := targetTellsRow.holds Try.pinned (OpenSpec.ofChange targetTellsWrong)

/-- 'roundelaylaw.CodePuts': WHATEVER THE INPUT: true; the input reads as it did. -/
def codePutsSpec : ChangeSpec := { name := "codePuts", fn := fun _ => fun
  | [d] => { results := [.lit (.bool true)], args := [d] }
  | _ => none }
def codePutsRow : OpenClaim := { program := "ytaimbkndebaaiaa", sum := "93c89ea46b3e12ce5c31e485aeaef748bd6f11613186b2fbb52fb098c887afbc", func := "roundelay/roundelaylaw.CodePuts", spec := "codePuts", unfollowed := true, recurses := true, apart := false }
def CodePutsSaid : Prop := codePutsRow.holds Try.pinned (OpenSpec.ofChange codePutsSpec)

/-- ITS FALSE NEIGHBOUR: 'it returns false'. Refute it at one input. -/
def codePutsWrong : ChangeSpec := { name := "codePuts", fn := fun _ => fun
  | [d] => { results := [.lit (.bool false)], args := [d] }
  | _ => none }
def CodePutsWrongFalsely : Prop := codePutsRow.holds Try.pinned (OpenSpec.ofChange codePutsWrong)

/-- 'roundelaylaw.CodeGets': WHATEVER THE INPUT: true; the input reads as it did. -/
def codeGetsSpec : ChangeSpec := { name := "codeGets", fn := fun _ => fun
  | [d] => { results := [.lit (.bool true)], args := [d] }
  | _ => none }
def codeGetsRow : OpenClaim := { program := "ytaimbkndebaaiaa", sum := "93c89ea46b3e12ce5c31e485aeaef748bd6f11613186b2fbb52fb098c887afbc", func := "roundelay/roundelaylaw.CodeGets", spec := "codeGets", unfollowed := true, recurses := true, apart := false }
def CodeGetsSaid : Prop := codeGetsRow.holds Try.pinned (OpenSpec.ofChange codeGetsSpec)

/-- ITS FALSE NEIGHBOUR: 'it returns false'. Refute it at one input. -/
def codeGetsWrong : ChangeSpec := { name := "codeGets", fn := fun _ => fun
  | [d] => { results := [.lit (.bool false)], args := [d] }
  | _ => none }
def CodeGetsWrongFalsely : Prop := codeGetsRow.holds Try.pinned (OpenSpec.ofChange codeGetsWrong)

/-- 'roundelaylaw.NumTells': WHATEVER THE INPUT: true; the input reads as it did. -/
def numTellsSpec : ChangeSpec := { name := "numTells", fn := fun _ => fun
  | [d1, d2, d3, d4, d5, d6, d7] => { results := [.lit (.bool true)], args := [d1, d2, d3, d4, d5, d6, d7] }
  | _ => none }
def numTellsRow : OpenClaim := { program := "ytaimbkndebaaiaa", sum := "93c89ea46b3e12ce5c31e485aeaef748bd6f11613186b2fbb52fb098c887afbc", func := "roundelay/roundelaylaw.NumTells", spec := "numTells", unfollowed := true, recurses := true, apart := false }
def NumTellsSaid : Prop := numTellsRow.holds Try.pinned (OpenSpec.ofChange numTellsSpec)

/-- ITS FALSE NEIGHBOUR: 'it returns false'. Refute it at one input. -/
def numTellsWrong : ChangeSpec := { name := "numTells", fn := fun _ => fun
  | [d1, d2, d3, d4, d5, d6, d7] => { results := [.lit (.bool false)], args := [d1, d2, d3, d4, d5, d6, d7] }
  | _ => none }
def NumTellsWrongFalsely : Prop := numTellsRow.holds Try.pinned (OpenSpec.ofChange numTellsWrong)

/-- 'roundelaykeep.CodeBack': WHATEVER THE INPUT: true; the input reads as it did. -/
def codeBackSpec : ChangeSpec := { name := "codeBack", fn := fun _ => fun
  | [d1, d2] => { results := [.lit (.bool true)], args := [d1, d2] }
  | _ => none }
def codeBackRow : OpenClaim := { program := "ytaimbkndebaaiaa", sum := "93c89ea46b3e12ce5c31e485aeaef748bd6f11613186b2fbb52fb098c887afbc", func := "roundelay/roundelaykeep.CodeBack", spec := "codeBack", unfollowed := true, recurses := true, apart := false }
def CodeBackSaid : Prop := codeBackRow.holds Try.pinned (OpenSpec.ofChange codeBackSpec)

/-- ITS FALSE NEIGHBOUR: 'it returns false'. Refute it at one input. -/
def codeBackWrong : ChangeSpec := { name := "codeBack", fn := fun _ => fun
  | [d1, d2] => { results := [.lit (.bool false)], args := [d1, d2] }
  | _ => none }
def CodeBackWrongFalsely : Prop := codeBackRow.holds Try.pinned (OpenSpec.ofChange codeBackWrong)

/-- 'roundelaykeep.CodeThere': WHATEVER THE INPUT: true; the input reads as it did. -/
def codeThereSpec : ChangeSpec := { name := "codeThere", fn := fun _ => fun
  | [d] => { results := [.lit (.bool true)], args := [d] }
  | _ => none }
def codeThereRow : OpenClaim := { program := "ytaimbkndebaaiaa", sum := "93c89ea46b3e12ce5c31e485aeaef748bd6f11613186b2fbb52fb098c887afbc", func := "roundelay/roundelaykeep.CodeThere", spec := "codeThere", unfollowed := true, recurses := true, apart := false }
def CodeThereSaid : Prop := codeThereRow.holds Try.pinned (OpenSpec.ofChange codeThereSpec)

/-- ITS FALSE NEIGHBOUR: 'it returns false'. Refute it at one input. -/
def codeThereWrong : ChangeSpec := { name := "codeThere", fn := fun _ => fun
  | [d] => { results := [.lit (.bool false)], args := [d] }
  | _ => none }
def CodeThereWrongFalsely : Prop := codeThereRow.holds Try.pinned (OpenSpec.ofChange codeThereWrong)

/-- 'roundelaylaw.LoopTells': WHATEVER THE INPUT: true; the input reads as it did. -/
def loopTellsSpec : ChangeSpec := { name := "loopTells", fn := fun _ => fun
  | [d1, d2] => { results := [.lit (.bool true)], args := [d1, d2] }
  | _ => none }
def loopTellsRow : OpenClaim := { program := "ytaimbkndebaaiaa", sum := "93c89ea46b3e12ce5c31e485aeaef748bd6f11613186b2fbb52fb098c887afbc", func := "roundelay/roundelaylaw.LoopTells", spec := "loopTells", apart := false }
def LoopTellsSaid : Prop := loopTellsRow.holds Try.pinned (OpenSpec.ofChange loopTellsSpec)

/-- ITS FALSE NEIGHBOUR: 'it returns false'. Refute it at one input. -/
def loopTellsWrong : ChangeSpec := { name := "loopTells", fn := fun _ => fun
  | [d1, d2] => { results := [.lit (.bool false)], args := [d1, d2] }
  | _ => none }
def LoopTellsWrongFalsely : Prop := loopTellsRow.holds Try.pinned (OpenSpec.ofChange loopTellsWrong)

/-- 'roundelaylaw.SeqRuns': WHATEVER THE INPUT: true; the input reads as it did. -/
def seqRunsSpec : ChangeSpec := { name := "seqRuns", fn := fun _ => fun
  | [d1, d2, d3] => { results := [.lit (.bool true)], args := [d1, d2, d3] }
  | _ => none }
def seqRunsRow : OpenClaim := { program := "ytaimbkndebaaiaa", sum := "93c89ea46b3e12ce5c31e485aeaef748bd6f11613186b2fbb52fb098c887afbc", func := "roundelay/roundelaylaw.SeqRuns", spec := "seqRuns", unfollowed := true, recurses := true, apart := false }
def SeqRunsSaid : Prop := seqRunsRow.holds Try.pinned (OpenSpec.ofChange seqRunsSpec)

/-- ITS FALSE NEIGHBOUR: 'it returns false'. Refute it at one input. -/
def seqRunsWrong : ChangeSpec := { name := "seqRuns", fn := fun _ => fun
  | [d1, d2, d3] => { results := [.lit (.bool false)], args := [d1, d2, d3] }
  | _ => none }
def SeqRunsWrongFalsely : Prop := seqRunsRow.holds Try.pinned (OpenSpec.ofChange seqRunsWrong)

/-- 'roundelaykeep.SeqNone': WHATEVER THE INPUT: true; the input reads as it did. -/
def seqNoneSpec : ChangeSpec := { name := "seqNone", fn := fun _ => fun
  | [d1, d2] => { results := [.lit (.bool true)], args := [d1, d2] }
  | _ => none }
def seqNoneRow : OpenClaim := { program := "ytaimbkndebaaiaa", sum := "93c89ea46b3e12ce5c31e485aeaef748bd6f11613186b2fbb52fb098c887afbc", func := "roundelay/roundelaykeep.SeqNone", spec := "seqNone", unfollowed := true, recurses := true, apart := false }
def SeqNoneSaid : Prop := seqNoneRow.holds Try.pinned (OpenSpec.ofChange seqNoneSpec)

/-- ITS FALSE NEIGHBOUR: 'it returns false'. Refute it at one input. -/
def seqNoneWrong : ChangeSpec := { name := "seqNone", fn := fun _ => fun
  | [d1, d2] => { results := [.lit (.bool false)], args := [d1, d2] }
  | _ => none }
def SeqNoneWrongFalsely : Prop := seqNoneRow.holds Try.pinned (OpenSpec.ofChange seqNoneWrong)

/- THE SECOND FORM. 'bulk': how many values and letters a reading holds, each counted each time it is reached (what is shared counts as often as it is met; a slice's spare places count too). A statement '..UptoSaid' is the law's where the arguments, and the package variables that the reading takes, are together of bulk at most 1048576: NARROWER than '..Said'. Prove '..Said' where nothing that the law and all that it calls make is longer than what came in: it says more and counts as full. Else prove '..UptoSaid'. A law counts once. -/
mutual
def uptoBulk {H : Type} : DataW H → Nat
  | .lit (.string bytes) => bytes.length + 1
  | .lit _ => 1
  | .nil => 1
  | .ptr d => uptoBulk d + 1
  | .slice elems spare => uptoBulkAll elems + uptoBulkAll spare + 1
  | .agg parts => uptoBulkAll parts + 1
  | .iface _ d => uptoBulk d + 1
  | .map entries => uptoBulkEntries entries + 1
  | .held _ => 1
def uptoBulkAll {H : Type} : List (DataW H) → Nat
  | [] => 0
  | d :: r => uptoBulk d + uptoBulkAll r
def uptoBulkEntries {H : Type} : List (Lit × DataW H) → Nat
  | [] => 0
  | x :: r => uptoBulkEntry x + uptoBulkEntries r
def uptoBulkEntry {H : Type} : Lit × DataW H → Nat
  | (.string bytes, d) => bytes.length + uptoBulk d + 1
  | (_, d) => uptoBulk d + 1
 end
def uptoSmall : (H : Type) → List (DataW H) → Bool := fun _ ds => decide (uptoBulkAll ds ≤ 1048576)
def OpenSpec.upto (s : _root_.Go.ChangeSpec) : _root_.Go.OpenSpec := { _root_.Go.OpenSpec.ofChange s with cond := some uptoSmall }

/-- 'roundelaykeep.NumRound', WHERE WHAT IT READS IS OF BULK AT MOST 1048576: true; the input reads as it did. -/
def numRoundUptoRow : OpenClaim := { program := "ytaimbkndebaaiaa", sum := "93c89ea46b3e12ce5c31e485aeaef748bd6f11613186b2fbb52fb098c887afbc", func := "roundelay/roundelaykeep.NumRound", spec := "numRound", unfollowed := true, recurses := true, apart := false, narrowed := true }
def NumRoundUptoSaid : Prop := numRoundUptoRow.holds Try.pinned (OpenSpec.upto numRoundSpec)

/-- 'roundelaylaw.TargetTells', WHERE WHAT IT READS IS OF BULK AT MOST 1048576: true; the input reads as it did. -/
def targetTellsUptoRow : OpenClaim := { program := "ytaimbkndebaaiaa", sum := "93c89ea46b3e12ce5c31e485aeaef748bd6f11613186b2fbb52fb098c887afbc", func := "roundelay/roundelaylaw.TargetTells", spec := "targetTells", apart := false, narrowed := true }
def TargetTellsUptoSaid : Prop := targetTellsUptoRow.holds Try.pinned (OpenSpec.upto targetTellsSpec)

/-- 'roundelaylaw.CodePuts', WHERE WHAT IT READS IS OF BULK AT MOST 1048576: true; the input reads as it did. -/
def codePutsUptoRow : OpenClaim := { program := "ytaimbkndebaaiaa", sum := "93c89ea46b3e12ce5c31e485aeaef748bd6f11613186b2fbb52fb098c887afbc", func := "roundelay/roundelaylaw.CodePuts", spec := "codePuts", unfollowed := true, recurses := true, apart := false, narrowed := true }
def CodePutsUptoSaid : Prop := codePutsUptoRow.holds Try.pinned (OpenSpec.upto codePutsSpec)

/-- 'roundelaylaw.CodeGets', WHERE WHAT IT READS IS OF BULK AT MOST 1048576: true; the input reads as it did. -/
def codeGetsUptoRow : OpenClaim := { program := "ytaimbkndebaaiaa", sum := "93c89ea46b3e12ce5c31e485aeaef748bd6f11613186b2fbb52fb098c887afbc", func := "roundelay/roundelaylaw.CodeGets", spec := "codeGets", unfollowed := true, recurses := true, apart := false, narrowed := true }
def CodeGetsUptoSaid : Prop := codeGetsUptoRow.holds Try.pinned (OpenSpec.upto codeGetsSpec)

/-- 'roundelaylaw.NumTells', WHERE WHAT IT READS IS OF BULK AT MOST 1048576: true; the input reads as it did. -/
def numTellsUptoRow : OpenClaim := { program := "ytaimbkndebaaiaa", sum := "93c89ea46b3e12ce5c31e485aeaef748bd6f11613186b2fbb52fb098c887afbc", func := "roundelay/roundelaylaw.NumTells", spec := "numTells", unfollowed := true, recurses := true, apart := false, narrowed := true }
def NumTellsUptoSaid : Prop := numTellsUptoRow.holds Try.pinned (OpenSpec.upto numTellsSpec)

/-- 'roundelaykeep.CodeBack', WHERE WHAT IT READS IS OF BULK AT MOST 1048576: true; the input reads as it did. -/
def codeBackUptoRow : OpenClaim := { program := "ytaimbkndebaaiaa", sum := "93c89ea46b3e12ce5c31e485aeaef748bd6f11613186b2fbb52fb098c887afbc", func := "roundelay/roundelaykeep.CodeBack", spec := "codeBack", unfollowed := true, recurses := true, apart := false, narrowed := true }
def CodeBackUptoSaid : Prop := codeBackUptoRow.holds Try.pinned (OpenSpec.upto codeBackSpec)

/-- 'roundelaykeep.CodeThere', WHERE WHAT IT READS IS OF BULK AT MOST 1048576: true; the input reads as it did. -/
def codeThereUptoRow : OpenClaim := { program := "ytaimbkndebaaiaa", sum := "93c89ea46b3e12ce5c31e485aeaef748bd6f11613186b2fbb52fb098c887afbc", func := "roundelay/roundelaykeep.CodeThere", spec := "codeThere", unfollowed := true, recurses := true, apart := false, narrowed := true }
def CodeThereUptoSaid : Prop := codeThereUptoRow.holds Try.pinned (OpenSpec.upto codeThereSpec)

/-- 'roundelaylaw.LoopTells', WHERE WHAT IT READS IS OF BULK AT MOST 1048576: true; the input reads as it did. -/
def loopTellsUptoRow : OpenClaim := { program := "ytaimbkndebaaiaa", sum := "93c89ea46b3e12ce5c31e485aeaef748bd6f11613186b2fbb52fb098c887afbc", func := "roundelay/roundelaylaw.LoopTells", spec := "loopTells", apart := false, narrowed := true }
def LoopTellsUptoSaid : Prop := loopTellsUptoRow.holds Try.pinned (OpenSpec.upto loopTellsSpec)

/-- 'roundelaylaw.SeqRuns', WHERE WHAT IT READS IS OF BULK AT MOST 1048576: true; the input reads as it did. -/
def seqRunsUptoRow : OpenClaim := { program := "ytaimbkndebaaiaa", sum := "93c89ea46b3e12ce5c31e485aeaef748bd6f11613186b2fbb52fb098c887afbc", func := "roundelay/roundelaylaw.SeqRuns", spec := "seqRuns", unfollowed := true, recurses := true, apart := false, narrowed := true }
def SeqRunsUptoSaid : Prop := seqRunsUptoRow.holds Try.pinned (OpenSpec.upto seqRunsSpec)

/-- 'roundelaykeep.SeqNone', WHERE WHAT IT READS IS OF BULK AT MOST 1048576: true; the input reads as it did. -/
def seqNoneUptoRow : OpenClaim := { program := "ytaimbkndebaaiaa", sum := "93c89ea46b3e12ce5c31e485aeaef748bd6f11613186b2fbb52fb098c887afbc", func := "roundelay/roundelaykeep.SeqNone", spec := "seqNone", unfollowed := true, recurses := true, apart := false, narrowed := true }
def SeqNoneUptoSaid : Prop := seqNoneUptoRow.holds Try.pinned (OpenSpec.upto seqNoneSpec)

end Rows
end Go.Proofs.Ytaimbkndebaaiaa
