/- Plain models of functions: what they reckon, in Option. -/
import Derived.Test.YtaimbkndebaaiaaDyn
import Derived.Test.YtaimbkndebaaiaaMSeq
import Derived.Test.YtaimbkndebaaiaaMLoop
namespace Go.Rd
set_option linter.unusedVariables false
set_option linter.unusedSimpArgs false
noncomputable def roundelaylaw_SeqRuns_m (l : Lp) (s : Sta) (turns : Int) : Option (Bool) :=
 bd (seq_Run_m l s turns) fun x3 =>
 bd (roundelayref3_Wrong_m l s turns) fun x8 =>
 br (x8 != 0) (
 bdG (x3.2 == x8) (roundelayref3_Same_m x3.1 (Rst.mk [] [])) fun x13 =>
 some ((x3.2 == x8) && x13)) (
 bd (roundelayref3_Play_m l s turns) fun x17 =>
 bdG (x3.2 == 0) (roundelayref3_Same_m x3.1 x17) fun x22 =>
 some ((x3.2 == 0) && x22))

noncomputable def roundelaykeep_SeqNone_L0 (l : Lp) (s : Sta) (x3 : Rst × Int) : Int → Option (Stp (Int) (Bool)) := fun i7_1 =>
 br (decide (i7_1 < (ln l.outs))) (
 ck (IX i7_1 (ln x3.1.outs)) <|
 ck (IX i7_1 (ln l.outs)) <|
 ck (IX (ele l.outs i7_1) (ln s.bef)) <|
 ck (IX 0 (ln (ele s.bef (ele l.outs i7_1)))) <|
 br ((ele x3.1.outs i7_1) != (ele (ele s.bef (ele l.outs i7_1)) 0)) (
 some (.ret false)) (
 ck (IR (i7_1 + 1)) <|
 some (.next (i7_1 + 1)))) (
 some (.brk i7_1))
noncomputable def roundelaykeep_SeqNone_m (l : Lp) (s : Sta) : Option (Bool) :=
 bd (seq_Run_m l s 0) fun x3 =>
 br (x3.2 != 0) (
 ck ((x3.2 == 2) = true → IR ((ln x3.1.outs) + (ln x3.1.mem))) <|
 some ((x3.2 == 2) && (((ln x3.1.outs) + (ln x3.1.mem)) == 0))) (
 bdG (!((ln x3.1.outs) != (ln l.outs))) (roundelayref3_Words_m x3.1.mem s.mem) fun x13 =>
 br ((((ln x3.1.outs) != (ln l.outs)) || (!x13)) || ((ln l.body) == 0)) (
 some false) (
 bd (lp (roundelaykeep_SeqNone_L0 l s x3) 0) fun o19 => o19.on (fun i7_1 =>
 some true) (fun r => some r)))
end Go.Rd
