/- Plain models of functions: what they reckon, in Option. -/
import Derived.Test.YtaimbkndebaaiabSlc
import Derived.Test.YtaimbkndebaaiabMSched1
import Derived.Test.YtaimbkndebaaiabMRSched
namespace Go.Rd
set_option linter.unusedVariables false
set_option linter.unusedSimpArgs false
noncomputable def roundelaylaw_SchedLegal_m (l : Lp) (t : Tgt) (p : Pln) : Option (Bool) :=
 bd (sched_Legal_m l t p) fun x4 =>
 bd (roundelayref8_Legal_m l t p) fun x7 =>
 some (x4 == x7)
end Go.Rd
