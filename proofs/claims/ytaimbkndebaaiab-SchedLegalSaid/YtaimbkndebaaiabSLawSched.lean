/- Plans that are legal: the law, plain. -/
import Derived.Test.YtaimbkndebaaiabSSched
import Derived.Test.YtaimbkndebaaiabMLawSched
namespace Go.Rd
set_option linter.unusedVariables false
set_option linter.unusedSimpArgs false
theorem SchedLegal_true (l : Lp) (t : Tgt) (p : Pln) {w w' : World} {v1 v2 v3 v4 : Value} (hL : LpRep w v1 v2 v3 l) (hP : PlnRep w' v4 p) : roundelaylaw_SchedLegal_m l t p = some true := by
  unfold roundelaylaw_SchedLegal_m
  rw [Legal_s hL.fine, bd_ret, rLegal_s hL.fine, bd_ret, beq_self_eq_true]
end Go.Rd
