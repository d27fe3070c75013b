/- Edges in order: the order is one. -/
import Derived.Test.YtaimbkndebaaiabSOrd
import Derived.Test.YtaimbkndebaaiabSort
namespace Go.Rd
open Go.Sort Go.Shelf Go.Lib Go.Proofs
set_option linter.unusedVariables false
set_option linter.unusedSimpArgs false
theorem ord_swo : SWO (ltOf ordV) where
  irrefl x := by unfold ltOf; simp [ordV]
  trans x y z h1 h2 := by
    unfold ltOf at *
    simp only [decide_eq_true_eq, ordV_neg] at *
    omega
  ntrans x y z h1 h2 := by
    unfold ltOf at *
    simp only [decide_eq_false_iff_not, ordV_neg] at *
    omega
theorem ord_total (x y : Edg) (h1 : ltOf ordV x y = false) (h2 : ltOf ordV y x = false) : x = y := by
  unfold ltOf at *
  simp only [decide_eq_false_iff_not, ordV_neg] at *
  cases x; cases y
  simp only [Edg.mk.injEq] at *
  omega
end Go.Rd
