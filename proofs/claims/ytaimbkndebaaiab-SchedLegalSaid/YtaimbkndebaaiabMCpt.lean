/- Plain models of functions: what they reckon, in Option. -/
import Derived.Test.YtaimbkndebaaiabSlc
import Derived.Test.YtaimbkndebaaiabMOrd
namespace Go.Rd
set_option linter.unusedVariables false
set_option linter.unusedSimpArgs false
noncomputable def slices_Compact___api_Edge_api_Edge__L2 (ows0_3 : List Edg) (k3_3 : Int) : ((List Edg) × Int × Int) → Option (Stp ((List Edg) × Int × Int) (Empty)) := fun (ows0_4, k3_4, k25_4) =>
 ck (SX k3_3 (ln ows0_3) (ln ows0_4)) <|
 br (decide (k25_4 < (ln (sub ows0_4 k3_3 (ln ows0_3))))) (
 ck (IX k25_4 (ln (sub ows0_4 k3_3 (ln ows0_3)))) <|
 ck (IR (k25_4 - 1)) <|
 ck (IX (k25_4 - 1) (ln (sub ows0_4 k3_3 (ln ows0_3)))) <|
 br (!([(ele (sub ows0_4 k3_3 (ln ows0_3)) k25_4).fr, (ele (sub ows0_4 k3_3 (ln ows0_3)) k25_4).to, (ele (sub ows0_4 k3_3 (ln ows0_3)) k25_4).bk, (ele (sub ows0_4 k3_3 (ln ows0_3)) k25_4).wt] == [(ele (sub ows0_4 k3_3 (ln ows0_3)) (k25_4 - 1)).fr, (ele (sub ows0_4 k3_3 (ln ows0_3)) (k25_4 - 1)).to, (ele (sub ows0_4 k3_3 (ln ows0_3)) (k25_4 - 1)).bk, (ele (sub ows0_4 k3_3 (ln ows0_3)) (k25_4 - 1)).wt])) (
 ck (IX k25_4 (ln (sub ows0_4 k3_3 (ln ows0_3)))) <|
 ck (IX k3_4 (ln ows0_4)) <|
 ck (IR (k3_4 + 1)) <|
 ck (IR (k25_4 + 1)) <|
 some (.next ((upd ows0_4 k3_4 (ele (sub ows0_4 k3_3 (ln ows0_3)) k25_4)), (k3_4 + 1), (k25_4 + 1)))) (
 ck (IR (k25_4 + 1)) <|
 some (.next (ows0_4, k3_4, (k25_4 + 1))))) (
 some (.brk (ows0_4, k3_4, k25_4)))
noncomputable def slices_Compact___api_Edge_api_Edge__L0  : ((List Edg) × Int) → Option (Stp ((List Edg) × Int) (List Edg)) := fun (ows0_3, k3_3) =>
 br (decide (k3_3 < (ln ows0_3))) (
 ck (IX k3_3 (ln ows0_3)) <|
 ck (IR (k3_3 - 1)) <|
 ck (IX (k3_3 - 1) (ln ows0_3)) <|
 br ([(ele ows0_3 k3_3).fr, (ele ows0_3 k3_3).to, (ele ows0_3 k3_3).bk, (ele ows0_3 k3_3).wt] == [(ele ows0_3 (k3_3 - 1)).fr, (ele ows0_3 (k3_3 - 1)).to, (ele ows0_3 (k3_3 - 1)).bk, (ele ows0_3 (k3_3 - 1)).wt]) (
 ck (SX k3_3 (ln ows0_3) (ln ows0_3)) <|
 bd (lp (slices_Compact___api_Edge_api_Edge__L2 ows0_3 k3_3) (ows0_3, k3_3, 1)) fun o26 => o26.on (fun (ows0_4, k3_4, k25_4) =>
 ck (SX k3_4 (ln ows0_4) (ln ows0_4)) <|
 ck (SX 0 k3_4 (ln (clr ows0_4 k3_4 (Edg.mk 0 0 0 0)))) <|
 some (.ret (sub (clr ows0_4 k3_4 (Edg.mk 0 0 0 0)) 0 k3_4))) (fun r => r.elim)) (
 ck (IR (k3_3 + 1)) <|
 some (.next (ows0_3, (k3_3 + 1))))) (
 some (.brk (ows0_3, k3_3)))
noncomputable def slices_Compact___api_Edge_api_Edge__m (s : List Edg) : Option (List Edg) :=
 br (decide ((ln s) < 2)) (
 some s) (
 bd (lp (slices_Compact___api_Edge_api_Edge__L0) (s, 1)) fun o5 => o5.on (fun (ows0_3, k3_3) =>
 some ows0_3) (fun r => some r))
end Go.Rd
