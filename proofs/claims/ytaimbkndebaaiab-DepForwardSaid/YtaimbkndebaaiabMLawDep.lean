/- Plain models of functions: what they reckon, in Option. -/
import Derived.Test.YtaimbkndebaaiabSlc
import Derived.Test.YtaimbkndebaaiabMDep
import Derived.Test.YtaimbkndebaaiabMRDep
namespace Go.Rd
set_option linter.unusedVariables false
set_option linter.unusedSimpArgs false
noncomputable def roundelaylaw_edges_L0 (a : List Edg) (b : List Edg) : Int → Option (Stp (Int) (Bool)) := fun i5_1 =>
 br (decide (i5_1 < (ln a))) (
 ck (IX i5_1 (ln a)) <|
 ck (IX i5_1 (ln b)) <|
 br (!([(ele a i5_1).fr, (ele a i5_1).to, (ele a i5_1).bk, (ele a i5_1).wt] == [(ele b i5_1).fr, (ele b i5_1).to, (ele b i5_1).bk, (ele b i5_1).wt])) (
 some (.ret false)) (
 ck (IR (i5_1 + 1)) <|
 some (.next (i5_1 + 1)))) (
 some (.brk i5_1))
noncomputable def roundelaylaw_edges_m (a : List Edg) (b : List Edg) : Option (Bool) :=
 br ((ln a) != (ln b)) (
 some false) (
 bd (lp (roundelaylaw_edges_L0 a b) 0) fun o4 => o4.on (fun i5_1 =>
 some true) (fun r => some r))

noncomputable def roundelaylaw_DepTells_m (l : Lp) (t : Tgt) : Option (Bool) :=
 bd (dep_Edges_m l t) fun x3 =>
 bd (roundelayref6_May_m l t) fun x7 =>
 br (!x7) (
 some ((x3.2 == 2) && ((ln x3.1) == 0))) (
 bd (roundelayref6_Edges_m l t) fun x13 =>
 bdG (x3.2 == 0) (roundelaylaw_edges_m x3.1 x13) fun x17 =>
 some ((x3.2 == 0) && x17))

noncomputable def roundelaykeep_DepForward_L0 (l : Lp) (x14 : List Edg × Int) : Int → Option (Stp (Int) (Bool)) := fun i12_1 =>
 br (decide (i12_1 < (ln x14.1))) (
 ck (IX i12_1 (ln x14.1)) <|
 br (((((((decide ((ele x14.1 i12_1).fr < 0)) || (decide ((ele x14.1 i12_1).to < 0))) || (decide ((ele x14.1 i12_1).fr ≥ (ln l.body)))) || (decide ((ele x14.1 i12_1).to ≥ (ln l.body)))) || (decide ((ele x14.1 i12_1).bk < 0))) || (decide ((ele x14.1 i12_1).wt < 0))) || (((ele x14.1 i12_1).bk == 0) && (decide ((ele x14.1 i12_1).fr ≥ (ele x14.1 i12_1).to)))) (
 some (.ret false)) (
 ck ((decide (i12_1 > 0)) = true → IR (i12_1 - 1)) <|
 ck ((decide (i12_1 > 0)) = true → IX (i12_1 - 1) (ln x14.1)) <|
 ck (((decide (i12_1 > 0)) && !(decide ((ele x14.1 (i12_1 - 1)).fr > (ele x14.1 i12_1).fr))) = true → IR (i12_1 - 1)) <|
 ck (((decide (i12_1 > 0)) && !(decide ((ele x14.1 (i12_1 - 1)).fr > (ele x14.1 i12_1).fr))) = true → IX (i12_1 - 1) (ln x14.1)) <|
 ck ((((decide (i12_1 > 0)) && !(decide ((ele x14.1 (i12_1 - 1)).fr > (ele x14.1 i12_1).fr))) && ((ele x14.1 (i12_1 - 1)).fr == (ele x14.1 i12_1).fr)) = true → IR (i12_1 - 1)) <|
 ck ((((decide (i12_1 > 0)) && !(decide ((ele x14.1 (i12_1 - 1)).fr > (ele x14.1 i12_1).fr))) && ((ele x14.1 (i12_1 - 1)).fr == (ele x14.1 i12_1).fr)) = true → IX (i12_1 - 1) (ln x14.1)) <|
 ck (((decide (i12_1 > 0)) && !((decide ((ele x14.1 (i12_1 - 1)).fr > (ele x14.1 i12_1).fr)) || (((ele x14.1 (i12_1 - 1)).fr == (ele x14.1 i12_1).fr) && (decide ((ele x14.1 (i12_1 - 1)).to > (ele x14.1 i12_1).to))))) = true → IR (i12_1 - 1)) <|
 ck (((decide (i12_1 > 0)) && !((decide ((ele x14.1 (i12_1 - 1)).fr > (ele x14.1 i12_1).fr)) || (((ele x14.1 (i12_1 - 1)).fr == (ele x14.1 i12_1).fr) && (decide ((ele x14.1 (i12_1 - 1)).to > (ele x14.1 i12_1).to))))) = true → IX (i12_1 - 1) (ln x14.1)) <|
 br ((decide (i12_1 > 0)) && (((decide ((ele x14.1 (i12_1 - 1)).fr > (ele x14.1 i12_1).fr)) || (((ele x14.1 (i12_1 - 1)).fr == (ele x14.1 i12_1).fr) && (decide ((ele x14.1 (i12_1 - 1)).to > (ele x14.1 i12_1).to)))) || ([(ele x14.1 (i12_1 - 1)).fr, (ele x14.1 (i12_1 - 1)).to, (ele x14.1 (i12_1 - 1)).bk, (ele x14.1 (i12_1 - 1)).wt] == [(ele x14.1 i12_1).fr, (ele x14.1 i12_1).to, (ele x14.1 i12_1).bk, (ele x14.1 i12_1).wt]))) (
 some (.ret false)) (
 ck (IR (i12_1 + 1)) <|
 some (.next (i12_1 + 1))))) (
 some (.brk i12_1))
noncomputable def roundelaykeep_DepForward_m (l : Lp) (t : Tgt) : Option (Bool) :=
 bd (dep_Edges_m (Lp.mk [] [(Stm.mk 2 (Rf.mk 0 0) (Rf.mk 0 0) 0 0 0 0), (Stm.mk 11 (Rf.mk 0 0) (Rf.mk 0 0) 0 0 0 0)] []) (Tgt.mk 1 1 1 1 1 1 1)) fun x7 =>
 br ((ln x7.1) != 1) (
 some false) (
 bd (dep_Edges_m l t) fun x14 =>
 br (x14.2 != 0) (
 some ((x14.2 == 2) && ((ln x14.1) == 0))) (
 bd (lp (roundelaykeep_DepForward_L0 l x14) 0) fun o21 => o21.on (fun i12_1 =>
 some (decide ((ln l.body) > 0))) (fun r => some r)))
end Go.Rd
