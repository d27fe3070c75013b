/- Plain models of functions: what they reckon, in Option. -/
import Derived.Test.YtaimbkndebaaiabSlc
namespace Go.Rd
set_option linter.unusedVariables false
set_option linter.unusedSimpArgs false
noncomputable def cmp_isNaN_int__m (x : Int) : Option (Bool) :=
 some (x != x)

noncomputable def cmp_Compare_int__m (x : Int) (y : Int) : Option (Int) :=
 bd (cmp_isNaN_int__m x) fun x1 =>
 bd (cmp_isNaN_int__m y) fun x4 =>
 br x1 (
 br x4 (
 some 0) (
 some (-1))) (
 br x4 (
 some 1) (
 br (decide (x < y)) (
 some (-1)) (
 br (decide (x > y)) (
 some 1) (
 some 0))))

noncomputable def cmp_Or_int__L0 (vals : List Int) : Int → Option (Stp (Int) (Int)) := fun x8_1 =>
 br (decide (x8_1 < (ln vals))) (
 ck (IX x8_1 (ln vals)) <|
 br ((ele vals x8_1) != 0) (
 some (.ret (ele vals x8_1))) (
 ck (IR (x8_1 + 1)) <|
 some (.next (x8_1 + 1)))) (
 some (.brk x8_1))
noncomputable def cmp_Or_int__m (vals : List Int) : Option (Int) :=
 bd (lp (cmp_Or_int__L0 vals) 0) fun o1 => o1.on (fun x8_1 =>
 some 0) (fun r => some r)

noncomputable def dep_order_m (a : Edg) (b : Edg) : Option (Int) :=
 bd (cmp_Compare_int__m a.fr b.fr) fun x3 =>
 bd (cmp_Compare_int__m a.to b.to) fun x6 =>
 bd (cmp_Compare_int__m a.bk b.bk) fun x9 =>
 bd (cmp_Compare_int__m a.wt b.wt) fun x12 =>
 bd (cmp_Or_int__m [x3, x6, x9, x12]) fun x16 =>
 some x16
end Go.Rd
