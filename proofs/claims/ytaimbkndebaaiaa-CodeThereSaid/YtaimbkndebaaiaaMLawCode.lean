/- Plain models of functions: what they reckon, in Option. -/
import Derived.Test.YtaimbkndebaaiaaDyn
import Derived.Test.YtaimbkndebaaiaaMCode
namespace Go.Rd
set_option linter.unusedVariables false
set_option linter.unusedSimpArgs false
noncomputable def roundelaylaw_CodePuts_m (k_ : Krn) : Option (Bool) :=
 bd (code_Put_m k_) fun x2 =>
 br (decide ((ln k_.ops) > 16)) (
 some ((x2.2 == 1) && ((ln x2.1) == 0))) (
 bd (roundelayref13_Bytes_m k_) fun x9 =>
 some ((x2.2 == 0) && (x2.1 == x9)))

noncomputable def roundelaylaw_CodeGets_m (b : List UInt8) : Option (Bool) :=
 bd (code_Get_m b) fun x1 =>
 bd (roundelayref13_Get_m b) fun x6 =>
 bdG (x1.2 == x6.2) (roundelayref13_Same_m x1.1 x6.1) fun x11 =>
 some ((x1.2 == x6.2) && x11)

noncomputable def roundelaykeep_CodeBack_m (k_ : Krn) (cut : Int) : Option (Bool) :=
 bd (code_Put_m k_) fun x2 =>
 br (x2.2 != 0) (
 some (((ln x2.1) == 0) && (decide ((ln k_.ops) > 16)))) (
 bd (code_Get_m x2.1) fun x9 =>
 bd (code_Put_m x9.1) fun x14 =>
 br (decide ((IntKind.i64.wrap cut) < (ln x2.1))) (
 ck (SX 0 (IntKind.i64.wrap cut) (ln x2.1)) <|
 bd (code_Get_m (sub x2.1 0 (IntKind.i64.wrap cut))) fun x23 =>
 br (x23.2 != 2) (
 some false) (
 bdG ((((x9.2 == 0) && (x14.2 == 0)) && (x2.1 == x14.1)) && (decide ((ln x2.1) > 0))) (roundelayref13_Same_m k_ x9.1) fun x31 =>
 some (((((x9.2 == 0) && (x14.2 == 0)) && (x2.1 == x14.1)) && (decide ((ln x2.1) > 0))) && x31))) (
 bdG ((((x9.2 == 0) && (x14.2 == 0)) && (x2.1 == x14.1)) && (decide ((ln x2.1) > 0))) (roundelayref13_Same_m k_ x9.1) fun x35 =>
 some (((((x9.2 == 0) && (x14.2 == 0)) && (x2.1 == x14.1)) && (decide ((ln x2.1) > 0))) && x35)))

noncomputable def roundelaykeep_CodeThere_m (b : List UInt8) : Option (Bool) :=
 bd (code_Put_m (Krn.mk 0 0 [])) fun x1 =>
 br ((x1.2 != 0) || ((ln x1.1) != 24)) (
 some false) (
 bd (code_Get_m b) fun x8 =>
 br (x8.2 != 0) (
 bd (roundelayref13_Same_m x8.1 (Krn.mk 0 0 [])) fun x15 =>
 some x15) (
 bd (code_Put_m x8.1) fun x19 =>
 some ((x19.2 == 0) && (b == x19.1))))
end Go.Rd
