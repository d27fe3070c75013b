/- Plain models of functions: what they reckon, in Option. -/
import Derived.Test.YtaimbkndebaaiaaDyn
namespace Go.Rd
set_option linter.unusedVariables false
set_option linter.unusedSimpArgs false
noncomputable def slices_Clone___int64_int64__m (v_s : Value) (s : List Int) : Option (List Int) :=
 br (isNilS v_s) (
 some []) (
 ck (AL ([] ++ s).length 8) <|
 some ([] ++ s))
end Go.Rd
