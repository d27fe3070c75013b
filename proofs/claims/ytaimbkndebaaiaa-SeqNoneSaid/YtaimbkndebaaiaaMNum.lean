/- Plain models of functions: what they reckon, in Option. -/
import Derived.Test.YtaimbkndebaaiaaDyn
namespace Go.Rd
set_option linter.unusedVariables false
set_option linter.unusedSimpArgs false
noncomputable def num_Index_c1_m (n_ : Int) : Option (Bool) :=
 some ((decide (n_ ≥ (-64))) && (decide (n_ ≤ 64)))

noncomputable def num_Index_m (step : Int) (plus : Int) (turn : Int) (log : Int) : Option (Int) :=
 bdG (!((decide (log < 0)) || (decide (log > 5)))) (num_Index_c1_m step) fun x1 =>
 bdG (!(((decide (log < 0)) || (decide (log > 5))) || (!x1))) (num_Index_c1_m plus) fun x4 =>
 br ((((((decide (log < 0)) || (decide (log > 5))) || (!x1)) || (!x4)) || (decide (turn < 0))) || (decide (turn > 200))) (
 some 0) (
 ck (IR (step * turn)) <|
 ck (IR ((step * turn) + plus)) <|
 ck (0 ≤ log) <|
 ck (IR ((shlD 1 log) - 1)) <|
 some (bitAnd ((step * turn) + plus) ((shlD 1 log) - 1)))

noncomputable def num_Op_c1_m (is : Bool) : Option (Int) :=
 br is (
 some 1) (
 some 0)

noncomputable def num_Op_m (op : Int) (a : Int) (b : Int) : Option (Int) :=
 br (op == 1) (
 some (IntKind.i64.wrap (a + b))) (
 br (op == 2) (
 some (IntKind.i64.wrap (a - b))) (
 br (op == 3) (
 some (IntKind.i64.wrap (a * b))) (
 br (op == 4) (
 some (bitAnd a b)) (
 br (op == 5) (
 some (bitOr a b)) (
 br (op == 6) (
 some (bitXor a b)) (
 br (op == 7) (
 bd (num_Op_c1_m (decide (a < b))) fun x21 =>
 some x21) (
 br (op == 8) (
 bd (num_Op_c1_m (a == b)) fun x27 =>
 some x27) (
 some 0))))))))

noncomputable def num_Class_m (op : Int) : Option (Int) :=
 br (op == 3) (
 br (op == 3) (
 some 2) (
 br (op == 13) (
 some 1) (
 some 0))) (
 br (op == 4) (
 some 2) (
 br (op == 13) (
 some 1) (
 some 0)))

noncomputable def roundelayref1_Class_m (op : Int) : Option (Int) :=
 br ((op == 3) || (op == 4)) (
 some 2) (
 br (op == 13) (
 some 1) (
 some 0))

noncomputable def roundelayref1_Size_L0 (log : Int) : (Int × Int) → Option (Stp (Int × Int) (Empty)) := fun (n3_1, i4_1) =>
 br (decide (i4_1 < log)) (
 ck (IR (n3_1 + n3_1)) <|
 ck (IR (i4_1 + 1)) <|
 some (.next ((n3_1 + n3_1), (i4_1 + 1)))) (
 some (.brk (n3_1, i4_1)))
noncomputable def roundelayref1_Size_m (log : Int) : Option (Int) :=
 bd (lp (roundelayref1_Size_L0 log) (1, 0)) fun o1 => o1.on (fun (n3_1, i4_1) =>
 some n3_1) (fun r => r.elim)

noncomputable def roundelayref1_Rest_m (a : Int) (b : Int) : Option (Int) :=
 ck (b ≠ 0) <|
 br (decide ((Int.tmod a b) < 0)) (
 ck (IR ((Int.tmod a b) + b)) <|
 some ((Int.tmod a b) + b)) (
 some (Int.tmod a b))

noncomputable def roundelayref1_bits_L0 (op : Int) : (Int × Int × Int × Int × Int) → Option (Stp (Int × Int × Int × Int × Int) (Empty)) := fun (a1_1, b2_1, n7_1, power8_1, i9_1) =>
 br (decide (i9_1 < 64)) (
 br (((((op == 4) && ((Int.tmod a1_1 2) != 0)) && ((Int.tmod b2_1 2) != 0)) || ((op == 5) && (((Int.tmod a1_1 2) != 0) || ((Int.tmod b2_1 2) != 0)))) || ((op == 6) && (!(((Int.tmod a1_1 2) != 0) == ((Int.tmod b2_1 2) != 0))))) (
 br (decide ((Int.tmod a1_1 2) < 0)) (
 br (decide ((Int.tmod b2_1 2) < 0)) (
 ck (IR (Int.tdiv (IntKind.i64.wrap (a1_1 - (IntKind.i64.wrap ((Int.tmod a1_1 2) + 2)))) 2)) <|
 ck (IR (Int.tdiv (IntKind.i64.wrap (b2_1 - (IntKind.i64.wrap ((Int.tmod b2_1 2) + 2)))) 2)) <|
 some (.next ((Int.tdiv (IntKind.i64.wrap (a1_1 - (IntKind.i64.wrap ((Int.tmod a1_1 2) + 2)))) 2), (Int.tdiv (IntKind.i64.wrap (b2_1 - (IntKind.i64.wrap ((Int.tmod b2_1 2) + 2)))) 2), (IntKind.i64.wrap (n7_1 + power8_1)), (IntKind.i64.wrap (power8_1 + power8_1)), (IntKind.i64.wrap (i9_1 + 1))))) (
 ck (IR (Int.tdiv (IntKind.i64.wrap (a1_1 - (IntKind.i64.wrap ((Int.tmod a1_1 2) + 2)))) 2)) <|
 ck (IR (Int.tdiv (IntKind.i64.wrap (b2_1 - (Int.tmod b2_1 2))) 2)) <|
 some (.next ((Int.tdiv (IntKind.i64.wrap (a1_1 - (IntKind.i64.wrap ((Int.tmod a1_1 2) + 2)))) 2), (Int.tdiv (IntKind.i64.wrap (b2_1 - (Int.tmod b2_1 2))) 2), (IntKind.i64.wrap (n7_1 + power8_1)), (IntKind.i64.wrap (power8_1 + power8_1)), (IntKind.i64.wrap (i9_1 + 1)))))) (
 br (decide ((Int.tmod b2_1 2) < 0)) (
 ck (IR (Int.tdiv (IntKind.i64.wrap (a1_1 - (Int.tmod a1_1 2))) 2)) <|
 ck (IR (Int.tdiv (IntKind.i64.wrap (b2_1 - (IntKind.i64.wrap ((Int.tmod b2_1 2) + 2)))) 2)) <|
 some (.next ((Int.tdiv (IntKind.i64.wrap (a1_1 - (Int.tmod a1_1 2))) 2), (Int.tdiv (IntKind.i64.wrap (b2_1 - (IntKind.i64.wrap ((Int.tmod b2_1 2) + 2)))) 2), (IntKind.i64.wrap (n7_1 + power8_1)), (IntKind.i64.wrap (power8_1 + power8_1)), (IntKind.i64.wrap (i9_1 + 1))))) (
 ck (IR (Int.tdiv (IntKind.i64.wrap (a1_1 - (Int.tmod a1_1 2))) 2)) <|
 ck (IR (Int.tdiv (IntKind.i64.wrap (b2_1 - (Int.tmod b2_1 2))) 2)) <|
 some (.next ((Int.tdiv (IntKind.i64.wrap (a1_1 - (Int.tmod a1_1 2))) 2), (Int.tdiv (IntKind.i64.wrap (b2_1 - (Int.tmod b2_1 2))) 2), (IntKind.i64.wrap (n7_1 + power8_1)), (IntKind.i64.wrap (power8_1 + power8_1)), (IntKind.i64.wrap (i9_1 + 1))))))) (
 br (decide ((Int.tmod a1_1 2) < 0)) (
 br (decide ((Int.tmod b2_1 2) < 0)) (
 ck (IR (Int.tdiv (IntKind.i64.wrap (a1_1 - (IntKind.i64.wrap ((Int.tmod a1_1 2) + 2)))) 2)) <|
 ck (IR (Int.tdiv (IntKind.i64.wrap (b2_1 - (IntKind.i64.wrap ((Int.tmod b2_1 2) + 2)))) 2)) <|
 some (.next ((Int.tdiv (IntKind.i64.wrap (a1_1 - (IntKind.i64.wrap ((Int.tmod a1_1 2) + 2)))) 2), (Int.tdiv (IntKind.i64.wrap (b2_1 - (IntKind.i64.wrap ((Int.tmod b2_1 2) + 2)))) 2), n7_1, (IntKind.i64.wrap (power8_1 + power8_1)), (IntKind.i64.wrap (i9_1 + 1))))) (
 ck (IR (Int.tdiv (IntKind.i64.wrap (a1_1 - (IntKind.i64.wrap ((Int.tmod a1_1 2) + 2)))) 2)) <|
 ck (IR (Int.tdiv (IntKind.i64.wrap (b2_1 - (Int.tmod b2_1 2))) 2)) <|
 some (.next ((Int.tdiv (IntKind.i64.wrap (a1_1 - (IntKind.i64.wrap ((Int.tmod a1_1 2) + 2)))) 2), (Int.tdiv (IntKind.i64.wrap (b2_1 - (Int.tmod b2_1 2))) 2), n7_1, (IntKind.i64.wrap (power8_1 + power8_1)), (IntKind.i64.wrap (i9_1 + 1)))))) (
 br (decide ((Int.tmod b2_1 2) < 0)) (
 ck (IR (Int.tdiv (IntKind.i64.wrap (a1_1 - (Int.tmod a1_1 2))) 2)) <|
 ck (IR (Int.tdiv (IntKind.i64.wrap (b2_1 - (IntKind.i64.wrap ((Int.tmod b2_1 2) + 2)))) 2)) <|
 some (.next ((Int.tdiv (IntKind.i64.wrap (a1_1 - (Int.tmod a1_1 2))) 2), (Int.tdiv (IntKind.i64.wrap (b2_1 - (IntKind.i64.wrap ((Int.tmod b2_1 2) + 2)))) 2), n7_1, (IntKind.i64.wrap (power8_1 + power8_1)), (IntKind.i64.wrap (i9_1 + 1))))) (
 ck (IR (Int.tdiv (IntKind.i64.wrap (a1_1 - (Int.tmod a1_1 2))) 2)) <|
 ck (IR (Int.tdiv (IntKind.i64.wrap (b2_1 - (Int.tmod b2_1 2))) 2)) <|
 some (.next ((Int.tdiv (IntKind.i64.wrap (a1_1 - (Int.tmod a1_1 2))) 2), (Int.tdiv (IntKind.i64.wrap (b2_1 - (Int.tmod b2_1 2))) 2), n7_1, (IntKind.i64.wrap (power8_1 + power8_1)), (IntKind.i64.wrap (i9_1 + 1)))))))) (
 some (.brk (a1_1, b2_1, n7_1, power8_1, i9_1)))
noncomputable def roundelayref1_bits_m (op : Int) (a : Int) (b : Int) : Option (Int) :=
 bd (lp (roundelayref1_bits_L0 op) (a, b, 0, 1, 0)) fun o1 => o1.on (fun (a1_1, b2_1, n7_1, power8_1, i9_1) =>
 some n7_1) (fun r => r.elim)

noncomputable def roundelayref1_Op_m (op : Int) (a : Int) (b : Int) : Option (Int) :=
 br (op == 1) (
 some (IntKind.i64.wrap (a + b))) (
 br (op == 2) (
 some (IntKind.i64.wrap (a - b))) (
 br (op == 3) (
 some (IntKind.i64.wrap (a * b))) (
 br (op == 4) (
 br (op == 4) (
 bd (roundelayref1_bits_m op a b) fun x14 =>
 some x14) (
 br (op == 7) (
 br (decide (a < b)) (
 some 1) (
 some 0)) (
 br (op == 8) (
 br (a == b) (
 some 1) (
 some 0)) (
 some 0)))) (
 br (op == 5) (
 br (op == 5) (
 bd (roundelayref1_bits_m op a b) fun x35 =>
 some x35) (
 br (op == 7) (
 br (decide (a < b)) (
 some 1) (
 some 0)) (
 br (op == 8) (
 br (a == b) (
 some 1) (
 some 0)) (
 some 0)))) (
 br (op == 6) (
 bd (roundelayref1_bits_m op a b) fun x54 =>
 some x54) (
 br (op == 7) (
 br (decide (a < b)) (
 some 1) (
 some 0)) (
 br (op == 8) (
 br (a == b) (
 some 1) (
 some 0)) (
 some 0))))))))

noncomputable def roundelayref1_Index_m (step : Int) (plus : Int) (turn : Int) (log : Int) : Option (Int) :=
 br ((((((((decide (log < 0)) || (decide (log > 5))) || (decide (step < (-64)))) || (decide (step > 64))) || (decide (plus < (-64)))) || (decide (plus > 64))) || (decide (turn < 0))) || (decide (turn > 200))) (
 some 0) (
 ck (IR (step * turn)) <|
 ck (IR ((step * turn) + plus)) <|
 bd (roundelayref1_Size_m log) fun x8 =>
 bd (roundelayref1_Rest_m ((step * turn) + plus) x8) fun x11 =>
 some x11)
end Go.Rd
