/- Plain models of functions: what they reckon, in Option. -/
import Derived.Test.YtaimbkndebaaiaaDyn
namespace Go.Rd
set_option linter.unusedVariables false
set_option linter.unusedSimpArgs false
noncomputable def code_fields_m  : Option (Unit) :=
 some ()

noncomputable def code_Put_c1_L2 (l : List Int) (x8_3 : Int) : ((List UInt8) × Int) → Option (Stp ((List UInt8) × Int) (Empty)) := fun (own1v0_4, at5_4) =>
 br (decide (at5_4 ≥ 0)) (
 ck (0 ≤ at5_4) <|
 ck (AL (own1v0_4 ++ [(bt (shrD (ele l x8_3) at5_4))]).length 1) <|
 ck (IR (at5_4 - 8)) <|
 some (.next ((own1v0_4 ++ [(bt (shrD (ele l x8_3) at5_4))]), (at5_4 - 8)))) (
 some (.brk (own1v0_4, at5_4)))
noncomputable def code_Put_c1_L0 (l : List Int) : ((List UInt8) × Int) → Option (Stp ((List UInt8) × Int) (Empty)) := fun (own1v0_3, x8_3) =>
 br (decide (x8_3 < (ln l))) (
 ck (IX x8_3 (ln l)) <|
 bd (lp (code_Put_c1_L2 l x8_3) (own1v0_3, 56)) fun o12 => o12.on (fun (own1v0_4, at5_4) =>
 ck (IR (x8_3 + 1)) <|
 some (.next (own1v0_4, (x8_3 + 1)))) (fun r => r.elim)) (
 some (.brk (own1v0_3, x8_3)))
noncomputable def code_Put_c1_m (l : List Int) (b : List UInt8) : Option (List UInt8) :=
 bd (lp (code_Put_c1_L0 l) (b, 0)) fun o1 => o1.on (fun (own1v0_3, x8_3) =>
 some own1v0_3) (fun r => r.elim)

noncomputable def code_Put_L2 (k_ : Krn) (x28_3 : Int) : ((List UInt8) × Int) → Option (Stp ((List UInt8) × Int) (Empty)) := fun (v8_4, x33_4) =>
 br (decide (x33_4 < 9)) (
 ck (IX x33_4 9) <|
 ck (IX x33_4 (ln ([(ele k_.ops x28_3).slot, (ele k_.ops x28_3).stage, (ele k_.ops x28_3).op, (ele k_.ops x28_3).dest, (ele k_.ops x28_3).a, (ele k_.ops x28_3).b, (ele k_.ops x28_3).ar, (ele k_.ops x28_3).sp, (ele k_.ops x28_3).pl, (ele k_.ops x28_3).n] : List Int))) <|
 bd (code_Put_c1_m [(ele ([(ele k_.ops x28_3).slot, (ele k_.ops x28_3).stage, (ele k_.ops x28_3).op, (ele k_.ops x28_3).dest, (ele k_.ops x28_3).a, (ele k_.ops x28_3).b, (ele k_.ops x28_3).ar, (ele k_.ops x28_3).sp, (ele k_.ops x28_3).pl, (ele k_.ops x28_3).n] : List Int) x33_4)] v8_4) fun x38 =>
 ck (IR (x33_4 + 1)) <|
 some (.next (x38, (x33_4 + 1)))) (
 some (.brk (v8_4, x33_4)))
noncomputable def code_Put_L0 (k_ : Krn) : ((List UInt8) × Int) → Option (Stp ((List UInt8) × Int) (Empty)) := fun (v8_3, x28_3) =>
 br (decide (x28_3 < (ln k_.ops))) (
 ck (IX x28_3 (ln k_.ops)) <|
 bd (lp (code_Put_L2 k_ x28_3) (v8_3, 0)) fun o25 => o25.on (fun (v8_4, x33_4) =>
 ck (IX 9 (ln ([(ele k_.ops x28_3).slot, (ele k_.ops x28_3).stage, (ele k_.ops x28_3).op, (ele k_.ops x28_3).dest, (ele k_.ops x28_3).a, (ele k_.ops x28_3).b, (ele k_.ops x28_3).ar, (ele k_.ops x28_3).sp, (ele k_.ops x28_3).pl, (ele k_.ops x28_3).n] : List Int))) <|
 bd (code_Put_c1_m [(ele ([(ele k_.ops x28_3).slot, (ele k_.ops x28_3).stage, (ele k_.ops x28_3).op, (ele k_.ops x28_3).dest, (ele k_.ops x28_3).a, (ele k_.ops x28_3).b, (ele k_.ops x28_3).ar, (ele k_.ops x28_3).sp, (ele k_.ops x28_3).pl, (ele k_.ops x28_3).n] : List Int) 9)] v8_4) fun x34 =>
 ck (IR (x28_3 + 1)) <|
 some (.next (x34, (x28_3 + 1)))) (fun r => r.elim)) (
 some (.brk (v8_3, x28_3)))
noncomputable def code_Put_m (k_ : Krn) : Option (List UInt8 × Int) :=
 br (decide ((ln k_.ops) > 16)) (
 some ([], 1)) (
 bd (code_Put_c1_m [k_.pace, k_.stages, (ln k_.ops)] []) fun x9 =>
 bd (lp (code_Put_L0 k_) (x9, 0)) fun o13 => o13.on (fun (v8_3, x28_3) =>
 some (v8_3, 0)) (fun r => r.elim))

noncomputable def code_Get_c1_L0 (b : List UInt8) : (Int × Int) → Option (Stp (Int × Int) (Empty)) := fun (n2_1, x8_1) =>
 br (decide (x8_1 < (ln (sub b 0 8)))) (
 ck (IX x8_1 (ln (sub b 0 8))) <|
 ck (IR (x8_1 + 1)) <|
 some (.next ((bitOr (shlD n2_1 8) (((ele (sub b 0 8) x8_1)).toNat : Int)), (x8_1 + 1)))) (
 some (.brk (n2_1, x8_1)))
noncomputable def code_Get_c1_m (b : List UInt8) : Option (Int × List UInt8) :=
 ck (SX 0 8 (ln b)) <|
 bd (lp (code_Get_c1_L0 b) (0, 0)) fun o4 => o4.on (fun (n2_1, x8_1) =>
 ck (SX 8 (ln b) (ln b)) <|
 some (n2_1, (sub b 8 (ln b)))) (fun r => r.elim)

noncomputable def code_Get_L2  : ((List Int) × (List UInt8) × Int) → Option (Stp ((List Int) × (List UInt8) × Int) (Empty)) := fun (b32n_5, b1c0_5, x40_5) =>
 br (decide (x40_5 < 9)) (
 ck (IX x40_5 9) <|
 bd (code_Get_c1_m b1c0_5) fun x42 =>
 ck (IX x40_5 (ln b32n_5)) <|
 ck (IR (x40_5 + 1)) <|
 some (.next ((upd b32n_5 x40_5 x42.1), x42.2, (x40_5 + 1)))) (
 some (.brk (b32n_5, b1c0_5, x40_5)))
noncomputable def code_Get_L0 (x15 : Int × List UInt8) : ((List Opr) × (List UInt8) × Int) → Option (Stp ((List Opr) × (List UInt8) × Int) (Empty)) := fun (v24_4, b1c0_4, x37_4) =>
 br (decide (x37_4 < x15.1)) (
 bd (lp (code_Get_L2) (([0, 0, 0, 0, 0, 0, 0, 0, 0, 0] : List Int), b1c0_4, 0)) fun o33 => o33.on (fun (b32n_5, b1c0_5, x40_5) =>
 bd (code_Get_c1_m b1c0_5) fun x38 =>
 ck (IX 9 (ln b32n_5)) <|
 ck ((upd b32n_5 9 x38.1).length = 10) <|
 ck (AL (v24_4 ++ [(oprOf (upd b32n_5 9 x38.1))]).length 80) <|
 ck (IR (x37_4 + 1)) <|
 some (.next ((v24_4 ++ [(oprOf (upd b32n_5 9 x38.1))]), x38.2, (x37_4 + 1)))) (fun r => r.elim)) (
 some (.brk (v24_4, b1c0_4, x37_4)))
noncomputable def code_Get_m (b : List UInt8) : Option (Krn × Int) :=
 br (decide ((ln b) < 24)) (
 some ((Krn.mk 0 0 []), 2)) (
 bd (code_Get_c1_m b) fun x6 =>
 bd (code_Get_c1_m x6.2) fun x10 =>
 bd (code_Get_c1_m x10.2) fun x15 =>
 ck ((!((decide (x15.1 < 0)) || (decide (x15.1 > 16)))) = true → IR (80 * x15.1)) <|
 br (((decide (x15.1 < 0)) || (decide (x15.1 > 16))) || ((ln x15.2) != (80 * x15.1))) (
 some ((Krn.mk 0 0 []), 2)) (
 bd (lp (code_Get_L0 x15) ([], x15.2, 0)) fun o25 => o25.on (fun (v24_4, b1c0_4, x37_4) =>
 some ((Krn.mk x6.1 x10.1 v24_4), 0)) (fun r => r.elim)))

noncomputable def roundelayref13_number_L0  : ((List UInt8) × Int × Int) → Option (Stp ((List UInt8) × Int × Int) (Empty)) := fun (b1n_1, n0_1, k4_1) =>
 br (decide (k4_1 ≥ 0)) (
 br (decide ((Int.tmod n0_1 256) < 0)) (
 ck (IR ((Int.tmod n0_1 256) + 256)) <|
 ck (IX k4_1 8) <|
 ck (IX k4_1 (ln b1n_1)) <|
 ck (IR (n0_1 - ((Int.tmod n0_1 256) + 256))) <|
 ck (IR (Int.tdiv (n0_1 - ((Int.tmod n0_1 256) + 256)) 256)) <|
 ck (IR (k4_1 - 1)) <|
 some (.next ((upd b1n_1 k4_1 (bt ((Int.tmod n0_1 256) + 256))), (Int.tdiv (n0_1 - ((Int.tmod n0_1 256) + 256)) 256), (k4_1 - 1)))) (
 ck (IX k4_1 8) <|
 ck (IX k4_1 (ln b1n_1)) <|
 ck (IR (n0_1 - (Int.tmod n0_1 256))) <|
 ck (IR (Int.tdiv (n0_1 - (Int.tmod n0_1 256)) 256)) <|
 ck (IR (k4_1 - 1)) <|
 some (.next ((upd b1n_1 k4_1 (bt (Int.tmod n0_1 256))), (Int.tdiv (n0_1 - (Int.tmod n0_1 256)) 256), (k4_1 - 1))))) (
 some (.brk (b1n_1, n0_1, k4_1)))
noncomputable def roundelayref13_number_m (n_ : Int) : Option (List UInt8) :=
 bd (lp (roundelayref13_number_L0) (([(0 : UInt8), (0 : UInt8), (0 : UInt8), (0 : UInt8), (0 : UInt8), (0 : UInt8), (0 : UInt8), (0 : UInt8)] : List UInt8), n_, 7)) fun o2 => o2.on (fun (b1n_1, n0_1, k4_1) =>
 ck (b1n_1.length = 8) <|
 some b1n_1) (fun r => r.elim)

noncomputable def roundelayref13_numbers_L0 (l : List Int) : ((List UInt8) × Int) → Option (Stp ((List UInt8) × Int) (Empty)) := fun (s3_1, i4_1) =>
 br (decide (i4_1 < (ln l))) (
 ck (IX i4_1 (ln l)) <|
 bd (roundelayref13_number_m (ele l i4_1)) fun x12 =>
 ck (SL (s3_1 ++ x12)) <|
 ck (IR (i4_1 + 1)) <|
 some (.next ((s3_1 ++ x12), (i4_1 + 1)))) (
 some (.brk (s3_1, i4_1)))
noncomputable def roundelayref13_numbers_m (l : List Int) : Option (List UInt8) :=
 bd (lp (roundelayref13_numbers_L0 l) ([], 0)) fun o1 => o1.on (fun (s3_1, i4_1) =>
 some s3_1) (fun r => r.elim)

noncomputable def roundelayref13_Bytes_L0 (k_ : Krn) : ((List UInt8) × Int) → Option (Stp ((List UInt8) × Int) (Empty)) := fun (s3_1, i4_1) =>
 br (decide (i4_1 < (ln k_.ops))) (
 ck (IX i4_1 (ln k_.ops)) <|
 bd (roundelayref13_numbers_m [(ele k_.ops i4_1).slot, (ele k_.ops i4_1).stage, (ele k_.ops i4_1).op, (ele k_.ops i4_1).dest, (ele k_.ops i4_1).a, (ele k_.ops i4_1).b, (ele k_.ops i4_1).ar, (ele k_.ops i4_1).sp, (ele k_.ops i4_1).pl]) fun x19 =>
 ck (SL (s3_1 ++ x19)) <|
 bd (roundelayref13_number_m ((ele k_.ops i4_1).n)) fun x24 =>
 ck (SL ((s3_1 ++ x19) ++ x24)) <|
 ck (IR (i4_1 + 1)) <|
 some (.next (((s3_1 ++ x19) ++ x24), (i4_1 + 1)))) (
 some (.brk (s3_1, i4_1)))
noncomputable def roundelayref13_Bytes_m (k_ : Krn) : Option (List UInt8) :=
 bd (roundelayref13_numbers_m [k_.pace, k_.stages, (ln k_.ops)]) fun x3 =>
 bd (lp (roundelayref13_Bytes_L0 k_) (x3, 0)) fun o6 => o6.on (fun (s3_1, i4_1) =>
 some s3_1) (fun r => r.elim)

noncomputable def roundelayref13_at_L0 (b : List UInt8) (k_ : Int) : (Int × Int) → Option (Stp (Int × Int) (Empty)) := fun (n5_1, i6_1) =>
 br (decide (i6_1 < 8)) (
 ck (IR (8 * k_)) <|
 ck (IR ((8 * k_) + i6_1)) <|
 ck (IX ((8 * k_) + i6_1) (ln b)) <|
 ck (IR (i6_1 + 1)) <|
 some (.next ((IntKind.i64.wrap ((IntKind.i64.wrap (n5_1 * 256)) + (((ele b ((8 * k_) + i6_1))).toNat : Int))), (i6_1 + 1)))) (
 some (.brk (n5_1, i6_1)))
noncomputable def roundelayref13_at_m (b : List UInt8) (k_ : Int) : Option (Int) :=
 bd (lp (roundelayref13_at_L0 b k_) (0, 0)) fun o1 => o1.on (fun (n5_1, i6_1) =>
 some n5_1) (fun r => r.elim)

noncomputable def roundelayref13_Get_L0 (b : List UInt8) (x5 : Int) : ((List Opr) × Int) → Option (Stp ((List Opr) × Int) (Empty)) := fun (v22_1, i6_1) =>
 br (decide (i6_1 < x5)) (
 ck (IR (10 * i6_1)) <|
 ck (IR (3 + (10 * i6_1))) <|
 bd (roundelayref13_at_m b (3 + (10 * i6_1))) fun x34 =>
 ck (IR ((3 + (10 * i6_1)) + 1)) <|
 bd (roundelayref13_at_m b ((3 + (10 * i6_1)) + 1)) fun x39 =>
 ck (IR ((3 + (10 * i6_1)) + 2)) <|
 bd (roundelayref13_at_m b ((3 + (10 * i6_1)) + 2)) fun x44 =>
 ck (IR ((3 + (10 * i6_1)) + 3)) <|
 bd (roundelayref13_at_m b ((3 + (10 * i6_1)) + 3)) fun x49 =>
 ck (IR ((3 + (10 * i6_1)) + 4)) <|
 bd (roundelayref13_at_m b ((3 + (10 * i6_1)) + 4)) fun x54 =>
 ck (IR ((3 + (10 * i6_1)) + 5)) <|
 bd (roundelayref13_at_m b ((3 + (10 * i6_1)) + 5)) fun x59 =>
 ck (IR ((3 + (10 * i6_1)) + 6)) <|
 bd (roundelayref13_at_m b ((3 + (10 * i6_1)) + 6)) fun x65 =>
 ck (IR ((3 + (10 * i6_1)) + 7)) <|
 bd (roundelayref13_at_m b ((3 + (10 * i6_1)) + 7)) fun x70 =>
 ck (IR ((3 + (10 * i6_1)) + 8)) <|
 bd (roundelayref13_at_m b ((3 + (10 * i6_1)) + 8)) fun x75 =>
 ck (IR ((3 + (10 * i6_1)) + 9)) <|
 bd (roundelayref13_at_m b ((3 + (10 * i6_1)) + 9)) fun x80 =>
 ck (AL (v22_1 ++ [(Opr.mk x34 x39 x44 x49 x54 x59 x65 x70 x75 x80)]).length 80) <|
 ck (IR (i6_1 + 1)) <|
 some (.next ((v22_1 ++ [(Opr.mk x34 x39 x44 x49 x54 x59 x65 x70 x75 x80)]), (i6_1 + 1)))) (
 some (.brk (v22_1, i6_1)))
noncomputable def roundelayref13_Get_m (b : List UInt8) : Option (Krn × Int) :=
 br (decide ((ln b) < 24)) (
 some ((Krn.mk 0 0 []), 2)) (
 bd (roundelayref13_at_m b 2) fun x5 =>
 ck ((!((decide (x5 < 0)) || (decide (x5 > 16)))) = true → IR (80 * x5)) <|
 ck ((!((decide (x5 < 0)) || (decide (x5 > 16)))) = true → IR (24 + (80 * x5))) <|
 br (((decide (x5 < 0)) || (decide (x5 > 16))) || ((ln b) != (24 + (80 * x5)))) (
 some ((Krn.mk 0 0 []), 2)) (
 bd (roundelayref13_at_m b 0) fun x15 =>
 bd (roundelayref13_at_m b 1) fun x18 =>
 bd (lp (roundelayref13_Get_L0 b x5) ([], 0)) fun o23 => o23.on (fun (v22_1, i6_1) =>
 some ((Krn.mk x15 x18 v22_1), 0)) (fun r => r.elim)))

noncomputable def roundelayref13_Same_L0 (a : Krn) (b : Krn) : Int → Option (Stp (Int) (Bool)) := fun i5_1 =>
 br (decide (i5_1 < (ln a.ops))) (
 ck (IX i5_1 (ln a.ops)) <|
 ck (IX i5_1 (ln b.ops)) <|
 br (!([(ele a.ops i5_1).slot, (ele a.ops i5_1).stage, (ele a.ops i5_1).op, (ele a.ops i5_1).dest, (ele a.ops i5_1).a, (ele a.ops i5_1).b, (ele a.ops i5_1).ar, (ele a.ops i5_1).sp, (ele a.ops i5_1).pl, (ele a.ops i5_1).n] == [(ele b.ops i5_1).slot, (ele b.ops i5_1).stage, (ele b.ops i5_1).op, (ele b.ops i5_1).dest, (ele b.ops i5_1).a, (ele b.ops i5_1).b, (ele b.ops i5_1).ar, (ele b.ops i5_1).sp, (ele b.ops i5_1).pl, (ele b.ops i5_1).n])) (
 some (.ret false)) (
 ck (IR (i5_1 + 1)) <|
 some (.next (i5_1 + 1)))) (
 some (.brk i5_1))
noncomputable def roundelayref13_Same_m (a : Krn) (b : Krn) : Option (Bool) :=
 br (((a.pace != b.pace) || (a.stages != b.stages)) || ((ln a.ops) != (ln b.ops))) (
 some false) (
 bd (lp (roundelayref13_Same_L0 a b) 0) fun o6 => o6.on (fun i5_1 =>
 some true) (fun r => some r))
end Go.Rd
