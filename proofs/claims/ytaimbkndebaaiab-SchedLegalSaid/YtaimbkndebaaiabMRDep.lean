/- Plain models of functions: what they reckon, in Option. -/
import Derived.Test.YtaimbkndebaaiabSlc
import Derived.Test.YtaimbkndebaaiabMLoop
namespace Go.Rd
set_option linter.unusedVariables false
set_option linter.unusedSimpArgs false
noncomputable def roundelayref6_Meets_L0 (a : Stm) (b : Stm) (back : Int) (size : Int) : Int → Option (Stp (Int) (Bool)) := fun turn9_1 =>
 br (decide (turn9_1 < size)) (
 ck (IR (a.sp * turn9_1)) <|
 ck (IR ((a.sp * turn9_1) + a.pl)) <|
 bd (roundelayref1_Rest_m ((a.sp * turn9_1) + a.pl) size) fun x14 =>
 ck (IR (turn9_1 + back)) <|
 ck (IR (b.sp * (turn9_1 + back))) <|
 ck (IR ((b.sp * (turn9_1 + back)) + b.pl)) <|
 bd (roundelayref1_Rest_m ((b.sp * (turn9_1 + back)) + b.pl) size) fun x23 =>
 br (x14 == x23) (
 some (.ret true)) (
 ck (IR (turn9_1 + 1)) <|
 some (.next (turn9_1 + 1)))) (
 some (.brk turn9_1))
noncomputable def roundelayref6_Meets_m (a : Stm) (b : Stm) (back : Int) (size : Int) : Option (Bool) :=
 bd (lp (roundelayref6_Meets_L0 a b back size) 0) fun o3 => o3.on (fun turn9_1 =>
 some false) (fun r => some r)

noncomputable def roundelayref6_Memory_m (a : Stm) (b : Stm) : Option (Bool) :=
 some (((((a.op == 3) || (a.op == 4)) && ((b.op == 3) || (b.op == 4))) && (a.ar == b.ar)) && ((a.op == 4) || (b.op == 4)))

noncomputable def roundelayref6_is_L0 (l : Lp) (t : Tgt) (e_ : Edg) (x8 : List Rf) : Int → Option (Stp (Int) (Bool)) := fun i8_1 =>
 br (decide (i8_1 < (ln x8))) (
 ck (IX i8_1 (ln x8)) <|
 ck (((ele x8 i8_1).st == e_.fr) = true → IX i8_1 (ln x8)) <|
 ck ((((ele x8 i8_1).st == e_.fr) && ((ele x8 i8_1).bk == e_.bk)) = true → IX e_.fr (ln l.body)) <|
 bdG (((ele x8 i8_1).st == e_.fr) && ((ele x8 i8_1).bk == e_.bk)) (roundelayref4_Wait_m t ((ele l.body e_.fr).op)) fun x31 =>
 br ((((ele x8 i8_1).st == e_.fr) && ((ele x8 i8_1).bk == e_.bk)) && (e_.wt == x31)) (
 some (.ret true)) (
 ck (IR (i8_1 + 1)) <|
 some (.next (i8_1 + 1)))) (
 some (.brk i8_1))
noncomputable def roundelayref6_is_L2 (l : Lp) (e_ : Edg) (x40 : Int) : Int → Option (Stp (Int) (Bool)) := fun back14_4 =>
 br (decide (back14_4 < e_.bk)) (
 bd (roundelayref6_Meets_m (ele l.body e_.fr) (ele l.body e_.to) back14_4 x40) fun x59 =>
 br x59 (
 some (.ret false)) (
 ck (IR (back14_4 + 1)) <|
 some (.next (back14_4 + 1)))) (
 some (.brk back14_4))
noncomputable def roundelayref6_is_m (l : Lp) (t : Tgt) (e_ : Edg) : Option (Bool) :=
 ck (IX e_.to (ln l.body)) <|
 bd (roundelayref2_Uses_m (ele l.body e_.to)) fun x8 =>
 bd (lp (roundelayref6_is_L0 l t e_ x8) 0) fun o12 => o12.on (fun i8_1 =>
 ck (IX e_.fr (ln l.body)) <|
 ck (IX e_.to (ln l.body)) <|
 bd (show Option (Out (Int) (Empty)) from br ((ele l.body e_.fr).op == 4) (
 some (.go 1)) (
 some (.go 0))) fun o27 => o27.on (fun wait11_2 =>
 bd (roundelayref6_Memory_m (ele l.body e_.fr) (ele l.body e_.to)) fun x30 =>
 br ((!x30) || (e_.wt != wait11_2)) (
 some false) (
 ck (IX ((ele l.body e_.fr).ar) (ln l.logs)) <|
 bd (roundelayref1_Size_m (ele l.logs ((ele l.body e_.fr).ar))) fun x40 =>
 bd (show Option (Out (Int) (Empty)) from br (decide (e_.fr ≥ e_.to)) (
 some (.go 1)) (
 some (.go 0))) fun o43 => o43.on (fun least13_3 =>
 bdG (!((decide (e_.bk < least13_3)) || (decide (e_.bk > x40)))) (roundelayref6_Meets_m (ele l.body e_.fr) (ele l.body e_.to) e_.bk x40) fun x46 =>
 br (((decide (e_.bk < least13_3)) || (decide (e_.bk > x40))) || (!x46)) (
 some false) (
 bd (lp (roundelayref6_is_L2 l e_ x40) least13_3) fun o52 => o52.on (fun back14_4 =>
 some true) (fun r => some r))) (fun r => r.elim))) (fun r => r.elim)) (fun r => some r)

noncomputable def roundelayref6_Edges_L6 (l : Lp) (t : Tgt) (from6_45 : Int) (to7_54 : Int) (back8_57 : Int) : ((List Edg) × Int) → Option (Stp ((List Edg) × Int) (Empty)) := fun (v3_58, wait9_58) =>
 br (decide (wait9_58 ≤ 6)) (
 bd (roundelayref6_is_m l t (Edg.mk from6_45 to7_54 back8_57 wait9_58)) fun x33 =>
 br x33 (
 ck (AL (v3_58 ++ [(Edg.mk from6_45 to7_54 back8_57 wait9_58)]).length 32) <|
 ck (IR (wait9_58 + 1)) <|
 some (.next ((v3_58 ++ [(Edg.mk from6_45 to7_54 back8_57 wait9_58)]), (wait9_58 + 1)))) (
 ck (IR (wait9_58 + 1)) <|
 some (.next (v3_58, (wait9_58 + 1))))) (
 some (.brk (v3_58, wait9_58)))
noncomputable def roundelayref6_Edges_L4 (l : Lp) (t : Tgt) (from6_45 : Int) (to7_54 : Int) : ((List Edg) × Int) → Option (Stp ((List Edg) × Int) (Empty)) := fun (v3_57, back8_57) =>
 br (decide (back8_57 ≤ 32)) (
 bd (lp (roundelayref6_Edges_L6 l t from6_45 to7_54 back8_57) (v3_57, 0)) fun o25 => o25.on (fun (v3_58, wait9_58) =>
 ck (IR (back8_57 + 1)) <|
 some (.next (v3_58, (back8_57 + 1)))) (fun r => r.elim)) (
 some (.brk (v3_57, back8_57)))
noncomputable def roundelayref6_Edges_L2 (l : Lp) (t : Tgt) (from6_45 : Int) : ((List Edg) × Int) → Option (Stp ((List Edg) × Int) (Empty)) := fun (v3_54, to7_54) =>
 br (decide (to7_54 < (ln l.body))) (
 bd (lp (roundelayref6_Edges_L4 l t from6_45 to7_54) (v3_54, 0)) fun o18 => o18.on (fun (v3_57, back8_57) =>
 ck (IR (to7_54 + 1)) <|
 some (.next (v3_57, (to7_54 + 1)))) (fun r => r.elim)) (
 some (.brk (v3_54, to7_54)))
noncomputable def roundelayref6_Edges_L0 (l : Lp) (t : Tgt) : ((List Edg) × Int) → Option (Stp ((List Edg) × Int) (Empty)) := fun (v3_45, from6_45) =>
 br (decide (from6_45 < (ln l.body))) (
 bd (lp (roundelayref6_Edges_L2 l t from6_45) (v3_45, 0)) fun o11 => o11.on (fun (v3_54, to7_54) =>
 ck (IR (from6_45 + 1)) <|
 some (.next (v3_54, (from6_45 + 1)))) (fun r => r.elim)) (
 some (.brk (v3_45, from6_45)))
noncomputable def roundelayref6_Edges_m (l : Lp) (t : Tgt) : Option (List Edg) :=
 bd (lp (roundelayref6_Edges_L0 l t) ([], 0)) fun o4 => o4.on (fun (v3_45, from6_45) =>
 some v3_45) (fun r => r.elim)

noncomputable def roundelayref6_May_m (l : Lp) (t : Tgt) : Option (Bool) :=
 bd (roundelayref2_May_m l) fun x3 =>
 bdG (x3) (roundelayref4_May_m t) fun x6 =>
 some (x3 && x6)
end Go.Rd
