/- Plain models of functions: what they reckon, in Option. -/
import Derived.Test.YtaimbkndebaaiabSlc
import Derived.Test.YtaimbkndebaaiabMRDep
namespace Go.Rd
set_option linter.unusedVariables false
set_option linter.unusedSimpArgs false
noncomputable def roundelayref8_Legal_L2 (l : Lp) (p : Pln) (i7_2 : Int) (x32 : Int) : (Int × Int) → Option (Stp (Int × Int) (Empty)) := fun (many9_3, j10_3) =>
 br (decide (j10_3 < (ln p.times))) (
 ck (IX j10_3 (ln p.times)) <|
 ck (p.pace ≠ 0) <|
 ck (IX i7_2 (ln p.times)) <|
 ck (p.pace ≠ 0) <|
 ck (((Int.tmod (ele p.times j10_3) p.pace) == (Int.tmod (ele p.times i7_2) p.pace)) = true → IX j10_3 (ln l.body)) <|
 bdG ((Int.tmod (ele p.times j10_3) p.pace) == (Int.tmod (ele p.times i7_2) p.pace)) (roundelayref1_Class_m ((ele l.body j10_3).op)) fun x58 =>
 br (((Int.tmod (ele p.times j10_3) p.pace) == (Int.tmod (ele p.times i7_2) p.pace)) && (x58 == x32)) (
 ck (IR (many9_3 + 1)) <|
 ck (IR (j10_3 + 1)) <|
 some (.next ((many9_3 + 1), (j10_3 + 1)))) (
 ck (IR (j10_3 + 1)) <|
 some (.next (many9_3, (j10_3 + 1))))) (
 some (.brk (many9_3, j10_3)))
noncomputable def roundelayref8_Legal_L0 (l : Lp) (t : Tgt) (p : Pln) : Int → Option (Stp (Int) (Bool)) := fun i7_2 =>
 br (decide (i7_2 < (ln p.times))) (
 ck (IX i7_2 (ln p.times)) <|
 ck ((!(decide ((ele p.times i7_2) < 0))) = true → IX i7_2 (ln p.times)) <|
 br ((decide ((ele p.times i7_2) < 0)) || (decide ((ele p.times i7_2) > 1000))) (
 some (.ret false)) (
 ck (IX i7_2 (ln l.body)) <|
 bd (roundelayref1_Class_m ((ele l.body i7_2).op)) fun x32 =>
 bd (lp (roundelayref8_Legal_L2 l p i7_2 x32) (0, 0)) fun o35 => o35.on (fun (many9_3, j10_3) =>
 ck (IX x32 3) <|
 br (decide (many9_3 > (sel3 t.u0 t.u1 t.u2 x32))) (
 some (.ret false)) (
 ck (IR (i7_2 + 1)) <|
 some (.next (i7_2 + 1)))) (fun r => r.elim))) (
 some (.brk i7_2))
noncomputable def roundelayref8_Legal_L4 (p : Pln) (x15 : List Edg) : Int → Option (Stp (Int) (Bool)) := fun i12_3 =>
 br (decide (i12_3 < (ln x15))) (
 ck (IX i12_3 (ln x15)) <|
 ck (IX ((ele x15 i12_3).to) (ln p.times)) <|
 ck (IR ((ele x15 i12_3).bk * p.pace)) <|
 ck (IR ((ele p.times ((ele x15 i12_3).to)) + ((ele x15 i12_3).bk * p.pace))) <|
 ck (IX ((ele x15 i12_3).fr) (ln p.times)) <|
 ck (IR ((ele p.times ((ele x15 i12_3).fr)) + (ele x15 i12_3).wt)) <|
 br (decide (((ele p.times ((ele x15 i12_3).to)) + ((ele x15 i12_3).bk * p.pace)) < ((ele p.times ((ele x15 i12_3).fr)) + (ele x15 i12_3).wt))) (
 some (.ret false)) (
 ck (IR (i12_3 + 1)) <|
 some (.next (i12_3 + 1)))) (
 some (.brk i12_3))
noncomputable def roundelayref8_Legal_m (l : Lp) (t : Tgt) (p : Pln) : Option (Bool) :=
 bd (roundelayref6_May_m l t) fun x4 =>
 br ((((!x4) || (decide (p.pace < 1))) || (decide (p.pace > 200))) || ((ln p.times) != (ln l.body))) (
 some false) (
 bd (lp (roundelayref8_Legal_L0 l t p) 0) fun o10 => o10.on (fun i7_2 =>
 bd (roundelayref6_Edges_m l t) fun x15 =>
 bd (lp (roundelayref8_Legal_L4 p x15) 0) fun o19 => o19.on (fun i12_3 =>
 some true) (fun r => some r)) (fun r => some r))

noncomputable def roundelayref8_All_L0 (l : Lp) (t : Tgt) : (Int × Int) → Option (Stp (Int × Int) (Empty)) := fun (n5_1, i6_1) =>
 br (decide (i6_1 < (ln l.body))) (
 ck (IX i6_1 (ln l.body)) <|
 bd (roundelayref4_Wait_m t ((ele l.body i6_1).op)) fun x14 =>
 ck (IR (n5_1 + x14)) <|
 ck (IR (i6_1 + 1)) <|
 some (.next ((n5_1 + x14), (i6_1 + 1)))) (
 some (.brk (n5_1, i6_1)))
noncomputable def roundelayref8_All_m (l : Lp) (t : Tgt) : Option (Int) :=
 bd (lp (roundelayref8_All_L0 l t) (0, 0)) fun o3 => o3.on (fun (n5_1, i6_1) =>
 some n5_1) (fun r => r.elim)
end Go.Rd
