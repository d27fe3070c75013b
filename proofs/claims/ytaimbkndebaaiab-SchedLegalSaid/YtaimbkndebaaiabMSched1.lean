/- Plain models of functions: what they reckon, in Option. -/
import Derived.Test.YtaimbkndebaaiabSlc
import Derived.Test.YtaimbkndebaaiabMDep
namespace Go.Rd
set_option linter.unusedVariables false
set_option linter.unusedSimpArgs false
noncomputable def sched_fits_L0 (l : Lp) (t : Tgt) (p : Pln) : ((List ((Int × Int) × Int)) × Int) → Option (Stp ((List ((Int × Int) × Int)) × Int) (Bool)) := fun (m4n_1, x19_1) =>
 br (decide (x19_1 < (ln p.times))) (
 ck (IX x19_1 (ln p.times)) <|
 br ((decide ((ele p.times x19_1) < 0)) || (decide ((ele p.times x19_1) > 1000))) (
 some (.ret false)) (
 ck (p.pace ≠ 0) <|
 ck (IX x19_1 (ln l.body)) <|
 bd (num_Class_m ((ele l.body x19_1).op)) fun x25 =>
 ck (IR ((mget m4n_1 ((Int.tmod (ele p.times x19_1) p.pace), x25) 0) + 1)) <|
 ck (IX x25 3) <|
 br (decide ((mget (mput m4n_1 ((Int.tmod (ele p.times x19_1) p.pace), x25) ((mget m4n_1 ((Int.tmod (ele p.times x19_1) p.pace), x25) 0) + 1)) ((Int.tmod (ele p.times x19_1) p.pace), x25) 0) > (sel3 t.u0 t.u1 t.u2 x25))) (
 some (.ret false)) (
 ck (IR (x19_1 + 1)) <|
 some (.next ((mput m4n_1 ((Int.tmod (ele p.times x19_1) p.pace), x25) ((mget m4n_1 ((Int.tmod (ele p.times x19_1) p.pace), x25) 0) + 1)), (x19_1 + 1)))))) (
 some (.brk (m4n_1, x19_1)))
noncomputable def sched_fits_L2 (p : Pln) (edges : List Edg) : Int → Option (Stp (Int) (Bool)) := fun x60_2 =>
 br (decide (x60_2 < (ln edges))) (
 ck (IX x60_2 (ln edges)) <|
 ck (IX ((ele edges x60_2).to) (ln p.times)) <|
 ck (IR ((ele edges x60_2).bk * p.pace)) <|
 ck (IR ((ele p.times ((ele edges x60_2).to)) + ((ele edges x60_2).bk * p.pace))) <|
 ck (IX ((ele edges x60_2).fr) (ln p.times)) <|
 ck (IR ((ele p.times ((ele edges x60_2).fr)) + (ele edges x60_2).wt)) <|
 br (decide (((ele p.times ((ele edges x60_2).to)) + ((ele edges x60_2).bk * p.pace)) < ((ele p.times ((ele edges x60_2).fr)) + (ele edges x60_2).wt))) (
 some (.ret false)) (
 ck (IR (x60_2 + 1)) <|
 some (.next (x60_2 + 1)))) (
 some (.brk x60_2))
noncomputable def sched_fits_m (l : Lp) (t : Tgt) (p : Pln) (edges : List Edg) : Option (Bool) :=
 bd (lp (sched_fits_L0 l t p) (([] : List ((Int × Int) × Int)), 0)) fun o5 => o5.on (fun (m4n_1, x19_1) =>
 bd (lp (sched_fits_L2 p edges) 0) fun o10 => o10.on (fun x60_2 =>
 some true) (fun r => some r)) (fun r => some r)

noncomputable def sched_Legal_m (l : Lp) (t : Tgt) (p : Pln) : Option (Bool) :=
 bd (dep_Edges_m l t) fun x4 =>
 bdG ((((x4.2 == 0) && (decide (p.pace ≥ 1))) && (decide (p.pace ≤ 200))) && ((ln p.times) == (ln l.body))) (sched_fits_m l t p x4.1) fun x8 =>
 some (((((x4.2 == 0) && (decide (p.pace ≥ 1))) && (decide (p.pace ≤ 200))) && ((ln p.times) == (ln l.body))) && x8)
end Go.Rd
