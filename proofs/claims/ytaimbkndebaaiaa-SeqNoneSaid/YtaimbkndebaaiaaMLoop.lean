/- Plain models of functions: what they reckon, in Option. -/
import Derived.Test.YtaimbkndebaaiaaDyn
import Derived.Test.YtaimbkndebaaiaaMNum
namespace Go.Rd
set_option linter.unusedVariables false
set_option linter.unusedSimpArgs false
noncomputable def target_May_L0 (t : Tgt) : Int → Option (Stp (Int) (Bool)) := fun x4_1 =>
 br (decide (x4_1 < 3)) (
 ck (IX x4_1 3) <|
 ck ((!(decide ((sel3 t.u0 t.u1 t.u2 x4_1) < 1))) = true → IX x4_1 3) <|
 ck ((!((decide ((sel3 t.u0 t.u1 t.u2 x4_1) < 1)) || (decide ((sel3 t.u0 t.u1 t.u2 x4_1) > 4)))) = true → IX x4_1 3) <|
 ck ((!(((decide ((sel3 t.u0 t.u1 t.u2 x4_1) < 1)) || (decide ((sel3 t.u0 t.u1 t.u2 x4_1) > 4))) || (decide ((sel3 t.w0 t.w1 t.w2 x4_1) < 1)))) = true → IX x4_1 3) <|
 br ((((decide ((sel3 t.u0 t.u1 t.u2 x4_1) < 1)) || (decide ((sel3 t.u0 t.u1 t.u2 x4_1) > 4))) || (decide ((sel3 t.w0 t.w1 t.w2 x4_1) < 1))) || (decide ((sel3 t.w0 t.w1 t.w2 x4_1) > 6))) (
 some (.ret false)) (
 ck (IR (x4_1 + 1)) <|
 some (.next (x4_1 + 1)))) (
 some (.brk x4_1))
noncomputable def target_May_m (t : Tgt) : Option (Bool) :=
 bd (lp (target_May_L0 t) 0) fun o2 => o2.on (fun x4_1 =>
 some ((decide (t.regs ≥ 1)) && (decide (t.regs ≤ 128)))) (fun r => some r)

noncomputable def target_Wait_m (t : Tgt) (op : Int) : Option (Int) :=
 bd (target_May_m t) fun x2 =>
 br (!x2) (
 some 0) (
 bd (num_Class_m op) fun x8 =>
 ck (IX x8 3) <|
 some (sel3 t.w0 t.w1 t.w2 x8))

noncomputable def roundelayref4_May_L0 (t : Tgt) : Int → Option (Stp (Int) (Bool)) := fun k3_1 =>
 br (decide (k3_1 < 3)) (
 ck (IX k3_1 3) <|
 ck ((!(decide ((sel3 t.u0 t.u1 t.u2 k3_1) < 1))) = true → IX k3_1 3) <|
 ck ((!((decide ((sel3 t.u0 t.u1 t.u2 k3_1) < 1)) || (decide ((sel3 t.u0 t.u1 t.u2 k3_1) > 4)))) = true → IX k3_1 3) <|
 ck ((!(((decide ((sel3 t.u0 t.u1 t.u2 k3_1) < 1)) || (decide ((sel3 t.u0 t.u1 t.u2 k3_1) > 4))) || (decide ((sel3 t.w0 t.w1 t.w2 k3_1) < 1)))) = true → IX k3_1 3) <|
 br ((((decide ((sel3 t.u0 t.u1 t.u2 k3_1) < 1)) || (decide ((sel3 t.u0 t.u1 t.u2 k3_1) > 4))) || (decide ((sel3 t.w0 t.w1 t.w2 k3_1) < 1))) || (decide ((sel3 t.w0 t.w1 t.w2 k3_1) > 6))) (
 some (.ret false)) (
 ck (IR (k3_1 + 1)) <|
 some (.next (k3_1 + 1)))) (
 some (.brk k3_1))
noncomputable def roundelayref4_May_m (t : Tgt) : Option (Bool) :=
 bd (lp (roundelayref4_May_L0 t) 0) fun o2 => o2.on (fun k3_1 =>
 some ((decide (t.regs > 0)) && (decide (t.regs ≤ 128)))) (fun r => some r)

noncomputable def roundelayref4_Wait_m (t : Tgt) (op : Int) : Option (Int) :=
 bd (roundelayref4_May_m t) fun x2 =>
 br (!x2) (
 some 0) (
 bd (roundelayref1_Class_m op) fun x8 =>
 ck (IX x8 3) <|
 some (sel3 t.w0 t.w1 t.w2 x8))

noncomputable def loop_in_m (n_ : Int) (from_ : Int) (below : Int) : Option (Bool) :=
 some ((decide (n_ ≥ from_)) && (decide (n_ < below)))

noncomputable def loop_Uses_m (s : Stm) : Option (List Rf) :=
 br (s.op == 4) (
 some [s.a]) (
 br (decide (s.op > 10)) (
 some [s.a, s.b]) (
 some []))

noncomputable def loop_ref_m (l : Lp) (k_ : Int) (r_ : Rf) : Option (Bool) :=
 br (r_.bk == 0) (
 bd (loop_in_m r_.bk 0 4) fun x5 =>
 bdG (x5) (loop_in_m r_.st 0 k_) fun x8 =>
 some (x5 && x8)) (
 bd (loop_in_m r_.bk 0 4) fun x12 =>
 bdG (x12) (loop_in_m r_.st 0 (ln l.body)) fun x15 =>
 some (x12 && x15))

noncomputable def loop_stmt_L0 (l : Lp) (k_ : Int) (x17 : List Rf) : Int → Option (Stp (Int) (Bool)) := fun x49_1 =>
 br (decide (x49_1 < (ln x17))) (
 ck (IX x49_1 (ln x17)) <|
 bd (loop_ref_m l k_ (ele x17 x49_1)) fun x33 =>
 br (!x33) (
 some (.ret false)) (
 ck (IR (x49_1 + 1)) <|
 some (.next (x49_1 + 1)))) (
 some (.brk x49_1))
noncomputable def loop_stmt_m (l : Lp) (k_ : Int) : Option (Bool) :=
 ck (IX k_ (ln l.body)) <|
 bd (loop_in_m ((ele l.body k_).ar) 0 (ln l.logs)) fun x8 =>
 bdG (x8) (loop_in_m ((ele l.body k_).sp) (-64) 65) fun x11 =>
 bdG (x8 && x11) (loop_in_m ((ele l.body k_).pl) (-64) 65) fun x14 =>
 bd (loop_Uses_m (Stm.mk ((ele l.body k_).op) ((ele l.body k_).a) ((ele l.body k_).b) ((ele l.body k_).ar) ((ele l.body k_).sp) ((ele l.body k_).pl) ((ele l.body k_).n))) fun x17 =>
 bd (lp (loop_stmt_L0 l k_ x17) 0) fun o21 => o21.on (fun x49_1 =>
 br ((ele l.body k_).op == 1) (
 some ((((((ele l.body k_).ar == 0) && ((ele l.body k_).sp == 0)) && ((ele l.body k_).pl == 0)) && ([((ele l.body k_).a).st, ((ele l.body k_).a).bk] == [0, 0])) && ([((ele l.body k_).b).st, ((ele l.body k_).b).bk] == [0, 0]))) (
 br ((ele l.body k_).n != 0) (
 some false) (
 br ((ele l.body k_).op == 2) (
 some ((((((ele l.body k_).ar == 0) && ((ele l.body k_).sp == 0)) && ((ele l.body k_).pl == 0)) && ([((ele l.body k_).a).st, ((ele l.body k_).a).bk] == [0, 0])) && ([((ele l.body k_).b).st, ((ele l.body k_).b).bk] == [0, 0]))) (
 br ((ele l.body k_).op == 3) (
 some ((((x8 && x11) && x14) && ([((ele l.body k_).a).st, ((ele l.body k_).a).bk] == [0, 0])) && ([((ele l.body k_).b).st, ((ele l.body k_).b).bk] == [0, 0]))) (
 br ((ele l.body k_).op == 4) (
 some (((x8 && x11) && x14) && ([((ele l.body k_).b).st, ((ele l.body k_).b).bk] == [0, 0]))) (
 bdG ((((ele l.body k_).ar == 0) && ((ele l.body k_).sp == 0)) && ((ele l.body k_).pl == 0)) (loop_in_m (IntKind.i64.wrap ((ele l.body k_).op - 10)) 1 9) fun x41 =>
 some (((((ele l.body k_).ar == 0) && ((ele l.body k_).sp == 0)) && ((ele l.body k_).pl == 0)) && x41))))))) (fun r => some r)

noncomputable def loop_May_L0 (l : Lp) : Int → Option (Stp (Int) (Bool)) := fun x12_1 =>
 br (decide (x12_1 < (ln l.logs))) (
 ck (IX x12_1 (ln l.logs)) <|
 bd (loop_in_m (ele l.logs x12_1) 0 6) fun x13 =>
 br (!x13) (
 some (.ret false)) (
 ck (IR (x12_1 + 1)) <|
 some (.next (x12_1 + 1)))) (
 some (.brk x12_1))
noncomputable def loop_May_L2 (l : Lp) : (Int × Int) → Option (Stp (Int × Int) (Bool)) := fun (last5_2, x23_2) =>
 br (decide (x23_2 < (ln l.outs))) (
 ck (IX x23_2 (ln l.outs)) <|
 ck (IR (last5_2 + 1)) <|
 bd (loop_in_m (ele l.outs x23_2) (last5_2 + 1) (ln l.body)) fun x20 =>
 br (!x20) (
 some (.ret false)) (
 ck (IR (x23_2 + 1)) <|
 some (.next ((ele l.outs x23_2), (x23_2 + 1))))) (
 some (.brk (last5_2, x23_2)))
noncomputable def loop_May_L4 (l : Lp) : Int → Option (Stp (Int) (Bool)) := fun x40_3 =>
 br (decide (x40_3 < (ln l.body))) (
 bdG (!(decide ((ln l.body) > 16))) (loop_stmt_m l x40_3) fun x19 =>
 br ((decide ((ln l.body) > 16)) || (!x19)) (
 some (.ret false)) (
 ck (IR (x40_3 + 1)) <|
 some (.next (x40_3 + 1)))) (
 some (.brk x40_3))
noncomputable def loop_May_m (l : Lp) : Option (Bool) :=
 bd (lp (loop_May_L0 l) 0) fun o2 => o2.on (fun x12_1 =>
 bd (lp (loop_May_L2 l) ((-1), 0)) fun o7 => o7.on (fun (last5_2, x23_2) =>
 bd (lp (loop_May_L4 l) 0) fun o12 => o12.on (fun x40_3 =>
 some ((decide ((ln l.logs) ≤ 3)) && (decide ((ln l.body) > 0)))) (fun r => some r)) (fun r => some r)) (fun r => some r)

noncomputable def loop_Fits_L0 (s : Sta) : Int → Option (Stp (Int) (Bool)) := fun x33_1 =>
 br (decide (x33_1 < (ln s.bef))) (
 ck (IX x33_1 (ln s.bef)) <|
 br ((ln (ele s.bef x33_1)) != 3) (
 some (.ret false)) (
 ck (IR (x33_1 + 1)) <|
 some (.next (x33_1 + 1)))) (
 some (.brk x33_1))
noncomputable def loop_Fits_L2 (l : Lp) (s : Sta) : Int → Option (Stp (Int) (Bool)) := fun x44_2 =>
 br (decide (x44_2 < (ln s.mem))) (
 ck (IX x44_2 (ln s.mem)) <|
 ck (IX x44_2 (ln l.logs)) <|
 ck (0 ≤ (ele l.logs x44_2)) <|
 br ((ln (ele s.mem x44_2)) != (shlD 1 (ele l.logs x44_2))) (
 some (.ret false)) (
 ck (IR (x44_2 + 1)) <|
 some (.next (x44_2 + 1)))) (
 some (.brk x44_2))
noncomputable def loop_Fits_m (l : Lp) (s : Sta) : Option (Bool) :=
 bd (loop_May_m l) fun x3 =>
 br (((!x3) || ((ln s.bef) != (ln l.body))) || ((ln s.mem) != (ln l.logs))) (
 some false) (
 bd (lp (loop_Fits_L0 s) 0) fun o9 => o9.on (fun x33_1 =>
 bd (lp (loop_Fits_L2 l s) 0) fun o14 => o14.on (fun x44_2 =>
 some true) (fun r => some r)) (fun r => some r))

noncomputable def roundelayref2_Within_m (n_ : Int) (least : Int) (most : Int) : Option (Bool) :=
 some ((decide (n_ ≥ least)) && (decide (n_ ≤ most)))

noncomputable def roundelayref2_Uses_m (s : Stm) : Option (List Rf) :=
 br (s.op == 4) (
 some [s.a]) (
 br (decide (s.op > 10)) (
 some [s.a, s.b]) (
 some []))

noncomputable def roundelayref2_stmt_L0 (l : Lp) (k_ : Int) (x7 : List Rf) : Int → Option (Stp (Int) (Bool)) := fun i7_1 =>
 br (decide (i7_1 < (ln x7))) (
 ck (IR ((ln l.body) - 1)) <|
 ck (IX i7_1 (ln x7)) <|
 br ((ele x7 i7_1).bk == 0) (
 ck (IR (k_ - 1)) <|
 ck (IX i7_1 (ln x7)) <|
 bd (roundelayref2_Within_m ((ele x7 i7_1).bk) 0 3) fun x32 =>
 ck ((!(!x32)) = true → IX i7_1 (ln x7)) <|
 bdG (!(!x32)) (roundelayref2_Within_m ((ele x7 i7_1).st) 0 (k_ - 1)) fun x39 =>
 br ((!x32) || (!x39)) (
 some (.ret false)) (
 ck (IR (i7_1 + 1)) <|
 some (.next (i7_1 + 1)))) (
 ck (IX i7_1 (ln x7)) <|
 bd (roundelayref2_Within_m ((ele x7 i7_1).bk) 0 3) fun x52 =>
 ck ((!(!x52)) = true → IX i7_1 (ln x7)) <|
 bdG (!(!x52)) (roundelayref2_Within_m ((ele x7 i7_1).st) 0 ((ln l.body) - 1)) fun x59 =>
 br ((!x52) || (!x59)) (
 some (.ret false)) (
 ck (IR (i7_1 + 1)) <|
 some (.next (i7_1 + 1))))) (
 some (.brk i7_1))
noncomputable def roundelayref2_stmt_m (l : Lp) (k_ : Int) : Option (Bool) :=
 ck (IX k_ (ln l.body)) <|
 bd (roundelayref2_Uses_m (Stm.mk ((ele l.body k_).op) ((ele l.body k_).a) ((ele l.body k_).b) ((ele l.body k_).ar) ((ele l.body k_).sp) ((ele l.body k_).pl) ((ele l.body k_).n))) fun x7 =>
 bd (lp (roundelayref2_stmt_L0 l k_ x7) 0) fun o11 => o11.on (fun i7_1 =>
 br (((decide ((ln x7) < 2)) && ((((ele l.body k_).b).st != 0) || (((ele l.body k_).b).bk != 0))) || ((decide ((ln x7) < 1)) && ((((ele l.body k_).a).st != 0) || (((ele l.body k_).a).bk != 0)))) (
 some false) (
 br (((ele l.body k_).op != 1) && ((ele l.body k_).n != 0)) (
 some false) (
 br (((ele l.body k_).op == 3) || ((ele l.body k_).op == 4)) (
 ck (IR ((ln l.logs) - 1)) <|
 bd (roundelayref2_Within_m ((ele l.body k_).ar) 0 ((ln l.logs) - 1)) fun x26 =>
 bdG (x26) (roundelayref2_Within_m ((ele l.body k_).sp) (-64) 64) fun x29 =>
 bdG (x26 && x29) (roundelayref2_Within_m ((ele l.body k_).pl) (-64) 64) fun x32 =>
 some ((x26 && x29) && x32)) (
 br ((((ele l.body k_).ar != 0) || ((ele l.body k_).sp != 0)) || ((ele l.body k_).pl != 0)) (
 some false) (
 bdG (!(((ele l.body k_).op == 1) || ((ele l.body k_).op == 2))) (roundelayref2_Within_m ((ele l.body k_).op) 11 18) fun x39 =>
 some ((((ele l.body k_).op == 1) || ((ele l.body k_).op == 2)) || x39)))))) (fun r => some r)

noncomputable def roundelayref2_May_L0 (l : Lp) : Int → Option (Stp (Int) (Bool)) := fun i4_1 =>
 br (decide (i4_1 < (ln l.logs))) (
 ck (IX i4_1 (ln l.logs)) <|
 bd (roundelayref2_Within_m (ele l.logs i4_1) 0 5) fun x16 =>
 br (!x16) (
 some (.ret false)) (
 ck (IR (i4_1 + 1)) <|
 some (.next (i4_1 + 1)))) (
 some (.brk i4_1))
noncomputable def roundelayref2_May_L2 (l : Lp) : Int → Option (Stp (Int) (Bool)) := fun i5_2 =>
 br (decide (i5_2 < (ln l.outs))) (
 ck (IX i5_2 (ln l.outs)) <|
 ck (IR ((ln l.body) - 1)) <|
 bd (roundelayref2_Within_m (ele l.outs i5_2) 0 ((ln l.body) - 1)) fun x23 =>
 ck ((!(!x23) && (decide (i5_2 > 0))) = true → IX i5_2 (ln l.outs)) <|
 ck ((!(!x23) && (decide (i5_2 > 0))) = true → IR (i5_2 - 1)) <|
 ck ((!(!x23) && (decide (i5_2 > 0))) = true → IX (i5_2 - 1) (ln l.outs)) <|
 br ((!x23) || ((decide (i5_2 > 0)) && (decide ((ele l.outs i5_2) ≤ (ele l.outs (i5_2 - 1)))))) (
 some (.ret false)) (
 ck (IR (i5_2 + 1)) <|
 some (.next (i5_2 + 1)))) (
 some (.brk i5_2))
noncomputable def roundelayref2_May_L4 (l : Lp) : Int → Option (Stp (Int) (Bool)) := fun k6_3 =>
 br (decide (k6_3 < (ln l.body))) (
 bd (roundelayref2_stmt_m l k6_3) fun x22 =>
 br (!x22) (
 some (.ret false)) (
 ck (IR (k6_3 + 1)) <|
 some (.next (k6_3 + 1)))) (
 some (.brk k6_3))
noncomputable def roundelayref2_May_m (l : Lp) : Option (Bool) :=
 br (((decide ((ln l.logs) > 3)) || (decide ((ln l.body) < 1))) || (decide ((ln l.body) > 16))) (
 some false) (
 bd (lp (roundelayref2_May_L0 l) 0) fun o5 => o5.on (fun i4_1 =>
 bd (lp (roundelayref2_May_L2 l) 0) fun o10 => o10.on (fun i5_2 =>
 bd (lp (roundelayref2_May_L4 l) 0) fun o15 => o15.on (fun k6_3 =>
 some true) (fun r => some r)) (fun r => some r)) (fun r => some r))

noncomputable def roundelayref2_Fits_L0 (s : Sta) : Int → Option (Stp (Int) (Bool)) := fun i5_1 =>
 br (decide (i5_1 < (ln s.bef))) (
 ck (IX i5_1 (ln s.bef)) <|
 br ((ln (ele s.bef i5_1)) != 3) (
 some (.ret false)) (
 ck (IR (i5_1 + 1)) <|
 some (.next (i5_1 + 1)))) (
 some (.brk i5_1))
noncomputable def roundelayref2_Fits_L2 (l : Lp) (s : Sta) : Int → Option (Stp (Int) (Bool)) := fun i6_2 =>
 br (decide (i6_2 < (ln s.mem))) (
 ck (IX i6_2 (ln l.logs)) <|
 bd (roundelayref1_Size_m (ele l.logs i6_2)) fun x25 =>
 ck (IX i6_2 (ln s.mem)) <|
 br ((ln (ele s.mem i6_2)) != x25) (
 some (.ret false)) (
 ck (IR (i6_2 + 1)) <|
 some (.next (i6_2 + 1)))) (
 some (.brk i6_2))
noncomputable def roundelayref2_Fits_m (l : Lp) (s : Sta) : Option (Bool) :=
 bd (roundelayref2_May_m l) fun x3 =>
 br (((!x3) || ((ln s.bef) != (ln l.body))) || ((ln s.mem) != (ln l.logs))) (
 some false) (
 bd (lp (roundelayref2_Fits_L0 s) 0) fun o9 => o9.on (fun i5_1 =>
 bd (lp (roundelayref2_Fits_L2 l s) 0) fun o14 => o14.on (fun i6_2 =>
 some true) (fun r => some r)) (fun r => some r))
end Go.Rd
