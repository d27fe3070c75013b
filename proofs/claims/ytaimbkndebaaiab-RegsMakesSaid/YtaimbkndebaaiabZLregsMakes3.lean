/- Texts that the law stands on: part 3. -/
import Derived.Test.YtaimbkndebaaiabZLregsMakes2
import Derived.Test.YtaimbkndebaaiabProg
import Derived.KernelRfl
section
namespace Go.Rd
set_option linter.unusedVariables false
set_option linter.unusedSimpArgs false
def farJ (y : LayD) : Int := 4000 / y.pace + 1
theorem bad_near {y : LayD} (hy : y.Ok) {a m : Nat} (ha : a < y.body.length) (hm : m < y.body.length) {j : Int} (h : BadP y a m j) : -(4000 / y.pace) - 2 ≤ j ∧ j ≤ farJ y ∧ -1006 ≤ j ∧ j ≤ 1003 ∧ -1006 ≤ j * y.pace := by
  have hp := hy.pace
  have r1 := hy.rd a ha; have r2 := hy.rd m hm
  have hlow : -1006 ≤ j * y.pace → -(4000 / y.pace) - 2 ≤ j := fun hl => by
    have h1 : -j ≤ 4000 / y.pace := Int.le_ediv_of_mul_le (by omega) (by rw [Int.neg_mul]; omega)
    omega
  have hup : j * y.pace ≤ 1000 + 3 * y.pace → j ≤ farJ y ∧ j ≤ 1003 := fun hu => by
    have h1 : j - 3 ≤ 1000 / y.pace := Int.le_ediv_of_mul_le (by omega) (by rw [Int.sub_mul]; omega)
    have h2 : 1000 / y.pace + 2 ≤ 4000 / y.pace := Int.le_ediv_of_mul_le (by omega) (by
      have := Int.ediv_mul_le 1000 (show y.pace ≠ 0 by omega)
      rw [Int.add_mul]; omega)
    have h3 : 1000 / y.pace ≤ 1000 := Int.ediv_le_self _ (by omega)
    unfold farJ
    omega
  have hj : ∀ hl : -1006 ≤ j * y.pace, -1006 ≤ j := fun hl => by
    by_cases c : j < 0
    · have := Int.mul_le_mul_of_nonneg_left (show (1 : Int) ≤ y.pace by omega) (show 0 ≤ -j by omega)
      rw [Int.neg_mul j y.pace] at this
      omega
    · omega
  have hpos : 0 < j → 0 ≤ j * y.pace := fun h0 => Int.mul_nonneg (by omega) (by omega)
  have hnp : j ≤ 0 → j * y.pace ≤ 0 := fun h0 => by
    have := Int.mul_le_mul_of_nonneg_right h0 (show 0 ≤ y.pace by omega)
    omega
  rcases h with ⟨k, r, q⟩ | ⟨q1, q2, q3⟩
  · have hk := hy.tm k q.kn
    have hu := hy.us k q.kn r q.mem
    have m1 := Int.mul_le_mul_of_nonneg_right (show r.bk ≤ 3 by omega) (show 0 ≤ y.pace by omega)
    have hl : -1006 ≤ j * y.pace := by
      rcases q.near with ⟨n1, n2⟩ | ⟨n1, n2, n3⟩
      · omega
      · have := hpos n2; omega
    have hh : j * y.pace ≤ 1000 + 3 * y.pace := by
      rcases q.near with ⟨n1, n2⟩ | ⟨n1, n2, n3⟩ <;> omega
    have := hup hh
    exact ⟨hlow hl, this.1, hj hl, this.2, hl⟩
  · have hl : -1006 ≤ j * y.pace := by omega
    have := hup (by have := hnp q1; omega)
    exact ⟨hlow hl, this.1, hj hl, this.2, hl⟩
theorem tm2 {d R : Int} (hR : 1 ≤ R) (hR2 : R ≤ 128) : Int.tmod (Int.tmod d R + R) R = d % R := by
  have ht := tmod_lt' d (show 0 < R by omega)
  rw [Int.tmod_eq_emod_of_nonneg (by omega), Int.add_emod_right]
  have h := Int.tmod_add_mul_tdiv d R
  rw [show Int.tmod d R = d - R * Int.tdiv d R from by omega, Int.sub_mul_emod_self_left]
theorem apart_s {y : LayD} (hy : y.Ok) {a m : Nat} (ha : a < y.body.length) (hm : m < y.body.length) : keep_Layout_Apart_m y.body y.outs y.pace y.regs y.time y.ready y.places a m = some (tb (ApartP y a m)) := by
  obtain ⟨us, u1, u2, u3⟩ := uses_l hy a
  have hp := hy.pace; have hR := hy.regs
  have p1 := hy.pl a ha; have p2 := hy.pl m hm
  have hlp := hy.lp
  have ht := tmod_lt' (ele y.places (a : Int) - ele y.places (m : Int)) (show 0 < y.regs by omega)
  have hf : Int.tdiv 4000 y.pace = 4000 / y.pace := Int.tdiv_eq_ediv_of_nonneg (by omega)
  have hf0 : 0 ≤ 4000 / y.pace := Int.ediv_nonneg (by omega) (by omega)
  have hf1 : 4000 / y.pace ≤ 4000 := Int.ediv_le_self _ (by omega)
  have hq : Int.tdiv (4000 / y.pace + 1) y.regs = (4000 / y.pace + 1) / y.regs := Int.tdiv_eq_ediv_of_nonneg (by omega)
  have hq0 : 0 ≤ (4000 / y.pace + 1) / y.regs := Int.ediv_nonneg (by omega) (by omega)
  have hq1 : (4000 / y.pace + 1) / y.regs ≤ 4001 := Int.le_trans (Int.ediv_le_self _ (by omega)) (by omega)
  have hq2 := Int.ediv_mul_le (4000 / y.pace + 1) (show y.regs ≠ 0 by omega)
  have hq3 := Int.lt_ediv_add_one_mul_self (4000 / y.pace + 1) (show 0 < y.regs by omega)
  have hd0 := Int.emod_nonneg (ele y.places (a : Int) - ele y.places (m : Int)) (show y.regs ≠ 0 by omega)
  have hd1 := Int.emod_lt_of_pos (ele y.places (a : Int) - ele y.places (m : Int)) (show 0 < y.regs by omega)
  unfold keep_Layout_Apart_m
  rw [u1, bd_ret, ck_IX (by omega) (by unfold ln; omega), ck_IX (by omega) (by unfold ln; omega), ck_IR (by omega) (by omega), ck_yes (by omega), ck_IR (by omega) (by omega), ck_yes (by omega), ck_yes (by omega), hf, ck_IR (by omega) (by omega), ck_IR (by omega) (by omega), ck_yes (by omega), hq, ck_IR (by omega) (by omega), ck_IR (by omega) (by omega)]
  rw [Int.add_mul] at hq3
  have e2 : ((4000 / y.pace + 1) / y.regs + 2) * y.regs = (4000 / y.pace + 1) / y.regs * y.regs + 2 * y.regs := Int.add_mul ..
  rw [tm2 hR.1 hR.2, e2, ck_IR (by omega) (by omega), ck_IR (by omega) (by omega)]
  generalize hlo : (ele y.places (a : Int) - ele y.places (m : Int)) % y.regs - ((4000 / y.pace + 1) / y.regs * y.regs + 2 * y.regs) = lo
  have hfar : farJ y = 4000 / y.pace + 1 := rfl
  have hlob : lo < -(4000 / y.pace) - 1 ∧ -10000 ≤ lo := by omega
  have hN0 : 0 ≤ (farJ y - lo) / y.regs := Int.ediv_nonneg (by omega) (by omega)
  obtain ⟨N, hN⟩ := Int.eq_ofNat_of_zero_le (show 0 ≤ (farJ y - lo) / y.regs + 1 by omega)
  have hN1 := Int.ediv_mul_le (farJ y - lo) (show y.regs ≠ 0 by omega)
  have hN2 := Int.lt_ediv_add_one_mul_self (farJ y - lo) (show 0 < y.regs by omega)
  rw [hN] at hN2
  have hst : ∀ i : Nat, i < N → lo + (i : Int) * y.regs ≤ farJ y ∧ lo ≤ lo + (i : Int) * y.regs := fun i hi => by
    have h1 := Int.mul_le_mul_of_nonneg_right (show (i : Int) ≤ (farJ y - lo) / y.regs by omega) (show 0 ≤ y.regs by omega)
    have h2 := Int.mul_nonneg (show 0 ≤ (i : Int) by omega) (show 0 ≤ y.regs by omega)
    omega
  have hcong : ∀ i : Int, (ele y.places (m : Int) + (lo + i * y.regs) - ele y.places (a : Int)) % y.regs = 0 := fun i => by
    have h1 := Int.emod_add_mul_ediv (ele y.places (a : Int) - ele y.places (m : Int)) y.regs
    have e : ele y.places (m : Int) + (lo + i * y.regs) - ele y.places (a : Int) = (i - (ele y.places (a : Int) - ele y.places (m : Int)) / y.regs - ((4000 / y.pace + 1) / y.regs + 2)) * y.regs := by
      rw [Int.sub_mul, Int.sub_mul, e2, Int.mul_comm ((ele y.places (a : Int) - ele y.places (m : Int)) / y.regs)]
      omega
    rw [e, Int.mul_emod_left]
  have X := lp_det2 (f := keep_Layout_Apart_L0 y.outs y.pace y.regs y.ready a m us) (ρ := Bool) (fun i => lo + (i : Int) * y.regs) N (fun i => ¬ (((m : Int) ≠ a ∨ lo + (i : Int) * y.regs ≠ 0) ∧ BadP y a m (lo + (i : Int) * y.regs))) (fun _ => false) (fun i hi _ => by
    have h1 := hst i hi
    unfold keep_Layout_Apart_L0
    rw [hf, br_T (by omega), bad_s hy ha hm (by omega) (by omega) u2 u3, bdG_some']
    have hb : ((((m : Int) != a) || (lo + (i : Int) * y.regs != 0)) && (if (((m : Int) != a) || (lo + (i : Int) * y.regs != 0)) = true then tb (BadP y a m (lo + (i : Int) * y.regs)) else false)) = tb (((m : Int) ≠ a ∨ lo + (i : Int) * y.regs ≠ 0) ∧ BadP y a m (lo + (i : Int) * y.regs)) := by
      rw [show (((m : Int) != a) || (lo + (i : Int) * y.regs != 0)) = tb ((m : Int) ≠ a ∨ lo + (i : Int) * y.regs ≠ 0) from tb_eq (by simp)]
      by_cases c : ((m : Int) ≠ a ∨ lo + (i : Int) * y.regs ≠ 0)
      · rw [tb_t c, if_pos rfl, Bool.true_and]; exact tb_congr ⟨fun h => ⟨c, h⟩, fun h => h.2⟩
      · rw [tb_f c, Bool.false_and, tb_f fun h => c h.1]
    rw [hb]
    exact ⟨fun h => by rw [tb_f h, br_false, ck_IR (by omega) (by omega)]; refine congrArg some (congrArg Stp.next ?_); rw [show ((i + 1 : Nat) : Int) = (i : Int) + 1 from by omega, Int.add_mul]; omega, fun h => by rw [tb_t (Classical.not_not.1 h), br_true]⟩) (by
    unfold keep_Layout_Apart_L0
    rw [hf]
    exact br_F (by omega))
  rw [show lo + ((0 : Nat) : Int) * y.regs = lo from by rw [show ((0 : Nat) : Int) = 0 from rfl, Int.zero_mul]; omega] at X
  rcases X with ⟨h1, e⟩ | ⟨i, h1, h2, _, e⟩
  · rw [e, bd_ret, Out.on_go, tb_t]
    intro j hj hz hbad
    have hb := bad_near hy ha hm hbad
    obtain ⟨z, hz⟩ := Int.dvd_of_emod_eq_zero hz
    have h3 := Int.emod_add_mul_ediv (ele y.places (a : Int) - ele y.places (m : Int)) y.regs
    have e3 : j - lo = y.regs * (z + (ele y.places (a : Int) - ele y.places (m : Int)) / y.regs + ((4000 / y.pace + 1) / y.regs + 2)) := by
      rw [Int.mul_add, Int.mul_add, ← hz, Int.mul_comm y.regs ((4000 / y.pace + 1) / y.regs + 2), e2]
      omega
    generalize z + (ele y.places (a : Int) - ele y.places (m : Int)) / y.regs + ((4000 / y.pace + 1) / y.regs + 2) = i at e3
    have hi0 : 0 ≤ i := by
      by_cases c : i < 0
      · have := Int.mul_le_mul_of_nonneg_left (show i ≤ -1 by omega) (show 0 ≤ y.regs by omega)
        omega
      · omega
    have hi1 : i ≤ (farJ y - lo) / y.regs := Int.le_ediv_of_mul_le (by omega) (by rw [Int.mul_comm]; omega)
    obtain ⟨i', rfl⟩ := Int.eq_ofNat_of_zero_le hi0
    have hj' : lo + (i' : Int) * y.regs = j := by rw [Int.mul_comm]; omega
    have := h1 i' (by omega)
    rw [hj'] at this
    exact this ⟨hj, hbad⟩
  · rw [e, bd_ret, Out.on_ret, tb_f]
    intro h
    have h3 := Classical.not_not.1 h2
    exact h _ h3.1 (hcong i) h3.2
end Go.Rd
end

section
namespace Go.Rd
set_option linter.unusedVariables false
noncomputable def roundelayref5_Uses_m (op : Int) : Option (Int) :=
 br (op == 4) (
 some 1) (
 br (decide (op > 10)) (
 some 2) (
 some 0))

noncomputable def roundelayref5_one_m (t : Tgt) (k_ : Krn) (o : Opr) (logs : List Int) : Option (Bool) :=
 ck ((!((((decide (o.slot < 0)) || (decide (o.slot ≥ k_.pace))) || (decide (o.stage < 0))) || (decide (o.stage ≥ k_.stages)))) = true → IR (o.stage * k_.pace)) <|
 ck ((!((((decide (o.slot < 0)) || (decide (o.slot ≥ k_.pace))) || (decide (o.stage < 0))) || (decide (o.stage ≥ k_.stages)))) = true → IR ((o.stage * k_.pace) + o.slot)) <|
 br (((((decide (o.slot < 0)) || (decide (o.slot ≥ k_.pace))) || (decide (o.stage < 0))) || (decide (o.stage ≥ k_.stages))) || (decide (((o.stage * k_.pace) + o.slot) > 1000))) (
 some false) (
 bd (roundelayref5_Uses_m o.op) fun x11 =>
 br ((((((((decide (o.dest < 0)) || (decide (o.dest ≥ t.regs))) || (decide (o.a < 0))) || (decide (o.b < 0))) || (decide (o.a ≥ t.regs))) || (decide (o.b ≥ t.regs))) || ((decide (x11 < 1)) && (o.a != 0))) || ((decide (x11 < 2)) && (o.b != 0))) (
 some false) (
 bd (roundelayref2_May_m (Lp.mk logs [(Stm.mk 2 (Rf.mk 0 0) (Rf.mk 0 0) 0 0 0 0), (Stm.mk o.op (Rf.mk 0 0) (Rf.mk 0 0) o.ar o.sp o.pl o.n)] [])) fun x19 =>
 some x19))

noncomputable def roundelayref5_May_L2 (k_ : Krn) (i7_2 : Int) (x39 : Int) : (Int × Int) → Option (Stp (Int × Int) (Empty)) := fun (many9_3, j10_3) =>
 br (decide (j10_3 < (ln k_.ops))) (
 ck (IX j10_3 (ln k_.ops)) <|
 ck (IX i7_2 (ln k_.ops)) <|
 ck (((ele k_.ops j10_3).slot == (ele k_.ops i7_2).slot) = true → IX j10_3 (ln k_.ops)) <|
 bdG ((ele k_.ops j10_3).slot == (ele k_.ops i7_2).slot) (roundelayref1_Class_m ((ele k_.ops j10_3).op)) fun x61 =>
 br (((ele k_.ops j10_3).slot == (ele k_.ops i7_2).slot) && (x61 == x39)) (
 ck (IR (many9_3 + 1)) <|
 ck (IR (j10_3 + 1)) <|
 some (.next ((many9_3 + 1), (j10_3 + 1)))) (
 ck (IR (j10_3 + 1)) <|
 some (.next (many9_3, (j10_3 + 1))))) (
 some (.brk (many9_3, j10_3)))
noncomputable def roundelayref5_May_L0 (t : Tgt) (k_ : Krn) (logs : List Int) : Int → Option (Stp (Int) (Bool)) := fun i7_2 =>
 br (decide (i7_2 < (ln k_.ops))) (
 ck (IX i7_2 (ln k_.ops)) <|
 bd (roundelayref5_one_m t k_ (ele k_.ops i7_2) logs) fun x29 =>
 br (!x29) (
 some (.ret false)) (
 ck (IX i7_2 (ln k_.ops)) <|
 bd (roundelayref1_Class_m ((ele k_.ops i7_2).op)) fun x39 =>
 bd (lp (roundelayref5_May_L2 k_ i7_2 x39) (0, 0)) fun o42 => o42.on (fun (many9_3, j10_3) =>
 ck (IX x39 3) <|
 br (decide (many9_3 > (sel3 t.u0 t.u1 t.u2 x39))) (
 some (.ret false)) (
 ck (IR (i7_2 + 1)) <|
 some (.next (i7_2 + 1)))) (fun r => r.elim))) (
 some (.brk i7_2))
noncomputable def roundelayref5_May_m (t : Tgt) (k_ : Krn) (logs : List Int) : Option (Bool) :=
 bd (roundelayref4_May_m t) fun x3 =>
 bdG (!(!x3)) (roundelayref2_Within_m k_.pace 1 200) fun x6 =>
 bdG (!((!x3) || (!x6))) (roundelayref2_Within_m k_.stages 1 1001) fun x9 =>
 bdG (!(((!x3) || (!x6)) || (!x9))) (roundelayref2_Within_m (ln k_.ops) 1 16) fun x12 =>
 br ((((!x3) || (!x6)) || (!x9)) || (!x12)) (
 some false) (
 bd (lp (roundelayref5_May_L0 t k_ logs) 0) fun o18 => o18.on (fun i7_2 =>
 some true) (fun r => some r))

noncomputable def roundelayref10_Layout_L2 (order : List Int) (s12_4 : Int) : Int → Option (Stp (Int) (List Off × Bool)) := fun i13_5 =>
 br (decide (i13_5 < s12_4)) (
 ck (IX i13_5 (ln order)) <|
 ck (IX s12_4 (ln order)) <|
 br ((ele order i13_5) == (ele order s12_4)) (
 some (.ret ([], false))) (
 ck (IR (i13_5 + 1)) <|
 some (.next (i13_5 + 1)))) (
 some (.brk i13_5))
noncomputable def roundelayref10_Layout_L0 (l : Lp) (t : Tgt) (k_ : Krn) (order : List Int) : ((List Off) × Int) → Option (Stp ((List Off) × Int) (List Off × Bool)) := fun (v13_4, s12_4) =>
 br (decide (s12_4 < (ln l.body))) (
 ck (IX s12_4 (ln order)) <|
 ck ((!(decide ((ele order s12_4) < 0))) = true → IX s12_4 (ln order)) <|
 br ((decide ((ele order s12_4) < 0)) || (decide ((ele order s12_4) ≥ (ln l.body)))) (
 some (.ret ([], false))) (
 bd (lp (roundelayref10_Layout_L2 order s12_4) 0) fun o32 => o32.on (fun i13_5 =>
 ck (IX s12_4 (ln order)) <|
 ck (IX (ele order s12_4) (ln k_.ops)) <|
 ck (IX s12_4 (ln l.body)) <|
 br ((((((ele k_.ops (ele order s12_4)).op != (ele l.body s12_4).op) || ((ele k_.ops (ele order s12_4)).ar != (ele l.body s12_4).ar)) || ((ele k_.ops (ele order s12_4)).sp != (ele l.body s12_4).sp)) || ((ele k_.ops (ele order s12_4)).pl != (ele l.body s12_4).pl)) || ((ele k_.ops (ele order s12_4)).n != (ele l.body s12_4).n)) (
 some (.ret ([], false))) (
 ck (IR (k_.pace * (ele k_.ops (ele order s12_4)).stage)) <|
 ck (IR ((ele k_.ops (ele order s12_4)).slot + (k_.pace * (ele k_.ops (ele order s12_4)).stage))) <|
 bd (roundelayref4_Wait_m t ((ele k_.ops (ele order s12_4)).op)) fun x58 =>
 ck (IR (((ele k_.ops (ele order s12_4)).slot + (k_.pace * (ele k_.ops (ele order s12_4)).stage)) + x58)) <|
 ck (IR ((ele k_.ops (ele order s12_4)).dest + (ele k_.ops (ele order s12_4)).stage)) <|
 ck (AL (v13_4 ++ [(Off.mk ((ele k_.ops (ele order s12_4)).slot + (k_.pace * (ele k_.ops (ele order s12_4)).stage)) (((ele k_.ops (ele order s12_4)).slot + (k_.pace * (ele k_.ops (ele order s12_4)).stage)) + x58) ((ele k_.ops (ele order s12_4)).dest + (ele k_.ops (ele order s12_4)).stage))]).length 24) <|
 ck (IR (s12_4 + 1)) <|
 some (.next ((v13_4 ++ [(Off.mk ((ele k_.ops (ele order s12_4)).slot + (k_.pace * (ele k_.ops (ele order s12_4)).stage)) (((ele k_.ops (ele order s12_4)).slot + (k_.pace * (ele k_.ops (ele order s12_4)).stage)) + x58) ((ele k_.ops (ele order s12_4)).dest + (ele k_.ops (ele order s12_4)).stage))]), (s12_4 + 1))))) (fun r => some (.ret r)))) (
 some (.brk (v13_4, s12_4)))
noncomputable def roundelayref10_Layout_m (l : Lp) (t : Tgt) (k_ : Krn) (order : List Int) : Option (List Off × Bool) :=
 bd (roundelayref6_May_m l t) fun x4 =>
 bdG (!(!x4)) (roundelayref5_May_m t k_ l.logs) fun x7 =>
 br ((((!x4) || (!x7)) || ((ln k_.ops) != (ln l.body))) || ((ln order) != (ln l.body))) (
 some ([], false)) (
 bd (lp (roundelayref10_Layout_L0 l t k_ order) ([], 0)) fun o14 => o14.on (fun (v13_4, s12_4) =>
 some (v13_4, true)) (fun r => some r))

noncomputable def roundelayref10_Far_L2 (a : Int) (x13 : List Rf) : (Int × Int) → Option (Stp (Int × Int) (Empty)) := fun (far5_4, k8_4) =>
 br (decide (k8_4 < (ln x13))) (
 ck (IX k8_4 (ln x13)) <|
 ck (((ele x13 k8_4).st == a) = true → IX k8_4 (ln x13)) <|
 br (((ele x13 k8_4).st == a) && (decide ((ele x13 k8_4).bk > far5_4))) (
 ck (IX k8_4 (ln x13)) <|
 ck (IR (k8_4 + 1)) <|
 some (.next ((ele x13 k8_4).bk, (k8_4 + 1)))) (
 ck (IR (k8_4 + 1)) <|
 some (.next (far5_4, (k8_4 + 1))))) (
 some (.brk (far5_4, k8_4)))
noncomputable def roundelayref10_Far_L0 (l : Lp) (a : Int) : (Int × Int) → Option (Stp (Int × Int) (Empty)) := fun (far5_3, i6_3) =>
 br (decide (i6_3 < (ln l.body))) (
 ck (IX i6_3 (ln l.body)) <|
 bd (roundelayref2_Uses_m (ele l.body i6_3)) fun x13 =>
 bd (lp (roundelayref10_Far_L2 a x13) (far5_3, 0)) fun o17 => o17.on (fun (far5_4, k8_4) =>
 ck (IR (i6_3 + 1)) <|
 some (.next (far5_4, (i6_3 + 1)))) (fun r => r.elim)) (
 some (.brk (far5_3, i6_3)))
noncomputable def roundelayref10_Far_m (l : Lp) (a : Int) : Option (Int) :=
 bd (lp (roundelayref10_Far_L0 l a) (0, 0)) fun o2 => o2.on (fun (far5_3, i6_3) =>
 some far5_3) (fun r => r.elim)

noncomputable def roundelayref10_kept_L2 (of : List Off) (pace : Int) (regs : Int) (r_ : Rf) (u : Int) (m12_2 : Int) : Int → Option (Stp (Int) (Bool)) := fun j13_3 =>
 br (decide (j13_3 ≤ 4100)) (
 ck (IX m12_2 (ln of)) <|
 ck (IR (j13_3 * pace)) <|
 ck (IR ((ele of m12_2).ready + (j13_3 * pace))) <|
 br ((!(((decide (((ele of m12_2).ready + (j13_3 * pace)) ≥ (ele of r_.st).ready)) && (decide (((ele of m12_2).ready + (j13_3 * pace)) ≤ u))) || (((decide (r_.bk > 0)) && (decide (j13_3 > 0))) && (decide (((ele of m12_2).ready + (j13_3 * pace)) ≤ u))))) || ((m12_2 == r_.st) && (j13_3 == 0))) (
 ck (IR (j13_3 + 1)) <|
 some (.next (j13_3 + 1))) (
 ck (IX m12_2 (ln of)) <|
 ck (IR ((ele of m12_2).place + j13_3)) <|
 ck (IR (((ele of m12_2).place + j13_3) - (ele of r_.st).place)) <|
 bd (roundelayref1_Rest_m (((ele of m12_2).place + j13_3) - (ele of r_.st).place) regs) fun x42 =>
 br (x42 == 0) (
 some (.ret false)) (
 ck (IR (j13_3 + 1)) <|
 some (.next (j13_3 + 1))))) (
 some (.brk j13_3))
noncomputable def roundelayref10_kept_L0 (of : List Off) (pace : Int) (regs : Int) (r_ : Rf) (u : Int) : Int → Option (Stp (Int) (Bool)) := fun m12_2 =>
 br (decide (m12_2 < (ln of))) (
 bd (lp (roundelayref10_kept_L2 of pace regs r_ u m12_2) (-4100)) fun o14 => o14.on (fun j13_3 =>
 ck (IR (m12_2 + 1)) <|
 some (.next (m12_2 + 1))) (fun r => some (.ret r))) (
 some (.brk m12_2))
noncomputable def roundelayref10_kept_m (of : List Off) (pace : Int) (regs : Int) (r_ : Rf) (u : Int) : Option (Bool) :=
 ck (IX r_.st (ln of)) <|
 bd (lp (roundelayref10_kept_L0 of pace regs r_ u) 0) fun o7 => o7.on (fun m12_2 =>
 some true) (fun r => some r)

noncomputable def roundelayref10_told_L2 (of : List Off) (pace : Int) (regs : Int) (out_ : Int) (m10_2 : Int) : Int → Option (Stp (Int) (Bool)) := fun j11_3 =>
 ck (IX m10_2 (ln of)) <|
 ck (IR (j11_3 * pace)) <|
 ck (IR ((ele of m10_2).ready + (j11_3 * pace))) <|
 br (decide (((ele of m10_2).ready + (j11_3 * pace)) ≥ (ele of out_).ready)) (
 ck (((m10_2 != out_) || (j11_3 != 0)) = true → IX m10_2 (ln of)) <|
 ck (((m10_2 != out_) || (j11_3 != 0)) = true → IR ((ele of m10_2).place + j11_3)) <|
 ck (((m10_2 != out_) || (j11_3 != 0)) = true → IR (((ele of m10_2).place + j11_3) - (ele of out_).place)) <|
 bdG ((m10_2 != out_) || (j11_3 != 0)) (roundelayref1_Rest_m (((ele of m10_2).place + j11_3) - (ele of out_).place) regs) fun x36 =>
 br (((m10_2 != out_) || (j11_3 != 0)) && (x36 == 0)) (
 some (.ret false)) (
 ck (IR (j11_3 - 1)) <|
 some (.next (j11_3 - 1)))) (
 some (.brk j11_3))
noncomputable def roundelayref10_told_L0 (of : List Off) (pace : Int) (regs : Int) (out_ : Int) : Int → Option (Stp (Int) (Bool)) := fun m10_2 =>
 br (decide (m10_2 < (ln of))) (
 bd (lp (roundelayref10_told_L2 of pace regs out_ m10_2) 0) fun o13 => o13.on (fun j11_3 =>
 ck (IR (m10_2 + 1)) <|
 some (.next (m10_2 + 1))) (fun r => some (.ret r))) (
 some (.brk m10_2))
noncomputable def roundelayref10_told_m (of : List Off) (pace : Int) (regs : Int) (out_ : Int) : Option (Bool) :=
 ck (IX out_ (ln of)) <|
 bd (lp (roundelayref10_told_L0 of pace regs out_) 0) fun o6 => o6.on (fun m10_2 =>
 some true) (fun r => some r)

noncomputable def roundelayref10_Takes_L0 (k_ : Krn) (x4 : List Off × Bool) (x11 : List Edg) : Int → Option (Stp (Int) (Bool)) := fun i12_1 =>
 br (decide (i12_1 < (ln x11))) (
 ck (IX i12_1 (ln x11)) <|
 ck (IX ((ele x11 i12_1).to) (ln x4.1)) <|
 ck (IR ((ele x11 i12_1).bk * k_.pace)) <|
 ck (IR ((ele x4.1 ((ele x11 i12_1).to)).time + ((ele x11 i12_1).bk * k_.pace))) <|
 ck (IX ((ele x11 i12_1).fr) (ln x4.1)) <|
 ck (IR ((ele x4.1 ((ele x11 i12_1).fr)).time + (ele x11 i12_1).wt)) <|
 br (decide (((ele x4.1 ((ele x11 i12_1).to)).time + ((ele x11 i12_1).bk * k_.pace)) < ((ele x4.1 ((ele x11 i12_1).fr)).time + (ele x11 i12_1).wt))) (
 some (.ret false)) (
 ck (IR (i12_1 + 1)) <|
 some (.next (i12_1 + 1)))) (
 some (.brk i12_1))
noncomputable def roundelayref10_Takes_L4 (t : Tgt) (k_ : Krn) (order : List Int) (x4 : List Off × Bool) (s15_24 : Int) (x41 : List Rf) : Int → Option (Stp (Int) (Bool)) := fun i18_26 =>
 br (decide (i18_26 < (ln x41))) (
 bd (show Option (Out (Int) (Empty)) from br (i18_26 == 1) (
 some (.go ((ele k_.ops (ele order s15_24)).b))) (
 some (.go ((ele k_.ops (ele order s15_24)).a)))) fun o52 => o52.on (fun name19_27 =>
 ck (IX i18_26 (ln x41)) <|
 ck (IX ((ele x41 i18_26).st) (ln x4.1)) <|
 ck (IX i18_26 (ln x41)) <|
 ck (IR ((ele x4.1 ((ele x41 i18_26).st)).place - (ele x41 i18_26).bk)) <|
 ck (IR (((ele x4.1 ((ele x41 i18_26).st)).place - (ele x41 i18_26).bk) - (ele k_.ops (ele order s15_24)).stage)) <|
 bd (roundelayref1_Rest_m (((ele x4.1 ((ele x41 i18_26).st)).place - (ele x41 i18_26).bk) - (ele k_.ops (ele order s15_24)).stage) t.regs) fun x71 =>
 ck ((!(name19_27 != x71)) = true → IX i18_26 (ln x41)) <|
 ck ((!(name19_27 != x71)) = true → IX s15_24 (ln x4.1)) <|
 ck ((!(name19_27 != x71)) = true → IX i18_26 (ln x41)) <|
 ck ((!(name19_27 != x71)) = true → IR ((ele x41 i18_26).bk * k_.pace)) <|
 ck ((!(name19_27 != x71)) = true → IR ((ele x4.1 s15_24).time + ((ele x41 i18_26).bk * k_.pace))) <|
 bdG (!(name19_27 != x71)) (roundelayref10_kept_m x4.1 k_.pace t.regs (ele x41 i18_26) ((ele x4.1 s15_24).time + ((ele x41 i18_26).bk * k_.pace))) fun x90 =>
 br ((name19_27 != x71) || (!x90)) (
 some (.ret false)) (
 ck (IR (i18_26 + 1)) <|
 some (.next (i18_26 + 1)))) (fun r => r.elim)) (
 some (.brk i18_26))
noncomputable def roundelayref10_Takes_L8 (v20_29 : List Int) (x66 : Int) : Int → Option (Stp (Int) (Bool)) := fun i22_30 =>
 br (decide (i22_30 < (ln v20_29))) (
 ck (IX i22_30 (ln v20_29)) <|
 br ((ele v20_29 i22_30) == x66) (
 some (.ret false)) (
 ck (IR (i22_30 + 1)) <|
 some (.next (i22_30 + 1)))) (
 some (.brk i22_30))
noncomputable def roundelayref10_Takes_L6 (l : Lp) (t : Tgt) (x4 : List Off × Bool) (s15_24 : Int) : ((List Int) × Int) → Option (Stp ((List Int) × Int) (Bool)) := fun (v20_29, q20_29) =>
 bd (roundelayref10_Far_m l s15_24) fun x55 =>
 br (decide (q20_29 ≤ x55)) (
 ck (IX s15_24 (ln x4.1)) <|
 ck (IR ((ele x4.1 s15_24).place - q20_29)) <|
 bd (roundelayref1_Rest_m ((ele x4.1 s15_24).place - q20_29) t.regs) fun x66 =>
 bd (lp (roundelayref10_Takes_L8 v20_29 x66) 0) fun o69 => o69.on (fun i22_30 =>
 ck (AL (v20_29 ++ [x66]).length 8) <|
 ck (IR (q20_29 + 1)) <|
 some (.next ((v20_29 ++ [x66]), (q20_29 + 1)))) (fun r => some (.ret r))) (
 some (.brk (v20_29, q20_29)))
noncomputable def roundelayref10_Takes_L2 (l : Lp) (t : Tgt) (k_ : Krn) (order : List Int) (x4 : List Off × Bool) : ((List Int) × Int) → Option (Stp ((List Int) × Int) (Bool)) := fun (v20_24, s15_24) =>
 br (decide (s15_24 < (ln x4.1))) (
 ck (IX s15_24 (ln order)) <|
 ck (IX (ele order s15_24) (ln k_.ops)) <|
 ck (IX s15_24 (ln l.body)) <|
 bd (roundelayref2_Uses_m (ele l.body s15_24)) fun x41 =>
 bd (lp (roundelayref10_Takes_L4 t k_ order x4 s15_24 x41) 0) fun o45 => o45.on (fun i18_26 =>
 bd (lp (roundelayref10_Takes_L6 l t x4 s15_24) (v20_24, 1)) fun o50 => o50.on (fun (v20_29, q20_29) =>
 ck (IR (s15_24 + 1)) <|
 some (.next (v20_29, (s15_24 + 1)))) (fun r => some (.ret r))) (fun r => some (.ret r))) (
 some (.brk (v20_24, s15_24)))
noncomputable def roundelayref10_Takes_L10 (l : Lp) (t : Tgt) (k_ : Krn) (x4 : List Off × Bool) : Int → Option (Stp (Int) (Bool)) := fun i23_25 =>
 br (decide (i23_25 < (ln l.outs))) (
 ck (IX i23_25 (ln l.outs)) <|
 bd (roundelayref10_told_m x4.1 k_.pace t.regs (ele l.outs i23_25)) fun x37 =>
 br (!x37) (
 some (.ret false)) (
 ck (IR (i23_25 + 1)) <|
 some (.next (i23_25 + 1)))) (
 some (.brk i23_25))
noncomputable def roundelayref10_Takes_m (l : Lp) (t : Tgt) (k_ : Krn) (order : List Int) : Option (Bool) :=
 bd (roundelayref10_Layout_m l t k_ order) fun x4 =>
 br (!x4.2) (
 some false) (
 bd (roundelayref6_Edges_m l t) fun x11 =>
 bd (lp (roundelayref10_Takes_L0 k_ x4 x11) 0) fun o15 => o15.on (fun i12_1 =>
 bd (lp (roundelayref10_Takes_L2 l t k_ order x4) ([], 0)) fun o21 => o21.on (fun (v20_24, s15_24) =>
 bd (lp (roundelayref10_Takes_L10 l t k_ x4) 0) fun o26 => o26.on (fun i23_25 =>
 some true) (fun r => some r)) (fun r => some r)) (fun r => some r))
end Go.Rd
end

section
namespace Go.Rd
set_option linter.unusedVariables false
def usesN (op : Int) : Int := if op = 4 then 1 else if op > 10 then 2 else 0
def turnS : Stm := ⟨2, ⟨0, 0⟩, ⟨0, 0⟩, 0, 0, 0, 0⟩
def stmO (o : Opr) : Stm := ⟨o.op, ⟨0, 0⟩, ⟨0, 0⟩, o.ar, o.sp, o.pl, o.n⟩
def lpO (logs : List Int) (o : Opr) : Lp := ⟨logs, [turnS, stmO o], []⟩
def SlotP (k : Krn) (o : Opr) : Prop := 0 ≤ o.slot ∧ o.slot < k.pace ∧ 0 ≤ o.stage ∧ o.stage < k.stages ∧ o.stage * k.pace + o.slot ≤ 1000
def NamesP (t : Tgt) (o : Opr) : Prop := 0 ≤ o.dest ∧ o.dest < t.regs ∧ 0 ≤ o.a ∧ o.a < t.regs ∧ 0 ≤ o.b ∧ o.b < t.regs ∧ (usesN o.op < 1 → o.a = 0) ∧ (usesN o.op < 2 → o.b = 0)
def OneP (t : Tgt) (k : Krn) (o : Opr) (logs : List Int) : Prop := SlotP k o ∧ NamesP t o ∧ LoopOk (lpO logs o)
theorem rUses_s (op : Int) : roundelayref5_Uses_m op = some (usesN op) := by
  unfold roundelayref5_Uses_m usesN
  by_cases h : op = 4
  · simp [h, br]
  · by_cases h2 : op > 10
    · have h3 : (op == 4) = false := by simp [h]
      simp [h, h2, h3, br]
    · have h3 : (op == 4) = false := by simp [h]
      simp [h, h2, h3, br]
theorem one_s {t : Tgt} {k : Krn} {o : Opr} {logs : List Int} (hp : 1 ≤ k.pace ∧ k.pace ≤ 200) (hs : 1 ≤ k.stages ∧ k.stages ≤ 1001) (hf : (lpO logs o).Fine) : roundelayref5_one_m t k o logs = some (tb (OneP t k o logs)) := by
  unfold roundelayref5_one_m
  have hir : (!((((decide (o.slot < 0)) || (decide (o.slot ≥ k.pace))) || (decide (o.stage < 0))) || (decide (o.stage ≥ k.stages)))) = true → (0 ≤ o.stage * k.pace ∧ o.stage * k.pace ≤ 1001 * 200 ∧ 0 ≤ o.slot ∧ o.slot < 200) := fun h => by
    simp only [Bool.not_eq_true', Bool.or_eq_false_iff, decide_eq_false_iff_not] at h
    have m1 := mul_le (a := o.stage) (A := 1001) (b := k.pace) (B := 200) (by omega) (by omega) (by omega) (by omega)
    have m2 := Int.mul_nonneg (show 0 ≤ o.stage by omega) (show 0 ≤ k.pace by omega)
    omega
  rw [ck_imp (fun h => by have := hir h; exact ⟨by omega, by omega⟩), ck_imp (fun h => by have := hir h; exact ⟨by omega, by omega⟩)]
  have hb : (((((decide (o.slot < 0)) || (decide (o.slot ≥ k.pace))) || (decide (o.stage < 0))) || (decide (o.stage ≥ k.stages))) || (decide (((o.stage * k.pace) + o.slot) > 1000))) = !tb (SlotP k o) := by
    rw [show tb (SlotP k o) = !(((((decide (o.slot < 0)) || (decide (o.slot ≥ k.pace))) || (decide (o.stage < 0))) || (decide (o.stage ≥ k.stages))) || (decide (((o.stage * k.pace) + o.slot) > 1000))) from (tb_eq (by unfold SlotP; simp [and_assoc])).symm, Bool.not_not]
  rw [hb, rUses_s, bd_ret]
  have hc : ((((((((decide (o.dest < 0)) || (decide (o.dest ≥ t.regs))) || (decide (o.a < 0))) || (decide (o.b < 0))) || (decide (o.a ≥ t.regs))) || (decide (o.b ≥ t.regs))) || ((decide (usesN o.op < 1)) && (o.a != 0))) || ((decide (usesN o.op < 2)) && (o.b != 0))) = !tb (NamesP t o) := by
    rw [show tb (NamesP t o) = !((((((((decide (o.dest < 0)) || (decide (o.dest ≥ t.regs))) || (decide (o.a < 0))) || (decide (o.b < 0))) || (decide (o.a ≥ t.regs))) || (decide (o.b ≥ t.regs))) || ((decide (usesN o.op < 1)) && (o.a != 0))) || ((decide (usesN o.op < 2)) && (o.b != 0))) from (tb_eq (by
      unfold NamesP
      simp only [Bool.not_eq_true', Bool.or_eq_false_iff, decide_eq_false_iff_not, Bool.and_eq_false_iff, bne_eq_false_iff_eq, Int.not_lt, Int.not_le, ge_iff_le]
      constructor
      · rintro ⟨⟨⟨⟨⟨⟨⟨a1, a2⟩, a3⟩, a4⟩, a5⟩, a6⟩, a7⟩, a8⟩
        exact ⟨a1, a2, a3, a5, a4, a6, fun h => a7.resolve_left (by omega), fun h => a8.resolve_left (by omega)⟩
      · rintro ⟨a1, a2, a3, a5, a4, a6, a7, a8⟩
        refine ⟨⟨⟨⟨⟨⟨⟨a1, a2⟩, a3⟩, a4⟩, a5⟩, a6⟩, ?_⟩, ?_⟩
        · by_cases h : usesN o.op < 1
          · exact .inr (a7 h)
          · exact .inl (by omega)
        · by_cases h : usesN o.op < 2
          · exact .inr (a8 h)
          · exact .inl (by omega))).symm, Bool.not_not]
  rw [hc, show roundelayref2_May_m (Lp.mk logs [(Stm.mk 2 (Rf.mk 0 0) (Rf.mk 0 0) 0 0 0 0), (Stm.mk o.op (Rf.mk 0 0) (Rf.mk 0 0) o.ar o.sp o.pl o.n)] []) = _ from ref_May_s (lpO logs o) hf, bd_ret]
  by_cases h1 : SlotP k o
  · by_cases h2 : NamesP t o
    · rw [tb_t h1, tb_t h2]
      show some _ = some _
      congr 1
      exact tb_congr ⟨fun h => ⟨h1, h2, h⟩, fun h => h.2.2⟩
    · rw [tb_t h1, tb_f h2, tb_f fun h : OneP t k o logs => h2 h.2.1]; rfl
  · rw [tb_f h1, tb_f fun h : OneP t k o logs => h1 h.1]; rfl
def keyO (k : Krn) (i : Nat) : Int × Int := ((ele k.ops (i : Int)).slot, clsV (ele k.ops (i : Int)).op)
def cntO (k : Krn) (n : Nat) (κ : Int × Int) : Nat := (List.range n).countP fun j => decide (keyO k j = κ)
theorem cntO_succ (k : Krn) (n : Nat) (κ : Int × Int) : cntO k (n + 1) κ = cntO k n κ + if keyO k n = κ then 1 else 0 := by
  unfold cntO
  rw [List.range_succ, List.countP_append, List.countP_singleton]
  by_cases h : keyO k n = κ <;> simp [h]
theorem cntO_le (k : Krn) (κ : Int × Int) : ∀ n, cntO k n κ ≤ n
  | 0 => Nat.le_refl _
  | n + 1 => by rw [cntO_succ]; have := cntO_le k κ n; split <;> omega
structure KMayP (t : Tgt) (k : Krn) (logs : List Int) : Prop where
  tgt : tgtOk t = true
  pace : 1 ≤ k.pace ∧ k.pace ≤ 200
  stages : 1 ≤ k.stages ∧ k.stages ≤ 1001
  n : 1 ≤ k.ops.length ∧ k.ops.length ≤ 16
  one : ∀ i : Nat, i < k.ops.length → OneP t k (ele k.ops (i : Int)) logs
  units : ∀ i : Nat, i < k.ops.length → (cntO k k.ops.length (keyO k i) : Int) ≤ unitsV t (keyO k i).2
theorem within_s (n a b : Int) : roundelayref2_Within_m n a b = some (tb (a ≤ n ∧ n ≤ b)) := by
  unfold roundelayref2_Within_m
  congr 1
  exact tb_eq (by simp)
theorem kMay_s {t : Tgt} {k : Krn} {logs : List Int} (hf : ∀ i : Nat, i < k.ops.length → (lpO logs (ele k.ops (i : Int))).Fine) : roundelayref5_May_m t k logs = some (tb (KMayP t k logs)) := by
  unfold roundelayref5_May_m
  rw [ref_tMay_s, bd_ret, within_s, bdG_some', within_s, bdG_some', within_s, bdG_some']
  by_cases h : (tgtOk t = true ∧ (1 ≤ k.pace ∧ k.pace ≤ 200)) ∧ (1 ≤ k.stages ∧ k.stages ≤ 1001) ∧ (1 ≤ k.ops.length ∧ k.ops.length ≤ 16)
  · obtain ⟨⟨h1, h2⟩, h3, h4⟩ := h
    rw [h1, tb_t h2, tb_t h3, tb_t (p := 1 ≤ ln k.ops ∧ ln k.ops ≤ 16) ⟨by unfold ln; omega, by unfold ln; omega⟩]
    simp only [Bool.not_true, Bool.or_self, Bool.not_false, if_true, br_false]
    have X := lp_det2 (f := roundelayref5_May_L0 t k logs) (ρ := Bool) (fun i => (i : Int)) k.ops.length (fun i => OneP t k (ele k.ops (i : Int)) logs ∧ (cntO k k.ops.length (keyO k i) : Int) ≤ unitsV t (keyO k i).2) (fun _ => false) (fun i hi _ => by
      have hc := clsV_range (ele k.ops (i : Int)).op
      have Y := lp_det (f := roundelayref5_May_L2 k i (clsV (ele k.ops (i : Int)).op)) (ρ := Empty) (fun j => ((cntO k j (keyO k i) : Int), (j : Int))) k.ops.length (fun j hj => by
        have hcl := cntO_le k (keyO k i) j
        unfold roundelayref5_May_L2
        simp only
        rw [br_T (by unfold ln; omega), ck_IX (by omega) (by unfold ln; omega), ck_IX (by omega) (by unfold ln; omega), ck_imp (fun _ => ⟨by omega, by unfold ln; omega⟩), ref_Class_s, bdG_any, cntO_succ]
        have hb : (((ele k.ops (j : Int)).slot == (ele k.ops (i : Int)).slot) && ((if ((ele k.ops (j : Int)).slot == (ele k.ops (i : Int)).slot) = true then clsV (ele k.ops (j : Int)).op else default) == clsV (ele k.ops (i : Int)).op)) = tb (keyO k j = keyO k i) := by
          refine tb_eq ?_
          unfold keyO
          by_cases hq : (ele k.ops (j : Int)).slot = (ele k.ops (i : Int)).slot
          · simp [hq]
          · simp [hq]
        rw [hb]
        by_cases hq : keyO k j = keyO k i
        · rw [tb_t hq, br_true, ck_IR (by omega) (by omega), ck_IR (by omega) (by omega), if_pos hq]; rfl
        · rw [tb_f hq, br_false, ck_IR (by omega) (by omega), if_neg hq]; rfl) (by unfold roundelayref5_May_L2; exact br_F (by unfold ln; omega))
      unfold roundelayref5_May_L0
      rw [br_T (by unfold ln; omega), ck_IX (by omega) (by unfold ln; omega), one_s h2 h3 (hf i hi), bd_ret]
      by_cases h5 : OneP t k (ele k.ops (i : Int)) logs
      · rw [tb_t h5, Bool.not_true, br_false, ck_IX (by omega) (by unfold ln; omega), ref_Class_s, bd_ret, show lp (roundelayref5_May_L2 k i (clsV (ele k.ops (i : Int)).op)) (0, 0) = _ from Y, bd_ret, Out.on_go]
        simp only
        rw [ck_IX hc.1 hc.2]
        have he : sel3 t.u0 t.u1 t.u2 (clsV (ele k.ops (i : Int)).op) = unitsV t (keyO k i).2 := rfl
        rw [he]
        exact ⟨fun h => by rw [br_F (by omega), ck_IR (by omega) (by omega)]; rfl, fun h => by rw [br_T (by have : ¬ (cntO k k.ops.length (keyO k i) : Int) ≤ unitsV t (keyO k i).2 := fun h' => h ⟨h5, h'⟩; omega)]⟩
      · rw [tb_f h5]
        exact ⟨fun h => absurd h.1 h5, fun _ => rfl⟩) (by unfold roundelayref5_May_L0; exact br_F (by unfold ln; omega))
    rcases X with ⟨q1, e⟩ | ⟨i, q1, q2, _, e⟩
    · rw [show lp (roundelayref5_May_L0 t k logs) 0 = _ from e, bd_ret, Out.on_go, tb_t (p := KMayP t k logs) ⟨h1, h2, h3, h4, fun i hi => (q1 i hi).1, fun i hi => (q1 i hi).2⟩]
    · rw [show lp (roundelayref5_May_L0 t k logs) 0 = _ from e, bd_ret, Out.on_ret, tb_f fun h : KMayP t k logs => q2 ⟨h.one i q1, h.units i q1⟩]
  · rw [tb_f fun hk : KMayP t k logs => h ⟨⟨hk.tgt, hk.pace⟩, hk.stages, hk.n⟩]
    by_cases h1 : tgtOk t = true
    · by_cases h2 : 1 ≤ k.pace ∧ k.pace ≤ 200
      · by_cases h3 : 1 ≤ k.stages ∧ k.stages ≤ 1001
        · have h4 : ¬ (1 ≤ ln k.ops ∧ ln k.ops ≤ 16) := fun hh => h ⟨⟨h1, h2⟩, h3, by unfold ln at hh; omega⟩
          rw [h1, tb_t h2, tb_t h3, tb_f h4]; rfl
        · rw [h1, tb_t h2, tb_f h3]; rfl
      · rw [h1, tb_f h2]; rfl
    · rw [show tgtOk t = false from by cases hh : tgtOk t with | true => exact absurd hh h1 | false => rfl]; rfl
end Go.Rd
end

section
namespace Go.Rd
set_option linter.unusedVariables false
def regF (y : LayD) (a : Int) (q : Nat) : Int := (ele y.places a - q - 1) % y.regs
def frA (y : LayD) (a : Int) (n : Nat) : List Int := (List.range n).map (regF y a)
def fregs (y : LayD) (L : List Int) : List Int := L.flatMap fun a => frA y a (farV y.body a).toNat
def FirstsP (y : LayD) (L : List Int) : Prop := (fregs y L).Nodup
theorem nodup_snoc {l : List Int} {x : Int} : (l ++ [x]).Nodup ↔ l.Nodup ∧ x ∉ l := by
  rw [List.nodup_append]
  constructor
  · rintro ⟨h1, _, h3⟩
    exact ⟨h1, fun h => h3 x h x (by simp) rfl⟩
  · rintro ⟨h1, h2⟩
    exact ⟨h1, by simp, fun a ha b hb e => by
      rw [List.mem_singleton] at hb
      subst hb; subst e
      exact h2 ha⟩
theorem frA_succ (y : LayD) (a : Int) (n : Nat) : frA y a (n + 1) = frA y a n ++ [regF y a n] := rm_succ.symm
theorem nodup_frA {y : LayD} {a : Int} {F : List Int} : ∀ n, (F ++ frA y a n).Nodup ↔ F.Nodup ∧ ∀ i, i < n → regF y a i ∉ F ++ frA y a i
  | 0 => by
    show (F ++ []).Nodup ↔ _
    rw [List.append_nil]
    exact ⟨fun h => ⟨h, fun i hi => absurd hi (Nat.not_lt_zero _)⟩, fun h => h.1⟩
  | n + 1 => by
    rw [frA_succ, ← List.append_assoc, nodup_snoc, nodup_frA n]
    constructor
    · rintro ⟨⟨h1, h2⟩, h3⟩
      refine ⟨h1, fun i hi => ?_⟩
      by_cases e : i = n
      · subst e; exact h3
      · exact h2 i (by omega)
    · rintro ⟨h1, h2⟩
      exact ⟨⟨h1, fun i hi => h2 i (by omega)⟩, h2 n (by omega)⟩
theorem LayD.Ok.bk {y : LayD} (hy : y.Ok) : ∀ i : Nat, i < y.body.length → ∀ r ∈ usesL (ele y.body (i : Int)), 0 ≤ r.bk ∧ r.bk ≤ 3 := fun i hi r hr => (hy.us i hi r hr).2.2
theorem far_bd {y : LayD} (hy : y.Ok) (a : Int) : 0 ≤ farV y.body a ∧ farV y.body a ≤ 3 := farN_bd hy.bk a _ (Nat.le_refl _)
theorem first_in {y : LayD} (hy : y.Ok) {L : List Int} {i : Nat} (hi : i < L.length) (hL : ∀ x ∈ L, 0 ≤ x ∧ x < y.body.length) {n : Nat} (hn : n ≤ 3) {F : List Int} {m : List (Int × Bool)} (hm : ∀ v, mget m v false = true ↔ v ∈ F) :
    ((∀ q, q < n → regF y (ele L (i : Int)) q ∉ F ++ frA y (ele L (i : Int)) q) ∧ ∃ m', lp (keep_Layout_Firsts_L2 y.regs y.places L i n) (m, 0) = some (.go (m', (n : Int))) ∧ ∀ v, mget m' v false = true ↔ v ∈ F ++ frA y (ele L (i : Int)) n) ∨ (¬ (∀ q, q < n → regF y (ele L (i : Int)) q ∉ F ++ frA y (ele L (i : Int)) q) ∧ lp (keep_Layout_Firsts_L2 y.regs y.places L i n) (m, 0) = some (.ret false)) := by
  have hR := hy.regs
  have ha := hL _ (ele_mem' hi)
  obtain ⟨a, haa⟩ := Int.eq_ofNat_of_zero_le ha.1
  have hp := hy.pl a (by omega)
  have hlp := hy.lp
  rw [← haa] at hp
  refine lp_chk (f := keep_Layout_Firsts_L2 y.regs y.places L i n) (n := n) (r0 := false) (fun q => regF y (ele L (i : Int)) q ∉ F ++ frA y (ele L (i : Int)) q) (fun q m => ∀ v, mget m v false = true ↔ v ∈ F ++ frA y (ele L (i : Int)) q) (fun q g hq hg => ?_) (fun g => by unfold keep_Layout_Firsts_L2; exact br_F (by omega)) m (fun v => by rw [hm]; show _ ↔ v ∈ F ++ []; rw [List.append_nil])
  have ht := tmod_lt' (ele y.places (ele L (i : Int)) - (q : Int) - 1) (show 0 < y.regs by omega)
  have he : (ele y.places (ele L (i : Int)) - (q : Int) - 1) % y.regs = regF y (ele L (i : Int)) q := rfl
  unfold keep_Layout_Firsts_L2
  simp only
  rw [br_T (by omega), ck_IX (by omega) (by unfold ln; omega), ck_IR (by omega) (by omega), ck_IR (by omega) (by omega), ck_yes (by omega), ck_IR (by omega) (by omega), ck_yes (by omega), tm2 hR.1 hR.2, he]
  by_cases h : regF y (ele L (i : Int)) q ∈ F ++ frA y (ele L (i : Int)) q
  · rw [(hg _).2 h, br_true]
    exact .inr ⟨fun h' => h' h, rfl⟩
  · have hf : mget g (regF y (ele L (i : Int)) q) false = false := by
      cases hh : mget g (regF y (ele L (i : Int)) q) false with
      | false => rfl
      | true => exact absurd ((hg _).1 hh) h
    rw [hf, br_false, ck_IR (by omega) (by omega)]
    refine .inl ⟨h, _, rfl, fun v => ?_⟩
    rw [mget_mput, frA_succ, ← List.append_assoc, List.mem_append, List.mem_singleton, ← hg]
    by_cases e : regF y (ele L (i : Int)) q = v
    · rw [if_pos e]; simp [e]
    · rw [if_neg e]
      exact ⟨.inl, fun h => h.resolve_right fun h => e h.symm⟩
theorem fregs_take {y : LayD} {L : List Int} {i : Nat} (hi : i < L.length) : fregs y (L.take (i + 1)) = fregs y (L.take i) ++ frA y (ele L (i : Int)) (farV y.body (ele L (i : Int))).toNat := by
  rw [take_next hi]
  unfold fregs
  rw [List.flatMap_append]
  simp
theorem nodup_take {y : LayD} {L : List Int} : ∀ n, n ≤ L.length → ((fregs y (L.take n)).Nodup ↔ ∀ i, i < n → ∀ q, q < (farV y.body (ele L (i : Int))).toNat → regF y (ele L (i : Int)) q ∉ fregs y (L.take i) ++ frA y (ele L (i : Int)) q)
  | 0, _ => by simp [fregs]
  | n + 1, h => by
    rw [fregs_take (by omega), nodup_frA, nodup_take n (by omega)]
    constructor
    · rintro ⟨h1, h2⟩ i hi
      by_cases e : i = n
      · subst e; exact h2
      · exact h1 i (by omega)
    · intro h1
      exact ⟨fun i hi => h1 i (by omega), h1 n (by omega)⟩
theorem firsts_s {y : LayD} (hy : y.Ok) {L : List Int} (hL : ∀ x ∈ L, 0 ≤ x ∧ x < y.body.length) (hl : L.length ≤ 100000) : keep_Layout_Firsts_m y.logs y.body y.outs y.pace y.regs y.places L = some (tb (FirstsP y L)) := by
  have hn := hy.n
  unfold keep_Layout_Firsts_m
  have X := lp_chk (f := keep_Layout_Firsts_L0 y.logs y.body y.outs y.regs y.places L) (n := L.length) (r0 := false) (fun i => ∀ q, q < (farV y.body (ele L (i : Int))).toNat → regF y (ele L (i : Int)) q ∉ fregs y (L.take i) ++ frA y (ele L (i : Int)) q) (fun i m => ∀ v, mget m v false = true ↔ v ∈ fregs y (L.take i)) (fun i g hi hg => by
    have hf := far_bd hy (ele L (i : Int))
    obtain ⟨n, hn'⟩ := Int.eq_ofNat_of_zero_le hf.1
    unfold keep_Layout_Firsts_L0
    simp only
    rw [br_T (by unfold ln; omega), ck_IX (by omega) (by unfold ln; omega), far_s (l := ⟨y.logs, y.body, y.outs⟩) hn.2 hy.bk, bd_ret, show farV (Lp.mk y.logs y.body y.outs).body (ele L (i : Int)) = farV y.body (ele L (i : Int)) from rfl, hn', Int.toNat_natCast]
    rcases first_in hy hi hL (n := n) (by omega) hg with ⟨h1, m', h2, h3⟩ | ⟨h1, h2⟩
    · refine .inl ⟨h1, m', ?_, fun v => ?_⟩
      · rw [h2, bd_ret, Out.on_go, ck_IR (by omega) (by omega)]
      · rw [h3, fregs_take hi, hn', Int.toNat_natCast]
    · exact .inr ⟨h1, by rw [h2, bd_ret, Out.on_ret]⟩) (fun g => by unfold keep_Layout_Firsts_L0; exact br_F (by unfold ln; omega)) [] (fun v => by simp [fregs, mget_nil])
  have hN := nodup_take (y := y) (L := L) L.length (Nat.le_refl _)
  rw [List.take_length] at hN
  rcases X with ⟨h1, m, e, _⟩ | ⟨h1, e⟩
  · rw [e, bd_ret, Out.on_go, tb_t (p := FirstsP y L) (hN.2 h1)]
  · rw [e, bd_ret, Out.on_ret, tb_f fun h : FirstsP y L => h1 (hN.1 h)]
end Go.Rd
end

section
namespace Go.Rd
set_option linter.unusedVariables false
noncomputable def regs_layout_L0 (l : Lp) (t : Tgt) (p : Pln) : ((List Int) × Int) → Option (Stp ((List Int) × Int) (Empty)) := fun (v12_1, x26_1) =>
 br (decide (x26_1 < (ln l.body))) (
 ck (IX x26_1 (ln l.body)) <|
 ck (IX x26_1 (ln p.times)) <|
 bd (target_Wait_m t ((ele l.body x26_1).op)) fun x29 =>
 ck (IR ((ele p.times x26_1) + x29)) <|
 ck (AL (v12_1 ++ [((ele p.times x26_1) + x29)]).length 8) <|
 ck (IR (x26_1 + 1)) <|
 some (.next ((v12_1 ++ [((ele p.times x26_1) + x29)]), (x26_1 + 1)))) (
 some (.brk (v12_1, x26_1)))
noncomputable def regs_layout_m (l : Lp) (t : Tgt) (p : Pln) : Option ((List Int × List Stm × List Int × Int × Int × List Int × List Int × List Int)) :=
 ck (0 ≤ (ln l.body)) <|
 ck (AL (ln l.body).toNat 8) <|
 bd (lp (regs_layout_L0 l t p) ([], 0)) fun o13 => o13.on (fun (v12_1, x26_1) =>
 some (l.logs, l.body, l.outs, p.pace, t.regs, p.times, v12_1, (List.replicate (ln l.body).toNat (0 : Int)))) (fun r => r.elim)

noncomputable def regs_fine_L0 (y_Loop_Body : List Stm) (y_Loop_Outs : List Int) (y_Pace : Int) (y_Regs : Int) (y_Time : List Int) (y_Ready : List Int) (y_Places : List Int) (k_ : Int) : ((List Int) × Int) → Option (Stp ((List Int) × Int) (Bool)) := fun (v3_1, x9_1) =>
 br (decide (x9_1 < (k_ + 1))) (
 ck (AL (v3_1 ++ [x9_1]).length 8) <|
 bd (keep_Layout_Apart_m y_Loop_Body y_Loop_Outs y_Pace y_Regs y_Time y_Ready y_Places k_ x9_1) fun x16 =>
 bdG (!(!x16)) (keep_Layout_Apart_m y_Loop_Body y_Loop_Outs y_Pace y_Regs y_Time y_Ready y_Places x9_1 k_) fun x19 =>
 br ((!x16) || (!x19)) (
 some (.ret false)) (
 ck (IR (x9_1 + 1)) <|
 some (.next ((v3_1 ++ [x9_1]), (x9_1 + 1))))) (
 some (.brk (v3_1, x9_1)))
noncomputable def regs_fine_m (y_Loop_Logs : List Int) (y_Loop_Body : List Stm) (y_Loop_Outs : List Int) (y_Pace : Int) (y_Regs : Int) (y_Time : List Int) (y_Ready : List Int) (y_Places : List Int) (k_ : Int) : Option (Bool) :=
 ck (IR (k_ + 1)) <|
 bd (lp (regs_fine_L0 y_Loop_Body y_Loop_Outs y_Pace y_Regs y_Time y_Ready y_Places k_) ([], 0)) fun o4 => o4.on (fun (v3_1, x9_1) =>
 bd (keep_Layout_Firsts_m y_Loop_Logs y_Loop_Body y_Loop_Outs y_Pace y_Regs y_Places v3_1) fun x9 =>
 some x9) (fun r => some r)

noncomputable def regs_dests_L0 (y_Pace : Int) (y_Regs : Int) (y_Time : List Int) (y_Places : List Int) : ((List Int) × Int) → Option (Stp ((List Int) × Int) (Empty)) := fun (v1_1, x11_1) =>
 br (decide (x11_1 < (ln y_Places))) (
 ck (IX x11_1 (ln y_Places)) <|
 ck (IX x11_1 (ln y_Time)) <|
 ck (y_Pace ≠ 0) <|
 ck (IR (Int.tdiv (ele y_Time x11_1) y_Pace)) <|
 ck (IR ((ele y_Places x11_1) - (Int.tdiv (ele y_Time x11_1) y_Pace))) <|
 bd (emit_Rest_m ((ele y_Places x11_1) - (Int.tdiv (ele y_Time x11_1) y_Pace)) y_Regs) fun x23 =>
 ck (AL (v1_1 ++ [x23]).length 8) <|
 ck (IR (x11_1 + 1)) <|
 some (.next ((v1_1 ++ [x23]), (x11_1 + 1)))) (
 some (.brk (v1_1, x11_1)))
noncomputable def regs_dests_m (y_Pace : Int) (y_Regs : Int) (y_Time : List Int) (y_Places : List Int) : Option (List Int) :=
 bd (lp (regs_dests_L0 y_Pace y_Regs y_Time y_Places) ([], 0)) fun o2 => o2.on (fun (v1_1, x11_1) =>
 some v1_1) (fun r => r.elim)

noncomputable def regs_first_L2 (y_Loop_Logs : List Int) (y_Loop_Body : List Stm) (y_Loop_Outs : List Int) (y_Pace : Int) (y_Regs : Int) (y_Time : List Int) (y_Ready : List Int) (x10_3 : Int) : (List Int) → Option (Stp ((List Int)) (Bool × List Int)) := fun own0v7_4 =>
 bd (regs_fine_m y_Loop_Logs y_Loop_Body y_Loop_Outs y_Pace y_Regs y_Time y_Ready own0v7_4 x10_3) fun x18 =>
 br (!x18) (
 ck (IX x10_3 (ln own0v7_4)) <|
 ck (IR ((ele own0v7_4 x10_3) + 1)) <|
 br (decide (((ele own0v7_4 x10_3) + 1) ≥ y_Regs)) (
 some (.ret (false, own0v7_4))) (
 ck (IX x10_3 (ln own0v7_4)) <|
 ck (IR ((ele own0v7_4 x10_3) + 1)) <|
 ck (IX x10_3 (ln own0v7_4)) <|
 some (.next (upd own0v7_4 x10_3 ((ele own0v7_4 x10_3) + 1))))) (
 some (.brk own0v7_4))
noncomputable def regs_first_L0 (y_Loop_Logs : List Int) (y_Loop_Body : List Stm) (y_Loop_Outs : List Int) (y_Pace : Int) (y_Regs : Int) (y_Time : List Int) (y_Ready : List Int) : ((List Int) × Int) → Option (Stp ((List Int) × Int) (Bool × List Int)) := fun (own0v7_3, x10_3) =>
 br (decide (x10_3 < (ln y_Loop_Body))) (
 ck (IX x10_3 (ln own0v7_3)) <|
 bd (lp (regs_first_L2 y_Loop_Logs y_Loop_Body y_Loop_Outs y_Pace y_Regs y_Time y_Ready x10_3) (upd own0v7_3 x10_3 0)) fun o13 => o13.on (fun own0v7_4 =>
 ck (IR (x10_3 + 1)) <|
 some (.next (own0v7_4, (x10_3 + 1)))) (fun r => some (.ret r))) (
 some (.brk (own0v7_3, x10_3)))
noncomputable def regs_first_m (y_Loop_Logs : List Int) (y_Loop_Body : List Stm) (y_Loop_Outs : List Int) (y_Pace : Int) (y_Regs : Int) (y_Time : List Int) (y_Ready : List Int) (y_Places : List Int) : Option (Bool × List Int) :=
 bd (lp (regs_first_L0 y_Loop_Logs y_Loop_Body y_Loop_Outs y_Pace y_Regs y_Time y_Ready) (y_Places, 0)) fun o1 => o1.on (fun (own0v7_3, x10_3) =>
 some (true, own0v7_3)) (fun r => some r)

noncomputable def regs_spaced_L0 (y_Loop_Body : List Stm) : ((List Int) × Int) → Option (Stp ((List Int) × Int) (Empty)) := fun (own0v7_1, x11_1) =>
 br (decide (x11_1 < (ln y_Loop_Body))) (
 ck (IR (5 * x11_1)) <|
 ck (IX x11_1 (ln own0v7_1)) <|
 ck (IR (x11_1 + 1)) <|
 some (.next ((upd own0v7_1 x11_1 (5 * x11_1)), (x11_1 + 1)))) (
 some (.brk (own0v7_1, x11_1)))
noncomputable def regs_spaced_L2 (y_Loop_Logs : List Int) (y_Loop_Body : List Stm) (y_Loop_Outs : List Int) (y_Pace : Int) (y_Regs : Int) (y_Time : List Int) (y_Ready : List Int) (own0v7_1 : List Int) : Int → Option (Stp (Int) (Bool × List Int)) := fun x29_2 =>
 br (decide (x29_2 < (ln y_Loop_Body))) (
 bd (regs_fine_m y_Loop_Logs y_Loop_Body y_Loop_Outs y_Pace y_Regs y_Time y_Ready own0v7_1 x29_2) fun x13 =>
 br (!x13) (
 some (.ret (false, own0v7_1))) (
 ck (IR (x29_2 + 1)) <|
 some (.next (x29_2 + 1)))) (
 some (.brk x29_2))
noncomputable def regs_spaced_m (y_Loop_Logs : List Int) (y_Loop_Body : List Stm) (y_Loop_Outs : List Int) (y_Pace : Int) (y_Regs : Int) (y_Time : List Int) (y_Ready : List Int) (y_Places : List Int) : Option (Bool × List Int) :=
 bd (lp (regs_spaced_L0 y_Loop_Body) (y_Places, 0)) fun o1 => o1.on (fun (own0v7_1, x11_1) =>
 bd (lp (regs_spaced_L2 y_Loop_Logs y_Loop_Body y_Loop_Outs y_Pace y_Regs y_Time y_Ready own0v7_1) 0) fun o6 => o6.on (fun x29_2 =>
 some (true, own0v7_1)) (fun r => some r)) (fun r => r.elim)

noncomputable def regs_Make_m (l : Lp) (t : Tgt) (p : Pln) : Option (List Int × Int) :=
 bd (sched_Legal_m l t p) fun x4 =>
 br (!x4) (
 some ([], 2)) (
 bd (regs_layout_m l t p) fun x10 =>
 bd (regs_first_m x10.1 x10.2.1 x10.2.2.1 x10.2.2.2.1 x10.2.2.2.2.1 x10.2.2.2.2.2.1 x10.2.2.2.2.2.2.1 x10.2.2.2.2.2.2.2) fun x16 =>
 br (!x16.1) (
 bd (regs_spaced_m x10.1 x10.2.1 x10.2.2.1 x10.2.2.2.1 x10.2.2.2.2.1 x10.2.2.2.2.2.1 x10.2.2.2.2.2.2.1 x16.2) fun x22 =>
 br (x16.1 || x22.1) (
 bd (regs_dests_m x10.2.2.2.1 x10.2.2.2.2.1 x10.2.2.2.2.2.1 x22.2) fun x30 =>
 some (x30, 0)) (
 some ([], 1))) (
 br (x16.1 || false) (
 bd (regs_dests_m x10.2.2.2.1 x10.2.2.2.2.1 x10.2.2.2.2.2.1 x16.2) fun x40 =>
 some (x40, 0)) (
 some ([], 1))))
end Go.Rd
end

section
namespace Go.Rd
set_option linter.unusedVariables false
def natL (n : Nat) : List Int := (List.range n).map fun i : Nat => (i : Int)
theorem natL_mem {n : Nat} {x : Int} (h : x ∈ natL n) : 0 ≤ x ∧ x < n := by
  unfold natL at h
  rw [List.mem_map] at h
  obtain ⟨i, hi, rfl⟩ := h
  have := List.mem_range.1 hi
  omega
theorem natL_len (n : Nat) : (natL n).length = n := by unfold natL; simp
def LayD.wp (y : LayD) (v : List Int) : LayD := { y with places := v }
def FineP (y : LayD) (k : Nat) : Prop := (∀ m : Nat, m < k + 1 → ApartP y k m ∧ ApartP y m k) ∧ FirstsP y (natL (k + 1))
def AllFine (y : LayD) : Prop := (∀ a m : Nat, a < y.body.length → m < y.body.length → ApartP y a m) ∧ FirstsP y (natL y.body.length)
theorem fine_s {y : LayD} (hy : y.Ok) {k : Nat} (hk : k < y.body.length) : regs_fine_m y.logs y.body y.outs y.pace y.regs y.time y.ready y.places k = some (tb (FineP y k)) := by
  have hn := hy.n
  unfold regs_fine_m
  rw [ck_IR (by omega) (by omega)]
  have X := lp_det2 (f := regs_fine_L0 y.body y.outs y.pace y.regs y.time y.ready y.places k) (ρ := Bool) (fun i => (natL i, (i : Int))) (k + 1) (fun m => ApartP y k m ∧ ApartP y m k) (fun _ => false) (fun i hi _ => by
    unfold regs_fine_L0
    simp only
    have e : natL i ++ [(i : Int)] = natL (i + 1) := rm_succ (g := fun i : Nat => (i : Int))
    rw [br_T (by omega), e, ck_yes (AL8 (by rw [natL_len]; omega)), apart_s hy hk (show i < y.body.length by omega), bd_ret, apart_s hy (show i < y.body.length by omega) hk, bdG_some']
    by_cases h1 : ApartP y k i <;> by_cases h2 : ApartP y i k
    · rw [tb_t h1, tb_t h2]
      exact ⟨fun _ => by rw [show ((!true) || (!(if (!(!true)) = true then true else false))) = false from rfl, br_false, ck_IR (by omega) (by omega)]; rfl, fun h => absurd ⟨h1, h2⟩ h⟩
    · rw [tb_t h1, tb_f h2]
      exact ⟨fun h => absurd h.2 h2, fun _ => rfl⟩
    · rw [tb_f h1]
      exact ⟨fun h => absurd h.1 h1, fun _ => rfl⟩
    · rw [tb_f h1]
      exact ⟨fun h => absurd h.1 h1, fun _ => rfl⟩) (by unfold regs_fine_L0; exact br_F (by omega))
  rcases X with ⟨h1, e⟩ | ⟨i, h1, h2, _, e⟩
  · rw [show lp (regs_fine_L0 y.body y.outs y.pace y.regs y.time y.ready y.places k) ([], 0) = _ from e, bd_ret, Out.on_go]
    simp only
    rw [firsts_s hy (fun x hx => by have := natL_mem hx; omega) (by rw [natL_len]; omega), bd_ret]
    congr 1
    exact tb_congr ⟨fun h => ⟨h1, h⟩, fun h => h.2⟩
  · rw [show lp (regs_fine_L0 y.body y.outs y.pace y.regs y.time y.ready y.places k) ([], 0) = _ from e, bd_ret, Out.on_ret, tb_f fun h : FineP y k => h2 (h.1 i h1)]
structure PlOk (y : LayD) (v : List Int) : Prop where
  len : v.length = y.body.length
  bd : ∀ i : Nat, i < y.body.length → 0 ≤ ele v (i : Int) ∧ ele v (i : Int) ≤ 128
theorem LayD.Ok.wp {y : LayD} (hy : y.Ok) {v : List Int} (hv : PlOk y v) : (y.wp v).Ok :=
  ⟨hy.n, hy.lt, hy.lr, hv.len, hy.lo, hy.pace, hy.regs, hy.tm, hy.rd, fun i hi => by have := hv.bd i hi; exact ⟨by show -100000 ≤ ele v _; omega, by show ele v _ ≤ 100000; omega⟩, hy.us⟩
theorem bad_wp {y : LayD} {v w : List Int} {a m j : Int} (h : BadP (y.wp v) a m j) : BadP (y.wp w) a m j := by
  rcases h with ⟨k, r, h1, h2, h3, h4⟩ | h
  · exact .inl ⟨k, r, h1, h2, h3, h4⟩
  · exact .inr h
theorem apart_congr {y : LayD} {v w : List Int} {a m : Nat} (h1 : ele v (a : Int) = ele w (a : Int)) (h2 : ele v (m : Int) = ele w (m : Int)) (h : ApartP (y.wp v) a m) : ApartP (y.wp w) a m := fun j hj hz hb =>
  h j hj (by show (ele v (m : Int) + j - ele v (a : Int)) % y.regs = 0; rw [h1, h2]; exact hz) (bad_wp hb)
theorem pl_upd {y : LayD} {v : List Int} (hv : PlOk y v) {k : Nat} (hk : k < y.body.length) {c : Int} (h0 : 0 ≤ c) (h1 : c ≤ 128) : PlOk y (upd v k c) := by
  refine ⟨by rw [upd_len]; exact hv.len, fun i hi => ?_⟩
  by_cases e : i = k
  · subst e
    rw [ele_upd ⟨by omega, by unfold ln; have := hv.len; omega⟩]
    exact ⟨h0, h1⟩
  · rw [ele_upd_ne (by omega)]; exact hv.bd i hi
theorem first_one {y : LayD} (hy : y.Ok) {v : List Int} (hv : PlOk y v) {k : Nat} (hk : k < y.body.length) : ∀ (d c : Nat), (c : Int) + d + 1 = y.regs →
    (∃ c' : Nat, c' ≤ 128 ∧ lp (regs_first_L2 y.logs y.body y.outs y.pace y.regs y.time y.ready k) (upd v k (c : Int)) = some (.go (upd v k (c' : Int))) ∧ FineP (y.wp (upd v k (c' : Int))) k) ∨ (∃ v', lp (regs_first_L2 y.logs y.body y.outs y.pace y.regs y.time y.ready k) (upd v k (c : Int)) = some (.ret (false, v')) ∧ PlOk y v')
  | d, c, hd => by
    have hR := hy.regs
    have hp := pl_upd hv hk (c := c) (by omega) (by omega)
    have hix : IX (k : Int) (ln v) := ⟨by omega, by unfold ln; have := hv.len; omega⟩
    have hix2 : IX (k : Int) (ln (upd v k (c : Int))) := ⟨by omega, by unfold ln; rw [upd_len]; have := hv.len; omega⟩
    have hfs : regs_fine_m y.logs y.body y.outs y.pace y.regs y.time y.ready (upd v k (c : Int)) k = some (tb (FineP (y.wp (upd v k (c : Int))) k)) := fine_s (hy.wp hp) hk
    by_cases hf : FineP (y.wp (upd v k (c : Int))) k
    · refine .inl ⟨c, by omega, lp_brk ?_, hf⟩
      unfold regs_first_L2
      rw [hfs, bd_ret, tb_t hf]; rfl
    · match d, hd with
      | 0, hd =>
        refine .inr ⟨upd v k (c : Int), lp_ret ?_, hp⟩
        unfold regs_first_L2
        rw [hfs, bd_ret, tb_f hf, Bool.not_false, br_true, ck_yes hix2, ele_upd hix, ck_IR (by omega) (by omega), br_T (by omega)]
      | d + 1, hd =>
        have hstep : regs_first_L2 y.logs y.body y.outs y.pace y.regs y.time y.ready k (upd v k (c : Int)) = some (.next (upd v k ((c + 1 : Nat) : Int))) := by
          unfold regs_first_L2
          rw [hfs, bd_ret, tb_f hf, Bool.not_false, br_true, ck_yes hix2, ele_upd hix, ck_IR (by omega) (by omega), br_F (by omega), ck_yes hix2, ck_IR (by omega) (by omega), ck_yes hix2, upd_upd]
          rfl
        rcases first_one hy hv hk d (c + 1) (by omega) with ⟨c', q1, q2, q3⟩ | ⟨v', q1, q2⟩
        · exact .inl ⟨c', q1, lp_step hstep q2, q3⟩
        · exact .inr ⟨v', lp_step hstep q1, q2⟩
theorem first_s {y : LayD} (hy : y.Ok) (hpl : PlOk y y.places) : ∃ b v, regs_first_m y.logs y.body y.outs y.pace y.regs y.time y.ready y.places = some (b, v) ∧ PlOk y v ∧ (b = true → AllFine (y.wp v)) := by
  have hn := hy.n
  have hR := hy.regs
  have X := lp_invR (f := regs_first_L0 y.logs y.body y.outs y.pace y.regs y.time y.ready) (n := y.body.length) (fun i v => PlOk y v ∧ (∀ a m : Nat, a < i → m < i → ApartP (y.wp v) a m) ∧ FirstsP (y.wp v) (natL i)) (fun r => r.1 = false ∧ PlOk y r.2) (fun i v hi hg => by
    obtain ⟨q1, q2, q3⟩ := hg
    have hix : IX (i : Int) (ln v) := ⟨by omega, by unfold ln; have := q1.len; omega⟩
    unfold regs_first_L0
    simp only
    rw [br_T (by unfold ln; omega), ck_yes hix]
    rcases first_one hy q1 hi (y.regs - 1).toNat 0 (by omega) with ⟨c', w1, w2, w3⟩ | ⟨v', w1, w2⟩
    · refine .inl ⟨upd v i (c' : Int), ?_, pl_upd q1 hi (by omega) (by omega), fun a m ha hm => ?_, w3.2⟩
      · rw [show lp (regs_first_L2 y.logs y.body y.outs y.pace y.regs y.time y.ready i) (upd v i 0) = _ from w2, bd_ret, Out.on_go, ck_IR (by omega) (by omega)]
      · by_cases e1 : a = i
        · subst e1; exact (w3.1 m hm).1
        · by_cases e2 : m = i
          · subst e2; exact (w3.1 a ha).2
          · exact apart_congr (ele_upd_ne (by omega)).symm (ele_upd_ne (by omega)).symm (q2 a m (by omega) (by omega))
    · exact .inr ⟨(false, v'), by rw [show lp (regs_first_L2 y.logs y.body y.outs y.pace y.regs y.time y.ready i) (upd v i 0) = _ from w1, bd_ret, Out.on_ret], rfl, w2⟩) (fun g => by unfold regs_first_L0; exact br_F (by unfold ln; omega)) y.places ⟨hpl, fun a m h => absurd h (Nat.not_lt_zero _), by unfold FirstsP natL fregs; simp⟩
  unfold regs_first_m
  rcases X with ⟨v, e, q1, q2, q3⟩ | ⟨⟨b, v⟩, e, q1, q2⟩
  · exact ⟨true, v, by rw [e, bd_ret, Out.on_go], q1, fun _ => ⟨q2, q3⟩⟩
  · exact ⟨b, v, by rw [e, bd_ret, Out.on_ret], q2, fun h => by
      have q1' : b = false := q1
      rw [q1'] at h; cases h⟩
def spV (n : Nat) : List Int := (List.range n).map fun i : Nat => 5 * (i : Int)
theorem sp_ok {y : LayD} (hy : y.Ok) : PlOk y (spV y.body.length) := by
  have hn := hy.n
  exact ⟨by unfold spV; simp, fun i hi => by rw [show ele (spV y.body.length) (i : Int) = 5 * (i : Int) from ele_rm hi]; omega⟩
theorem spaced_s {y : LayD} (hy : y.Ok) (hpl : PlOk y y.places) : ∃ b, regs_spaced_m y.logs y.body y.outs y.pace y.regs y.time y.ready y.places = some (b, spV y.body.length) ∧ (b = true ↔ ∀ k, k < y.body.length → FineP (y.wp (spV y.body.length)) k) := by
  have hn := hy.n
  have e0 : y.places = (List.range y.body.length).map fun j : Nat => if j < 0 then 5 * (j : Int) else ele y.places (j : Int) := by
    conv => lhs; rw [← range_map y.places, hpl.len]
    exact rm_congr fun j hj => by rw [if_neg (by omega)]
  have e1 : spV y.body.length = (List.range y.body.length).map fun j : Nat => if j < y.body.length then 5 * (j : Int) else ele y.places (j : Int) := rm_congr fun j hj => by rw [if_pos hj]
  have X := lp_det (f := regs_spaced_L0 y.body) (ρ := Empty) (fun i => ((List.range y.body.length).map fun j : Nat => if j < i then 5 * (j : Int) else ele y.places (j : Int), (i : Int))) y.body.length (fun i hi => by
    unfold regs_spaced_L0
    simp only
    rw [br_T (by unfold ln; omega), ck_IR (by omega) (by omega), ck_IX (by omega) (by rw [ln_rm]; omega), ck_IR (by omega) (by omega), upd_rm hi]
    refine congrArg some (congrArg Stp.next (Prod.ext (rm_congr fun j hj => ?_) rfl))
    by_cases a : j = i
    · subst a; rw [if_pos rfl, if_pos (by omega)]
    · rw [if_neg a]
      by_cases b : j < i
      · rw [if_pos b, if_pos (by omega)]
      · rw [if_neg b, if_neg (by omega)]) (by unfold regs_spaced_L0; exact br_F (by unfold ln; omega))
  unfold regs_spaced_m
  have X' : lp (regs_spaced_L0 y.body) (y.places, 0) = some (.go (spV y.body.length, (y.body.length : Int))) := by
    rw [e1]
    conv => lhs; rw [e0]
    exact X
  rw [X', bd_ret, Out.on_go]
  simp only
  have Y := lp_det2 (f := regs_spaced_L2 y.logs y.body y.outs y.pace y.regs y.time y.ready (spV y.body.length)) (fun i => (i : Int)) y.body.length (fun k => FineP (y.wp (spV y.body.length)) k) (fun _ => (false, spV y.body.length)) (fun k hk _ => by
    have hfs : regs_fine_m y.logs y.body y.outs y.pace y.regs y.time y.ready (spV y.body.length) k = some (tb (FineP (y.wp (spV y.body.length)) k)) := fine_s (hy.wp (sp_ok hy)) hk
    unfold regs_spaced_L2
    rw [br_T (by unfold ln; omega), hfs, bd_ret]
    exact ⟨fun h => by rw [tb_t h, Bool.not_true, br_false, ck_IR (by omega) (by omega)]; rfl, fun h => by rw [tb_f h, Bool.not_false, br_true]⟩) (by unfold regs_spaced_L2; exact br_F (by unfold ln; omega))
  rcases Y with ⟨h1, e⟩ | ⟨k, h1, h2, _, e⟩
  · exact ⟨true, by rw [show lp (regs_spaced_L2 y.logs y.body y.outs y.pace y.regs y.time y.ready (spV y.body.length)) 0 = _ from e, bd_ret, Out.on_go], ⟨fun _ => h1, fun _ => rfl⟩⟩
  · exact ⟨false, by rw [show lp (regs_spaced_L2 y.logs y.body y.outs y.pace y.regs y.time y.ready (spV y.body.length)) 0 = _ from e, bd_ret, Out.on_ret], ⟨fun h => (by cases h), fun h => absurd (h k h1) h2⟩⟩
theorem allfine_of {y : LayD} (hy : y.Ok) (h : ∀ k, k < y.body.length → FineP y k) : AllFine y := by
  have hn := hy.n
  refine ⟨fun a m ha hm => ?_, ?_⟩
  · by_cases c : m ≤ a
    · exact ((h a ha).1 m (by omega)).1
    · exact ((h m hm).1 a (by omega)).2
  · have := (h (y.body.length - 1) (by omega)).2
    rw [show y.body.length - 1 + 1 = y.body.length from by omega] at this
    exact this
def readyV (l : Lp) (t : Tgt) (p : Pln) : List Int := (List.range l.body.length).map fun i : Nat => ele p.times (i : Int) + waitV t (ele l.body (i : Int)).op
def layP (l : Lp) (t : Tgt) (p : Pln) : LayD := ⟨l.logs, l.body, l.outs, p.pace, t.regs, p.times, readyV l t p, List.replicate l.body.length 0⟩
theorem rep_ele {n i : Nat} (hi : i < n) : ele (List.replicate n (0 : Int)) (i : Int) = 0 := by rw [ele_nat, List.getD_eq_getElem?_getD]; simp [List.getElem?_replicate, hi]
theorem layP_ok {l : Lp} {t : Tgt} {p : Pln} (h : LegalP l t p) : (layP l t p).Ok ∧ PlOk (layP l t p) (layP l t p).places := by
  have ht := h.tgt
  rw [tgtOk_iff] at ht
  have hp0 : PlOk (layP l t p) (layP l t p).places := ⟨by show (List.replicate _ _).length = l.body.length; simp, fun i hi => by rw [show ele (layP l t p).places (i : Int) = 0 from rep_ele hi]; omega⟩
  refine ⟨⟨⟨h.loop.2.1, h.loop.2.2.1⟩, h.len, by show (readyV l t p).length = _; unfold readyV; simp; rfl, hp0.len, by have := outs_len h.loop; show l.outs.length ≤ _; omega, h.pace, ht.2.2.2, fun i hi => h.rng i hi, fun i hi => ?_, fun i hi => ?_, fun i hi r hr => ?_⟩, hp0⟩
  · have h1 := h.rng i hi
    have hw := waitV_bd t (ele l.body (i : Int)).op
    unfold RngP at h1
    rw [show ele (layP l t p).ready (i : Int) = ele p.times (i : Int) + waitV t (ele l.body (i : Int)).op from ele_rm hi]
    omega
  · have := hp0.bd i hi; omega
  · have hi' : i < l.body.length := hi
    have h1 := uses_ok h.loop hi' hr
    have h2 := h1.st (by omega)
    exact ⟨h2.1, h2.2, h1.1, h1.2.1⟩
def destV (t : Tgt) (p : Pln) (n : Nat) (v : List Int) : List Int := (List.range n).map fun i : Nat => (ele v (i : Int) - stgV p i) % t.regs
theorem dests_s {l : Lp} {t : Tgt} {p : Pln} (h : LegalP l t p) {v : List Int} (hv : PlOk (layP l t p) v) : regs_dests_m p.pace t.regs p.times v = some (destV t p l.body.length v) := by
  have ht := h.tgt
  rw [tgtOk_iff] at ht
  have hn := h.loop.2.2.1
  have hl := h.len
  have hvl : v.length = l.body.length := hv.len
  have hpc := h.pace
  have X := lp_det (f := regs_dests_L0 p.pace t.regs p.times v) (ρ := Empty) (fun i => ((List.range i).map fun i : Nat => (ele v (i : Int) - stgV p i) % t.regs, (i : Int))) l.body.length (fun i hi => by
    have hs := stg_bd hpc (h.rng i hi)
    have hb := hv.bd i hi
    unfold stgV at hs
    unfold regs_dests_L0
    simp only
    rw [br_T (by unfold ln; omega), ck_IX (by omega) (by unfold ln; omega), ck_IX (by omega) (by unfold ln; omega), ck_yes (by omega), ck_IR (by omega) (by omega), ck_IR (by omega) (by omega), eRest_s (by omega) (by omega), bd_ret, ck_yes (AL8 (by simp; omega)), ck_IR (by omega) (by omega), show (ele v (i : Int) - Int.tdiv (ele p.times (i : Int)) p.pace) % t.regs = (fun i : Nat => (ele v (i : Int) - stgV p i) % t.regs) i from rfl, rm_succ]
    rfl) (by unfold regs_dests_L0; exact br_F (by unfold ln; omega))
  unfold regs_dests_m
  rw [show lp (regs_dests_L0 p.pace t.regs p.times v) ([], 0) = _ from X, bd_ret, Out.on_go]
  rfl
theorem layout_s {l : Lp} {t : Tgt} {p : Pln} (h : LegalP l t p) : regs_layout_m l t p = some (l.logs, l.body, l.outs, p.pace, t.regs, p.times, readyV l t p, List.replicate l.body.length 0) := by
  have hn := h.loop.2.2.1
  have hl := h.len
  have X := lp_det (f := regs_layout_L0 l t p) (ρ := Empty) (fun i => ((List.range i).map fun i : Nat => ele p.times (i : Int) + waitV t (ele l.body (i : Int)).op, (i : Int))) l.body.length (fun i hi => by
    have h1 := h.rng i hi
    have hw := waitV_bd t (ele l.body (i : Int)).op
    unfold RngP at h1
    unfold regs_layout_L0
    simp only
    rw [br_T (by unfold ln; omega), ck_IX (by omega) (by unfold ln; omega), ck_IX (by omega) (by unfold ln; omega), target_Wait_s, bd_ret, ck_IR (by omega) (by omega), ck_yes (AL8 (by simp; omega)), ck_IR (by omega) (by omega), rm_succ (g := fun i : Nat => ele p.times (i : Int) + waitV t (ele l.body (i : Int)).op)]
    rfl) (by unfold regs_layout_L0; exact br_F (by unfold ln; omega))
  unfold regs_layout_m
  rw [ck_yes (ln_nonneg _), ck_yes (AL8 (by unfold ln; omega)), show lp (regs_layout_L0 l t p) ([], 0) = _ from X, bd_ret, Out.on_go]
  simp only [ln, Int.toNat_natCast]
  rfl
theorem regsMake_s {l : Lp} {t : Tgt} {p : Pln} (hf : l.Fine) (h : LegalP l t p) : (∃ v, PlOk (layP l t p) v ∧ AllFine ((layP l t p).wp v) ∧ regs_Make_m l t p = some (destV t p l.body.length v, 0)) ∨ (regs_Make_m l t p = some ([], 1) ∧ ¬ ∀ k, k < l.body.length → FineP ((layP l t p).wp (spV l.body.length)) k) := by
  obtain ⟨hy, hp0⟩ := layP_ok h
  obtain ⟨b, v, e1, e2, e3⟩ := first_s hy hp0
  have e1' : regs_first_m l.logs l.body l.outs p.pace t.regs p.times (readyV l t p) (List.replicate l.body.length 0) = some (b, v) := e1
  unfold regs_Make_m
  rw [Legal_s hf, bd_ret, tb_t h, Bool.not_true, br_false, layout_s h, bd_ret]
  simp only
  rw [e1', bd_ret]
  simp only
  cases b with
  | true => exact .inl ⟨v, e2, e3 rfl, by rw [Bool.not_true, br_false, Bool.true_or, br_true, dests_s h e2, bd_ret]⟩
  | false =>
    have hy2 := hy.wp e2
    obtain ⟨b', f1, f2⟩ := spaced_s hy2 ⟨e2.len, e2.bd⟩
    have f1' : regs_spaced_m l.logs l.body l.outs p.pace t.regs p.times (readyV l t p) v = some (b', spV l.body.length) := f1
    rw [Bool.not_false, br_true, f1', bd_ret]
    simp only
    cases b' with
    | true =>
      refine .inl ⟨spV l.body.length, sp_ok hy, allfine_of (hy.wp (sp_ok hy)) (f2.1 rfl), ?_⟩
      rw [Bool.or_true, br_true, dests_s h (v := spV l.body.length) (sp_ok hy), bd_ret]
    | false =>
      refine .inr ⟨by rw [Bool.or_self, br_false], fun hh => ?_⟩
      have := f2.2 hh
      cases this
end Go.Rd
end

section
namespace Go.Rd
set_option linter.unusedVariables false
theorem rfar_s {l : Lp} (hn : l.body.length ≤ 16) (hu : ∀ i : Nat, i < l.body.length → ∀ r ∈ usesL (ele l.body (i : Int)), 0 ≤ r.bk ∧ r.bk ≤ 3) (a : Int) : roundelayref10_Far_m l a = some (farV l.body a) := by
  have X := lp_det (f := roundelayref10_Far_L0 l a) (ρ := Empty) (fun k => (farN l.body a k, (k : Int))) l.body.length (fun k hk => by
    have h2 := usesL_len (ele l.body (k : Int))
    have Y := lp_det (f := roundelayref10_Far_L2 a (usesL (ele l.body (k : Int)))) (ρ := Empty) (fun j => (farU a ((usesL (ele l.body (k : Int))).take j) (farN l.body a k), (j : Int))) (usesL (ele l.body (k : Int))).length (fun j hj => by
      unfold roundelayref10_Far_L2
      simp only
      rw [br_T (by unfold ln; omega), ck_IX (by omega) (by unfold ln; omega), ck_imp (fun _ => ⟨by omega, by unfold ln; omega⟩), take_next hj, farU_app]
      generalize farU a ((usesL (ele l.body (k : Int))).take j) (farN l.body a k) = f
      show _ = some (Stp.next (if (ele (usesL (ele l.body (k : Int))) (j : Int)).st = a then max f (ele (usesL (ele l.body (k : Int))) (j : Int)).bk else f, _))
      by_cases e : (ele (usesL (ele l.body (k : Int))) (j : Int)).st = a
      · by_cases e2 : (ele (usesL (ele l.body (k : Int))) (j : Int)).bk > f
        · rw [show (((ele (usesL (ele l.body (k : Int))) (j : Int)).st == a) && decide ((ele (usesL (ele l.body (k : Int))) (j : Int)).bk > f)) = true from by simp [e, e2], br_true, ck_IX (by omega) (by unfold ln; omega), ck_IR (by omega) (by omega), if_pos e, show max f (ele (usesL (ele l.body (k : Int))) (j : Int)).bk = (ele (usesL (ele l.body (k : Int))) (j : Int)).bk from by omega]; rfl
        · rw [show (((ele (usesL (ele l.body (k : Int))) (j : Int)).st == a) && decide ((ele (usesL (ele l.body (k : Int))) (j : Int)).bk > f)) = false from by simp [e2], br_false, ck_IR (by omega) (by omega), if_pos e, show max f (ele (usesL (ele l.body (k : Int))) (j : Int)).bk = f from by omega]; rfl
      · rw [show (((ele (usesL (ele l.body (k : Int))) (j : Int)).st == a) && decide ((ele (usesL (ele l.body (k : Int))) (j : Int)).bk > f)) = false from by simp [e], br_false, ck_IR (by omega) (by omega), if_neg e]; rfl) (by unfold roundelayref10_Far_L2; exact br_F (by unfold ln; omega))
    rw [List.take_length] at Y
    unfold roundelayref10_Far_L0
    simp only
    rw [br_T (by unfold ln; omega), ck_IX (by omega) (by unfold ln; omega), ref_Uses_s, bd_ret,
      show lp (roundelayref10_Far_L2 a (usesL (ele l.body (k : Int)))) (farN l.body a k, 0) = _ from Y, bd_ret, Out.on_go, ck_IR (by omega) (by omega)]
    rfl) (by unfold roundelayref10_Far_L0; exact br_F (by unfold ln; omega))
  unfold roundelayref10_Far_m
  rw [show lp (roundelayref10_Far_L0 l a) (0, 0) = _ from X, bd_ret, Out.on_go]
  rfl
def oprAt (k : Krn) (order : List Int) (s : Nat) : Opr := ele k.ops (ele order (s : Int))
def timeK (k : Krn) (o : Opr) : Int := o.slot + k.pace * o.stage
def offK (t : Tgt) (k : Krn) (order : List Int) (s : Nat) : Off := ⟨timeK k (oprAt k order s), timeK k (oprAt k order s) + waitV t (oprAt k order s).op, (oprAt k order s).dest + (oprAt k order s).stage⟩
def layK (l : Lp) (t : Tgt) (k : Krn) (order : List Int) : LayD :=
  ⟨l.logs, l.body, l.outs, k.pace, t.regs, (List.range l.body.length).map fun s => (offK t k order s).time, (List.range l.body.length).map fun s => (offK t k order s).ready, (List.range l.body.length).map fun s => (offK t k order s).place⟩
def SameO (o : Opr) (x : Stm) : Prop := o.op = x.op ∧ o.ar = x.ar ∧ o.sp = x.sp ∧ o.pl = x.pl ∧ o.n = x.n
def OrdP (l : Lp) (k : Krn) (order : List Int) (s : Nat) : Prop := (0 ≤ ele order (s : Int) ∧ ele order (s : Int) < l.body.length) ∧ (∀ i, i < s → ele order (i : Int) ≠ ele order (s : Int)) ∧ SameO (oprAt k order s) (ele l.body (s : Int))
structure LayP (l : Lp) (t : Tgt) (k : Krn) (order : List Int) : Prop where
  loop : LoopOk l
  tgt : tgtOk t = true
  may : KMayP t k l.logs
  n : k.ops.length = l.body.length
  no : order.length = l.body.length
  ord : ∀ s, s < l.body.length → OrdP l k order s
def KFine (l : Lp) (k : Krn) : Prop := ∀ i : Nat, i < k.ops.length → (lpO l.logs (ele k.ops (i : Int))).Fine
theorem LayP.opr {l : Lp} {t : Tgt} {k : Krn} {order : List Int} (hm : KMayP t k l.logs) (hn : k.ops.length = l.body.length) {s : Nat} (h : 0 ≤ ele order (s : Int) ∧ ele order (s : Int) < l.body.length) : OneP t k (oprAt k order s) l.logs := by
  obtain ⟨i, hi⟩ := Int.eq_ofNat_of_zero_le h.1
  unfold oprAt
  rw [hi]
  exact hm.one i (by omega)
theorem opr_bd {t : Tgt} {k : Krn} {o : Opr} {logs : List Int} (hm : KMayP t k logs) (h : OneP t k o logs) : (0 ≤ timeK k o ∧ timeK k o ≤ 1000) ∧ (0 ≤ k.pace * o.stage ∧ k.pace * o.stage ≤ 1000) ∧ (0 ≤ o.dest ∧ o.dest < 128) ∧ (0 ≤ o.stage ∧ o.stage ≤ 1000) := by
  obtain ⟨⟨a1, a2, a3, a4, a5⟩, ⟨b1, b2, _⟩, _⟩ := h
  have ht := hm.tgt
  rw [tgtOk_iff] at ht
  have hp := hm.pace; have hs := hm.stages
  have h0 := Int.mul_nonneg (show 0 ≤ k.pace by omega) a3
  have e := Int.mul_comm o.stage k.pace
  unfold timeK
  omega
theorem Layout_s {l : Lp} (hf : l.Fine) {t : Tgt} {k : Krn} {order : List Int} (hk : KFine l k) (ho : order.length ≤ 9223372036854775807) : roundelayref10_Layout_m l t k order = some (if tb (LayP l t k order) = true then ((List.range l.body.length).map (offK t k order), true) else ([], false)) := by
  unfold roundelayref10_Layout_m
  rw [rMay_s hf, bd_ret, kMay_s hk, bdG_some']
  by_cases h : (LoopOk l ∧ tgtOk t = true) ∧ KMayP t k l.logs ∧ k.ops.length = l.body.length ∧ order.length = l.body.length
  · obtain ⟨h1, h2, h3, h4⟩ := h
    have hn := h1.1.2.2.1
    rw [tb_t h1, tb_t h2, show ((((!true) || (!(if (!(!true)) = true then true else false))) || ((ln k.ops) != (ln l.body))) || ((ln order) != (ln l.body))) = false from by unfold ln; simp [h3, h4], br_false]
    have X := lp_det2 (f := roundelayref10_Layout_L0 l t k order) (ρ := List Off × Bool) (fun s => ((List.range s).map (offK t k order), (s : Int))) l.body.length (fun s => OrdP l k order s) (fun _ => ([], false)) (fun s hs _ => by
      unfold roundelayref10_Layout_L0
      simp only
      have hix : IX (s : Int) (ln order) := ⟨by omega, by unfold ln; omega⟩
      rw [br_T (by unfold ln; omega), ck_yes hix, ck_imp (fun _ => hix)]
      by_cases c1 : 0 ≤ ele order (s : Int) ∧ ele order (s : Int) < l.body.length
      · rw [show (decide (ele order (s : Int) < 0) || decide (ele order (s : Int) ≥ ln l.body)) = false from by unfold ln; simp; omega, br_false]
        rcases lp_det2 (f := roundelayref10_Layout_L2 order s) (ρ := List Off × Bool) (fun i => (i : Int)) s (fun i => ele order (i : Int) ≠ ele order (s : Int)) (fun _ => ([], false)) (fun i hi _ => by
            unfold roundelayref10_Layout_L2
            rw [br_T (by omega), ck_IX (by omega) (by unfold ln; omega), ck_yes hix]
            exact ⟨fun h => by rw [show (ele order (i : Int) == ele order (s : Int)) = false from by simp [h], br_false, ck_IR (by omega) (by omega)]; rfl, fun h => by rw [show (ele order (i : Int) == ele order (s : Int)) = true from by simpa using h, br_true]⟩) (by unfold roundelayref10_Layout_L2; exact br_F (by omega)) with ⟨q1, e⟩ | ⟨i, q1, q2, _, e⟩
        · have ho := LayP.opr h2 h3 c1
          have hob := opr_bd h2 ho
          have hw := waitV_bd t (oprAt k order s).op
          rw [show lp (roundelayref10_Layout_L2 order s) 0 = _ from e, bd_ret, Out.on_go, ck_yes hix, ck_IX (by omega) (by unfold ln; omega), ck_IX (by omega) (by unfold ln; omega)]
          rw [show ele k.ops (ele order (s : Int)) = oprAt k order s from rfl]
          have hb : ((((((oprAt k order s).op != (ele l.body (s : Int)).op) || ((oprAt k order s).ar != (ele l.body (s : Int)).ar)) || ((oprAt k order s).sp != (ele l.body (s : Int)).sp)) || ((oprAt k order s).pl != (ele l.body (s : Int)).pl)) || ((oprAt k order s).n != (ele l.body (s : Int)).n)) = !tb (SameO (oprAt k order s) (ele l.body (s : Int))) := by
            rw [show tb (SameO (oprAt k order s) (ele l.body (s : Int))) = !((((((oprAt k order s).op != (ele l.body (s : Int)).op) || ((oprAt k order s).ar != (ele l.body (s : Int)).ar)) || ((oprAt k order s).sp != (ele l.body (s : Int)).sp)) || ((oprAt k order s).pl != (ele l.body (s : Int)).pl)) || ((oprAt k order s).n != (ele l.body (s : Int)).n)) from (tb_eq (by unfold SameO; simp [and_assoc])).symm, Bool.not_not]
          rw [hb]
          by_cases c2 : SameO (oprAt k order s) (ele l.body (s : Int))
          · rw [tb_t c2, Bool.not_true, br_false]
            unfold timeK at hob
            rw [ck_IR (by omega) (by omega), ck_IR (by omega) (by omega), ref_Wait_s, bd_ret, ck_IR (by omega) (by omega), ck_IR (by omega) (by omega), ck_yes ⟨by show _ ≤ 9223372036854775807; simp; omega, by simp; omega⟩, ck_IR (by omega) (by omega)]
            refine ⟨fun _ => ?_, fun h => absurd ⟨c1, q1, c2⟩ h⟩
            show some (Stp.next ((List.range s).map (offK t k order) ++ [offK t k order s], _)) = _
            rw [rm_succ]; rfl
          · rw [tb_f c2]
            exact ⟨fun h => absurd h.2.2 c2, fun _ => rfl⟩
        · rw [show lp (roundelayref10_Layout_L2 order s) 0 = _ from e, bd_ret, Out.on_ret]
          exact ⟨fun h => absurd (h.2.1 i q1) q2, fun _ => rfl⟩
      · rw [show (decide (ele order (s : Int) < 0) || decide (ele order (s : Int) ≥ ln l.body)) = true from by
          unfold ln
          rw [Bool.or_eq_true, decide_eq_true_eq, decide_eq_true_eq]; omega, br_true]
        exact ⟨fun h => absurd h.1 c1, fun _ => rfl⟩) (by unfold roundelayref10_Layout_L0; exact br_F (by unfold ln; omega))
    rcases X with ⟨q1, e⟩ | ⟨s, q1, q2, _, e⟩
    · rw [show lp (roundelayref10_Layout_L0 l t k order) ([], 0) = _ from e, bd_ret, Out.on_go, tb_t (p := LayP l t k order) ⟨h1.1, h1.2, h2, h3, h4, q1⟩]
      rfl
    · rw [show lp (roundelayref10_Layout_L0 l t k order) ([], 0) = _ from e, bd_ret, Out.on_ret, tb_f fun h : LayP l t k order => q2 (h.ord s q1)]
      rfl
  · rw [tb_f fun hl : LayP l t k order => h ⟨⟨hl.loop, hl.tgt⟩, hl.may, hl.n, hl.no⟩]
    by_cases h1 : LoopOk l ∧ tgtOk t = true
    · by_cases h2 : KMayP t k l.logs
      · rw [tb_t h1, tb_t h2, show ((((!true) || (!(if (!(!true)) = true then true else false))) || ((ln k.ops) != (ln l.body))) || ((ln order) != (ln l.body))) = true from by
          unfold ln
          by_cases h3 : k.ops.length = l.body.length
          · have h4 : ¬ order.length = l.body.length := fun h4 => h ⟨h1, h2, h3, h4⟩
            simp; omega
          · simp; omega, br_true]
        rfl
      · rw [tb_t h1, tb_f h2]; rfl
    · rw [tb_f h1]; rfl
theorem layK_ok {l : Lp} {t : Tgt} {k : Krn} {order : List Int} (h : LayP l t k order) : (layK l t k order).Ok := by
  have ht := h.tgt
  rw [tgtOk_iff] at ht
  refine ⟨⟨h.loop.2.1, h.loop.2.2.1⟩, by unfold layK; simp, by unfold layK; simp, by unfold layK; simp, by have := outs_len h.loop; show l.outs.length ≤ _; omega, h.may.pace, ht.2.2.2, fun i hi => ?_, fun i hi => ?_, fun i hi => ?_, fun i hi r hr => ?_⟩
  all_goals have hi' : i < l.body.length := hi
  · have ho := opr_bd h.may (LayP.opr h.may h.n (h.ord i hi').1)
    rw [show ele (layK l t k order).time (i : Int) = (offK t k order i).time from ele_rm hi']
    exact ho.1
  · have ho := opr_bd h.may (LayP.opr h.may h.n (h.ord i hi').1)
    have hw := waitV_bd t (oprAt k order i).op
    rw [show ele (layK l t k order).ready (i : Int) = (offK t k order i).ready from ele_rm hi']
    show 0 ≤ timeK k (oprAt k order i) + waitV t (oprAt k order i).op ∧ timeK k (oprAt k order i) + waitV t (oprAt k order i).op ≤ 1006
    omega
  · have ho := opr_bd h.may (LayP.opr h.may h.n (h.ord i hi').1)
    rw [show ele (layK l t k order).places (i : Int) = (offK t k order i).place from ele_rm hi']
    show -100000 ≤ (oprAt k order i).dest + (oprAt k order i).stage ∧ (oprAt k order i).dest + (oprAt k order i).stage ≤ 100000
    omega
  · have h1 := uses_ok h.loop hi' hr
    have h2 := h1.st (by omega)
    exact ⟨h2.1, h2.2, h1.1, h1.2.1⟩
end Go.Rd
end

section
namespace Go.Rd
set_option linter.unusedVariables false
def offsK (l : Lp) (t : Tgt) (k : Krn) (order : List Int) : List Off := (List.range l.body.length).map (offK t k order)
def NearP (y : LayD) (r : Rf) (u : Int) (m j : Int) : Prop := (ele y.ready r.st ≤ ele y.ready m + j * y.pace ∧ ele y.ready m + j * y.pace ≤ u) ∨ (0 < r.bk ∧ 0 < j ∧ ele y.ready m + j * y.pace ≤ u)
def KeptAt (y : LayD) (r : Rf) (u : Int) (m j : Int) : Prop := NearP y r u m j → ¬ (m = r.st ∧ j = 0) → (ele y.places m + j - ele y.places r.st) % y.regs ≠ 0
def KeptP (y : LayD) (r : Rf) (u : Int) : Prop := ∀ m : Nat, m < y.body.length → ∀ i : Nat, i < 8201 → KeptAt y r u m (-4100 + i)
def ToldAt (y : LayD) (a m j : Int) : Prop := (m ≠ a ∨ j ≠ 0) → (ele y.places m + j - ele y.places a) % y.regs ≠ 0
def ToldP (y : LayD) (a : Int) : Prop := ∀ m : Nat, m < y.body.length → ∀ i : Nat, ele y.ready a ≤ ele y.ready (m : Int) - i * y.pace → ToldAt y a m (-(i : Int))
section
variable {l : Lp} {t : Tgt} {k : Krn} {order : List Int}
theorem offs_ln : ln (offsK l t k order) = l.body.length := ln_rm
theorem offs_at {i : Nat} (hi : i < l.body.length) : (ele (offsK l t k order) (i : Int)).time = ele (layK l t k order).time (i : Int) ∧ (ele (offsK l t k order) (i : Int)).ready = ele (layK l t k order).ready (i : Int) ∧ (ele (offsK l t k order) (i : Int)).place = ele (layK l t k order).places (i : Int) := by
  unfold offsK layK
  rw [ele_rm hi, ele_rm hi, ele_rm hi, ele_rm hi]
  exact ⟨rfl, rfl, rfl⟩
theorem kept_s (h : LayP l t k order) {r : Rf} (hr : 0 ≤ r.st ∧ r.st < l.body.length) {u : Int} : roundelayref10_kept_m (offsK l t k order) k.pace t.regs r u = some (tb (KeptP (layK l t k order) r u)) := by
  have hy := layK_ok h
  have hn := h.loop.2.2.1
  have hp := h.may.pace
  have hR := hy.regs
  obtain ⟨a, ha⟩ := Int.eq_ofNat_of_zero_le hr.1
  have ha' : a < l.body.length := by omega
  have pa := hy.pl a ha'
  obtain ⟨a1, a2, a3⟩ := offs_at (t := t) (k := k) (order := order) ha'
  unfold roundelayref10_kept_m
  rw [ck_IX (by omega) (by rw [offs_ln]; omega)]
  have X := lp_det2 (f := roundelayref10_kept_L0 (offsK l t k order) k.pace t.regs r u) (ρ := Bool) (fun i => (i : Int)) l.body.length (fun m => ∀ i : Nat, i < 8201 → KeptAt (layK l t k order) r u m (-4100 + i)) (fun _ => false) (fun m hm _ => by
    have rm := hy.rd m hm; have pm := hy.pl m hm
    obtain ⟨m1, m2, m3⟩ := offs_at (t := t) (k := k) (order := order) hm
    unfold roundelayref10_kept_L0
    rw [br_T (by rw [offs_ln]; omega)]
    rcases lp_det2 (f := roundelayref10_kept_L2 (offsK l t k order) k.pace t.regs r u m) (ρ := Bool) (fun i => -4100 + (i : Int)) 8201 (fun i => KeptAt (layK l t k order) r u m (-4100 + i)) (fun _ => false) (fun i hi _ => by
        generalize hj : -4100 + (i : Int) = j
        have hjb : -4100 ≤ j ∧ j ≤ 4100 := by omega
        have hmul := mul_le (a := j) (A := 4100) (b := k.pace) (B := 200) (by omega) (by omega) (by omega) (by omega)
        unfold roundelayref10_kept_L2
        rw [br_T (by omega), ck_IX (by omega) (by rw [offs_ln]; omega), ck_IR (by omega) (by omega), m2, ha, a2, m3, a3, ck_IR (by omega) (by omega)]
        have hb : ((!(((decide ((ele (layK l t k order).ready (m : Int) + (j * k.pace)) ≥ ele (layK l t k order).ready (a : Int))) && (decide ((ele (layK l t k order).ready (m : Int) + (j * k.pace)) ≤ u))) || (((decide (r.bk > 0)) && (decide (j > 0))) && (decide ((ele (layK l t k order).ready (m : Int) + (j * k.pace)) ≤ u))))) || (((m : Int) == (a : Int)) && (j == 0))) = !tb (NearP (layK l t k order) r u m j ∧ ¬ ((m : Int) = r.st ∧ j = 0)) := by
          rw [show tb (NearP (layK l t k order) r u m j ∧ ¬ ((m : Int) = r.st ∧ j = 0)) = !((!(((decide ((ele (layK l t k order).ready (m : Int) + (j * k.pace)) ≥ ele (layK l t k order).ready (a : Int))) && (decide ((ele (layK l t k order).ready (m : Int) + (j * k.pace)) ≤ u))) || (((decide (r.bk > 0)) && (decide (j > 0))) && (decide ((ele (layK l t k order).ready (m : Int) + (j * k.pace)) ≤ u))))) || (((m : Int) == (a : Int)) && (j == 0))) from (tb_eq (by
            unfold NearP
            rw [ha, show (layK l t k order).pace = k.pace from rfl]
            simp [and_assoc]
            exact fun _ => by by_cases c : (m : Int) = (a : Int) <;> simp [c])).symm, Bool.not_not]
        rw [hb]
        have hst : ((i + 1 : Nat) : Int) = (i : Int) + 1 := by omega
        by_cases c : NearP (layK l t k order) r u m j ∧ ¬ ((m : Int) = r.st ∧ j = 0)
        · rw [tb_t c, Bool.not_true, br_false, ck_IX (by omega) (by rw [offs_ln]; omega), ck_IR (by omega) (by omega), ck_IR (by omega) (by omega), Rest_s _ _ (by show 0 < (layK l t k order).regs; omega) (by show (layK l t k order).regs ≤ _; omega), bd_ret]
          constructor
          · intro hq
            have hq' : (ele (layK l t k order).places (m : Int) + j - ele (layK l t k order).places (a : Int)) % t.regs ≠ 0 := by
              have := hq c.1 c.2
              rw [ha] at this
              exact this
            rw [show ((ele (layK l t k order).places (m : Int) + j - ele (layK l t k order).places (a : Int)) % t.regs == 0) = false from by simpa using hq', br_false, ck_IR (by omega) (by omega)]
            refine congrArg some (congrArg Stp.next ?_); omega
          · intro hq
            have hq' : (ele (layK l t k order).places (m : Int) + j - ele (layK l t k order).places (a : Int)) % t.regs = 0 := Classical.byContradiction fun hh => hq fun _ _ => by rw [ha]; exact hh
            rw [show ((ele (layK l t k order).places (m : Int) + j - ele (layK l t k order).places (a : Int)) % t.regs == 0) = true from by simpa using hq', br_true]
        · rw [tb_f c, Bool.not_false, br_true, ck_IR (by omega) (by omega)]
          refine ⟨fun _ => congrArg some (congrArg Stp.next (by omega)), fun hq => absurd (fun h1 h2 => absurd ⟨h1, h2⟩ c) hq⟩) (by unfold roundelayref10_kept_L2; exact br_F (by omega)) with ⟨q1, e⟩ | ⟨i, q1, q2, _, e⟩
    · rw [show lp (roundelayref10_kept_L2 (offsK l t k order) k.pace t.regs r u m) (-4100) = _ from e, bd_ret, Out.on_go, ck_IR (by omega) (by omega)]
      exact ⟨fun _ => rfl, fun h => absurd q1 h⟩
    · rw [show lp (roundelayref10_kept_L2 (offsK l t k order) k.pace t.regs r u m) (-4100) = _ from e, bd_ret, Out.on_ret]
      exact ⟨fun h => absurd (h i q1) q2, fun _ => rfl⟩) (by unfold roundelayref10_kept_L0; exact br_F (by rw [offs_ln]; omega))
  rcases X with ⟨q1, e⟩ | ⟨m, q1, q2, _, e⟩
  · rw [show lp (roundelayref10_kept_L0 (offsK l t k order) k.pace t.regs r u) 0 = _ from e, bd_ret, Out.on_go, tb_t (p := KeptP (layK l t k order) r u) q1]
  · rw [show lp (roundelayref10_kept_L0 (offsK l t k order) k.pace t.regs r u) 0 = _ from e, bd_ret, Out.on_ret, tb_f fun h : KeptP (layK l t k order) r u => q2 (h m q1)]
theorem told_s (h : LayP l t k order) {a : Nat} (ha : a < l.body.length) : roundelayref10_told_m (offsK l t k order) k.pace t.regs a = some (tb (ToldP (layK l t k order) a)) := by
  have hy := layK_ok h
  have hn := h.loop.2.2.1
  have hp := h.may.pace
  have hR := hy.regs
  have pa := hy.pl a ha; have ra := hy.rd a ha
  obtain ⟨a1, a2, a3⟩ := offs_at (t := t) (k := k) (order := order) ha
  unfold roundelayref10_told_m
  rw [ck_IX (by omega) (by rw [offs_ln]; omega)]
  have X := lp_det2 (f := roundelayref10_told_L0 (offsK l t k order) k.pace t.regs a) (ρ := Bool) (fun i => (i : Int)) l.body.length (fun m => ∀ i : Nat, ele (layK l t k order).ready (a : Int) ≤ ele (layK l t k order).ready (m : Int) - i * (layK l t k order).pace → ToldAt (layK l t k order) a m (-(i : Int))) (fun _ => false) (fun m hm _ => by
    have rm := hy.rd m hm; have pm := hy.pl m hm
    obtain ⟨m1, m2, m3⟩ := offs_at (t := t) (k := k) (order := order) hm
    -- how many turns back are looked at
    obtain ⟨N, hN1, hN2⟩ : ∃ N : Nat, (∀ i : Nat, i < N ↔ ele (layK l t k order).ready (a : Int) ≤ ele (layK l t k order).ready (m : Int) - i * k.pace) ∧ N ≤ 2000 := by
      by_cases c : ele (layK l t k order).ready (a : Int) ≤ ele (layK l t k order).ready (m : Int)
      · have h0 := Int.ediv_nonneg (show 0 ≤ ele (layK l t k order).ready (m : Int) - ele (layK l t k order).ready (a : Int) by omega) (show 0 ≤ k.pace by omega)
        have h1 := Int.ediv_le_self k.pace (show 0 ≤ ele (layK l t k order).ready (m : Int) - ele (layK l t k order).ready (a : Int) by omega)
        refine ⟨((ele (layK l t k order).ready (m : Int) - ele (layK l t k order).ready (a : Int)) / k.pace).toNat + 1, fun i => ⟨fun hi => ?_, fun hi => ?_⟩, by omega⟩
        · have h2 := Int.mul_le_mul_of_nonneg_right (show (i : Int) ≤ (ele (layK l t k order).ready (m : Int) - ele (layK l t k order).ready (a : Int)) / k.pace by omega) (show 0 ≤ k.pace by omega)
          have h3 := Int.ediv_mul_le (ele (layK l t k order).ready (m : Int) - ele (layK l t k order).ready (a : Int)) (show k.pace ≠ 0 by omega)
          omega
        · have h2 : (i : Int) ≤ (ele (layK l t k order).ready (m : Int) - ele (layK l t k order).ready (a : Int)) / k.pace := Int.le_ediv_of_mul_le (by omega) (by omega)
          omega
      · refine ⟨0, fun i => ⟨fun hi => absurd hi (Nat.not_lt_zero _), fun hi => ?_⟩, by omega⟩
        have := Int.mul_nonneg (show 0 ≤ (i : Int) by omega) (show 0 ≤ k.pace by omega)
        omega
    unfold roundelayref10_told_L0
    rw [br_T (by rw [offs_ln]; omega)]
    have hcom : ∀ i : Nat, i ≤ 2000 → (-(i : Int)) * k.pace = -(i * k.pace) ∧ 0 ≤ (i : Int) * k.pace ∧ (i : Int) * k.pace ≤ 400000 := fun i hi => by
      have h1 := mul_le (a := (i : Int)) (A := 2000) (b := k.pace) (B := 200) (by omega) (by omega) (by omega) (by omega)
      have h2 := Int.mul_nonneg (show 0 ≤ (i : Int) by omega) (show 0 ≤ k.pace by omega)
      exact ⟨Int.neg_mul _ _, h2, by omega⟩
    rcases lp_det2 (f := roundelayref10_told_L2 (offsK l t k order) k.pace t.regs a m) (ρ := Bool) (fun i => -(i : Int)) N (fun i => ToldAt (layK l t k order) a m (-(i : Int))) (fun _ => false) (fun i hi _ => by
        have hc := hcom i (by omega)
        have hin := (hN1 i).1 hi
        unfold roundelayref10_told_L2
        rw [ck_IX (by omega) (by rw [offs_ln]; omega), hc.1, ck_IR (by omega) (by omega), m2, a2, m3, a3, ck_IR (by omega) (by omega), br_T (by omega), ck_imp (fun _ => ⟨by omega, by rw [offs_ln]; omega⟩), ck_imp (fun _ => ⟨by omega, by omega⟩), ck_imp (fun _ => ⟨by omega, by omega⟩), Rest_s _ _ (by show 0 < (layK l t k order).regs; omega) (by show (layK l t k order).regs ≤ _; omega), bdG_any]
        have hb : ((((m : Int) != (a : Int)) || (-(i : Int) != 0)) && ((if (((m : Int) != (a : Int)) || (-(i : Int) != 0)) = true then (ele (layK l t k order).places (m : Int) + -(i : Int) - ele (layK l t k order).places (a : Int)) % t.regs else default) == 0)) = !tb (ToldAt (layK l t k order) a m (-(i : Int))) := by
          rw [show (((m : Int) != (a : Int)) || (-(i : Int) != 0)) = tb ((m : Int) ≠ a ∨ -(i : Int) ≠ 0) from tb_eq (by simp)]
          by_cases c : (m : Int) ≠ a ∨ -(i : Int) ≠ 0
          · rw [tb_t c, if_pos rfl, Bool.true_and]
            by_cases d : (ele (layK l t k order).places (m : Int) + -(i : Int) - ele (layK l t k order).places (a : Int)) % t.regs = 0
            · rw [tb_f fun hh : ToldAt (layK l t k order) a m (-(i : Int)) => hh c d, d]; rfl
            · rw [tb_t (p := ToldAt (layK l t k order) a m (-(i : Int))) fun _ => d]; simpa using d
          · rw [tb_f c, tb_t (p := ToldAt (layK l t k order) a m (-(i : Int))) fun h => absurd h c]; rfl
        rw [hb]
        exact ⟨fun hq => by rw [tb_t hq, Bool.not_true, br_false, ck_IR (by omega) (by omega)]; refine congrArg some (congrArg Stp.next ?_); omega, fun hq => by rw [tb_f hq, Bool.not_false, br_true]⟩) (by
        have hc := hcom N hN2
        have hin : ¬ ele (layK l t k order).ready (a : Int) ≤ ele (layK l t k order).ready (m : Int) - (N : Int) * k.pace := fun hh => absurd ((hN1 N).2 hh) (Nat.lt_irrefl _)
        unfold roundelayref10_told_L2
        rw [ck_IX (by omega) (by rw [offs_ln]; omega), hc.1, ck_IR (by omega) (by omega), m2, a2, ck_IR (by omega) (by omega)]
        exact br_F (by omega)) with ⟨q1, e⟩ | ⟨i, q1, q2, _, e⟩
    · rw [show lp (roundelayref10_told_L2 (offsK l t k order) k.pace t.regs a m) 0 = _ from e, bd_ret, Out.on_go, ck_IR (by omega) (by omega)]
      exact ⟨fun _ => rfl, fun h => absurd (fun i hi => q1 i ((hN1 i).2 hi)) h⟩
    · rw [show lp (roundelayref10_told_L2 (offsK l t k order) k.pace t.regs a m) 0 = _ from e, bd_ret, Out.on_ret]
      exact ⟨fun h => absurd (h i ((hN1 i).1 q1)) q2, fun _ => rfl⟩) (by unfold roundelayref10_told_L0; exact br_F (by rw [offs_ln]; omega))
  rcases X with ⟨q1, e⟩ | ⟨m, q1, q2, _, e⟩
  · rw [show lp (roundelayref10_told_L0 (offsK l t k order) k.pace t.regs a) 0 = _ from e, bd_ret, Out.on_go, tb_t (p := ToldP (layK l t k order) a) q1]
  · rw [show lp (roundelayref10_told_L0 (offsK l t k order) k.pace t.regs a) 0 = _ from e, bd_ret, Out.on_ret, tb_f fun h : ToldP (layK l t k order) a => q2 (h m q1)]
end
end Go.Rd
end

section
namespace Go.Rd
set_option linter.unusedVariables false
def nameO (o : Opr) (i : Nat) : Int := if i = 1 then o.b else o.a
def NameP (l : Lp) (t : Tgt) (k : Krn) (order : List Int) (s i : Nat) : Prop := nameO (oprAt k order s) i = (ele (layK l t k order).places (ele (usesL (ele l.body (s : Int))) (i : Int)).st - (ele (usesL (ele l.body (s : Int))) (i : Int)).bk - (oprAt k order s).stage) % t.regs
def TEdgeP (y : LayD) (e : Edg) : Prop := ele y.time e.fr + e.wt ≤ ele y.time e.to + e.bk * y.pace
structure TakesP (l : Lp) (t : Tgt) (k : Krn) (order : List Int) : Prop where
  lay : LayP l t k order
  edge : ∀ e, EdgeP l t e → TEdgeP (layK l t k order) e
  name : ∀ s, s < l.body.length → ∀ i, i < (usesL (ele l.body (s : Int))).length → NameP l t k order s i
  apart : ∀ a m : Nat, a < l.body.length → m < l.body.length → ApartP (layK l t k order) a m
  firsts : FirstsP (layK l t k order) (natL l.body.length)
theorem layK_us {l : Lp} {t : Tgt} {k : Krn} {order : List Int} (h : LayP l t k order) : ∀ s : Nat, s < l.body.length → ∀ r ∈ usesL (ele l.body (s : Int)), 0 ≤ r.st ∧ r.st < l.body.length ∧ 0 ≤ r.bk ∧ r.bk ≤ 3 := fun s hs r hr => (layK_ok h).us s hs r hr
def KeepAll (l : Lp) (y : LayD) : Prop := (∀ s : Nat, s < l.body.length → ∀ i : Nat, i < (usesL (ele l.body (s : Int))).length → KeptP y (ele (usesL (ele l.body (s : Int))) (i : Int)) (ele y.time (s : Int) + (ele (usesL (ele l.body (s : Int))) (i : Int)).bk * y.pace)) ∧ ∀ i : Nat, i < l.outs.length → ToldP y (ele l.outs (i : Int))
theorem keep_iff {l : Lp} {t : Tgt} {k : Krn} {order : List Int} (h : LayP l t k order) : KeepAll l (layK l t k order) ↔ ∀ a m : Nat, a < l.body.length → m < l.body.length → ApartP (layK l t k order) a m := by
  have hy := layK_ok h
  constructor
  · rintro ⟨h1, h2⟩ a m ha hm j hj hz hb
    have hn := bad_near hy ha hm hb
    rcases hb with ⟨s, r, q1, q2, q3, q4⟩ | ⟨q1, q2, q3⟩
    · obtain ⟨i, hi, he⟩ := mem_ele q2
      have hk := h1 s q1 i hi m hm (j + 4100).toNat (by omega)
      rw [show (-4100 : Int) + ((j + 4100).toNat : Int) = j from by omega, show ele (usesL (ele l.body (s : Int))) (i : Int) = r from he] at hk
      refine hk ?_ ?_ ?_
      · unfold NearP; rw [q3]; exact q4
      · rw [q3]; exact fun hh => hj.elim (fun h => h hh.1) (fun h => h hh.2)
      · rw [q3]; exact hz
    · obtain ⟨i, hi, he⟩ := mem_ele q3
      have ht := h2 i hi
      rw [show ele l.outs (i : Int) = (a : Int) from he] at ht
      obtain ⟨z, hz'⟩ := Int.eq_ofNat_of_zero_le (show 0 ≤ -j by omega)
      have ht2 := ht m hm z (by
        have e : j * (layK l t k order).pace = -((z : Int) * (layK l t k order).pace) := by rw [← Int.neg_mul]; congr 1; omega
        omega)
      rw [show -(z : Int) = j from by omega] at ht2
      exact ht2 hj hz
  · intro h1
    refine ⟨fun s hs i hi m hm z hz hn hne hzz => ?_, fun i hi m hm z hz hne hzz => ?_⟩
    · have hu := layK_us h s hs _ (ele_mem' hi)
      obtain ⟨a, ha⟩ := Int.eq_ofNat_of_zero_le hu.1
      have ha' : a < l.body.length := by have := hu.2.1; omega
      rw [ha] at hzz
      refine h1 a m ha' hm (-4100 + (z : Int)) ?_ hzz (.inl ⟨s, _, hs, ele_mem' hi, ha, ?_⟩)
      · rw [ha] at hne
        by_cases c : (m : Int) = a
        · exact .inr fun h => hne ⟨c, h⟩
        · exact .inl c
      · unfold NearP at hn; rw [ha] at hn; exact hn
    · have ho := h.loop.out i hi
      rw [show l.outs.getD i 0 = ele l.outs (i : Int) from rfl] at ho
      obtain ⟨a, ha⟩ := Int.eq_ofNat_of_zero_le ho.1
      rw [ha] at hz hne hzz
      refine h1 a m (by omega) hm (-(z : Int)) hne hzz (.inr ⟨by omega, ?_, ?_⟩)
      · rw [Int.neg_mul]; omega
      · rw [← ha]; exact ele_mem' hi
theorem natL_take {n i : Nat} (h : i ≤ n) : (natL n).take i = natL i := by
  unfold natL
  rw [← List.map_take, List.take_range, Nat.min_eq_left h]
theorem natL_ele {n i : Nat} (h : i < n) : ele (natL n) (i : Int) = i := ele_rm h
theorem firsts_iff {y : LayD} (n : Nat) : FirstsP y (natL n) ↔ ∀ s, s < n → ∀ q, q < (farV y.body s).toNat → regF y s q ∉ fregs y (natL s) ++ frA y s q := by
  have h := nodup_take (y := y) (L := natL n) n (by rw [natL_len]; exact Nat.le_refl _)
  rw [natL_take (Nat.le_refl _)] at h
  unfold FirstsP
  rw [h]
  constructor
  · intro h1 s hs
    have := h1 s hs
    rw [natL_ele hs, natL_take (by omega)] at this
    exact this
  · intro h1 s hs
    rw [natL_ele hs, natL_take (by omega)]
    exact h1 s hs
theorem fregs_natL {y : LayD} {s : Nat} : fregs y (natL (s + 1)) = fregs y (natL s) ++ frA y s (farV y.body s).toNat := by
  have h := fregs_take (y := y) (L := natL (s + 1)) (i := s) (by rw [natL_len]; omega)
  rw [natL_take (Nat.le_refl _), natL_take (by omega), natL_ele (by omega)] at h
  exact h
section
variable {l : Lp} {t : Tgt} {k : Krn} {order : List Int}
theorem fregs_len {y : LayD} (hy : y.Ok) : ∀ s : Nat, (fregs y (natL s)).length ≤ 3 * s
  | 0 => by simp [natL, fregs]
  | s + 1 => by
    rw [fregs_natL, List.length_append]
    have := fregs_len hy s
    have hf := far_bd hy (s : Int)
    have : (frA y s (farV y.body s).toNat).length = (farV y.body s).toNat := by unfold frA; simp
    omega
theorem uses_loop (h : LayP l t k order) {s : Nat} (hs : s < l.body.length) :
    ((∀ i, i < (usesL (ele l.body (s : Int))).length → NameP l t k order s i ∧ KeptP (layK l t k order) (ele (usesL (ele l.body (s : Int))) (i : Int)) (ele (layK l t k order).time (s : Int) + (ele (usesL (ele l.body (s : Int))) (i : Int)).bk * k.pace)) ∧ lp (roundelayref10_Takes_L4 t k order (offsK l t k order, true) s (usesL (ele l.body (s : Int)))) 0 = some (.go ((usesL (ele l.body (s : Int))).length : Int))) ∨
    (¬ (∀ i, i < (usesL (ele l.body (s : Int))).length → NameP l t k order s i ∧ KeptP (layK l t k order) (ele (usesL (ele l.body (s : Int))) (i : Int)) (ele (layK l t k order).time (s : Int) + (ele (usesL (ele l.body (s : Int))) (i : Int)).bk * k.pace)) ∧ lp (roundelayref10_Takes_L4 t k order (offsK l t k order, true) s (usesL (ele l.body (s : Int)))) 0 = some (.ret false)) := by
  have hy := layK_ok h
  have hlen := usesL_len (ele l.body (s : Int))
  have hR := hy.regs
  have hp := h.may.pace
  have ho := opr_bd h.may (LayP.opr h.may h.n (h.ord s hs).1)
  have hts := hy.tm s hs
  obtain ⟨s1, s2, s3⟩ := offs_at (t := t) (k := k) (order := order) hs
  rcases lp_det2 (f := roundelayref10_Takes_L4 t k order (offsK l t k order, true) s (usesL (ele l.body (s : Int)))) (ρ := Bool) (fun i => (i : Int)) (usesL (ele l.body (s : Int))).length (fun i => NameP l t k order s i ∧ KeptP (layK l t k order) (ele (usesL (ele l.body (s : Int))) (i : Int)) (ele (layK l t k order).time (s : Int) + (ele (usesL (ele l.body (s : Int))) (i : Int)).bk * k.pace)) (fun _ => false) (fun i hi _ => by
      have hu := layK_us h s hs _ (ele_mem' hi)
      obtain ⟨a, ha⟩ := Int.eq_ofNat_of_zero_le hu.1
      have hb' : (layK l t k order).body.length = l.body.length := rfl
      have ha' : a < l.body.length := by have := hu.2.1; omega
      have pa := hy.pl a ha'
      obtain ⟨a1, a2, a3⟩ := offs_at (t := t) (k := k) (order := order) ha'
      have m1 := mul_le (a := (ele (usesL (ele l.body (s : Int))) (i : Int)).bk) (A := 3) (b := k.pace) (B := 200) (by omega) hu.2.2.2 (by omega) (by omega)
      have hbk : 0 ≤ (ele (usesL (ele l.body (s : Int))) (i : Int)).bk ∧ (ele (usesL (ele l.body (s : Int))) (i : Int)).bk ≤ 3 := hu.2.2
      have hst : (ele (usesL (ele l.body (s : Int))) (i : Int)).st = (a : Int) := ha
      unfold roundelayref10_Takes_L4
      simp only
      have hname : (br ((i : Int) == 1) (some (Out.go (ele k.ops (ele order (s : Int))).b)) (some (Out.go (ele k.ops (ele order (s : Int))).a)) : Option (Out Int Empty)) = some (.go (nameO (oprAt k order s) i)) := by
        unfold nameO
        by_cases c : i = 1
        · subst c; rfl
        · rw [show ((i : Int) == 1) = false from by simp; omega, if_neg c]; rfl
      rw [br_T (by unfold ln; omega), hname, bd_ret, Out.on_go, ck_IX (by omega) (by unfold ln; omega), hst, ck_IX (by omega) (by rw [offs_ln]; omega), ck_IX (by omega) (by unfold ln; omega), a3, ck_IR (by omega) (by omega)]
      rw [show (ele k.ops (ele order (s : Int))).stage = (oprAt k order s).stage from rfl, ck_IR (by omega) (by omega), Rest_s _ _ (by show 0 < (layK l t k order).regs; omega) (by show (layK l t k order).regs ≤ _; omega), bd_ret, ck_imp (fun _ => ⟨by omega, by unfold ln; omega⟩), ck_imp (fun _ => ⟨by omega, by rw [offs_ln]; omega⟩), ck_imp (fun _ => ⟨by omega, by unfold ln; omega⟩), ck_imp (fun _ => ⟨by omega, by omega⟩), s1, ck_imp (fun _ => ⟨by omega, by omega⟩), kept_s h ⟨hu.1, by have := hu.2.1; omega⟩, bdG_some']
      have hnp : (nameO (oprAt k order s) i != (ele (layK l t k order).places (a : Int) - (ele (usesL (ele l.body (s : Int))) (i : Int)).bk - (oprAt k order s).stage) % t.regs) = !tb (NameP l t k order s i) := by
        unfold NameP
        rw [hst, neB]
      rw [hnp]
      by_cases c1 : NameP l t k order s i
      · by_cases c2 : KeptP (layK l t k order) (ele (usesL (ele l.body (s : Int))) (i : Int)) (ele (layK l t k order).time (s : Int) + (ele (usesL (ele l.body (s : Int))) (i : Int)).bk * k.pace)
        · rw [tb_t c1, tb_t c2, show ((!true) || (!(if (!(!true)) = true then true else false))) = false from rfl, br_false, ck_IR (by omega) (by omega)]
          exact ⟨fun _ => rfl, fun h => absurd ⟨c1, c2⟩ h⟩
        · rw [tb_t c1, tb_f c2]
          exact ⟨fun h => absurd h.2 c2, fun _ => rfl⟩
      · rw [tb_f c1]
        exact ⟨fun h => absurd h.1 c1, fun _ => rfl⟩) (by unfold roundelayref10_Takes_L4; exact br_F (by unfold ln; omega)) with ⟨q1, e⟩ | ⟨i, q1, q2, _, e⟩
  · exact .inl ⟨q1, e⟩
  · exact .inr ⟨fun h => q2 (h i q1), e⟩
theorem first_loop (h : LayP l t k order) {s : Nat} (hs : s < l.body.length) :
    ((∀ q, q < (farV l.body s).toNat → regF (layK l t k order) s q ∉ fregs (layK l t k order) (natL s) ++ frA (layK l t k order) s q) ∧ lp (roundelayref10_Takes_L6 l t (offsK l t k order, true) s) (fregs (layK l t k order) (natL s), 1) = some (.go (fregs (layK l t k order) (natL (s + 1)), (((farV l.body s).toNat : Nat) : Int) + 1))) ∨
    (¬ (∀ q, q < (farV l.body s).toNat → regF (layK l t k order) s q ∉ fregs (layK l t k order) (natL s) ++ frA (layK l t k order) s q) ∧ lp (roundelayref10_Takes_L6 l t (offsK l t k order, true) s) (fregs (layK l t k order) (natL s), 1) = some (.ret false)) := by
  have hy := layK_ok h
  have hR := hy.regs
  have hf : 0 ≤ farV l.body s ∧ farV l.body s ≤ 3 := far_bd hy (s : Int)
  have hn := h.loop.2.2.1
  have hfl := fregs_len hy s
  have ps := hy.pl s hs
  obtain ⟨s1, s2, s3⟩ := offs_at (t := t) (k := k) (order := order) hs
  have hfar : roundelayref10_Far_m l (s : Int) = some (farV l.body s) := rfar_s hn hy.bk s
  rw [fregs_natL]
  rcases lp_det2 (f := roundelayref10_Takes_L6 l t (offsK l t k order, true) s) (ρ := Bool) (fun q => (fregs (layK l t k order) (natL s) ++ frA (layK l t k order) s q, (q : Int) + 1)) (farV l.body s).toNat (fun q => regF (layK l t k order) s q ∉ fregs (layK l t k order) (natL s) ++ frA (layK l t k order) s q) (fun _ => false) (fun q hq _ => by
      have hlen : (fregs (layK l t k order) (natL s) ++ frA (layK l t k order) s q).length ≤ 3 * s + q := by rw [List.length_append]; unfold frA; simp; omega
      have hreg : (ele (layK l t k order).places (s : Int) - ((q : Int) + 1)) % t.regs = regF (layK l t k order) s q := by
        unfold regF
        rw [show ele (layK l t k order).places (s : Int) - (q : Int) - 1 = ele (layK l t k order).places (s : Int) - ((q : Int) + 1) from by omega]
        rfl
      unfold roundelayref10_Takes_L6
      simp only
      rw [hfar, bd_ret, br_T (by omega), ck_IX (by omega) (by rw [offs_ln]; omega), s3, ck_IR (by omega) (by omega), Rest_s _ _ (by show 0 < (layK l t k order).regs; omega) (by show (layK l t k order).regs ≤ _; omega), bd_ret, hreg]
      obtain ⟨F, hF⟩ : ∃ F, F = fregs (layK l t k order) (natL s) ++ frA (layK l t k order) s q := ⟨_, rfl⟩
      rw [← hF] at hlen ⊢
      rcases lp_det2 (f := roundelayref10_Takes_L8 F (regF (layK l t k order) s q)) (ρ := Bool) (fun i => (i : Int)) F.length (fun i => ele F (i : Int) ≠ regF (layK l t k order) s q) (fun _ => false) (fun i hi _ => by
          unfold roundelayref10_Takes_L8
          rw [br_T (by unfold ln; omega), ck_IX (by omega) (by unfold ln; omega)]
          exact ⟨fun h => by rw [show (ele F (i : Int) == regF (layK l t k order) s q) = false from by simp [h], br_false, ck_IR (by omega) (by omega)]; rfl, fun h => by rw [show (ele F (i : Int) == regF (layK l t k order) s q) = true from by simpa using h, br_true]⟩) (by unfold roundelayref10_Takes_L8; exact br_F (by unfold ln; omega)) with ⟨w1, e⟩ | ⟨i, w1, w2, _, e⟩
      · rw [show lp (roundelayref10_Takes_L8 F (regF (layK l t k order) s q)) 0 = _ from e, bd_ret, Out.on_go, ck_yes (AL8 (by simp; omega)), ck_IR (by omega) (by omega)]
        exact ⟨fun _ => by rw [frA_succ, ← List.append_assoc, ← hF]; rfl, fun hh => absurd (fun hm => by
          obtain ⟨i, hi, he⟩ := mem_ele hm
          exact w1 i hi he) hh⟩
      · rw [show lp (roundelayref10_Takes_L8 F (regF (layK l t k order) s q)) 0 = _ from e, bd_ret, Out.on_ret]
        exact ⟨fun hh => absurd (by rw [← Classical.not_not.1 w2]; exact ele_mem' w1) hh, fun _ => rfl⟩) (by
      unfold roundelayref10_Takes_L6
      simp only
      rw [hfar, bd_ret]
      exact br_F (by omega)) with ⟨q1, e⟩ | ⟨q, q1, q2, _, e⟩
  · refine .inl ⟨q1, ?_⟩
    rw [show frA (layK l t k order) s 0 = [] from rfl, List.append_nil] at e
    exact e
  · refine .inr ⟨fun h => q2 (h q q1), ?_⟩
    rw [show frA (layK l t k order) s 0 = [] from rfl, List.append_nil] at e
    exact e
end
end Go.Rd
end

section
namespace Go.Rd
set_option linter.unusedVariables false
theorem Takes_s {l : Lp} (hf : l.Fine) {t : Tgt} {k : Krn} {order : List Int} (hk : KFine l k) (ho : order.length ≤ 9223372036854775807) : roundelayref10_Takes_m l t k order = some (tb (TakesP l t k order)) := by
  unfold roundelayref10_Takes_m
  rw [Layout_s hf hk ho, bd_ret]
  by_cases h : LayP l t k order
  · rw [tb_t h, if_pos rfl]
    obtain ⟨E, e1, e2, e3, e4, e5⟩ := edges_both h.loop hf h.tgt
    have hy := layK_ok h
    have hp := h.may.pace
    have hn := h.loop.2.2.1
    rw [show (!((offsK l t k order, true) : List Off × Bool).2) = false from rfl, br_false, e2, bd_ret, show ((List.range l.body.length).map (offK t k order), true) = (offsK l t k order, true) from rfl]
    rcases lp_all (f := roundelayref10_Takes_L0 k (offsK l t k order, true) E) (n := E.length) (p := fun i => TEdgeP (layK l t k order) (ele E (i : Int))) (fun i hi _ => by
        have hin := ((e4 _).1 (ele_mem' hi)).in h.loop
        obtain ⟨a, ha⟩ := Int.eq_ofNat_of_zero_le hin.to.1
        obtain ⟨b, hb⟩ := Int.eq_ofNat_of_zero_le hin.fr.1
        have ha' : a < l.body.length := by have := hin.to.2; omega
        have hb' : b < l.body.length := by have := hin.fr.2; omega
        have ta := hy.tm a ha'; have tb_ := hy.tm b hb'
        have hbk := hin.bk; have hwt := hin.wt
        have m1 := mul_le (a := (ele E (i : Int)).bk) (A := 32) (b := k.pace) (B := 200) (by omega) (by omega) (by omega) (by omega)
        obtain ⟨a1, _, _⟩ := offs_at (t := t) (k := k) (order := order) ha'
        obtain ⟨b1, _, _⟩ := offs_at (t := t) (k := k) (order := order) hb'
        have e : roundelayref10_Takes_L0 k (offsK l t k order, true) E i = br (!tb (TEdgeP (layK l t k order) (ele E (i : Int)))) (some (.ret false)) (some (.next ((i : Int) + 1))) := by
          unfold roundelayref10_Takes_L0
          simp only
          rw [br_T (by unfold ln; omega), ck_IX (by omega) (by unfold ln; omega), ha, hb, ck_IX (by omega) (by rw [offs_ln]; omega), ck_IR (by omega) (by omega), a1, b1, ck_IR (by omega) (by omega), ck_IX (by omega) (by rw [offs_ln]; omega), ck_IR (by omega) (by omega), ck_IR (by omega) (by omega)]
          congr 1
          have : (!decide (ele (layK l t k order).time (a : Int) + (ele E (i : Int)).bk * k.pace < ele (layK l t k order).time (b : Int) + (ele E (i : Int)).wt)) = tb (TEdgeP (layK l t k order) (ele E (i : Int))) := tb_eq (by
            unfold TEdgeP
            rw [ha, hb, show (layK l t k order).pace = k.pace from rfl]
            simp)
          rw [← this, Bool.not_not]
        rw [e]
        exact ⟨fun h => by rw [tb_t h]; rfl, fun h => by rw [tb_f h]; rfl⟩) (by unfold roundelayref10_Takes_L0; exact br_F (by unfold ln; omega)) with ⟨q1, w1⟩ | ⟨q1, w1⟩
    · rw [w1, bd_ret, Out.on_go]
      have X := lp_det2 (f := roundelayref10_Takes_L2 l t k order (offsK l t k order, true)) (ρ := Bool) (fun s => (fregs (layK l t k order) (natL s), (s : Int))) l.body.length (fun s => (∀ i, i < (usesL (ele l.body (s : Int))).length → NameP l t k order s i ∧ KeptP (layK l t k order) (ele (usesL (ele l.body (s : Int))) (i : Int)) (ele (layK l t k order).time (s : Int) + (ele (usesL (ele l.body (s : Int))) (i : Int)).bk * k.pace)) ∧ (∀ q, q < (farV l.body s).toNat → regF (layK l t k order) s q ∉ fregs (layK l t k order) (natL s) ++ frA (layK l t k order) s q)) (fun _ => false) (fun s hs _ => by
        have hor := h.ord s hs
        have hno := h.no; have hnn := h.n
        unfold roundelayref10_Takes_L2
        simp only
        rw [br_T (by rw [offs_ln]; omega), ck_IX (by omega) (by unfold ln; omega), ck_IX hor.1.1 (by unfold ln; rw [hnn]; exact hor.1.2), ck_IX (by omega) (by unfold ln; omega), ref_Uses_s, bd_ret]
        rcases uses_loop h hs with ⟨u1, u2⟩ | ⟨u1, u2⟩
        · rw [u2, bd_ret, Out.on_go]
          rcases first_loop h hs with ⟨f1, f2⟩ | ⟨f1, f2⟩
          · rw [f2, bd_ret, Out.on_go]
            simp only
            rw [ck_IR (by omega) (by omega)]
            exact ⟨fun _ => rfl, fun hh => absurd ⟨u1, f1⟩ hh⟩
          · rw [f2, bd_ret, Out.on_ret]
            exact ⟨fun hh => absurd hh.2 f1, fun _ => rfl⟩
        · rw [u2, bd_ret, Out.on_ret]
          exact ⟨fun hh => absurd hh.1 u1, fun _ => rfl⟩) (by unfold roundelayref10_Takes_L2; exact br_F (by rw [offs_ln]; omega))
      rcases X with ⟨q2, w2⟩ | ⟨s, q2, q3, _, w2⟩
      · rw [show lp (roundelayref10_Takes_L2 l t k order (offsK l t k order, true)) ([], 0) = _ from w2, bd_ret, Out.on_go]
        simp only
        have hout := outs_len h.loop
        rcases lp_all (f := roundelayref10_Takes_L10 l t k (offsK l t k order, true)) (n := l.outs.length) (p := fun i => ToldP (layK l t k order) (ele l.outs (i : Int))) (fun i hi _ => by
            have ho := h.loop.out i hi
            rw [show l.outs.getD i 0 = ele l.outs (i : Int) from rfl] at ho
            obtain ⟨a, ha⟩ := Int.eq_ofNat_of_zero_le ho.1
            unfold roundelayref10_Takes_L10
            rw [br_T (by unfold ln; omega), ck_IX (by omega) (by unfold ln; omega), ha, told_s h (show a < l.body.length by omega), bd_ret]
            exact ⟨fun hh => by rw [tb_t hh, Bool.not_true, br_false, ck_IR (by omega) (by omega)], fun hh => by rw [tb_f hh]; rfl⟩) (by unfold roundelayref10_Takes_L10; exact br_F (by unfold ln; omega)) with ⟨q4, w3⟩ | ⟨q4, w3⟩
        · rw [w3, bd_ret, Out.on_go, tb_t (p := TakesP l t k order)]
          exact ⟨h, (all_edges e4).1 q1, fun s hs i hi => ((q2 s hs).1 i hi).1, (keep_iff h).1 ⟨fun s hs i hi => ((q2 s hs).1 i hi).2, q4⟩, (firsts_iff _).2 fun s hs => (q2 s hs).2⟩
        · rw [w3, bd_ret, Out.on_ret, tb_f fun hh : TakesP l t k order => q4 ((keep_iff h).2 hh.apart).2]
      · rw [show lp (roundelayref10_Takes_L2 l t k order (offsK l t k order, true)) ([], 0) = _ from w2, bd_ret, Out.on_ret, tb_f]
        exact fun hh : TakesP l t k order => q3 ⟨fun i hi => ⟨hh.name s q2 i hi, ((keep_iff h).2 hh.apart).1 s q2 i hi⟩, (firsts_iff _).1 hh.firsts s q2⟩
    · rw [w1, bd_ret, Out.on_ret, tb_f fun hh : TakesP l t k order => q1 ((all_edges e4).2 hh.edge)]
  · rw [tb_f h, tb_f fun hh : TakesP l t k order => h hh.lay]
    rfl
end Go.Rd
end

section
namespace Go.Rd
set_option linter.unusedVariables false
theorem tmod_bd1 {a b : Int} (ha : 0 ≤ a) (hb : 1 ≤ b) : 0 ≤ Int.tmod a b ∧ Int.tmod a b < b := by
  rw [Int.tmod_eq_emod_of_nonneg ha]
  exact ⟨Int.emod_nonneg _ (by omega), Int.emod_lt_of_pos _ (by omega)⟩
theorem stages_ge {p : Pln} : ∀ n i : Nat, i < n → stgV p i + 1 ≤ stagesV p n
  | n + 1, i, h => by
    show stgV p i + 1 ≤ max (stagesV p n) (stgV p n + 1)
    by_cases e : i = n
    · subst e; omega
    · have := stages_ge (p := p) n i (by omega); omega
theorem stages_le {p : Pln} {n : Nat} (h : ∀ i : Nat, i < n → stgV p i ≤ 1000) : ∀ k, k ≤ n → 0 ≤ stagesV p k ∧ stagesV p k ≤ 1001
  | 0, _ => by show 0 ≤ (0 : Int) ∧ (0 : Int) ≤ 1001; omega
  | k + 1, hk => by
    have := stages_le h k (by omega)
    have := h k (by omega)
    show 0 ≤ max (stagesV p k) (stgV p k + 1) ∧ max (stagesV p k) (stgV p k + 1) ≤ 1001
    omega
theorem dest_ele {t : Tgt} {p : Pln} {n : Nat} {v : List Int} {i : Nat} (hi : i < n) : ele (destV t p n v) (i : Int) = (ele v (i : Int) - stgV p i) % t.regs := ele_rm hi
theorem emit_ok {l : Lp} {t : Tgt} {p : Pln} (h : LegalP l t p) {v : List Int} : EmitP l t p (destV t p l.body.length v) := by
  have ht := h.tgt
  rw [tgtOk_iff] at ht
  refine ⟨h, by unfold destV; simp, fun i hi => ?_⟩
  unfold DestOk
  rw [dest_ele hi]
  exact ⟨Int.emod_nonneg _ (by omega), Int.emod_lt_of_pos _ (by omega)⟩
section
variable {l : Lp} {t : Tgt} {p : Pln} {v : List Int}
def krnN (l : Lp) (t : Tgt) (p : Pln) (v : List Int) : Krn := krnV l t p (destV t p l.body.length v)
theorem opr_N {i : Nat} (hi : i < l.body.length) : oprAt (krnN l t p v) (natL l.body.length) i = oprV l t p (destV t p l.body.length v) i (usesL (ele l.body (i : Int))) := by
  unfold oprAt
  rw [natL_ele hi]
  exact ele_rm hi
theorem ops_N {i : Nat} (hi : i < l.body.length) : ele (krnN l t p v).ops (i : Int) = oprV l t p (destV t p l.body.length v) i (usesL (ele l.body (i : Int))) := ele_rm hi
theorem time_N (h : LegalP l t p) {i : Nat} (hi : i < l.body.length) : Int.tmod (ele p.times (i : Int)) p.pace + p.pace * stgV p i = ele p.times (i : Int) ∧ stgV p i * p.pace + Int.tmod (ele p.times (i : Int)) p.pace = ele p.times (i : Int) := by
  have := Int.tmod_add_mul_tdiv (ele p.times (i : Int)) p.pace
  unfold stgV
  refine ⟨this, ?_⟩
  rw [Int.mul_comm]; omega
theorem ab_bd (h : LegalP l t p) {i : Nat} (us : List Rf) (ds : List Int) : 0 ≤ (abV t p ds i us).1 ∧ (abV t p ds i us).1 < t.regs ∧ 0 ≤ (abV t p ds i us).2 ∧ (abV t p ds i us).2 < t.regs := by
  have ht := h.tgt
  rw [tgtOk_iff] at ht
  have hr : ∀ r, 0 ≤ regV t p ds i r ∧ regV t p ds i r < t.regs := fun r => ⟨Int.emod_nonneg _ (by omega), Int.emod_lt_of_pos _ (by omega)⟩
  unfold abV
  split
  · simp only; omega
  · rename_i a
    have := hr a
    simp only; omega
  · rename_i a b _
    have := hr a; have := hr b
    simp only; omega
theorem uses_cases (s : Stm) : (usesN s.op < 1 → usesL s = []) ∧ (usesN s.op < 2 → (usesL s).length < 2) := by
  unfold usesN usesL
  by_cases h : s.op = 4
  · simp [h]
  · by_cases h2 : s.op > 10
    · simp [h, h2]
    · simp [h, h2]
theorem stm_ok (hl : LoopOk l) {i : Nat} (hi : i < l.body.length) {o : Opr} (ho : SameO o (ele l.body (i : Int))) : LoopOk (lpO l.logs o) := by
  have hs := hl.stm i hi
  rw [show l.body.getD i Stm.zero = ele l.body (i : Int) from rfl] at hs
  obtain ⟨o1, o2, o3, o4, o5⟩ := ho
  refine ⟨hl.1, by show 1 ≤ 2; omega, by show 2 ≤ 16; omega, hl.2.2.2.1, fun j hj => by
    have : (lpO l.logs o).outs.length = 0 := rfl
    omega, fun j hj => ?_⟩
  have hj' : j = 0 ∨ j = 1 := by
    have : (lpO l.logs o).body.length = 2 := rfl
    omega
  have hr : ∀ k : Int, 0 < k → RefOk 2 k ⟨0, 0⟩ := fun k hk => ⟨by show (0 : Int) ≤ 0; omega, by show (0 : Int) ≤ 3; omega, by show (0 : Int) ≤ 0; omega, fun _ => hk, fun hh => absurd rfl hh⟩
  have hz : Rf.isZero ⟨0, 0⟩ := ⟨rfl, rfl⟩
  rcases hj' with rfl | rfl
  · show StmtOk _ _ _ turnS
    refine ⟨fun hh => ?_, fun hh => ?_, .inr (.inl ⟨rfl, rfl, ⟨rfl, rfl, rfl⟩, hz, hz⟩)⟩
    · rcases hh with hh | hh
      · exact absurd hh (by decide)
      · exact absurd hh (by decide)
    · exact absurd hh (by decide)
  · show StmtOk l.logs.length 2 1 (stmO o)
    refine ⟨fun _ => hr _ (by omega), fun _ => hr _ (by omega), ?_⟩
    have h3 := hs.2.2
    have q : (stmO o).op = (ele l.body (i : Int)).op ∧ (stmO o).ar = (ele l.body (i : Int)).ar ∧ (stmO o).sp = (ele l.body (i : Int)).sp ∧ (stmO o).pl = (ele l.body (i : Int)).pl ∧ (stmO o).n = (ele l.body (i : Int)).n := ⟨o1, o2, o3, o4, o5⟩
    obtain ⟨p1, p2, p3, p4, p5⟩ := q
    unfold StillOk WordOk at *
    rw [p1, p2, p3, p4, p5]
    rcases h3 with h3 | h3 | h3 | h3 | h3
    · exact .inl ⟨h3.1, h3.2.1, hz, hz⟩
    · exact .inr (.inl ⟨h3.1, h3.2.1, h3.2.2.1, hz, hz⟩)
    · exact .inr (.inr (.inl ⟨h3.1, h3.2.1, h3.2.2.1, hz, hz⟩))
    · exact .inr (.inr (.inr (.inl ⟨h3.1, h3.2.1, h3.2.2.1, hz⟩)))
    · exact .inr (.inr (.inr (.inr h3)))
theorem same_N {i : Nat} {ds : List Int} {us : List Rf} : SameO (oprV l t p ds i us) (ele l.body (i : Int)) := ⟨rfl, rfl, rfl, rfl, rfl⟩
theorem krn_may (h : LegalP l t p) : KMayP t (krnN l t p v) l.logs := by
  have hn := h.loop.2.2.1
  have hn1 := h.loop.2.1
  have hp := h.pace
  have hlen : (krnN l t p v).ops.length = l.body.length := krn_len
  have hst : ∀ i : Nat, i < l.body.length → stgV p i ≤ 1000 := fun i hi => (stg_bd hp (h.rng i hi)).2
  have hsl := stages_le hst l.body.length (Nat.le_refl _)
  have hsg := stages_ge (p := p) l.body.length 0 (by omega)
  have hs0 := (stg_bd hp (h.rng 0 (by omega))).1
  have hE := emit_ok h (v := v)
  refine ⟨h.tgt, hp, ⟨by show 1 ≤ stagesV p l.body.length; have hs0' : 0 ≤ stgV p (0 : Nat) := hs0; omega, hsl.2⟩, by omega, fun i hi => ?_, fun i hi => ?_⟩
  · have hi' : i < l.body.length := by omega
    rw [ops_N hi']
    have hs := stg_bd hp (h.rng i hi')
    have hr := h.rng i hi'
    unfold RngP at hr
    have hm := tmod_bd1 hr.1 hp.1
    have ht := time_N h hi'
    have hg := stages_ge (p := p) l.body.length i hi'
    have hd := hE.2.2 i hi'
    unfold DestOk at hd
    have hab := ab_bd h (i := i) (usesL (ele l.body (i : Int))) (destV t p l.body.length v)
    have hu := uses_cases (ele l.body (i : Int))
    refine ⟨⟨hm.1, hm.2, hs.1, by show stgV p i < stagesV p l.body.length; omega, by show stgV p i * p.pace + Int.tmod (ele p.times (i : Int)) p.pace ≤ 1000; rw [ht.2]; omega⟩, ⟨hd.1, hd.2, hab.1, hab.2.1, hab.2.2.1, hab.2.2.2, fun hh => ?_, fun hh => ?_⟩, stm_ok h.loop hi' same_N⟩
    · show (abV t p _ i (usesL (ele l.body (i : Int)))).1 = 0
      rw [hu.1 hh]; rfl
    · show (abV t p _ i (usesL (ele l.body (i : Int)))).2 = 0
      have := hu.2 hh
      match usesL (ele l.body (i : Int)), this with
      | [], _ => rfl
      | [_], _ => rfl
  · have hi' : i < l.body.length := by omega
    have hkey : ∀ j, j < l.body.length → keyO (krnN l t p v) j = keyK l p j := fun j hj => by
      unfold keyO keyK
      rw [ops_N hj]; rfl
    rw [hkey i hi', hlen]
    have hc : cntO (krnN l t p v) l.body.length (keyK l p i) = cntK l p l.body.length (keyK l p i) := by
      unfold cntO cntK
      refine List.countP_congr fun j hj => ?_
      rw [hkey j (List.mem_range.1 hj)]
    rw [hc]
    exact h.units i hi'
theorem krn_lay (h : LegalP l t p) : LayP l t (krnN l t p v) (natL l.body.length) := by
  refine ⟨h.loop, h.tgt, krn_may h, krn_len, natL_len _, fun s hs => ⟨?_, fun i hi => ?_, ?_⟩⟩
  · rw [natL_ele hs]; omega
  · rw [natL_ele hs, natL_ele (show i < l.body.length by omega)]; omega
  · rw [opr_N hs]; exact same_N
theorem mod_shift {x s c R : Int} : ((x - s) % R + s - c) % R = (x - c) % R := by
  have h := Int.emod_add_mul_ediv (x - s) R
  rw [show (x - s) % R + s - c = (x - c) - R * ((x - s) / R) from by omega, Int.sub_mul_emod_self_left]
theorem lay_at (h : LegalP l t p) {i : Nat} (hi : i < l.body.length) :
    ele (layK l t (krnN l t p v) (natL l.body.length)).time (i : Int) = ele p.times (i : Int) ∧ ele (layK l t (krnN l t p v) (natL l.body.length)).ready (i : Int) = ele p.times (i : Int) + waitV t (ele l.body (i : Int)).op ∧
    ele (layK l t (krnN l t p v) (natL l.body.length)).places (i : Int) = (ele v (i : Int) - stgV p i) % t.regs + stgV p i := by
  have ht := time_N h hi
  have e1 : (offK t (krnN l t p v) (natL l.body.length) i).time = ele p.times (i : Int) := by
    show timeK _ (oprAt _ _ i) = _
    rw [opr_N hi]
    exact ht.1
  refine ⟨(ele_rm hi).trans e1, (ele_rm hi).trans ?_, (ele_rm hi).trans ?_⟩
  · show timeK _ (oprAt _ _ i) + waitV t (oprAt _ _ i).op = _
    rw [opr_N hi]
    show Int.tmod (ele p.times (i : Int)) p.pace + p.pace * stgV p i + _ = _
    rw [ht.1]; rfl
  · show (oprAt _ _ i).dest + (oprAt _ _ i).stage = _
    rw [opr_N hi]
    show ele (destV t p l.body.length v) (i : Int) + stgV p i = _
    rw [dest_ele hi]
theorem lp_at {i : Nat} (hi : i < l.body.length) : ele ((layP l t p).wp v).ready (i : Int) = ele p.times (i : Int) + waitV t (ele l.body (i : Int)).op := ele_rm hi
theorem krn_takes (h : LegalP l t p) (hv : PlOk (layP l t p) v) (hf : AllFine ((layP l t p).wp v)) : TakesP l t (krnN l t p v) (natL l.body.length) := by
  have hL := krn_lay h (v := v)
  have ht := h.tgt
  rw [tgtOk_iff] at ht
  refine ⟨hL, fun e he => ?_, fun s hs i hi => ?_, fun a m ha hm => ?_, ?_⟩
  · have hin := he.in h.loop
    have h2 := h.edge e he
    obtain ⟨a, ha⟩ := Int.eq_ofNat_of_zero_le hin.to.1
    obtain ⟨b, hb⟩ := Int.eq_ofNat_of_zero_le hin.fr.1
    unfold TEdgeP
    unfold EdgOk at h2
    have ha' : a < l.body.length := by have := hin.to.2; omega
    have hb' : b < l.body.length := by have := hin.fr.2; omega
    rw [ha, hb] at h2 ⊢
    rw [(lay_at h ha').1, (lay_at h hb').1]
    exact h2
  · have hu := layK_us hL s hs _ (ele_mem' hi)
    obtain ⟨a, ha⟩ := Int.eq_ofNat_of_zero_le hu.1
    have ha' : a < l.body.length := by have := hu.2.1; omega
    unfold NameP
    rw [ha, (lay_at h ha').2.2, opr_N hs]
    have hr : regV t p (destV t p l.body.length v) s (ele (usesL (ele l.body (s : Int))) (i : Int)) = ((ele v (a : Int) - stgV p a) % t.regs + stgV p a - (ele (usesL (ele l.body (s : Int))) (i : Int)).bk - stgV p s) % t.regs := by
      unfold regV
      rw [ha, dest_ele ha']
    rw [show (oprV l t p (destV t p l.body.length v) s (usesL (ele l.body (s : Int)))).stage = stgV p s from rfl, ← hr]
    have hlen := usesL_len (ele l.body (s : Int))
    show nameO ⟨_, _, _, _, (abV t p _ s (usesL (ele l.body (s : Int)))).1, (abV t p _ s (usesL (ele l.body (s : Int)))).2, _, _, _, _⟩ i = _
    generalize usesL (ele l.body (s : Int)) = us at *
    match us, hlen, hi with
    | [x], _, hi =>
      have : i = 0 := by simp at hi; omega
      subst this; rfl
    | [x, z], _, hi =>
      have : i = 0 ∨ i = 1 := by simp at hi; omega
      rcases this with rfl | rfl <;> rfl
  · intro j hj hz hb
    have ea := lay_at h (v := v) ha; have em := lay_at h (v := v) hm
    refine hf.1 a m ha hm j hj ?_ ?_
    · show (ele v (m : Int) + j - ele v (a : Int)) % t.regs = 0
      have hz' : (((ele v (m : Int) - stgV p m) % t.regs + stgV p m) + j - ((ele v (a : Int) - stgV p a) % t.regs + stgV p a)) % t.regs = 0 := by
        rw [← ea.2.2, ← em.2.2]; exact hz
      have h1 := Int.emod_add_mul_ediv (ele v (a : Int) - stgV p a) t.regs
      have h2 := Int.emod_add_mul_ediv (ele v (m : Int) - stgV p m) t.regs
      rw [show ele v (m : Int) + j - ele v (a : Int) = (((ele v (m : Int) - stgV p m) % t.regs + stgV p m) + j - ((ele v (a : Int) - stgV p a) % t.regs + stgV p a)) - t.regs * ((ele v (a : Int) - stgV p a) / t.regs - (ele v (m : Int) - stgV p m) / t.regs) from by rw [Int.mul_sub]; omega, Int.sub_mul_emod_self_left]
      exact hz'
    · have ra : ele ((layP l t p).wp v).ready (a : Int) = ele (layK l t (krnN l t p v) (natL l.body.length)).ready (a : Int) := (lp_at ha).trans ea.2.1.symm
      have rm : ele ((layP l t p).wp v).ready (m : Int) = ele (layK l t (krnN l t p v) (natL l.body.length)).ready (m : Int) := (lp_at hm).trans em.2.1.symm
      rcases hb with ⟨k, r, q1, q2, q3, q4⟩ | ⟨q1, q2, q3⟩
      · refine .inl ⟨k, r, q1, q2, q3, ?_⟩
        rw [ra, rm, show ele ((layP l t p).wp v).time (k : Int) = ele (layK l t (krnN l t p v) (natL l.body.length)).time (k : Int) from (lay_at h q1).1.symm]
        exact q4
      · refine .inr ⟨q1, ?_, q3⟩
        rw [ra, rm]; exact q2
  · have hfi := hf.2
    have e : fregs (layK l t (krnN l t p v) (natL l.body.length)) (natL l.body.length) = fregs ((layP l t p).wp v) (natL l.body.length) := by
      unfold fregs
      refine congrArg List.flatten (List.map_congr_left fun a ha => ?_)
      have hb := natL_mem ha
      obtain ⟨i, hi⟩ := Int.eq_ofNat_of_zero_le hb.1
      subst hi
      refine rm_congr fun q hq => ?_
      unfold regF
      rw [(lay_at h (v := v) (show i < l.body.length by omega)).2.2]
      show ((ele v (i : Int) - stgV p i) % t.regs + stgV p i - (q : Int) - 1) % t.regs = (ele v (i : Int) - (q : Int) - 1) % t.regs
      rw [show (ele v (i : Int) - stgV p i) % t.regs + stgV p i - (q : Int) - 1 = (ele v (i : Int) - stgV p i) % t.regs + stgV p i - ((q : Int) + 1) from by omega, mod_shift]
      rw [show ele v (i : Int) - ((q : Int) + 1) = ele v (i : Int) - (q : Int) - 1 from by omega]
    unfold FirstsP
    rw [e]
    exact hfi
end
end Go.Rd
end

section
namespace Go.Rd
set_option linter.unusedVariables false
noncomputable def roundelaylaw_natural_L0 (n_ : Int) : ((List Int) × Int) → Option (Stp ((List Int) × Int) (Empty)) := fun (v1_1, i4_1) =>
 br (decide (i4_1 < n_)) (
 ck (AL (v1_1 ++ [i4_1]).length 8) <|
 ck (IR (i4_1 + 1)) <|
 some (.next ((v1_1 ++ [i4_1]), (i4_1 + 1)))) (
 some (.brk (v1_1, i4_1)))
noncomputable def roundelaylaw_natural_m (n_ : Int) : Option (List Int) :=
 bd (lp (roundelaylaw_natural_L0 n_) ([], 0)) fun o2 => o2.on (fun (v1_1, i4_1) =>
 some v1_1) (fun r => r.elim)

noncomputable def roundelaylaw_over_L0 (l : Lp) (t : Tgt) (p : Pln) : Int → Option (Stp (Int) (Bool)) := fun i7_1 =>
 br (decide (i7_1 < (ln l.body))) (
 ck (IX i7_1 (ln l.body)) <|
 bd (roundelayref4_Wait_m t ((ele l.body i7_1).op)) fun x15 =>
 ck (IX i7_1 (ln p.times)) <|
 ck (IR ((ele p.times i7_1) + x15)) <|
 br (decide (((ele p.times i7_1) + x15) > p.pace)) (
 some (.ret false)) (
 ck (IR (i7_1 + 1)) <|
 some (.next (i7_1 + 1)))) (
 some (.brk i7_1))
noncomputable def roundelaylaw_over_m (l : Lp) (t : Tgt) (p : Pln) : Option (Bool) :=
 bd (lp (roundelaylaw_over_L0 l t p) 0) fun o4 => o4.on (fun i7_1 =>
 some true) (fun r => some r)

noncomputable def roundelaylaw_RegsMakes_m (l : Lp) (t : Tgt) (p : Pln) : Option (Bool) :=
 bd (regs_Make_m l t p) fun x4 =>
 bd (roundelayref8_Legal_m l t p) fun x8 =>
 br (!x8) (
 some ((x4.2 == 2) && ((ln x4.1) == 0))) (
 br (x4.2 == 1) (
 ck (((ln x4.1) == 0) = true → IR (5 * (ln l.body))) <|
 bdG (((ln x4.1) == 0) && (decide (t.regs ≥ (5 * (ln l.body))))) (roundelaylaw_over_m l t p) fun x18 =>
 some (((ln x4.1) == 0) && (!((decide (t.regs ≥ (5 * (ln l.body)))) && x18)))) (
 bd (roundelayref11_Emit_m l t p x4.1) fun x22 =>
 br ((x4.2 == 0) && (x22.2 == 0)) (
 bd (roundelaylaw_natural_m (ln l.body)) fun x29 =>
 bdG ((x4.2 == 0) && (x22.2 == 0)) (roundelayref10_Takes_m l t x22.1 x29) fun x33 =>
 some (((x4.2 == 0) && (x22.2 == 0)) && x33)) (
 some (((x4.2 == 0) && (x22.2 == 0)) && false))))
end Go.Rd
end

section
namespace Go.Rd
set_option linter.unusedVariables false
theorem wait_pos1 {t : Tgt} (ht : tgtOk t = true) (op : Int) : 1 ≤ waitV t op ∧ waitV t op ≤ 6 := by
  unfold waitV
  rw [if_pos ht]
  rw [tgtOk_iff] at ht
  exact sel3_bd (by omega) (by omega) (by omega)
theorem natural_s {n : Nat} (hn : n ≤ 16) : roundelaylaw_natural_m (n : Int) = some (natL n) := by
  have X := lp_det (f := roundelaylaw_natural_L0 (n : Int)) (ρ := Empty) (fun i => (natL i, (i : Int))) n (fun i hi => by
    unfold roundelaylaw_natural_L0
    simp only
    rw [br_T (by omega), ck_yes (AL8 (by rw [List.length_append, natL_len]; simp; omega)), ck_IR (by omega) (by omega), show natL i ++ [(i : Int)] = natL (i + 1) from rm_succ (g := fun i : Nat => (i : Int))]
    rfl) (by unfold roundelaylaw_natural_L0; exact br_F (by omega))
  unfold roundelaylaw_natural_m
  rw [show lp (roundelaylaw_natural_L0 (n : Int)) ([], 0) = _ from X, bd_ret, Out.on_go]
def OverP (l : Lp) (t : Tgt) (p : Pln) : Prop := ∀ i : Nat, i < l.body.length → ele p.times (i : Int) + waitV t (ele l.body (i : Int)).op ≤ p.pace
theorem over_s {l : Lp} {t : Tgt} {p : Pln} (h : LegalP l t p) : roundelaylaw_over_m l t p = some (tb (OverP l t p)) := by
  have hn := h.loop.2.2.1
  have hl := h.len
  unfold roundelaylaw_over_m
  rcases lp_all (f := roundelaylaw_over_L0 l t p) (n := l.body.length) (p := fun i => ele p.times (i : Int) + waitV t (ele l.body (i : Int)).op ≤ p.pace) (fun i hi _ => by
      have h1 := h.rng i hi
      have hw := waitV_bd t (ele l.body (i : Int)).op
      unfold RngP at h1
      unfold roundelaylaw_over_L0
      rw [br_T (by unfold ln; omega), ck_IX (by omega) (by unfold ln; omega), ref_Wait_s, bd_ret, ck_IX (by omega) (by unfold ln; omega), ck_IR (by omega) (by omega)]
      exact ⟨fun h => by rw [br_F (by omega), ck_IR (by omega) (by omega)], fun h => by rw [br_T (by omega)]⟩) (by unfold roundelaylaw_over_L0; exact br_F (by unfold ln; omega)) with ⟨q, e⟩ | ⟨q, e⟩
  · rw [e, bd_ret, Out.on_go, tb_t (p := OverP l t p) q]
  · rw [e, bd_ret, Out.on_ret, tb_f (p := OverP l t p) q]
theorem spaced_fine {l : Lp} {t : Tgt} {p : Pln} (h : LegalP l t p) (hr : 5 * (l.body.length : Int) ≤ t.regs) (ho : OverP l t p) : ∀ k, k < l.body.length → FineP ((layP l t p).wp (spV l.body.length)) k := by
  have hn := h.loop.2.2.1
  have hp := h.pace
  have hy : ((layP l t p).wp (spV l.body.length)).Ok := (layP_ok h).1.wp (sp_ok (layP_ok h).1)
  have hsp : ∀ i : Nat, i < l.body.length → ele ((layP l t p).wp (spV l.body.length)).places (i : Int) = 5 * (i : Int) := fun i hi => ele_rm hi
  have hrd : ∀ i : Nat, i < l.body.length → 1 ≤ ele ((layP l t p).wp (spV l.body.length)).ready (i : Int) ∧ ele ((layP l t p).wp (spV l.body.length)).ready (i : Int) ≤ p.pace := fun i hi => by
    rw [lp_at hi]
    have h1 := h.rng i hi
    have hw := wait_pos1 h.tgt (ele l.body (i : Int)).op
    unfold RngP at h1
    have := ho i hi
    omega
  have htm : ∀ i : Nat, i < l.body.length → ele ((layP l t p).wp (spV l.body.length)).time (i : Int) < p.pace := fun i hi => by
    have hw := wait_pos1 h.tgt (ele l.body (i : Int)).op
    have := ho i hi
    show ele p.times (i : Int) < p.pace
    omega
  have hap : ∀ a m : Nat, a < l.body.length → m < l.body.length → ApartP ((layP l t p).wp (spV l.body.length)) a m := fun a m ha hm j hj hz hb => by
    have ra := hrd a ha; have rm := hrd m hm
    rw [hsp a ha, hsp m hm, show ((layP l t p).wp (spV l.body.length)).regs = t.regs from rfl] at hz
    have hpe : ((layP l t p).wp (spV l.body.length)).pace = p.pace := rfl
    have hlow : -p.pace < j * p.pace → 0 ≤ j := fun hl => by
      by_cases c : j < 0
      · have := Int.mul_le_mul_of_nonneg_right (show j ≤ -1 by omega) (show 0 ≤ p.pace by omega)
        omega
      · omega
    have hup : j * p.pace < 4 * p.pace → j ≤ 3 := fun hu => by
      by_cases c : 4 ≤ j
      · have := Int.mul_le_mul_of_nonneg_right c (show 0 ≤ p.pace by omega)
        omega
      · omega
    have hj03 : 0 ≤ j ∧ j ≤ 3 := by
      rcases hb with ⟨k, r, q1, q2, q3, q4⟩ | ⟨q1, q2, q3⟩
      · have hu := hy.us k q1 r q2
        have htk := htm k q1
        rw [hpe] at q4
        have m1 := Int.mul_le_mul_of_nonneg_right (show r.bk ≤ 3 by omega) (show 0 ≤ p.pace by omega)
        rcases q4 with ⟨n1, n2⟩ | ⟨n1, n2, n3⟩
        · exact ⟨hlow (by omega), hup (by omega)⟩
        · exact ⟨by omega, hup (by omega)⟩
      · rw [hpe] at q2
        exact ⟨hlow (by omega), by omega⟩
    obtain ⟨z, hz'⟩ := Int.dvd_of_emod_eq_zero hz
    have hz0 : z = 0 := by
      by_cases c1 : 1 ≤ z
      · have := Int.mul_le_mul_of_nonneg_left c1 (show 0 ≤ t.regs by omega)
        omega
      · by_cases c2 : z ≤ -1
        · have := Int.mul_le_mul_of_nonneg_left c2 (show 0 ≤ t.regs by omega)
          omega
        · omega
    rw [hz0, Int.mul_zero] at hz'
    rcases hj with hj | hj <;> omega
  intro k hk
  refine ⟨fun m hm => ⟨hap k m hk (by omega), hap m k (by omega) hk⟩, (firsts_iff _).2 fun s hs q hq hmem => ?_⟩
  have hfar : 0 ≤ farV ((layP l t p).wp (spV l.body.length)).body (s : Int) ∧ farV ((layP l t p).wp (spV l.body.length)).body (s : Int) ≤ 3 := far_bd hy (s : Int)
  have hreg : ∀ s q : Nat, s < l.body.length → regF ((layP l t p).wp (spV l.body.length)) s q = (5 * (s : Int) - q - 1) % t.regs := fun s q hs => by
    unfold regF
    rw [hsp s hs]; rfl
  have hne : ∀ s' q' : Nat, s' < k + 1 → q' < 3 → (s' ≠ s ∨ q' ≠ q) → regF ((layP l t p).wp (spV l.body.length)) s' q' ≠ regF ((layP l t p).wp (spV l.body.length)) s q := fun s' q' hs' hq' hd he => by
    rw [hreg s' q' (by omega), hreg s q (by omega)] at he
    have h1 := Int.emod_add_mul_ediv (5 * (s' : Int) - q' - 1) t.regs
    have h2 := Int.emod_add_mul_ediv (5 * (s : Int) - q - 1) t.regs
    rw [he] at h1
    have e : 5 * (s' : Int) - q' - 1 - (5 * (s : Int) - q - 1) = t.regs * ((5 * (s' : Int) - q' - 1) / t.regs - (5 * (s : Int) - q - 1) / t.regs) := by rw [Int.mul_sub]; omega
    generalize (5 * (s' : Int) - q' - 1) / t.regs - (5 * (s : Int) - q - 1) / t.regs = z at e
    have hz0 : z = 0 := by
      by_cases c1 : 1 ≤ z
      · have := Int.mul_le_mul_of_nonneg_left c1 (show 0 ≤ t.regs by omega)
        omega
      · by_cases c2 : z ≤ -1
        · have := Int.mul_le_mul_of_nonneg_left c2 (show 0 ≤ t.regs by omega)
          omega
        · omega
    rw [hz0, Int.mul_zero] at e
    rcases hd with hd | hd <;> omega
  rcases List.mem_append.1 hmem with hm | hm
  · unfold fregs at hm
    rw [List.mem_flatMap] at hm
    obtain ⟨a, ha, hb⟩ := hm
    have hab := natL_mem ha
    obtain ⟨s', hs'⟩ := Int.eq_ofNat_of_zero_le hab.1
    subst hs'
    unfold frA at hb
    rw [List.mem_map] at hb
    obtain ⟨q', hq', he⟩ := hb
    have hf' : 0 ≤ farV ((layP l t p).wp (spV l.body.length)).body (s' : Int) ∧ farV ((layP l t p).wp (spV l.body.length)).body (s' : Int) ≤ 3 := far_bd hy (s' : Int)
    have := List.mem_range.1 hq'
    exact hne s' q' (by omega) (by omega) (.inl (by omega)) he
  · unfold frA at hm
    rw [List.mem_map] at hm
    obtain ⟨q', hq', he⟩ := hm
    have := List.mem_range.1 hq'
    exact hne s q' hs (by omega) (.inr (by omega)) he
theorem lpO_fine {l : Lp} (hf : l.Fine) {o : Opr} (ho : InR o.op ∧ InR o.ar ∧ InR o.sp ∧ InR o.pl ∧ InR o.n) : (lpO l.logs o).Fine := by
  have h0 : InR 0 := by unfold InR; omega
  have h2 : InR 2 := by unfold InR; omega
  refine ⟨hf.rlogs, fun u hu => ?_, fun u hu => (by cases hu), hf.llogs, by show 2 ≤ maxLen; rw [maxLen_eq]; omega, by show 0 ≤ maxLen; omega⟩
  have hu' : u = turnS ∨ u = stmO o := by
    rcases List.mem_cons.1 hu with h | h
    · exact .inl h
    · exact .inr (List.mem_singleton.1 h)
  rcases hu' with rfl | rfl
  · exact ⟨h2, h0, h0, h0, h0, h0, h0, h0, h0⟩
  · exact ⟨ho.1, h0, h0, h0, h0, ho.2.1, ho.2.2.1, ho.2.2.2.1, ho.2.2.2.2⟩
theorem krnN_fine {l : Lp} (hf : l.Fine) {t : Tgt} {p : Pln} {v : List Int} : KFine l (krnN l t p v) := fun i hi => by
  have hi' : i < l.body.length := by rw [show (krnN l t p v).ops.length = l.body.length from krn_len] at hi; exact hi
  rw [ops_N hi']
  have hs := hf.rbody _ (ele_mem' hi')
  obtain ⟨s1, _, _, _, _, s2, s3, s4, s5⟩ := hs
  exact lpO_fine hf ⟨s1, s2, s3, s4, s5⟩
theorem RegsMakes_true (l : Lp) (t : Tgt) (p : Pln) {w w' : World} {v1 v2 v3 v4 : Value} (hL : LpRep w v1 v2 v3 l) (hP : PlnRep w' v4 p) : roundelaylaw_RegsMakes_m l t p = some true := by
  have hf := hL.fine
  unfold roundelaylaw_RegsMakes_m
  by_cases h : LegalP l t p
  · have hn := h.loop.2.2.1
    rcases regsMake_s hf h with ⟨v, h1, h2, h3⟩ | ⟨h1, h2⟩
    · have hE := emit_ok h (v := v)
      have hkf : KFine l (krnN l t p v) := krnN_fine hf
      rw [h3, bd_ret, rLegal_s hf, bd_ret, tb_t h, Bool.not_true, br_false]
      rw [show (((destV t p l.body.length v, (0 : Int)) : List Int × Int).2 == 1) = false from rfl, br_false, rEmit_s hf, tb_t hE, if_pos rfl, bd_ret]
      simp only [beq_self_eq_true, Bool.and_self, br_true]
      rw [show ln l.body = ((l.body.length : Nat) : Int) from rfl, natural_s hn, bd_ret, bdG_t, show krnV l t p (destV t p l.body.length v) = krnN l t p v from rfl, Takes_s hf hkf (by rw [natL_len]; omega), bd_ret, tb_t (krn_takes h h1 h2)]
      rfl
    · rw [h1, bd_ret, rLegal_s hf, bd_ret, tb_t h, Bool.not_true, br_false]
      rw [show ((([], (1 : Int)) : List Int × Int).2 == 1) = true from rfl, br_true, ck_imp (fun _ => ⟨by unfold ln; omega, by unfold ln; omega⟩), over_s h, bdG_some']
      by_cases c : 5 * (l.body.length : Int) ≤ t.regs
      · have : ¬ OverP l t p := fun ho => h2 (spaced_fine h c ho)
        rw [tb_f this]
        simp [ln]
      · have : ¬ (t.regs ≥ 5 * ln l.body) := by unfold ln; omega
        rw [decide_eq_false this]
        rfl
  · have : regs_Make_m l t p = some ([], 2) := by
      unfold regs_Make_m
      rw [Legal_s hf, bd_ret, tb_f h]; rfl
    rw [this, bd_ret, rLegal_s hf, bd_ret, tb_f h]
    rfl
end Go.Rd
end

section
namespace Go.Proofs.Ytaimbkndebaaiab
open Go.Rd
set_option linter.unusedVariables false
namespace TNum
theorem en45 : Go.Rd.Enters Try.prog 45 := ⟨Try.f45, Try.func45, by kernel_rfl, by kernel_rfl⟩
theorem en75 : Go.Rd.Enters Try.prog 75 := ⟨Try.f75, Try.func75, by kernel_rfl, by kernel_rfl⟩
end TNum
open TNum
set_option maxRecDepth 8000 in
theorem num_Class_w {op : Int} {r : Int} (w : World) (hm : num_Class_m op = some r)  : Calls Try.prog 48 #[.int .i64 op] w (fun e w' => e = .returned (.int .i64 r) ∧ Grow w w') := by
  unfold num_Class_m at hm
  have hk := Base.rfl (w := w)
  refine calls_of_WC (n := 9) (args := [.int .i64 op]) Try.func48 rfl rfl (Nat.le_of_ble_eq_true rfl) ?_ (Own.startK hk (Own.start w))
  refine WC.seq ?_
  refine WC.region ?_
  refine WL.q rfl rfl rfl (QV.assign rfl rfl) ?_
  refine WL.nil ?_
  refine WQ.then ?_
  refine WC.seq ?_
  refine WC.seq ?_
  refine WC.region ?_
  refine WL.q rfl rfl rfl (QV.move rfl rfl) ?_
  refine WL.nil ?_
  refine WQ.then ?_
  refine WC.block ?_
  refine WC.seq ?_
  refine WC.seq ?_
  refine WC.region ?_
  refine WL.q rfl rfl rfl (QV.eql rfl rfl rfl rfl) ?_
  refine WL.q rfl rfl rfl (QV.assign rfl rfl) ?_
  refine WL.nil ?_
  refine WQ.then ?_
  refine WC.cond rfl (fun h1 => ?_) (fun h1 => ?_)
  · skip
    have hm2 := br_t h1 hm; clear hm
    refine WC.skip ?_
    refine WQ.then ?_
    refine WC.cond rfl (fun h3 => ?_) (fun h3 => ?_)
    · skip
      have hm4 := br_t h3 hm2; clear hm2
      refine WC.seq ?_
      refine WC.region ?_
      refine WL.q rfl rfl rfl (QV.assign rfl rfl) ?_
      refine WL.nil ?_
      refine WQ.then ?_
      refine WC.ret ?_
      refine WQ.block_ret ?_
      refine WQ.then_ret ?_
      obtain rfl := (eq_of_some hm4).symm
      refine WQ.ret1 rfl rfl (fun w hw => ?_)
      exact ⟨rfl, Own.kgrow (fun _ x => x) hw⟩
    · skip
      have hm5 := br_f h3 hm2; clear hm2
      refine WC.seq ?_
      refine WC.region ?_
      refine WL.q rfl rfl rfl (QV.eql rfl rfl rfl rfl) ?_
      refine WL.q rfl rfl rfl (QV.assign rfl rfl) ?_
      refine WL.nil ?_
      refine WQ.then ?_
      refine WC.cond rfl (fun h6 => ?_) (fun h6 => ?_)
      · skip
        have hm7 := br_t h6 hm5; clear hm5
        refine WC.seq ?_
        refine WC.region ?_
        refine WL.q rfl rfl rfl (QV.assign rfl rfl) ?_
        refine WL.nil ?_
        refine WQ.then ?_
        refine WC.ret ?_
        refine WQ.block_ret ?_
        refine WQ.then_ret ?_
        obtain rfl := (eq_of_some hm7).symm
        refine WQ.ret1 rfl rfl (fun w hw => ?_)
        exact ⟨rfl, Own.kgrow (fun _ x => x) hw⟩
      · skip
        have hm8 := br_f h6 hm5; clear hm5
        refine WC.skip ?_
        refine WQ.block ?_
        refine WQ.then ?_
        refine WC.seq ?_
        refine WC.region ?_
        refine WL.q rfl rfl rfl (QV.assign rfl rfl) ?_
        refine WL.nil ?_
        refine WQ.then ?_
        refine WC.ret ?_
        obtain rfl := (eq_of_some hm8).symm
        refine WQ.ret1 rfl rfl (fun w hw => ?_)
        exact ⟨rfl, Own.kgrow (fun _ x => x) hw⟩
  · skip
    have hm9 := br_f h1 hm; clear hm
    refine WC.region ?_
    refine WL.q rfl rfl rfl (QV.eql rfl rfl rfl rfl) ?_
    refine WL.q rfl rfl rfl (QV.assign rfl rfl) ?_
    refine WL.nil ?_
    refine WQ.then ?_
    refine WC.cond rfl (fun h10 => ?_) (fun h10 => ?_)
    · skip
      have hm11 := br_t h10 hm9; clear hm9
      refine WC.seq ?_
      refine WC.region ?_
      refine WL.q rfl rfl rfl (QV.assign rfl rfl) ?_
      refine WL.nil ?_
      refine WQ.then ?_
      refine WC.ret ?_
      refine WQ.block_ret ?_
      refine WQ.then_ret ?_
      obtain rfl := (eq_of_some hm11).symm
      refine WQ.ret1 rfl rfl (fun w hw => ?_)
      exact ⟨rfl, Own.kgrow (fun _ x => x) hw⟩
    · skip
      have hm12 := br_f h10 hm9; clear hm9
      refine WC.seq ?_
      refine WC.region ?_
      refine WL.q rfl rfl rfl (QV.eql rfl rfl rfl rfl) ?_
      refine WL.q rfl rfl rfl (QV.assign rfl rfl) ?_
      refine WL.nil ?_
      refine WQ.then ?_
      refine WC.cond rfl (fun h13 => ?_) (fun h13 => ?_)
      · skip
        have hm14 := br_t h13 hm12; clear hm12
        refine WC.seq ?_
        refine WC.region ?_
        refine WL.q rfl rfl rfl (QV.assign rfl rfl) ?_
        refine WL.nil ?_
        refine WQ.then ?_
        refine WC.ret ?_
        refine WQ.block_ret ?_
        refine WQ.then_ret ?_
        obtain rfl := (eq_of_some hm14).symm
        refine WQ.ret1 rfl rfl (fun w hw => ?_)
        exact ⟨rfl, Own.kgrow (fun _ x => x) hw⟩
      · skip
        have hm15 := br_f h13 hm12; clear hm12
        refine WC.skip ?_
        refine WQ.block ?_
        refine WQ.then ?_
        refine WC.seq ?_
        refine WC.region ?_
        refine WL.q rfl rfl rfl (QV.assign rfl rfl) ?_
        refine WL.nil ?_
        refine WQ.then ?_
        refine WC.ret ?_
        obtain rfl := (eq_of_some hm15).symm
        refine WQ.ret1 rfl rfl (fun w hw => ?_)
        exact ⟨rfl, Own.kgrow (fun _ x => x) hw⟩

set_option maxRecDepth 8000 in
theorem roundelayref1_Class_w {op : Int} {r : Int} (w : World) (hm : roundelayref1_Class_m op = some r)  : Calls Try.prog 52 #[.int .i64 op] w (fun e w' => e = .returned (.int .i64 r) ∧ Grow w w') := by
  unfold roundelayref1_Class_m at hm
  have hk := Base.rfl (w := w)
  refine calls_of_WC (n := 11) (args := [.int .i64 op]) Try.func52 rfl rfl (Nat.le_of_ble_eq_true rfl) ?_ (Own.startK hk (Own.start w))
  refine WC.seq ?_
  refine WC.region ?_
  refine WL.q rfl rfl rfl (QV.assign rfl rfl) ?_
  refine WL.nil ?_
  refine WQ.then ?_
  refine WC.seq ?_
  refine WC.seq ?_
  refine WC.region ?_
  refine WL.q rfl rfl rfl (QV.move rfl rfl) ?_
  refine WL.q rfl rfl rfl (QV.eql rfl rfl rfl rfl) ?_
  refine WL.q rfl rfl rfl (QV.move rfl rfl) ?_
  refine WL.g rfl rfl (GuardIs.neg rfl rfl) (fun hG => QV.move rfl rfl) ?_
  refine WL.g rfl rfl (GuardIs.neg rfl rfl) (fun hG => QV.eql rfl hG rfl rfl) ?_
  refine WL.q rfl rfl rfl (QV.pickOr rfl rfl rfl (fun h => notF h)) ?_
  refine WL.nil ?_
  refine WQ.then ?_
  refine WC.cond rfl (fun h1 => ?_) (fun h1 => ?_)
  · skip
    have hm2 := br_t h1 hm; clear hm
    refine WC.seq ?_
    refine WC.region ?_
    refine WL.q rfl rfl rfl (QV.assign rfl rfl) ?_
    refine WL.nil ?_
    refine WQ.then ?_
    refine WC.ret ?_
    refine WQ.then_ret ?_
    obtain rfl := (eq_of_some hm2).symm
    refine WQ.ret1 rfl rfl (fun w hw => ?_)
    exact ⟨rfl, Own.kgrow (fun _ x => x) hw⟩
  · skip
    have hm3 := br_f h1 hm; clear hm
    refine WC.skip ?_
    refine WQ.then ?_
    refine WC.seq ?_
    refine WC.seq ?_
    refine WC.region ?_
    refine WL.q rfl rfl rfl (QV.move rfl rfl) ?_
    refine WL.q rfl rfl rfl (QV.eql rfl rfl rfl rfl) ?_
    refine WL.nil ?_
    refine WQ.then ?_
    refine WC.cond rfl (fun h4 => ?_) (fun h4 => ?_)
    · skip
      have hm5 := br_t h4 hm3; clear hm3
      refine WC.seq ?_
      refine WC.region ?_
      refine WL.q rfl rfl rfl (QV.assign rfl rfl) ?_
      refine WL.nil ?_
      refine WQ.then ?_
      refine WC.ret ?_
      refine WQ.then_ret ?_
      obtain rfl := (eq_of_some hm5).symm
      refine WQ.ret1 rfl rfl (fun w hw => ?_)
      exact ⟨rfl, Own.kgrow (fun _ x => x) hw⟩
    · skip
      have hm6 := br_f h4 hm3; clear hm3
      refine WC.skip ?_
      refine WQ.then ?_
      refine WC.seq ?_
      refine WC.region ?_
      refine WL.q rfl rfl rfl (QV.assign rfl rfl) ?_
      refine WL.nil ?_
      refine WQ.then ?_
      refine WC.ret ?_
      obtain rfl := (eq_of_some hm6).symm
      refine WQ.ret1 rfl rfl (fun w hw => ?_)
      exact ⟨rfl, Own.kgrow (fun _ x => x) hw⟩

set_option maxRecDepth 8000 in
theorem roundelayref1_Size_w {log : Int} {r : Int} (w : World) (hm : roundelayref1_Size_m log = some r)  : Calls Try.prog 45 #[.int .i64 log] w (fun e w' => e = .returned (.int .i64 r) ∧ Grow w w') := by
  unfold roundelayref1_Size_m at hm
  have hk := Base.rfl (w := w)
  refine calls_of_WC (n := 14) (args := [.int .i64 log]) Try.func45 rfl rfl (Nat.le_of_ble_eq_true rfl) ?_ (Own.startK hk (Own.start w))
  refine WC.seq ?_
  refine WC.region ?_
  refine WL.q rfl rfl rfl (QV.assign rfl rfl) ?_
  refine WL.nil ?_
  refine WQ.then ?_
  refine WC.seq ?_
  refine WC.region ?_
  refine WL.q rfl rfl rfl (QV.assign rfl rfl) ?_
  refine WL.nil ?_
  refine WQ.then ?_
  refine WC.seq ?_
  refine WC.seq ?_
  refine WC.region ?_
  refine WL.q rfl rfl rfl (QV.assign rfl rfl) ?_
  refine WL.nil ?_
  refine WQ.then ?_
  obtain ⟨o1, ho2, hm3⟩ := bd_some hm; clear hm; obtain ⟨n4, ho5⟩ := lp_some ho2
  refine WC.bloop2 (H2 := [kn noM w.heap.size w w]) (τ := [(0, (true, _))]) (fun (n3_1 : Int) (i4_1 : Int) => [(3, (true, .int .i64 n3_1)), (4, (true, .int .i64 i4_1))]) (fun (n3_1 : Int) (i4_1 : Int) => []) (fun (n3_1 : Int) (i4_1 : Int) (m : Nat) => iter (roundelayref1_Size_L0 log) m (n3_1, i4_1) = some o1) (fun (n3_1 : Int) (i4_1 : Int) => o1 = .go (n3_1, i4_1)) 1 0 n4 ho5 ⟨rfl, rfl, rfl, trivial⟩ (fun w hw => hw.pick [0] (by decide)) ?_ ?_
  · skip
    rintro n3_1 i4_1 rfl
    refine WQ.then ?_
    refine WC.seq ?_
    refine WC.region ?_
    refine WL.q rfl rfl rfl (QV.move rfl rfl) ?_
    refine WL.q rfl rfl rfl (QV.assign rfl rfl) ?_
    refine WL.nil ?_
    refine WQ.then ?_
    refine WC.ret ?_
    obtain rfl := (eq_of_some hm3).symm
    refine WQ.ret1 rfl rfl (fun w hw => ?_)
    exact ⟨rfl, Own.kgrow (fun _ x => x) hw⟩
  · skip
    rintro n3_1 i4_1 m6 hI7
    obtain ⟨m8, s9, rfl, hm10, hn11⟩ := iter_step hI7; clear hI7; unfold roundelayref1_Size_L0 at hm10; simp only at hm10
    refine WC.seq ?_
    refine WC.seq ?_
    refine WC.region ?_
    refine WL.q rfl rfl rfl (QV.move rfl rfl) ?_
    refine WL.q rfl rfl rfl (QV.move rfl rfl) ?_
    refine WL.q rfl rfl rfl (QV.lss rfl rfl rfl rfl) ?_
    refine WL.nil ?_
    refine WQ.then ?_
    refine WC.cond rfl (fun h12 => ?_) (fun h12 => ?_)
    · skip
      have hm13 := br_t h12 hm10; clear hm10
      refine WC.skip ?_
      refine WQ.then ?_
      refine WC.seq ?_
      refine WC.block ?_
      refine WC.region ?_
      refine WL.q rfl rfl rfl (QV.move rfl rfl) ?_
      refine WL.q rfl rfl rfl (QV.move rfl rfl) ?_
      obtain ⟨c14, hm15⟩ := ck_some hm13; clear hm13
      refine WL.q rfl rfl rfl (QV.add rfl rfl rfl rfl c14) ?_
      refine WL.q rfl rfl rfl (QV.assign rfl rfl) ?_
      refine WL.nil ?_
      refine WQ.block ?_
      refine WQ.then ?_
      refine WC.region ?_
      refine WL.q rfl rfl rfl (QV.move rfl rfl) ?_
      obtain ⟨c16, hm17⟩ := ck_some hm15; clear hm15
      refine WL.q rfl rfl rfl (QV.add rfl rfl rfl rfl c16) ?_
      refine WL.q rfl rfl rfl (QV.assign rfl rfl) ?_
      refine WL.nil ?_
      exact WQ.again2 (n3_1 + n3_1) (i4_1 + 1) m8 (up_next hm17 hn11) (Nat.lt_succ_self _) ⟨rfl, rfl, rfl, trivial⟩ (fun w hw => hw.pick [0] (by decide))
    · skip
      have hm18 := br_f h12 hm10; clear hm10
      refine WC.exit ?_
      refine WQ.then_exit ?_
      refine WQ.then_exit ?_
      refine WQ.block_exit ?_
      exact WQ.out2 n3_1 i4_1 (up_brk hm18 hn11) ⟨rfl, rfl, rfl, trivial⟩ (fun w hw => hw.pick [0] (by decide))

set_option maxRecDepth 8000 in
theorem roundelayref1_Rest_w {a : Int} {b : Int} {r : Int} (w : World) (hm : roundelayref1_Rest_m a b = some r)  : Calls Try.prog 75 #[.int .i64 a, .int .i64 b] w (fun e w' => e = .returned (.int .i64 r) ∧ Grow w w') := by
  unfold roundelayref1_Rest_m at hm
  have hk := Base.rfl (w := w)
  refine calls_of_WC (n := 15) (args := [.int .i64 a, .int .i64 b]) Try.func75 rfl rfl (Nat.le_of_ble_eq_true rfl) ?_ (Own.startK hk (Own.start w))
  refine WC.seq ?_
  refine WC.region ?_
  refine WL.q rfl rfl rfl (QV.assign rfl rfl) ?_
  refine WL.nil ?_
  refine WQ.then ?_
  refine WC.seq ?_
  refine WC.region ?_
  refine WL.q rfl rfl rfl (QV.move rfl rfl) ?_
  refine WL.q rfl rfl rfl (QV.move rfl rfl) ?_
  obtain ⟨c1, hm2⟩ := ck_some hm; clear hm
  refine WL.q rfl rfl rfl (QV.rem rfl rfl rfl rfl c1) ?_
  refine WL.q rfl rfl rfl (QV.assign rfl rfl) ?_
  refine WL.nil ?_
  refine WQ.then ?_
  refine WC.seq ?_
  refine WC.seq ?_
  refine WC.region ?_
  refine WL.q rfl rfl rfl (QV.move rfl rfl) ?_
  refine WL.q rfl rfl rfl (QV.lss rfl rfl rfl rfl) ?_
  refine WL.nil ?_
  refine WQ.then ?_
  refine WC.cond rfl (fun h3 => ?_) (fun h3 => ?_)
  · skip
    have hm4 := br_t h3 hm2; clear hm2
    refine WC.region ?_
    refine WL.q rfl rfl rfl (QV.move rfl rfl) ?_
    refine WL.q rfl rfl rfl (QV.move rfl rfl) ?_
    obtain ⟨c5, hm6⟩ := ck_some hm4; clear hm4
    refine WL.q rfl rfl rfl (QV.add rfl rfl rfl rfl c5) ?_
    refine WL.q rfl rfl rfl (QV.assign rfl rfl) ?_
    refine WL.nil ?_
    refine WQ.then ?_
    refine WC.seq ?_
    refine WC.region ?_
    refine WL.q rfl rfl rfl (QV.move rfl rfl) ?_
    refine WL.q rfl rfl rfl (QV.assign rfl rfl) ?_
    refine WL.nil ?_
    refine WQ.then ?_
    refine WC.ret ?_
    obtain rfl := (eq_of_some hm6).symm
    refine WQ.ret1 rfl rfl (fun w hw => ?_)
    exact ⟨rfl, Own.kgrow (fun _ x => x) hw⟩
  · skip
    have hm7 := br_f h3 hm2; clear hm2
    refine WC.skip ?_
    refine WQ.then ?_
    refine WC.seq ?_
    refine WC.region ?_
    refine WL.q rfl rfl rfl (QV.move rfl rfl) ?_
    refine WL.q rfl rfl rfl (QV.assign rfl rfl) ?_
    refine WL.nil ?_
    refine WQ.then ?_
    refine WC.ret ?_
    obtain rfl := (eq_of_some hm7).symm
    refine WQ.ret1 rfl rfl (fun w hw => ?_)
    exact ⟨rfl, Own.kgrow (fun _ x => x) hw⟩

end Go.Proofs.Ytaimbkndebaaiab
end
