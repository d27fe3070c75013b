/- Texts that the law stands on: part 3. -/
import Derived.Test.YtaimbkndebaaiabZLschedMakes2
import Derived.ChangeMaps5
section
namespace Go.Rd
open Go.RowKit Go.ChangeShapes Go.WideShapes Go.ChangeAt
set_option linter.unusedVariables false
set_option linter.unusedSimpArgs false
section
variable {H : Type} {enc : TypeId × Value → H} {P : Program} {w : World} {base : Nat} {spare : Nat → Bool} {held : Bool}

theorem struct_at {fuel : Nat} {t : TypeId} {fs : Array Field} {cs : List Value} {x : DataW H × List MemPlace} {l : List (TypeId × Nat)} (ht : P.underlying t = some (.struct fs)) (hl : fs.toList.map (fun f => (f.type, f.offset)) = l)
    (h : DataW.trod enc P w base spare held fuel t cs = some x) (t1 : TypeId) (o : Nat) (hm : (t1, o) ∈ l) : ∃ fuel' y, DataW.trod enc P w base spare held fuel' t1 ((cs.drop o).take (P.cellsOf t1)) = some y := by
  subst hl
  obtain ⟨f, hf, he⟩ := List.mem_map.1 hm
  simp only [Prod.mk.injEq] at he
  obtain ⟨rfl, rfl⟩ := he
  exact (trod_struct ht h).2 f hf

theorem ints_arg {fuel : Nat} {t e : TypeId} {v : Value} {x : DataW H × List MemPlace} (ht : P.underlying t = some (.slice e)) (he : flatT P 6 e = true) (hsz : P.cellsOf e = 1) (hx : DataW.trod enc P w base spare held fuel t [v] = some x) :
    ∃ xs : List Int, Arr w v 1 (xs.map icell) ∧ (∀ u ∈ xs, InR u) ∧ xs.length ≤ maxLen :=
  slice_list icell InR ht hsz hx fun fuel' es y h => by
    obtain ⟨ns, rfl, hl, hr⟩ := trod_flat he h
    rw [hsz] at hl
    match ns, hl with
    | [n], _ => exact ⟨n, rfl, hr n (by simp)⟩

theorem stms_arg {fuel : Nat} {t e : TypeId} {v : Value} {x : DataW H × List MemPlace} (ht : P.underlying t = some (.slice e)) (he : flatT P 6 e = true) (hsz : P.cellsOf e = 9) (hx : DataW.trod enc P w base spare held fuel t [v] = some x) :
    ∃ xs : List Stm, Arr w v 9 (xs.map Stm.cells) ∧ (∀ u ∈ xs, u.InR) ∧ xs.length ≤ maxLen :=
  slice_list Stm.cells Stm.InR ht hsz hx fun fuel' es y h => by
    obtain ⟨ns, rfl, hl, hr⟩ := trod_flat he h
    rw [hsz] at hl
    match ns, hl with
    | [a, b, c, d, e, f, g, i, j], _ => exact ⟨⟨a, ⟨b, c⟩, ⟨d, e⟩, f, g, i, j⟩, rfl, by unfold Stm.InR; simp at hr; simp [hr]⟩

theorem one_slice {fuel : Nat} {t e : TypeId} {cs : List Value} {x : DataW H × List MemPlace} (ht : P.underlying t = some (.slice e)) (hx : DataW.trod enc P w base spare held fuel t cs = some x) : ∃ v, cs = [v] := by
  rcases trod_slice ht hx with h | ⟨a, len, cap, f, h, _⟩
  · exact ⟨_, h⟩
  · exact ⟨_, h⟩

theorem rows_arg {fuel : Nat} {t e i : TypeId} {v : Value} {x : DataW H × List MemPlace} (ht : P.underlying t = some (.slice e)) (he : P.underlying e = some (.slice i)) (hi : flatT P 6 i = true) (hs1 : P.cellsOf e = 1) (hs2 : P.cellsOf i = 1)
    (hx : DataW.trod enc P w base spare held fuel t [v] = some x) : ∃ B, RowsRep w v B := by
  obtain ⟨B, h1, h2, h3⟩ := slice_list (α := Value × List Int) vcell (fun p => Arr w p.1 1 (p.2.map icell) ∧ (∀ x ∈ p.2, InR x) ∧ p.2.length ≤ maxLen) ht hs1 hx fun fuel' es y h => by
    obtain ⟨u, rfl⟩ := one_slice he h
    obtain ⟨xs, a, b, c⟩ := ints_arg he hi hs2 h
    exact ⟨(u, xs), rfl, a, b, c⟩
  exact ⟨B, h1, fun p hp => (h2 p hp).1, fun p hp => (h2 p hp).2.1, fun p hp => (h2 p hp).2.2, h3⟩

theorem loop_arg {fuel : Nat} {t t1 t2 e1 e2 : TypeId} {fs : Array Field} {cs : List Value} {x : DataW H × List MemPlace} (ht : P.underlying t = some (.struct fs)) (hl : fs.toList.map (fun f => (f.type, f.offset)) = [(t1, 0), (t2, 1), (t1, 2)])
    (h1 : P.underlying t1 = some (.slice e1)) (h2 : P.underlying t2 = some (.slice e2)) (hf1 : flatT P 6 e1 = true) (hf2 : flatT P 6 e2 = true) (hz : P.cellsOf t = 3 ∧ P.cellsOf t1 = 1 ∧ P.cellsOf t2 = 1 ∧ P.cellsOf e1 = 1 ∧ P.cellsOf e2 = 9)
    (hx : DataW.trod enc P w base spare held fuel t cs = some x) : ∃ v1 v2 v3 l, cs = [v1, v2, v3] ∧ LpRep w v1 v2 v3 l := by
  obtain ⟨z0, z1, z2, z3, z4⟩ := hz
  have hlen := (trod_struct ht hx).1
  rw [z0] at hlen
  obtain ⟨_, _, g1⟩ := struct_at ht hl hx t1 0 (by simp)
  obtain ⟨_, _, g2⟩ := struct_at ht hl hx t2 1 (by simp)
  obtain ⟨_, _, g3⟩ := struct_at ht hl hx t1 2 (by simp)
  match cs, hlen with
  | [v1, v2, v3], _ =>
    rw [z1] at g1 g3
    rw [z2] at g2
    obtain ⟨logs, a1, a2, a3⟩ := ints_arg h1 hf1 z3 g1
    obtain ⟨body, b1, b2, b3⟩ := stms_arg h2 hf2 z4 g2
    obtain ⟨outs, c1, c2, c3⟩ := ints_arg h1 hf1 z3 g3
    exact ⟨v1, v2, v3, ⟨logs, body, outs⟩, rfl, a1, b1, c1, a2, b2, c2, a3, b3, c3⟩

theorem state_arg {fuel : Nat} {t e i j : TypeId} {fs : Array Field} {cs : List Value} {x : DataW H × List MemPlace} (ht : P.underlying t = some (.struct fs)) (hl : fs.toList.map (fun f => (f.type, f.offset)) = [(e, 0), (e, 1)])
    (h1 : P.underlying e = some (.slice i)) (h2 : P.underlying i = some (.slice j)) (hf : flatT P 6 j = true) (hz : P.cellsOf t = 2 ∧ P.cellsOf e = 1 ∧ P.cellsOf i = 1 ∧ P.cellsOf j = 1)
    (hx : DataW.trod enc P w base spare held fuel t cs = some x) : ∃ v4 v5 B M, cs = [v4, v5] ∧ RowsRep w v4 B ∧ RowsRep w v5 M := by
  obtain ⟨z0, z1, z2, z3⟩ := hz
  have hlen := (trod_struct ht hx).1
  rw [z0] at hlen
  obtain ⟨_, _, g1⟩ := struct_at ht hl hx e 0 (by simp)
  obtain ⟨_, _, g2⟩ := struct_at ht hl hx e 1 (by simp)
  match cs, hlen with
  | [v4, v5], _ =>
    rw [z1] at g1 g2
    obtain ⟨B, a⟩ := rows_arg h1 h2 hf z2 z3 g1
    obtain ⟨M, b⟩ := rows_arg h1 h2 hf z2 z3 g2
    exact ⟨v4, v5, B, M, rfl, a, b⟩
end
end Go.Rd
end

section
namespace Go.Rd
open Go.RowKit Go.ChangeShapes Go.WideShapes Go.ChangeAt
set_option linter.unusedVariables false
section
variable {H : Type} {enc : TypeId × Value → H} {P : Program} {w : World} {base : Nat} {spare : Nat → Bool} {held : Bool}
theorem trod_one {t : TypeId} {v : Value} {a : Option Addr} {l c : Nat} {d : DataW H} {ps : List MemPlace} (h : DataW.Trod enc P w base spare held t (.slice a l c) d ps) : ∃ fuel x, DataW.trod enc P w base spare held fuel t [.slice a l c] = some x := by
  obtain ⟨fuel, hf⟩ := h
  exact ⟨fuel, _, hf⟩
theorem bytes_arg {fuel : Nat} {t e : TypeId} {v : Value} {x : DataW H × List MemPlace} (ht : P.underlying t = some (.slice e)) (he : P.underlying e = some (.int .u8)) (hsz : P.cellsOf e = 1) (hx : DataW.trod enc P w base spare held fuel t [v] = some x) :
    ∃ bs : List UInt8, Arr w v 1 (bs.map bcell) ∧ bs.length ≤ maxLen := by
  obtain ⟨bs, h1, _, h3⟩ := slice_list bcell (fun _ => True) ht hsz hx fun fuel' es y h => by
    obtain ⟨n, rfl, _, hw⟩ := DataW.trod_int he h
    refine ⟨bt n, ?_, trivial⟩
    have : 0 ≤ n ∧ n < 256 := by
      simp [Lit.wf, IntKind.min, IntKind.max, IntKind.signed, IntKind.bits] at hw
      omega
    unfold bcell
    rw [bt_nat, Int.emod_eq_of_lt this.1 this.2]
  exact ⟨bs, h1, h3⟩
theorem wf_u16 {n : Int} (h : (Lit.int .u16 n).wf = true) : 0 ≤ n ∧ n ≤ 65535 := by
  simp [Lit.wf, IntKind.min, IntKind.max, IntKind.signed, IntKind.bits] at h
  omega
theorem str_arg {s : ByteArray} (h : s.size ≤ maxLen) : ∃ l : List UInt8, Value.string s = strV l ∧ l.length ≤ maxLen := ⟨s.data.toList, by simp [strV], by simpa using h⟩
def Opr.InRo (o : Opr) : Prop := ∀ x ∈ [o.slot, o.stage, o.op, o.dest, o.a, o.b, o.ar, o.sp, o.pl, o.n], InR x
theorem oprs_arg {fuel : Nat} {t e : TypeId} {v : Value} {x : DataW H × List MemPlace} (ht : P.underlying t = some (.slice e)) (he : flatT P 6 e = true) (hsz : P.cellsOf e = 10) (hx : DataW.trod enc P w base spare held fuel t [v] = some x) :
    ∃ xs : List Opr, Arr w v 10 (xs.map Opr.cells) ∧ (∀ u ∈ xs, u.InRo) ∧ xs.length ≤ maxLen :=
  slice_list Opr.cells Opr.InRo ht hsz hx fun fuel' es y h => by
    obtain ⟨ns, rfl, hl, hr⟩ := trod_flat he h
    rw [hsz] at hl
    match ns, hl with
    | [a, b, c, d, e, f, g, i, j, k], _ => exact ⟨⟨a, b, c, d, e, f, g, i, j, k⟩, rfl, hr⟩
structure KrnRep (w : World) (v : Value) (k : Krn) : Prop where
  ops : Arr w v 10 (k.ops.map Opr.cells)
  pace : InR k.pace
  stages : InR k.stages
  rops : ∀ o ∈ k.ops, o.InRo
  len : k.ops.length ≤ maxLen
theorem int_one {fuel : Nat} {t : TypeId} {cs : List Value} {x : DataW H × List MemPlace} (ht : P.underlying t = some (.int .i64)) (hx : DataW.trod enc P w base spare held fuel t cs = some x) : ∃ n, cs = [.int .i64 n] ∧ InR n := by
  obtain ⟨n, h, _, hw⟩ := DataW.trod_int ht hx
  exact ⟨n, h, wf_i64 hw⟩
theorem krn_arg {fuel : Nat} {t ti t2 e2 : TypeId} {fs : Array Field} {cs : List Value} {x : DataW H × List MemPlace} (ht : P.underlying t = some (.struct fs)) (hl : fs.toList.map (fun f => (f.type, f.offset)) = [(ti, 0), (ti, 1), (t2, 2)])
    (hi : P.underlying ti = some (.int .i64)) (h2 : P.underlying t2 = some (.slice e2)) (hf2 : flatT P 6 e2 = true) (hz : P.cellsOf t = 3 ∧ P.cellsOf ti = 1 ∧ P.cellsOf t2 = 1 ∧ P.cellsOf e2 = 10)
    (hx : DataW.trod enc P w base spare held fuel t cs = some x) : ∃ v k, cs = [.int .i64 k.pace, .int .i64 k.stages, v] ∧ KrnRep w v k := by
  obtain ⟨z0, z1, z2, z3⟩ := hz
  have hlen := (trod_struct ht hx).1
  rw [z0] at hlen
  obtain ⟨_, _, g1⟩ := struct_at ht hl hx ti 0 (by simp)
  obtain ⟨_, _, g2⟩ := struct_at ht hl hx ti 1 (by simp)
  obtain ⟨_, _, g3⟩ := struct_at ht hl hx t2 2 (by simp)
  match cs, hlen with
  | [v1, v2, v3], _ =>
    rw [z1] at g1 g2
    rw [z2] at g3
    obtain ⟨p, hp, rp⟩ := int_one hi g1
    obtain ⟨q, hq, rq⟩ := int_one hi g2
    obtain ⟨ops, a, b, c⟩ := oprs_arg h2 hf2 z3 g3
    simp at hp hq
    subst hp; subst hq
    exact ⟨v3, ⟨p, q, ops⟩, rfl, a, rp, rq, b, c⟩
structure PlnRep (w : World) (v : Value) (k : Pln) : Prop where
  times : Arr w v 1 (k.times.map icell)
  pace : InR k.pace
  rtimes : ∀ o ∈ k.times, InR o
  len : k.times.length ≤ maxLen
theorem pln_arg {fuel : Nat} {t ti t2 e2 : TypeId} {fs : Array Field} {cs : List Value} {x : DataW H × List MemPlace} (ht : P.underlying t = some (.struct fs)) (hl : fs.toList.map (fun f => (f.type, f.offset)) = [(ti, 0), (t2, 1)])
    (hi : P.underlying ti = some (.int .i64)) (h2 : P.underlying t2 = some (.slice e2)) (hf2 : flatT P 6 e2 = true) (hz : P.cellsOf t = 2 ∧ P.cellsOf ti = 1 ∧ P.cellsOf t2 = 1 ∧ P.cellsOf e2 = 1)
    (hx : DataW.trod enc P w base spare held fuel t cs = some x) : ∃ v k, cs = [.int .i64 k.pace, v] ∧ PlnRep w v k := by
  obtain ⟨z0, z1, z2, z3⟩ := hz
  have hlen := (trod_struct ht hx).1
  rw [z0] at hlen
  obtain ⟨_, _, g1⟩ := struct_at ht hl hx ti 0 (by simp)
  obtain ⟨_, _, g3⟩ := struct_at ht hl hx t2 1 (by simp)
  match cs, hlen with
  | [v1, v3], _ =>
    rw [z1] at g1
    rw [z2] at g3
    obtain ⟨p, hp, rp⟩ := int_one hi g1
    obtain ⟨ts, a, b, c⟩ := ints_arg h2 hf2 z3 g3
    simp at hp
    subst hp
    exact ⟨v3, ⟨p, ts⟩, rfl, a, rp, b, c⟩
/-- Rows as plain lists. -/
structure RowsOk (xss : List (List Int)) : Prop where
  rng : ∀ xs ∈ xss, ∀ x ∈ xs, InR x
  lens : ∀ xs ∈ xss, xs.length ≤ maxLen
  len : xss.length ≤ maxLen
theorem RowsRep.plain {v : Value} {B : List (Value × List Int)} (h : RowsRep w v B) : RowsA w v (B.map (·.2)) ∧ RowsOk (B.map (·.2)) :=
  ⟨⟨B, rfl, h.rows, h.each⟩, fun xs hx => by obtain ⟨p, hp, rfl⟩ := List.mem_map.1 hx; exact h.rng p hp, fun xs hx => by obtain ⟨p, hp, rfl⟩ := List.mem_map.1 hx; exact h.lens p hp, by rw [List.length_map]; exact h.len⟩
end
end Go.Rd
end

section
namespace Go.Rd
set_option linter.unusedVariables false

theorem ite_tb {p : Prop} : (if tb p = true then (true : Bool) else false) = tb p := by cases tb p <;> rfl
theorem tb_t {p : Prop} (h : p) : tb p = true := tb_of h
theorem tb_f {p : Prop} (h : ¬ p) : tb p = false := tb_nof h

/-! ### machines -/
def tgtAt (t : Tgt) (i : Nat) : Prop := 1 ≤ sel3 t.u0 t.u1 t.u2 i ∧ sel3 t.u0 t.u1 t.u2 i ≤ 4 ∧ 1 ≤ sel3 t.w0 t.w1 t.w2 i ∧ sel3 t.w0 t.w1 t.w2 i ≤ 6
theorem tgtAt_all (t : Tgt) : (∀ i, i < 3 → tgtAt t i) ↔ ((1 ≤ t.u0 ∧ t.u0 ≤ 4 ∧ 1 ≤ t.w0 ∧ t.w0 ≤ 6) ∧ (1 ≤ t.u1 ∧ t.u1 ≤ 4 ∧ 1 ≤ t.w1 ∧ t.w1 ≤ 6) ∧ (1 ≤ t.u2 ∧ t.u2 ≤ 4 ∧ 1 ≤ t.w2 ∧ t.w2 ≤ 6)) := by
  constructor
  · intro h
    exact ⟨h 0 (by omega), h 1 (by omega), h 2 (by omega)⟩
  · rintro ⟨h0, h1, h2⟩ i hi
    match i, hi with
    | 0, _ => exact h0
    | 1, _ => exact h1
    | 2, _ => exact h2
theorem tgt_step (t : Tgt) (i : Nat) (hi : i < 3) (f : Int → Option (Stp Int Bool)) (hf : f i = br (decide ((i : Int) < 3)) (
    ck (IX (i : Int) 3) <| ck ((!(decide ((sel3 t.u0 t.u1 t.u2 i) < 1))) = true → IX (i : Int) 3) <| ck ((!((decide ((sel3 t.u0 t.u1 t.u2 i) < 1)) || (decide ((sel3 t.u0 t.u1 t.u2 i) > 4)))) = true → IX (i : Int) 3) <|
    ck ((!(((decide ((sel3 t.u0 t.u1 t.u2 i) < 1)) || (decide ((sel3 t.u0 t.u1 t.u2 i) > 4))) || (decide ((sel3 t.w0 t.w1 t.w2 i) < 1)))) = true → IX (i : Int) 3) <|
    br ((((decide ((sel3 t.u0 t.u1 t.u2 i) < 1)) || (decide ((sel3 t.u0 t.u1 t.u2 i) > 4))) || (decide ((sel3 t.w0 t.w1 t.w2 i) < 1))) || (decide ((sel3 t.w0 t.w1 t.w2 i) > 6))) (some (.ret false)) (ck (IR ((i : Int) + 1)) <| some (.next ((i : Int) + 1)))) (some (.brk (i : Int)))) :
    (tgtAt t i → f i = some (.next ((i : Int) + 1))) ∧ (¬ tgtAt t i → f i = some (.ret false)) := by
  have hix : IX (i : Int) 3 := ⟨by omega, by omega⟩
  rw [hf, br_T (by omega), ck_yes hix, ck_imp (fun _ => hix), ck_imp (fun _ => hix), ck_imp (fun _ => hix), ck_IR (by omega) (by omega)]
  unfold tgtAt
  constructor
  · intro h
    have : ((((decide ((sel3 t.u0 t.u1 t.u2 i) < 1)) || (decide ((sel3 t.u0 t.u1 t.u2 i) > 4))) || (decide ((sel3 t.w0 t.w1 t.w2 i) < 1))) || (decide ((sel3 t.w0 t.w1 t.w2 i) > 6))) = false := by
      simp only [Bool.or_eq_false_iff, decide_eq_false_iff_not]; omega
    rw [this]; rfl
  · intro h
    have : ((((decide ((sel3 t.u0 t.u1 t.u2 i) < 1)) || (decide ((sel3 t.u0 t.u1 t.u2 i) > 4))) || (decide ((sel3 t.w0 t.w1 t.w2 i) < 1))) || (decide ((sel3 t.w0 t.w1 t.w2 i) > 6))) = true := by
      simp only [Bool.or_eq_true, decide_eq_true_eq]; omega
    rw [this]; rfl
theorem target_May_s (t : Tgt) : target_May_m t = some (tgtOk t) := by
  unfold target_May_m
  have ha := tgtAt_all t
  rcases lp_all (f := target_May_L0 t) (n := 3) (p := tgtAt t) (fun i hi _ => tgt_step t i hi _ rfl) (by unfold target_May_L0; exact br_F (by omega)) with ⟨h, e⟩ | ⟨h, e⟩
  · rw [e, bd_ret, Out.on_go]
    congr 1
    rw [ha] at h
    unfold tgtOk
    rw [← Bool.decide_and]
    exact decide_eq_decide.2 ⟨fun h' => ⟨h.1, h.2.1, h.2.2, h'⟩, fun h' => h'.2.2.2⟩
  · rw [e, bd_ret, Out.on_ret]
    congr 1
    rw [ha] at h
    exact (tgtOk_not.2 fun h' => h ⟨h'.1, h'.2.1, h'.2.2.1⟩).symm
theorem ref_tMay_s (t : Tgt) : roundelayref4_May_m t = some (tgtOk t) := by
  unfold roundelayref4_May_m
  have ha := tgtAt_all t
  rcases lp_all (f := roundelayref4_May_L0 t) (n := 3) (p := tgtAt t) (fun i hi _ => tgt_step t i hi _ rfl) (by unfold roundelayref4_May_L0; exact br_F (by omega)) with ⟨h, e⟩ | ⟨h, e⟩
  · rw [e, bd_ret, Out.on_go]
    congr 1
    rw [ha] at h
    unfold tgtOk
    rw [← Bool.decide_and]
    exact decide_eq_decide.2 ⟨fun h' => ⟨h.1, h.2.1, h.2.2, h'⟩, fun h' => h'.2.2.2⟩
  · rw [e, bd_ret, Out.on_ret]
    congr 1
    rw [ha] at h
    exact (tgtOk_not.2 fun h' => h ⟨h'.1, h'.2.1, h'.2.2.1⟩).symm
theorem target_Wait_s (t : Tgt) (op : Int) : target_Wait_m t op = some (waitV t op) := by
  have hc := clsV_range op
  unfold target_Wait_m waitV
  rw [target_May_s, bd_ret]
  cases h : tgtOk t with
  | true => simp only [Bool.not_true, br_false, if_true]; rw [num_Class_s, bd_ret, ck_IX hc.1 hc.2]
  | false => rfl
theorem ref_Wait_s (t : Tgt) (op : Int) : roundelayref4_Wait_m t op = some (waitV t op) := by
  have hc := clsV_range op
  unfold roundelayref4_Wait_m waitV
  rw [ref_tMay_s, bd_ret]
  cases h : tgtOk t with
  | true => simp only [Bool.not_true, br_false, if_true]; rw [ref_Class_s, bd_ret, ck_IX hc.1 hc.2]
  | false => rfl

/-! ### loops -/
theorem Uses_s (s : Stm) : loop_Uses_m s = some (usesL s) := by
  unfold loop_Uses_m usesL
  simp only [br_eq, beq_iff_eq, decide_eq_true_eq]
  (repeat' split) <;> rfl
theorem ref_Uses_s (s : Stm) : roundelayref2_Uses_m s = some (usesL s) := by
  unfold roundelayref2_Uses_m usesL
  simp only [br_eq, beq_iff_eq, decide_eq_true_eq]
  (repeat' split) <;> rfl
theorem ref_s (l : Lp) (k : Int) (r : Rf) : loop_ref_m l k r = some (tb (RefOk l.body.length k r)) := by
  unfold loop_ref_m loop_in_m bdG
  simp only [bd_ret, br_eq, beq_iff_eq]
  by_cases h0 : r.bk = 0
  · rw [if_pos h0, h0]
    simp only [show ((0 : Int) ≥ 0) from by omega, show ((0 : Int) < 4) from by omega, decide_true, Bool.and_self, if_true, Bool.true_and]
    congr 1
    refine tb_eq ?_
    simp only [Bool.and_eq_true, decide_eq_true_eq]
    unfold RefOk
    omega
  · rw [if_neg h0]
    by_cases h1 : 0 ≤ r.bk ∧ r.bk < 4
    · simp only [show r.bk ≥ 0 from h1.1, h1.2, decide_true, Bool.and_self, if_true, Bool.true_and]
      congr 1
      refine tb_eq ?_
      simp only [Bool.and_eq_true, decide_eq_true_eq]
      unfold RefOk ln
      omega
    · have : (decide (r.bk ≥ 0) && decide (r.bk < 4)) = false := by
        simp only [Bool.and_eq_false_iff, decide_eq_false_iff_not]; omega
      rw [this]
      simp only [Bool.false_eq_true, if_false, Bool.false_and]
      congr 1
      exact (tb_f (by unfold RefOk; omega)).symm
/-- The loop's numbers are such as a program can have. -/
structure Lp.Fine (l : Lp) : Prop where
  rlogs : ∀ x ∈ l.logs, InR x
  rbody : ∀ x ∈ l.body, x.InR
  routs : ∀ x ∈ l.outs, InR x
  llogs : l.logs.length ≤ maxLen
  lbody : l.body.length ≤ maxLen
  louts : l.outs.length ≤ maxLen
theorem LpRep.fine {w : World} {v1 v2 v3 : Value} {l : Lp} (h : LpRep w v1 v2 v3 l) : l.Fine := ⟨h.rlogs, h.rbody, h.routs, h.llogs, h.lbody, h.louts⟩
theorem maxLen_eq : maxLen = 9223372036854775807 := rfl
theorem zero2 (r : Rf) : ([r.st, r.bk] == [(0 : Int), 0]) = tb r.isZero := by
  refine tb_eq ?_
  simp [Rf.isZero]
theorem stmt_uses (l : Lp) (k : Int) (s : Stm) (hx : l.body.length ≤ maxLen) : (UsesTo l.body.length k (usesL s).length s ∧ lp (loop_stmt_L0 l k (usesL s)) 0 = some (.go ((usesL s).length : Int))) ∨
    (¬ UsesTo l.body.length k (usesL s).length s ∧ lp (loop_stmt_L0 l k (usesL s)) 0 = some (.ret false)) := by
  have hl := usesL_len s
  have := lp_all (f := loop_stmt_L0 l k (usesL s)) (n := (usesL s).length) (p := fun i => RefOk l.body.length k ((usesL s).getD i Rf.zero)) (fun i hi _ => by
    have e : loop_stmt_L0 l k (usesL s) i = br (!tb (RefOk l.body.length k ((usesL s).getD i Rf.zero))) (some (.ret false)) (some (.next ((i : Int) + 1))) := by
      unfold loop_stmt_L0
      rw [br_T (by unfold ln; omega), ck_IX (by omega) (by unfold ln; omega), ref_s, bd_ret, ck_IR (by omega) (by omega)]
      rfl
    constructor
    · intro h; rw [e, tb_t h]; rfl
    · intro h; rw [e, tb_f h]; rfl) (by unfold loop_stmt_L0; exact br_F (by unfold ln; omega))
  rcases this with ⟨h, e⟩ | ⟨h, e⟩
  · exact .inl ⟨fun j hj hj2 => h j hj2, e⟩
  · exact .inr ⟨fun h' => h fun i hi => h' i (by omega) hi, e⟩
theorem stillB (s : Stm) : ((s.ar == 0 && s.sp == 0) && s.pl == 0) = tb (StillOk s) := by
  refine tb_eq ?_
  simp [StillOk, and_assoc]
theorem wordB (nl : Int) (s : Stm) : (((decide (s.ar ≥ 0) && decide (s.ar < nl)) && (decide (s.sp ≥ -64) && decide (s.sp < 65))) && (decide (s.pl ≥ -64) && decide (s.pl < 65))) = tb (WordOk nl s) := by
  refine tb_eq ?_
  simp only [Bool.and_eq_true, decide_eq_true_eq]
  unfold WordOk
  omega
theorem tb_and {p q : Prop} : (tb p && tb q) = tb (p ∧ q) := by
  refine tb_eq ?_
  rw [Bool.and_eq_true, tb_iff, tb_iff]
theorem stmt_s (l : Lp) (k : Nat) (hk : k < l.body.length) (hf : l.Fine) : loop_stmt_m l k = some (tb (StmtOk l.logs.length l.body.length k (ele l.body k))) := by
  have hR : (ele l.body k).InR := ele_all hf.rbody hk
  have hop := hR.1
  unfold Rd.InR at hop
  have hl := hf.lbody
  rw [maxLen_eq] at hl
  generalize hs : ele l.body k = s at *
  have hs' : (Stm.mk s.op s.a s.b s.ar s.sp s.pl s.n) = s := rfl
  unfold loop_stmt_m
  rw [ck_IX (by omega) (by unfold ln; omega), hs, hs', Uses_s]
  unfold loop_in_m
  simp only [bd_ret, bdG_some']
  rcases stmt_uses l k s hf.lbody with ⟨hu, e⟩ | ⟨hu, e⟩
  · rw [e]
    simp only [bd_ret, Out.on_go]
    rw [tb_congr (stmt_rest (nl := l.logs.length) hu (by omega)), stillB, zero2, zero2]
    have w : ∀ A B C : Bool, ((A && (if A = true then B else false)) && (if (A && (if A = true then B else false)) = true then C else false)) = ((A && B) && C) := by decide
    rw [w, show ln l.logs = (l.logs.length : Int) from rfl, wordB]
    simp only [br_eq, beq_iff_eq, bne_iff_ne]
    by_cases h1 : s.op = 1
    · rw [if_pos h1, tb_congr (rest_1 h1), tb_and, tb_and, tb_congr (and_assoc)]
    · rw [if_neg h1]
      by_cases hn : s.n = 0
      · rw [if_neg (by simpa using hn)]
        by_cases h2 : s.op = 2
        · rw [if_pos h2, tb_congr (rest_2 h2 hn), tb_and, tb_and, tb_congr (and_assoc)]
        · rw [if_neg h2]
          by_cases h3 : s.op = 3
          · rw [if_pos h3, tb_congr (rest_3 h3 hn), tb_and, tb_and, tb_congr (and_assoc)]
          · rw [if_neg h3]
            by_cases h4 : s.op = 4
            · rw [if_pos h4, tb_congr (rest_4 h4 hn), tb_and]
            · rw [if_neg h4, tb_congr (rest_5 h1 h2 h3 h4 hn)]
              have ho := op_sub10 hop
              have e1 : (decide (IntKind.i64.wrap (s.op - 10) ≥ 1) && decide (IntKind.i64.wrap (s.op - 10) < 9)) = tb (11 ≤ s.op ∧ s.op ≤ 18) := by
                refine tb_eq ?_
                rw [Bool.and_eq_true, decide_eq_true_eq, decide_eq_true_eq]
                exact ho
              rw [e1]
              by_cases hst : StillOk s
              · rw [tb_t hst, if_pos rfl, Bool.true_and]
                congr 1
                exact tb_congr ⟨fun h => ⟨hst, h⟩, fun h => h.2⟩
              · rw [tb_f hst, Bool.false_and]
                congr 1
                exact (tb_f fun h => hst h.1).symm
      · rw [if_pos (by simpa using hn)]
        congr 1
        exact (tb_f (rest_n h1 hn)).symm
  · rw [e]
    simp only [bd_ret, Out.on_ret]
    congr 1
    refine (tb_f fun h => hu fun j hj hj2 => ?_).symm
    exact (uses_all.2 ⟨h.1, h.2.1⟩) j hj2

def LogAt (l : Lp) (j : Nat) : Prop := 0 ≤ l.logs.getD j 0 ∧ l.logs.getD j 0 ≤ 5
theorem logs_to {l : Lp} : LogsTo l l.logs.length ↔ ∀ i, i < l.logs.length → LogAt l i := ⟨fun h i hi => h i (by omega), fun h j hj => h j (by omega)⟩
def BodyAt (l : Lp) (j : Nat) : Prop := StmtOk l.logs.length l.body.length j (l.body.getD j Stm.zero)
theorem body_to {l : Lp} : BodyTo l l.body.length ↔ ∀ i, i < l.body.length → BodyAt l i := ⟨fun h i hi => h i (by omega), fun h j hj => h j (by omega)⟩
theorem ele_int (l : List Int) (i : Nat) : ele l (i : Int) = l.getD i 0 := rfl
theorem ele_stm (l : List Stm) (i : Nat) : ele l (i : Int) = l.getD i Stm.zero := rfl
theorem logs_s (l : Lp) (hf : l.Fine) : (LogsTo l l.logs.length ∧ lp (loop_May_L0 l) 0 = some (.go (l.logs.length : Int))) ∨ (¬ LogsTo l l.logs.length ∧ lp (loop_May_L0 l) 0 = some (.ret false)) := by
  have hl := hf.llogs
  rw [maxLen_eq] at hl
  rw [logs_to]
  refine lp_all (fun i hi _ => ?_) (by unfold loop_May_L0; exact br_F (by unfold ln; omega))
  have e : loop_May_L0 l i = br (!(decide (l.logs.getD i 0 ≥ 0) && decide (l.logs.getD i 0 < 6))) (some (.ret false)) (some (.next ((i : Int) + 1))) := by
    unfold loop_May_L0 loop_in_m
    rw [br_T (by unfold ln; omega), ck_IX (by omega) (by unfold ln; omega), bd_ret, ck_IR (by omega) (by omega)]
    rfl
  rw [e]
  constructor
  · intro h
    rw [show (decide (l.logs.getD i 0 ≥ 0) && decide (l.logs.getD i 0 < 6)) = true from by simp only [Bool.and_eq_true, decide_eq_true_eq]; unfold LogAt at h; omega]; rfl
  · intro h
    rw [show (decide (l.logs.getD i 0 ≥ 0) && decide (l.logs.getD i 0 < 6)) = false from by simp only [Bool.and_eq_false_iff, decide_eq_false_iff_not]; unfold LogAt at h; omega]; rfl
theorem outs_s (l : Lp) (hf : l.Fine) : ∀ (m i : Nat), i + m = l.outs.length → OutsTo l i →
    (OutsTo l l.outs.length ∧ ∃ x, lp (loop_May_L2 l) (lastOut l i, i) = some (.go (x, (l.outs.length : Int)))) ∨ (¬ OutsTo l l.outs.length ∧ lp (loop_May_L2 l) (lastOut l i, i) = some (.ret false))
  | 0, i, h, hp => by
    have hi : i = l.outs.length := by omega
    subst hi
    exact .inl ⟨hp, _, lp_brk (by unfold loop_May_L2; exact br_F (by unfold ln; omega))⟩
  | m + 1, i, h, hp => by
    have hl := hf.louts
    have hb := hf.lbody
    rw [maxLen_eq] at hl hb
    have hlo := lastOut_bd (by omega) hp
    have hst := out_step (l := l) (i := i) (by omega) hp
    rw [Int.toNat_natCast] at hst
    have e : loop_May_L2 l (lastOut l i, i) = br (!(decide (l.outs.getD i 0 ≥ lastOut l i + 1) && decide (l.outs.getD i 0 < l.body.length))) (some (.ret false)) (some (.next (l.outs.getD i 0, (i : Int) + 1))) := by
      unfold loop_May_L2 loop_in_m
      simp only
      rw [br_T (by unfold ln; omega), ck_IX (by omega) (by unfold ln; omega), ck_IR (by omega) (by omega), bd_ret, ck_IR (by omega) (by omega)]
      rfl
    by_cases hc : lastOut l i + 1 ≤ l.outs.getD i 0 ∧ l.outs.getD i 0 < l.body.length
    · have hc' : (decide (l.outs.getD i 0 ≥ lastOut l i + 1) && decide (l.outs.getD i 0 < l.body.length)) = true := by simp only [Bool.and_eq_true, decide_eq_true_eq]; exact hc
      rw [hc', Bool.not_true, br_false] at e
      have hnext : OutsTo l ((i : Int) + 1) := to_next hp (by omega) (by rw [Int.toNat_natCast]; exact hst.1 hc)
      have hn := lastOut_next (l := l) (i := i) (by omega)
      rw [Int.toNat_natCast] at hn
      have ih := outs_s l hf m (i + 1) (by omega) hnext
      rw [show ((i + 1 : Nat) : Int) = (i : Int) + 1 from rfl, hn] at ih
      rcases ih with ⟨a, x, b⟩ | ⟨a, b⟩
      · exact .inl ⟨a, x, (lp_next e).trans b⟩
      · exact .inr ⟨a, (lp_next e).trans b⟩
    · have hc' : (decide (l.outs.getD i 0 ≥ lastOut l i + 1) && decide (l.outs.getD i 0 < l.body.length)) = false := by simp only [Bool.and_eq_false_iff, decide_eq_false_iff_not]; omega
      rw [hc', Bool.not_false, br_true] at e
      exact .inr ⟨fun h' => hc (hst.2 (h' i (by omega))), lp_ret e⟩
theorem body_s (l : Lp) (hf : l.Fine) (hle : l.body.length ≤ 16) : (BodyTo l l.body.length ∧ lp (loop_May_L4 l) 0 = some (.go (l.body.length : Int))) ∨ (¬ BodyTo l l.body.length ∧ lp (loop_May_L4 l) 0 = some (.ret false)) := by
  rw [body_to]
  refine lp_all (fun i hi _ => ?_) (by unfold loop_May_L4; exact br_F (by unfold ln; omega))
  have e : loop_May_L4 l i = br (!tb (BodyAt l i)) (some (.ret false)) (some (.next ((i : Int) + 1))) := by
    have h16 : ¬ ln l.body > 16 := by unfold ln; omega
    unfold loop_May_L4
    rw [br_T (by unfold ln; omega), stmt_s l i hi hf, decide_eq_false h16, ck_IR (by omega) (by omega), ele_stm]
    simp only [Bool.not_false, bdG_t, bd_ret, Bool.false_or, BodyAt]
  rw [e]
  exact ⟨fun h => by rw [tb_t h]; rfl, fun h => by rw [tb_f h]; rfl⟩
theorem May_s (l : Lp) (hf : l.Fine) : loop_May_m l = some (tb (LoopOk l)) := by
  unfold loop_May_m
  rcases logs_s l hf with ⟨h1, e1⟩ | ⟨h1, e1⟩
  · rw [e1, bd_ret, Out.on_go]
    have h0 := outs_s l hf l.outs.length 0 (by omega) (to_zero)
    rw [show lastOut l ((0 : Nat) : Int) = -1 from rfl] at h0
    rcases h0 with ⟨h2, x, e2⟩ | ⟨h2, e2⟩
    · rw [show ((-1 : Int), (0 : Int)) = (-1, ((0 : Nat) : Int)) from rfl, e2, bd_ret, Out.on_go]
      simp only
      by_cases h16 : l.body.length ≤ 16
      · rcases body_s l hf h16 with ⟨h3, e3⟩ | ⟨h3, e3⟩
        · rw [e3, bd_ret, Out.on_go]
          congr 1
          refine tb_eq ?_
          simp only [Bool.and_eq_true, decide_eq_true_eq]
          unfold ln
          exact ⟨fun h => ⟨by omega, by omega, h16, h1, h2, h3⟩, fun h => ⟨by have := h.1; omega, by have := h.2.1; omega⟩⟩
        · rw [e3, bd_ret, Out.on_ret]
          congr 1
          exact (tb_f fun h => h3 h.2.2.2.2.2).symm
      · have : loop_May_L4 l 0 = some (.ret false) := by
          unfold loop_May_L4
          rw [br_T (by unfold ln; omega), show (decide (ln l.body > 16)) = true from decide_eq_true (by unfold ln; omega)]
          rfl
        rw [lp_ret this, bd_ret, Out.on_ret]
        congr 1
        exact (tb_f fun h => h16 h.2.2.1).symm
    · rw [show ((-1 : Int), (0 : Int)) = (-1, ((0 : Nat) : Int)) from rfl, e2, bd_ret, Out.on_ret]
      congr 1
      exact (tb_f fun h => h2 h.2.2.2.2.1).symm
  · rw [e1, bd_ret, Out.on_ret]
    congr 1
    exact (tb_f fun h => h1 h.2.2.2.1).symm

/-! ### the reference -/
theorem ref_uses (l : Lp) (k : Int) (s : Stm) (hx : l.body.length ≤ maxLen) (hk : 0 ≤ k) (hk2 : k ≤ l.body.length) : (UsesTo l.body.length k (usesL s).length s ∧ lp (roundelayref2_stmt_L0 l k (usesL s)) 0 = some (.go ((usesL s).length : Int))) ∨
    (¬ UsesTo l.body.length k (usesL s).length s ∧ lp (roundelayref2_stmt_L0 l k (usesL s)) 0 = some (.ret false)) := by
  have hl := usesL_len s
  rw [maxLen_eq] at hx
  have := lp_all (f := roundelayref2_stmt_L0 l k (usesL s)) (n := (usesL s).length) (p := fun i => RefOk l.body.length k ((usesL s).getD i Rf.zero)) (fun i hi _ => by
    have hix : IX (i : Int) (ln (usesL s)) := ⟨by omega, by unfold ln; omega⟩
    have e : roundelayref2_stmt_L0 l k (usesL s) i = br (!tb (RefOk l.body.length k ((usesL s).getD i Rf.zero))) (some (.ret false)) (some (.next ((i : Int) + 1))) := by
      unfold roundelayref2_stmt_L0 roundelayref2_Within_m
      rw [show ele (usesL s) (i : Int) = (usesL s).getD i Rf.zero from rfl]
      generalize (usesL s).getD i Rf.zero = r
      rw [br_T (by unfold ln; omega), ck_IR (by unfold ln; omega) (by unfold ln; omega), ck_yes hix]
      simp only [bd_ret, bdG_some', Bool.not_not]
      rw [ck_yes hix, ck_imp (fun _ => hix), ck_yes hix, ck_imp (fun _ => hix), ck_IR (by omega) (by omega), ck_IR (by omega) (by omega)]
      have hb : ∀ b : Bool, (!b || !(if b = true then (decide (r.st ≥ 0) && decide (r.st ≤ k - 1)) else false)) = !(b && (decide (r.st ≥ 0) && decide (r.st ≤ k - 1))) := fun b => by cases b <;> simp
      have hb2 : ∀ b : Bool, (!b || !(if b = true then (decide (r.st ≥ 0) && decide (r.st ≤ ln l.body - 1)) else false)) = !(b && (decide (r.st ≥ 0) && decide (r.st ≤ ln l.body - 1))) := fun b => by cases b <;> simp
      rw [hb, hb2]
      rw [br_eq]
      simp only [beq_iff_eq]
      have q : ∀ {b : Bool} {p : Prop}, (b = true ↔ p) → br (!b) (some (Stp.ret false)) (some (Stp.next ((i : Int) + 1))) = br (!tb p) (some (.ret false)) (some (.next ((i : Int) + 1))) := fun h => by rw [tb_eq h]
      split
      · refine q ?_
        simp only [Bool.and_eq_true, decide_eq_true_eq]
        unfold RefOk; omega
      · refine q ?_
        simp only [Bool.and_eq_true, decide_eq_true_eq]
        unfold RefOk ln; omega
    constructor
    · intro h; rw [e, tb_t h]; rfl
    · intro h; rw [e, tb_f h]; rfl) (by unfold roundelayref2_stmt_L0; exact br_F (by unfold ln; omega))
  rcases this with ⟨h, e⟩ | ⟨h, e⟩
  · exact .inl ⟨fun j hj hj2 => h j hj2, e⟩
  · exact .inr ⟨fun h' => h fun i hi => h' i (by omega) hi, e⟩
theorem zerosB (s : Stm) : ((decide (ln (usesL s) < 2) && ((s.b.st != 0) || (s.b.bk != 0))) || (decide (ln (usesL s) < 1) && ((s.a.st != 0) || (s.a.bk != 0)))) = !tb (Zeros s) := by
  have : (!((decide (ln (usesL s) < 2) && ((s.b.st != 0) || (s.b.bk != 0))) || (decide (ln (usesL s) < 1) && ((s.a.st != 0) || (s.a.bk != 0))))) = tb (Zeros s) := by
    refine tb_eq ?_
    unfold Zeros Rf.isZero ln
    simp only [Bool.not_eq_true', Bool.or_eq_false_iff, Bool.and_eq_false_iff, decide_eq_false_iff_not, bne_eq_false_iff_eq]
    omega
  rw [← this, Bool.not_not]
theorem ref_stmt_s (l : Lp) (k : Nat) (hk : k < l.body.length) (hf : l.Fine) : roundelayref2_stmt_m l k = some (tb (StmtOk l.logs.length l.body.length k (ele l.body k))) := by
  have hl := hf.lbody
  have hl2 := hf.llogs
  rw [maxLen_eq] at hl hl2
  generalize hs : ele l.body k = s
  have hs' : (Stm.mk s.op s.a s.b s.ar s.sp s.pl s.n) = s := rfl
  unfold roundelayref2_stmt_m
  rw [ck_IX (by omega) (by unfold ln; omega), hs, hs', ref_Uses_s]
  unfold roundelayref2_Within_m
  simp only [bd_ret, bdG_some']
  rcases ref_uses l k s hf.lbody (by omega) (by omega) with ⟨hu, e⟩ | ⟨hu, e⟩
  · rw [e]
    simp only [bd_ret, Out.on_go]
    rw [tb_congr (stmt_rest (nl := l.logs.length) hu (by omega)), zerosB, ck_IR (by unfold ln; omega) (by unfold ln; omega)]
    by_cases hz : Zeros s
    · rw [tb_t hz, Bool.not_true, br_false]
      by_cases hn : s.op = 1 ∨ s.n = 0
      · rw [show ((s.op != 1) && (s.n != 0)) = false from by simp; omega, br_false]
        by_cases h34 : s.op = 3 ∨ s.op = 4
        · rw [show ((s.op == 3) || (s.op == 4)) = true from by simpa using h34, br_true, tb_congr (rest_34 h34 hz (by omega))]
          have w : ∀ A B C : Bool, ((A && (if A = true then B else false)) && (if (A && (if A = true then B else false)) = true then C else false)) = ((A && B) && C) := by decide
          rw [w]
          congr 1
          refine tb_eq ?_
          simp only [Bool.and_eq_true, decide_eq_true_eq]
          unfold WordOk ln; omega
        · rw [show ((s.op == 3) || (s.op == 4)) = false from by simp; omega, br_false]
          by_cases hst : StillOk s
          · have hst' := hst
            unfold StillOk at hst'
            rw [show (((s.ar != 0) || (s.sp != 0)) || (s.pl != 0)) = false from by simp [hst'.1, hst'.2.1, hst'.2.2], br_false, tb_congr (rest_end h34 hz hst hn)]
            congr 1
            refine tb_eq ?_
            by_cases h12 : s.op = 1 ∨ s.op = 2
            · simp [h12]; omega
            · simp; omega
          · have hst' := hst
            unfold StillOk at hst'
            rw [show (((s.ar != 0) || (s.sp != 0)) || (s.pl != 0)) = true from by simp; omega, br_true]
            congr 1
            exact (tb_f fun h => hst (rest_still h34 h)).symm
      · rw [show ((s.op != 1) && (s.n != 0)) = true from by simp; omega, br_true]
        congr 1
        exact (tb_f (rest_n (by omega) (by omega))).symm
    · rw [tb_f hz, Bool.not_false, br_true]
      congr 1
      exact (tb_f fun h => hz (rest_zero h)).symm
  · rw [e]
    simp only [bd_ret, Out.on_ret]
    congr 1
    refine (tb_f fun h => hu fun j hj hj2 => ?_).symm
    exact (uses_all.2 ⟨h.1, h.2.1⟩) j hj2
def OutAt (l : Lp) (j : Nat) : Prop := 0 ≤ l.outs.getD j 0 ∧ l.outs.getD j 0 < l.body.length ∧ (∀ m : Nat, j = m + 1 → l.outs.getD m 0 < l.outs.getD j 0)
theorem outs_to {l : Lp} : OutsTo l l.outs.length ↔ ∀ i, i < l.outs.length → OutAt l i := ⟨fun h i hi => h i (by omega), fun h j hj => h j (by omega)⟩
theorem ref_outs (l : Lp) (hf : l.Fine) : (OutsTo l l.outs.length ∧ lp (roundelayref2_May_L2 l) 0 = some (.go (l.outs.length : Int))) ∨ (¬ OutsTo l l.outs.length ∧ lp (roundelayref2_May_L2 l) 0 = some (.ret false)) := by
  have hl := hf.louts
  have hb := hf.lbody
  rw [maxLen_eq] at hl hb
  rw [outs_to]
  refine lp_all (fun i hi _ => ?_) (by unfold roundelayref2_May_L2; exact br_F (by unfold ln; omega))
  have hix : IX (i : Int) (ln l.outs) := ⟨by omega, by unfold ln; omega⟩
  have e : roundelayref2_May_L2 l i = br (!tb (OutAt l i)) (some (.ret false)) (some (.next ((i : Int) + 1))) := by
    unfold roundelayref2_May_L2 roundelayref2_Within_m
    rw [br_T (by unfold ln; omega), ck_yes hix, ck_IR (by unfold ln; omega) (by unfold ln; omega), bd_ret, ck_imp (fun _ => hix), ck_imp (fun h => ⟨by omega, by omega⟩), ck_imp (fun h => ⟨by simp at h; omega, by unfold ln; omega⟩), ck_IR (by omega) (by omega)]
    have : ((!(decide (ele l.outs (i : Int) ≥ 0) && decide (ele l.outs (i : Int) ≤ ln l.body - 1))) || (decide ((i : Int) > 0) && decide (ele l.outs (i : Int) ≤ ele l.outs ((i : Int) - 1)))) = !tb (OutAt l i) := by
      have : (!((!(decide (ele l.outs (i : Int) ≥ 0) && decide (ele l.outs (i : Int) ≤ ln l.body - 1))) || (decide ((i : Int) > 0) && decide (ele l.outs (i : Int) ≤ ele l.outs ((i : Int) - 1))))) = tb (OutAt l i) := by
        refine tb_eq ?_
        rw [ele_int]
        unfold OutAt ln
        cases i with
        | zero => simp; omega
        | succ m =>
          have e2 : ((m + 1 : Nat) : Int) - 1 = (m : Int) := by omega
          rw [e2, ele_int]
          simp
          constructor <;> intro h <;> omega
      rw [← this, Bool.not_not]
    rw [this]
  rw [e]
  exact ⟨fun h => by rw [tb_t h]; rfl, fun h => by rw [tb_f h]; rfl⟩
theorem ref_logs (l : Lp) (hf : l.Fine) : (LogsTo l l.logs.length ∧ lp (roundelayref2_May_L0 l) 0 = some (.go (l.logs.length : Int))) ∨ (¬ LogsTo l l.logs.length ∧ lp (roundelayref2_May_L0 l) 0 = some (.ret false)) := by
  have hl := hf.llogs
  rw [maxLen_eq] at hl
  rw [logs_to]
  refine lp_all (fun i hi _ => ?_) (by unfold roundelayref2_May_L0; exact br_F (by unfold ln; omega))
  have e : roundelayref2_May_L0 l i = br (!(decide (l.logs.getD i 0 ≥ 0) && decide (l.logs.getD i 0 ≤ 5))) (some (.ret false)) (some (.next ((i : Int) + 1))) := by
    unfold roundelayref2_May_L0 roundelayref2_Within_m
    rw [br_T (by unfold ln; omega), ck_IX (by omega) (by unfold ln; omega), bd_ret, ck_IR (by omega) (by omega)]
    rfl
  rw [e]
  constructor
  · intro h
    rw [show (decide (l.logs.getD i 0 ≥ 0) && decide (l.logs.getD i 0 ≤ 5)) = true from by simp only [Bool.and_eq_true, decide_eq_true_eq]; unfold LogAt at h; omega]; rfl
  · intro h
    rw [show (decide (l.logs.getD i 0 ≥ 0) && decide (l.logs.getD i 0 ≤ 5)) = false from by simp only [Bool.and_eq_false_iff, decide_eq_false_iff_not]; unfold LogAt at h; omega]; rfl
theorem ref_body (l : Lp) (hf : l.Fine) : (BodyTo l l.body.length ∧ lp (roundelayref2_May_L4 l) 0 = some (.go (l.body.length : Int))) ∨ (¬ BodyTo l l.body.length ∧ lp (roundelayref2_May_L4 l) 0 = some (.ret false)) := by
  have hb := hf.lbody
  rw [maxLen_eq] at hb
  rw [body_to]
  refine lp_all (fun i hi _ => ?_) (by unfold roundelayref2_May_L4; exact br_F (by unfold ln; omega))
  have e : roundelayref2_May_L4 l i = br (!tb (BodyAt l i)) (some (.ret false)) (some (.next ((i : Int) + 1))) := by
    unfold roundelayref2_May_L4
    rw [br_T (by unfold ln; omega), ref_stmt_s l i hi hf, bd_ret, ck_IR (by omega) (by omega)]
    rfl
  rw [e]
  exact ⟨fun h => by rw [tb_t h]; rfl, fun h => by rw [tb_f h]; rfl⟩
theorem ref_May_s (l : Lp) (hf : l.Fine) : roundelayref2_May_m l = some (tb (LoopOk l)) := by
  unfold roundelayref2_May_m
  by_cases h0 : l.logs.length ≤ 3 ∧ 1 ≤ l.body.length ∧ l.body.length ≤ 16
  · rw [show ((decide (ln l.logs > 3) || decide (ln l.body < 1)) || decide (ln l.body > 16)) = false from by simp only [Bool.or_eq_false_iff, decide_eq_false_iff_not]; unfold ln; omega, br_false]
    rcases ref_logs l hf with ⟨h1, e1⟩ | ⟨h1, e1⟩
    · rw [e1, bd_ret, Out.on_go]
      rcases ref_outs l hf with ⟨h2, e2⟩ | ⟨h2, e2⟩
      · rw [e2, bd_ret, Out.on_go]
        rcases ref_body l hf with ⟨h3, e3⟩ | ⟨h3, e3⟩
        · rw [e3, bd_ret, Out.on_go]
          congr 1
          exact (tb_t ⟨h0.1, h0.2.1, h0.2.2, h1, h2, h3⟩).symm
        · rw [e3, bd_ret, Out.on_ret]
          congr 1
          exact (tb_f fun h => h3 h.2.2.2.2.2).symm
      · rw [e2, bd_ret, Out.on_ret]
        congr 1
        exact (tb_f fun h => h2 h.2.2.2.2.1).symm
    · rw [e1, bd_ret, Out.on_ret]
      congr 1
      exact (tb_f fun h => h1 h.2.2.2.1).symm
  · rw [show ((decide (ln l.logs > 3) || decide (ln l.body < 1)) || decide (ln l.body > 16)) = true from by simp only [Bool.or_eq_true, decide_eq_true_eq]; unfold ln; omega, br_true]
    congr 1
    exact (tb_f fun h => h0 ⟨h.1, h.2.1, h.2.2.1⟩).symm
/-! ### what a loop that may be is like -/
theorem ele_rows (l : List (List Int)) (i : Nat) : ele l (i : Int) = l.getD i [] := rfl
theorem LoopOk.log {l : Lp} (h : LoopOk l) (i : Nat) (hi : i < l.logs.length) : 0 ≤ l.logs.getD i 0 ∧ l.logs.getD i 0 ≤ 5 := h.2.2.2.1 i (by omega)
theorem LoopOk.out {l : Lp} (h : LoopOk l) (i : Nat) (hi : i < l.outs.length) : 0 ≤ l.outs.getD i 0 ∧ l.outs.getD i 0 < l.body.length := ⟨(h.2.2.2.2.1 i (by omega)).1, (h.2.2.2.2.1 i (by omega)).2.1⟩
theorem LoopOk.stm {l : Lp} (h : LoopOk l) (i : Nat) (hi : i < l.body.length) : StmtOk l.logs.length l.body.length i (l.body.getD i Stm.zero) := h.2.2.2.2.2 i (by omega)
theorem neB {a b : Int} : (a != b) = !tb (a = b) := by
  have : (!(a != b)) = tb (a = b) := tb_eq (by simp)
  rw [← this, Bool.not_not]
theorem outs_len {l : Lp} (h : LoopOk l) : l.outs.length ≤ 16 := by
  have h5 := h.2.2.2.2.1
  have key : ∀ i : Nat, i < l.outs.length → (i : Int) ≤ l.outs.getD i 0 := by
    intro i
    induction i with
    | zero => intro hi; exact (h5 0 (by omega)).1
    | succ i ih =>
      intro hi
      have h1 := ih (by omega)
      have h2 := (h5 (i + 1) (by omega)).2.2 i rfl
      omega
  rcases Nat.lt_or_ge 16 l.outs.length with hlt | hge
  · have h1 := key 16 hlt
    have h2 := (h5 16 (by omega)).2.1
    have := h.2.2.1
    omega
  · exact hge
theorem AL8 {n : Nat} (h : n ≤ 100000) : AL n 8 := ⟨by rw [maxLen_eq]; omega, by omega⟩
theorem AL24 {n : Nat} (h : n ≤ 100000) : AL n 24 := ⟨by rw [maxLen_eq]; omega, by omega⟩
end Go.Rd
end

section
namespace Go.Rd
set_option linter.unusedVariables false
noncomputable def cmp_isNaN_int__m (x : Int) : Option (Bool) :=
 some (x != x)

noncomputable def cmp_Compare_int__m (x : Int) (y : Int) : Option (Int) :=
 bd (cmp_isNaN_int__m x) fun x1 =>
 bd (cmp_isNaN_int__m y) fun x4 =>
 br x1 (
 br x4 (
 some 0) (
 some (-1))) (
 br x4 (
 some 1) (
 br (decide (x < y)) (
 some (-1)) (
 br (decide (x > y)) (
 some 1) (
 some 0))))

noncomputable def cmp_Or_int__L0 (vals : List Int) : Int → Option (Stp (Int) (Int)) := fun x8_1 =>
 br (decide (x8_1 < (ln vals))) (
 ck (IX x8_1 (ln vals)) <|
 br ((ele vals x8_1) != 0) (
 some (.ret (ele vals x8_1))) (
 ck (IR (x8_1 + 1)) <|
 some (.next (x8_1 + 1)))) (
 some (.brk x8_1))
noncomputable def cmp_Or_int__m (vals : List Int) : Option (Int) :=
 bd (lp (cmp_Or_int__L0 vals) 0) fun o1 => o1.on (fun x8_1 =>
 some 0) (fun r => some r)

noncomputable def dep_order_m (a : Edg) (b : Edg) : Option (Int) :=
 bd (cmp_Compare_int__m a.fr b.fr) fun x3 =>
 bd (cmp_Compare_int__m a.to b.to) fun x6 =>
 bd (cmp_Compare_int__m a.bk b.bk) fun x9 =>
 bd (cmp_Compare_int__m a.wt b.wt) fun x12 =>
 bd (cmp_Or_int__m [x3, x6, x9, x12]) fun x16 =>
 some x16
end Go.Rd
end

section
namespace Go.Rd
set_option linter.unusedVariables false
noncomputable def slices_Compact___api_Edge_api_Edge__L2 (ows0_3 : List Edg) (k3_3 : Int) : ((List Edg) × Int × Int) → Option (Stp ((List Edg) × Int × Int) (Empty)) := fun (ows0_4, k3_4, k25_4) =>
 ck (SX k3_3 (ln ows0_3) (ln ows0_4)) <|
 br (decide (k25_4 < (ln (sub ows0_4 k3_3 (ln ows0_3))))) (
 ck (IX k25_4 (ln (sub ows0_4 k3_3 (ln ows0_3)))) <|
 ck (IR (k25_4 - 1)) <|
 ck (IX (k25_4 - 1) (ln (sub ows0_4 k3_3 (ln ows0_3)))) <|
 br (!([(ele (sub ows0_4 k3_3 (ln ows0_3)) k25_4).fr, (ele (sub ows0_4 k3_3 (ln ows0_3)) k25_4).to, (ele (sub ows0_4 k3_3 (ln ows0_3)) k25_4).bk, (ele (sub ows0_4 k3_3 (ln ows0_3)) k25_4).wt] == [(ele (sub ows0_4 k3_3 (ln ows0_3)) (k25_4 - 1)).fr, (ele (sub ows0_4 k3_3 (ln ows0_3)) (k25_4 - 1)).to, (ele (sub ows0_4 k3_3 (ln ows0_3)) (k25_4 - 1)).bk, (ele (sub ows0_4 k3_3 (ln ows0_3)) (k25_4 - 1)).wt])) (
 ck (IX k25_4 (ln (sub ows0_4 k3_3 (ln ows0_3)))) <|
 ck (IX k3_4 (ln ows0_4)) <|
 ck (IR (k3_4 + 1)) <|
 ck (IR (k25_4 + 1)) <|
 some (.next ((upd ows0_4 k3_4 (ele (sub ows0_4 k3_3 (ln ows0_3)) k25_4)), (k3_4 + 1), (k25_4 + 1)))) (
 ck (IR (k25_4 + 1)) <|
 some (.next (ows0_4, k3_4, (k25_4 + 1))))) (
 some (.brk (ows0_4, k3_4, k25_4)))
noncomputable def slices_Compact___api_Edge_api_Edge__L0  : ((List Edg) × Int) → Option (Stp ((List Edg) × Int) (List Edg)) := fun (ows0_3, k3_3) =>
 br (decide (k3_3 < (ln ows0_3))) (
 ck (IX k3_3 (ln ows0_3)) <|
 ck (IR (k3_3 - 1)) <|
 ck (IX (k3_3 - 1) (ln ows0_3)) <|
 br ([(ele ows0_3 k3_3).fr, (ele ows0_3 k3_3).to, (ele ows0_3 k3_3).bk, (ele ows0_3 k3_3).wt] == [(ele ows0_3 (k3_3 - 1)).fr, (ele ows0_3 (k3_3 - 1)).to, (ele ows0_3 (k3_3 - 1)).bk, (ele ows0_3 (k3_3 - 1)).wt]) (
 ck (SX k3_3 (ln ows0_3) (ln ows0_3)) <|
 bd (lp (slices_Compact___api_Edge_api_Edge__L2 ows0_3 k3_3) (ows0_3, k3_3, 1)) fun o26 => o26.on (fun (ows0_4, k3_4, k25_4) =>
 ck (SX k3_4 (ln ows0_4) (ln ows0_4)) <|
 ck (SX 0 k3_4 (ln (clr ows0_4 k3_4 (Edg.mk 0 0 0 0)))) <|
 some (.ret (sub (clr ows0_4 k3_4 (Edg.mk 0 0 0 0)) 0 k3_4))) (fun r => r.elim)) (
 ck (IR (k3_3 + 1)) <|
 some (.next (ows0_3, (k3_3 + 1))))) (
 some (.brk (ows0_3, k3_3)))
noncomputable def slices_Compact___api_Edge_api_Edge__m (s : List Edg) : Option (List Edg) :=
 br (decide ((ln s) < 2)) (
 some s) (
 bd (lp (slices_Compact___api_Edge_api_Edge__L0) (s, 1)) fun o5 => o5.on (fun (ows0_3, k3_3) =>
 some ows0_3) (fun r => some r))
end Go.Rd
end

section
namespace Go.Rd
set_option linter.unusedVariables false
noncomputable def dep_meet_L0 (a : Stm) (b : Stm) (back : Int) (size : Int) : Int → Option (Stp (Int) (Bool)) := fun x11_1 =>
 br (decide (x11_1 < size)) (
 ck (IR (a.sp * x11_1)) <|
 ck (IR ((a.sp * x11_1) + a.pl)) <|
 ck (IR (x11_1 + back)) <|
 ck (IR (b.sp * (x11_1 + back))) <|
 ck (IR (((a.sp * x11_1) + a.pl) - (b.sp * (x11_1 + back)))) <|
 ck (IR ((((a.sp * x11_1) + a.pl) - (b.sp * (x11_1 + back))) - b.pl)) <|
 ck (IR (size - 1)) <|
 br ((bitAnd ((((a.sp * x11_1) + a.pl) - (b.sp * (x11_1 + back))) - b.pl) (size - 1)) == 0) (
 some (.ret true)) (
 ck (IR (x11_1 + 1)) <|
 some (.next (x11_1 + 1)))) (
 some (.brk x11_1))
noncomputable def dep_meet_m (a : Stm) (b : Stm) (back : Int) (size : Int) : Option (Bool) :=
 bd (lp (dep_meet_L0 a b back size) 0) fun o3 => o3.on (fun x11_1 =>
 some false) (fun r => some r)

noncomputable def dep_words_m (s : Stm) : Option (Bool) :=
 some ((s.op == 3) || (s.op == 4))

noncomputable def dep_memory_L0 (l : Lp) (from_ : Int) (to : Int) (wait11_2 : Int) : Int → Option (Stp (Int) (Edg × Bool)) := fun back13_3 =>
 br (decide (back13_3 ≤ (shlD 1 (ele l.logs ((ele l.body from_).ar))))) (
 bd (dep_meet_m (ele l.body from_) (ele l.body to) back13_3 (shlD 1 (ele l.logs ((ele l.body from_).ar)))) fun x41 =>
 br x41 (
 some (.ret ((Edg.mk from_ to back13_3 wait11_2), true))) (
 ck (IR (back13_3 + 1)) <|
 some (.next (back13_3 + 1)))) (
 some (.brk back13_3))
noncomputable def dep_memory_m (l : Lp) (from_ : Int) (to : Int) : Option (Edg × Bool) :=
 ck (IX from_ (ln l.body)) <|
 ck (IX to (ln l.body)) <|
 bd (dep_words_m (ele l.body from_)) fun x13 =>
 bdG (!(!x13)) (dep_words_m (ele l.body to)) fun x16 =>
 br ((((!x13) || (!x16)) || ((ele l.body from_).ar != (ele l.body to).ar)) || (((ele l.body from_).op == 3) && ((ele l.body to).op == 3))) (
 some ((Edg.mk 0 0 0 0), false)) (
 bd (show Option (Out (Int) (Empty)) from br (decide (from_ ≥ to)) (
 some (.go 1)) (
 some (.go 0))) fun o22 => o22.on (fun least10_1 =>
 bd (show Option (Out (Int) (Empty)) from br ((ele l.body from_).op == 4) (
 some (.go 1)) (
 some (.go 0))) fun o25 => o25.on (fun wait11_2 =>
 ck (IX ((ele l.body from_).ar) (ln l.logs)) <|
 ck (0 ≤ (ele l.logs ((ele l.body from_).ar))) <|
 bd (lp (dep_memory_L0 l from_ to wait11_2) least10_1) fun o34 => o34.on (fun back13_3 =>
 some ((Edg.mk 0 0 0 0), false)) (fun r => some r)) (fun r => r.elim)) (fun r => r.elim))

noncomputable def dep_Edges_L2 (l : Lp) (t : Tgt) (x25_7 : Int) (x25 : List Rf) : ((List Edg) × Int) → Option (Stp ((List Edg) × Int) (Empty)) := fun (v12_8, x33_8) =>
 br (decide (x33_8 < (ln x25))) (
 ck (IX x33_8 (ln x25)) <|
 ck (IX ((ele x25 x33_8).st) (ln l.body)) <|
 bd (target_Wait_m t ((ele l.body ((ele x25 x33_8).st)).op)) fun x45 =>
 ck (AL (v12_8 ++ [(Edg.mk ((ele x25 x33_8).st) x25_7 ((ele x25 x33_8).bk) x45)]).length 32) <|
 ck (IR (x33_8 + 1)) <|
 some (.next ((v12_8 ++ [(Edg.mk ((ele x25 x33_8).st) x25_7 ((ele x25 x33_8).bk) x45)]), (x33_8 + 1)))) (
 some (.brk (v12_8, x33_8)))
noncomputable def dep_Edges_L4 (l : Lp) (x25_7 : Int) : ((List Edg) × Int) → Option (Stp ((List Edg) × Int) (Empty)) := fun (v12_9, x59_9) =>
 br (decide (x59_9 < (ln l.body))) (
 bd (dep_memory_m l x59_9 x25_7) fun x41 =>
 br x41.2 (
 ck (AL (v12_9 ++ [x41.1]).length 32) <|
 ck (IR (x59_9 + 1)) <|
 some (.next ((v12_9 ++ [x41.1]), (x59_9 + 1)))) (
 ck (IR (x59_9 + 1)) <|
 some (.next (v12_9, (x59_9 + 1))))) (
 some (.brk (v12_9, x59_9)))
noncomputable def dep_Edges_L0 (l : Lp) (t : Tgt) : ((List Edg) × Int) → Option (Stp ((List Edg) × Int) (Empty)) := fun (v12_7, x25_7) =>
 br (decide (x25_7 < (ln l.body))) (
 ck (IX x25_7 (ln l.body)) <|
 bd (loop_Uses_m (ele l.body x25_7)) fun x25 =>
 bd (lp (dep_Edges_L2 l t x25_7 x25) (v12_7, 0)) fun o29 => o29.on (fun (v12_8, x33_8) =>
 bd (lp (dep_Edges_L4 l x25_7) (v12_8, 0)) fun o34 => o34.on (fun (v12_9, x59_9) =>
 ck (IR (x25_7 + 1)) <|
 some (.next (v12_9, (x25_7 + 1)))) (fun r => r.elim)) (fun r => r.elim)) (
 some (.brk (v12_7, x25_7)))
noncomputable def dep_Edges_m (l : Lp) (t : Tgt) : Option (List Edg × Int) :=
 bd (loop_May_m l) fun x3 =>
 bdG (!(!x3)) (target_May_m t) fun x6 =>
 br ((!x3) || (!x6)) (
 some ([], 2)) (
 bd (lp (dep_Edges_L0 l t) ([], 0)) fun o13 => o13.on (fun (v12_7, x25_7) =>
 bd (SortFunc_m v12_7) fun x18 =>
 bd (slices_Compact___api_Edge_api_Edge__m x18) fun x22 =>
 some (x22, 0)) (fun r => r.elim))
end Go.Rd
end

section
namespace Go.Rd
set_option linter.unusedVariables false
noncomputable def roundelayref6_Meets_L0 (a : Stm) (b : Stm) (back : Int) (size : Int) : Int → Option (Stp (Int) (Bool)) := fun turn9_1 =>
 br (decide (turn9_1 < size)) (
 ck (IR (a.sp * turn9_1)) <|
 ck (IR ((a.sp * turn9_1) + a.pl)) <|
 bd (roundelayref1_Rest_m ((a.sp * turn9_1) + a.pl) size) fun x14 =>
 ck (IR (turn9_1 + back)) <|
 ck (IR (b.sp * (turn9_1 + back))) <|
 ck (IR ((b.sp * (turn9_1 + back)) + b.pl)) <|
 bd (roundelayref1_Rest_m ((b.sp * (turn9_1 + back)) + b.pl) size) fun x23 =>
 br (x14 == x23) (
 some (.ret true)) (
 ck (IR (turn9_1 + 1)) <|
 some (.next (turn9_1 + 1)))) (
 some (.brk turn9_1))
noncomputable def roundelayref6_Meets_m (a : Stm) (b : Stm) (back : Int) (size : Int) : Option (Bool) :=
 bd (lp (roundelayref6_Meets_L0 a b back size) 0) fun o3 => o3.on (fun turn9_1 =>
 some false) (fun r => some r)

noncomputable def roundelayref6_Memory_m (a : Stm) (b : Stm) : Option (Bool) :=
 some (((((a.op == 3) || (a.op == 4)) && ((b.op == 3) || (b.op == 4))) && (a.ar == b.ar)) && ((a.op == 4) || (b.op == 4)))

noncomputable def roundelayref6_is_L0 (l : Lp) (t : Tgt) (e_ : Edg) (x8 : List Rf) : Int → Option (Stp (Int) (Bool)) := fun i8_1 =>
 br (decide (i8_1 < (ln x8))) (
 ck (IX i8_1 (ln x8)) <|
 ck (((ele x8 i8_1).st == e_.fr) = true → IX i8_1 (ln x8)) <|
 ck ((((ele x8 i8_1).st == e_.fr) && ((ele x8 i8_1).bk == e_.bk)) = true → IX e_.fr (ln l.body)) <|
 bdG (((ele x8 i8_1).st == e_.fr) && ((ele x8 i8_1).bk == e_.bk)) (roundelayref4_Wait_m t ((ele l.body e_.fr).op)) fun x31 =>
 br ((((ele x8 i8_1).st == e_.fr) && ((ele x8 i8_1).bk == e_.bk)) && (e_.wt == x31)) (
 some (.ret true)) (
 ck (IR (i8_1 + 1)) <|
 some (.next (i8_1 + 1)))) (
 some (.brk i8_1))
noncomputable def roundelayref6_is_L2 (l : Lp) (e_ : Edg) (x40 : Int) : Int → Option (Stp (Int) (Bool)) := fun back14_4 =>
 br (decide (back14_4 < e_.bk)) (
 bd (roundelayref6_Meets_m (ele l.body e_.fr) (ele l.body e_.to) back14_4 x40) fun x59 =>
 br x59 (
 some (.ret false)) (
 ck (IR (back14_4 + 1)) <|
 some (.next (back14_4 + 1)))) (
 some (.brk back14_4))
noncomputable def roundelayref6_is_m (l : Lp) (t : Tgt) (e_ : Edg) : Option (Bool) :=
 ck (IX e_.to (ln l.body)) <|
 bd (roundelayref2_Uses_m (ele l.body e_.to)) fun x8 =>
 bd (lp (roundelayref6_is_L0 l t e_ x8) 0) fun o12 => o12.on (fun i8_1 =>
 ck (IX e_.fr (ln l.body)) <|
 ck (IX e_.to (ln l.body)) <|
 bd (show Option (Out (Int) (Empty)) from br ((ele l.body e_.fr).op == 4) (
 some (.go 1)) (
 some (.go 0))) fun o27 => o27.on (fun wait11_2 =>
 bd (roundelayref6_Memory_m (ele l.body e_.fr) (ele l.body e_.to)) fun x30 =>
 br ((!x30) || (e_.wt != wait11_2)) (
 some false) (
 ck (IX ((ele l.body e_.fr).ar) (ln l.logs)) <|
 bd (roundelayref1_Size_m (ele l.logs ((ele l.body e_.fr).ar))) fun x40 =>
 bd (show Option (Out (Int) (Empty)) from br (decide (e_.fr ≥ e_.to)) (
 some (.go 1)) (
 some (.go 0))) fun o43 => o43.on (fun least13_3 =>
 bdG (!((decide (e_.bk < least13_3)) || (decide (e_.bk > x40)))) (roundelayref6_Meets_m (ele l.body e_.fr) (ele l.body e_.to) e_.bk x40) fun x46 =>
 br (((decide (e_.bk < least13_3)) || (decide (e_.bk > x40))) || (!x46)) (
 some false) (
 bd (lp (roundelayref6_is_L2 l e_ x40) least13_3) fun o52 => o52.on (fun back14_4 =>
 some true) (fun r => some r))) (fun r => r.elim))) (fun r => r.elim)) (fun r => some r)

noncomputable def roundelayref6_Edges_L6 (l : Lp) (t : Tgt) (from6_45 : Int) (to7_54 : Int) (back8_57 : Int) : ((List Edg) × Int) → Option (Stp ((List Edg) × Int) (Empty)) := fun (v3_58, wait9_58) =>
 br (decide (wait9_58 ≤ 6)) (
 bd (roundelayref6_is_m l t (Edg.mk from6_45 to7_54 back8_57 wait9_58)) fun x33 =>
 br x33 (
 ck (AL (v3_58 ++ [(Edg.mk from6_45 to7_54 back8_57 wait9_58)]).length 32) <|
 ck (IR (wait9_58 + 1)) <|
 some (.next ((v3_58 ++ [(Edg.mk from6_45 to7_54 back8_57 wait9_58)]), (wait9_58 + 1)))) (
 ck (IR (wait9_58 + 1)) <|
 some (.next (v3_58, (wait9_58 + 1))))) (
 some (.brk (v3_58, wait9_58)))
noncomputable def roundelayref6_Edges_L4 (l : Lp) (t : Tgt) (from6_45 : Int) (to7_54 : Int) : ((List Edg) × Int) → Option (Stp ((List Edg) × Int) (Empty)) := fun (v3_57, back8_57) =>
 br (decide (back8_57 ≤ 32)) (
 bd (lp (roundelayref6_Edges_L6 l t from6_45 to7_54 back8_57) (v3_57, 0)) fun o25 => o25.on (fun (v3_58, wait9_58) =>
 ck (IR (back8_57 + 1)) <|
 some (.next (v3_58, (back8_57 + 1)))) (fun r => r.elim)) (
 some (.brk (v3_57, back8_57)))
noncomputable def roundelayref6_Edges_L2 (l : Lp) (t : Tgt) (from6_45 : Int) : ((List Edg) × Int) → Option (Stp ((List Edg) × Int) (Empty)) := fun (v3_54, to7_54) =>
 br (decide (to7_54 < (ln l.body))) (
 bd (lp (roundelayref6_Edges_L4 l t from6_45 to7_54) (v3_54, 0)) fun o18 => o18.on (fun (v3_57, back8_57) =>
 ck (IR (to7_54 + 1)) <|
 some (.next (v3_57, (to7_54 + 1)))) (fun r => r.elim)) (
 some (.brk (v3_54, to7_54)))
noncomputable def roundelayref6_Edges_L0 (l : Lp) (t : Tgt) : ((List Edg) × Int) → Option (Stp ((List Edg) × Int) (Empty)) := fun (v3_45, from6_45) =>
 br (decide (from6_45 < (ln l.body))) (
 bd (lp (roundelayref6_Edges_L2 l t from6_45) (v3_45, 0)) fun o11 => o11.on (fun (v3_54, to7_54) =>
 ck (IR (from6_45 + 1)) <|
 some (.next (v3_54, (from6_45 + 1)))) (fun r => r.elim)) (
 some (.brk (v3_45, from6_45)))
noncomputable def roundelayref6_Edges_m (l : Lp) (t : Tgt) : Option (List Edg) :=
 bd (lp (roundelayref6_Edges_L0 l t) ([], 0)) fun o4 => o4.on (fun (v3_45, from6_45) =>
 some v3_45) (fun r => r.elim)

noncomputable def roundelayref6_May_m (l : Lp) (t : Tgt) : Option (Bool) :=
 bd (roundelayref2_May_m l) fun x3 =>
 bdG (x3) (roundelayref4_May_m t) fun x6 =>
 some (x3 && x6)
end Go.Rd
end

section
namespace Go.Rd
set_option linter.unusedVariables false
/-! ### words that meet -/
def MeetP (a b : Stm) (back size : Int) : Prop := ∃ i : Nat, (i : Int) < size ∧ (a.sp * i + a.pl) % size = (b.sp * (i + back) + b.pl) % size
def NearS (a : Stm) : Prop := -64 ≤ a.sp ∧ a.sp ≤ 64 ∧ -64 ≤ a.pl ∧ a.pl ≤ 64
theorem pow2 {k : Nat} (h : k ≤ 5) : (1 : Int) ≤ 2 ^ k ∧ (2 : Int) ^ k ≤ 32 ∧ ((2 ^ k : Nat) : Int) = 2 ^ k := ⟨(two_pow_5 k h).1, (two_pow_5 k h).2, by simp⟩
theorem bitAnd_mask {x : Int} {k : Nat} (h : k ≤ 5) : bitAnd x (2 ^ k - 1) = x % 2 ^ k := by
  have hp := pow2 h
  unfold bitAnd
  rw [and_mask _ _ h, wrap_i64]
  · have := Int.emod_nonneg x (show (2 : Int) ^ k ≠ 0 from by omega); omega
  · have := Int.emod_lt_of_pos x (show (0 : Int) < 2 ^ k from by omega); omega
theorem meet_s {a b : Stm} (ha : NearS a) (hb : NearS b) {back : Int} (h0 : 0 ≤ back) (h1 : back ≤ 32) {k : Nat} (hk : k ≤ 5) : dep_meet_m a b back (2 ^ k) = some (tb (MeetP a b back (2 ^ k))) := by
  obtain ⟨p1, p2, p3⟩ := pow2 hk
  unfold dep_meet_m
  have step : ∀ i : Nat, 0 ≤ i → i < 2 ^ k → (¬ ((a.sp * i + a.pl) % 2 ^ k = (b.sp * (i + back) + b.pl) % 2 ^ k) → dep_meet_L0 a b back (2 ^ k) i = some (.next ((i : Int) + 1))) ∧ (¬ ¬ ((a.sp * i + a.pl) % 2 ^ k = (b.sp * (i + back) + b.pl) % 2 ^ k) → dep_meet_L0 a b back (2 ^ k) i = some (.ret true)) := fun i _ hi => by
    have hi' : (i : Int) < 2 ^ k := by omega
    have m1 := mul_le ha.1 ha.2.1 (show (0 : Int) ≤ i from by omega) (show (i : Int) ≤ 64 from by omega)
    have m2 := mul_le hb.1 hb.2.1 (show (0 : Int) ≤ i + back from by omega) (show (i : Int) + back ≤ 64 from by omega)
    obtain ⟨_, _, a3, a4⟩ := ha
    obtain ⟨_, _, b3, b4⟩ := hb
    have hiff : ((a.sp * i + a.pl) % 2 ^ k = (b.sp * (i + back) + b.pl) % 2 ^ k) ↔ (a.sp * i + a.pl - b.sp * (i + back) - b.pl) % 2 ^ k = 0 := by
      rw [Int.emod_eq_emod_iff_emod_sub_eq_zero, Int.sub_sub]
    have e : dep_meet_L0 a b back (2 ^ k) i = br ((a.sp * i + a.pl - b.sp * (i + back) - b.pl) % 2 ^ k == 0) (some (.ret true)) (some (.next ((i : Int) + 1))) := by
      unfold dep_meet_L0
      rw [br_T hi', ck_IR (by omega) (by omega), ck_IR (by omega) (by omega), ck_IR (by omega) (by omega), ck_IR (by omega) (by omega), ck_IR (by omega) (by omega), ck_IR (by omega) (by omega), ck_IR (by omega) (by omega), bitAnd_mask hk, ck_IR (by omega) (by omega)]
    rw [e, hiff]
    exact ⟨fun h => by rw [show ((a.sp * i + a.pl - b.sp * (i + back) - b.pl) % 2 ^ k == 0) = false from by simpa using h]; rfl, fun h => by rw [show ((a.sp * i + a.pl - b.sp * (i + back) - b.pl) % 2 ^ k == 0) = true from by simpa using h]; rfl⟩
  rcases lp_scan (f := dep_meet_L0 a b back (2 ^ k)) (n := 2 ^ k) (fun _ => true) (2 ^ k) 0 (by omega) step (by unfold dep_meet_L0; rw [p3]; exact br_F (by omega)) with ⟨h, e⟩ | ⟨i, _, h2, h3, _, e⟩
  · rw [show (((0 : Nat)) : Int) = 0 from rfl] at e
    rw [e, bd_ret, Out.on_go, tb_f]
    rintro ⟨i, hi, he⟩
    exact h i (by omega) (by omega) he
  · rw [show (((0 : Nat)) : Int) = 0 from rfl] at e
    rw [e, bd_ret, Out.on_ret, tb_t ⟨i, by omega, Classical.not_not.1 h3⟩]
theorem rmeet_s {a b : Stm} (ha : NearS a) (hb : NearS b) {back : Int} (h0 : 0 ≤ back) (h1 : back ≤ 32) {k : Nat} (hk : k ≤ 5) : roundelayref6_Meets_m a b back (2 ^ k) = some (tb (MeetP a b back (2 ^ k))) := by
  obtain ⟨p1, p2, p3⟩ := pow2 hk
  unfold roundelayref6_Meets_m
  have step : ∀ i : Nat, 0 ≤ i → i < 2 ^ k → (¬ ((a.sp * i + a.pl) % 2 ^ k = (b.sp * (i + back) + b.pl) % 2 ^ k) → roundelayref6_Meets_L0 a b back (2 ^ k) i = some (.next ((i : Int) + 1))) ∧ (¬ ¬ ((a.sp * i + a.pl) % 2 ^ k = (b.sp * (i + back) + b.pl) % 2 ^ k) → roundelayref6_Meets_L0 a b back (2 ^ k) i = some (.ret true)) := fun i _ hi => by
    have hi' : (i : Int) < 2 ^ k := by omega
    have m1 := mul_le ha.1 ha.2.1 (show (0 : Int) ≤ i from by omega) (show (i : Int) ≤ 64 from by omega)
    have m2 := mul_le hb.1 hb.2.1 (show (0 : Int) ≤ i + back from by omega) (show (i : Int) + back ≤ 64 from by omega)
    obtain ⟨_, _, a3, a4⟩ := ha
    obtain ⟨_, _, b3, b4⟩ := hb
    have e : roundelayref6_Meets_L0 a b back (2 ^ k) i = br ((a.sp * i + a.pl) % 2 ^ k == (b.sp * (i + back) + b.pl) % 2 ^ k) (some (.ret true)) (some (.next ((i : Int) + 1))) := by
      unfold roundelayref6_Meets_L0
      rw [br_T hi', ck_IR (by omega) (by omega), ck_IR (by omega) (by omega), Rest_s _ _ (by omega) (by omega), bd_ret, ck_IR (by omega) (by omega), ck_IR (by omega) (by omega), ck_IR (by omega) (by omega), Rest_s _ _ (by omega) (by omega), bd_ret, ck_IR (by omega) (by omega)]
    rw [e]
    exact ⟨fun h => by rw [beq_eq_false_iff_ne.2 h]; rfl, fun h => by rw [beq_iff_eq.2 (Classical.not_not.1 h)]; rfl⟩
  rcases lp_scan (f := roundelayref6_Meets_L0 a b back (2 ^ k)) (n := 2 ^ k) (fun _ => true) (2 ^ k) 0 (by omega) step (by unfold roundelayref6_Meets_L0; rw [p3]; exact br_F (by omega)) with ⟨h, e⟩ | ⟨i, _, h2, h3, _, e⟩
  · rw [show (((0 : Nat)) : Int) = 0 from rfl] at e
    rw [e, bd_ret, Out.on_go, tb_f]
    rintro ⟨i, hi, he⟩
    exact h i (by omega) (by omega) he
  · rw [show (((0 : Nat)) : Int) = 0 from rfl] at e
    rw [e, bd_ret, Out.on_ret, tb_t ⟨i, by omega, Classical.not_not.1 h3⟩]
/-! ### edges by words -/
def wordS (s : Stm) : Prop := s.op = 3 ∨ s.op = 4
def leastV (fr to : Int) : Int := if fr ≥ to then 1 else 0
def sizeV (l : Lp) (a : Stm) : Int := 2 ^ (ele l.logs a.ar).toNat
def memC (l : Lp) (fr to : Int) : Prop := wordS (ele l.body fr) ∧ wordS (ele l.body to) ∧ (ele l.body fr).ar = (ele l.body to).ar ∧ ((ele l.body fr).op = 4 ∨ (ele l.body to).op = 4)
structure MemE (l : Lp) (f u : Int) (e : Edg) : Prop where
  c : memC l f u
  fr : e.fr = f
  to : e.to = u
  wt : e.wt = if (ele l.body f).op = 4 then 1 else 0
  lo : leastV f u ≤ e.bk
  hi : e.bk ≤ sizeV l (ele l.body f)
  meet : MeetP (ele l.body f) (ele l.body u) e.bk (sizeV l (ele l.body f))
  first : ∀ k : Int, leastV f u ≤ k → k < e.bk → ¬ MeetP (ele l.body f) (ele l.body u) k (sizeV l (ele l.body f))
theorem MemE.one {l : Lp} {fr to : Int} {e e' : Edg} (h : MemE l fr to e) (h' : MemE l fr to e') : e = e' := by
  have hb : e.bk = e'.bk := by
    rcases Int.lt_trichotomy e.bk e'.bk with hh | hh | hh
    · exact absurd h.meet (h'.first _ h.lo hh)
    · exact hh
    · exact absurd h'.meet (h.first _ h'.lo hh)
  have h1 := h.fr.trans h'.fr.symm
  have h2 := h.to.trans h'.to.symm
  have h3 := h.wt.trans h'.wt.symm
  cases e; cases e'
  simp only [Edg.mk.injEq]
  exact ⟨h1, h2, hb, h3⟩
theorem word_near {l : Lp} (hl : LoopOk l) {i : Nat} (hi : i < l.body.length) (h : wordS (ele l.body (i : Int))) : NearS (ele l.body (i : Int)) ∧ IX (ele l.body (i : Int)).ar (ln l.logs) ∧ 0 ≤ ele l.logs (ele l.body (i : Int)).ar ∧ ele l.logs (ele l.body (i : Int)).ar ≤ 5 := by
  obtain ⟨_, _, q3⟩ := hl.stm i hi
  rw [show l.body.getD i Stm.zero = ele l.body (i : Int) from rfl] at q3
  generalize ele l.body (i : Int) = s at q3 h
  have hw : WordOk l.logs.length s := by
    unfold wordS at h
    rcases q3 with h' | h' | h' | h' | h' <;> first | exact h'.2.2.1 | omega
  obtain ⟨w1, w2, w3⟩ := hw
  have hlg := hl.log s.ar.toNat (by omega)
  exact ⟨w3, ⟨w1, by unfold ln; omega⟩, hlg⟩
theorem leastV_bd (fr to : Int) : 0 ≤ leastV fr to ∧ leastV fr to ≤ 1 := by unfold leastV; split <;> omega
theorem boolC {l : Lp} {fr to : Int} : ((((!((ele l.body fr).op == 3 || (ele l.body fr).op == 4)) || (!(if ((ele l.body fr).op == 3 || (ele l.body fr).op == 4) = true then ((ele l.body to).op == 3 || (ele l.body to).op == 4) else false))) || ((ele l.body fr).ar != (ele l.body to).ar)) || (((ele l.body fr).op == 3) && ((ele l.body to).op == 3))) = !tb (memC l fr to) := by
  unfold memC
  generalize ele l.body fr = a
  generalize ele l.body to = b
  have : (!((((!(a.op == 3 || a.op == 4)) || (!(if (a.op == 3 || a.op == 4) = true then (b.op == 3 || b.op == 4) else false))) || (a.ar != b.ar)) || ((a.op == 3) && (b.op == 3)))) = tb (wordS a ∧ wordS b ∧ a.ar = b.ar ∧ (a.op = 4 ∨ b.op = 4)) := by
    refine tb_eq ?_
    unfold wordS
    by_cases h1 : a.op = 3 <;> by_cases h2 : a.op = 4 <;> by_cases h3 : b.op = 3 <;> by_cases h4 : b.op = 4 <;> by_cases h5 : a.ar = b.ar <;> simp_all
  rw [← this, Bool.not_not]
theorem memory_s {l : Lp} (hl : LoopOk l) {fr to : Nat} (h1 : fr < l.body.length) (h2 : to < l.body.length) : ∃ r, dep_memory_m l fr to = some r ∧ ((r.2 = true ∧ MemE l fr to r.1) ∨ (r.2 = false ∧ ∀ e, ¬ MemE l fr to e)) := by
  unfold dep_memory_m dep_words_m
  rw [ck_IX (by omega) (by unfold ln; omega), ck_IX (by omega) (by unfold ln; omega), bd_ret]
  simp only [bdG_some', Bool.not_not]
  rw [boolC]
  by_cases hc : memC l fr to
  · rw [tb_t hc, Bool.not_true, br_false, br_go, bd_ret, Out.on_go, br_go, bd_ret, Out.on_go]
    obtain ⟨n1, x1, g1, g2⟩ := word_near hl h1 hc.1
    obtain ⟨n2, _, _, _⟩ := word_near hl h2 hc.2.1
    have hk : (ele l.logs (ele l.body (fr : Int)).ar).toNat ≤ 5 := by omega
    obtain ⟨p1, p2, p3⟩ := pow2 hk
    have hsz : shlD 1 (ele l.logs (ele l.body (fr : Int)).ar) = sizeV l (ele l.body (fr : Int)) := shl_one _ g1 g2
    have hS : sizeV l (ele l.body (fr : Int)) = 2 ^ (ele l.logs (ele l.body (fr : Int)).ar).toNat := rfl
    rw [ck_yes x1, ck_yes g1]
    have hle : (if decide ((fr : Int) ≥ to) = true then (1 : Int) else 0) = leastV fr to := by unfold leastV; simp
    have hwt : (if ((ele l.body (fr : Int)).op == 4) = true then (1 : Int) else 0) = if (ele l.body (fr : Int)).op = 4 then 1 else 0 := by simp
    rw [hle, hwt]
    have hlb := leastV_bd fr to
    generalize hW : (if (ele l.body (fr : Int)).op = 4 then (1 : Int) else 0) = W
    have hm : ∀ k : Int, 0 ≤ k → k ≤ 32 → dep_meet_m (ele l.body (fr : Int)) (ele l.body (to : Int)) k (sizeV l (ele l.body (fr : Int))) = some (tb (MeetP (ele l.body (fr : Int)) (ele l.body (to : Int)) k (sizeV l (ele l.body (fr : Int))))) := fun k a b => meet_s n1 n2 a b hk
    generalize hSS : sizeV l (ele l.body (fr : Int)) = Sz at hm hS hsz
    have hn : ((Sz.toNat : Nat) : Int) = Sz := by omega
    have step : ∀ i : Nat, (leastV fr to).toNat ≤ i → i < Sz.toNat + 1 → (¬ MeetP (ele l.body (fr : Int)) (ele l.body (to : Int)) i Sz → dep_memory_L0 l fr to W i = some (.next ((i : Int) + 1))) ∧ (¬ ¬ MeetP (ele l.body (fr : Int)) (ele l.body (to : Int)) i Sz → dep_memory_L0 l fr to W i = some (.ret (Edg.mk fr to i W, true))) := fun i _ hi => by
      have e : dep_memory_L0 l fr to W i = br (tb (MeetP (ele l.body (fr : Int)) (ele l.body (to : Int)) i Sz)) (some (.ret (Edg.mk fr to i W, true))) (some (.next ((i : Int) + 1))) := by
        unfold dep_memory_L0
        rw [hsz, br_T (by omega), hm i (by omega) (by omega), bd_ret, ck_IR (by omega) (by omega)]
      rw [e]
      exact ⟨fun h => by rw [tb_f h]; rfl, fun h => by rw [tb_t (Classical.not_not.1 h)]; rfl⟩
    rcases lp_scan (f := dep_memory_L0 l fr to W) (n := Sz.toNat + 1) (fun i => (Edg.mk fr to i W, true)) (Sz.toNat + 1 - (leastV fr to).toNat) (leastV fr to).toNat (by omega) step (by unfold dep_memory_L0; rw [hsz]; exact br_F (by omega)) with ⟨h, e⟩ | ⟨i, h3, h4, h5, h6, e⟩
    · rw [show (((leastV fr to).toNat : Nat) : Int) = leastV fr to from by omega] at e
      rw [e, bd_ret, Out.on_go]
      refine ⟨_, rfl, .inr ⟨rfl, fun e he => ?_⟩⟩
      have hlo := he.lo; have hhi := he.hi; have hme := he.meet
      rw [hSS] at hhi hme
      have hek : ((e.bk.toNat : Nat) : Int) = e.bk := by omega
      refine h e.bk.toNat (by omega) (by omega) ?_
      rw [hek]; exact hme
    · rw [show (((leastV fr to).toNat : Nat) : Int) = leastV fr to from by omega] at e
      rw [e, bd_ret, Out.on_ret]
      refine ⟨_, rfl, .inl ⟨rfl, ⟨hc, rfl, rfl, hW.symm, by show leastV fr to ≤ (i : Int); omega, by rw [hSS]; show (i : Int) ≤ Sz; omega, by rw [hSS]; exact Classical.not_not.1 h5, fun k hk1 hk2 => ?_⟩⟩⟩
      rw [hSS]
      have hk2' : k < (i : Int) := hk2
      have hkk : ((k.toNat : Nat) : Int) = k := by omega
      have := h6 k.toNat (by omega) (by omega)
      rwa [hkk] at this
  · rw [tb_f hc, Bool.not_false, br_true]
    exact ⟨_, rfl, .inr ⟨rfl, fun e he => hc he.c⟩⟩
/-! ### edges by what is looked at -/
def UseE (l : Lp) (t : Tgt) (to : Int) (e : Edg) : Prop := ∃ r ∈ usesL (ele l.body to), e = ⟨r.st, to, r.bk, waitV t (ele l.body r.st).op⟩
theorem uses_ok {l : Lp} (hl : LoopOk l) {i : Nat} (hi : i < l.body.length) {r : Rf} (hr : r ∈ usesL (ele l.body (i : Int))) : RefOk l.body.length i r := by
  obtain ⟨q1, q2, q3⟩ := hl.stm i hi
  rw [show l.body.getD i Stm.zero = ele l.body (i : Int) from rfl] at q1 q2 q3
  generalize ele l.body (i : Int) = s at q1 q2 q3 hr
  unfold usesL at hr
  split at hr
  · simp only [List.mem_singleton] at hr; subst hr; exact q1 (.inl ‹_›)
  · split at hr
    · simp only [List.mem_cons, List.not_mem_nil, or_false] at hr
      rcases hr with rfl | rfl
      · exact q1 (.inr ‹_›)
      · exact q2 ‹_›
    · cases hr
theorem RefOk.st {n k : Int} {r : Rf} (h : RefOk n k r) (hk : k ≤ n) : 0 ≤ r.st ∧ r.st < n := by
  obtain ⟨a1, a2, a3, a4, a5⟩ := h
  refine ⟨a3, ?_⟩
  by_cases hb : r.bk = 0
  · have := a4 hb; omega
  · exact a5 hb
/-- All edges. -/
def EdgeP (l : Lp) (t : Tgt) (e : Edg) : Prop := ∃ to : Nat, to < l.body.length ∧ (UseE l t to e ∨ ∃ fr : Nat, fr < l.body.length ∧ MemE l fr to e)
structure EdgeIn (n : Int) (e : Edg) : Prop where
  fr : 0 ≤ e.fr ∧ e.fr < n
  to : 0 ≤ e.to ∧ e.to < n
  bk : 0 ≤ e.bk ∧ e.bk ≤ 32
  wt : 0 ≤ e.wt ∧ e.wt ≤ 6
  ahead : e.bk = 0 → e.fr < e.to
theorem MemE.in {l : Lp} (hl : LoopOk l) {fr to : Nat} (h1 : fr < l.body.length) (h2 : to < l.body.length) {e : Edg} (h : MemE l fr to e) : EdgeIn l.body.length e := by
  obtain ⟨n1, x1, g1, g2⟩ := word_near hl h1 h.c.1
  obtain ⟨p1, p2, p3⟩ := pow2 (show (ele l.logs (ele l.body (fr : Int)).ar).toNat ≤ 5 from by omega)
  have hlo := h.lo; have hhi := h.hi
  have hlb := leastV_bd fr to
  have hS : sizeV l (ele l.body (fr : Int)) = 2 ^ (ele l.logs (ele l.body (fr : Int)).ar).toNat := rfl
  have hwt := h.wt
  refine ⟨by rw [h.fr]; omega, by rw [h.to]; omega, by omega, by split at hwt <;> omega, fun h0 => ?_⟩
  rw [h.fr, h.to]
  unfold leastV at hlo
  split at hlo <;> omega
theorem UseE.in {l : Lp} (hl : LoopOk l) {t : Tgt} {to : Nat} (h2 : to < l.body.length) {e : Edg} (h : UseE l t to e) : EdgeIn l.body.length e := by
  obtain ⟨r, hr, rfl⟩ := h
  have hk := uses_ok hl h2 hr
  have hst := hk.st (by omega)
  obtain ⟨a1, a2, a3, a4, a5⟩ := hk
  have hw := waitV_bd t (ele l.body r.st).op
  exact ⟨hst, ⟨by show (0 : Int) ≤ to; omega, by show (to : Int) < _; omega⟩, ⟨a1, by show r.bk ≤ 32; omega⟩, hw, fun h0 => a4 h0⟩
theorem EdgeP.in {l : Lp} (hl : LoopOk l) {t : Tgt} {e : Edg} (h : EdgeP l t e) : EdgeIn l.body.length e := by
  obtain ⟨to, h1, h2 | ⟨fr, h2, h3⟩⟩ := h
  · exact h2.in hl h1
  · exact h3.in hl h2 h1
end Go.Rd
end

section
namespace Go.Rd
set_option linter.unusedVariables false
def cmpV (x y : Int) : Int := if x < y then -1 else if y < x then 1 else 0
theorem cmp_s (x y : Int) : cmp_Compare_int__m x y = some (cmpV x y) := by
  unfold cmp_Compare_int__m cmp_isNaN_int__m cmpV
  simp only [bd_ret, bne_self_eq_false, br_false, br_eq, decide_eq_true_eq]
  by_cases h : x < y
  · simp [h]
  · by_cases h2 : y < x
    · simp [h, h2]
    · simp [h, h2]
theorem or_s (a b c d : Int) : cmp_Or_int__m [a, b, c, d] = some (if a ≠ 0 then a else if b ≠ 0 then b else if c ≠ 0 then c else d) := by
  unfold cmp_Or_int__m
  have st : ∀ (i : Nat) (v : Int), i < 4 → ele [a, b, c, d] (i : Int) = v → cmp_Or_int__L0 [a, b, c, d] i = br (v != 0) (some (.ret v)) (some (.next ((i + 1 : Nat) : Int))) := fun i v hi hv => by
    unfold cmp_Or_int__L0
    rw [br_T (by show (i : Int) < 4; omega), ck_IX (by omega) (by show (i : Int) < 4; omega), hv, ck_IR (by omega) (by omega)]
    rfl
  have s0 := st 0 a (by omega) rfl
  have s1 := st 1 b (by omega) rfl
  have s2 := st 2 c (by omega) rfl
  have s3 := st 3 d (by omega) rfl
  have s4 : cmp_Or_int__L0 [a, b, c, d] 4 = some (.brk 4) := by unfold cmp_Or_int__L0; exact br_F (by show ¬ ((4 : Int) < 4); omega)
  have key : ∀ (i : Nat) (v : Int) (r : Option (Out Int Int)), cmp_Or_int__L0 [a, b, c, d] i = br (v != 0) (some (.ret v)) (some (.next ((i + 1 : Nat) : Int))) → lp (cmp_Or_int__L0 [a, b, c, d]) ((i + 1 : Nat) : Int) = r → lp (cmp_Or_int__L0 [a, b, c, d]) i = if v ≠ 0 then some (.ret v) else r := fun i v r h1 h2 => by
    by_cases hv : v = 0
    · subst hv
      simp only [bne_self_eq_false, br_false] at h1
      rw [lp_next h1, h2]; rfl
    · rw [show (v != 0) = true from by simpa using hv, br_true] at h1
      rw [lp_ret h1, if_pos hv]
  have h4 : lp (cmp_Or_int__L0 [a, b, c, d]) ((3 + 1 : Nat) : Int) = some (.go 4) := lp_brk s4
  have h0 := key 0 a _ s0 (key 1 b _ s1 (key 2 c _ s2 (key 3 d _ s3 h4)))
  rw [show ((0 : Nat) : Int) = 0 from rfl] at h0
  rw [h0]
  by_cases ha : a = 0
  · by_cases hb : b = 0
    · by_cases hc : c = 0
      · by_cases hd : d = 0
        · simp [ha, hb, hc, hd]
        · simp [ha, hb, hc, hd]
      · simp [ha, hb, hc]
    · simp [ha, hb]
  · simp [ha]
theorem order_s (a b : Edg) : dep_order_m a b = some (ordV a b) := by
  unfold dep_order_m
  simp only [cmp_s, bd_ret, or_s]
  congr 1
  unfold cmpV ordV
  by_cases h1 : a.fr < b.fr
  · simp [h1]
  by_cases h2 : b.fr < a.fr
  · simp [h1, h2]
  by_cases h3 : a.to < b.to
  · simp [h1, h2, h3]
  by_cases h4 : b.to < a.to
  · simp [h1, h2, h3, h4]
  by_cases h5 : a.bk < b.bk
  · simp [h1, h2, h3, h4, h5]
  by_cases h6 : b.bk < a.bk
  · simp [h1, h2, h3, h4, h5, h6]
  simp [h1, h2, h3, h4, h5, h6]
theorem ordV_neg {a b : Edg} : ordV a b < 0 ↔ a.fr < b.fr ∨ (a.fr = b.fr ∧ (a.to < b.to ∨ (a.to = b.to ∧ (a.bk < b.bk ∨ (a.bk = b.bk ∧ a.wt < b.wt))))) := by
  unfold ordV
  repeat' split
  all_goals omega
end Go.Rd
end

section
namespace Go.Rd
set_option linter.unusedVariables false
def Lt (a b : Edg) : Prop := ordV a b < 0
theorem Lt.trans {a b c : Edg} (h : Lt a b) (h' : Lt b c) : Lt a c := by unfold Lt at *; rw [ordV_neg] at *; omega
theorem Lt.irrefl {a : Edg} : ¬ Lt a a := by unfold Lt; rw [ordV_neg]; omega
theorem Lt.asymm {a b : Edg} (h : Lt a b) : ¬ Lt b a := fun h' => Lt.irrefl (h.trans h')
theorem Lt.tri {a b : Edg} (h1 : ¬ Lt a b) (h2 : ¬ Lt b a) : a = b := by
  unfold Lt at *; rw [ordV_neg] at *
  cases a; cases b; simp only [Edg.mk.injEq] at *; omega
def Strict (l : List Edg) : Prop := l.Pairwise Lt
theorem strict_ext : ∀ {a b : List Edg}, Strict a → Strict b → (∀ e, e ∈ a ↔ e ∈ b) → a = b
  | [], [], _, _, _ => rfl
  | [], y :: b, _, _, h => by have := (h y).2 (by simp); cases this
  | x :: a, [], _, _, h => by have := (h x).1 (by simp); cases this
  | x :: a, y :: b, ha, hb, h => by
    obtain ⟨a1, a2⟩ := List.pairwise_cons.1 ha
    obtain ⟨b1, b2⟩ := List.pairwise_cons.1 hb
    have hxy : x = y := by
      rcases List.mem_cons.1 ((h x).1 (by simp)) with h1 | h1
      · exact h1
      · rcases List.mem_cons.1 ((h y).2 (by simp)) with h2 | h2
        · exact h2.symm
        · exact absurd (b1 x h1) (a1 y h2).asymm
    subst hxy
    congr 1
    refine strict_ext a2 b2 fun e => ⟨fun he => ?_, fun he => ?_⟩
    · rcases List.mem_cons.1 ((h e).1 (by simp [he])) with h1 | h1
      · subst h1; exact absurd (a1 e he) Lt.irrefl
      · exact h1
    · rcases List.mem_cons.1 ((h e).2 (by simp [he])) with h1 | h1
      · subst h1; exact absurd (b1 e he) Lt.irrefl
      · exact h1
theorem strict_snoc {l : List Edg} {x : Edg} (h : Strict l) (hx : ∀ e ∈ l, Lt e x) : Strict (l ++ [x]) := by
  unfold Strict
  rw [List.pairwise_append]
  exact ⟨h, List.pairwise_singleton _ _, fun a ha b hb => by simp only [List.mem_singleton] at hb; subst hb; exact hx a ha⟩
theorem edg_beq (a b : Edg) : ([a.fr, a.to, a.bk, a.wt] == [b.fr, b.to, b.bk, b.wt]) = tb (a = b) := by
  refine tb_eq ?_
  cases a; cases b
  simp
/-! ### Compact -/
def Srt (l : List Edg) : Prop := l.Pairwise fun a b => ¬ Lt b a
theorem Srt.at {l : List Edg} (h : Srt l) {i j : Nat} (hij : i < j) (hj : j < l.length) : ¬ Lt (ele l (j : Int)) (ele l (i : Int)) := by
  have := List.pairwise_iff_getElem.1 h i j (by omega) hj hij
  simpa [ele_nat, List.getD_eq_getElem?_getD, hj, show i < l.length from by omega] using this
theorem mem_take {l : List Edg} {n : Nat} {e : Edg} : e ∈ l.take n ↔ ∃ i : Nat, i < n ∧ i < l.length ∧ ele l (i : Int) = e := by
  constructor
  · intro h
    obtain ⟨i, hi, rfl⟩ := List.getElem_of_mem h
    rw [List.length_take] at hi
    exact ⟨i, by omega, by omega, by simp [ele_nat, List.getD_eq_getElem?_getD, show i < l.length from by omega]⟩
  · rintro ⟨i, h1, h2, rfl⟩
    rw [ele_nat, List.getD_eq_getElem?_getD, List.getElem?_eq_getElem h2]
    exact List.mem_of_getElem? (by rw [List.getElem?_take, if_pos h1, List.getElem?_eq_getElem h2]; rfl)
theorem upd_take {l : List Edg} {k : Nat} {x : Edg} (h : k < l.length) : (upd l (k : Int) x).take (k + 1) = l.take k ++ [x] := by
  unfold upd
  rw [Int.toNat_natCast, List.take_add_one, List.take_set_of_le (Nat.le_refl _), List.getElem?_set_self h]
  rfl
theorem sub_at {l : List Edg} {k i : Nat} (h : k + i < l.length) : ele (sub l (k : Int) (ln l)) (i : Int) = ele l ((k + i : Nat) : Int) := by
  unfold sub ln
  rw [ele_nat, ele_nat, List.getD_eq_getElem?_getD, List.getElem?_take, if_pos (by omega), List.getElem?_drop, Int.toNat_natCast, List.getD_eq_getElem?_getD]
structure CptI (s : List Edg) (k0 : Nat) (ows : List Edg) (k j : Nat) : Prop where
  len : ows.length = s.length
  kp : 1 ≤ k0
  j1 : 1 ≤ j
  jn : k0 + j ≤ s.length
  kk : k0 ≤ k
  kj : k + 1 ≤ k0 + j
  st : Strict (ows.take k)
  mem : ∀ e, e ∈ ows.take k ↔ e ∈ s.take (k0 + j)
  last : ele ows ((k - 1 : Nat) : Int) = ele s ((k0 + j - 1 : Nat) : Int)
  rest : ∀ p : Nat, k0 + j - 1 ≤ p → p < s.length → ele ows (p : Int) = ele s (p : Int)
theorem last_max {l : List Edg} (h : Strict l) (h0 : 0 < l.length) : ∀ e ∈ l, e = ele l ((l.length - 1 : Nat) : Int) ∨ Lt e (ele l ((l.length - 1 : Nat) : Int)) := fun e he => by
  obtain ⟨i, hi, rfl⟩ := List.getElem_of_mem he
  have hl : ele l ((l.length - 1 : Nat) : Int) = l[l.length - 1] := by simp [ele_nat, List.getD_eq_getElem?_getD, show l.length - 1 < l.length from by omega]
  rw [hl]
  by_cases h1 : i = l.length - 1
  · left; congr 1
  · right; exact List.pairwise_iff_getElem.1 h i (l.length - 1) hi (by omega) (by omega)
theorem ele_take {l : List Edg} {k i : Nat} (h : i < k) : ele (l.take k) (i : Int) = ele l (i : Int) := by
  rw [ele_nat, ele_nat, List.getD_eq_getElem?_getD, List.getElem?_take, if_pos h, List.getD_eq_getElem?_getD]
theorem cpt_step {s : List Edg} (hs : Srt s) (hb : s.length ≤ 4611686018427387904) {k0 : Nat} {ows : List Edg} {k j : Nat} (h : CptI s k0 ows k j) (hj : k0 + j < s.length) :
    (∃ ows' k', slices_Compact___api_Edge_api_Edge__L2 s k0 (ows, (k : Int), (j : Int)) = some (.next (ows', ((k' : Nat) : Int), ((j + 1 : Nat) : Int))) ∧ CptI s k0 ows' k' (j + 1)) := by
  have hl := h.len; have hj1 := h.j1; have hkj := h.kj; have hk0 := h.kp; have hkk := h.kk
  have hln : ln s = ln ows := by unfold ln; rw [hl]
  have hsub : ln (sub ows (k0 : Int) (ln ows)) = ((s.length - k0 : Nat) : Int) := by
    have := sub_len (xs := ows) (i := (k0 : Int)) (j := ln ows) ⟨by omega, by unfold ln; omega, Int.le_refl _⟩
    unfold ln at this ⊢
    rw [this]; omega
  have hx : ele (sub ows (k0 : Int) (ln ows)) (j : Int) = ele s ((k0 + j : Nat) : Int) := by rw [sub_at (by omega), h.rest _ (by omega) hj]
  have hy : ele (sub ows (k0 : Int) (ln ows)) ((j : Int) - 1) = ele s ((k0 + j - 1 : Nat) : Int) := by
    rw [show (j : Int) - 1 = ((j - 1 : Nat) : Int) from by omega, sub_at (by omega), h.rest _ (by omega) (by omega), show k0 + (j - 1) = k0 + j - 1 from by omega]
  have hsc : ((j + 1 : Nat) : Int) = (j : Int) + 1 := rfl
  have hmem : ∀ e, e ∈ s.take (k0 + (j + 1)) ↔ e ∈ s.take (k0 + j) ∨ e = ele s ((k0 + j : Nat) : Int) := fun e => by
    rw [show k0 + (j + 1) = (k0 + j) + 1 from rfl, take_next hj, List.mem_append, List.mem_singleton]
  unfold slices_Compact___api_Edge_api_Edge__L2
  simp only
  rw [hln, ck_SX (by omega) (by unfold ln; omega) (Int.le_refl _), hsub, br_T (by omega), ck_IX (by omega) (by omega), ck_IR (by omega) (by omega), ck_IX (by omega) (by omega), hx, hy, edg_beq]
  by_cases he : ele s ((k0 + j : Nat) : Int) = ele s ((k0 + j - 1 : Nat) : Int)
  · rw [tb_t he, Bool.not_true, br_false, ck_IR (by omega) (by omega), ← hsc]
    refine ⟨ows, k, rfl, ⟨hl, hk0, by omega, by omega, hkk, by omega, h.st, fun e => ?_, ?_, fun p h1 h2 => h.rest p (by omega) h2⟩⟩
    · rw [h.mem, hmem]
      refine ⟨.inl, fun h' => h'.elim id fun h' => ?_⟩
      rw [h', he, mem_take]
      exact ⟨k0 + j - 1, by omega, by omega, rfl⟩
    · rw [h.last, show k0 + (j + 1) - 1 = k0 + j from by omega, he]
  · rw [tb_f he, Bool.not_false, br_true, ck_IX (by omega) (by omega), ck_IX (by omega) (by unfold ln; omega), ck_IR (by omega) (by omega), ck_IR (by omega) (by omega), ← hsc]
    refine ⟨_, k + 1, rfl, ⟨by rw [upd_length]; exact hl, hk0, by omega, by omega, by omega, by omega, ?_, fun e => ?_, ?_, fun p h1 h2 => ?_⟩⟩
    · rw [upd_take (by omega)]
      refine strict_snoc h.st fun e hm => ?_
      have hlt : (ows.take k).length = k := by rw [List.length_take]; omega
      have hmx := last_max h.st (by omega) e hm
      rw [hlt, ele_take (by omega), h.last] at hmx
      have hnot := hs.at (i := k0 + j - 1) (j := k0 + j) (by omega) hj
      have hlt2 : Lt (ele s ((k0 + j - 1 : Nat) : Int)) (ele s ((k0 + j : Nat) : Int)) := by
        by_cases hh : Lt (ele s ((k0 + j - 1 : Nat) : Int)) (ele s ((k0 + j : Nat) : Int))
        · exact hh
        · exact absurd (Lt.tri hnot hh) he
      rcases hmx with h' | h'
      · rw [h']; exact hlt2
      · exact h'.trans hlt2
    · rw [upd_take (by omega), List.mem_append, List.mem_singleton, h.mem, hmem]
    · rw [show k + 1 - 1 = k from rfl, ele_upd ⟨by omega, by unfold ln; omega⟩, show k0 + (j + 1) - 1 = k0 + j from by omega]
    · rw [ele_upd_ne (by omega)]
      exact h.rest p (by omega) h2
theorem cpt_loop {s : List Edg} (hs : Srt s) (hb : s.length ≤ 4611686018427387904) {k0 : Nat} : ∀ (m j k : Nat) (ows : List Edg), k0 + j + m = s.length → CptI s k0 ows k j → ∃ ows' k', lp (slices_Compact___api_Edge_api_Edge__L2 s k0) (ows, (k : Int), (j : Int)) = some (.go (ows', ((k' : Nat) : Int), ((s.length - k0 : Nat) : Int))) ∧ CptI s k0 ows' k' (s.length - k0)
  | 0, j, k, ows, hm, h => by
    have hj : j = s.length - k0 := by have := h.kk; omega
    subst hj
    refine ⟨ows, k, lp_brk ?_, h⟩
    have hl := h.len
    have hln : ln s = ln ows := by unfold ln; rw [hl]
    have hsub : ln (sub ows (k0 : Int) (ln ows)) = ((s.length - k0 : Nat) : Int) := by
      have := sub_len (xs := ows) (i := (k0 : Int)) (j := ln ows) ⟨by omega, by unfold ln; omega, Int.le_refl _⟩
      unfold ln at this ⊢
      rw [this]; omega
    unfold slices_Compact___api_Edge_api_Edge__L2
    simp only
    rw [hln, ck_SX (by omega) (by unfold ln; omega) (Int.le_refl _), hsub, br_F (by omega)]
  | m + 1, j, k, ows, hm, h => by
    obtain ⟨ows', k', h1, h2⟩ := cpt_step hs hb h (by omega)
    obtain ⟨o2, k2, h3, h4⟩ := cpt_loop hs hb m (j + 1) k' ows' (by omega) h2
    exact ⟨o2, k2, lp_step h1 h3, h4⟩
theorem Compact_s {s : List Edg} (hs : Srt s) (hb : s.length ≤ 4611686018427387904) : ∃ ys, slices_Compact___api_Edge_api_Edge__m s = some ys ∧ Strict ys ∧ ∀ e, e ∈ ys ↔ e ∈ s := by
  unfold slices_Compact___api_Edge_api_Edge__m
  by_cases h2 : s.length < 2
  · rw [br_T (by unfold ln; omega)]
    refine ⟨s, rfl, ?_, fun e => Iff.rfl⟩
    match s, h2 with
    | [], _ => exact List.Pairwise.nil
    | [x], _ => exact List.pairwise_singleton _ _
  · rw [br_F (by unfold ln; omega)]
    have key : ∀ m k : Nat, 1 ≤ k → k + m = s.length → Strict (s.take k) → (Strict s ∧ lp slices_Compact___api_Edge_api_Edge__L0 (s, (k : Int)) = some (.go (s, (s.length : Int)))) ∨ (∃ ys, lp slices_Compact___api_Edge_api_Edge__L0 (s, (k : Int)) = some (.ret ys) ∧ Strict ys ∧ ∀ e, e ∈ ys ↔ e ∈ s) := by
      intro m
      induction m with
      | zero =>
        intro k h1 hk hst
        have : k = s.length := by omega
        subst this
        rw [List.take_length] at hst
        refine .inl ⟨hst, lp_brk ?_⟩
        unfold slices_Compact___api_Edge_api_Edge__L0
        exact br_F (by unfold ln; omega)
      | succ m ih =>
        intro k h1 hk hst
        have e : slices_Compact___api_Edge_api_Edge__L0 (s, (k : Int)) = br (tb (ele s (k : Int) = ele s ((k - 1 : Nat) : Int))) (ck (SX (k : Int) (ln s) (ln s)) <| bd (lp (slices_Compact___api_Edge_api_Edge__L2 s k) (s, (k : Int), 1)) fun o26 => o26.on (fun (ows0_4, k3_4, k25_4) =>
            ck (SX k3_4 (ln ows0_4) (ln ows0_4)) <| ck (SX 0 k3_4 (ln (clr ows0_4 k3_4 (Edg.mk 0 0 0 0)))) <| some (.ret (sub (clr ows0_4 k3_4 (Edg.mk 0 0 0 0)) 0 k3_4))) (fun r => r.elim)) (some (.next (s, ((k + 1 : Nat) : Int)))) := by
          unfold slices_Compact___api_Edge_api_Edge__L0
          simp only
          rw [br_T (by unfold ln; omega), ck_IX (by omega) (by unfold ln; omega), ck_IR (by omega) (by omega), show (k : Int) - 1 = ((k - 1 : Nat) : Int) from by omega, ck_IX (by omega) (by unfold ln; omega), edg_beq, ck_IR (by omega) (by omega)]
          rfl
        by_cases he : ele s (k : Int) = ele s ((k - 1 : Nat) : Int)
        · rw [tb_t he, br_true, ck_SX (by omega) (by unfold ln; omega) (Int.le_refl _)] at e
          have hI : CptI s k s k 1 := ⟨rfl, h1, Nat.le_refl _, by omega, Nat.le_refl _, Nat.le_refl _, hst, fun x => by
              rw [take_next (by omega), List.mem_append, List.mem_singleton]
              refine ⟨.inl, fun h' => h'.elim id fun h' => ?_⟩
              rw [h', he, mem_take]
              exact ⟨k - 1, by omega, by omega, rfl⟩, he.symm, fun _ _ _ => rfl⟩
          obtain ⟨o2, k2, h3, h4⟩ := cpt_loop hs hb m 1 k s (by omega) hI
          rw [show ((1 : Nat) : Int) = 1 from rfl] at h3
          rw [h3, bd_ret, Out.on_go] at e
          simp only at e
          have hl := h4.len; have hk1 := h4.kk; have hk2 := h4.kj
          have hcl := clr_len (xs := o2) (i := (k2 : Int)) (z := Edg.mk 0 0 0 0) (by unfold ln; omega)
          rw [ck_SX (by omega) (by unfold ln; omega) (Int.le_refl _), ck_SX (by omega) (by omega) (by unfold ln; rw [hcl]; omega)] at e
          have hsub : sub (clr o2 (k2 : Int) (Edg.mk 0 0 0 0)) 0 (k2 : Int) = o2.take k2 := by
            unfold sub clr
            have h0 : (0 : Int).toNat = 0 := rfl
            rw [h0, List.drop_zero, Int.sub_zero, Int.toNat_natCast, List.take_append_of_le_length (by rw [List.length_take]; omega), List.take_take, Nat.min_self]
          rw [hsub] at e
          refine .inr ⟨_, lp_ret e, h4.st, fun x => ?_⟩
          rw [h4.mem, show k + (s.length - k) = s.length from by omega, List.take_length]
        · rw [tb_f he, br_false] at e
          have hst' : Strict (s.take (k + 1)) := by
            rw [take_next (by omega)]
            refine strict_snoc hst fun x hx => ?_
            have hlen : (s.take k).length = k := by rw [List.length_take]; omega
            have hmx := last_max hst (by omega) x hx
            rw [hlen, ele_take (by omega)] at hmx
            have hnot := hs.at (i := k - 1) (j := k) (by omega) (by omega)
            have hlt : Lt (ele s ((k - 1 : Nat) : Int)) (ele s (k : Int)) := by
              by_cases hh : Lt (ele s ((k - 1 : Nat) : Int)) (ele s (k : Int))
              · exact hh
              · exact absurd (Lt.tri hnot hh) he
            rcases hmx with h' | h'
            · rw [h']; exact hlt
            · exact h'.trans hlt
          rcases ih (k + 1) (by omega) (by omega) hst' with ⟨a, b⟩ | ⟨ys, a, b⟩
          · exact .inl ⟨a, (lp_next e).trans b⟩
          · exact .inr ⟨ys, (lp_next e).trans a, b⟩
    have h1 : Strict (s.take 1) := by
      match s with
      | [] => exact List.Pairwise.nil
      | x :: _ => exact List.pairwise_singleton _ _
    rcases key (s.length - 1) 1 (Nat.le_refl _) (by omega) h1 with ⟨a, b⟩ | ⟨ys, a, b, c⟩
    · rw [show ((1 : Nat) : Int) = 1 from rfl] at b
      rw [b, bd_ret, Out.on_go]
      exact ⟨s, rfl, a, fun e => Iff.rfl⟩
    · rw [show ((1 : Nat) : Int) = 1 from rfl] at a
      rw [a, bd_ret, Out.on_ret]
      exact ⟨ys, rfl, b, c⟩
theorem sort_srt (l : List Edg) : Srt (sortE l) ∧ (∀ e, e ∈ sortE l ↔ e ∈ l) ∧ (sortE l).length = l.length := by
  refine ⟨?_, fun e => List.mem_mergeSort, List.length_mergeSort ..⟩
  have := List.pairwise_mergeSort (le := fun x y => !decide (ordV y x < 0)) (fun a b c h1 h2 => ?_) (fun a b => ?_) l
  · refine this.imp fun {a b} h => ?_
    unfold Lt
    simpa using h
  · simp only [Bool.not_eq_true', decide_eq_false_iff_not] at *
    rw [ordV_neg] at *
    omega
  · simp only [Bool.or_eq_true, Bool.not_eq_true', decide_eq_false_iff_not]
    rw [ordV_neg, ordV_neg]
    omega
end Go.Rd
end

section
namespace Go.Rd
set_option linter.unusedVariables false
theorem EdgeP_iff {l : Lp} {t : Tgt} {e : Edg} {fr to : Nat} (hf : fr < l.body.length) (hn : to < l.body.length) (h1 : e.fr = fr) (h2 : e.to = to) (hl : LoopOk l) : EdgeP l t e ↔ (UseE l t to e ∨ MemE l fr to e) := by
  constructor
  · rintro ⟨u, hu, h | ⟨f, hf', h⟩⟩
    · have : (u : Int) = to := by
        obtain ⟨r, hr, rfl⟩ := h
        exact h2
      rw [this] at h; exact .inl h
    · have e1 : (u : Int) = to := by rw [← h2, h.to]
      have e2 : (f : Int) = fr := by rw [← h1, h.fr]
      rw [e1, e2] at h; exact .inr h
  · rintro (h | h)
    · exact ⟨to, hn, .inl h⟩
    · exact ⟨to, hn, .inr ⟨fr, hf, h⟩⟩
theorem bdG_any {α β : Type} [Inhabited α] {c : Bool} {x : α} {k : α → Option β} : bdG c (some x) k = k (if c = true then x else default) := by cases c <;> rfl
theorem bool_uses {A B : Bool} {x y d : Int} : ((A && B) && (x == if (A && B) = true then y else d)) = ((A && B) && (x == y)) := by cases A <;> cases B <;> rfl
theorem tb_or {p q : Prop} : tb (p ∨ q) = (tb p || tb q) := by
  by_cases h1 : p
  · rw [tb_t (.inl h1), tb_t h1]; rfl
  · by_cases h2 : q
    · rw [tb_t (.inr h2), tb_f h1, tb_t h2]; rfl
    · rw [tb_f (fun h => h.elim h1 h2), tb_f h1, tb_f h2]; rfl
theorem is_edge_s {l : Lp} (hl : LoopOk l) (t : Tgt) {fr to : Nat} (h1 : fr < l.body.length) (h2 : to < l.body.length) {bk wt : Int} (h3 : 0 ≤ bk) (h4 : bk ≤ 32) : roundelayref6_is_m l t ⟨fr, to, bk, wt⟩ = some (tb (UseE l t to ⟨fr, to, bk, wt⟩ ∨ MemE l fr to ⟨fr, to, bk, wt⟩)) := by
  have hul := usesL_len (ele l.body (to : Int))
  unfold roundelayref6_is_m
  simp only
  rw [ck_IX (by omega) (by unfold ln; omega), ref_Uses_s, bd_ret]
  have step : ∀ i : Nat, 0 ≤ i → i < (usesL (ele l.body (to : Int))).length → (¬ ((ele (usesL (ele l.body (to : Int))) (i : Int)).st = fr ∧ (ele (usesL (ele l.body (to : Int))) (i : Int)).bk = bk ∧ wt = waitV t (ele l.body (fr : Int)).op) → roundelayref6_is_L0 l t ⟨fr, to, bk, wt⟩ (usesL (ele l.body (to : Int))) i = some (.next ((i : Int) + 1))) ∧
      (¬ ¬ ((ele (usesL (ele l.body (to : Int))) (i : Int)).st = fr ∧ (ele (usesL (ele l.body (to : Int))) (i : Int)).bk = bk ∧ wt = waitV t (ele l.body (fr : Int)).op) → roundelayref6_is_L0 l t ⟨fr, to, bk, wt⟩ (usesL (ele l.body (to : Int))) i = some (.ret true)) := fun i _ hi => by
    have hix : IX (i : Int) (ln (usesL (ele l.body (to : Int)))) := ⟨by omega, by unfold ln; omega⟩
    have e : roundelayref6_is_L0 l t ⟨fr, to, bk, wt⟩ (usesL (ele l.body (to : Int))) i = br (tb ((ele (usesL (ele l.body (to : Int))) (i : Int)).st = fr ∧ (ele (usesL (ele l.body (to : Int))) (i : Int)).bk = bk ∧ wt = waitV t (ele l.body (fr : Int)).op)) (some (.ret true)) (some (.next ((i : Int) + 1))) := by
      unfold roundelayref6_is_L0
      simp only
      rw [br_T (by unfold ln; omega), ck_yes hix, ck_imp (fun _ => hix), ck_imp (fun _ => ⟨by omega, by unfold ln; omega⟩), ref_Wait_s]
      rw [bdG_any, bool_uses, ck_IR (by omega) (by omega)]
      have hb : ∀ (x y z : Bool) (p q r : Prop), (x = true ↔ p) → (y = true ↔ q) → (z = true ↔ r) → ((x && y) && z) = tb (p ∧ q ∧ r) := fun x y z p q r h1 h2 h3 => tb_eq (by rw [Bool.and_eq_true, Bool.and_eq_true, h1, h2, h3, and_assoc])
      rw [hb _ _ _ _ _ _ beq_iff_eq beq_iff_eq beq_iff_eq]
    rw [e]
    exact ⟨fun h => by rw [tb_f h]; rfl, fun h => by rw [tb_t (Classical.not_not.1 h)]; rfl⟩
  have huse : UseE l t to ⟨fr, to, bk, wt⟩ ↔ ∃ i : Nat, i < (usesL (ele l.body (to : Int))).length ∧ ((ele (usesL (ele l.body (to : Int))) (i : Int)).st = fr ∧ (ele (usesL (ele l.body (to : Int))) (i : Int)).bk = bk ∧ wt = waitV t (ele l.body (fr : Int)).op) := by
    constructor
    · rintro ⟨r, hr, he⟩
      obtain ⟨i, hi, rfl⟩ := mem_ele hr
      simp only [Edg.mk.injEq] at he
      obtain ⟨a1, a2, a3, a4⟩ := he
      exact ⟨i, hi, a1.symm, a3.symm, by rw [a4, ← a1]⟩
    · rintro ⟨i, hi, a1, a2, a3⟩
      exact ⟨_, ele_mem' hi, by rw [a1, a2, a3]⟩
  rcases lp_scan (f := roundelayref6_is_L0 l t ⟨fr, to, bk, wt⟩ (usesL (ele l.body (to : Int)))) (n := (usesL (ele l.body (to : Int))).length) (fun _ => true) (usesL (ele l.body (to : Int))).length 0 (by omega) step (by unfold roundelayref6_is_L0; exact br_F (by unfold ln; omega)) with ⟨h, e⟩ | ⟨i, _, hi, hh, _, e⟩
  · rw [show (((0 : Nat)) : Int) = 0 from rfl] at e
    have hnu : ¬ UseE l t to ⟨fr, to, bk, wt⟩ := fun hu => by
      obtain ⟨i, hi, hc⟩ := huse.1 hu
      exact h i (by omega) hi hc
    rw [e, bd_ret, Out.on_go, tb_or, tb_f hnu, Bool.false_or, ck_IX (by omega) (by unfold ln; omega), ck_IX (by omega) (by unfold ln; omega), br_go, bd_ret, Out.on_go]
    unfold roundelayref6_Memory_m
    rw [bd_ret]
    have hC : (((((ele l.body (fr : Int)).op == 3 || (ele l.body (fr : Int)).op == 4) && ((ele l.body (to : Int)).op == 3 || (ele l.body (to : Int)).op == 4)) && ((ele l.body (fr : Int)).ar == (ele l.body (to : Int)).ar)) && ((ele l.body (fr : Int)).op == 4 || (ele l.body (to : Int)).op == 4)) = tb (memC l fr to) := by
      unfold memC
      refine tb_eq ?_
      unfold wordS
      simp [and_assoc]
    rw [hC]
    have hwt : (if ((ele l.body (fr : Int)).op == 4) = true then (1 : Int) else 0) = if (ele l.body (fr : Int)).op = 4 then 1 else 0 := by simp
    rw [hwt]
    by_cases hc : memC l fr to
    · rw [tb_t hc, Bool.not_true, Bool.false_or]
      by_cases hw : wt = if (ele l.body (fr : Int)).op = 4 then 1 else 0
      · obtain ⟨n1, x1, g1, g2⟩ := word_near hl h1 hc.1
        obtain ⟨n2, _, _, _⟩ := word_near hl h2 hc.2.1
        have hk : (ele l.logs (ele l.body (fr : Int)).ar).toNat ≤ 5 := by omega
        obtain ⟨p1, p2, p3⟩ := pow2 hk
        have hS : sizeV l (ele l.body (fr : Int)) = 2 ^ (ele l.logs (ele l.body (fr : Int)).ar).toNat := rfl
        have hle : (if decide ((fr : Int) ≥ to) = true then (1 : Int) else 0) = leastV fr to := by unfold leastV; simp
        have hlb := leastV_bd fr to
        rw [show (wt != if (ele l.body (fr : Int)).op = 4 then 1 else 0) = false from by rw [← hw]; exact bne_self_eq_false _, br_false, ck_yes x1, Size_s _ g2, bd_ret, br_go, bd_ret, Out.on_go, hle]
        rw [← hS]
        have hm : ∀ k : Int, 0 ≤ k → k ≤ 32 → roundelayref6_Meets_m (ele l.body (fr : Int)) (ele l.body (to : Int)) k (sizeV l (ele l.body (fr : Int))) = some (tb (MeetP (ele l.body (fr : Int)) (ele l.body (to : Int)) k (sizeV l (ele l.body (fr : Int))))) := fun k a b => rmeet_s n1 n2 a b hk
        rw [hm bk h3 h4, bdG_some']
        by_cases hr : leastV fr to ≤ bk ∧ bk ≤ sizeV l (ele l.body (fr : Int))
        · rw [show (decide (bk < leastV fr to) || decide (bk > sizeV l (ele l.body (fr : Int)))) = false from by simp; omega]
          simp only [Bool.not_false, if_true, Bool.false_or]
          by_cases hme : MeetP (ele l.body (fr : Int)) (ele l.body (to : Int)) bk (sizeV l (ele l.body (fr : Int)))
          · rw [tb_t hme, Bool.not_true, br_false]
            have hbk : ((bk.toNat : Nat) : Int) = bk := by omega
            have hlk : (((leastV fr to).toNat : Nat) : Int) = leastV fr to := by omega
            have st2 : ∀ i : Nat, (leastV fr to).toNat ≤ i → i < bk.toNat → (¬ MeetP (ele l.body (fr : Int)) (ele l.body (to : Int)) i (sizeV l (ele l.body (fr : Int))) → roundelayref6_is_L2 l ⟨fr, to, bk, wt⟩ (sizeV l (ele l.body (fr : Int))) i = some (.next ((i : Int) + 1))) ∧ (¬ ¬ MeetP (ele l.body (fr : Int)) (ele l.body (to : Int)) i (sizeV l (ele l.body (fr : Int))) → roundelayref6_is_L2 l ⟨fr, to, bk, wt⟩ (sizeV l (ele l.body (fr : Int))) i = some (.ret false)) := fun i _ hi => by
              have e : roundelayref6_is_L2 l ⟨fr, to, bk, wt⟩ (sizeV l (ele l.body (fr : Int))) i = br (tb (MeetP (ele l.body (fr : Int)) (ele l.body (to : Int)) i (sizeV l (ele l.body (fr : Int))))) (some (.ret false)) (some (.next ((i : Int) + 1))) := by
                unfold roundelayref6_is_L2
                simp only
                rw [br_T (by omega), hm i (by omega) (by omega), bd_ret, ck_IR (by omega) (by omega)]
              rw [e]
              exact ⟨fun h => by rw [tb_f h]; rfl, fun h => by rw [tb_t (Classical.not_not.1 h)]; rfl⟩
            rcases lp_scan (f := roundelayref6_is_L2 l ⟨fr, to, bk, wt⟩ (sizeV l (ele l.body (fr : Int)))) (n := bk.toNat) (fun _ => false) (bk.toNat - (leastV fr to).toNat) (leastV fr to).toNat (by omega) st2 (by unfold roundelayref6_is_L2; exact br_F (by show ¬ ((bk.toNat : Int) < bk); omega)) with ⟨ha, e2⟩ | ⟨i, hi0, hi1, hi2, _, e2⟩
            · rw [hlk] at e2
              rw [e2, bd_ret, Out.on_go, tb_t]
              refine ⟨hc, rfl, rfl, hw, hr.1, hr.2, hme, fun k hk1 hk2 => ?_⟩
              have hk2' : k < bk := hk2
              have hkk : ((k.toNat : Nat) : Int) = k := by omega
              have := ha k.toNat (by omega) (by omega)
              rwa [hkk] at this
            · rw [hlk] at e2
              rw [e2, bd_ret, Out.on_ret, tb_f]
              exact fun h => hi2 (h.first i (by omega) (by show (i : Int) < bk; omega))
          · rw [tb_f hme, Bool.not_false, br_true, tb_f fun h => hme h.meet]
        · rw [show (decide (bk < leastV fr to) || decide (bk > sizeV l (ele l.body (fr : Int)))) = true from by simp; omega]
          simp only [Bool.true_or, br_true]
          rw [tb_f fun h => hr ⟨h.lo, h.hi⟩]
      · rw [show (wt != if (ele l.body (fr : Int)).op = 4 then 1 else 0) = true from by simpa using hw, br_true, tb_f fun h => hw h.wt]
    · rw [tb_f hc, Bool.not_false, Bool.true_or, br_true, tb_f fun h => hc h.c]
  · rw [show (((0 : Nat)) : Int) = 0 from rfl] at e
    rw [e, bd_ret, Out.on_ret, tb_t (.inl (huse.2 ⟨i, hi, Classical.not_not.1 hh⟩))]
/-! ### the document's list -/
structure UpTo (l : Lp) (t : Tgt) (p : Edg) (b : Int) (v : List Edg) : Prop where
  st : Strict v
  mem : ∀ e, e ∈ v ↔ EdgeP l t e ∧ Lt e p
  len : (v.length : Int) ≤ b
theorem AL32 {n : Nat} (h : n ≤ 100000) : AL n 32 := ⟨by rw [maxLen_eq]; omega, by omega⟩
theorem upto_next {l : Lp} {t : Tgt} {p p' : Edg} {b b' : Int} {v : List Edg} (h : UpTo l t p b v) (hb : b ≤ b') (hp : ∀ e, EdgeP l t e → (Lt e p ↔ Lt e p')) : UpTo l t p' b' v :=
  ⟨h.st, fun e => by rw [h.mem]; exact ⟨fun ⟨a, c⟩ => ⟨a, (hp e a).1 c⟩, fun ⟨a, c⟩ => ⟨a, (hp e a).2 c⟩⟩, Int.le_trans h.len hb⟩
theorem rEdges_s {l : Lp} (hl : LoopOk l) (t : Tgt) : ∃ E, roundelayref6_Edges_m l t = some E ∧ Strict E ∧ (∀ e, e ∈ E ↔ EdgeP l t e) ∧ E.length ≤ 60000 := by
  have hn16 := hl.2.2.1
  have hin : ∀ e, EdgeP l t e → EdgeIn l.body.length e := fun e h => h.in hl
  unfold roundelayref6_Edges_m
  have XE := lp_inv (f := roundelayref6_Edges_L0 l t) (n := l.body.length) (fun k v => UpTo l t ⟨k, 0, 0, 0⟩ (k * 3696) v) (fun fr v hfr hv => ?_) (fun g => by unfold roundelayref6_Edges_L0; exact br_F (by unfold ln; omega)) [] ⟨List.Pairwise.nil, fun e => ⟨fun h => (by cases h), fun ⟨h1, h2⟩ => by
    have := hin e h1; have := this.fr; unfold Lt at h2; rw [ordV_neg] at h2; have := (hin e h1).to; have := (hin e h1).bk; have := (hin e h1).wt; simp only at h2; omega⟩, by simp⟩
  · obtain ⟨E, e0, hE⟩ := XE
    rw [e0, bd_ret, Out.on_go]
    refine ⟨E, rfl, hE.st, fun e => ?_, by have := hE.len; omega⟩
    rw [hE.mem]
    refine ⟨fun h => h.1, fun h => ⟨h, ?_⟩⟩
    have := (hin e h).fr
    unfold Lt; rw [ordV_neg]; left; exact this.2
  · have Xv1 := lp_inv (f := roundelayref6_Edges_L2 l t fr) (n := l.body.length) (fun k v => UpTo l t ⟨fr, k, 0, 0⟩ ((fr : Int) * 3696 + k * 231) v) (fun to v hto hv => ?_) (fun g => by unfold roundelayref6_Edges_L2; exact br_F (by unfold ln; omega)) v (upto_next hv (by omega) fun e he => Iff.rfl)
    · obtain ⟨v1, e1, hv1⟩ := Xv1
      refine ⟨v1, ?_, upto_next hv1 (by omega) fun e he => ?_⟩
      · unfold roundelayref6_Edges_L0
        simp only
        rw [br_T (by unfold ln; omega), e1, bd_ret, Out.on_go]
        simp only
        rw [ck_IR (by omega) (by omega)]
      · have h1 := (hin e he).to; have h2 := (hin e he).bk; have h3 := (hin e he).wt
        unfold Lt; rw [ordV_neg, ordV_neg]; simp only; omega
    · have Xv2 := lp_inv (f := roundelayref6_Edges_L4 l t fr to) (n := 33) (fun k v => UpTo l t ⟨fr, to, k, 0⟩ ((fr : Int) * 3696 + to * 231 + k * 7) v) (fun bk v hbk hv => ?_) (fun g => by unfold roundelayref6_Edges_L4; exact br_F (by omega)) v (upto_next hv (by omega) fun e he => Iff.rfl)
      · obtain ⟨v2, e2, hv2⟩ := Xv2
        refine ⟨v2, ?_, upto_next hv2 (by omega) fun e he => ?_⟩
        · unfold roundelayref6_Edges_L2
          simp only
          rw [br_T (by unfold ln; omega), e2, bd_ret, Out.on_go]
          simp only
          rw [ck_IR (by omega) (by omega)]
        · have h2 := (hin e he).bk; have h3 := (hin e he).wt
          unfold Lt; rw [ordV_neg, ordV_neg]; simp only; omega
      · have Xv3 := lp_inv (f := roundelayref6_Edges_L6 l t fr to bk) (n := 7) (fun k v => UpTo l t ⟨fr, to, bk, k⟩ ((fr : Int) * 3696 + to * 231 + bk * 7 + k) v) (fun wt v hwt hv => ?_) (fun g => by unfold roundelayref6_Edges_L6; exact br_F (by omega)) v (upto_next hv (by omega) fun e he => Iff.rfl)
        · obtain ⟨v3, e3, hv3⟩ := Xv3
          refine ⟨v3, ?_, upto_next hv3 (by omega) fun e he => ?_⟩
          · unfold roundelayref6_Edges_L4
            simp only
            rw [br_T (by omega), e3, bd_ret, Out.on_go]
            simp only
            rw [ck_IR (by omega) (by omega)]
          · have h3 := (hin e he).wt
            unfold Lt; rw [ordV_neg, ordV_neg]; simp only; omega
        · have hlen := hv.len
          have hiff := EdgeP_iff (t := t) (e := ⟨fr, to, bk, wt⟩) hfr hto rfl rfl hl
          unfold roundelayref6_Edges_L6
          simp only
          rw [br_T (by omega), is_edge_s hl t hfr hto (by omega) (by omega), bd_ret, ck_IR (by omega) (by omega)]
          by_cases hE : UseE l t to ⟨fr, to, bk, wt⟩ ∨ MemE l fr to ⟨fr, to, bk, wt⟩
          · rw [tb_t hE, br_true, ck_yes (AL32 (by rw [List.length_append, List.length_singleton]; omega))]
            refine ⟨_, rfl, strict_snoc hv.st fun e he => ((hv.mem e).1 he).2, fun e => ?_, by rw [List.length_append, List.length_singleton]; omega⟩
            rw [List.mem_append, List.mem_singleton, hv.mem]
            constructor
            · rintro (⟨a, b⟩ | rfl)
              · refine ⟨a, ?_⟩
                unfold Lt at b ⊢; rw [ordV_neg] at b ⊢; simp only at b ⊢; omega
              · exact ⟨hiff.2 hE, by unfold Lt; rw [ordV_neg]; exact .inr ⟨rfl, .inr ⟨rfl, .inr ⟨rfl, by show (wt : Int) < ((wt + 1 : Nat) : Int); omega⟩⟩⟩⟩
            · rintro ⟨a, b⟩
              unfold Lt at b; rw [ordV_neg] at b; simp only at b
              by_cases hq : e = ⟨fr, to, bk, wt⟩
              · exact .inr hq
              · refine .inl ⟨a, ?_⟩
                unfold Lt; rw [ordV_neg]; simp only
                have : ¬ (e.fr = fr ∧ e.to = to ∧ e.bk = bk ∧ e.wt = wt) := fun ⟨x1, x2, x3, x4⟩ => hq (by cases e; simp only [Edg.mk.injEq] at *; exact ⟨x1, x2, x3, x4⟩)
                omega
          · rw [tb_f hE, br_false, ck_IR (by omega) (by omega)]
            refine ⟨v, rfl, hv.st, fun e => ?_, by omega⟩
            rw [hv.mem]
            constructor
            · rintro ⟨a, b⟩
              refine ⟨a, ?_⟩
              unfold Lt at b ⊢; rw [ordV_neg] at b ⊢; simp only at b ⊢; omega
            · rintro ⟨a, b⟩
              refine ⟨a, ?_⟩
              unfold Lt at b ⊢; rw [ordV_neg] at b ⊢; simp only at b ⊢
              have : ¬ (e.fr = fr ∧ e.to = to ∧ e.bk = bk ∧ e.wt = wt) := fun ⟨x1, x2, x3, x4⟩ => hE (hiff.1 (by
                have : e = ⟨fr, to, bk, wt⟩ := by cases e; simp only [Edg.mk.injEq] at *; exact ⟨x1, x2, x3, x4⟩
                rw [← this]; exact a))
              omega
/-! ### the program's list -/
structure Cnt (P : Edg → Prop) (b : Nat) (v : List Edg) : Prop where
  mem : ∀ e, e ∈ v ↔ P e
  len : v.length ≤ b
theorem Edges_s {l : Lp} (hl : LoopOk l) (hf : l.Fine) {t : Tgt} (ht : tgtOk t = true) : ∃ E, dep_Edges_m l t = some (E, 0) ∧ Strict E ∧ (∀ e, e ∈ E ↔ EdgeP l t e) := by
  have hn16 := hl.2.2.1
  unfold dep_Edges_m
  rw [May_s l hf, bd_ret, target_May_s, tb_t hl, ht]
  simp only [Bool.not_true, Bool.not_false, bdG_t, bd_ret, Bool.or_self, br_false]
  have Xv := lp_inv (f := dep_Edges_L0 l t) (n := l.body.length) (fun k v => Cnt (fun e => ∃ to : Nat, to < k ∧ (UseE l t to e ∨ ∃ fr : Nat, fr < l.body.length ∧ MemE l fr to e)) (k * 18) v) (fun to v hto hv => ?_) (fun g => by unfold dep_Edges_L0; exact br_F (by unfold ln; omega)) [] ⟨fun e => ⟨fun h => (by cases h), fun ⟨_, h, _⟩ => (by omega)⟩, Nat.zero_le _⟩
  · obtain ⟨v, e0, hv⟩ := Xv
    rw [e0, bd_ret, Out.on_go]
    simp only
    obtain ⟨s1, s2, s3⟩ := sort_srt v
    have hlen := hv.len
    unfold SortFunc_m
    rw [ck_yes (by omega), bd_ret]
    obtain ⟨ys, c1, c2, c3⟩ := Compact_s s1 (by omega)
    rw [c1, bd_ret]
    exact ⟨ys, rfl, c2, fun e => by rw [c3, s2, hv.mem]; rfl⟩
  · have hul := usesL_len (ele l.body (to : Int))
    have hlen := hv.len
    have Xv1 := lp_inv (f := dep_Edges_L2 l t to (usesL (ele l.body (to : Int)))) (n := (usesL (ele l.body (to : Int))).length) (fun k w => Cnt (fun e => e ∈ v ∨ ∃ j : Nat, j < k ∧ e = ⟨(ele (usesL (ele l.body (to : Int))) (j : Int)).st, to, (ele (usesL (ele l.body (to : Int))) (j : Int)).bk, waitV t (ele l.body (ele (usesL (ele l.body (to : Int))) (j : Int)).st).op⟩) (to * 18 + k) w) (fun i w hi hw => ?_) (fun g => by unfold dep_Edges_L2; exact br_F (by unfold ln; omega)) v ⟨fun e => ⟨.inl, fun h => h.elim id fun ⟨_, h, _⟩ => (by omega)⟩, by omega⟩
    · obtain ⟨v1, e1, hv1⟩ := Xv1
      have Xv2 := lp_inv (f := dep_Edges_L4 l to) (n := l.body.length) (fun k w => Cnt (fun e => e ∈ v1 ∨ ∃ fr : Nat, fr < k ∧ MemE l fr to e) (to * 18 + 2 + k) w) (fun i w hi hw => ?_) (fun g => by unfold dep_Edges_L4; exact br_F (by unfold ln; omega)) v1 ⟨fun e => ⟨.inl, fun h => h.elim id fun ⟨_, h, _⟩ => (by omega)⟩, by have := hv1.len; omega⟩
      · obtain ⟨v2, e2, hv2⟩ := Xv2
        refine ⟨v2, ?_, fun e => ?_, by have := hv2.len; omega⟩
        · unfold dep_Edges_L0
          simp only
          rw [br_T (by unfold ln; omega), ck_IX (by omega) (by unfold ln; omega), Uses_s, bd_ret, e1, bd_ret, Out.on_go]
          simp only
          rw [e2, bd_ret, Out.on_go]
          simp only
          rw [ck_IR (by omega) (by omega)]
        · rw [hv2.mem, hv1.mem, hv.mem]
          constructor
          · rintro ((⟨u, h1, h2⟩ | ⟨j, h1, rfl⟩) | ⟨fr, h1, h2⟩)
            · exact ⟨u, by omega, h2⟩
            · exact ⟨to, by omega, .inl ⟨_, ele_mem' h1, rfl⟩⟩
            · exact ⟨to, by omega, .inr ⟨fr, h1, h2⟩⟩
          · rintro ⟨u, h1, h2⟩
            by_cases hu : u = to
            · subst hu
              rcases h2 with ⟨r, hr, rfl⟩ | ⟨fr, h3, h4⟩
              · obtain ⟨j, hj, rfl⟩ := mem_ele hr
                exact .inl (.inr ⟨j, hj, rfl⟩)
              · exact .inr ⟨fr, h3, h4⟩
            · exact .inl (.inl ⟨u, by omega, h2⟩)
      · obtain ⟨r, q1, q2⟩ := memory_s hl hi hto
        have hwl := hw.len
        unfold dep_Edges_L4
        simp only
        rw [br_T (by unfold ln; omega), q1, bd_ret, ck_IR (by omega) (by omega)]
        rcases q2 with ⟨q2, q3⟩ | ⟨q2, q3⟩
        · rw [q2, br_true, ck_yes (AL32 (by rw [List.length_append, List.length_singleton]; omega))]
          refine ⟨_, rfl, fun e => ?_, by rw [List.length_append, List.length_singleton]; omega⟩
          rw [List.mem_append, List.mem_singleton, hw.mem]
          constructor
          · rintro ((h | ⟨f, h1, h2⟩) | rfl)
            · exact .inl h
            · exact .inr ⟨f, by omega, h2⟩
            · exact .inr ⟨i, by omega, q3⟩
          · rintro (h | ⟨f, h1, h2⟩)
            · exact .inl (.inl h)
            · by_cases hu : f = i
              · subst hu; exact .inr (h2.one q3)
              · exact .inl (.inr ⟨f, by omega, h2⟩)
        · rw [q2, br_false, ck_IR (by omega) (by omega)]
          refine ⟨w, rfl, fun e => ?_, by omega⟩
          rw [hw.mem]
          constructor
          · rintro (h | ⟨f, h1, h2⟩)
            · exact .inl h
            · exact .inr ⟨f, by omega, h2⟩
          · rintro (h | ⟨f, h1, h2⟩)
            · exact .inl h
            · by_cases hu : f = i
              · subst hu; exact absurd h2 (q3 e)
              · exact .inr ⟨f, by omega, h2⟩
    · have hwl := hw.len
      have hst := (uses_ok hl hto (ele_mem' hi)).st (by omega)
      unfold dep_Edges_L2
      simp only
      rw [br_T (by unfold ln; omega), ck_IX (by omega) (by unfold ln; omega), ck_IX hst.1 (by unfold ln; omega), target_Wait_s, bd_ret, ck_yes (AL32 (by rw [List.length_append, List.length_singleton]; omega)), ck_IR (by omega) (by omega)]
      refine ⟨_, rfl, fun e => ?_, by rw [List.length_append, List.length_singleton]; omega⟩
      rw [List.mem_append, List.mem_singleton, hw.mem]
      constructor
      · rintro ((h | ⟨j, h1, h2⟩) | rfl)
        · exact .inl h
        · exact .inr ⟨j, by omega, h2⟩
        · exact .inr ⟨i, by omega, rfl⟩
      · rintro (h | ⟨j, h1, h2⟩)
        · exact .inl (.inl h)
        · by_cases hu : j = i
          · subst hu; exact .inr h2
          · exact .inl (.inr ⟨j, by omega, h2⟩)
/-- Both sides: one list. -/
theorem edges_both {l : Lp} (hl : LoopOk l) (hf : l.Fine) {t : Tgt} (ht : tgtOk t = true) : ∃ E, dep_Edges_m l t = some (E, 0) ∧ roundelayref6_Edges_m l t = some E ∧ Strict E ∧ (∀ e, e ∈ E ↔ EdgeP l t e) ∧ E.length ≤ 60000 := by
  obtain ⟨E, e1, e2, e3⟩ := Edges_s hl hf ht
  obtain ⟨F, f1, f2, f3, f4⟩ := rEdges_s hl t
  have : E = F := strict_ext e2 f2 fun e => by rw [e3, f3]
  subst this
  exact ⟨E, e1, f1, e2, e3, f4⟩
theorem Edges_bad {l : Lp} (hf : l.Fine) {t : Tgt} (h : ¬ (LoopOk l ∧ tgtOk t = true)) : dep_Edges_m l t = some ([], 2) := by
  unfold dep_Edges_m
  rw [May_s l hf, bd_ret, target_May_s]
  by_cases hl : LoopOk l
  · have : tgtOk t = false := by
      cases hh : tgtOk t with
      | true => exact absurd ⟨hl, hh⟩ h
      | false => rfl
    rw [tb_t hl, this]; rfl
  · rw [tb_f hl]; rfl
theorem rMay_s {l : Lp} (hf : l.Fine) (t : Tgt) : roundelayref6_May_m l t = some (tb (LoopOk l ∧ tgtOk t = true)) := by
  unfold roundelayref6_May_m
  rw [ref_May_s l hf, bd_ret, ref_tMay_s]
  simp only [bdG_some']
  congr 1
  refine tb_eq ?_
  by_cases h : LoopOk l
  · rw [tb_t h]; simp [h]
  · rw [tb_f h]; simp [h]
end Go.Rd
end

section
namespace Go.Rd
set_option linter.unusedVariables false
/-- A loop whose states are known ahead. -/
theorem lp_det {γ ρ : Type} {f : γ → Option (Stp γ ρ)} (st : Nat → γ) (n : Nat) (step : ∀ i, i < n → f (st i) = some (.next (st (i + 1)))) (hend : f (st n) = some (.brk (st n))) : lp f (st 0) = some (.go (st n)) := by
  have key : ∀ m i : Nat, i + m = n → lp f (st i) = some (.go (st n)) := by
    intro m
    induction m with
    | zero =>
      intro i hi
      have : i = n := by omega
      subst this
      exact lp_brk hend
    | succ m ih => exact fun i hi => lp_step (step i (by omega)) (ih (i + 1) (by omega))
  exact key n 0 (by omega)
/-- The same, and it may end early. -/
theorem lp_det2 {γ ρ : Type} {f : γ → Option (Stp γ ρ)} (st : Nat → γ) (n : Nat) (p : Nat → Prop) (q : Nat → ρ) (step : ∀ i, i < n → (∀ j, j < i → p j) → (p i → f (st i) = some (.next (st (i + 1)))) ∧ (¬ p i → f (st i) = some (.ret (q i)))) (hend : f (st n) = some (.brk (st n))) :
    ((∀ i, i < n → p i) ∧ lp f (st 0) = some (.go (st n))) ∨ (∃ i, i < n ∧ ¬ p i ∧ (∀ j, j < i → p j) ∧ lp f (st 0) = some (.ret (q i))) := by
  have key : ∀ m i : Nat, i + m = n → (∀ j, j < i → p j) → ((∀ i, i < n → p i) ∧ lp f (st i) = some (.go (st n))) ∨ (∃ k, k < n ∧ ¬ p k ∧ (∀ j, j < k → p j) ∧ lp f (st i) = some (.ret (q k))) := by
    intro m
    induction m with
    | zero =>
      intro i hi hp
      have : i = n := by omega
      subst this
      exact .inl ⟨hp, lp_brk hend⟩
    | succ m ih =>
      intro i hi hp
      obtain ⟨h1, h2⟩ := step i (by omega) hp
      by_cases hpi : p i
      · have hp' : ∀ j, j < i + 1 → p j := fun j hj => by
          by_cases e : j = i
          · subst e; exact hpi
          · exact hp j (by omega)
        rcases ih (i + 1) (by omega) hp' with ⟨a, b⟩ | ⟨k, a, b, c, d⟩
        · exact .inl ⟨a, lp_step (h1 hpi) b⟩
        · exact .inr ⟨k, a, b, c, lp_step (h1 hpi) d⟩
      · exact .inr ⟨i, by omega, hpi, hp, lp_ret (h2 hpi)⟩
  exact key n 0 (by omega) (fun j hj => absurd hj (Nat.not_lt_zero _))
/-- A loop over places with a state of which something is kept; the state's form is given. -/
theorem lp_invM {α γ ρ : Type} {f : γ → Option (Stp γ ρ)} (mk : α → Int → γ) {n : Nat} (Inv : Nat → α → Prop) (step : ∀ (i : Nat) g, i < n → Inv i g → ∃ g', f (mk g (i : Int)) = some (.next (mk g' ((i : Int) + 1))) ∧ Inv (i + 1) g') (hend : ∀ g, f (mk g (n : Int)) = some (.brk (mk g (n : Int)))) (g0 : α) (h0 : Inv 0 g0) :
    ∃ g, lp f (mk g0 0) = some (.go (mk g (n : Int))) ∧ Inv n g := by
  have key : ∀ m i : Nat, i + m = n → ∀ g, Inv i g → ∃ g', lp f (mk g (i : Int)) = some (.go (mk g' (n : Int))) ∧ Inv n g' := by
    intro m
    induction m with
    | zero =>
      intro i hi g hg
      have : i = n := by omega
      subst this
      exact ⟨g, lp_brk (hend g), hg⟩
    | succ m ih =>
      intro i hi g hg
      obtain ⟨g', h1, h2⟩ := step i g (by omega) hg
      obtain ⟨g2, h3, h4⟩ := ih (i + 1) (by omega) g' h2
      exact ⟨g2, lp_step h1 h3, h4⟩
  exact key n 0 (by omega) g0 h0
theorem ele_rm {α : Type} [Inhabited α] {n : Nat} {g : Nat → α} {i : Nat} (h : i < n) : ele ((List.range n).map g) (i : Int) = g i := by
  rw [ele_nat, List.getD_eq_getElem?_getD, List.getElem?_map, List.getElem?_range h]; rfl
theorem ln_rm {α : Type} {n : Nat} {g : Nat → α} : ln ((List.range n).map g) = n := by unfold ln; simp
theorem rm_succ {α : Type} {n : Nat} {g : Nat → α} : (List.range n).map g ++ [g n] = (List.range (n + 1)).map g := by rw [List.range_succ, List.map_append]; rfl
theorem upd_rm {α : Type} [Inhabited α] {n : Nat} {g : Nat → α} {i : Nat} (h : i < n) {x : α} : upd ((List.range n).map g) (i : Int) x = (List.range n).map (fun j => if j = i then x else g j) := by
  apply List.ext_getElem?
  intro j
  unfold upd
  rw [List.getElem?_set, List.getElem?_map]
  by_cases hj : j < n
  · rw [List.getElem?_map, List.getElem?_range hj]
    by_cases e : j = i
    · subst e; simp [h]
    · simp [show ¬ i = j from fun h => e h.symm, e]
  · rw [List.getElem?_map, List.getElem?_eq_none (by simp; omega)]
    have : ¬ i = j := by omega
    simp [this]
theorem rm_congr {α : Type} {n : Nat} {g h : Nat → α} (e : ∀ i, i < n → g i = h i) : (List.range n).map g = (List.range n).map h := List.map_congr_left fun i hi => e i (List.mem_range.1 hi)
theorem AL80 {n : Nat} (h : n ≤ 100000) : AL n 80 := ⟨by show n ≤ 9223372036854775807; omega, by omega⟩
end Go.Rd
end

section
namespace Go.Rd
set_option linter.unusedVariables false
noncomputable def sched_fits_L0 (l : Lp) (t : Tgt) (p : Pln) : ((List ((Int × Int) × Int)) × Int) → Option (Stp ((List ((Int × Int) × Int)) × Int) (Bool)) := fun (m4n_1, x19_1) =>
 br (decide (x19_1 < (ln p.times))) (
 ck (IX x19_1 (ln p.times)) <|
 br ((decide ((ele p.times x19_1) < 0)) || (decide ((ele p.times x19_1) > 1000))) (
 some (.ret false)) (
 ck (p.pace ≠ 0) <|
 ck (IX x19_1 (ln l.body)) <|
 bd (num_Class_m ((ele l.body x19_1).op)) fun x25 =>
 ck (IR ((mget m4n_1 ((Int.tmod (ele p.times x19_1) p.pace), x25) 0) + 1)) <|
 ck (IX x25 3) <|
 br (decide ((mget (mput m4n_1 ((Int.tmod (ele p.times x19_1) p.pace), x25) ((mget m4n_1 ((Int.tmod (ele p.times x19_1) p.pace), x25) 0) + 1)) ((Int.tmod (ele p.times x19_1) p.pace), x25) 0) > (sel3 t.u0 t.u1 t.u2 x25))) (
 some (.ret false)) (
 ck (IR (x19_1 + 1)) <|
 some (.next ((mput m4n_1 ((Int.tmod (ele p.times x19_1) p.pace), x25) ((mget m4n_1 ((Int.tmod (ele p.times x19_1) p.pace), x25) 0) + 1)), (x19_1 + 1)))))) (
 some (.brk (m4n_1, x19_1)))
noncomputable def sched_fits_L2 (p : Pln) (edges : List Edg) : Int → Option (Stp (Int) (Bool)) := fun x60_2 =>
 br (decide (x60_2 < (ln edges))) (
 ck (IX x60_2 (ln edges)) <|
 ck (IX ((ele edges x60_2).to) (ln p.times)) <|
 ck (IR ((ele edges x60_2).bk * p.pace)) <|
 ck (IR ((ele p.times ((ele edges x60_2).to)) + ((ele edges x60_2).bk * p.pace))) <|
 ck (IX ((ele edges x60_2).fr) (ln p.times)) <|
 ck (IR ((ele p.times ((ele edges x60_2).fr)) + (ele edges x60_2).wt)) <|
 br (decide (((ele p.times ((ele edges x60_2).to)) + ((ele edges x60_2).bk * p.pace)) < ((ele p.times ((ele edges x60_2).fr)) + (ele edges x60_2).wt))) (
 some (.ret false)) (
 ck (IR (x60_2 + 1)) <|
 some (.next (x60_2 + 1)))) (
 some (.brk x60_2))
noncomputable def sched_fits_m (l : Lp) (t : Tgt) (p : Pln) (edges : List Edg) : Option (Bool) :=
 bd (lp (sched_fits_L0 l t p) (([] : List ((Int × Int) × Int)), 0)) fun o5 => o5.on (fun (m4n_1, x19_1) =>
 bd (lp (sched_fits_L2 p edges) 0) fun o10 => o10.on (fun x60_2 =>
 some true) (fun r => some r)) (fun r => some r)

noncomputable def sched_Legal_m (l : Lp) (t : Tgt) (p : Pln) : Option (Bool) :=
 bd (dep_Edges_m l t) fun x4 =>
 bdG ((((x4.2 == 0) && (decide (p.pace ≥ 1))) && (decide (p.pace ≤ 200))) && ((ln p.times) == (ln l.body))) (sched_fits_m l t p x4.1) fun x8 =>
 some (((((x4.2 == 0) && (decide (p.pace ≥ 1))) && (decide (p.pace ≤ 200))) && ((ln p.times) == (ln l.body))) && x8)
end Go.Rd
end

section
namespace Go.Rd
set_option linter.unusedVariables false
noncomputable def bound_rounds_L2 (n_ : Int) (v7_3 : List (List Int)) (x20_3 : Int) : ((List (List Int)) × Int) → Option (Stp ((List (List Int)) × Int) (Empty)) := fun (v7_4, x33_4) =>
 br (decide (x33_4 < (ln (ele (upd v7_3 x20_3 (List.replicate n_.toNat (0 : Int))) x20_3)))) (
 ck (IX x20_3 (ln v7_4)) <|
 ck (IX x33_4 (ln (ele v7_4 x20_3))) <|
 ck (IR (x33_4 + 1)) <|
 some (.next ((updG v7_4 x20_3 x33_4 (-1099511627776)), (x33_4 + 1)))) (
 some (.brk (v7_4, x33_4)))
noncomputable def bound_rounds_L0 (n_ : Int) : ((List (List Int)) × Int) → Option (Stp ((List (List Int)) × Int) (Empty)) := fun (v7_3, x20_3) =>
 br (decide (x20_3 < (ln (List.replicate n_.toNat ([] : List Int))))) (
 ck (0 ≤ n_) <|
 ck (AL n_.toNat 8) <|
 ck (IX x20_3 (ln v7_3)) <|
 ck (IX x20_3 (ln (upd v7_3 x20_3 (List.replicate n_.toNat (0 : Int))))) <|
 bd (lp (bound_rounds_L2 n_ v7_3 x20_3) ((upd v7_3 x20_3 (List.replicate n_.toNat (0 : Int))), 0)) fun o34 => o34.on (fun (v7_4, x33_4) =>
 ck (IR (x20_3 + 1)) <|
 some (.next (v7_4, (x20_3 + 1)))) (fun r => r.elim)) (
 some (.brk (v7_3, x20_3)))
noncomputable def bound_rounds_L4 (edges : List Edg) (pace : Int) : ((List (List Int)) × Int) → Option (Stp ((List (List Int)) × Int) (Empty)) := fun (v7_4, x46_4) =>
 br (decide (x46_4 < (ln edges))) (
 ck (IX x46_4 (ln edges)) <|
 ck (IX ((ele edges x46_4).fr) (ln v7_4)) <|
 ck (IX ((ele edges x46_4).fr) (ln v7_4)) <|
 ck (IX ((ele edges x46_4).to) (ln (ele v7_4 ((ele edges x46_4).fr)))) <|
 ck (IR (pace * (ele edges x46_4).bk)) <|
 ck (IR ((ele edges x46_4).wt - (pace * (ele edges x46_4).bk))) <|
 ck (IX ((ele edges x46_4).to) (ln (ele v7_4 ((ele edges x46_4).fr)))) <|
 ck (IR (x46_4 + 1)) <|
 some (.next ((updG v7_4 ((ele edges x46_4).fr) ((ele edges x46_4).to) (max (ele (ele v7_4 ((ele edges x46_4).fr)) ((ele edges x46_4).to)) ((ele edges x46_4).wt - (pace * (ele edges x46_4).bk)))), (x46_4 + 1)))) (
 some (.brk (v7_4, x46_4)))
noncomputable def bound_rounds_L10 (n_ : Int) (x77_13 : Int) (x81_16 : Int) : ((List (List Int)) × Int) → Option (Stp ((List (List Int)) × Int) (Empty)) := fun (v7_17, x85_17) =>
 br (decide (x85_17 < n_)) (
 ck (IX x81_16 (ln v7_17)) <|
 ck (IX x77_13 (ln (ele v7_17 x81_16))) <|
 ck ((decide ((ele (ele v7_17 x81_16) x77_13) > (-1099511627776))) = true → IX x77_13 (ln v7_17)) <|
 ck ((decide ((ele (ele v7_17 x81_16) x77_13) > (-1099511627776))) = true → IX x85_17 (ln (ele v7_17 x77_13))) <|
 br ((decide ((ele (ele v7_17 x81_16) x77_13) > (-1099511627776))) && (decide ((ele (ele v7_17 x77_13) x85_17) > (-1099511627776)))) (
 ck (IX x81_16 (ln v7_17)) <|
 ck (IX x81_16 (ln v7_17)) <|
 ck (IX x85_17 (ln (ele v7_17 x81_16))) <|
 ck (IX x81_16 (ln v7_17)) <|
 ck (IX x77_13 (ln (ele v7_17 x81_16))) <|
 ck (IX x77_13 (ln v7_17)) <|
 ck (IX x85_17 (ln (ele v7_17 x77_13))) <|
 ck (IR ((ele (ele v7_17 x81_16) x77_13) + (ele (ele v7_17 x77_13) x85_17))) <|
 ck (IX x85_17 (ln (ele v7_17 x81_16))) <|
 ck (IR (x85_17 + 1)) <|
 some (.next ((updG v7_17 x81_16 x85_17 (max (ele (ele v7_17 x81_16) x85_17) (min ((ele (ele v7_17 x81_16) x77_13) + (ele (ele v7_17 x77_13) x85_17)) 1048576))), (x85_17 + 1)))) (
 ck (IR (x85_17 + 1)) <|
 some (.next (v7_17, (x85_17 + 1))))) (
 some (.brk (v7_17, x85_17)))
noncomputable def bound_rounds_L8 (n_ : Int) (x77_13 : Int) : ((List (List Int)) × Int) → Option (Stp ((List (List Int)) × Int) (Empty)) := fun (v7_16, x81_16) =>
 br (decide (x81_16 < n_)) (
 bd (lp (bound_rounds_L10 n_ x77_13 x81_16) (v7_16, 0)) fun o34 => o34.on (fun (v7_17, x85_17) =>
 ck (IR (x81_16 + 1)) <|
 some (.next (v7_17, (x81_16 + 1)))) (fun r => r.elim)) (
 some (.brk (v7_16, x81_16)))
noncomputable def bound_rounds_L6 (n_ : Int) : ((List (List Int)) × Int) → Option (Stp ((List (List Int)) × Int) (Empty)) := fun (v7_13, x77_13) =>
 br (decide (x77_13 < n_)) (
 bd (lp (bound_rounds_L8 n_ x77_13) (v7_13, 0)) fun o27 => o27.on (fun (v7_16, x81_16) =>
 ck (IR (x77_13 + 1)) <|
 some (.next (v7_16, (x77_13 + 1)))) (fun r => r.elim)) (
 some (.brk (v7_13, x77_13)))
noncomputable def bound_rounds_L12 (n_ : Int) (v7_13 : List (List Int)) : Int → Option (Stp (Int) (Bool)) := fun x140_14 =>
 br (decide (x140_14 < n_)) (
 ck (IX x140_14 (ln v7_13)) <|
 ck (IX x140_14 (ln (ele v7_13 x140_14))) <|
 br (decide ((ele (ele v7_13 x140_14) x140_14) > 0)) (
 some (.ret false)) (
 ck (IR (x140_14 + 1)) <|
 some (.next (x140_14 + 1)))) (
 some (.brk x140_14))
noncomputable def bound_rounds_m (n_ : Int) (edges : List Edg) (pace : Int) : Option (Bool) :=
 ck (0 ≤ n_) <|
 ck (AL n_.toNat 24) <|
 bd (lp (bound_rounds_L0 n_) ((List.replicate n_.toNat ([] : List Int)), 0)) fun o10 => o10.on (fun (v7_3, x20_3) =>
 bd (lp (bound_rounds_L4 edges pace) (v7_3, 0)) fun o15 => o15.on (fun (v7_4, x46_4) =>
 bd (lp (bound_rounds_L6 n_) (v7_4, 0)) fun o20 => o20.on (fun (v7_13, x77_13) =>
 bd (lp (bound_rounds_L12 n_ v7_13) 0) fun o25 => o25.on (fun x140_14 =>
 some true) (fun r => some r)) (fun r => r.elim)) (fun r => r.elim)) (fun r => r.elim)

noncomputable def bound_Bound_L0 (l : Lp) : ((List Int) × Int) → Option (Stp ((List Int) × Int) (Empty)) := fun (b10n_1, x25_1) =>
 br (decide (x25_1 < (ln l.body))) (
 ck (IX x25_1 (ln l.body)) <|
 bd (num_Class_m ((ele l.body x25_1).op)) fun x23 =>
 ck (IX x23 3) <|
 ck (IX x23 (ln b10n_1)) <|
 ck (IR ((ele b10n_1 x23) + 1)) <|
 ck (IX x23 3) <|
 ck (IX x23 (ln b10n_1)) <|
 ck (IR (x25_1 + 1)) <|
 some (.next ((upd b10n_1 x23 ((ele b10n_1 x23) + 1)), (x25_1 + 1)))) (
 some (.brk (b10n_1, x25_1)))
noncomputable def bound_Bound_L2 (t : Tgt) (b10n_1 : List Int) : (Int × Int) → Option (Stp (Int × Int) (Empty)) := fun (units4_2, x38_2) =>
 br (decide (x38_2 < 3)) (
 ck (IX x38_2 3) <|
 ck (IX x38_2 3) <|
 ck (IR ((ele b10n_1 x38_2) + (sel3 t.u0 t.u1 t.u2 x38_2))) <|
 ck (IR (((ele b10n_1 x38_2) + (sel3 t.u0 t.u1 t.u2 x38_2)) - 1)) <|
 ck (IX x38_2 3) <|
 ck ((sel3 t.u0 t.u1 t.u2 x38_2) ≠ 0) <|
 ck (IR (Int.tdiv (((ele b10n_1 x38_2) + (sel3 t.u0 t.u1 t.u2 x38_2)) - 1) (sel3 t.u0 t.u1 t.u2 x38_2))) <|
 ck (IR (x38_2 + 1)) <|
 some (.next ((max units4_2 (Int.tdiv (((ele b10n_1 x38_2) + (sel3 t.u0 t.u1 t.u2 x38_2)) - 1) (sel3 t.u0 t.u1 t.u2 x38_2))), (x38_2 + 1)))) (
 some (.brk (units4_2, x38_2)))
noncomputable def bound_Bound_L4 (l : Lp) (x3 : List Edg × Int) : Int → Option (Stp (Int) (Empty)) := fun least5_3 =>
 bd (bound_rounds_m (ln l.body) x3.1 least5_3) fun x28 =>
 br (!x28) (
 ck (IR (least5_3 + 1)) <|
 some (.next (least5_3 + 1))) (
 some (.brk least5_3))
noncomputable def bound_Bound_m (l : Lp) (t : Tgt) : Option (Int × Int × Int) :=
 bd (dep_Edges_m l t) fun x3 =>
 br (x3.2 != 0) (
 some (0, 0, x3.2)) (
 bd (lp (bound_Bound_L0 l) (([0, 0, 0] : List Int), 0)) fun o11 => o11.on (fun (b10n_1, x25_1) =>
 ck (b10n_1.length = 3) <|
 bd (lp (bound_Bound_L2 t b10n_1) (1, 0)) fun o18 => o18.on (fun (units4_2, x38_2) =>
 bd (lp (bound_Bound_L4 l x3) 1) fun o23 => o23.on (fun least5_3 =>
 some (units4_2, least5_3, 0)) (fun r => r.elim)) (fun r => r.elim)) (fun r => r.elim))
end Go.Rd
end

section
namespace Go.Rd
set_option linter.unusedVariables false
def gridF (n : Nat) (f : Nat → Nat → Int) : List (List Int) := (List.range n).map fun i => (List.range n).map (f i)
def setF (f : Nat → Nat → Int) (i j : Nat) (z : Int) : Nat → Nat → Int := fun a b => if a = i ∧ b = j then z else f a b
def nev : Int := -1099511627776
theorem gridF_row {n : Nat} {f : Nat → Nat → Int} {i : Nat} (hi : i < n) : ele (gridF n f) (i : Int) = (List.range n).map (f i) := ele_rm hi
theorem gridF_at {n : Nat} {f : Nat → Nat → Int} {i j : Nat} (hi : i < n) (hj : j < n) : ele (ele (gridF n f) (i : Int)) (j : Int) = f i j := by rw [gridF_row hi, ele_rm hj]
theorem gridF_ln {n : Nat} {f : Nat → Nat → Int} : ln (gridF n f) = n := ln_rm
theorem gridF_rln {n : Nat} {f : Nat → Nat → Int} {i : Nat} (hi : i < n) : ln (ele (gridF n f) (i : Int)) = n := by rw [gridF_row hi, ln_rm]
theorem gridF_set {n : Nat} {f : Nat → Nat → Int} {i j : Nat} {z : Int} (hi : i < n) (hj : j < n) : updG (gridF n f) (i : Int) (j : Int) z = gridF n (setF f i j z) := by
  unfold updG
  rw [gridF_row hi, upd_rm hj]
  unfold gridF
  rw [upd_rm hi]
  refine rm_congr fun a ha => ?_
  by_cases e : a = i
  · subst e
    rw [if_pos rfl]
    refine rm_congr fun b hb => ?_
    unfold setF
    by_cases e2 : b = j
    · subst e2; rw [if_pos rfl, if_pos ⟨rfl, rfl⟩]
    · rw [if_neg e2, if_neg fun h => e2 h.2]
  · rw [if_neg e]
    refine rm_congr fun b hb => ?_
    unfold setF
    rw [if_neg fun h => e h.1]
theorem ix_nat {i n : Nat} (h : i < n) : IX (i : Int) (n : Int) := ⟨by omega, by omega⟩
theorem init_row {n : Nat} (hn : n ≤ 16) {i : Nat} (hi : i < n) : lp (bound_rounds_L2 (n : Int) ((List.range n).map fun a => if a < i then (List.range n).map (fun _ => nev) else []) (i : Int)) ((upd ((List.range n).map fun a => if a < i then (List.range n).map (fun _ => nev) else []) (i : Int) (List.replicate n (0 : Int))), 0) =
    some (.go ((List.range n).map fun a => if a < i + 1 then (List.range n).map (fun _ => nev) else [], (n : Int))) := by
  have e0 : (upd ((List.range n).map fun a => if a < i then (List.range n).map (fun _ => nev) else []) (i : Int) (List.replicate n (0 : Int))) = (List.range n).map fun a => if a = i then (List.range n).map (fun b => if b < 0 then nev else 0) else if a < i then (List.range n).map (fun _ => nev) else [] := by
    rw [upd_rm hi]
    refine rm_congr fun a ha => ?_
    by_cases e : a = i
    · rw [if_pos e, if_pos e]
      apply List.ext_getElem?
      intro k
      by_cases hk : k < n
      · simp [List.getElem?_replicate, hk]
      · simp [List.getElem?_replicate, hk]
    · rw [if_neg e, if_neg e]
  have e1 : ((List.range n).map fun a => if a < i + 1 then (List.range n).map (fun _ => nev) else []) = (List.range n).map fun a => if a = i then (List.range n).map (fun b => if b < n then nev else 0) else if a < i then (List.range n).map (fun _ => nev) else [] := by
    refine rm_congr fun a ha => ?_
    by_cases e : a = i
    · rw [if_pos (by omega), if_pos e]
      exact rm_congr fun b hb => by rw [if_pos hb]
    · rw [if_neg e]
      by_cases e2 : a < i
      · rw [if_pos (by omega), if_pos e2]
      · rw [if_neg (by omega), if_neg e2]
  have hlen : ln (ele (upd ((List.range n).map fun a => if a < i then (List.range n).map (fun _ => nev) else []) (i : Int) (List.replicate n (0 : Int))) (i : Int)) = n := by
    rw [ele_upd ⟨by omega, by rw [ln_rm]; omega⟩]; unfold ln; simp
  rw [e1]
  have key := lp_det (f := bound_rounds_L2 (n : Int) ((List.range n).map fun a => if a < i then (List.range n).map (fun _ => nev) else []) (i : Int)) (fun j => ((List.range n).map fun a => if a = i then (List.range n).map (fun b => if b < j then nev else 0) else if a < i then (List.range n).map (fun _ => nev) else [], (j : Int))) n (fun j hj => by
      unfold bound_rounds_L2
      simp only [Int.toNat_natCast]
      rw [br_T (by rw [hlen]; omega), ck_IX (by omega) (by rw [ln_rm]; omega), ele_rm hi, if_pos rfl, ck_IX (by omega) (by rw [ln_rm]; omega), ck_IR (by omega) (by omega)]
      refine congrArg some (congrArg Stp.next (Prod.ext ?_ rfl))
      show updG _ _ _ _ = _
      unfold updG
      rw [ele_rm hi, if_pos rfl, upd_rm hj, upd_rm hi]
      refine rm_congr fun a ha => ?_
      by_cases e : a = i
      · rw [if_pos e, if_pos e]
        refine rm_congr fun b hb => ?_
        by_cases e2 : b = j
        · rw [if_pos e2, if_pos (by omega)]; rfl
        · rw [if_neg e2]
          by_cases e3 : b < j
          · rw [if_pos e3, if_pos (by omega)]
          · rw [if_neg e3, if_neg (by omega)]
      · rw [if_neg e, if_neg e, if_neg e]) (by
      unfold bound_rounds_L2
      simp only [Int.toNat_natCast]
      exact br_F (by rw [hlen]; omega))
  rw [e0]
  exact key
theorem init_grid {n : Nat} (hn : n ≤ 16) : lp (bound_rounds_L0 (n : Int)) (List.replicate n ([] : List Int), 0) = some (.go (gridF n (fun _ _ => nev), (n : Int))) := by
  have e0 : List.replicate n ([] : List Int) = (List.range n).map fun a => if a < 0 then (List.range n).map (fun _ => nev) else [] := by
    apply List.ext_getElem?
    intro k
    by_cases hk : k < n
    · simp [List.getElem?_replicate, hk]
    · simp [List.getElem?_replicate, hk]
  have e1 : gridF n (fun _ _ => nev) = (List.range n).map fun a => if a < n then (List.range n).map (fun _ => nev) else [] := rm_congr fun a ha => by rw [if_pos ha]
  rw [e0, e1]
  refine lp_det (f := bound_rounds_L0 (n : Int)) (fun i => ((List.range n).map fun a => if a < i then (List.range n).map (fun _ => nev) else [], (i : Int))) n (fun i hi => ?_) (by
    unfold bound_rounds_L0
    simp only [Int.toNat_natCast]
    exact br_F (by unfold ln; simp))
  unfold bound_rounds_L0
  simp only [Int.toNat_natCast]
  rw [br_T (by unfold ln; simp; omega), ck_yes (by omega), ck_yes (AL8 (by omega)), ck_IX (by omega) (by rw [ln_rm]; omega), ck_IX (by omega) (by rw [upd_rm hi, ln_rm]; omega), init_row hn hi, bd_ret, Out.on_go, ck_IR (by omega) (by omega)]
  rfl
structure InitI (E : List Edg) (pace : Int) (k : Nat) (f : Nat → Nat → Int) : Prop where
  src : ∀ a b : Nat, f a b = nev ∨ ∃ e ∈ E, e.fr = a ∧ e.to = b ∧ f a b = e.wt - pace * e.bk
  has : ∀ i : Nat, i < k → (ele E (i : Int)).wt - pace * (ele E (i : Int)).bk ≤ f (ele E (i : Int)).fr.toNat (ele E (i : Int)).to.toNat
theorem wt_bd {n : Nat} {e : Edg} (h : EdgeIn n e) {pace : Int} (hp : 1 ≤ pace ∧ pace ≤ 200) : -6400 ≤ e.wt - pace * e.bk ∧ e.wt - pace * e.bk ≤ 6 ∧ 0 ≤ pace * e.bk ∧ pace * e.bk ≤ 6400 := by
  have h1 := h.bk; have h2 := h.wt
  have m1 := mul_le (a := pace) (A := 200) (b := e.bk) (B := 32) (by omega) (by omega) (by omega) (by omega)
  have m2 := Int.mul_nonneg (show 0 ≤ pace by omega) h1.1
  omega
theorem init_edges {n : Nat} {E : List Edg} (hE : ∀ e ∈ E, EdgeIn n e) (hl : E.length ≤ 60000) {pace : Int} (hp : 1 ≤ pace ∧ pace ≤ 200) : ∃ g, lp (bound_rounds_L4 E pace) (gridF n (fun _ _ => nev), 0) = some (.go (g, (E.length : Int))) ∧ ∃ f, g = gridF n f ∧ InitI E pace E.length f := by
  refine lp_inv (f := bound_rounds_L4 E pace) (fun k g => ∃ f, g = gridF n f ∧ InitI E pace k f) (fun k g hk hg => ?_) (fun g => by unfold bound_rounds_L4; exact br_F (by unfold ln; omega)) _ ⟨_, rfl, fun _ _ => .inl rfl, fun i hi => absurd hi (Nat.not_lt_zero _)⟩
  obtain ⟨f, rfl, hf⟩ := hg
  have hin := hE _ (ele_mem' hk)
  have hw := wt_bd hin hp
  obtain ⟨a, ha⟩ := Int.eq_ofNat_of_zero_le hin.fr.1
  obtain ⟨b, hb⟩ := Int.eq_ofNat_of_zero_le hin.to.1
  have ha' : a < n := by have := hin.fr.2; omega
  have hb' : b < n := by have := hin.to.2; omega
  unfold bound_rounds_L4
  simp only
  rw [ha, hb, br_T (by unfold ln; omega), ck_IX (by omega) (by unfold ln; omega), ck_IX (by omega) (by rw [gridF_ln]; omega), ck_IX (by omega) (by rw [gridF_ln]; omega), ck_IX (by omega) (by rw [gridF_rln ha']; omega), ck_IR (by omega) (by omega), ck_IR (by omega) (by omega), ck_IX (by omega) (by rw [gridF_rln ha']; omega), ck_IR (by omega) (by omega), gridF_at ha' hb', gridF_set ha' hb']
  refine ⟨_, rfl, _, rfl, fun x y => ?_, fun i hi => ?_⟩
  · unfold setF
    by_cases e : x = a ∧ y = b
    · rw [if_pos e]
      obtain ⟨rfl, rfl⟩ := e
      by_cases hc : f x y ≤ (ele E (k : Int)).wt - pace * (ele E (k : Int)).bk
      · exact .inr ⟨_, ele_mem' hk, ha, hb, by omega⟩
      · rw [show max (f x y) ((ele E (k : Int)).wt - pace * (ele E (k : Int)).bk) = f x y from by omega]
        exact hf.src x y
    · rw [if_neg e]; exact hf.src x y
  · unfold setF
    by_cases e : (ele E (i : Int)).fr.toNat = a ∧ (ele E (i : Int)).to.toNat = b
    · rw [if_pos e]
      by_cases e2 : i = k
      · subst e2; omega
      · have := hf.has i (by omega)
        rw [e.1, e.2] at this
        omega
    · rw [if_neg e]
      by_cases e2 : i = k
      · subst e2; exact absurd ⟨by omega, by omega⟩ e
      · exact hf.has i (by omega)
def fwS (k i j : Nat) (f : Nat → Nat → Int) : Nat → Nat → Int := if f i k > nev ∧ f k j > nev then setF f i j (max (f i j) (min (f i k + f k j) 1048576)) else f
/-- All stages, for any property of states. -/
theorem fw_run {n : Nat} (hn : n ≤ 16) (Q : Nat → Nat → Nat → (Nat → Nat → Int) → Prop) (bd : ∀ k i j f, Q k i j f → ∀ a b, nev ≤ f a b ∧ f a b ≤ 1048576) (step : ∀ k i j f, k < n → i < n → j < n → Q k i j f → Q k i (j + 1) (fwS k i j f))
    (ej : ∀ k i f, k < n → i < n → Q k i n f → Q k (i + 1) 0 f) (ei : ∀ k f, k < n → Q k n 0 f → Q (k + 1) 0 0 f) (f0 : Nat → Nat → Int) (h0 : Q 0 0 0 f0) : ∃ f, lp (bound_rounds_L6 (n : Int)) (gridF n f0, 0) = some (.go (gridF n f, (n : Int))) ∧ Q n 0 0 f := by
  have hj : ∀ k i f, k < n → i < n → Q k i 0 f → ∃ f', lp (bound_rounds_L10 (n : Int) (k : Int) (i : Int)) (gridF n f, 0) = some (.go (gridF n f', (n : Int))) ∧ Q k i n f' := by
    intro k i f hk hi hq
    have X := lp_inv (f := bound_rounds_L10 (n : Int) (k : Int) (i : Int)) (n := n) (fun j g => ∃ f, g = gridF n f ∧ Q k i j f) (fun j g hj hg => by
      obtain ⟨f, rfl, hf⟩ := hg
      have b1 := bd _ _ _ _ hf i k
      have b2 := bd _ _ _ _ hf k j
      unfold nev at b1 b2
      unfold bound_rounds_L10
      simp only
      rw [br_T (by omega), ck_IX (by omega) (by rw [gridF_ln]; omega), ck_IX (by omega) (by rw [gridF_rln hi]; omega), ck_imp (fun _ => ⟨by omega, by rw [gridF_ln]; omega⟩), ck_imp (fun _ => ⟨by omega, by rw [gridF_rln hk]; omega⟩), gridF_at hi hk, gridF_at hk hj, gridF_at hi hj]
      by_cases hc : f i k > nev ∧ f k j > nev
      · have hc' : (decide (f i k > -1099511627776) && decide (f k j > -1099511627776)) = true := by
          unfold nev at hc
          simp only [Bool.and_eq_true, decide_eq_true_eq]; exact hc
        rw [hc', br_true, ck_IX (by omega) (by rw [gridF_ln]; omega), ck_IX (by omega) (by rw [gridF_ln]; omega), ck_IX (by omega) (by rw [gridF_rln hi]; omega), ck_IX (by omega) (by rw [gridF_ln]; omega), ck_IX (by omega) (by rw [gridF_rln hi]; omega), ck_IX (by omega) (by rw [gridF_ln]; omega), ck_IX (by omega) (by rw [gridF_rln hk]; omega), ck_IR (by omega) (by omega), ck_IX (by omega) (by rw [gridF_rln hi]; omega), ck_IR (by omega) (by omega), gridF_set hi hj]
        exact ⟨_, rfl, _, rfl, by have := step k i j f hk hi hj hf; unfold fwS at this; rw [if_pos hc] at this; exact this⟩
      · have hc' : (decide (f i k > -1099511627776) && decide (f k j > -1099511627776)) = false := by
          unfold nev at hc
          rw [Bool.and_eq_false_iff, decide_eq_false_iff_not, decide_eq_false_iff_not]; omega
        rw [hc', br_false, ck_IR (by omega) (by omega)]
        exact ⟨_, rfl, _, rfl, by have := step k i j f hk hi hj hf; unfold fwS at this; rw [if_neg hc] at this; exact this⟩) (fun g => by unfold bound_rounds_L10; exact br_F (by omega)) _ ⟨f, rfl, hq⟩
    obtain ⟨g, e1, f', rfl, e2⟩ := X
    exact ⟨f', e1, e2⟩
  have hi : ∀ k f, k < n → Q k 0 0 f → ∃ f', lp (bound_rounds_L8 (n : Int) (k : Int)) (gridF n f, 0) = some (.go (gridF n f', (n : Int))) ∧ Q k n 0 f' := by
    intro k f hk hq
    have X := lp_inv (f := bound_rounds_L8 (n : Int) (k : Int)) (n := n) (fun i g => ∃ f, g = gridF n f ∧ Q k i 0 f) (fun i g hi hg => by
      obtain ⟨f, rfl, hf⟩ := hg
      obtain ⟨f', e1, e2⟩ := hj k i f hk hi hf
      unfold bound_rounds_L8
      simp only
      rw [br_T (by omega), e1, bd_ret, Out.on_go, ck_IR (by omega) (by omega)]
      exact ⟨_, rfl, _, rfl, ej k i f' hk hi e2⟩) (fun g => by unfold bound_rounds_L8; exact br_F (by omega)) _ ⟨f, rfl, hq⟩
    obtain ⟨g, e1, f', rfl, e2⟩ := X
    exact ⟨f', e1, e2⟩
  have X := lp_inv (f := bound_rounds_L6 (n : Int)) (n := n) (fun k g => ∃ f, g = gridF n f ∧ Q k 0 0 f) (fun k g hk hg => by
    obtain ⟨f, rfl, hf⟩ := hg
    obtain ⟨f', e1, e2⟩ := hi k f hk hf
    unfold bound_rounds_L6
    simp only
    rw [br_T (by omega), e1, bd_ret, Out.on_go, ck_IR (by omega) (by omega)]
    exact ⟨_, rfl, _, rfl, ei k f' hk e2⟩) (fun g => by unfold bound_rounds_L6; exact br_F (by omega)) _ ⟨f0, rfl, h0⟩
  obtain ⟨g, e1, f', rfl, e2⟩ := X
  exact ⟨f', e1, e2⟩
end Go.Rd
end

section
namespace Go.Rd
set_option linter.unusedVariables false
def PotE (E : List Edg) (pace : Int) (τ : Nat → Int) : Prop := ∀ e ∈ E, τ e.fr.toNat + (e.wt - pace * e.bk) ≤ τ e.to.toNat
def nwF (k : Nat) (f : Nat → Nat → Int) (a b : Nat) : Int := if f a k > nev ∧ f k b > nev then max (f a b) (f a k + f k b) else f a b
structure Cl (n : Nat) (k : Nat) (f : Nat → Nat → Int) : Prop where
  dg : ∀ a, a < n → f a a ≤ 0
  up : ∀ a b, a < n → b < n → f a b ≤ 6 * 2 ^ k
  lo : ∀ a b, a < n → b < n → f a b > nev → -(6400 * 2 ^ k) ≤ f a b
  tri : ∀ m, m < k → ∀ a b, a < n → b < n → f a m > nev → f m b > nev → f a m + f m b ≤ f a b
def StF (n k i j : Nat) (f : Nat → Nat → Int) : Prop := ∃ f0, Cl n k f0 ∧ ∀ a b, a < n → b < n → f a b = if a < i ∨ (a = i ∧ b < j) then nwF k f0 a b else f0 a b
structure FwQ (n : Nat) (E : List Edg) (pace : Int) (k i j : Nat) (f : Nat → Nat → Int) : Prop where
  bd : ∀ a b, nev ≤ f a b ∧ f a b ≤ 1048576
  pot : ∀ τ, PotE E pace τ → ∀ a b, f a b > nev → f a b ≤ τ b - τ a
  has : ∀ e ∈ E, e.wt - pace * e.bk ≤ f e.fr.toNat e.to.toNat
  cl : (∃ a, a < n ∧ f a a > 0) ∨ StF n k i j f
theorem pow16 {k : Nat} (h : k ≤ 15) : (1 : Int) ≤ 2 ^ k ∧ (2 : Int) ^ k ≤ 32768 ∧ (2 : Int) ^ (k + 1) = 2 * 2 ^ k := by
  have key : ∀ k : Fin 16, (1 : Int) ≤ 2 ^ (k : Nat) ∧ (2 : Int) ^ (k : Nat) ≤ 32768 := by decide
  have := key ⟨k, by omega⟩
  exact ⟨this.1, this.2, by rw [Int.pow_succ]; omega⟩
theorem nw_ge {k : Nat} {f : Nat → Nat → Int} (a b : Nat) : f a b ≤ nwF k f a b := by unfold nwF; split <;> omega
theorem nw_col {n k : Nat} {f : Nat → Nat → Int} (h : Cl n k f) (hk : k < n) (a : Nat) : nwF k f a k = f a k := by
  unfold nwF; have := h.dg k hk; split <;> omega
theorem nw_row {n k : Nat} {f : Nat → Nat → Int} (h : Cl n k f) (hk : k < n) (b : Nat) : nwF k f k b = f k b := by
  unfold nwF; have := h.dg k hk; split <;> omega
theorem nw_or {k : Nat} {f : Nat → Nat → Int} (a b : Nat) : nwF k f a b = f a b ∨ (nwF k f a b = f a k + f k b ∧ f a k > nev ∧ f k b > nev) := by
  unfold nwF
  split
  · rename_i h
    by_cases e : f a k + f k b ≤ f a b
    · left; omega
    · right; exact ⟨by omega, h⟩
  · exact .inl rfl
theorem nw_via {k : Nat} {f : Nat → Nat → Int} {a b : Nat} (h1 : f a k > nev) (h2 : f k b > nev) : f a k + f k b ≤ nwF k f a b := by
  unfold nwF; rw [if_pos ⟨h1, h2⟩]; omega
theorem Cl.next {n k : Nat} {f : Nat → Nat → Int} (h : Cl n k f) (hk : k < n) (hn : n ≤ 16) (hd : ∀ a, a < n → nwF k f a a ≤ 0) : Cl n (k + 1) (nwF k f) := by
  have hp := pow16 (show k ≤ 15 by omega)
  have hfin : ∀ a b c, a < n → b < n → c < n → f a b > nev → f b c > nev → f a b + f b c > nev ∧ -(6400 * 2 ^ (k + 1)) ≤ f a b + f b c := fun a b c ha hb hc h1 h2 => by
    have l1 := h.lo a b ha hb h1; have l2 := h.lo b c hb hc h2
    unfold nev
    omega
  refine ⟨hd, fun a b ha hb => ?_, fun a b ha hb h1 => ?_, fun m hm a b ha hb h1 h2 => ?_⟩
  · have u1 := h.up a b ha hb; have u2 := h.up a k ha hk; have u3 := h.up k b hk hb
    unfold nwF
    split <;> omega
  · rcases nw_or (k := k) (f := f) a b with e | ⟨e, p1, p2⟩
    · rw [e] at h1 ⊢
      have := h.lo a b ha hb h1
      omega
    · rw [e]; exact (hfin a k b ha hk hb p1 p2).2
  · by_cases e : m = k
    · subst e
      rw [nw_col h hk] at h1 ⊢
      rw [nw_row h hk] at h2 ⊢
      exact nw_via h1 h2
    · have hmk : m < k := by omega
      have hmn : m < n := by omega
      rcases nw_or (k := k) (f := f) a m with e1 | ⟨e1, p1, p2⟩ <;> rcases nw_or (k := k) (f := f) m b with e2 | ⟨e2, q1, q2⟩
      · rw [e1] at h1 ⊢; rw [e2] at h2 ⊢
        exact Int.le_trans (h.tri m hmk a b ha hb h1 h2) (nw_ge a b)
      · rw [e1] at h1 ⊢; rw [e2]
        have t1 := h.tri m hmk a k ha hk h1 q1
        have hf := (hfin a m k ha hmn hk h1 q1).1
        have := nw_via (a := a) (b := b) (show f a k > nev by omega) q2
        omega
      · rw [e1]; rw [e2] at h2 ⊢
        have t1 := h.tri m hmk k b hk hb p2 h2
        have hf := (hfin k m b hk hmn hb p2 h2).1
        have := nw_via (a := a) (b := b) p1 (show f k b > nev by omega)
        omega
      · rw [e1, e2]
        have t1 := h.tri m hmk k k hk hk p2 q1
        have := nw_via (a := a) (b := b) p1 q2
        have := h.dg k hk
        omega
theorem StF.step {n k i j : Nat} {f : Nat → Nat → Int} (hn : n ≤ 16) (hk : k < n) (hi : i < n) (hj : j < n) (h : StF n k i j f) : StF n k i (j + 1) (fwS k i j f) := by
  obtain ⟨f0, hc, hf⟩ := h
  have hp := pow16 (show k ≤ 15 by omega)
  have e1 : f i k = f0 i k := by rw [hf i k hi hk]; split; exact nw_col hc hk i; rfl
  have e2 : f k j = f0 k j := by rw [hf k j hk hj]; split; exact nw_row hc hk j; rfl
  have e3 : f i j = f0 i j := by rw [hf i j hi hj, if_neg (by omega)]
  have u2 := hc.up i k hi hk; have u3 := hc.up k j hk hj
  refine ⟨f0, hc, fun a b ha hb => ?_⟩
  have hv : fwS k i j f i j = nwF k f0 i j := by
    unfold fwS nwF
    rw [e1, e2, e3]
    by_cases c : f0 i k > nev ∧ f0 k j > nev
    · rw [if_pos c, if_pos c]
      unfold setF
      rw [if_pos ⟨rfl, rfl⟩]
      omega
    · rw [if_neg c, if_neg c, e3]
  by_cases e : a = i ∧ b = j
  · obtain ⟨rfl, rfl⟩ := e
    rw [hv, if_pos (by omega)]
  · have : fwS k i j f a b = f a b := by
      unfold fwS
      split
      · unfold setF; rw [if_neg e]
      · rfl
    rw [this, hf a b ha hb]
    by_cases c : a < i ∨ (a = i ∧ b < j)
    · rw [if_pos c, if_pos (by omega)]
    · rw [if_neg c, if_neg (by omega)]
theorem fwS_ge {k i j : Nat} {f : Nat → Nat → Int} (a b : Nat) : f a b ≤ fwS k i j f a b := by
  unfold fwS
  split
  · unfold setF
    split
    · rename_i h; obtain ⟨rfl, rfl⟩ := h; omega
    · exact Int.le_refl _
  · exact Int.le_refl _
theorem FwQ.step {n : Nat} {E : List Edg} {pace : Int} (hn : n ≤ 16) {k i j : Nat} {f : Nat → Nat → Int} (hk : k < n) (hi : i < n) (hj : j < n) (h : FwQ n E pace k i j f) : FwQ n E pace k i (j + 1) (fwS k i j f) := by
  refine ⟨fun a b => ?_, fun τ hτ a b => ?_, fun e he => Int.le_trans (h.has e he) (fwS_ge _ _), ?_⟩
  · have b1 := h.bd a b; have b2 := h.bd i j
    unfold fwS
    split
    · unfold setF
      split
      · unfold nev at *; omega
      · exact b1
    · exact b1
  · have p1 := h.pot τ hτ a b
    unfold fwS
    split
    · rename_i hc
      have q1 := h.pot τ hτ i k hc.1; have q2 := h.pot τ hτ k j hc.2
      unfold setF
      split
      · rename_i e
        obtain ⟨rfl, rfl⟩ := e
        intro hh
        by_cases g : f a b > nev
        · have := p1 g; omega
        · have := h.bd a b
          omega
      · exact p1
    · exact p1
  · rcases h.cl with ⟨a, ha, h1⟩ | h1
    · exact .inl ⟨a, ha, Int.lt_of_lt_of_le h1 (fwS_ge a a)⟩
    · exact .inr (h1.step hn hk hi hj)
theorem FwQ.ej {n : Nat} {E : List Edg} {pace : Int} {k i : Nat} {f : Nat → Nat → Int} (h : FwQ n E pace k i n f) : FwQ n E pace k (i + 1) 0 f :=
  { h with cl := h.cl.imp id fun ⟨f0, hc, hf⟩ => ⟨f0, hc, fun a b ha hb => by
      rw [hf a b ha hb]
      by_cases c : a < i ∨ (a = i ∧ b < n)
      · rw [if_pos c, if_pos (by omega)]
      · rw [if_neg c, if_neg (by omega)]⟩ }
theorem FwQ.ei {n : Nat} {E : List Edg} {pace : Int} (hn : n ≤ 16) {k : Nat} {f : Nat → Nat → Int} (hk : k < n) (h : FwQ n E pace k n 0 f) : FwQ n E pace (k + 1) 0 0 f := by
  refine { h with cl := ?_ }
  rcases h.cl with h1 | ⟨f0, hc, hf⟩
  · exact .inl h1
  · by_cases hd : ∃ a, a < n ∧ f a a > 0
    · exact .inl hd
    · have he : ∀ a b, a < n → b < n → f a b = nwF k f0 a b := fun a b ha hb => by rw [hf a b ha hb, if_pos (.inl ha)]
      exact .inr ⟨nwF k f0, hc.next hk hn fun a ha => by rw [← he a a ha ha]; exact Int.not_lt.1 fun h => hd ⟨a, ha, h⟩, fun a b ha hb => by rw [he a b ha hb, if_neg (by omega)]⟩
def mxN (g : Nat → Int) : Nat → Int
  | 0 => 0
  | n + 1 => max (mxN g n) (g n)
theorem mxN_ge (g : Nat → Int) : ∀ n a, a < n → g a ≤ mxN g n
  | n + 1, a, h => by
    show g a ≤ max (mxN g n) (g n)
    by_cases e : a = n
    · subst e; omega
    · have := mxN_ge g n a (by omega); omega
theorem mxN_nn (g : Nat → Int) : ∀ n, 0 ≤ mxN g n
  | 0 => Int.le_refl _
  | n + 1 => by have := mxN_nn g n; show 0 ≤ max (mxN g n) (g n); omega
theorem mxN_or (g : Nat → Int) : ∀ n, mxN g n = 0 ∨ ∃ a, a < n ∧ mxN g n = g a ∧ 0 < g a
  | 0 => .inl rfl
  | n + 1 => by
    show max (mxN g n) (g n) = 0 ∨ ∃ a, a < n + 1 ∧ max (mxN g n) (g n) = g a ∧ 0 < g a
    have h0 := mxN_nn g n
    by_cases e : g n ≤ mxN g n
    · rw [show max (mxN g n) (g n) = mxN g n from by omega]
      rcases mxN_or g n with h | ⟨a, ha, h⟩
      · exact .inl h
      · exact .inr ⟨a, by omega, h⟩
    · exact .inr ⟨n, by omega, by omega, by omega⟩
def HasPot (E : List Edg) (pace : Int) : Prop := ∃ τ, PotE E pace τ
theorem fw_pot {n : Nat} {E : List Edg} {pace : Int} (hE : ∀ e ∈ E, EdgeIn n e) (hp : 1 ≤ pace ∧ pace ≤ 200) {f : Nat → Nat → Int} (h : FwQ n E pace n 0 0 f) (hd : ∀ a, a < n → f a a ≤ 0) : PotE E pace fun b => mxN (fun a => f a b) n := by
  intro e he
  have hin := hE e he
  have hw := wt_bd hin hp
  have h1 := h.has e he
  have hf : e.fr.toNat < n := by have := hin.fr; omega
  have ht : e.to.toNat < n := by have := hin.to; omega
  generalize e.fr.toNat = a at *
  generalize e.to.toNat = b at *
  rcases h.cl with ⟨x, hx, h2⟩ | ⟨f0, hc, hf0⟩
  · have := hd x hx; omega
  · have ef : ∀ x y, x < n → y < n → f x y = f0 x y := fun x y hx hy => by rw [hf0 x y hx hy, if_neg (by omega)]
    show mxN (fun x => f x a) n + (e.wt - pace * e.bk) ≤ mxN (fun x => f x b) n
    have g1 := mxN_ge (fun x => f x b) n
    rcases mxN_or (fun x => f x a) n with h2 | ⟨x, hx, h2, h3⟩
    · have := g1 a hf
      omega
    · have := g1 x hx
      have t := hc.tri a hf x b hx ht (by rw [← ef x a hx hf]; unfold nev; omega) (by rw [← ef a b hf ht]; unfold nev; omega)
      rw [← ef x a hx hf, ← ef a b hf ht, ← ef x b hx ht] at t
      omega
theorem pot_diag {n : Nat} {E : List Edg} {pace : Int} {f : Nat → Nat → Int} (h : FwQ n E pace n 0 0 f) (hp : HasPot E pace) (a : Nat) : f a a ≤ 0 := by
  obtain ⟨τ, hτ⟩ := hp
  by_cases c : f a a > nev
  · have := h.pot τ hτ a a c; omega
  · unfold nev at c; omega
theorem rounds_s {n : Nat} (hn : n ≤ 16) {E : List Edg} (hE : ∀ e ∈ E, EdgeIn n e) (hl : E.length ≤ 60000) {pace : Int} (hp : 1 ≤ pace ∧ pace ≤ 200) : bound_rounds_m (n : Int) E pace = some (tb (HasPot E pace)) := by
  obtain ⟨g, e1, f0, rfl, e2⟩ := init_edges hE hl hp
  have hq : FwQ n E pace 0 0 0 f0 := by
    refine ⟨fun a b => ?_, fun τ hτ a b hc => ?_, fun e he => ?_, ?_⟩
    · rcases e2.src a b with h | ⟨e, he, _, _, h⟩
      · rw [h]; unfold nev; omega
      · have := wt_bd (hE e he) hp; rw [h]; unfold nev; omega
    · rcases e2.src a b with h | ⟨e, he, h3, h4, h⟩
      · omega
      · have := hτ e he
        rw [h3, h4] at this
        simp only [Int.toNat_natCast] at this
        omega
    · obtain ⟨i, hi, rfl⟩ := mem_ele he
      exact e2.has i hi
    · by_cases hd : ∃ a, a < n ∧ f0 a a > 0
      · exact .inl hd
      · refine .inr ⟨f0, ⟨fun a ha => Int.not_lt.1 fun h => hd ⟨a, ha, h⟩, fun a b ha hb => ?_, fun a b ha hb hc => ?_, fun m hm => absurd hm (Nat.not_lt_zero _)⟩, fun a b ha hb => by rw [if_neg (by omega)]⟩
        · rcases e2.src a b with h | ⟨e, he, _, _, h⟩
          · rw [h]; unfold nev; simp
          · have := wt_bd (hE e he) hp; rw [h]; simp; omega
        · rcases e2.src a b with h | ⟨e, he, _, _, h⟩
          · omega
          · have := wt_bd (hE e he) hp; rw [h]; simp; omega
  obtain ⟨f, e3, e4⟩ := fw_run hn (FwQ n E pace) (fun k i j f h => h.bd) (fun k i j f hk hi hj h => h.step hn hk hi hj) (fun k i f _ _ h => h.ej) (fun k f hk h => h.ei hn hk) f0 hq
  unfold bound_rounds_m
  simp only [Int.toNat_natCast]
  rw [ck_yes (by omega), ck_yes (AL24 (by omega)), init_grid hn, bd_ret, Out.on_go]
  simp only
  rw [e1, bd_ret, Out.on_go]
  simp only
  rw [e3, bd_ret, Out.on_go]
  simp only
  have bd := e4.bd
  rcases lp_all (f := bound_rounds_L12 (n : Int) (gridF n f)) (n := n) (p := fun i => f i i ≤ 0) (fun i hi _ => by
      unfold bound_rounds_L12
      rw [br_T (by omega), ck_IX (by omega) (by rw [gridF_ln]; omega), ck_IX (by omega) (by rw [gridF_rln hi]; omega), gridF_at hi hi]
      exact ⟨fun h => by rw [br_F (by omega), ck_IR (by omega) (by omega)], fun h => by rw [br_T (by omega)]⟩) (by unfold bound_rounds_L12; exact br_F (by omega)) with ⟨h1, e5⟩ | ⟨h1, e5⟩
  · rw [e5, bd_ret, Out.on_go, tb_t (p := HasPot E pace) ⟨_, fw_pot hE hp e4 h1⟩]
  · rw [e5, bd_ret, Out.on_ret, tb_f fun hh : HasPot E pace => h1 fun i hi => pot_diag e4 hh i]
end Go.Rd
end

section
namespace Go.Rd
set_option linter.unusedVariables false
noncomputable def roundelayref8_Legal_L2 (l : Lp) (p : Pln) (i7_2 : Int) (x32 : Int) : (Int × Int) → Option (Stp (Int × Int) (Empty)) := fun (many9_3, j10_3) =>
 br (decide (j10_3 < (ln p.times))) (
 ck (IX j10_3 (ln p.times)) <|
 ck (p.pace ≠ 0) <|
 ck (IX i7_2 (ln p.times)) <|
 ck (p.pace ≠ 0) <|
 ck (((Int.tmod (ele p.times j10_3) p.pace) == (Int.tmod (ele p.times i7_2) p.pace)) = true → IX j10_3 (ln l.body)) <|
 bdG ((Int.tmod (ele p.times j10_3) p.pace) == (Int.tmod (ele p.times i7_2) p.pace)) (roundelayref1_Class_m ((ele l.body j10_3).op)) fun x58 =>
 br (((Int.tmod (ele p.times j10_3) p.pace) == (Int.tmod (ele p.times i7_2) p.pace)) && (x58 == x32)) (
 ck (IR (many9_3 + 1)) <|
 ck (IR (j10_3 + 1)) <|
 some (.next ((many9_3 + 1), (j10_3 + 1)))) (
 ck (IR (j10_3 + 1)) <|
 some (.next (many9_3, (j10_3 + 1))))) (
 some (.brk (many9_3, j10_3)))
noncomputable def roundelayref8_Legal_L0 (l : Lp) (t : Tgt) (p : Pln) : Int → Option (Stp (Int) (Bool)) := fun i7_2 =>
 br (decide (i7_2 < (ln p.times))) (
 ck (IX i7_2 (ln p.times)) <|
 ck ((!(decide ((ele p.times i7_2) < 0))) = true → IX i7_2 (ln p.times)) <|
 br ((decide ((ele p.times i7_2) < 0)) || (decide ((ele p.times i7_2) > 1000))) (
 some (.ret false)) (
 ck (IX i7_2 (ln l.body)) <|
 bd (roundelayref1_Class_m ((ele l.body i7_2).op)) fun x32 =>
 bd (lp (roundelayref8_Legal_L2 l p i7_2 x32) (0, 0)) fun o35 => o35.on (fun (many9_3, j10_3) =>
 ck (IX x32 3) <|
 br (decide (many9_3 > (sel3 t.u0 t.u1 t.u2 x32))) (
 some (.ret false)) (
 ck (IR (i7_2 + 1)) <|
 some (.next (i7_2 + 1)))) (fun r => r.elim))) (
 some (.brk i7_2))
noncomputable def roundelayref8_Legal_L4 (p : Pln) (x15 : List Edg) : Int → Option (Stp (Int) (Bool)) := fun i12_3 =>
 br (decide (i12_3 < (ln x15))) (
 ck (IX i12_3 (ln x15)) <|
 ck (IX ((ele x15 i12_3).to) (ln p.times)) <|
 ck (IR ((ele x15 i12_3).bk * p.pace)) <|
 ck (IR ((ele p.times ((ele x15 i12_3).to)) + ((ele x15 i12_3).bk * p.pace))) <|
 ck (IX ((ele x15 i12_3).fr) (ln p.times)) <|
 ck (IR ((ele p.times ((ele x15 i12_3).fr)) + (ele x15 i12_3).wt)) <|
 br (decide (((ele p.times ((ele x15 i12_3).to)) + ((ele x15 i12_3).bk * p.pace)) < ((ele p.times ((ele x15 i12_3).fr)) + (ele x15 i12_3).wt))) (
 some (.ret false)) (
 ck (IR (i12_3 + 1)) <|
 some (.next (i12_3 + 1)))) (
 some (.brk i12_3))
noncomputable def roundelayref8_Legal_m (l : Lp) (t : Tgt) (p : Pln) : Option (Bool) :=
 bd (roundelayref6_May_m l t) fun x4 =>
 br ((((!x4) || (decide (p.pace < 1))) || (decide (p.pace > 200))) || ((ln p.times) != (ln l.body))) (
 some false) (
 bd (lp (roundelayref8_Legal_L0 l t p) 0) fun o10 => o10.on (fun i7_2 =>
 bd (roundelayref6_Edges_m l t) fun x15 =>
 bd (lp (roundelayref8_Legal_L4 p x15) 0) fun o19 => o19.on (fun i12_3 =>
 some true) (fun r => some r)) (fun r => some r))

noncomputable def roundelayref8_All_L0 (l : Lp) (t : Tgt) : (Int × Int) → Option (Stp (Int × Int) (Empty)) := fun (n5_1, i6_1) =>
 br (decide (i6_1 < (ln l.body))) (
 ck (IX i6_1 (ln l.body)) <|
 bd (roundelayref4_Wait_m t ((ele l.body i6_1).op)) fun x14 =>
 ck (IR (n5_1 + x14)) <|
 ck (IR (i6_1 + 1)) <|
 some (.next ((n5_1 + x14), (i6_1 + 1)))) (
 some (.brk (n5_1, i6_1)))
noncomputable def roundelayref8_All_m (l : Lp) (t : Tgt) : Option (Int) :=
 bd (lp (roundelayref8_All_L0 l t) (0, 0)) fun o3 => o3.on (fun (n5_1, i6_1) =>
 some n5_1) (fun r => r.elim)
end Go.Rd
end

section
namespace Go.Rd
set_option linter.unusedVariables false
def keyK (l : Lp) (p : Pln) (i : Nat) : Int × Int := (Int.tmod (ele p.times (i : Int)) p.pace, clsV (ele l.body (i : Int)).op)
def cntK (l : Lp) (p : Pln) (k : Nat) (κ : Int × Int) : Nat := (List.range k).countP fun j => decide (keyK l p j = κ)
def unitsV (t : Tgt) (c : Int) : Int := sel3 t.u0 t.u1 t.u2 c
theorem cntK_succ (l : Lp) (p : Pln) (k : Nat) (κ : Int × Int) : cntK l p (k + 1) κ = cntK l p k κ + if keyK l p k = κ then 1 else 0 := by
  unfold cntK
  rw [List.range_succ, List.countP_append, List.countP_singleton]
  by_cases h : keyK l p k = κ <;> simp [h]
theorem cntK_mono (l : Lp) (p : Pln) {κ : Int × Int} {i j : Nat} (h : i ≤ j) : cntK l p i κ ≤ cntK l p j κ := by
  induction j with
  | zero => have : i = 0 := by omega
            subst this; exact Nat.le_refl _
  | succ j ih =>
    by_cases e : i = j + 1
    · subst e; exact Nat.le_refl _
    · rw [cntK_succ]; have := ih (by omega); omega
theorem cntK_le (l : Lp) (p : Pln) (κ : Int × Int) : ∀ k, cntK l p k κ ≤ k
  | 0 => Nat.le_refl _
  | k + 1 => by rw [cntK_succ]; have := cntK_le l p κ k; split <;> omega
theorem units_bd {t : Tgt} (ht : tgtOk t = true) (c : Int) : 1 ≤ unitsV t c ∧ unitsV t c ≤ 4 := by
  rw [tgtOk_iff] at ht
  exact sel3_bd ⟨ht.1.1, ht.1.2.1⟩ ⟨ht.2.1.1, ht.2.1.2.1⟩ ⟨ht.2.2.1.1, ht.2.2.1.2.1⟩
theorem cnt_all {l : Lp} {p : Pln} {t : Tgt} (ht : tgtOk t = true) {n : Nat} : (∀ k, k < n → (cntK l p (k + 1) (keyK l p k) : Int) ≤ unitsV t (keyK l p k).2) ↔ (∀ i, i < n → (cntK l p n (keyK l p i) : Int) ≤ unitsV t (keyK l p i).2) := by
  constructor
  · intro h
    have key : ∀ k, k ≤ n → ∀ κ, (cntK l p k κ : Int) ≤ unitsV t κ.2 := by
      intro k
      induction k with
      | zero => intro _ κ; have := (units_bd ht κ.2).1; show ((0 : Nat) : Int) ≤ _; omega
      | succ k ih =>
        intro hk κ
        by_cases e : keyK l p k = κ
        · have := h k (by omega); rw [e] at this; exact this
        · rw [cntK_succ, if_neg e]; exact ih (by omega) κ
    exact fun i _ => key n (Nat.le_refl _) _
  · intro h k hk
    have := h k hk
    have := cntK_mono l p (κ := keyK l p k) (show k + 1 ≤ n from hk)
    omega
def RngP (p : Pln) (i : Nat) : Prop := 0 ≤ ele p.times (i : Int) ∧ ele p.times (i : Int) ≤ 1000
def EdgOk (p : Pln) (e : Edg) : Prop := ele p.times e.fr + e.wt ≤ ele p.times e.to + e.bk * p.pace
structure LegalP (l : Lp) (t : Tgt) (p : Pln) : Prop where
  loop : LoopOk l
  tgt : tgtOk t = true
  pace : 1 ≤ p.pace ∧ p.pace ≤ 200
  len : p.times.length = l.body.length
  rng : ∀ i, i < l.body.length → RngP p i
  units : ∀ i, i < l.body.length → (cntK l p l.body.length (keyK l p i) : Int) ≤ unitsV t (keyK l p i).2
  edge : ∀ e, EdgeP l t e → EdgOk p e
def FitP (l : Lp) (t : Tgt) (p : Pln) : Prop := ((∀ i, i < l.body.length → RngP p i) ∧ (∀ i, i < l.body.length → (cntK l p l.body.length (keyK l p i) : Int) ≤ unitsV t (keyK l p i).2)) ∧ ∀ e, EdgeP l t e → EdgOk p e
theorem tmod_bd {a b : Int} (h : 0 < b) : -b < Int.tmod a b ∧ Int.tmod a b < b := tmod_lt' a h
theorem edge_range {l : Lp} {p : Pln} (hl : LoopOk l) (hp : 1 ≤ p.pace ∧ p.pace ≤ 200) (hlen : p.times.length = l.body.length) (hr : ∀ i, i < l.body.length → RngP p i) {t : Tgt} {e : Edg} (he : EdgeP l t e) :
    IX e.to (ln p.times) ∧ IX e.fr (ln p.times) ∧ (0 ≤ e.bk * p.pace ∧ e.bk * p.pace ≤ 6400) ∧ (0 ≤ ele p.times e.to ∧ ele p.times e.to ≤ 1000) ∧ (0 ≤ ele p.times e.fr ∧ ele p.times e.fr ≤ 1000) ∧ (0 ≤ e.wt ∧ e.wt ≤ 6) := by
  obtain ⟨a1, a2, a3, a4, _⟩ := he.in hl
  have m1 := mul_le (a := e.bk) (A := 32) (b := p.pace) (B := 200) (by omega) (by omega) (by omega) (by omega)
  have m2 : 0 ≤ e.bk * p.pace := Int.mul_nonneg a3.1 (by omega)
  have q1 := hr e.to.toNat (by omega)
  have q2 := hr e.fr.toNat (by omega)
  unfold RngP at q1 q2
  rw [show ((e.to.toNat : Nat) : Int) = e.to from by omega] at q1
  rw [show ((e.fr.toNat : Nat) : Int) = e.fr from by omega] at q2
  exact ⟨⟨a2.1, by unfold ln; omega⟩, ⟨a1.1, by unfold ln; omega⟩, ⟨m2, by omega⟩, q1, q2, a4⟩
theorem all_edges {l : Lp} {t : Tgt} {E : List Edg} (hE : ∀ e, e ∈ E ↔ EdgeP l t e) {q : Edg → Prop} : (∀ i : Nat, i < E.length → q (ele E (i : Int))) ↔ ∀ e, EdgeP l t e → q e := by
  constructor
  · intro h e he
    obtain ⟨i, hi, rfl⟩ := mem_ele ((hE e).2 he)
    exact h i hi
  · exact fun h i hi => h _ ((hE _).1 (ele_mem' hi))
theorem fits_s {l : Lp} {t : Tgt} {p : Pln} (hl : LoopOk l) (ht : tgtOk t = true) (hp : 1 ≤ p.pace ∧ p.pace ≤ 200) (hlen : p.times.length = l.body.length) {E : List Edg} (hE : ∀ e, e ∈ E ↔ EdgeP l t e) (hEl : E.length ≤ 60000) : sched_fits_m l t p E = some (tb (FitP l t p)) := by
  have hn16 := hl.2.2.1
  unfold sched_fits_m
  rcases lp_chk (f := sched_fits_L0 l t p) (n := p.times.length) (r0 := false) (fun i => RngP p i ∧ (cntK l p (i + 1) (keyK l p i) : Int) ≤ unitsV t (keyK l p i).2) (fun k m => ∀ κ, mget m κ 0 = (cntK l p k κ : Int)) (fun i m hi hm => by
      have hc := clsV_range (ele l.body (i : Int)).op
      have hcl := cntK_le l p (keyK l p i) i
      have hmg : mget m (keyK l p i) 0 = (cntK l p i (keyK l p i) : Int) := hm _
      have hk : keyK l p i = (Int.tmod (ele p.times (i : Int)) p.pace, clsV (ele l.body (i : Int)).op) := rfl
      have hnew : mget (mput m (keyK l p i) (mget m (keyK l p i) 0 + 1)) (keyK l p i) 0 = (cntK l p (i + 1) (keyK l p i) : Int) := by rw [mget_mput, if_pos rfl, hmg, cntK_succ, if_pos rfl]; rfl
      have e : sched_fits_L0 l t p (m, (i : Int)) = br (!tb (RngP p i)) (some (.ret false)) (br (decide ((cntK l p (i + 1) (keyK l p i) : Int) > unitsV t (keyK l p i).2)) (some (.ret false)) (some (.next (mput m (keyK l p i) (mget m (keyK l p i) 0 + 1), (i : Int) + 1)))) := by
        unfold sched_fits_L0
        simp only
        rw [br_T (by unfold ln; omega), ck_IX (by omega) (by unfold ln; omega)]
        have hb : (decide (ele p.times (i : Int) < 0) || decide (ele p.times (i : Int) > 1000)) = !tb (RngP p i) := by
          have : (!(decide (ele p.times (i : Int) < 0) || decide (ele p.times (i : Int) > 1000))) = tb (RngP p i) := tb_eq (by unfold RngP; simp)
          rw [← this, Bool.not_not]
        rw [hb, ck_yes (by omega), ck_IX (by omega) (by unfold ln; omega), num_Class_s, bd_ret, ← hk, ck_IR (by omega) (by omega), ck_IX hc.1 hc.2, hnew, ck_IR (by omega) (by omega)]
        rfl
      rw [e]
      by_cases h1 : RngP p i
      · rw [tb_t h1, Bool.not_true, br_false]
        by_cases h2 : (cntK l p (i + 1) (keyK l p i) : Int) > unitsV t (keyK l p i).2
        · rw [br_T h2]; exact .inr ⟨fun h => by omega, rfl⟩
        · rw [br_F h2]
          refine .inl ⟨⟨h1, by omega⟩, _, rfl, fun κ => ?_⟩
          rw [mget_mput, cntK_succ]
          by_cases hq : keyK l p i = κ
          · rw [if_pos hq, if_pos hq, hmg, hq]; rfl
          · rw [if_neg hq, if_neg hq, hm]; rfl
      · rw [tb_f h1]; exact .inr ⟨fun h => h1 h.1, rfl⟩) (fun g => by unfold sched_fits_L0; exact br_F (by unfold ln; omega)) [] (fun κ => rfl) with ⟨h1, m, e1, _⟩ | ⟨h1, e1⟩
  · rw [e1, bd_ret, Out.on_go]
    simp only
    have hrng : ∀ i, i < l.body.length → RngP p i := fun i hi => (h1 i (by omega)).1
    have hcnt := (cnt_all (l := l) (p := p) ht (n := l.body.length)).1 fun i hi => (h1 i (by omega)).2
    rcases lp_all (f := sched_fits_L2 p E) (n := E.length) (p := fun i => EdgOk p (ele E (i : Int))) (fun i hi _ => by
        obtain ⟨x1, x2, x3, x4, x5, x6⟩ := edge_range hl hp hlen hrng ((hE _).1 (ele_mem' hi))
        have e : sched_fits_L2 p E i = br (!tb (EdgOk p (ele E (i : Int)))) (some (.ret false)) (some (.next ((i : Int) + 1))) := by
          unfold sched_fits_L2
          rw [br_T (by unfold ln; omega), ck_IX (by omega) (by unfold ln; omega), ck_yes x1, ck_IR (by omega) (by omega), ck_IR (by omega) (by omega), ck_yes x2, ck_IR (by omega) (by omega), ck_IR (by omega) (by omega)]
          congr 1
          have : (!decide (ele p.times (ele E (i : Int)).to + (ele E (i : Int)).bk * p.pace < ele p.times (ele E (i : Int)).fr + (ele E (i : Int)).wt)) = tb (EdgOk p (ele E (i : Int))) := tb_eq (by unfold EdgOk; simp)
          rw [← this, Bool.not_not]
        rw [e]
        exact ⟨fun h => by rw [tb_t h]; rfl, fun h => by rw [tb_f h]; rfl⟩) (by unfold sched_fits_L2; exact br_F (by unfold ln; omega)) with ⟨h2, e2⟩ | ⟨h2, e2⟩
    · rw [e2, bd_ret, Out.on_go, tb_t ⟨⟨hrng, hcnt⟩, (all_edges hE).1 h2⟩]
    · rw [e2, bd_ret, Out.on_ret, tb_f fun h => h2 ((all_edges hE).2 h.2)]
  · rw [e1, bd_ret, Out.on_ret, tb_f fun h => h1 fun i hi => ⟨h.1.1 i (by omega), (cnt_all ht).2 h.1.2 i (by omega)⟩]
theorem legal_iff {l : Lp} {t : Tgt} {p : Pln} : LegalP l t p ↔ (LoopOk l ∧ tgtOk t = true) ∧ (1 ≤ p.pace ∧ p.pace ≤ 200) ∧ p.times.length = l.body.length ∧ FitP l t p :=
  ⟨fun h => ⟨⟨h.loop, h.tgt⟩, h.pace, h.len, ⟨h.rng, h.units⟩, h.edge⟩, fun ⟨h1, h2, h3, h4⟩ => ⟨h1.1, h1.2, h2, h3, h4.1.1, h4.1.2, h4.2⟩⟩
theorem Legal_s {l : Lp} (hf : l.Fine) (t : Tgt) (p : Pln) : sched_Legal_m l t p = some (tb (LegalP l t p)) := by
  unfold sched_Legal_m
  by_cases h : LoopOk l ∧ tgtOk t = true
  · obtain ⟨E, e1, e2, e3, e4, e5⟩ := edges_both h.1 hf h.2
    rw [e1, bd_ret]
    simp only
    by_cases h2 : (1 ≤ p.pace ∧ p.pace ≤ 200) ∧ p.times.length = l.body.length
    · have hc : ((((0 : Int) == 0) && (decide (p.pace ≥ 1))) && (decide (p.pace ≤ 200)) && ((ln p.times) == (ln l.body))) = true := by
        unfold ln
        simp only [Bool.and_eq_true, decide_eq_true_eq, beq_iff_eq]
        exact ⟨⟨⟨trivial, by omega⟩, by omega⟩, by omega⟩
      rw [hc, fits_s h.1 h.2 h2.1 h2.2 e4 e5, bdG_t, bd_ret, Bool.true_and]
      congr 1
      exact tb_congr ⟨fun hh => legal_iff.2 ⟨h, h2.1, h2.2, hh⟩, fun hh => (legal_iff.1 hh).2.2.2⟩
    · have hc : ((((0 : Int) == 0) && (decide (p.pace ≥ 1))) && (decide (p.pace ≤ 200)) && ((ln p.times) == (ln l.body))) = false := by
        cases hq : ((((0 : Int) == 0) && (decide (p.pace ≥ 1))) && (decide (p.pace ≤ 200)) && ((ln p.times) == (ln l.body))) with
        | false => rfl
        | true =>
          unfold ln at hq
          simp only [Bool.and_eq_true, decide_eq_true_eq, beq_iff_eq] at hq
          exact absurd ⟨⟨by omega, by omega⟩, by omega⟩ h2
      rw [hc, bdG_f, Bool.false_and, tb_f fun hh => h2 ⟨hh.pace, hh.len⟩]
  · rw [Edges_bad hf h, bd_ret, tb_f fun hh => h ⟨hh.loop, hh.tgt⟩]
    rfl
theorem rLegal_s {l : Lp} (hf : l.Fine) (t : Tgt) (p : Pln) : roundelayref8_Legal_m l t p = some (tb (LegalP l t p)) := by
  unfold roundelayref8_Legal_m
  rw [rMay_s hf, bd_ret]
  by_cases h : LoopOk l ∧ tgtOk t = true
  · by_cases h2 : (1 ≤ p.pace ∧ p.pace ≤ 200) ∧ p.times.length = l.body.length
    · have hn16 := h.1.2.2.1
      obtain ⟨E, e1, e2, e3, e4, e5⟩ := edges_both h.1 hf h.2
      have hlen := h2.2
      rw [tb_t h, show ((((!true) || (decide (p.pace < 1))) || (decide (p.pace > 200))) || ((ln p.times) != (ln l.body))) = false from by unfold ln; simp only [Bool.not_true, Bool.false_or, Bool.or_eq_false_iff, decide_eq_false_iff_not, bne_eq_false_iff_eq]; omega, br_false]
      rcases lp_all (f := roundelayref8_Legal_L0 l t p) (n := p.times.length) (p := fun i => RngP p i ∧ (cntK l p l.body.length (keyK l p i) : Int) ≤ unitsV t (keyK l p i).2) (fun i hi _ => by
          have hc := clsV_range (ele l.body (i : Int)).op
          have hix : IX (i : Int) (ln p.times) := ⟨by omega, by unfold ln; omega⟩
          have hin : ∃ g, lp (roundelayref8_Legal_L2 l p i (clsV (ele l.body (i : Int)).op)) (0, 0) = some (.go (g, (p.times.length : Int))) ∧ g = (cntK l p p.times.length (keyK l p i) : Int) := by
            refine lp_inv (fun k g => g = (cntK l p k (keyK l p i) : Int)) (fun j g hj hg => ?_) (fun g => by unfold roundelayref8_Legal_L2; exact br_F (by unfold ln; omega)) 0 rfl
            have hcl := cntK_le l p (keyK l p i) j
            have hb : ((Int.tmod (ele p.times (j : Int)) p.pace == Int.tmod (ele p.times (i : Int)) p.pace) && ((if (Int.tmod (ele p.times (j : Int)) p.pace == Int.tmod (ele p.times (i : Int)) p.pace) = true then clsV (ele l.body (j : Int)).op else default) == clsV (ele l.body (i : Int)).op)) = tb (keyK l p j = keyK l p i) := by
              refine tb_eq ?_
              unfold keyK
              by_cases hq : Int.tmod (ele p.times (j : Int)) p.pace = Int.tmod (ele p.times (i : Int)) p.pace
              · simp [hq]
              · simp [hq]
            unfold roundelayref8_Legal_L2
            simp only
            rw [br_T (by unfold ln; omega), ck_IX (by omega) (by unfold ln; omega), ck_yes (by omega), ck_yes hix, ck_yes (by omega), ck_imp (fun _ => ⟨by omega, by unfold ln; omega⟩), ref_Class_s, bdG_any, hb]
            by_cases hq : keyK l p j = keyK l p i
            · rw [tb_t hq, br_true, ck_IR (by omega) (by omega), ck_IR (by omega) (by omega)]
              exact ⟨_, rfl, by rw [hg, cntK_succ, if_pos hq]; rfl⟩
            · rw [tb_f hq, br_false, ck_IR (by omega) (by omega)]
              exact ⟨_, rfl, by rw [hg, cntK_succ, if_neg hq]; rfl⟩
          obtain ⟨g, g1, g2⟩ := hin
          have e : roundelayref8_Legal_L0 l t p i = br (!tb (RngP p i)) (some (.ret false)) (br (decide ((cntK l p l.body.length (keyK l p i) : Int) > unitsV t (keyK l p i).2)) (some (.ret false)) (some (.next ((i : Int) + 1)))) := by
            have hb : (decide (ele p.times (i : Int) < 0) || decide (ele p.times (i : Int) > 1000)) = !tb (RngP p i) := by
              have : (!(decide (ele p.times (i : Int) < 0) || decide (ele p.times (i : Int) > 1000))) = tb (RngP p i) := tb_eq (by unfold RngP; simp)
              rw [← this, Bool.not_not]
            unfold roundelayref8_Legal_L0
            rw [br_T (by unfold ln; omega), ck_yes hix, ck_imp (fun _ => hix), hb, ck_IX (by omega) (by unfold ln; omega), ref_Class_s, bd_ret, g1, bd_ret, Out.on_go]
            simp only
            rw [ck_IX hc.1 hc.2, ck_IR (by omega) (by omega), g2, hlen]
            rfl
          rw [e]
          constructor
          · rintro ⟨x1, x2⟩
            rw [tb_t x1, Bool.not_true, br_false, br_F (by omega)]
          · intro hh
            by_cases x1 : RngP p i
            · rw [tb_t x1, Bool.not_true, br_false, br_T]
              have : ¬ ((cntK l p l.body.length (keyK l p i) : Int) ≤ unitsV t (keyK l p i).2) := fun x => hh ⟨x1, x⟩
              omega
            · rw [tb_f x1]; rfl) (by unfold roundelayref8_Legal_L0; exact br_F (by unfold ln; omega)) with ⟨h3, x3⟩ | ⟨h3, x3⟩
      · rw [x3, bd_ret, Out.on_go, e2, bd_ret]
        have hrng : ∀ i, i < l.body.length → RngP p i := fun i hi => (h3 i (by omega)).1
        rcases lp_all (f := roundelayref8_Legal_L4 p E) (n := E.length) (p := fun i => EdgOk p (ele E (i : Int))) (fun i hi _ => by
            obtain ⟨x1, x2, x3, x4, x5, x6⟩ := edge_range h.1 h2.1 hlen hrng ((e4 _).1 (ele_mem' hi))
            have e : roundelayref8_Legal_L4 p E i = br (!tb (EdgOk p (ele E (i : Int)))) (some (.ret false)) (some (.next ((i : Int) + 1))) := by
              unfold roundelayref8_Legal_L4
              rw [br_T (by unfold ln; omega), ck_IX (by omega) (by unfold ln; omega), ck_yes x1, ck_IR (by omega) (by omega), ck_IR (by omega) (by omega), ck_yes x2, ck_IR (by omega) (by omega), ck_IR (by omega) (by omega)]
              congr 1
              have : (!decide (ele p.times (ele E (i : Int)).to + (ele E (i : Int)).bk * p.pace < ele p.times (ele E (i : Int)).fr + (ele E (i : Int)).wt)) = tb (EdgOk p (ele E (i : Int))) := tb_eq (by unfold EdgOk; simp)
              rw [← this, Bool.not_not]
            rw [e]
            exact ⟨fun h => by rw [tb_t h]; rfl, fun h => by rw [tb_f h]; rfl⟩) (by unfold roundelayref8_Legal_L4; exact br_F (by unfold ln; omega)) with ⟨h4, x4⟩ | ⟨h4, x4⟩
        · rw [x4, bd_ret, Out.on_go, tb_t]
          exact legal_iff.2 ⟨h, h2.1, h2.2, ⟨hrng, fun i hi => (h3 i (by omega)).2⟩, (all_edges e4).1 h4⟩
        · rw [x4, bd_ret, Out.on_ret, tb_f fun hh => h4 ((all_edges e4).2 hh.edge)]
      · rw [x3, bd_ret, Out.on_ret, tb_f fun hh => h3 fun i hi => ⟨hh.rng i (by omega), hh.units i (by omega)⟩]
    · have hc : ((((!tb (LoopOk l ∧ tgtOk t = true)) || (decide (p.pace < 1))) || (decide (p.pace > 200))) || ((ln p.times) != (ln l.body))) = true := by
        cases hq : ((((!tb (LoopOk l ∧ tgtOk t = true)) || (decide (p.pace < 1))) || (decide (p.pace > 200))) || ((ln p.times) != (ln l.body))) with
        | true => rfl
        | false =>
          unfold ln at hq
          simp only [Bool.or_eq_false_iff, decide_eq_false_iff_not, bne_eq_false_iff_eq] at hq
          exact absurd ⟨⟨by omega, by omega⟩, by omega⟩ h2
      rw [hc, br_true, tb_f fun hh => h2 ⟨hh.pace, hh.len⟩]
  · rw [tb_f h, tb_f fun hh => h ⟨hh.loop, hh.tgt⟩]
    rfl
end Go.Rd
end

section
namespace Go.Rd
set_option linter.unusedVariables false
def preW (l : Lp) (t : Tgt) : Nat → Int
  | 0 => 0
  | k + 1 => preW l t k + waitV t (ele l.body (k : Int)).op
def allW (l : Lp) (t : Tgt) : Int := preW l t l.body.length
theorem wait_pos {t : Tgt} (ht : tgtOk t = true) (op : Int) : 1 ≤ waitV t op ∧ waitV t op ≤ 6 := by
  unfold waitV
  rw [if_pos ht]
  rw [tgtOk_iff] at ht
  exact sel3_bd (by omega) (by omega) (by omega)
theorem preW_mono {l : Lp} {t : Tgt} (ht : tgtOk t = true) {i j : Nat} (h : i ≤ j) : preW l t i + ((j : Int) - i) ≤ preW l t j := by
  induction j with
  | zero => have : i = 0 := by omega
            subst this; omega
  | succ j ih =>
    by_cases e : i = j + 1
    · subst e; omega
    · have := ih (by omega)
      have hw := (wait_pos ht (ele l.body (j : Int)).op).1
      show _ ≤ preW l t j + waitV t (ele l.body (j : Int)).op
      omega
theorem preW_bd {l : Lp} {t : Tgt} (ht : tgtOk t = true) : ∀ k : Nat, (k : Int) ≤ preW l t k ∧ preW l t k ≤ 6 * k
  | 0 => by show _ ≤ (0 : Int) ∧ (0 : Int) ≤ _; omega
  | k + 1 => by
    have := preW_bd (l := l) ht k
    have hw := wait_pos ht (ele l.body (k : Int)).op
    show _ ≤ preW l t k + waitV t (ele l.body (k : Int)).op ∧ preW l t k + waitV t (ele l.body (k : Int)).op ≤ _
    omega
theorem edge_wait {l : Lp} {t : Tgt} (ht : tgtOk t = true) {e : Edg} (h : EdgeP l t e) : e.wt ≤ waitV t (ele l.body e.fr).op := by
  obtain ⟨to, h1, h2 | ⟨fr, h2, h3⟩⟩ := h
  · obtain ⟨r, hr, rfl⟩ := h2
    exact Int.le_refl _
  · have := h3.wt
    have hw := (wait_pos ht (ele l.body e.fr).op).1
    split at this <;> omega
theorem straight_edge {l : Lp} (hl : LoopOk l) {t : Tgt} (ht : tgtOk t = true) {pace : Int} (hp : allW l t ≤ pace) {e : Edg} (h : EdgeP l t e) : preW l t e.fr.toNat + (e.wt - pace * e.bk) ≤ preW l t e.to.toNat := by
  have hin := h.in hl
  have hw := edge_wait ht h
  obtain ⟨a1, a2, a3, a4, a5⟩ := hin
  have hn := hl.2.2.1
  have b1 := preW_bd (l := l) ht e.to.toNat
  have hs : preW l t (e.fr.toNat + 1) = preW l t e.fr.toNat + waitV t (ele l.body e.fr).op := by
    show preW l t e.fr.toNat + waitV t (ele l.body (e.fr.toNat : Int)).op = _
    rw [show ((e.fr.toNat : Nat) : Int) = e.fr from by omega]
  by_cases hb : e.bk = 0
  · have hlt := a5 hb
    have := preW_mono (l := l) ht (show e.fr.toNat + 1 ≤ e.to.toNat by omega)
    rw [hb]
    omega
  · have := preW_mono (l := l) ht (show e.fr.toNat + 1 ≤ l.body.length by omega)
    have hm : pace * 1 ≤ pace * e.bk := Int.mul_le_mul_of_nonneg_left (by omega) (by have := preW_bd (l := l) ht l.body.length; unfold allW at hp; omega)
    unfold allW at hp
    omega
theorem straight_pot {l : Lp} (hl : LoopOk l) {t : Tgt} (ht : tgtOk t = true) {E : List Edg} (hE : ∀ e, e ∈ E ↔ EdgeP l t e) {pace : Int} (hp : allW l t ≤ pace) : HasPot E pace :=
  ⟨preW l t, fun e he => straight_edge hl ht hp ((hE e).1 he)⟩
/-- A loop that looks for the first number that is so. -/
theorem lp_first {ρ : Type} {f : Int → Option (Stp Int ρ)} {p : Nat → Prop} {m lo : Nat} (step : ∀ i : Nat, lo ≤ i → i ≤ m → (p i → f i = some (.brk i)) ∧ (¬ p i → f i = some (.next ((i : Int) + 1)))) (hm : p m) : ∀ (d s : Nat), lo ≤ s → s + d = m → ∃ k : Nat, s ≤ k ∧ k ≤ m ∧ p k ∧ (∀ j, s ≤ j → j < k → ¬ p j) ∧ lp f s = some (.go (k : Int))
  | 0, s, hs, h => by
    have : s = m := by omega
    subst this
    exact ⟨s, Nat.le_refl _, Nat.le_refl _, hm, fun j h1 h2 => by omega, lp_brk ((step s hs (Nat.le_refl _)).1 hm)⟩
  | d + 1, s, hs, h => by
    by_cases hp : p s
    · exact ⟨s, Nat.le_refl _, by omega, hp, fun j h1 h2 => by omega, lp_brk ((step s hs (by omega)).1 hp)⟩
    · obtain ⟨k, h1, h2, h3, h4, h5⟩ := lp_first step hm d (s + 1) (by omega) (by omega)
      refine ⟨k, by omega, h2, h3, fun j h6 h7 => ?_, lp_step ((step s hs (by omega)).2 hp) h5⟩
      by_cases e : j = s
      · subst e; exact hp
      · exact h4 j (by omega) h7
theorem tmod_bd0' {a b : Int} (ha : 0 ≤ a) (hb : 1 ≤ b) : 0 ≤ Int.tmod a b ∧ Int.tmod a b < b := by
  rw [Int.tmod_eq_emod_of_nonneg ha]
  exact ⟨Int.emod_nonneg _ (by omega), Int.emod_lt_of_pos _ (by omega)⟩
def cntC (l : Lp) (k : Nat) (c : Int) : Nat := (List.range k).countP fun j : Nat => decide (clsV (ele l.body (j : Int)).op = c)
theorem cntC_succ (l : Lp) (k : Nat) (c : Int) : cntC l (k + 1) c = cntC l k c + if clsV (ele l.body (k : Int)).op = c then 1 else 0 := by
  unfold cntC
  rw [List.range_succ, List.countP_append, List.countP_singleton]
  by_cases h : clsV (ele l.body (k : Int)).op = c <;> simp [h]
theorem cntC_le (l : Lp) (c : Int) : ∀ k, cntC l k c ≤ k
  | 0 => Nat.le_refl _
  | k + 1 => by rw [cntC_succ]; have := cntC_le l c k; split <;> omega
def cdV (n u : Int) : Int := Int.tdiv (n + u - 1) u
theorem cdV_le {n u p : Int} (hn : 0 ≤ n) (hu : 1 ≤ u) (hu4 : u ≤ 4) : cdV n u ≤ p ↔ n ≤ p * u := by
  unfold cdV
  rw [Int.tdiv_eq_ediv_of_nonneg (by omega)]
  obtain h | h | h | h : u = 1 ∨ u = 2 ∨ u = 3 ∨ u = 4 := by omega
  all_goals subst h; omega
theorem cdV_bd {n u : Int} (hn : 0 ≤ n) (hn2 : n ≤ 16) (hu : 1 ≤ u) (hu4 : u ≤ 4) : 0 ≤ cdV n u ∧ cdV n u ≤ 16 := by
  unfold cdV
  rw [Int.tdiv_eq_ediv_of_nonneg (by omega)]
  obtain h | h | h | h : u = 1 ∨ u = 2 ∨ u = 3 ∨ u = 4 := by omega
  all_goals subst h; omega
def uB (l : Lp) (t : Tgt) : Nat → Int
  | 0 => 1
  | c + 1 => max (uB l t c) (cdV (cntC l l.body.length c) (unitsV t c))
theorem uB_bd {l : Lp} {t : Tgt} (hn : l.body.length ≤ 16) (ht : tgtOk t = true) : ∀ c, 1 ≤ uB l t c ∧ uB l t c ≤ 16
  | 0 => by show 1 ≤ (1 : Int) ∧ (1 : Int) ≤ 16; omega
  | c + 1 => by
    have := uB_bd (l := l) hn ht c
    have h1 := cntC_le l c l.body.length
    have h2 := units_bd ht c
    have h3 := cdV_bd (n := (cntC l l.body.length c : Int)) (by omega) (by omega) h2.1 h2.2
    show 1 ≤ max (uB l t c) _ ∧ max (uB l t c) _ ≤ 16
    omega
theorem many_loop {l : Lp} (hn : l.body.length ≤ 16) : lp (bound_Bound_L0 l) (([0, 0, 0] : List Int), 0) = some (.go ([(cntC l l.body.length 0 : Int), cntC l l.body.length 1, cntC l l.body.length 2], (l.body.length : Int))) := by
  refine lp_det (f := bound_Bound_L0 l) (fun k => ([(cntC l k 0 : Int), cntC l k 1, cntC l k 2], (k : Int))) l.body.length (fun k hk => ?_) (by unfold bound_Bound_L0; exact br_F (by unfold ln; omega))
  have hc := clsV_range (ele l.body (k : Int)).op
  have c0 := cntC_le l 0 k; have c1 := cntC_le l 1 k; have c2 := cntC_le l 2 k
  unfold bound_Bound_L0
  simp only
  rw [br_T (by unfold ln; omega), ck_IX (by omega) (by unfold ln; omega), num_Class_s, bd_ret, ck_IX (by omega) (by omega), ck_IX (by omega) (by unfold ln; simp; omega), ck_IR (by
    obtain h | h | h : clsV (ele l.body (k : Int)).op = 0 ∨ clsV (ele l.body (k : Int)).op = 1 ∨ clsV (ele l.body (k : Int)).op = 2 := by omega
    all_goals rw [h]; simp [ele]; omega) (by
    obtain h | h | h : clsV (ele l.body (k : Int)).op = 0 ∨ clsV (ele l.body (k : Int)).op = 1 ∨ clsV (ele l.body (k : Int)).op = 2 := by omega
    all_goals rw [h]; simp [ele]; omega), ck_IX (by omega) (by omega), ck_IX (by omega) (by unfold ln; simp; omega), ck_IR (by omega) (by omega)]
  rw [cntC_succ, cntC_succ, cntC_succ]
  obtain h | h | h : clsV (ele l.body (k : Int)).op = 0 ∨ clsV (ele l.body (k : Int)).op = 1 ∨ clsV (ele l.body (k : Int)).op = 2 := by omega
  all_goals rw [h]; simp [ele, upd]
theorem units_loop {l : Lp} (hn : l.body.length ≤ 16) {t : Tgt} (ht : tgtOk t = true) : lp (bound_Bound_L2 t [(cntC l l.body.length 0 : Int), cntC l l.body.length 1, cntC l l.body.length 2]) (1, 0) = some (.go (uB l t 3, 3)) := by
  refine lp_det (f := bound_Bound_L2 t [(cntC l l.body.length 0 : Int), cntC l l.body.length 1, cntC l l.body.length 2]) (fun c => (uB l t c, (c : Int))) 3 (fun c hc => ?_) (by unfold bound_Bound_L2; exact br_F (by omega))
  have h1 := cntC_le l c l.body.length
  have h2 := units_bd ht c
  have h3 := cdV_bd (n := (cntC l l.body.length c : Int)) (by omega) (by omega) h2.1 h2.2
  have he : ele [(cntC l l.body.length 0 : Int), cntC l l.body.length 1, cntC l l.body.length 2] (c : Int) = (cntC l l.body.length c : Int) := by
    obtain h | h | h : c = 0 ∨ c = 1 ∨ c = 2 := by omega
    all_goals subst h; rfl
  have hu : sel3 t.u0 t.u1 t.u2 (c : Int) = unitsV t c := rfl
  have hd : Int.tdiv ((cntC l l.body.length c : Int) + unitsV t c - 1) (unitsV t c) = cdV (cntC l l.body.length c) (unitsV t c) := rfl
  unfold bound_Bound_L2
  simp only
  rw [br_T (by omega), he, hu, hd, ck_IX (by omega) (by omega), ck_IX (by omega) (by omega), ck_IR (by omega) (by omega), ck_IR (by omega) (by omega), ck_IX (by omega) (by omega), ck_yes (by omega), ck_IR (by omega) (by omega), ck_IR (by omega) (by omega)]
  rfl
theorem Bound_s {l : Lp} (hl : LoopOk l) {t : Tgt} (ht : tgtOk t = true) {E : List Edg} (he : dep_Edges_m l t = some (E, 0)) (hE : ∀ e, e ∈ E ↔ EdgeP l t e) (hEl : E.length ≤ 60000) :
    ∃ L : Nat, 1 ≤ L ∧ (L : Int) ≤ allW l t ∧ HasPot E L ∧ (∀ j : Nat, 1 ≤ j → j < L → ¬ HasPot E j) ∧ bound_Bound_m l t = some (uB l t 3, (L : Int), 0) := by
  have hn := hl.2.2.1
  have hn1 := hl.2.1
  have hb := preW_bd (l := l) ht l.body.length
  obtain ⟨m, hm⟩ := Int.eq_ofNat_of_zero_le (show 0 ≤ allW l t by unfold allW; omega)
  have hm1 : 1 ≤ m := by unfold allW at hm; omega
  have hm2 : m ≤ 96 := by unfold allW at hm; omega
  have hin : ∀ e ∈ E, EdgeIn l.body.length e := fun e he => ((hE e).1 he).in hl
  obtain ⟨L, h1, h2, h3, h4, h5⟩ := lp_first (f := bound_Bound_L4 l (E, 0)) (ρ := Empty) (m := m) (lo := 1) (p := fun i => HasPot E (i : Int)) (fun i h0 hi => by
    unfold bound_Bound_L4 ln
    rw [rounds_s hn hin hEl (by omega), bd_ret]
    exact ⟨fun h => by rw [tb_t h]; rfl, fun h => by rw [tb_f h, Bool.not_false, br_true, ck_IR (by omega) (by omega)]⟩) (straight_pot hl ht hE (by omega)) (m - 1) 1 (by omega) (by omega)
  refine ⟨L, h1, by omega, h3, h4, ?_⟩
  unfold bound_Bound_m
  rw [he, bd_ret, show (((E, (0 : Int)) : List Edg × Int).2 != 0) = false from rfl, br_false, many_loop hn, bd_ret, Out.on_go]
  simp only
  rw [ck_yes (by rfl), units_loop hn ht, bd_ret, Out.on_go]
  simp only
  rw [show (1 : Int) = ((1 : Nat) : Int) from rfl, h5, bd_ret, Out.on_go]
end Go.Rd
end

section
namespace Go.Rd
set_option linter.unusedVariables false
noncomputable def roundelaylaw_BoundHolds_m (l : Lp) (t : Tgt) (p : Pln) : Option (Bool) :=
 bd (bound_Bound_m l t) fun x4 =>
 bd (roundelayref8_Legal_m l t p) fun x7 =>
 br (!x7) (
 some ((((x4.2.2 == 0) && (decide (x4.1 ≥ 1))) && (decide (x4.2.1 ≥ 1))) || (x4.2.2 == 2))) (
 some (((((x4.2.2 == 0) && (decide (p.pace ≥ x4.1))) && (decide (p.pace ≥ x4.2.1))) && (decide (x4.1 ≥ 1))) && (decide (x4.2.1 ≥ 1))))
end Go.Rd
end

section
namespace Go.Rd
set_option linter.unusedVariables false
def sumR (g : Nat → Nat) : Nat → Nat
  | 0 => 0
  | n + 1 => sumR g n + g n
theorem sumR_add (g h : Nat → Nat) : ∀ n, sumR (fun s => g s + h s) n = sumR g n + sumR h n
  | 0 => rfl
  | n + 1 => by show sumR _ n + (g n + h n) = (sumR g n + g n) + (sumR h n + h n); rw [sumR_add g h n]; omega
theorem sumR_zero : ∀ n, sumR (fun _ => 0) n = 0
  | 0 => rfl
  | n + 1 => by show sumR _ n + 0 = 0; rw [sumR_zero n]
theorem sumR_congr {g h : Nat → Nat} : ∀ {n}, (∀ s, s < n → g s = h s) → sumR g n = sumR h n
  | 0, _ => rfl
  | n + 1, e => by show sumR g n + g n = sumR h n + h n; rw [sumR_congr fun s hs => e s (by omega), e n (by omega)]
theorem sumR_one {k : Nat} : ∀ {n}, k < n → sumR (fun s => if s = k then 1 else 0) n = 1
  | n + 1, h => by
    show sumR _ n + (if n = k then 1 else 0) = 1
    by_cases e : n = k
    · subst e
      rw [if_pos rfl, sumR_congr (h := fun _ => 0) fun s hs => if_neg (by omega), sumR_zero]
    · rw [if_neg e, sumR_one (by omega)]
theorem sumR_le {g : Nat → Nat} {u : Nat} : ∀ {n}, (∀ s, s < n → g s ≤ u) → sumR g n ≤ n * u
  | 0, _ => by show 0 ≤ _; omega
  | n + 1, h => by
    have h1 := sumR_le (g := g) (u := u) (n := n) fun s hs => h s (by omega)
    have h2 := h n (by omega)
    show sumR g n + g n ≤ (n + 1) * u
    rw [Nat.succ_mul]
    omega
/-- The statements of a class, slot by slot. -/
theorem slots_sum {l : Lp} {p : Pln} {P : Nat} (hP : p.pace = P) (h1 : 1 ≤ P) (c : Int) : ∀ k : Nat, (∀ j : Nat, j < k → 0 ≤ ele p.times (j : Int)) → sumR (fun s => cntK l p k ((s : Int), c)) P = cntC l k c
  | 0, _ => by
    show sumR (fun s => 0) P = 0
    exact sumR_zero P
  | k + 1, h => by
    have ih := slots_sum (l := l) hP h1 c k fun j hj => h j (by omega)
    have h0 := h k (by omega)
    rw [cntC_succ, ← ih, show (fun s : Nat => cntK l p (k + 1) ((s : Int), c)) = fun s : Nat => cntK l p k ((s : Int), c) + (if keyK l p k = ((s : Int), c) then 1 else 0) from funext fun s => cntK_succ l p k _, sumR_add]
    congr 1
    unfold keyK
    by_cases e : clsV (ele l.body (k : Int)).op = c
    · rw [if_pos e]
      have hm := tmod_bd0' (a := ele p.times (k : Int)) h0 (show 1 ≤ p.pace by omega)
      obtain ⟨s0, hs0⟩ := Int.eq_ofNat_of_zero_le hm.1
      refine Eq.trans (sumR_congr fun s hs => ?_) (sumR_one (k := s0) (n := P) (by omega))
      rw [hs0, e]
      by_cases q : s = s0
      · subst q; rw [if_pos rfl, if_pos rfl]
      · rw [if_neg q, if_neg]
        intro hh
        simp only [Prod.mk.injEq] at hh
        exact q (by omega)
    · rw [if_neg e, sumR_congr (h := fun _ => 0), sumR_zero]
      intro s hs
      exact if_neg fun hh => e (Prod.mk.inj hh).2
theorem legal_units {l : Lp} {t : Tgt} {p : Pln} (h : LegalP l t p) (c : Int) : cdV (cntC l l.body.length c) (unitsV t c) ≤ p.pace := by
  have hp := h.pace
  have hn := h.loop.2.2.1
  have hu := units_bd h.tgt c
  obtain ⟨P, hP⟩ := Int.eq_ofNat_of_zero_le (show 0 ≤ p.pace by omega)
  obtain ⟨u, hu'⟩ := Int.eq_ofNat_of_zero_le (show 0 ≤ unitsV t c by omega)
  rw [cdV_le (by omega) hu.1 hu.2, hP, hu', ← slots_sum hP (by omega) c l.body.length fun j hj => (h.rng j hj).1]
  have := sumR_le (g := fun s : Nat => cntK l p l.body.length ((s : Int), c)) (u := u) (n := P) fun s hs => by
    by_cases e : ∃ i, i < l.body.length ∧ keyK l p i = ((s : Int), c)
    · obtain ⟨i, hi, he⟩ := e
      have := h.units i hi
      rw [he] at this
      simp only at this
      omega
    · have : cntK l p l.body.length ((s : Int), c) = 0 := by
        unfold cntK
        rw [List.countP_eq_zero]
        intro j hj
        have hj' := List.mem_range.1 hj
        simp only [decide_eq_true_eq]
        exact fun hh => e ⟨j, hj', hh⟩
      omega
  exact_mod_cast this
theorem legal_uB {l : Lp} {t : Tgt} {p : Pln} (h : LegalP l t p) : ∀ c : Nat, uB l t c ≤ p.pace
  | 0 => h.pace.1
  | c + 1 => by
    have h1 := legal_uB h c
    have h2 := legal_units h (c : Int)
    show max (uB l t c) _ ≤ _
    omega
theorem legal_pot {l : Lp} {t : Tgt} {p : Pln} (h : LegalP l t p) {E : List Edg} (hE : ∀ e, e ∈ E ↔ EdgeP l t e) : HasPot E p.pace := by
  refine ⟨fun v => ele p.times (v : Int), fun e he => ?_⟩
  have h1 := (hE e).1 he
  have hin := h1.in h.loop
  have h2 := h.edge e h1
  unfold EdgOk at h2
  show ele p.times (e.fr.toNat : Int) + _ ≤ ele p.times (e.to.toNat : Int)
  have hf := hin.fr; have ht := hin.to
  rw [show ((e.fr.toNat : Nat) : Int) = e.fr from by omega, show ((e.to.toNat : Nat) : Int) = e.to from by omega, Int.mul_comm]
  omega
theorem BoundHolds_true (l : Lp) (t : Tgt) (p : Pln) {w w' : World} {v1 v2 v3 v4 : Value} (hL : LpRep w v1 v2 v3 l) (hP : PlnRep w' v4 p) : roundelaylaw_BoundHolds_m l t p = some true := by
  have hf := hL.fine
  unfold roundelaylaw_BoundHolds_m
  by_cases h : LoopOk l ∧ tgtOk t = true
  · obtain ⟨E, e1, e2, e3, e4, e5⟩ := edges_both h.1 hf h.2
    obtain ⟨L, b1, b2, b3, b4, b5⟩ := Bound_s h.1 h.2 e1 e4 e5
    have hu := uB_bd (l := l) h.1.2.2.1 h.2 3
    rw [b5, bd_ret, rLegal_s hf, bd_ret]
    by_cases hp : LegalP l t p
    · have h1 := legal_uB hp 3
      have h2 : (L : Int) ≤ p.pace := by
        by_cases hh : (L : Int) ≤ p.pace
        · exact hh
        · have hpp := hp.pace
          refine absurd ?_ (b4 p.pace.toNat (by omega) (by omega))
          rw [show ((p.pace.toNat : Nat) : Int) = p.pace from by omega]
          exact legal_pot hp e4
      rw [tb_t hp, Bool.not_true, br_false]
      simp only [beq_self_eq_true, Bool.true_and]
      rw [decide_eq_true (show p.pace ≥ uB l t 3 from h1), decide_eq_true (show p.pace ≥ (L : Int) from h2), decide_eq_true (show uB l t 3 ≥ 1 from hu.1), decide_eq_true (show (L : Int) ≥ 1 by omega)]
      rfl
    · rw [tb_f hp, Bool.not_false, br_true]
      simp only [beq_self_eq_true, Bool.true_and]
      rw [decide_eq_true (show uB l t 3 ≥ 1 from hu.1), decide_eq_true (show (L : Int) ≥ 1 by omega)]
      rfl
  · unfold bound_Bound_m
    rw [Edges_bad hf h, bd_ret, show ((([], (2 : Int)) : List Edg × Int).2 != 0) = true from rfl, br_true, bd_ret, rLegal_s hf, bd_ret, tb_f fun hp : LegalP l t p => h ⟨hp.loop, hp.tgt⟩]
    rfl
end Go.Rd
end

section
namespace Go.Rd
set_option linter.unusedVariables false
noncomputable def sched_early_L2 (pace : Int) (edges : List Edg) (v6_7 : List Int) (x23_7 : Int) : (Int × Int) → Option (Stp (Int × Int) (Empty)) := fun (time13_8, x30_8) =>
 br (decide (x30_8 < (ln edges))) (
 ck (IX x30_8 (ln edges)) <|
 br (((ele edges x30_8).to == x23_7) && (decide ((ele edges x30_8).fr < x23_7))) (
 ck (IX ((ele edges x30_8).fr) (ln v6_7)) <|
 ck (IR ((ele v6_7 ((ele edges x30_8).fr)) + (ele edges x30_8).wt)) <|
 ck (IR (pace * (ele edges x30_8).bk)) <|
 ck (IR (((ele v6_7 ((ele edges x30_8).fr)) + (ele edges x30_8).wt) - (pace * (ele edges x30_8).bk))) <|
 ck (IR (x30_8 + 1)) <|
 some (.next ((max time13_8 (((ele v6_7 ((ele edges x30_8).fr)) + (ele edges x30_8).wt) - (pace * (ele edges x30_8).bk))), (x30_8 + 1)))) (
 ck (IR (x30_8 + 1)) <|
 some (.next (time13_8, (x30_8 + 1))))) (
 some (.brk (time13_8, x30_8)))
noncomputable def sched_early_L4 (t : Tgt) (pace : Int) (m5n_7 : List ((Int × Int) × Int)) (x24 : Int) : Int → Option (Stp (Int) (Empty)) := fun time13_9 =>
 ck (pace ≠ 0) <|
 ck (IX x24 3) <|
 br (decide ((mget m5n_7 ((Int.tmod time13_9 pace), x24) 0) ≥ (sel3 t.u0 t.u1 t.u2 x24))) (
 ck (IR (time13_9 + 1)) <|
 some (.next (time13_9 + 1))) (
 some (.brk time13_9))
noncomputable def sched_early_L0 (l : Lp) (t : Tgt) (pace : Int) (edges : List Edg) : ((List Int) × (List ((Int × Int) × Int)) × Int) → Option (Stp ((List Int) × (List ((Int × Int) × Int)) × Int) (Empty)) := fun (v6_7, m5n_7, x23_7) =>
 br (decide (x23_7 < (ln l.body))) (
 ck (IX x23_7 (ln l.body)) <|
 bd (lp (sched_early_L2 pace edges v6_7 x23_7) (0, 0)) fun o19 => o19.on (fun (time13_8, x30_8) =>
 bd (num_Class_m ((ele l.body x23_7).op)) fun x24 =>
 bd (lp (sched_early_L4 t pace m5n_7 x24) time13_8) fun o27 => o27.on (fun time13_9 =>
 ck (pace ≠ 0) <|
 ck (IR ((mget m5n_7 ((Int.tmod time13_9 pace), x24) 0) + 1)) <|
 ck (AL (v6_7 ++ [time13_9]).length 8) <|
 ck (IR (x23_7 + 1)) <|
 some (.next ((v6_7 ++ [time13_9]), (mput m5n_7 ((Int.tmod time13_9 pace), x24) ((mget m5n_7 ((Int.tmod time13_9 pace), x24) 0) + 1)), (x23_7 + 1)))) (fun r => r.elim)) (fun r => r.elim)) (
 some (.brk (v6_7, m5n_7, x23_7)))
noncomputable def sched_early_m (l : Lp) (t : Tgt) (pace : Int) (edges : List Edg) : Option (Pln) :=
 bd (lp (sched_early_L0 l t pace edges) ([], ([] : List ((Int × Int) × Int)), 0)) fun o7 => o7.on (fun (v6_7, m5n_7, x23_7) =>
 some (Pln.mk pace v6_7)) (fun r => r.elim)

noncomputable def sched_straight_L0 (l : Lp) (t : Tgt) : ((List Int) × Int × Int) → Option (Stp ((List Int) × Int × Int) (Empty)) := fun (v5_1, time9_1, x17_1) =>
 br (decide (x17_1 < (ln l.body))) (
 ck (IX x17_1 (ln l.body)) <|
 ck (AL (v5_1 ++ [time9_1]).length 8) <|
 bd (target_Wait_m t ((ele l.body x17_1).op)) fun x23 =>
 ck (IR (time9_1 + x23)) <|
 ck (IR (x17_1 + 1)) <|
 some (.next ((v5_1 ++ [time9_1]), (time9_1 + x23), (x17_1 + 1)))) (
 some (.brk (v5_1, time9_1, x17_1)))
noncomputable def sched_straight_m (l : Lp) (t : Tgt) (pace : Int) : Option (Pln × Int) :=
 bd (lp (sched_straight_L0 l t) ([], 0, 0)) fun o6 => o6.on (fun (v5_1, time9_1, x17_1) =>
 some ((Pln.mk pace v5_1), time9_1)) (fun r => r.elim)

noncomputable def sched_Make_L1 (l : Lp) (t : Tgt) (least : Int) (x4 : List Edg × Int) (x17 : Pln × Int) : Int → Option (Stp (Int) (Pln × Int)) := fun pace15_1 =>
 ck (IR (least + 1)) <|
 br (decide (pace15_1 < (max (least + 1) x17.2))) (
 bd (sched_early_m l t pace15_1 x4.1) fun x31 =>
 bd (sched_fits_m l t x31 x4.1) fun x36 =>
 br x36 (
 some (.ret (x31, 0))) (
 ck (IR (pace15_1 + 1)) <|
 some (.next (pace15_1 + 1)))) (
 some (.brk pace15_1))
noncomputable def sched_Make_m (l : Lp) (t : Tgt) (least : Int) : Option (Pln × Int) :=
 bd (dep_Edges_m l t) fun x4 =>
 br (x4.2 != 0) (
 some ((Pln.mk 0 []), x4.2)) (
 br ((decide (least < 1)) || (decide (least > 200))) (
 some ((Pln.mk 0 []), 3)) (
 bd (bound_Bound_m l t) fun x14 =>
 bd (sched_straight_m l t 1) fun x17 =>
 bd (lp (sched_Make_L1 l t least x4 x17) (max (max least x14.1) x14.2.1)) fun o22 => o22.on (fun pace15_1 =>
 bd (sched_straight_m l t (max least x17.2)) fun x27 =>
 some (x27.1, 0)) (fun r => some r)))
end Go.Rd
end

section
namespace Go.Rd
set_option linter.unusedVariables false
def straV (l : Lp) (t : Tgt) (pace : Int) : Pln := ⟨pace, (List.range l.body.length).map (preW l t)⟩
theorem straight_s {l : Lp} (hl : LoopOk l) {t : Tgt} (ht : tgtOk t = true) (pace : Int) : sched_straight_m l t pace = some (straV l t pace, allW l t) := by
  have hn := hl.2.2.1
  have := lp_det (f := sched_straight_L0 l t) (ρ := Empty) (fun k => ((List.range k).map (preW l t), preW l t k, (k : Int))) l.body.length (fun k hk => by
    have hb := preW_bd (l := l) ht k
    have hw := wait_pos ht (ele l.body (k : Int)).op
    unfold sched_straight_L0
    simp only
    rw [br_T (by unfold ln; omega), ck_IX (by omega) (by unfold ln; omega), ck_yes (AL8 (by simp; omega)), target_Wait_s, bd_ret, ck_IR (by omega) (by omega), ck_IR (by omega) (by omega), rm_succ (g := preW l t)]
    rfl) (by unfold sched_straight_L0; exact br_F (by unfold ln; omega))
  unfold sched_straight_m
  rw [show lp (sched_straight_L0 l t) ([], 0, 0) = _ from this, bd_ret, Out.on_go]
  rfl
theorem all_s {l : Lp} (hl : LoopOk l) {t : Tgt} (ht : tgtOk t = true) : roundelayref8_All_m l t = some (allW l t) := by
  have hn := hl.2.2.1
  have := lp_det (f := roundelayref8_All_L0 l t) (ρ := Empty) (fun k => (preW l t k, (k : Int))) l.body.length (fun k hk => by
    have hb := preW_bd (l := l) ht k
    have hw := wait_pos ht (ele l.body (k : Int)).op
    unfold roundelayref8_All_L0
    simp only
    rw [br_T (by unfold ln; omega), ck_IX (by omega) (by unfold ln; omega), ref_Wait_s, bd_ret, ck_IR (by omega) (by omega), ck_IR (by omega) (by omega)]
    rfl) (by unfold roundelayref8_All_L0; exact br_F (by unfold ln; omega))
  unfold roundelayref8_All_m
  rw [show lp (roundelayref8_All_L0 l t) (0, 0) = _ from this, bd_ret, Out.on_go]
  rfl
theorem cntK_one {l : Lp} {p : Pln} {n : Nat} (h : ∀ i j, i < n → j < n → i ≠ j → keyK l p i ≠ keyK l p j) (κ : Int × Int) : ∀ k, k ≤ n → cntK l p k κ ≤ 1
  | 0, _ => Nat.zero_le _
  | k + 1, hk => by
    rw [cntK_succ]
    have ih := cntK_one h κ k (by omega)
    by_cases e : keyK l p k = κ
    · rw [if_pos e]
      have : cntK l p k κ = 0 := by
        unfold cntK
        rw [List.countP_eq_zero]
        intro j hj
        have hj' := List.mem_range.1 hj
        simp only [decide_eq_true_eq]
        exact fun hh => h j k (by omega) (by omega) (by omega) (hh.trans e.symm)
      omega
    · rw [if_neg e]; omega
theorem allW_bd {l : Lp} (hl : LoopOk l) {t : Tgt} (ht : tgtOk t = true) : 1 ≤ allW l t ∧ allW l t ≤ 96 := by
  have := preW_bd (l := l) ht l.body.length
  have h1 := hl.2.1; have h2 := hl.2.2.1
  unfold allW
  omega
theorem straight_legal {l : Lp} (hl : LoopOk l) {t : Tgt} (ht : tgtOk t = true) {pace : Int} (hp : allW l t ≤ pace) (hp2 : pace ≤ 200) : LegalP l t (straV l t pace) := by
  have hab := allW_bd hl ht
  have hat : ∀ i : Nat, i < l.body.length → ele (straV l t pace).times (i : Int) = preW l t i ∧ 0 ≤ preW l t i ∧ preW l t i < pace := fun i hi => by
    have h1 := preW_bd (l := l) ht i
    have h2 := preW_mono (l := l) ht (show i ≤ l.body.length by omega)
    unfold allW at hp
    exact ⟨ele_rm hi, by omega, by omega⟩
  have hkey : ∀ i j : Nat, i < l.body.length → j < l.body.length → i < j → keyK l (straV l t pace) i ≠ keyK l (straV l t pace) j := fun i j hi hj hij hh => by
    have h1 := hat i hi; have h2 := hat j hj
    unfold keyK at hh
    have h3 := (Prod.mk.inj hh).1
    rw [h1.1, h2.1, show (straV l t pace).pace = pace from rfl, Int.tmod_eq_of_lt h1.2.1 h1.2.2, Int.tmod_eq_of_lt h2.2.1 h2.2.2] at h3
    have := preW_mono (l := l) ht (show i ≤ j by omega)
    omega
  refine ⟨hl, ht, ⟨by show 1 ≤ pace; omega, hp2⟩, by unfold straV; simp, fun i hi => ?_, fun i hi => ?_, fun e he => ?_⟩
  · have h1 := hat i hi
    have hb := preW_bd (l := l) ht i
    have hn := hl.2.2.1
    unfold RngP
    rw [h1.1]
    omega
  · have h1 := cntK_one (l := l) (p := straV l t pace) (n := l.body.length) (fun i j hi hj hij hh => by
      rcases Nat.lt_or_gt_of_ne hij with h | h
      · exact hkey i j hi hj h hh
      · exact hkey j i hj hi h hh.symm) (keyK l (straV l t pace) i) l.body.length (Nat.le_refl _)
    have h2 := units_bd ht (keyK l (straV l t pace) i).2
    omega
  · have hin := he.in hl
    have hf := hin.fr; have htt := hin.to
    have h1 := straight_edge hl ht hp he
    unfold EdgOk
    have e1 := (hat e.fr.toNat (by omega)).1
    have e2 := (hat e.to.toNat (by omega)).1
    rw [show ((e.fr.toNat : Nat) : Int) = e.fr from by omega] at e1
    rw [show ((e.to.toNat : Nat) : Int) = e.to from by omega] at e2
    rw [e1, e2, show (straV l t pace).pace = pace from rfl, Int.mul_comm]
    omega
theorem ele_snoc {α : Type} [Inhabited α] {v : List α} {x : α} {j : Nat} (h : j < v.length) : ele (v ++ [x]) (j : Int) = ele v (j : Int) := by
  rw [ele_nat, ele_nat, List.getD_eq_getElem?_getD, List.getD_eq_getElem?_getD, List.getElem?_append_left h]
theorem ele_last {α : Type} [Inhabited α] {v : List α} {x : α} : ele (v ++ [x]) (v.length : Int) = x := by
  rw [ele_nat, List.getD_eq_getElem?_getD]; simp
theorem keyK_snoc {l : Lp} {pace : Int} {v : List Int} {x : Int} {j : Nat} (h : j < v.length) : keyK l ⟨pace, v ++ [x]⟩ j = keyK l ⟨pace, v⟩ j := by
  unfold keyK; rw [show (Pln.mk pace (v ++ [x])).times = v ++ [x] from rfl, ele_snoc h]
theorem cntK_snoc {l : Lp} {pace : Int} {v : List Int} {x : Int} (κ : Int × Int) : ∀ k : Nat, k ≤ v.length → cntK l ⟨pace, v ++ [x]⟩ k κ = cntK l ⟨pace, v⟩ k κ
  | 0, _ => rfl
  | k + 1, h => by rw [cntK_succ, cntK_succ, cntK_snoc κ k (by omega), keyK_snoc (by omega)]
theorem slot_free {l : Lp} {t : Tgt} (hl : LoopOk l) (ht : tgtOk t = true) {pace : Nat} (hp : 1 ≤ pace) (hu : uB l t 3 ≤ pace) {v : List Int} {k : Nat} (hv : v.length = k) (hk : k < l.body.length) (hpos : ∀ j : Nat, j < k → 0 ≤ ele v (j : Int)) (s : Nat) :
    ∃ m : Nat, s ≤ m ∧ m < s + pace ∧ ¬ ((cntK l ⟨pace, v⟩ k (Int.tmod (m : Int) pace, clsV (ele l.body (k : Int)).op) : Int) ≥ unitsV t (clsV (ele l.body (k : Int)).op)) := by
  have hc := clsV_range (ele l.body (k : Int)).op
  generalize hcc : clsV (ele l.body (k : Int)).op = c at *
  have hub := units_bd ht c
  have hn := hl.2.2.1
  have h1 : cdV (cntC l l.body.length c) (unitsV t c) ≤ pace := by
    have a0 : uB l t 3 = max (max (max 1 (cdV (cntC l l.body.length (0 : Nat)) (unitsV t (0 : Nat)))) (cdV (cntC l l.body.length (1 : Nat)) (unitsV t (1 : Nat)))) (cdV (cntC l l.body.length (2 : Nat)) (unitsV t (2 : Nat))) := rfl
    obtain h | h | h : c = ((0 : Nat) : Int) ∨ c = ((1 : Nat) : Int) ∨ c = ((2 : Nat) : Int) := by omega
    all_goals rw [h]; omega
  rw [cdV_le (by omega) hub.1 hub.2] at h1
  have h2 : cntC l k c + 1 ≤ cntC l l.body.length c := by
    have e1 : cntC l (k + 1) c = cntC l k c + 1 := by rw [cntC_succ, if_pos hcc]
    have mono : ∀ a b, a ≤ b → cntC l a c ≤ cntC l b c := fun a b hab => by
      induction b with
      | zero => have : a = 0 := by omega
                subst this; exact Nat.le_refl _
      | succ b ih =>
        by_cases e : a = b + 1
        · subst e; exact Nat.le_refl _
        · rw [cntC_succ]; have := ih (by omega); omega
    have := mono (k + 1) l.body.length (by omega)
    omega
  obtain ⟨u, hu'⟩ := Int.eq_ofNat_of_zero_le (show 0 ≤ unitsV t c by omega)
  have hsum := slots_sum (l := l) (p := ⟨pace, v⟩) (P := pace) rfl hp c k hpos
  by_cases hall : ∀ s, s < pace → u ≤ cntK l ⟨pace, v⟩ k ((s : Int), c)
  · exfalso
    have hge : ∀ (g : Nat → Nat) n, (∀ s, s < n → u ≤ g s) → n * u ≤ sumR g n := fun g n => by
      induction n with
      | zero => intro _; show 0 * u ≤ 0; omega
      | succ n ih =>
        intro h
        have := ih fun s hs => h s (by omega)
        have h3 := h n (by omega)
        show (n + 1) * u ≤ sumR g n + g n
        rw [Nat.succ_mul]; omega
    have := hge _ pace hall
    rw [hsum] at this
    rw [hu'] at h1
    have h4 : (cntC l l.body.length c) ≤ pace * u := by exact_mod_cast h1
    omega
  · obtain ⟨s0, hs0⟩ := Classical.not_forall.1 hall
    obtain ⟨hs1, hs2⟩ := Classical.not_imp.1 hs0
    have hm0 := Int.emod_nonneg ((s0 : Int) - s) (show (pace : Int) ≠ 0 by omega)
    have hm1 := Int.emod_lt_of_pos ((s0 : Int) - s) (show (0 : Int) < pace by omega)
    have hm2 : ((s : Int) + ((s0 : Int) - s) % pace) % pace = s0 := by
      rw [Int.add_emod_emod, show (s : Int) + ((s0 : Int) - s) = s0 from by omega, Int.emod_eq_of_lt (by omega) (by omega)]
    obtain ⟨d, hd⟩ := Int.eq_ofNat_of_zero_le hm0
    refine ⟨s + d, by omega, by omega, ?_⟩
    rw [Int.tmod_eq_emod_of_nonneg (by omega), show (((s + d : Nat) : Nat) : Int) = (s : Int) + ((s0 : Int) - s) % pace from by omega, hm2, hu']
    omega
theorem early_s {l : Lp} {t : Tgt} (hl : LoopOk l) (ht : tgtOk t = true) {E : List Edg} (hE : ∀ e ∈ E, EdgeIn l.body.length e) (hEl : E.length ≤ 60000) {pace : Nat} (hp : 1 ≤ pace) (hp2 : pace ≤ 200) (hu : uB l t 3 ≤ pace) :
    ∃ v, sched_early_m l t pace E = some ⟨pace, v⟩ ∧ v.length = l.body.length := by
  have hn := hl.2.2.1
  have X := lp_invM (ρ := Empty) (f := sched_early_L0 l t pace E) (n := l.body.length) (fun (g : List Int × List ((Int × Int) × Int)) i => (g.1, g.2, i))
    (fun k g => g.1.length = k ∧ (∀ j : Nat, j < k → 0 ≤ ele g.1 (j : Int) ∧ ele g.1 (j : Int) ≤ 206 * k) ∧ ∀ κ, mget g.2 κ 0 = (cntK l ⟨pace, g.1⟩ k κ : Int)) (fun k g hk hg => ?_) (fun g => by
      unfold sched_early_L0; exact br_F (by unfold ln; omega)) ([], []) ⟨rfl, fun j hj => absurd hj (Nat.not_lt_zero _), fun κ => rfl⟩
  · obtain ⟨g, e, h1, _⟩ := X
    unfold sched_early_m
    rw [show lp (sched_early_L0 l t pace E) ([], [], 0) = _ from e, bd_ret, Out.on_go]
    exact ⟨_, rfl, h1⟩
  · obtain ⟨v, m⟩ := g
    obtain ⟨h1, h2, h3⟩ := hg
    simp only at h1 h2 h3
    have hc := clsV_range (ele l.body (k : Int)).op
    have Y := lp_inv (f := sched_early_L2 pace E v k) (ρ := Empty) (n := E.length) (fun _ g => 0 ≤ g ∧ g ≤ 206 * (k : Int) + 6) (fun i g hi hg => by
      have hin := hE _ (ele_mem' hi)
      have hw := wt_bd hin (pace := pace) (by omega)
      have hw2 := hin.wt
      unfold sched_early_L2
      simp only
      rw [br_T (by unfold ln; omega), ck_IX (by omega) (by unfold ln; omega)]
      by_cases hq : (ele E (i : Int)).to = k ∧ (ele E (i : Int)).fr < k
      · have hfr := hin.fr
        have hv := h2 (ele E (i : Int)).fr.toNat (by omega)
        rw [show (((ele E (i : Int)).fr.toNat : Nat) : Int) = (ele E (i : Int)).fr from by omega] at hv
        rw [show ((ele E (i : Int)).to == (k : Int) && decide ((ele E (i : Int)).fr < (k : Int))) = true from by simp [hq], br_true, ck_IX (by omega) (by unfold ln; omega), ck_IR (by omega) (by omega), ck_IR (by omega) (by omega), ck_IR (by omega) (by omega), ck_IR (by omega) (by omega)]
        exact ⟨_, rfl, by omega⟩
      · rw [show ((ele E (i : Int)).to == (k : Int) && decide ((ele E (i : Int)).fr < (k : Int))) = false from by
          rw [Bool.and_eq_false_iff, beq_eq_false_iff_ne, decide_eq_false_iff_not]; omega, br_false, ck_IR (by omega) (by omega)]
        exact ⟨_, rfl, hg⟩) (fun g => by unfold sched_early_L2; exact br_F (by unfold ln; omega)) 0 (by omega)
    obtain ⟨tm, e1, e2⟩ := Y
    obtain ⟨s, rfl⟩ := Int.eq_ofNat_of_zero_le e2.1
    obtain ⟨m0, f1, f2, f3⟩ := slot_free hl ht hp hu h1 hk (fun j hj => (h2 j hj).1) s
    obtain ⟨x, g1, g2, g3, g4, g5⟩ := lp_first (f := sched_early_L4 t pace m (clsV (ele l.body (k : Int)).op)) (ρ := Empty) (m := m0) (lo := 0) (p := fun i => ¬ ((cntK l ⟨pace, v⟩ k (Int.tmod (i : Int) pace, clsV (ele l.body (k : Int)).op) : Int) ≥ unitsV t (clsV (ele l.body (k : Int)).op))) (fun i _ hi => by
      unfold sched_early_L4
      rw [ck_yes (by omega), ck_IX hc.1 hc.2, h3]
      exact ⟨fun h => br_F h, fun h => by rw [show sel3 t.u0 t.u1 t.u2 (clsV (ele l.body (k : Int)).op) = unitsV t (clsV (ele l.body (k : Int)).op) from rfl, br_T (Classical.not_not.1 h), ck_IR (by omega) (by omega)]⟩) f3 (m0 - s) s (by omega) (by omega)
    have hcl := cntK_le l ⟨pace, v⟩ (Int.tmod (x : Int) pace, clsV (ele l.body (k : Int)).op) k
    have hkey : keyK l ⟨pace, v ++ [(x : Int)]⟩ k = (Int.tmod (x : Int) pace, clsV (ele l.body (k : Int)).op) := by
      unfold keyK
      rw [show (Pln.mk (pace : Int) (v ++ [(x : Int)])).times = v ++ [(x : Int)] from rfl, ← h1, ele_last]
    unfold sched_early_L0
    simp only
    rw [br_T (by unfold ln; omega), ck_IX (by omega) (by unfold ln; omega), e1, bd_ret, Out.on_go]
    simp only
    rw [num_Class_s, bd_ret, g5, bd_ret, Out.on_go, ck_yes (by omega), h3, ck_IR (by omega) (by omega), ck_yes (AL8 (by simp; omega)), ck_IR (by omega) (by omega)]
    refine ⟨(v ++ [(x : Int)], _), rfl, by simp [h1], fun j hj => ?_, fun κ => ?_⟩
    · by_cases e : j = k
      · subst e
        show 0 ≤ ele (v ++ [(x : Int)]) (j : Int) ∧ _
        rw [show ele (v ++ [(x : Int)]) (j : Int) = x from by rw [← h1]; exact ele_last]
        omega
      · have := h2 j (by omega)
        show 0 ≤ ele (v ++ [(x : Int)]) (j : Int) ∧ _
        rw [ele_snoc (by omega)]
        omega
    · show mget (mput _ _ _) κ 0 = (cntK l ⟨pace, v ++ [(x : Int)]⟩ (k + 1) κ : Int)
      rw [mget_mput, cntK_succ, hkey, cntK_snoc κ k (by omega)]
      by_cases e : (Int.tmod (x : Int) pace, clsV (ele l.body (k : Int)).op) = κ
      · rw [if_pos e, if_pos e, e]; rfl
      · rw [if_neg e, if_neg e, h3]; rfl
end Go.Rd
end

section
namespace Go.Rd
set_option linter.unusedVariables false
noncomputable def roundelaylaw_SchedMakes_m (l : Lp) (t : Tgt) (least : Int) : Option (Bool) :=
 bd (sched_Make_m l t least) fun x3 =>
 bd (roundelayref6_May_m l t) fun x8 =>
 br (!x8) (
 some (((x3.2 == 2) && (x3.1.pace == 0)) && ((ln x3.1.times) == 0))) (
 br ((decide (least < 1)) || (decide (least > 200))) (
 some (((x3.2 == 3) && (x3.1.pace == 0)) && ((ln x3.1.times) == 0))) (
 bdG (x3.2 == 0) (roundelayref8_Legal_m l t x3.1) fun x17 =>
 bdG (((x3.2 == 0) && x17) && (decide (x3.1.pace ≥ least))) (roundelayref8_All_m l t) fun x20 =>
 some ((((x3.2 == 0) && x17) && (decide (x3.1.pace ≥ least))) && (decide (x3.1.pace ≤ (max least x20))))))
end Go.Rd
end

section
namespace Go.Rd
set_option linter.unusedVariables false
theorem Make_s {l : Lp} (hf : l.Fine) (hl : LoopOk l) {t : Tgt} (ht : tgtOk t = true) {least : Int} (h1 : 1 ≤ least) (h2 : least ≤ 200) : ∃ p, sched_Make_m l t least = some (p, 0) ∧ LegalP l t p ∧ least ≤ p.pace ∧ p.pace ≤ max least (allW l t) := by
  obtain ⟨E, e1, e2, e3, e4, e5⟩ := edges_both hl hf ht
  obtain ⟨L, b1, b2, b3, b4, b5⟩ := Bound_s hl ht e1 e4 e5
  have hn := hl.2.2.1
  have hu := uB_bd (l := l) hn ht 3
  have ha := allW_bd hl ht
  have hin : ∀ e ∈ E, EdgeIn l.body.length e := fun e he => ((e4 e).1 he).in hl
  unfold sched_Make_m
  rw [e1, bd_ret, show (((E, (0 : Int)) : List Edg × Int).2 != 0) = false from rfl, br_false, show (decide (least < 1) || decide (least > 200)) = false from by simp; omega, br_false, b5, bd_ret, straight_s hl ht, bd_ret]
  obtain ⟨M, hM⟩ := Int.eq_ofNat_of_zero_le (show 0 ≤ max (max least (uB l t 3)) (L : Int) by omega)
  obtain ⟨B, hB⟩ := Int.eq_ofNat_of_zero_le (show 0 ≤ max (least + 1) (allW l t) by omega)
  have hstep : ∀ i : Nat, M ≤ i → (i : Int) < max (least + 1) (allW l t) → ∃ v : List Int, sched_early_m l t (i : Int) E = some ⟨i, v⟩ ∧ v.length = l.body.length ∧ sched_fits_m l t ⟨i, v⟩ E = some (tb (FitP l t ⟨i, v⟩)) := fun i hi hb => by
    obtain ⟨v, c1, c2⟩ := early_s hl ht hin e5 (pace := i) (by omega) (by omega) (by omega)
    exact ⟨v, c1, c2, fits_s hl ht ⟨by show (1 : Int) ≤ i; omega, by show (i : Int) ≤ 200; omega⟩ c2 e4 e5⟩
  simp only
  rw [hM]
  rcases lp_scan (f := sched_Make_L1 l t least (E, 0) (straV l t 1, allW l t)) (n := max M B) (p := fun i => ¬ FitP l t ((sched_early_m l t (i : Int) E).getD default)) (fun i => ((sched_early_m l t (i : Int) E).getD default, (0 : Int))) (max M B - M) M (by omega) (fun i hi hb => by
      obtain ⟨v, c1, c2, c3⟩ := hstep i hi (by omega)
      unfold sched_Make_L1
      rw [ck_IR (by omega) (by omega), br_T (by simp only; omega)]
      simp only
      rw [c1, bd_ret, c3, bd_ret]
      exact ⟨fun h => by rw [tb_f (p := FitP l t ⟨i, v⟩) h, br_false, ck_IR (by omega) (by omega)], fun h => by rw [tb_t (p := FitP l t ⟨i, v⟩) (Classical.not_not.1 h), br_true]; rfl⟩) (by
      unfold sched_Make_L1
      rw [ck_IR (by omega) (by omega), br_F (by simp only; omega)]) with ⟨q1, q2⟩ | ⟨i, q1, q2, q3, _, q4⟩
  · rw [q2, bd_ret, Out.on_go]
    rw [straight_s hl ht, bd_ret]
    exact ⟨_, rfl, straight_legal hl ht (by omega) (by omega), by show least ≤ max least _; omega, Int.le_refl _⟩
  · rw [q4, bd_ret, Out.on_ret]
    obtain ⟨v, c1, c2, c3⟩ := hstep i q1 (by omega)
    refine ⟨_, rfl, ?_⟩
    have q5 := Classical.not_not.1 q3
    rw [c1] at q5 ⊢
    simp only [Option.getD_some] at q5 ⊢
    exact ⟨legal_iff.2 ⟨⟨hl, ht⟩, ⟨by show (1 : Int) ≤ i; omega, by show (i : Int) ≤ 200; omega⟩, c2, q5⟩, by show least ≤ (i : Int); omega, by show (i : Int) ≤ _; omega⟩
theorem SchedMakes_true (l : Lp) (t : Tgt) (least : Int) {w : World} {v1 v2 v3 : Value} (hL : LpRep w v1 v2 v3 l) (hr0 : InR least) : roundelaylaw_SchedMakes_m l t least = some true := by
  have hf := hL.fine
  unfold roundelaylaw_SchedMakes_m
  by_cases h : LoopOk l ∧ tgtOk t = true
  · by_cases hr : 1 ≤ least ∧ least ≤ 200
    · obtain ⟨p, h1, h2, h3, h4⟩ := Make_s hf h.1 h.2 hr.1 hr.2
      rw [h1, bd_ret, rMay_s hf, bd_ret, tb_t h, Bool.not_true, br_false, show (decide (least < 1) || decide (least > 200)) = false from by simp; omega, br_false]
      simp only [beq_self_eq_true, bdG_t, Bool.true_and]
      rw [rLegal_s hf, bd_ret, tb_t h2, decide_eq_true (show p.pace ≥ least from h3)]
      simp only [Bool.and_self, bdG_t]
      rw [all_s h.1 h.2, bd_ret, decide_eq_true h4]
      rfl
    · have hc : (decide (least < 1) || decide (least > 200)) = true := by
        rw [Bool.or_eq_true, decide_eq_true_eq, decide_eq_true_eq]; omega
      obtain ⟨E, e1, _⟩ := edges_both h.1 hf h.2
      have : sched_Make_m l t least = some (⟨0, []⟩, 3) := by
        unfold sched_Make_m
        rw [e1, bd_ret, show (((E, (0 : Int)) : List Edg × Int).2 != 0) = false from rfl, br_false, hc, br_true]
      rw [this, bd_ret, rMay_s hf, bd_ret, tb_t h, Bool.not_true, br_false, hc, br_true]
      rfl
  · have : sched_Make_m l t least = some (⟨0, []⟩, 2) := by
      unfold sched_Make_m
      rw [Edges_bad hf h, bd_ret, show ((([], (2 : Int)) : List Edg × Int).2 != 0) = true from rfl, br_true]
    rw [this, bd_ret, rMay_s hf, bd_ret, tb_f h, Bool.not_false, br_true]
    rfl
end Go.Rd
end
