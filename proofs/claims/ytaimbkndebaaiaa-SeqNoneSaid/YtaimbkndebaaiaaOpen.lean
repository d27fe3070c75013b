/- Arguments that are read: kernels, plans, bytes, strings, rows. -/
import Derived.Test.YtaimbkndebaaiaaArgs
import Derived.Test.YtaimbkndebaaiaaPl
import Derived.ChangeMaps5
namespace Go.Rd
open Go.RowKit Go.ChangeShapes Go.WideShapes Go.ChangeAt
set_option linter.unusedVariables false
set_option linter.unusedSimpArgs false
section
variable {H : Type} {enc : TypeId × Value → H} {P : Program} {w : World} {base : Nat} {spare : Nat → Bool} {held : Bool}
theorem trod_one {t : TypeId} {v : Value} {a : Option Addr} {l c : Nat} {d : DataW H} {ps : List MemPlace} (h : DataW.Trod enc P w base spare held t (.slice a l c) d ps) : ∃ fuel x, DataW.trod enc P w base spare held fuel t [.slice a l c] = some x := by
  obtain ⟨fuel, hf⟩ := h
  exact ⟨fuel, _, hf⟩
theorem bytes_arg {fuel : Nat} {t e : TypeId} {v : Value} {x : DataW H × List MemPlace} (ht : P.underlying t = some (.slice e)) (he : P.underlying e = some (.int .u8)) (hsz : P.cellsOf e = 1) (hx : DataW.trod enc P w base spare held fuel t [v] = some x) :
    ∃ bs : List UInt8, Arr w v 1 (bs.map bcell) ∧ bs.length ≤ maxLen := by
  obtain ⟨bs, h1, _, h3⟩ := slice_list bcell (fun _ => True) ht hsz hx fun fuel' es y h => by
    obtain ⟨n, rfl, _, hw⟩ := DataW.trod_int he h
    refine ⟨bt n, ?_, trivial⟩
    have : 0 ≤ n ∧ n < 256 := by
      simp [Lit.wf, IntKind.min, IntKind.max, IntKind.signed, IntKind.bits] at hw
      omega
    unfold bcell
    rw [bt_nat, Int.emod_eq_of_lt this.1 this.2]
  exact ⟨bs, h1, h3⟩
theorem wf_u16 {n : Int} (h : (Lit.int .u16 n).wf = true) : 0 ≤ n ∧ n ≤ 65535 := by
  simp [Lit.wf, IntKind.min, IntKind.max, IntKind.signed, IntKind.bits] at h
  omega
theorem str_arg {s : ByteArray} (h : s.size ≤ maxLen) : ∃ l : List UInt8, Value.string s = strV l ∧ l.length ≤ maxLen := ⟨s.data.toList, by simp [strV], by simpa using h⟩
def Opr.InRo (o : Opr) : Prop := ∀ x ∈ [o.slot, o.stage, o.op, o.dest, o.a, o.b, o.ar, o.sp, o.pl, o.n], InR x
theorem oprs_arg {fuel : Nat} {t e : TypeId} {v : Value} {x : DataW H × List MemPlace} (ht : P.underlying t = some (.slice e)) (he : flatT P 6 e = true) (hsz : P.cellsOf e = 10) (hx : DataW.trod enc P w base spare held fuel t [v] = some x) :
    ∃ xs : List Opr, Arr w v 10 (xs.map Opr.cells) ∧ (∀ u ∈ xs, u.InRo) ∧ xs.length ≤ maxLen :=
  slice_list Opr.cells Opr.InRo ht hsz hx fun fuel' es y h => by
    obtain ⟨ns, rfl, hl, hr⟩ := trod_flat he h
    rw [hsz] at hl
    match ns, hl with
    | [a, b, c, d, e, f, g, i, j, k], _ => exact ⟨⟨a, b, c, d, e, f, g, i, j, k⟩, rfl, hr⟩
structure KrnRep (w : World) (v : Value) (k : Krn) : Prop where
  ops : Arr w v 10 (k.ops.map Opr.cells)
  pace : InR k.pace
  stages : InR k.stages
  rops : ∀ o ∈ k.ops, o.InRo
  len : k.ops.length ≤ maxLen
theorem int_one {fuel : Nat} {t : TypeId} {cs : List Value} {x : DataW H × List MemPlace} (ht : P.underlying t = some (.int .i64)) (hx : DataW.trod enc P w base spare held fuel t cs = some x) : ∃ n, cs = [.int .i64 n] ∧ InR n := by
  obtain ⟨n, h, _, hw⟩ := DataW.trod_int ht hx
  exact ⟨n, h, wf_i64 hw⟩
theorem krn_arg {fuel : Nat} {t ti t2 e2 : TypeId} {fs : Array Field} {cs : List Value} {x : DataW H × List MemPlace} (ht : P.underlying t = some (.struct fs)) (hl : fs.toList.map (fun f => (f.type, f.offset)) = [(ti, 0), (ti, 1), (t2, 2)])
    (hi : P.underlying ti = some (.int .i64)) (h2 : P.underlying t2 = some (.slice e2)) (hf2 : flatT P 6 e2 = true) (hz : P.cellsOf t = 3 ∧ P.cellsOf ti = 1 ∧ P.cellsOf t2 = 1 ∧ P.cellsOf e2 = 10)
    (hx : DataW.trod enc P w base spare held fuel t cs = some x) : ∃ v k, cs = [.int .i64 k.pace, .int .i64 k.stages, v] ∧ KrnRep w v k := by
  obtain ⟨z0, z1, z2, z3⟩ := hz
  have hlen := (trod_struct ht hx).1
  rw [z0] at hlen
  obtain ⟨_, _, g1⟩ := struct_at ht hl hx ti 0 (by simp)
  obtain ⟨_, _, g2⟩ := struct_at ht hl hx ti 1 (by simp)
  obtain ⟨_, _, g3⟩ := struct_at ht hl hx t2 2 (by simp)
  match cs, hlen with
  | [v1, v2, v3], _ =>
    rw [z1] at g1 g2
    rw [z2] at g3
    obtain ⟨p, hp, rp⟩ := int_one hi g1
    obtain ⟨q, hq, rq⟩ := int_one hi g2
    obtain ⟨ops, a, b, c⟩ := oprs_arg h2 hf2 z3 g3
    simp at hp hq
    subst hp; subst hq
    exact ⟨v3, ⟨p, q, ops⟩, rfl, a, rp, rq, b, c⟩
structure PlnRep (w : World) (v : Value) (k : Pln) : Prop where
  times : Arr w v 1 (k.times.map icell)
  pace : InR k.pace
  rtimes : ∀ o ∈ k.times, InR o
  len : k.times.length ≤ maxLen
theorem pln_arg {fuel : Nat} {t ti t2 e2 : TypeId} {fs : Array Field} {cs : List Value} {x : DataW H × List MemPlace} (ht : P.underlying t = some (.struct fs)) (hl : fs.toList.map (fun f => (f.type, f.offset)) = [(ti, 0), (t2, 1)])
    (hi : P.underlying ti = some (.int .i64)) (h2 : P.underlying t2 = some (.slice e2)) (hf2 : flatT P 6 e2 = true) (hz : P.cellsOf t = 2 ∧ P.cellsOf ti = 1 ∧ P.cellsOf t2 = 1 ∧ P.cellsOf e2 = 1)
    (hx : DataW.trod enc P w base spare held fuel t cs = some x) : ∃ v k, cs = [.int .i64 k.pace, v] ∧ PlnRep w v k := by
  obtain ⟨z0, z1, z2, z3⟩ := hz
  have hlen := (trod_struct ht hx).1
  rw [z0] at hlen
  obtain ⟨_, _, g1⟩ := struct_at ht hl hx ti 0 (by simp)
  obtain ⟨_, _, g3⟩ := struct_at ht hl hx t2 1 (by simp)
  match cs, hlen with
  | [v1, v3], _ =>
    rw [z1] at g1
    rw [z2] at g3
    obtain ⟨p, hp, rp⟩ := int_one hi g1
    obtain ⟨ts, a, b, c⟩ := ints_arg h2 hf2 z3 g3
    simp at hp
    subst hp
    exact ⟨v3, ⟨p, ts⟩, rfl, a, rp, b, c⟩
/-- Rows as plain lists. -/
structure RowsOk (xss : List (List Int)) : Prop where
  rng : ∀ xs ∈ xss, ∀ x ∈ xs, InR x
  lens : ∀ xs ∈ xss, xs.length ≤ maxLen
  len : xss.length ≤ maxLen
theorem RowsRep.plain {v : Value} {B : List (Value × List Int)} (h : RowsRep w v B) : RowsA w v (B.map (·.2)) ∧ RowsOk (B.map (·.2)) :=
  ⟨⟨B, rfl, h.rows, h.each⟩, fun xs hx => by obtain ⟨p, hp, rfl⟩ := List.mem_map.1 hx; exact h.rng p hp, fun xs hx => by obtain ⟨p, hp, rfl⟩ := List.mem_map.1 hx; exact h.lens p hp, by rw [List.length_map]; exact h.len⟩
end
end Go.Rd
