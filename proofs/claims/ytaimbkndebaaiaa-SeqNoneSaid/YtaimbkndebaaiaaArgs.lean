/- Arguments that are read: the plain data that they are. -/
import Derived.Test.YtaimbkndebaaiaaLaw
import Derived.Test.YtaimbkndebaaiaaModel
namespace Go.Rd
open Go.RowKit Go.ChangeShapes Go.WideShapes Go.ChangeAt
set_option linter.unusedVariables false
set_option linter.unusedSimpArgs false
section
variable {H : Type} {enc : TypeId × Value → H} {P : Program} {w : World} {base : Nat} {spare : Nat → Bool} {held : Bool}

theorem struct_at {fuel : Nat} {t : TypeId} {fs : Array Field} {cs : List Value} {x : DataW H × List MemPlace} {l : List (TypeId × Nat)} (ht : P.underlying t = some (.struct fs)) (hl : fs.toList.map (fun f => (f.type, f.offset)) = l)
    (h : DataW.trod enc P w base spare held fuel t cs = some x) (t1 : TypeId) (o : Nat) (hm : (t1, o) ∈ l) : ∃ fuel' y, DataW.trod enc P w base spare held fuel' t1 ((cs.drop o).take (P.cellsOf t1)) = some y := by
  subst hl
  obtain ⟨f, hf, he⟩ := List.mem_map.1 hm
  simp only [Prod.mk.injEq] at he
  obtain ⟨rfl, rfl⟩ := he
  exact (trod_struct ht h).2 f hf

theorem ints_arg {fuel : Nat} {t e : TypeId} {v : Value} {x : DataW H × List MemPlace} (ht : P.underlying t = some (.slice e)) (he : flatT P 6 e = true) (hsz : P.cellsOf e = 1) (hx : DataW.trod enc P w base spare held fuel t [v] = some x) :
    ∃ xs : List Int, Arr w v 1 (xs.map icell) ∧ (∀ u ∈ xs, InR u) ∧ xs.length ≤ maxLen :=
  slice_list icell InR ht hsz hx fun fuel' es y h => by
    obtain ⟨ns, rfl, hl, hr⟩ := trod_flat he h
    rw [hsz] at hl
    match ns, hl with
    | [n], _ => exact ⟨n, rfl, hr n (by simp)⟩

theorem stms_arg {fuel : Nat} {t e : TypeId} {v : Value} {x : DataW H × List MemPlace} (ht : P.underlying t = some (.slice e)) (he : flatT P 6 e = true) (hsz : P.cellsOf e = 9) (hx : DataW.trod enc P w base spare held fuel t [v] = some x) :
    ∃ xs : List Stm, Arr w v 9 (xs.map Stm.cells) ∧ (∀ u ∈ xs, u.InR) ∧ xs.length ≤ maxLen :=
  slice_list Stm.cells Stm.InR ht hsz hx fun fuel' es y h => by
    obtain ⟨ns, rfl, hl, hr⟩ := trod_flat he h
    rw [hsz] at hl
    match ns, hl with
    | [a, b, c, d, e, f, g, i, j], _ => exact ⟨⟨a, ⟨b, c⟩, ⟨d, e⟩, f, g, i, j⟩, rfl, by unfold Stm.InR; simp at hr; simp [hr]⟩

theorem one_slice {fuel : Nat} {t e : TypeId} {cs : List Value} {x : DataW H × List MemPlace} (ht : P.underlying t = some (.slice e)) (hx : DataW.trod enc P w base spare held fuel t cs = some x) : ∃ v, cs = [v] := by
  rcases trod_slice ht hx with h | ⟨a, len, cap, f, h, _⟩
  · exact ⟨_, h⟩
  · exact ⟨_, h⟩

theorem rows_arg {fuel : Nat} {t e i : TypeId} {v : Value} {x : DataW H × List MemPlace} (ht : P.underlying t = some (.slice e)) (he : P.underlying e = some (.slice i)) (hi : flatT P 6 i = true) (hs1 : P.cellsOf e = 1) (hs2 : P.cellsOf i = 1)
    (hx : DataW.trod enc P w base spare held fuel t [v] = some x) : ∃ B, RowsRep w v B := by
  obtain ⟨B, h1, h2, h3⟩ := slice_list (α := Value × List Int) vcell (fun p => Arr w p.1 1 (p.2.map icell) ∧ (∀ x ∈ p.2, InR x) ∧ p.2.length ≤ maxLen) ht hs1 hx fun fuel' es y h => by
    obtain ⟨u, rfl⟩ := one_slice he h
    obtain ⟨xs, a, b, c⟩ := ints_arg he hi hs2 h
    exact ⟨(u, xs), rfl, a, b, c⟩
  exact ⟨B, h1, fun p hp => (h2 p hp).1, fun p hp => (h2 p hp).2.1, fun p hp => (h2 p hp).2.2, h3⟩

theorem loop_arg {fuel : Nat} {t t1 t2 e1 e2 : TypeId} {fs : Array Field} {cs : List Value} {x : DataW H × List MemPlace} (ht : P.underlying t = some (.struct fs)) (hl : fs.toList.map (fun f => (f.type, f.offset)) = [(t1, 0), (t2, 1), (t1, 2)])
    (h1 : P.underlying t1 = some (.slice e1)) (h2 : P.underlying t2 = some (.slice e2)) (hf1 : flatT P 6 e1 = true) (hf2 : flatT P 6 e2 = true) (hz : P.cellsOf t = 3 ∧ P.cellsOf t1 = 1 ∧ P.cellsOf t2 = 1 ∧ P.cellsOf e1 = 1 ∧ P.cellsOf e2 = 9)
    (hx : DataW.trod enc P w base spare held fuel t cs = some x) : ∃ v1 v2 v3 l, cs = [v1, v2, v3] ∧ LpRep w v1 v2 v3 l := by
  obtain ⟨z0, z1, z2, z3, z4⟩ := hz
  have hlen := (trod_struct ht hx).1
  rw [z0] at hlen
  obtain ⟨_, _, g1⟩ := struct_at ht hl hx t1 0 (by simp)
  obtain ⟨_, _, g2⟩ := struct_at ht hl hx t2 1 (by simp)
  obtain ⟨_, _, g3⟩ := struct_at ht hl hx t1 2 (by simp)
  match cs, hlen with
  | [v1, v2, v3], _ =>
    rw [z1] at g1 g3
    rw [z2] at g2
    obtain ⟨logs, a1, a2, a3⟩ := ints_arg h1 hf1 z3 g1
    obtain ⟨body, b1, b2, b3⟩ := stms_arg h2 hf2 z4 g2
    obtain ⟨outs, c1, c2, c3⟩ := ints_arg h1 hf1 z3 g3
    exact ⟨v1, v2, v3, ⟨logs, body, outs⟩, rfl, a1, b1, c1, a2, b2, c2, a3, b3, c3⟩

theorem state_arg {fuel : Nat} {t e i j : TypeId} {fs : Array Field} {cs : List Value} {x : DataW H × List MemPlace} (ht : P.underlying t = some (.struct fs)) (hl : fs.toList.map (fun f => (f.type, f.offset)) = [(e, 0), (e, 1)])
    (h1 : P.underlying e = some (.slice i)) (h2 : P.underlying i = some (.slice j)) (hf : flatT P 6 j = true) (hz : P.cellsOf t = 2 ∧ P.cellsOf e = 1 ∧ P.cellsOf i = 1 ∧ P.cellsOf j = 1)
    (hx : DataW.trod enc P w base spare held fuel t cs = some x) : ∃ v4 v5 B M, cs = [v4, v5] ∧ RowsRep w v4 B ∧ RowsRep w v5 M := by
  obtain ⟨z0, z1, z2, z3⟩ := hz
  have hlen := (trod_struct ht hx).1
  rw [z0] at hlen
  obtain ⟨_, _, g1⟩ := struct_at ht hl hx e 0 (by simp)
  obtain ⟨_, _, g2⟩ := struct_at ht hl hx e 1 (by simp)
  match cs, hlen with
  | [v4, v5], _ =>
    rw [z1] at g1 g2
    obtain ⟨B, a⟩ := rows_arg h1 h2 hf z2 z3 g1
    obtain ⟨M, b⟩ := rows_arg h1 h2 hf z2 z3 g2
    exact ⟨v4, v5, B, M, rfl, a, b⟩
end
end Go.Rd
