/- More operations: stores into elements of many cells, results of three, the greatest of three. -/
import Derived.Test.YtaimbkndebaaiabCut
import Derived.Test.YtaimbkndebaaiabMap
namespace Go.Rd
open Go.RowKit
set_option linter.unusedVariables false
set_option linter.unusedSimpArgs false
theorem putL_append : ∀ (vs a c : List Value) (off : Nat), off + vs.length ≤ a.length → putL (a ++ c) off vs = putL a off vs ++ c
  | [], a, c, off, _ => rfl
  | v :: vs, a, c, off, h => by
    simp only [List.length_cons] at h
    unfold putL
    rw [List.set_append_left _ _ (by omega), putL_append vs (a.set off v) c (off + 1) (by simp; omega)]
theorem putL_right : ∀ (vs a c : List Value) (off : Nat), putL (a ++ c) (a.length + off) vs = a ++ putL c off vs
  | [], a, c, off => rfl
  | v :: vs, a, c, off => by
    unfold putL
    rw [List.set_append_right _ _ (by omega), Nat.add_sub_cancel_left, Nat.add_assoc, putL_right vs a (c.set off v) (off + 1)]
theorem putL_flatten {sz : Nat} {vs : List Value} {off : Nat} (hl : off + vs.length ≤ sz) : ∀ {rows : List (List Value)} {i : Nat}, (∀ r ∈ rows, r.length = sz) → i < rows.length → putL rows.flatten (i * sz + off) vs = (rows.set i (putL (rows.getD i []) off vs)).flatten
  | [], i, _, h => by simp at h
  | r :: rows, 0, hr, _ => by
    have := hr r (by simp)
    simp [putL_append vs r rows.flatten off (by omega)]
  | r :: rows, i + 1, hr, h => by
    have h1 := hr r (by simp)
    have ih := putL_flatten (vs := vs) (off := off) hl (rows := rows) (i := i) (fun q hq => hr q (by simp [hq])) (by simpa using h)
    rw [List.flatten_cons, show (i + 1) * sz + off = r.length + (i * sz + off) from by rw [h1, Nat.succ_mul]; omega, putL_right, ih]
    simp
theorem map_set_putL {α : Type} [Inhabited α] {enc : α → List Value} {xs : List α} {i : Nat} {z : α} {off : Nat} {vs : List Value} (hi : i < xs.length) (he : enc z = putL (enc (xs.getD i default)) off vs) : (xs.map enc).set i (putL ((xs.map enc).getD i []) off vs) = (xs.set i z).map enc := by
  have : (xs.map enc).getD i [] = enc (xs.getD i default) := by simp [List.getD_eq_getElem?_getD, List.getElem?_eq_getElem hi]
  rw [this, ← he, List.map_set]
section
variable {P : Program} {n : Nat} {σ : Env} {M : Nat → Prop} {w0 : World} {H : List Res} {d : Option Tmp} {T U E S T2 : TypeId} {pos : String} {after : Array Edge} {gd : Option (Nat × Bool)} {x y z : Operand} {g g' g'' : Bool} {v yv : Value}
  {K : Act → World → Prop} {Q : Exit → Act → World → Prop}
/-- A store into a part of an element of a slice of the call's own. -/
theorem EV.storeE {α : Type} [Inhabited α] {enc : α → List Value} {sz : Nat} (k : Nat) (u : α) {xs : List α} {i : Int} {p q : Addr} {off : Nat} {vs : List Value} (hx : σ.ev x = some (g, .pointer (some q))) (hg : g = true) (hy : σ.ev y = some (g', yv)) (hg' : g' = true)
    (hk : H[k]? = some (vec v E sz (xs.map enc))) (hp : ElemP v i sz p) (hi : IX i (ln xs)) (hq : q = p.add off) (hv : yv.cells = vs.toArray) (hs : SizeT P T vs.length) (hl : off + vs.length ≤ sz) (ho : ∀ u ∈ vs, u.oneCell' = true) (he : enc u = putL (enc (ele xs i)) off vs)
    (kk : WK n K σ (Own M w0 (H.set k (vec v E sz ((upd xs i u).map enc))))) : EV P n ⟨none, .store T x y, U, pos, after, gd⟩ σ (Own M w0 H) K Q := fun a w ha hw => by
  refine .inl ?_
  have hvh := hw.at k hk
  obtain ⟨⟨h1, h2⟩, h3⟩ := hvh
  rcases h2 with ⟨rfl, _⟩ | ⟨b, cap, cur, rfl, hb, hh, hnc, hcm, hcs, ht⟩
  · obtain ⟨a, n, c', he', _⟩ := hp; simp at he'
  obtain ⟨aa, n', c', he', h0, hlt, rfl⟩ := hp
  simp only [Value.slice.injEq, Option.some.injEq] at he'
  obtain ⟨rfl, hn', rfl⟩ := he'
  have hxs : i.toNat < xs.length := by have := hi.2; unfold ln at this; omega
  have hrl : (xs.map enc).length = xs.length := List.length_map _
  have hq2 : q = ⟨b, i.toNat * sz + off, none⟩ := by rw [hq, Addr.add_add, Addr.add_lit]; simp
  subst hq2
  have hcl : cur.toList.length = cap * sz := by simpa using hcs
  have hle : (i.toNat + 1) * sz ≤ cap * sz := Nat.mul_le_mul_right _ (by rw [hrl] at hnc; omega)
  rw [Nat.succ_mul] at hle
  obtain ⟨w', q1, q2, q3, q4, q5, q6, q7⟩ := run_storeCells_blk (P := P) vs ⟨b, i.toNat * sz + off, none⟩ 0 (i.toNat * sz + off) cur.toList w (by simpa using hh) (by simp [Addr.add]) (by omega) ho
  obtain ⟨inf, hinf, hsz⟩ := Option.map_eq_some_iff.1 hs
  have hrun : (execOp a.eval ⟨none, .store T x y, U, pos, after, gd⟩).run P w = .ok .skip w' := by
    simp [execOp, ha.ev hx hg, ha.ev hy hg', Instr.storeAt, Instr.sureAddr, storeVar, hv, sizeOf, typeInfo, hinf, hsz, q1]
  unfold Oper.wp
  rw [hrun]
  show K (a.put none undef) w'
  have hbl : b < w.heap.size := (Array.getElem?_eq_some_iff.1 hh).1
  have hfl := flatten_len h3
  have hrows : ((upd xs i u).map enc).flatten = putL (xs.map enc).flatten (i.toNat * sz + off) vs := by
    rw [putL_flatten hl h3 (by rw [hrl]; exact hxs), map_set_putL hxs he]
    rfl
  have hur : ((upd xs i u).map enc).length = (xs.map enc).length := by simp [upd]
  have hholds : (vec (.slice (some ⟨b, 0, none⟩) (xs.map enc).length cap) E sz ((upd xs i u).map enc)).holds w' := by
    refine ⟨⟨by rw [hrows, putL_length, hur]; exact h1, .inr ⟨b, cap, (putL cur.toList (i.toNat * sz + off) vs).toArray, by rw [hur], hb, q2, by rw [hur]; exact hnc, hcm, by simp [putL_length, hcs], ?_⟩⟩, fun r hr => ?_⟩
    · rw [hrows]
      have e1 : cur.toList = (xs.map enc).flatten ++ cur.toList.drop ((xs.map enc).length * sz) := by
        conv => lhs; rw [← List.take_append_drop ((xs.map enc).length * sz) cur.toList]
        rw [ht]
      have hmul : (i.toNat + 1) * sz ≤ (xs.map enc).length * sz := Nat.mul_le_mul_right _ (by rw [hrl]; omega)
      rw [Nat.succ_mul] at hmul
      rw [e1, putL_append vs _ _ _ (by rw [hfl]; omega), hur, List.take_append_of_le_length (by rw [putL_length, hfl]; exact Nat.le_refl _), List.take_of_length_le (by rw [putL_length, hfl]; exact Nat.le_refl _)]
    · obtain ⟨s, hs', rfl⟩ := List.mem_map.1 hr
      rcases List.mem_or_eq_of_mem_set hs' with hm | rfl
      · exact h3 _ (List.mem_map_of_mem hm)
      · rw [he, putL_length]
        have := h3 (enc (ele xs i)) (List.mem_map_of_mem (by unfold ele; rw [List.getD_eq_getElem?_getD, List.getElem?_eq_getElem hxs]; exact List.getElem_mem hxs))
        exact this
  refine kk a w' ha (hw.upd k hk q5 q6 q7 (by omega) (fun c hc hne => q3 c fun e => hne (by subst e; exact ⟨_, _, rfl⟩)) hholds fun c hc => ?_)
  obtain ⟨n2, k2, he2⟩ := hc
  simp only [Value.slice.injEq, Option.some.injEq, Addr.mk.injEq] at he2
  obtain ⟨⟨rfl, _⟩, _⟩ := he2
  exact ⟨.inl ⟨_, _, rfl⟩, by omega⟩
theorem QV.max3 {ats : Array TypeId} {k : IntKind} {i j m : Int} (hx : σ.ev x = some (g, .int k i)) (hg : g = true) (hy : σ.ev y = some (g', .int k j)) (hg' : g' = true) (hz : σ.ev z = some (g'', .int k m)) (hg'' : g'' = true) {C : World → Prop} :
    QV P ⟨d, .call ⟨.builtin .max, #[x, y, z], ats⟩, T, pos, after, gd⟩ σ C (.int k (max (max i j) m)) := .of_run fun n ac ha w hw => by
  have e : ∀ a b : Int, (if b > a then b else a) = max a b := fun a b => by split <;> omega
  simp [execOp, resolve, invoke, builtin, ha.ev hx hg, ha.ev hy hg', ha.ev hz hg'', Builtin.max_, Builtin.max2, List.foldlM, e, Int.max_assoc]
theorem WQ.ret3 {fn : Func} {R : Ending → World → Prop} {C : World → Prop} {t u s : Nat} {v1 v2 v3 : Value} (hr : fn.results = #[.tmp t, .tmp u, .tmp s]) (h1 : σ.look t = some (true, v1)) (h2 : σ.look u = some (true, v2)) (h3 : σ.look s = some (true, v3)) (h : ∀ w, C w → R (.returned (.tuple #[v1, v2, v3])) w) :
    WK n (bodyPost P fn R .ret) σ C := fun a w ha hw => by
  refine ⟨ha.defers, _, ?_, h w hw⟩
  have a1 := ha.look t true v1 h1
  have a2 := ha.look u true v2 h2
  have a3 := ha.look s true v3 h3
  simp at a1 a2 a3
  simp [results, hr, a1, a2, a3]
theorem WQ.retCellTmp2 {fn : Func} {R : Ending → World → Prop} {C : World → Prop} {ty : TypeId} {p u s sz : Nat} {q : Addr} {cs : List Value} {v2 v3 : Value} (hr : fn.results = #[.cell p ty, .tmp u, .tmp s]) (hT : AggT P ty sz) (hl : cs.length = sz) (hp : σ.look p = some (true, .pointer (some q)))
    (h2 : σ.look u = some (true, v2)) (h3 : σ.look s = some (true, v3)) (hc : ∀ w, C w → CellsAt w q cs 0) (h : ∀ w, C w → R (.returned (.tuple #[.agg cs.toArray, v2, v3])) w) : WK n (bodyPost P fn R .ret) σ C := fun a w ha hw => by
  refine ⟨ha.defers, _, ?_, h w hw⟩
  have hp' := ha.look p true _ hp
  have a2 := ha.look u true v2 h2
  have a3 := ha.look s true v3 h3
  simp at hp' a2 a3
  have := run_loadVar_cells (P := P) hT hl (hc w hw)
  simp [results, hr, hp', asAddr, this, a2, a3]
def ptrsVO (b off m : Nat) : List Value := (List.range m).map fun j => .pointer (some ⟨b, off + j, none⟩)
theorem QV.indexPtrsO {b m off : Nat} {k : IntKind} {i : Int} {C : World → Prop} (hU : P.underlying U = some (.array m E)) (hE : Plain P E) (hs : SizeT P E 1) (hx : σ.ev x = some (g, .agg (ptrsVO b off m).toArray)) (hg : g = true) (hy : σ.ev y = some (g', .int k i)) (hg' : g' = true) (hi : IX i m) :
    QV P ⟨d, .index U x y, T, pos, after, gd⟩ σ C (.pointer (some (((⟨b, 0, none⟩ : Addr).add off).add (i.toNat * 1)))) := .of_run fun n a ha w hw => by
  obtain ⟨inf, hin, hsz⟩ := Option.map_eq_some_iff.1 hs
  have h0 := hi.1; have h1 := hi.2
  have hlt : i.toNat < m := by omega
  have hA := run_isAgg_plain hE w
  have e : (((⟨b, 0, none⟩ : Addr).add off).add (i.toNat * 1)) = ⟨b, off + i.toNat, none⟩ := by rw [Nat.mul_one, Addr.add_lit, Addr.add_lit, Nat.zero_add]
  have hget : (ptrsVO b off m)[i.toNat]? = some (.pointer (some ⟨b, off + i.toNat, none⟩)) := by simp [ptrsVO, hlt]
  rw [e]
  simp [execOp, ha.ev hx hg, ha.ev hy hg', Instr.index, asIntOf, run_underlying hU, h0, h1, sizeOf, typeInfo, hin, hsz, part, hA, hget]
end
end Go.Rd
