/- Slices that grow, of the call's own. -/
import Derived.Test.YtaimbkndebaaiaaEq
import Derived.ArgAppend
import Derived.Laws.AppendOwn
namespace Go.Rd
open Go.RowKit
set_option linter.unusedVariables false
set_option linter.unusedSimpArgs false

/-- A slice of the call's own that grows: its rows. -/
def vec (v : Value) (E : TypeId) (sz : Nat) (rows : List (List Value)) : Res where
  foot := fun b => ∃ n c, v = .slice (some ⟨b, 0, none⟩) n c
  holds := fun w => w.ownsRow 0 E sz v rows.length rows.flatten ∧ ∀ r ∈ rows, r.length = sz
  stable := fun w w' ⟨⟨h1, h2⟩, h3⟩ hk => ⟨⟨h1, by
    rcases h2 with h | ⟨g, cap, cur, hv, hb, hh, r⟩
    · exact .inl h
    · exact .inr ⟨g, cap, cur, hv, hb, (hk g ⟨_, _, hv⟩).trans hh, r⟩⟩, h3⟩

theorem vec_arr {v : Value} {E : TypeId} {sz : Nat} {rows : List (List Value)} {w : World} (h : (vec v E sz rows).holds w) : Arr w v sz rows := by
  obtain ⟨⟨h1, h2⟩, h3⟩ := h
  rcases h2 with ⟨rfl, h⟩ | ⟨g, cap, cur, rfl, _, hh, hnc, _, hcs, ht⟩
  · obtain rfl : rows = [] := List.eq_nil_of_length_eq_zero h
    exact Arr.nil
  · refine ⟨⟨_, _, rfl, fun _ => rfl, hnc⟩, fun i r p hr hp => ?_⟩
    obtain ⟨a, n, c, he, h0, hi, rfl⟩ := hp
    simp only [Value.slice.injEq, Option.some.injEq] at he
    obtain ⟨rfl, _, _⟩ := he
    rw [Int.toNat_natCast]
    have hd := drop_flatten h3 hr
    have hall : CellsAt w ⟨g, 0, none⟩ rows.flatten 0 := CellsAt.of fun j v hv => by
      rw [Nat.zero_add, Addr.add_lit, Nat.zero_add]
      rw [← ht, List.getElem?_take] at hv
      split at hv
      · simp [World.cell?, hh]; simpa using hv
      · cases hv
    exact hall.sub (i * sz) r.length hd

def VecT (P : Program) (U E : TypeId) (sz bytes : Nat) : Prop := P.underlying U = some (.slice E) ∧ ((P.info? E).map fun i => (i.zero.map (·.cells.size), i.size, i.bytes)) = some (some sz, sz, bytes) ∧ 0 < sz

theorem vec_foot_lt {v : Value} {E : TypeId} {sz : Nat} {rows : List (List Value)} {w : World} (h : (vec v E sz rows).holds w) : ∀ b, (vec v E sz rows).foot b → b < w.heap.size := fun b hb => by
  obtain ⟨n, c, rfl⟩ := hb
  rcases h.1.2 with ⟨h, _⟩ | ⟨g, cap, cur, hv, _, hh, _⟩
  · cases h
  · simp only [Value.slice.injEq, Option.some.injEq, Addr.mk.injEq] at hv
    obtain ⟨⟨rfl, _⟩, _⟩ := hv
    exact (Array.getElem?_eq_some_iff.1 hh).1

theorem flatten_len {sz : Nat} : ∀ {rows : List (List Value)}, (∀ r ∈ rows, r.length = sz) → rows.flatten.length = rows.length * sz
  | [], _ => by simp
  | r :: rows, h => by
    rw [List.flatten_cons, List.length_append, flatten_len fun q hq => h q (by simp [hq]), h r (by simp), List.length_cons, Nat.succ_mul, Nat.add_comm]

theorem ElemP_base {a : Addr} {n c sz i : Nat} (h : i < n) : ElemP (.slice (some a) n c) i sz (a.add (i * sz)) := ⟨a, n, c, rfl, by omega, by omega, by simp⟩

/-- The cells of a slice one behind the other. -/
theorem Arr.cell {w : World} {a : Addr} {n c sz : Nat} : ∀ {rows : List (List Value)}, Arr w (.slice (some a) n c) sz rows → (∀ r ∈ rows, r.length = sz) → ∀ (j : Nat) u, rows.flatten[j]? = some u → w.cell? (a.add j) = some u := fun {rows} h hl j u hu => by
  have hlen := flatten_len hl
  have hj : j < rows.length * sz := by rw [← hlen]; exact (List.getElem?_eq_some_iff.1 hu).1
  have hsz : 0 < sz := by
    rcases Nat.eq_zero_or_pos sz with h | h
    · subst h; simp at hj
    · exact h
  have hq : j / sz < rows.length := Nat.div_lt_of_lt_mul (by rwa [Nat.mul_comm] at hj)
  have hn : rows.length = n := by
    obtain ⟨_, _, he, _⟩ := h.len
    simp only [Value.slice.injEq] at he
    exact he.2.1.symm
  have hc := h.row (j / sz) rows[j / sz] _ (List.getElem?_eq_getElem hq) (ElemP_base (by omega))
  have hd := drop_flatten hl (List.getElem?_eq_getElem hq)
  have hr : rows[j / sz][j % sz]? = some u := by
    rw [← hd, List.getElem?_take, hl _ (List.getElem_mem hq), if_pos (Nat.mod_lt _ hsz), List.getElem?_drop, Nat.mul_comm, Nat.div_add_mod]
    exact hu
  have := hc.one _ hr
  rwa [Addr.add_add, Nat.mul_comm, Nat.div_add_mod] at this

section
variable {P : Program} {n : Nat} {σ : Env} {M : Nat → Prop} {w0 : World} {H : List Res} {d : Option Tmp} {T U E : TypeId} {pos : String} {after : Array Edge} {gd : Option (Nat × Bool)} {x y : Operand} {g g' : Bool} {v yv : Value}
  {K : Act → World → Prop} {Q : Exit → Act → World → Prop}

theorem run_append_vec {w : World} {sz bytes : Nat} {rows news : List (List Value)} (hV : VecT P U E sz bytes) (hown : (vec v E sz rows).holds w) (hnew : Arr w yv sz news) (hnl : ∀ r ∈ news, r.length = sz) (h1 : ∀ r ∈ news, ∀ u ∈ r, u.oneCell' = true)
    (h63 : rows.length + news.length ≤ maxLen) (hby : (rows.length + news.length) * bytes ≤ 140737488355328) :
    ∃ v' w', (Builtin.append_ #[U, U] T #[v, yv]).run P w = .ok v' w' ∧ (vec v' E sz (rows ++ news)).holds w' ∧ w'.os = w.os ∧ w'.tape = w.tape ∧ (w'.output = w.output ∧ w.drawn ≤ w'.drawn) ∧ w.heap.size ≤ w'.heap.size ∧
      (∀ b, b < w.heap.size → ¬ (vec v E sz rows).foot b → w'.heap[b]? = w.heap[b]?) ∧ (∀ b, (vec v' E sz (rows ++ news)).foot b → ((vec v E sz rows).foot b ∨ w.heap.size ≤ b) ∧ b < w'.heap.size) := by
  obtain ⟨hU, hi, hsz⟩ := hV
  obtain ⟨i, hi, hq⟩ := Option.map_eq_some_iff.1 hi
  simp only [Prod.mk.injEq] at hq
  obtain ⟨hz, his, hib⟩ := hq
  obtain ⟨z, hz, hzs⟩ := Option.map_eq_some_iff.1 hz
  have hall : ∀ r ∈ rows ++ news, r.length = sz := fun r hr => (List.mem_append.1 hr).elim (hown.2 r) (hnl r)
  have hfl : (rows ++ news).flatten = rows.flatten ++ news.flatten := List.flatten_append
  have hll : (rows ++ news).length = rows.length + news.length := List.length_append
  have h1' : ∀ u ∈ news.flatten, u.oneCell' = true := fun u hu => by
    obtain ⟨r, hr, hu⟩ := List.mem_flatten.1 hu
    exact h1 r hr u hu
  obtain ⟨ay, cy, rfl, hay, _⟩ := hnew.len
  cases ay with
  | none =>
    have hn0 : news = [] := by
      cases news with
      | nil => rfl
      | cons r l => exact absurd (hay (by simp)) (by simp)
    subst hn0
    have hrun : (Builtin.append_ #[U, U] T #[v, .slice none ([] : List (List Value)).length cy]).run P w = .ok v w := by
      rcases hown.1.2 with ⟨rfl, hl⟩ | ⟨g, cap, cur, rfl, _, _, hnc, _⟩
      · simp [Builtin.append_, run_underlying hU, sizeOf, typeInfo, hi, Builtin.lenOf, Builtin.firstCells]
      · simp [Builtin.append_, run_underlying hU, sizeOf, typeInfo, hi, Builtin.lenOf, Builtin.firstCells, hnc, storeCells]
    exact ⟨v, w, hrun, by simpa using hown, rfl, rfl, ⟨rfl, Nat.le_refl _⟩, Nat.le_refl _, fun _ _ _ => rfl, fun b hb => ⟨.inl hb, vec_foot_lt hown b hb⟩⟩
  | some a =>
    have hnews := hnew.cell hnl
    have hl := flatten_len hnl
    rcases hown.1.2 with ⟨rfl, hrl⟩ | ⟨b, cap, cur, rfl, hb0, hh, hnc, hcm, hcs, htake⟩
    · obtain ⟨v', w', hr, ho, hg, _⟩ := run_append_own (P := P) w w.heap.size U T E i z sz bytes hU hi hz his hib hzs hsz (.slice none 0 0) rows.length rows.flatten ⟨flatten_len hown.2, .inl ⟨rfl, hrl⟩⟩ a news.length cy news.flatten hl hnews h1' h63 hby (Nat.le_refl _)
      refine ⟨v', w', hr, ⟨⟨by rw [hfl, hll]; exact ho.1, ?_⟩, hall⟩, hg.os, hg.tape, ⟨hg.output, run_drawn _ _ hr⟩, hg.size, fun k hk _ => hg.block k hk (by simp [Value.ownBlock]), fun k hk => ?_⟩
      · rw [hll, hfl]
        rcases ho.2 with h | ⟨g, c2, cur, h⟩
        · exact .inl h
        · exact .inr ⟨g, c2, cur, h.1, Nat.zero_le _, h.2.2⟩
      · obtain ⟨n2, c2, rfl⟩ := hk
        rcases ho.2 with ⟨h, _⟩ | ⟨g, c3, cur, h, h2, h3, _⟩
        · cases h
        · simp only [Value.slice.injEq, Option.some.injEq, Addr.mk.injEq] at h
          obtain ⟨⟨rfl, _⟩, _⟩ := h
          exact ⟨.inr h2, (Array.getElem?_eq_some_iff.1 h3).1⟩
    · by_cases hroom : rows.length + news.length ≤ cap
      · obtain ⟨w', hr, ho, hg⟩ := run_append_fits (P := P) w 0 U T E i sz hU hi his b rows.length cap rows.flatten hown.1 a news.length cy news.flatten hl hnews h1' hroom
        refine ⟨_, w', hr, ⟨by rw [hll, hfl]; exact ho, hall⟩, hg.os, hg.tape, ⟨hg.output, run_drawn _ _ hr⟩, hg.size, fun k hk hf => hg.block k hk (fun he => ?_), fun k hk => ?_⟩
        · cases he; exact hf ⟨_, _, rfl⟩
        · obtain ⟨n2, c2, he⟩ := hk
          simp only [Value.slice.injEq, Option.some.injEq, Addr.mk.injEq] at he
          obtain ⟨⟨rfl, _⟩, _⟩ := he
          exact ⟨.inl ⟨_, _, rfl⟩, Nat.lt_of_lt_of_le (Array.getElem?_eq_some_iff.1 hh).1 hg.size⟩
      · have hold := (vec_arr hown).cell hown.2
        obtain ⟨v', w', hr, ho, hg⟩ := run_append_arg_grows (P := P) w U T E i z sz bytes hU hi hz his hib hzs hsz ⟨b, 0, none⟩ rows.length cap rows.flatten (flatten_len hown.2) hold a news.length cy news.flatten hl hnews (by omega) h63 hby
        refine ⟨v', w', hr, ⟨⟨by rw [hfl, hll]; exact ho.1, ?_⟩, hall⟩, hg.os, hg.tape, ⟨hg.output, run_drawn _ _ hr⟩, hg.size, fun k hk _ => hg.block k hk (by simp), fun k hk => ?_⟩
        · rw [hll, hfl]
          rcases ho.2 with h | ⟨g, c2, cur, h⟩
          · exact .inl h
          · exact .inr ⟨g, c2, cur, h.1, Nat.zero_le _, h.2.2⟩
        · obtain ⟨n2, c2, rfl⟩ := hk
          rcases ho.2 with ⟨h, _⟩ | ⟨g, c3, cur, h, h2, h3, _⟩
          · cases h
          · simp only [Value.slice.injEq, Option.some.injEq, Addr.mk.injEq] at h
            obtain ⟨⟨rfl, _⟩, _⟩ := h
            exact ⟨.inr h2, (Array.getElem?_eq_some_iff.1 h3).1⟩

/-- append: resource number k grows. -/
theorem EV.append (k : Nat) {dd sz bytes : Nat} {rows news : List (List Value)} (hn : dd < n) (hV : VecT P U E sz bytes) (hk : H[k]? = some (vec v E sz rows)) (hx : σ.ev x = some (g, v)) (hg : g = true) (hy : σ.ev y = some (g', yv)) (hg' : g' = true)
    (hnew : ∀ w, Own M w0 H w → Arr w yv sz news) (hnl : ∀ r ∈ news, r.length = sz) (h1 : ∀ r ∈ news, ∀ u ∈ r, u.oneCell' = true) (h63 : rows.length + news.length ≤ maxLen) (hby : (rows.length + news.length) * bytes ≤ 140737488355328)
    (kk : ∀ u, WK n K ((dd, (true, u)) :: σ) (Own M w0 (H.set k (vec u E sz (rows ++ news))))) : EV P n ⟨some dd, .call ⟨.builtin .append, #[x, y], #[U, U]⟩, T, pos, after, gd⟩ σ (Own M w0 H) K Q := fun a w ha hw => by
  refine .inl ?_
  obtain ⟨v', w', hr, h2, h3, h4, h5, h6, h7, h8⟩ := run_append_vec (T := T) hV (hw.at k hk) (hnew w hw) hnl h1 h63 hby
  have hrun : (execOp a.eval ⟨some dd, .call ⟨.builtin .append, #[x, y], #[U, U]⟩, T, pos, after, gd⟩).run P w = .ok (.value v') w' := by
    simp [execOp, resolve, invoke, builtin, ha.ev hx hg, ha.ev hy hg', hr, Result.andThen]
  unfold Oper.wp
  rw [hrun]
  exact kk v' _ _ (ha.put hn true _) (hw.upd k hk h3 h4 h5 h6 h7 h2 h8)
end
end Go.Rd
