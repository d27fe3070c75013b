/- From a walk to a law's statement: what the arguments read as, and that they read as before. -/
import Derived.Test.YtaimbkndebaaiaaMem
import Derived.ProofKit
import Derived.OpenShut
namespace Go.Rd
open Go.RowKit Go.ChangeShapes Go.WideShapes Go.ChangeAt
set_option linter.unusedVariables false
set_option linter.unusedSimpArgs false

section
variable {H : Type} {enc : TypeId × Value → H} {P : Program}

theorem trodAll_below (hl : laidOutB P = true) {W W' : World} (hb : Below W.heap.size W W') : ∀ {ts : List TypeId} {vs : List Value} {ds : List (DataW H)} {ps : List MemPlace},
    DataW.TrodAll enc P W 0 (fun _ => true) true ts vs ds ps → (∀ t ∈ ts, P.readableRec t = true ∧ t < P.types.size) → (∀ x ∈ ps, x.block < W.heap.size) →
    DataW.TrodAll enc P W' 0 (fun b => decide (b < W.heap.size)) true ts vs ds ps
  | [], [], [], ps, h, _, _ => h
  | t :: ts, v :: vs, d :: ds, ps, h, hr, hlt => by
    obtain ⟨p, q, h1, h2, rfl⟩ := h
    exact ⟨p, q, Below.trod hl (hr t (by simp)).1 (hr t (by simp)).2 h1 hb (fun x hx => hlt x (by simp [hx])), trodAll_below hl hb h2 (fun t ht => hr t (by simp [ht])) (fun x hx => hlt x (by simp [hx])), rfl⟩
  | [], [], _ :: _, _, h, _, _ => h.elim
  | [], _ :: _, _, _, h, _, _ => h.elim
  | _ :: _, [], _, _, h, _, _ => h.elim
  | _ :: _, _ :: _, [], _, h, _, _ => h.elim

/-- THE LAW's POST: it returned true, and of what was there nothing has changed. -/
theorem law_post {f : Func} {s : ChangeSpec} {W W' : World} {args : Array Value} {ds : List (DataW H)} {before : List MemPlace} {tb : TypeId} (hl : laidOutB P = true)
    (hW : DataW.Whole enc P f.params.toList s.vars false W args.toList ds [] before) (hvars : s.vars = []) (hr : ∀ t ∈ f.params.toList, P.readableRec t = true ∧ t < P.types.size)
    (hres : f.resultTypes = #[tb]) (htb : P.underlying tb = some .bool) (hfn : s.fn H ds = { results := [.lit (.bool true)], args := ds }) (hb : Below W.heap.size W W') :
    s.post enc P f false true false false W args (.bool true) W' := by
  have hlt : ∀ x ∈ before, x.block < W.heap.size := fun x hx => hW.lt x hx
  have hW' := hW
  obtain ⟨p, q, hA, hV, rfl, hz, hn⟩ := hW
  rw [hvars] at hV
  obtain ⟨_, rfl⟩ := trodVars_none hV
  refine ⟨ds, [], _, [], p, [], hW', ?_, ?_, ?_, hb.frame _, fun h => by cases h⟩
  · simp only [List.append_nil, hfn, hres]
    exact trodAll_cons_mk (shut_bool htb _) trodAll_mk0
  · simp only [List.append_nil, hfn]
    exact trodAll_below hl hb hA hr (fun x hx => hlt x (by simp [hx]))
  · rw [hvars]; simp [List.append_nil, hfn, DataW.TrodVars]

theorem wf_i64 {n : Int} (h : (Lit.int .i64 n).wf = true) : -9223372036854775808 ≤ n ∧ n ≤ 9223372036854775807 := by
  simp [Lit.wf, IntKind.min, IntKind.max, IntKind.signed, IntKind.bits] at h
  omega

/-! ### What a reading says of the cells -/
theorem mapM_all {α β : Type} {f : α → Option β} : ∀ {l : List α} {r : List β}, l.mapM f = some r → ∀ a ∈ l, ∃ b, f a = some b
  | [], _, _, a, ha => by cases ha
  | x :: l, r, h, a, ha => by
    rw [List.mapM_cons] at h
    cases hx : f x with
    | none => simp [hx] at h
    | some y =>
      cases hl : l.mapM f with
      | none => simp [hx, hl] at h
      | some ys =>
        rcases List.mem_cons.1 ha with rfl | ha
        · exact ⟨y, hx⟩
        · exact mapM_all hl a ha

section
variable {w : World} {base : Nat} {spare : Nat → Bool} {held : Bool}

theorem trod_struct {fuel : Nat} {t : TypeId} {fs : Array Field} {cs : List Value} {x : DataW H × List MemPlace} (ht : P.underlying t = some (.struct fs)) (h : DataW.trod enc P w base spare held fuel t cs = some x) :
    cs.length = P.cellsOf t ∧ ∀ f ∈ fs.toList, ∃ fuel' y, DataW.trod enc P w base spare held fuel' f.type ((cs.drop f.offset).take (P.cellsOf f.type)) = some y := by
  cases fuel with
  | zero => simp [DataW.trod] at h
  | succ fuel =>
    simp only [DataW.trod, ht] at h
    split at h
    · rename_i hl
      obtain ⟨r, hr, _⟩ := Option.map_eq_some_iff.1 h
      exact ⟨hl, fun f hf => ⟨fuel, mapM_all hr f hf⟩⟩
    · cases h

theorem trod_array {fuel : Nat} {t e : TypeId} {n : Nat} {cs : List Value} {x : DataW H × List MemPlace} (ht : P.underlying t = some (.array n e)) (h : DataW.trod enc P w base spare held fuel t cs = some x) :
    cs.length = P.cellsOf t ∧ ∀ i, i < n → ∃ fuel' y, DataW.trod enc P w base spare held fuel' e ((cs.drop (i * P.cellsOf e)).take (P.cellsOf e)) = some y := by
  cases fuel with
  | zero => simp [DataW.trod] at h
  | succ fuel =>
    simp only [DataW.trod, ht] at h
    split at h
    · rename_i hl
      obtain ⟨r, hr, _⟩ := Option.map_eq_some_iff.1 h
      exact ⟨hl, fun i hi => ⟨fuel, mapM_all hr i (List.mem_range.2 hi)⟩⟩
    · cases h

theorem trod_slice {fuel : Nat} {t e : TypeId} {cs : List Value} {x : DataW H × List MemPlace} (ht : P.underlying t = some (.slice e)) (h : DataW.trod enc P w base spare held fuel t cs = some x) :
    cs = [.slice none 0 0] ∨ ∃ a len cap fuel', cs = [.slice (some a) len cap] ∧ len ≤ cap ∧ cap ≤ maxLen ∧
      ∀ i, i < len → ∃ es y, w.cells? base (a.add (i * P.cellsOf e)) (P.cellsOf e) = some es ∧ DataW.trod enc P w base spare held fuel' e es = some y := by
  cases fuel with
  | zero => simp [DataW.trod] at h
  | succ fuel =>
    unfold DataW.trod at h
    split at h <;> simp_all
    rename_i a len cap _
    obtain ⟨⟨h1, h2, h3⟩, h4⟩ := h
    obtain ⟨r, hr, _⟩ := Option.bind_eq_some_iff.1 h4
    refine ⟨a, len, cap, ⟨rfl, rfl, rfl⟩, h2, h3, fuel, fun i hi => ?_⟩
    obtain ⟨b, hb⟩ := mapM_all hr i (List.mem_range.2 hi)
    obtain ⟨es, he, hy⟩ := Option.bind_eq_some_iff.1 hb
    exact ⟨es, he, b.1, b.2, hy⟩

/-- A type of ints alone, laid one behind the other. -/
def covers : List (Nat × Nat) → Nat → Nat → Bool
  | [], cur, total => cur == total
  | (o, s) :: r, cur, total => o == cur && covers r (cur + s) total
def flatT (P : Program) : Nat → TypeId → Bool
  | 0, _ => false
  | k + 1, t =>
    match P.underlying t with
    | some (.int .i64) => P.cellsOf t == 1
    | some (.struct fs) => (fs.toList.all fun f => flatT P k f.type) && covers (fs.toList.map fun f => (f.offset, P.cellsOf f.type)) 0 (P.cellsOf t)
    | some (.array n e) => flatT P k e && covers ((List.range n).map fun i => (i * P.cellsOf e, P.cellsOf e)) 0 (P.cellsOf t)
    | _ => false

def i64v (n : Int) : Value := .int .i64 n
def InR (n : Int) : Prop := -9223372036854775808 ≤ n ∧ n ≤ 9223372036854775807

theorem covers_ints {cs : List Value} {total : Nat} (hl : cs.length = total) : ∀ {l : List (Nat × Nat)} {cur : Nat}, covers l cur total = true → cur ≤ total →
    (∀ p ∈ l, ∃ ns : List Int, (cs.drop p.1).take p.2 = ns.map i64v ∧ ns.length = p.2 ∧ ∀ n ∈ ns, InR n) → ∃ ns : List Int, cs.drop cur = ns.map i64v ∧ ∀ n ∈ ns, InR n
  | [], cur, h, _, _ => ⟨[], by simp [covers] at h; subst h; simp [← hl], by simp⟩
  | (o, s) :: r, cur, h, hc, hp => by
    simp only [covers, Bool.and_eq_true, beq_iff_eq] at h
    obtain ⟨rfl, h⟩ := h
    obtain ⟨ns, h1, h2, h3⟩ := hp (o, s) (by simp)
    have hs : o + s ≤ total := by
      have := congrArg List.length h1
      simp [h2, hl] at this
      omega
    obtain ⟨ms, h4, h5⟩ := covers_ints hl h hs (fun p hpr => hp p (by simp [hpr]))
    refine ⟨ns ++ ms, ?_, fun n hn => (List.mem_append.1 hn).elim (h3 n) (h5 n)⟩
    rw [List.map_append, ← h1, ← h4]
    simp only []
    rw [← List.drop_drop, List.take_append_drop]

theorem trod_flat : ∀ {k : Nat} {t : TypeId}, flatT P k t = true → ∀ {fuel : Nat} {cs : List Value} {x : DataW H × List MemPlace}, DataW.trod enc P w base spare held fuel t cs = some x →
    ∃ ns : List Int, cs = ns.map i64v ∧ ns.length = P.cellsOf t ∧ ∀ n ∈ ns, InR n
  | 0, _, h, _, _, _, _ => by simp [flatT] at h
  | k + 1, t, h, fuel, cs, x, hx => by
    unfold flatT at h
    split at h
    · rename_i hu
      obtain ⟨n, rfl, _, hw⟩ := DataW.trod_int hu hx
      exact ⟨[n], rfl, by simp at h; simp [h], by simpa [InR] using wf_i64 hw⟩
    · rename_i fs hu
      obtain ⟨hl, hf⟩ := trod_struct hu hx
      simp only [Bool.and_eq_true, List.all_eq_true] at h
      obtain ⟨ns, h1, h2⟩ := covers_ints hl h.2 (Nat.zero_le _) (fun p hp => by
        obtain ⟨f, hfm, rfl⟩ := List.mem_map.1 hp
        obtain ⟨fuel', y, hy⟩ := hf f hfm
        exact trod_flat (h.1 f hfm) hy)
      rw [List.drop_zero] at h1
      exact ⟨ns, h1, by rw [← hl, h1]; simp, h2⟩
    · rename_i n e hu
      obtain ⟨hl, hf⟩ := trod_array hu hx
      simp only [Bool.and_eq_true] at h
      obtain ⟨ns, h1, h2⟩ := covers_ints hl h.2 (Nat.zero_le _) (fun p hp => by
        obtain ⟨i, hi, rfl⟩ := List.mem_map.1 hp
        obtain ⟨fuel', y, hy⟩ := hf i (List.mem_range.1 hi)
        exact trod_flat h.1 hy)
      rw [List.drop_zero] at h1
      exact ⟨ns, h1, by rw [← hl, h1]; simp, h2⟩
    · cases h

theorem mapM_get {α β : Type} {f : α → Option β} : ∀ {l : List α} {r : List β}, l.mapM f = some r → r.length = l.length ∧ ∀ (j : Nat) (b : β), r[j]? = some b → ∃ a, l[j]? = some a ∧ f a = some b
  | [], r, h => by
    simp at h; subst h; simp
  | x :: l, r, h => by
    rw [List.mapM_cons] at h
    cases hx : f x with
    | none => simp [hx] at h
    | some y =>
      cases hl : l.mapM f with
      | none => simp [hx, hl] at h
      | some ys =>
        simp [hx, hl] at h
        subst h
        obtain ⟨h1, h2⟩ := mapM_get hl
        refine ⟨by simp [h1], fun j b hb => ?_⟩
        cases j with
        | zero => simp at hb; subst hb; exact ⟨x, by simp, hx⟩
        | succ j => simpa using h2 j b (by simpa using hb)

theorem cells_at {a : Addr} {n : Nat} {es : List Value} (h : w.cells? base a n = some es) : es.length = n ∧ ∀ j v, es[j]? = some v → w.cell? (a.add j) = some v := by
  unfold World.cells? at h
  split at h
  · obtain ⟨h1, h2⟩ := mapM_get h
    refine ⟨by simpa using h1, fun j v hv => ?_⟩
    obtain ⟨i, hi, hc⟩ := h2 j v hv
    have hlt : j < n := by have := (List.getElem?_eq_some_iff.1 hi).1; simpa using this
    rw [List.getElem?_range hlt] at hi
    cases hi
    exact hc
  · cases h

/-- A slice whose elements read so: a list, and the slice reads as it. -/
theorem slice_list {α : Type} (f : α → List Value) (ok : α → Prop) {sz : Nat} {fuel : Nat} {t e : TypeId} {v : Value} {x : DataW H × List MemPlace} (ht : P.underlying t = some (.slice e)) (hsz : P.cellsOf e = sz)
    (hx : DataW.trod enc P w base spare held fuel t [v] = some x)
    (hel : ∀ fuel' es y, DataW.trod enc P w base spare held fuel' e es = some y → ∃ u : α, es = f u ∧ ok u) :
    ∃ xs : List α, Arr w v sz (xs.map f) ∧ (∀ u ∈ xs, ok u) ∧ xs.length ≤ maxLen := by
  rcases trod_slice ht hx with h | ⟨a, len, cap, fuel', h, h1, h2, h3⟩
  · simp at h; subst h
    exact ⟨[], Arr.nil, by simp, by simp⟩
  · simp at h; subst h
    have hch : ∀ i, i < len → ∃ u : α, ok u ∧ CellsAt w (a.add (i * sz)) (f u) 0 := fun i hi => by
      obtain ⟨es, y, h4, h5⟩ := h3 i hi
      obtain ⟨u, rfl, hu⟩ := hel fuel' es y h5
      rw [hsz] at h4
      exact ⟨u, hu, CellsAt.of fun j v hv => by rw [Nat.zero_add]; exact (cells_at h4).2 j v hv⟩
    have : ∀ m, m ≤ len → ∃ xs : List α, xs.length = m ∧ (∀ u ∈ xs, ok u) ∧ ∀ i u, xs[i]? = some u → CellsAt w (a.add (i * sz)) (f u) 0 := by
      intro m
      induction m with
      | zero => exact fun _ => ⟨[], rfl, by simp, by simp⟩
      | succ m ih =>
        intro hm
        obtain ⟨xs, h4, h5, h6⟩ := ih (by omega)
        obtain ⟨u, hu, hc⟩ := hch m (by omega)
        refine ⟨xs ++ [u], by simp [h4], fun y hy => ?_, fun i y hy => ?_⟩
        · rcases List.mem_append.1 hy with hy | hy
          · exact h5 y hy
          · simp at hy; subst hy; exact hu
        · by_cases hi : i < xs.length
          · rw [List.getElem?_append_left hi] at hy; exact h6 i y hy
          · rw [List.getElem?_append_right (by omega)] at hy
            have : i = m := by
              have := (List.getElem?_eq_some_iff.1 hy).1
              simp at this; omega
            subst this
            simp [h4] at hy
            subst hy; exact hc
    obtain ⟨xs, h4, h5, h6⟩ := this len (Nat.le_refl _)
    refine ⟨xs, ⟨⟨some a, cap, by simp [h4], fun _ => rfl, by simp; omega⟩, fun i r p hr hp => ?_⟩, h5, by omega⟩
    rw [List.getElem?_map] at hr
    obtain ⟨u, hu, rfl⟩ := Option.map_eq_some_iff.1 hr
    obtain ⟨a', n', c', he, h7, h8, rfl⟩ := hp
    simp only [Value.slice.injEq, Option.some.injEq] at he
    obtain ⟨rfl, _, _⟩ := he
    simpa using h6 i u hu
end

theorem seven {l : List Int} (h : l.length = 7) : ∃ a b c d e f g, l = [a, b, c, d, e, f, g] := by
  match l, h with
  | [a, b, c, d, e, f, g], _ => exact ⟨a, b, c, d, e, f, g, rfl⟩

/-- A struct's cells out of its value. -/
theorem okWide_agg {r : Reach} {b0 : Nat} {w : World} {t : TypeId} {fs : Array Field} {v : Value} (ht : P.underlying t = some (.struct fs)) (h : Value.okWide P w r b0 t v) : ∃ cs : List Value, v = .agg cs.toArray := by
  unfold Value.okWide at h
  rw [ht] at h
  obtain ⟨cs, rfl, _⟩ := h
  exact ⟨cs.toList, by simp⟩
end
end Go.Rd
