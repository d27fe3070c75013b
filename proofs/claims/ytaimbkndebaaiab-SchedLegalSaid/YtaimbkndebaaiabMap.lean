/- Maps of the call's own, with keys that are whole numbers or pairs of them. -/
import Derived.Test.YtaimbkndebaaiabDyn
import Derived.MapKept
namespace Go.Rd
open Go.RowKit Go.MapKept
set_option linter.unusedVariables false
set_option linter.unusedSimpArgs false

/-! ### Plain maps -/
section
variable {κ β : Type} [DecidableEq κ]
def mhas (m : List (κ × β)) (k : κ) : Bool := m.any fun p => decide (p.1 = k)
def mget (m : List (κ × β)) (k : κ) (d : β) : β := match m.find? (fun p => decide (p.1 = k)) with
  | some p => p.2
  | none => d
def mput (m : List (κ × β)) (k : κ) (v : β) : List (κ × β) := match m with
  | [] => [(k, v)]
  | p :: r => if p.1 = k then (k, v) :: r else p :: mput r k v
theorem mget_nil {k : κ} {d : β} : mget ([] : List (κ × β)) k d = d := rfl
theorem mget_cons {p : κ × β} {m : List (κ × β)} {k : κ} {d : β} : mget (p :: m) k d = if p.1 = k then p.2 else mget m k d := by
  unfold mget
  rw [List.find?_cons]
  by_cases h : p.1 = k <;> simp [h]
theorem mget_mput {m : List (κ × β)} {k k' : κ} {v d : β} : mget (mput m k v) k' d = if k = k' then v else mget m k' d := by
  induction m with
  | nil => unfold mput; rw [mget_cons]
  | cons p m ih =>
    unfold mput
    by_cases h : p.1 = k
    · rw [if_pos h, mget_cons, mget_cons]
      subst h
      by_cases h2 : p.1 = k' <;> simp [h2]
    · rw [if_neg h, mget_cons, mget_cons, ih]
      by_cases h2 : p.1 = k'
      · have : ¬ k = k' := fun e => h (h2.trans e.symm)
        simp [h2, this]
      · simp [h2]
end

/-! ### Keys -/
def kI (n : Int) : Value := .int .i64 n
def kP (p : Int × Int) : Value := .agg #[.int .i64 p.1, .int .i64 p.2]
def bv (b : Bool) : Value := .bool b
/-- Keys of a type: told apart by what they are. -/
structure KeyT (P : Program) {κ : Type} [DecidableEq κ] (K : TypeId) (ke : κ → Value) : Prop where
  check : ∀ k w b, (Instr.checkKey b 10000 K (ke k)).run P w = .ok () w
  find : ∀ (k : κ) w (es : List MapEntry) (ks : List κ), es.map (·.key) = ks.map ke → ∃ r, (Instr.findKey K (ke k) es).run P w = .ok r w ∧
    ((r = none ∧ ∀ j ∈ ks, j ≠ k) ∨ (∃ i e, r = some (i, e.val) ∧ es[i]? = some e ∧ ks[i]? = some k ∧ ∀ j < i, ks[j]? ≠ some k))
  same : ∀ k, Instr.sameBits 10000 (ke k) (ke k) = true
theorem find_asking {P : Program} {κ : Type} [DecidableEq κ] {K : TypeId} {ke : κ → Value} (heq : ∀ a b w, (Op.equal K (ke a) (ke b)).run P w = .ok (decide (b = a)) w) (k : κ) (w : World) : ∀ (es : List MapEntry) (ks : List κ) (n : Nat), es.map (·.key) = ks.map ke →
    ∃ r, (Instr.findAsking K (ke k) es n).run P w = .ok r w ∧ ((r = none ∧ ∀ j ∈ ks, j ≠ k) ∨ (∃ i e, r = some (n + i, e.val) ∧ es[i]? = some e ∧ ks[i]? = some k ∧ ∀ j < i, ks[j]? ≠ some k))
  | [], [], n, _ => ⟨none, by simp [Instr.findAsking], .inl ⟨rfl, fun j hj => by cases hj⟩⟩
  | [], _ :: _, n, h => by simp at h
  | _ :: _, [], n, h => by simp at h
  | e :: es, k' :: ks, n, h => by
    simp only [List.map_cons, List.cons.injEq] at h
    have hq := heq k k' w
    by_cases hk : k' = k
    · subst hk
      refine ⟨some (n, e.val), ?_, .inr ⟨0, e, rfl, rfl, rfl, fun j hj => by omega⟩⟩
      simp [Instr.findAsking, h.1, hq]
    · obtain ⟨r, hr, hh⟩ := find_asking heq k w es ks (n + 1) h.2
      refine ⟨r, ?_, ?_⟩
      · simp [Instr.findAsking, h.1, hq, hk, hr]
      · rcases hh with ⟨a, b⟩ | ⟨i, e', a, b, c, d⟩
        · exact .inl ⟨a, fun j hj => by rcases List.mem_cons.1 hj with rfl | hj; exact hk; exact b j hj⟩
        · refine .inr ⟨i + 1, e', by rw [a]; congr 2; omega, by simpa using b, by simpa using c, fun j hj => ?_⟩
          cases j with
          | zero => simpa using hk
          | succ j => simpa using d j (by omega)
theorem find_now {P : Program} {K : TypeId} {t : IntKind} (k : Int) : ∀ (es : List MapEntry) (ks : List Int) (n : Nat), es.map (·.key) = ks.map kI →
    ∃ r, Instr.findNow (.int t) (kI k) es n = some r ∧ ((r = none ∧ ∀ j ∈ ks, j ≠ k) ∨ (∃ i e, r = some (n + i, e.val) ∧ es[i]? = some e ∧ ks[i]? = some k ∧ ∀ j < i, ks[j]? ≠ some k))
  | [], [], n, _ => ⟨none, by simp [Instr.findNow], .inl ⟨rfl, fun j hj => by cases hj⟩⟩
  | [], _ :: _, n, h => by simp at h
  | _ :: _, [], n, h => by simp at h
  | e :: es, k' :: ks, n, h => by
    simp only [List.map_cons, List.cons.injEq] at h
    by_cases hk : k' = k
    · subst hk
      exact ⟨some (n, e.val), by simp [Instr.findNow, h.1, kI, Instr.sameNow], .inr ⟨0, e, rfl, rfl, rfl, fun j hj => by omega⟩⟩
    · obtain ⟨r, hr, hh⟩ := find_now (P := P) (K := K) (t := t) k es ks (n + 1) h.2
      refine ⟨r, ?_, ?_⟩
      · have hk2 : (k == k') = false := by simp; exact fun e => hk e.symm
        unfold kI at hr
        simp [Instr.findNow, h.1, kI, Instr.sameNow, hk2, hr]
      · rcases hh with ⟨a, b⟩ | ⟨i, e', a, b, c, d⟩
        · exact .inl ⟨a, fun j hj => by rcases List.mem_cons.1 hj with rfl | hj; exact hk; exact b j hj⟩
        · refine .inr ⟨i + 1, e', by rw [a]; congr 2; omega, by simpa using b, by simpa using c, fun j hj => ?_⟩
          cases j with
          | zero => simpa using hk
          | succ j => simpa using d j (by omega)
theorem KeyT.int {P : Program} {K : TypeId} (h : P.underlying K = some (.int .i64)) : KeyT P K kI where
  check := fun k w b => by rw [show (10000 : Nat) = 9999 + 1 from rfl, Instr.checkKey]; simp [run_underlying h, kI]
  find := fun k w es ks he => by
    obtain ⟨r, h1, h2⟩ := find_now (P := P) (K := K) (t := .i64) k es ks 0 he
    refine ⟨r, by rw [run_findKey h h1], ?_⟩
    simpa using h2
  same := fun k => by simp [kI, Instr.sameBits]
theorem KeyT.pair {P : Program} {K I : TypeId} (h : P.underlying K = some (.array 2 I)) (hI : P.underlying I = some (.int .i64)) (hs : (P.info? I).map (·.size) = some 1) : KeyT P K kP where
  check := fun k w b => by
    have hag : (isAgg I).run P w = .ok false w := by simp [isAgg, run_underlying hI]
    have hz := run_sizeOf (w := w) hs
    have hc : ∀ n : Int, (Instr.checkKey b 9999 I (.int .i64 n)).run P w = .ok () w := fun n => by rw [show (9999 : Nat) = 9998 + 1 from rfl, Instr.checkKey]; simp [run_underlying hI]
    rw [show (10000 : Nat) = 9999 + 1 from rfl, Instr.checkKey]
    simp only [Sem.run_bind, run_underlying h, Result.andThen_ok, kP, Std.Legacy.Range.forIn_eq_forIn_range', Std.Legacy.Range.size, Nat.sub_zero, Nat.add_one_sub_one, Nat.div_one]
    simp [List.range', hz, part, hag, hc]
  find := fun k w es ks he => by
    have heq : ∀ a b w, (Op.equal K (kP a) (kP b)).run P w = .ok (decide (b = a)) w := fun a b w => by
      have hag : (isAgg I).run P w = .ok false w := by simp [isAgg, run_underlying hI]
      have hz := run_sizeOf (w := w) hs
      have e1 : ∀ x y : Int, (Op.equalIn 9999 I (.int .i64 x) (.int .i64 y)).run P w = .ok (x == y) w := fun x y => run_equalIn_int (P := P) (w := w) 9998 I .i64 .i64 x y hI
      obtain ⟨a1, a2⟩ := a
      obtain ⟨b1, b2⟩ := b
      simp only [Op.equal, Op.maxDepth, kP]
      rw [Op.equalIn]
      simp only [Sem.run_bind, run_underlying h, Result.andThen_ok, Std.Legacy.Range.forIn_eq_forIn_range', Std.Legacy.Range.size, Nat.sub_zero, Nat.add_one_sub_one, Nat.div_one]
      simp [List.range', hz, part, hag, e1]
      by_cases h1 : a1 = b1
      · subst h1
        by_cases h2 : a2 = b2
        · subst h2; simp
        · have : ¬ b2 = a2 := fun e => h2 e.symm
          simp [h2, this]
      · have : ¬ b1 = a1 := fun e => h1 e.symm
        simp [h1, this]
    obtain ⟨r, h1, h2⟩ := find_asking heq k w es ks 0 he
    have hn : ∀ es : List MapEntry, es ≠ [] → Instr.findNow (.array 2 I) (kP k) es 0 = none := fun es hes => by
      cases es with
      | nil => exact absurd rfl hes
      | cons e es => simp [Instr.findNow, Instr.sameNow]
    refine ⟨r, ?_, by simpa using h2⟩
    cases es with
    | nil =>
      have : r = none := by simpa [Instr.findAsking] using h1.symm
      subst this
      simp [Instr.findKey, run_underlying h, Instr.findNow]
    | cons e es => simp [Instr.findKey, run_underlying h, hn (e :: es) (by simp), h1]
  same := fun k => by simp [kP, Instr.sameBits]
end Go.Rd
namespace Go.Rd
open Go.RowKit Go.MapKept
set_option linter.unusedVariables false
section
variable {κ β : Type} {ke : κ → Value} {ve : β → Value}
structure MapOk (ke : κ → Value) (ve : β → Value) (es : Array MapEntry) (c : Nat) (L : List (κ × β)) : Prop where
  size : es.size = L.length
  ent : ∀ (i : Nat) (p : κ × β), L[i]? = some p → ∃ n, es[i]? = some (MapEntry.mk (ke p.1) (ve p.2) n) ∧ n < c
  born : ∀ (i j : Nat) (e e' : MapEntry), es[i]? = some e → es[j]? = some e' → e.born = e'.born → i = j
theorem MapOk.nil : MapOk ke ve #[] 0 ([] : List (κ × β)) := ⟨rfl, fun i p h => by simp at h, fun i j e e' h => by simp at h⟩
theorem MapOk.keys {es : Array MapEntry} {c : Nat} {L : List (κ × β)} (h : MapOk ke ve es c L) : es.toList.map (·.key) = (L.map (·.1)).map ke := by
  apply List.ext_getElem?
  intro i
  simp only [List.getElem?_map, Array.getElem?_toList]
  cases hL : L[i]? with
  | none =>
    have : es[i]? = none := by
      rw [Array.getElem?_eq_none_iff, h.size]
      exact List.getElem?_eq_none_iff.1 hL
    simp [this]
  | some p =>
    obtain ⟨n, h1, _⟩ := h.ent i p hL
    simp [h1]
/-- One entry's value becomes another. -/
theorem MapOk.setVal {es : Array MapEntry} {c : Nat} {L : List (κ × β)} (h : MapOk ke ve es c L) {i : Nat} {k : κ} {v : β} (hk : ∃ p : κ × β, L[i]? = some p ∧ p.1 = k) : MapOk ke ve (es.modify i fun e => { e with val := ve v }) c (L.set i (k, v)) := by
  obtain ⟨p, hp, rfl⟩ := hk
  refine ⟨by simp [h.size], fun j q hq => ?_, fun a b e e' h1 h2 h3 => ?_⟩
  · rw [List.getElem?_set] at hq
    rw [Array.getElem?_modify]
    by_cases hj : i = j
    · subst hj
      obtain ⟨n, hn, hc⟩ := h.ent i p hp
      split at hq
      · split at hq
        · cases hq; exact ⟨n, by simp [hn], hc⟩
        · cases hq
      · contradiction
    · rw [if_neg hj] at hq ⊢
      exact h.ent j q hq
  · rw [Array.getElem?_modify] at h1 h2
    have key : ∀ a e, (if i = a then Option.map (fun e : MapEntry => { e with val := ve v }) es[a]? else es[a]?) = some e → ∃ e0, es[a]? = some e0 ∧ e0.born = e.born := fun a e h => by
      split at h
      · cases hq : es[a]? with
        | none => simp [hq] at h
        | some e0 => simp [hq] at h; exact ⟨e0, rfl, by rw [← h]⟩
      · exact ⟨e, h, rfl⟩
    obtain ⟨e0, q1, q2⟩ := key a e h1
    obtain ⟨e1, q3, q4⟩ := key b e' h2
    exact h.born a b e0 e1 q1 q3 (by rw [q2, q4, h3])
theorem MapOk.push {es : Array MapEntry} {c : Nat} {L : List (κ × β)} (h : MapOk ke ve es c L) (k : κ) (v : β) : MapOk ke ve (es.push { key := ke k, val := ve v, born := c }) (c + 1) (L ++ [(k, v)]) := by
  have old : ∀ (i : Nat) (e : MapEntry), es[i]? = some e → e.born < c := fun i e he => by
    have hlt : i < L.length := by rw [← h.size]; exact (Array.getElem?_eq_some_iff.1 he).1
    obtain ⟨n, h1, h2⟩ := h.ent i L[i] (List.getElem?_eq_getElem hlt)
    rw [he] at h1; cases h1; exact h2
  refine ⟨by simp [h.size], fun j q hq => ?_, fun a b e e' h1 h2 h3 => ?_⟩
  · rw [Array.getElem?_push]
    by_cases hj : j = es.size
    · rw [if_pos hj]
      have : q = (k, v) := by
        rw [hj, h.size] at hq; simpa using hq.symm
      subst this
      exact ⟨c, rfl, by omega⟩
    · rw [if_neg hj]
      have hlt : j < L.length := by
        have := (List.getElem?_eq_some_iff.1 hq).1
        simp at this
        rw [h.size] at hj; omega
      rw [List.getElem?_append_left hlt] at hq
      obtain ⟨n, q1, q2⟩ := h.ent j q hq
      exact ⟨n, q1, by omega⟩
  · rw [Array.getElem?_push] at h1 h2
    split at h1 <;> split at h2
    · omega
    · cases h1; have := old b e' h2; simp only at h3; omega
    · cases h2; have := old a e h1; simp only at h3; omega
    · exact h.born a b e e' h1 h2 h3
def mapR (b : Nat) (ke : κ → Value) (ve : β → Value) (L : List (κ × β)) : Res where
  foot := fun x => x = b
  holds := fun w => ∃ es c, w.heap[b]? = some (.map es c) ∧ MapOk ke ve es c L
  stable := fun w w' ⟨es, c, h, h2⟩ hk => ⟨es, c, (hk b rfl).trans h, h2⟩
theorem MapOk.find {es : Array MapEntry} {c : Nat} {L : List (κ × β)} (h : MapOk ke ve es c L) {i : Nat} {e : MapEntry} (he : es[i]? = some e) : es.findIdx? (fun x => (x.born : Int) == (e.born : Int)) = some i := by
  obtain ⟨hi, rfl⟩ := Array.getElem?_eq_some_iff.1 he
  rw [Array.findIdx?_eq_some_iff_getElem]
  refine ⟨hi, by simp, fun j hj hc => ?_⟩
  have hji : j < es.size := by omega
  have := h.born j i _ _ (Array.getElem?_eq_getElem hji) (Array.getElem?_eq_getElem hi) (by simp at hc; omega)
  omega
variable [DecidableEq κ]
theorem mget_at {k : κ} {d : β} : ∀ {L : List (κ × β)} {i : Nat}, (L.map (·.1))[i]? = some k → (∀ j < i, (L.map (·.1))[j]? ≠ some k) → ∃ p : κ × β, L[i]? = some p ∧ p.1 = k ∧ mget L k d = p.2
  | [], i, h, _ => by simp at h
  | p :: L, 0, h, _ => by
    simp at h
    exact ⟨p, rfl, h, by rw [mget_cons, if_pos h]⟩
  | p :: L, i + 1, h, hj => by
    have h0 : ¬ p.1 = k := by simpa using hj 0 (by omega)
    obtain ⟨q, h1, h2, h3⟩ := mget_at (k := k) (d := d) (L := L) (i := i) (by simpa using h) (fun j hlt => by simpa using hj (j + 1) (by omega))
    exact ⟨q, by simpa using h1, h2, by rw [mget_cons, if_neg h0, h3]⟩
theorem mget_not {k : κ} {d : β} : ∀ {L : List (κ × β)}, (∀ j ∈ L.map (·.1), j ≠ k) → mget L k d = d
  | [], _ => rfl
  | p :: L, h => by
    rw [mget_cons, if_neg (h p.1 (by simp)), mget_not fun j hj => h j (by simp at hj ⊢; exact .inr hj)]
theorem mput_at {k : κ} {v : β} : ∀ {L : List (κ × β)} {i : Nat}, (L.map (·.1))[i]? = some k → (∀ j < i, (L.map (·.1))[j]? ≠ some k) → mput L k v = L.set i (k, v)
  | [], i, h, _ => by simp at h
  | p :: L, 0, h, _ => by
    simp at h
    simp [mput, h]
  | p :: L, i + 1, h, hj => by
    have h0 : ¬ p.1 = k := by simpa using hj 0 (by omega)
    unfold mput
    rw [if_neg h0, List.set_cons_succ, mput_at (L := L) (i := i) (by simpa using h) (fun j hlt => by simpa using hj (j + 1) (by omega))]
theorem mput_not {k : κ} {v : β} : ∀ {L : List (κ × β)}, (∀ j ∈ L.map (·.1), j ≠ k) → mput L k v = L ++ [(k, v)]
  | [], _ => rfl
  | p :: L, h => by
    unfold mput
    rw [if_neg (h p.1 (by simp)), mput_not fun j hj => h j (by simp at hj ⊢; exact .inr hj)]
    rfl
/-- A map, by what is looked up in it. -/
def mapW (b : Nat) (ke : κ → Value) (ve : β → Value) (dft : β) (L : List (κ × β)) : Res where
  foot := fun x => x = b
  holds := fun w => ∃ L', (mapR b ke ve L').holds w ∧ ∀ key, mget L' key dft = mget L key dft
  stable := fun w w' ⟨L', h, h2⟩ hk => ⟨L', (mapR b ke ve L').stable w w' h hk, h2⟩
/-- A map one entry of which is about to be stored into. -/
def mapMid (b : Nat) (ke : κ → Value) (ve : β → Value) (dft : β) (L : List (κ × β)) (k : κ) (s : Nat) : Res where
  foot := fun x => x = b
  holds := fun w => ∃ es c i, w.heap[b]? = some (.map es c) ∧ (∃ L', MapOk ke ve es c L' ∧ ∀ key, mget L' key dft = mget L key dft) ∧ es.findIdx? (fun e => (e.born : Int) == (s : Int)) = some i ∧ ∀ v, MapOk ke ve (es.modify i fun e => { e with val := ve v }) c (mput L k v)
  stable := fun w w' ⟨es, c, i, h, h2⟩ hk => ⟨es, c, i, (hk b rfl).trans h, h2⟩
end
section
variable {P : Program} {n : Nat} {σ : Env} {M : Nat → Prop} {w0 : World} {H : List Res} {d : Option Tmp} {T U E Kt : TypeId} {pos : String} {after : Array Edge} {gd : Option (Nat × Bool)} {x y z : Operand} {g g' g'' : Bool} {v : Value}
  {K : Act → World → Prop} {Q : Exit → Act → World → Prop} {κ β : Type} {ke : κ → Value} {ve : β → Value} {L : List (κ × β)} {b : Nat}
def MapT (P : Program) (U Kt E : TypeId) : Prop := P.underlying U = some (.map Kt E)
def ZVal (P : Program) (E : TypeId) (v : Value) : Prop := ((P.info? E).map fun i => i.zero) = some (some v)
theorem run_zeroV {w : World} (h : ZVal P E v) : (zeroValue E).run P w = .ok v w := by
  obtain ⟨i, hi, hz⟩ := Option.map_eq_some_iff.1 h
  simp [zeroValue, typeInfo, hi, hz]
theorem EV.makeMap {dd : Nat} (hn : dd < n) (kk : ∀ b, WK n K ((dd, (true, .map (some b))) :: σ) (Own M w0 (mapR b ke ve ([] : List (κ × β)) :: H))) : EV P n ⟨some dd, .makeMap U none, T, pos, after, gd⟩ σ (Own M w0 H) K Q := fun a w ha hw => by
  refine .inl ?_
  have hrun : (execOp a.eval ⟨some dd, .makeMap U none, T, pos, after, gd⟩).run P w = .ok (.value (.map (some w.heap.size))) (w.alloc (.map #[] 0)) := by
    simp [execOp, Instr.makeMap, newObj, Sem.run, Result.andThen]
  unfold Oper.wp
  rw [hrun]
  show K (a.put (some dd) _) _
  refine kk w.heap.size _ _ (ha.put hn true _) (hw.push (w' := w.alloc (.map #[] 0)) ?_ (mapR w.heap.size ke ve []) ⟨#[], 0, heap_alloc_new w _, MapOk.nil⟩ ?_)
  · exact Grow.alloc _
  · intro b hb
    cases hb
    simp
variable [DecidableEq κ]
theorem run_lookup {w : World} {k : κ} {dft : β} {ok : Bool} (hU : MapT P U Kt E) (hK : KeyT P Kt ke) (hz : ZVal P E (ve dft)) (h : (mapR b ke ve L).holds w) : (Instr.lookup U (.map (some b)) (ke k) ok).run P w = .ok (if ok then .tuple #[ve (mget L k dft), .bool (mhas L k)] else ve (mget L k dft)) w := by
  obtain ⟨es, c, hh, hM⟩ := h
  obtain ⟨r, h1, h2⟩ := hK.find k w es.toList (L.map (·.1)) hM.keys
  have hg : (getObj b).run P w = .ok (.map es c) w := by simp [getObj, Sem.run, hh]
  have hc := hK.check k w es.isEmpty
  unfold Instr.lookup
  rcases h2 with ⟨rfl, hn⟩ | ⟨i, e, rfl, he, hk, hj⟩
  · have e1 : mget L k dft = dft := mget_not hn
    have e2 : mhas L k = false := by
      unfold mhas
      rw [List.any_eq_false]
      intro p hp
      simpa using hn p.1 (List.mem_map_of_mem hp)
    simp [run_underlying hU, hg, hc, h1, run_zeroV hz, e1, e2]
  · obtain ⟨p, q1, q2, q3⟩ := mget_at (d := dft) hk hj
    obtain ⟨m, q4, _⟩ := hM.ent i p q1
    have : e.val = ve p.2 := by rw [Array.getElem?_toList, q4] at he; cases he; rfl
    have e2 : mhas L k = true := by
      unfold mhas
      rw [List.any_eq_true]
      exact ⟨p, List.mem_of_getElem? q1, by simpa using q2⟩
    simp [run_underlying hU, hg, hc, h1, q3, this, e2]
theorem QV.lookup {k : κ} (j : Nat) (dft : β) (hU : MapT P U Kt E) (hK : KeyT P Kt ke) (hz : ZVal P E (ve dft)) (hx : σ.ev x = some (g, .map (some b))) (hg : g = true) (hy : σ.ev y = some (g', ke k)) (hg' : g' = true) (hj : H[j]? = some (mapR b ke ve L)) :
    QV P ⟨d, .lookup U x y false, T, pos, after, gd⟩ σ (Own M w0 H) (ve (mget L k dft)) := .of_run fun n a ha w hw => by
  have := run_lookup (k := k) (ok := false) hU hK hz (hw.at j hj)
  simp only [execOp, ha.ev hx hg, ha.ev hy hg', Sem.run_bind, this, Result.andThen_ok, Sem.run_pure]
  rfl
theorem QV.lookup2 {k : κ} (j : Nat) (dft : β) (hU : MapT P U Kt E) (hK : KeyT P Kt ke) (hz : ZVal P E (ve dft)) (hx : σ.ev x = some (g, .map (some b))) (hg : g = true) (hy : σ.ev y = some (g', ke k)) (hg' : g' = true) (hj : H[j]? = some (mapR b ke ve L)) :
    QV P ⟨d, .lookup U x y true, T, pos, after, gd⟩ σ (Own M w0 H) (.tuple #[ve (mget L k dft), .bool (mhas L k)]) := .of_run fun n a ha w hw => by
  have := run_lookup (k := k) (ok := true) hU hK hz (hw.at j hj)
  simp only [execOp, ha.ev hx hg, ha.ev hy hg', Sem.run_bind, this, Result.andThen_ok, Sem.run_pure]
  rfl
theorem map_upd' {w : World} {o : Obj} {r' : Res} {j : Nat} {r : Res} (hw : Own M w0 H w) (hj : H[j]? = some r) (hf : ∀ x, r.foot x ↔ x = b) (hf' : ∀ x, r'.foot x ↔ x = b) {o0 : Obj} (hb : w.heap[b]? = some o0) (hr : r'.holds { w with heap := w.heap.setIfInBounds b o }) :
    Own M w0 (H.set j r') { w with heap := w.heap.setIfInBounds b o } := by
  have hlt : b < w.heap.size := (Array.getElem?_eq_some_iff.1 hb).1
  refine hw.upd j hj rfl rfl ⟨rfl, Nat.le_refl _⟩ (by simp) (fun x hx hn => ?_) hr fun x hx => ?_
  · exact (heap_set hb).2 x fun e => hn ((hf x).2 e)
  · exact ⟨.inl ((hf x).2 ((hf' x).1 hx)), by rw [(hf' x).1 hx]; simpa using hlt⟩
theorem EV.mapEntry {dd : Nat} (hn : dd < n) (k : κ) (j : Nat) (dft : β) (hU : MapT P U Kt E) (hK : KeyT P Kt ke) (hz : ZVal P E (ve dft)) (hx : σ.ev x = some (g, .map (some b))) (hg : g = true) (hy : σ.ev y = some (g', ke k)) (hg' : g' = true) (hj : H[j]? = some (mapR b ke ve L))
    (kk : ∀ s : Nat, WK n K ((dd, (true, .tuple #[ve (mget L k dft), .int .i64 s])) :: σ) (Own M w0 (H.set j (mapMid b ke ve dft L k s)))) : EV P n ⟨some dd, .mapEntry U x y, T, pos, after, gd⟩ σ (Own M w0 H) K Q := fun a w ha hw => by
  refine .inl ?_
  obtain ⟨es, c, hh, hM⟩ := hw.at j hj
  obtain ⟨r, h1, h2⟩ := hK.find k w es.toList (L.map (·.1)) hM.keys
  have hgo : (getObj b).run P w = .ok (.map es c) w := by simp [getObj, Sem.run, hh]
  have hc := hK.check k w false
  rcases h2 with ⟨rfl, hnk⟩ | ⟨i, e, rfl, he, hk, hjj⟩
  · have e1 : mget L k dft = dft := mget_not hnk
    have hrun : (execOp a.eval ⟨some dd, .mapEntry U x y, T, pos, after, gd⟩).run P w = .ok (.value (.tuple #[ve (mget L k dft), .int .i64 c])) { w with heap := w.heap.setIfInBounds b (.map (es.push { key := ke k, val := ve dft, born := c }) (c + 1)) } := by
      simp [execOp, Instr.mapEntry, ha.ev hx hg, ha.ev hy hg', run_underlying hU, hgo, hc, h1, run_zeroV hz, run_setObj_map _ hh, e1, goInt, Result.andThen]
    unfold Oper.wp
    rw [hrun]
    show K (a.put (some dd) _) _
    have hP := hM.push k dft
    refine kk c _ _ (ha.put hn true _) (map_upd' hw hj (fun _ => Iff.rfl) (fun _ => Iff.rfl) hh ⟨_, _, es.size, (heap_set hh).1, ⟨_, hP, fun key => ?_⟩, ?_, fun v => ?_⟩)
    · rw [← mput_not (v := dft) hnk, mget_mput]
      split
      · rename_i e; subst e; exact e1.symm
      · rfl
    · exact hP.find (e := { key := ke k, val := ve dft, born := c }) (by simp)
    · have := hP.setVal (i := es.size) (k := k) (v := v) ⟨(k, dft), by rw [hM.size]; simp, rfl⟩
      rw [mput_not hnk]
      rw [hM.size] at this ⊢
      simpa using this
  · obtain ⟨p, q1, q2, q3⟩ := mget_at (d := dft) hk hjj
    obtain ⟨m, q4, q5⟩ := hM.ent i p q1
    have hev : e = ⟨ke p.1, ve p.2, m⟩ := by rw [Array.getElem?_toList, q4] at he; cases he; rfl
    subst hev
    subst q2
    have hstay : (Instr.keyThatStays (ke p.1) (ke p.1)).run P w = .ok (ke p.1) w := by simp [Instr.keyThatStays, hK.same]
    have hmod : (es.modify i fun e => { e with key := ke p.1 }) = es := by
      apply Array.ext_getElem?
      intro q
      rw [Array.getElem?_modify]
      split
      · rename_i hq; subst hq; rw [q4]; rfl
      · rfl
    have hrun : (execOp a.eval ⟨some dd, .mapEntry U x y, T, pos, after, gd⟩).run P w = .ok (.value (.tuple #[ve (mget L p.1 dft), .int .i64 m])) { w with heap := w.heap.setIfInBounds b (.map es c) } := by
      simp [execOp, Instr.mapEntry, ha.ev hx hg, ha.ev hy hg', run_underlying hU, hgo, hc, h1, q4, hstay, hmod, run_setObj_map _ hh, q3, goInt, Result.andThen]
    unfold Oper.wp
    rw [hrun]
    show K (a.put (some dd) _) _
    refine kk m _ _ (ha.put hn true _) (map_upd' hw hj (fun _ => Iff.rfl) (fun _ => Iff.rfl) hh ⟨_, _, i, (heap_set hh).1, ⟨_, hM, fun _ => rfl⟩, hM.find q4, fun v => ?_⟩)
    rw [mput_at hk hjj]
    exact hM.setVal ⟨p, q1, rfl⟩
theorem EV.entryStore (k : κ) (j : Nat) (u : β) (s : Nat) (hx : σ.ev x = some (g, .map (some b))) (hg : g = true) (hy : σ.ev y = some (g', .int .i64 s)) (hg' : g' = true) (hz : σ.ev z = some (g'', ve u)) (hg'' : g'' = true) {dft : β} (hj : H[j]? = some (mapMid b ke ve dft L k s))
    (kk : WK n K σ (Own M w0 (H.set j (mapR b ke ve (mput L k u))))) : EV P n ⟨none, .entryStore U x y z, T, pos, after, gd⟩ σ (Own M w0 H) K Q := fun a w ha hw => by
  refine .inl ?_
  obtain ⟨es, c, i, hh, _, hf, hM⟩ := hw.at j hj
  have hgo : (getObj b).run P w = .ok (.map es c) w := by simp [getObj, Sem.run, hh]
  have hrun : (execOp a.eval ⟨none, .entryStore U x y z, T, pos, after, gd⟩).run P w = .ok .skip { w with heap := w.heap.setIfInBounds b (.map (es.modify i fun e => { e with val := ve u }) c) } := by
    simp [execOp, Instr.entryStore, ha.ev hx hg, ha.ev hy hg', ha.ev hz hg'', hgo, hf, asInt, asIntOf, run_setObj_map _ hh, Result.andThen]
  unfold Oper.wp
  rw [hrun]
  show K (a.put none undef) _
  exact kk a _ ha (map_upd' hw hj (fun _ => Iff.rfl) (fun _ => Iff.rfl) hh ⟨_, _, (heap_set hh).1, hM u⟩)
theorem EV.mapUpdate (k : κ) (j : Nat) (u : β) (hU : MapT P U Kt E) (hK : KeyT P Kt ke) (hx : σ.ev x = some (g, .map (some b))) (hg : g = true) (hy : σ.ev y = some (g', ke k)) (hg' : g' = true) (hz : σ.ev z = some (g'', ve u)) (hg'' : g'' = true) (hj : H[j]? = some (mapR b ke ve L))
    (kk : WK n K σ (Own M w0 (H.set j (mapR b ke ve (mput L k u))))) : EV P n ⟨none, .mapUpdate U x y z, T, pos, after, gd⟩ σ (Own M w0 H) K Q := fun a w ha hw => by
  refine .inl ?_
  obtain ⟨es, c, hh, hM⟩ := hw.at j hj
  obtain ⟨r, h1, h2⟩ := hK.find k w es.toList (L.map (·.1)) hM.keys
  have hgo : (getObj b).run P w = .ok (.map es c) w := by simp [getObj, Sem.run, hh]
  have hc := hK.check k w false
  rcases h2 with ⟨rfl, hnk⟩ | ⟨i, e, rfl, he, hk, hjj⟩
  · have hrun : (execOp a.eval ⟨none, .mapUpdate U x y z, T, pos, after, gd⟩).run P w = .ok .skip { w with heap := w.heap.setIfInBounds b (.map (es.push { key := ke k, val := ve u, born := c }) (c + 1)) } := by
      simp [execOp, Instr.mapUpdate, ha.ev hx hg, ha.ev hy hg', ha.ev hz hg'', run_underlying hU, hgo, hc, h1, run_setObj_map _ hh, Result.andThen]
    unfold Oper.wp
    rw [hrun]
    show K (a.put none undef) _
    refine kk a _ ha (map_upd' hw hj (fun _ => Iff.rfl) (fun _ => Iff.rfl) hh ⟨_, _, (heap_set hh).1, ?_⟩)
    rw [mput_not hnk]
    exact hM.push k u
  · obtain ⟨p, q1, q2, q3⟩ := mget_at (d := u) hk hjj
    obtain ⟨m, q4, q5⟩ := hM.ent i p q1
    have hev : e = ⟨ke p.1, ve p.2, m⟩ := by rw [Array.getElem?_toList, q4] at he; cases he; rfl
    subst hev
    subst q2
    have hstay : (Instr.keyThatStays (ke p.1) (ke p.1)).run P w = .ok (ke p.1) w := by simp [Instr.keyThatStays, hK.same]
    have hmod : (es.modify i fun e => { e with key := ke p.1, val := ve u }) = (es.modify i fun e => { e with val := ve u }) := by
      apply Array.ext_getElem?
      intro q
      rw [Array.getElem?_modify, Array.getElem?_modify]
      split
      · rename_i hq; subst hq; rw [q4]; rfl
      · rfl
    have hrun : (execOp a.eval ⟨none, .mapUpdate U x y z, T, pos, after, gd⟩).run P w = .ok .skip { w with heap := w.heap.setIfInBounds b (.map (es.modify i fun e => { e with val := ve u }) c) } := by
      simp [execOp, Instr.mapUpdate, ha.ev hx hg, ha.ev hy hg', ha.ev hz hg'', run_underlying hU, hgo, hc, h1, q4, hstay, hmod, run_setObj_map _ hh, Result.andThen]
    unfold Oper.wp
    rw [hrun]
    show K (a.put none undef) _
    refine kk a _ ha (map_upd' hw hj (fun _ => Iff.rfl) (fun _ => Iff.rfl) hh ⟨_, _, (heap_set hh).1, ?_⟩)
    rw [mput_at hk hjj]
    exact hM.setVal ⟨p, q1, rfl⟩
/-- A resource tells less. -/
theorem Own.weak {r r' : Res} {w : World} (k : Nat) (hk : H[k]? = some r) (hr : r.holds w → r'.holds w) (hf : ∀ x, r'.foot x → r.foot x) (h : Own M w0 H w) : Own M w0 (H.set k r') w :=
  h.upd k hk rfl rfl ⟨rfl, Nat.le_refl _⟩ (Nat.le_refl _) (fun _ _ _ => rfl) (hr (h.at k hk)) fun b hb => ⟨.inl (hf b hb), (h.2.lt r (List.mem_of_getElem? hk) b (hf b hb)).2⟩
theorem Own.mapWeak {w : World} (k : Nat) (dft : β) (hk : H[k]? = some (mapR b ke ve L)) (h : Own M w0 H w) : Own M w0 (H.set k (mapW b ke ve dft L)) w :=
  h.weak k hk (fun x => ⟨L, x, fun _ => rfl⟩) fun _ x => x
theorem Own.midWeak {w : World} (k : Nat) {dft : β} {key : κ} {s : Nat} (hk : H[k]? = some (mapMid b ke ve dft L key s)) (h : Own M w0 H w) : Own M w0 (H.set k (mapW b ke ve dft L)) w :=
  h.weak k hk (fun ⟨es, c, i, h1, ⟨L', h2, h3⟩, _⟩ => ⟨L', ⟨es, c, h1, h2⟩, h3⟩) fun _ x => x
theorem QV.lookupW {k : κ} (j : Nat) (dft : β) (hU : MapT P U Kt E) (hK : KeyT P Kt ke) (hz : ZVal P E (ve dft)) (hx : σ.ev x = some (g, .map (some b))) (hg : g = true) (hy : σ.ev y = some (g', ke k)) (hg' : g' = true) (hj : H[j]? = some (mapW b ke ve dft L)) :
    QV P ⟨d, .lookup U x y false, T, pos, after, gd⟩ σ (Own M w0 H) (ve (mget L k dft)) := .of_run fun n a ha w hw => by
  obtain ⟨L', h1, h2⟩ := hw.at j hj
  have := run_lookup (k := k) (ok := false) hU hK hz h1
  rw [h2] at this
  simp only [execOp, ha.ev hx hg, ha.ev hy hg', Sem.run_bind, this, Result.andThen_ok, Sem.run_pure]
  rfl
end
end Go.Rd
