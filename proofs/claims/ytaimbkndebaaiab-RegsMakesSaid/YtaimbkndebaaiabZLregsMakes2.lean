/- Texts that the law stands on: part 2. -/
import Derived.Test.YtaimbkndebaaiabZLregsMakes1
import Derived.MapKept
import Derived.ChangeMaps5
section
namespace Go.Rd
open Go.RowKit Go.MapKept
set_option linter.unusedVariables false
set_option linter.unusedSimpArgs false
section
variable {κ β : Type} [DecidableEq κ]
def mhas (m : List (κ × β)) (k : κ) : Bool := m.any fun p => decide (p.1 = k)
def mget (m : List (κ × β)) (k : κ) (d : β) : β := match m.find? (fun p => decide (p.1 = k)) with
  | some p => p.2
  | none => d
def mput (m : List (κ × β)) (k : κ) (v : β) : List (κ × β) := match m with
  | [] => [(k, v)]
  | p :: r => if p.1 = k then (k, v) :: r else p :: mput r k v
theorem mget_nil {k : κ} {d : β} : mget ([] : List (κ × β)) k d = d := rfl
theorem mget_cons {p : κ × β} {m : List (κ × β)} {k : κ} {d : β} : mget (p :: m) k d = if p.1 = k then p.2 else mget m k d := by
  unfold mget
  rw [List.find?_cons]
  by_cases h : p.1 = k <;> simp [h]
theorem mget_mput {m : List (κ × β)} {k k' : κ} {v d : β} : mget (mput m k v) k' d = if k = k' then v else mget m k' d := by
  induction m with
  | nil => unfold mput; rw [mget_cons]
  | cons p m ih =>
    unfold mput
    by_cases h : p.1 = k
    · rw [if_pos h, mget_cons, mget_cons]
      subst h
      by_cases h2 : p.1 = k' <;> simp [h2]
    · rw [if_neg h, mget_cons, mget_cons, ih]
      by_cases h2 : p.1 = k'
      · have : ¬ k = k' := fun e => h (h2.trans e.symm)
        simp [h2, this]
      · simp [h2]
end
def kI (n : Int) : Value := .int .i64 n
def kP (p : Int × Int) : Value := .agg #[.int .i64 p.1, .int .i64 p.2]
def bv (b : Bool) : Value := .bool b
structure KeyT (P : Program) {κ : Type} [DecidableEq κ] (K : TypeId) (ke : κ → Value) : Prop where
  check : ∀ k w b, (Instr.checkKey b 10000 K (ke k)).run P w = .ok () w
  find : ∀ (k : κ) w (es : List MapEntry) (ks : List κ), es.map (·.key) = ks.map ke → ∃ r, (Instr.findKey K (ke k) es).run P w = .ok r w ∧
    ((r = none ∧ ∀ j ∈ ks, j ≠ k) ∨ (∃ i e, r = some (i, e.val) ∧ es[i]? = some e ∧ ks[i]? = some k ∧ ∀ j < i, ks[j]? ≠ some k))
  same : ∀ k, Instr.sameBits 10000 (ke k) (ke k) = true
theorem find_asking {P : Program} {κ : Type} [DecidableEq κ] {K : TypeId} {ke : κ → Value} (heq : ∀ a b w, (Op.equal K (ke a) (ke b)).run P w = .ok (decide (b = a)) w) (k : κ) (w : World) : ∀ (es : List MapEntry) (ks : List κ) (n : Nat), es.map (·.key) = ks.map ke →
    ∃ r, (Instr.findAsking K (ke k) es n).run P w = .ok r w ∧ ((r = none ∧ ∀ j ∈ ks, j ≠ k) ∨ (∃ i e, r = some (n + i, e.val) ∧ es[i]? = some e ∧ ks[i]? = some k ∧ ∀ j < i, ks[j]? ≠ some k))
  | [], [], n, _ => ⟨none, by simp [Instr.findAsking], .inl ⟨rfl, fun j hj => by cases hj⟩⟩
  | [], _ :: _, n, h => by simp at h
  | _ :: _, [], n, h => by simp at h
  | e :: es, k' :: ks, n, h => by
    simp only [List.map_cons, List.cons.injEq] at h
    have hq := heq k k' w
    by_cases hk : k' = k
    · subst hk
      refine ⟨some (n, e.val), ?_, .inr ⟨0, e, rfl, rfl, rfl, fun j hj => by omega⟩⟩
      simp [Instr.findAsking, h.1, hq]
    · obtain ⟨r, hr, hh⟩ := find_asking heq k w es ks (n + 1) h.2
      refine ⟨r, ?_, ?_⟩
      · simp [Instr.findAsking, h.1, hq, hk, hr]
      · rcases hh with ⟨a, b⟩ | ⟨i, e', a, b, c, d⟩
        · exact .inl ⟨a, fun j hj => by rcases List.mem_cons.1 hj with rfl | hj; exact hk; exact b j hj⟩
        · refine .inr ⟨i + 1, e', by rw [a]; congr 2; omega, by simpa using b, by simpa using c, fun j hj => ?_⟩
          cases j with
          | zero => simpa using hk
          | succ j => simpa using d j (by omega)
theorem find_now {P : Program} {K : TypeId} {t : IntKind} (k : Int) : ∀ (es : List MapEntry) (ks : List Int) (n : Nat), es.map (·.key) = ks.map kI →
    ∃ r, Instr.findNow (.int t) (kI k) es n = some r ∧ ((r = none ∧ ∀ j ∈ ks, j ≠ k) ∨ (∃ i e, r = some (n + i, e.val) ∧ es[i]? = some e ∧ ks[i]? = some k ∧ ∀ j < i, ks[j]? ≠ some k))
  | [], [], n, _ => ⟨none, by simp [Instr.findNow], .inl ⟨rfl, fun j hj => by cases hj⟩⟩
  | [], _ :: _, n, h => by simp at h
  | _ :: _, [], n, h => by simp at h
  | e :: es, k' :: ks, n, h => by
    simp only [List.map_cons, List.cons.injEq] at h
    by_cases hk : k' = k
    · subst hk
      exact ⟨some (n, e.val), by simp [Instr.findNow, h.1, kI, Instr.sameNow], .inr ⟨0, e, rfl, rfl, rfl, fun j hj => by omega⟩⟩
    · obtain ⟨r, hr, hh⟩ := find_now (P := P) (K := K) (t := t) k es ks (n + 1) h.2
      refine ⟨r, ?_, ?_⟩
      · have hk2 : (k == k') = false := by simp; exact fun e => hk e.symm
        unfold kI at hr
        simp [Instr.findNow, h.1, kI, Instr.sameNow, hk2, hr]
      · rcases hh with ⟨a, b⟩ | ⟨i, e', a, b, c, d⟩
        · exact .inl ⟨a, fun j hj => by rcases List.mem_cons.1 hj with rfl | hj; exact hk; exact b j hj⟩
        · refine .inr ⟨i + 1, e', by rw [a]; congr 2; omega, by simpa using b, by simpa using c, fun j hj => ?_⟩
          cases j with
          | zero => simpa using hk
          | succ j => simpa using d j (by omega)
theorem KeyT.int {P : Program} {K : TypeId} (h : P.underlying K = some (.int .i64)) : KeyT P K kI where
  check := fun k w b => by rw [show (10000 : Nat) = 9999 + 1 from rfl, Instr.checkKey]; simp [run_underlying h, kI]
  find := fun k w es ks he => by
    obtain ⟨r, h1, h2⟩ := find_now (P := P) (K := K) (t := .i64) k es ks 0 he
    refine ⟨r, by rw [run_findKey h h1], ?_⟩
    simpa using h2
  same := fun k => by simp [kI, Instr.sameBits]
theorem KeyT.pair {P : Program} {K I : TypeId} (h : P.underlying K = some (.array 2 I)) (hI : P.underlying I = some (.int .i64)) (hs : (P.info? I).map (·.size) = some 1) : KeyT P K kP where
  check := fun k w b => by
    have hag : (isAgg I).run P w = .ok false w := by simp [isAgg, run_underlying hI]
    have hz := run_sizeOf (w := w) hs
    have hc : ∀ n : Int, (Instr.checkKey b 9999 I (.int .i64 n)).run P w = .ok () w := fun n => by rw [show (9999 : Nat) = 9998 + 1 from rfl, Instr.checkKey]; simp [run_underlying hI]
    rw [show (10000 : Nat) = 9999 + 1 from rfl, Instr.checkKey]
    simp only [Sem.run_bind, run_underlying h, Result.andThen_ok, kP, Std.Legacy.Range.forIn_eq_forIn_range', Std.Legacy.Range.size, Nat.sub_zero, Nat.add_one_sub_one, Nat.div_one]
    simp [List.range', hz, part, hag, hc]
  find := fun k w es ks he => by
    have heq : ∀ a b w, (Op.equal K (kP a) (kP b)).run P w = .ok (decide (b = a)) w := fun a b w => by
      have hag : (isAgg I).run P w = .ok false w := by simp [isAgg, run_underlying hI]
      have hz := run_sizeOf (w := w) hs
      have e1 : ∀ x y : Int, (Op.equalIn 9999 I (.int .i64 x) (.int .i64 y)).run P w = .ok (x == y) w := fun x y => run_equalIn_int (P := P) (w := w) 9998 I .i64 .i64 x y hI
      obtain ⟨a1, a2⟩ := a
      obtain ⟨b1, b2⟩ := b
      simp only [Op.equal, Op.maxDepth, kP]
      rw [Op.equalIn]
      simp only [Sem.run_bind, run_underlying h, Result.andThen_ok, Std.Legacy.Range.forIn_eq_forIn_range', Std.Legacy.Range.size, Nat.sub_zero, Nat.add_one_sub_one, Nat.div_one]
      simp [List.range', hz, part, hag, e1]
      by_cases h1 : a1 = b1
      · subst h1
        by_cases h2 : a2 = b2
        · subst h2; simp
        · have : ¬ b2 = a2 := fun e => h2 e.symm
          simp [h2, this]
      · have : ¬ b1 = a1 := fun e => h1 e.symm
        simp [h1, this]
    obtain ⟨r, h1, h2⟩ := find_asking heq k w es ks 0 he
    have hn : ∀ es : List MapEntry, es ≠ [] → Instr.findNow (.array 2 I) (kP k) es 0 = none := fun es hes => by
      cases es with
      | nil => exact absurd rfl hes
      | cons e es => simp [Instr.findNow, Instr.sameNow]
    refine ⟨r, ?_, by simpa using h2⟩
    cases es with
    | nil =>
      have : r = none := by simpa [Instr.findAsking] using h1.symm
      subst this
      simp [Instr.findKey, run_underlying h, Instr.findNow]
    | cons e es => simp [Instr.findKey, run_underlying h, hn (e :: es) (by simp), h1]
  same := fun k => by simp [kP, Instr.sameBits]
end Go.Rd
namespace Go.Rd
open Go.RowKit Go.MapKept
set_option linter.unusedVariables false
section
variable {κ β : Type} {ke : κ → Value} {ve : β → Value}
structure MapOk (ke : κ → Value) (ve : β → Value) (es : Array MapEntry) (c : Nat) (L : List (κ × β)) : Prop where
  size : es.size = L.length
  ent : ∀ (i : Nat) (p : κ × β), L[i]? = some p → ∃ n, es[i]? = some (MapEntry.mk (ke p.1) (ve p.2) n) ∧ n < c
  born : ∀ (i j : Nat) (e e' : MapEntry), es[i]? = some e → es[j]? = some e' → e.born = e'.born → i = j
theorem MapOk.nil : MapOk ke ve #[] 0 ([] : List (κ × β)) := ⟨rfl, fun i p h => by simp at h, fun i j e e' h => by simp at h⟩
theorem MapOk.keys {es : Array MapEntry} {c : Nat} {L : List (κ × β)} (h : MapOk ke ve es c L) : es.toList.map (·.key) = (L.map (·.1)).map ke := by
  apply List.ext_getElem?
  intro i
  simp only [List.getElem?_map, Array.getElem?_toList]
  cases hL : L[i]? with
  | none =>
    have : es[i]? = none := by
      rw [Array.getElem?_eq_none_iff, h.size]
      exact List.getElem?_eq_none_iff.1 hL
    simp [this]
  | some p =>
    obtain ⟨n, h1, _⟩ := h.ent i p hL
    simp [h1]
theorem MapOk.setVal {es : Array MapEntry} {c : Nat} {L : List (κ × β)} (h : MapOk ke ve es c L) {i : Nat} {k : κ} {v : β} (hk : ∃ p : κ × β, L[i]? = some p ∧ p.1 = k) : MapOk ke ve (es.modify i fun e => { e with val := ve v }) c (L.set i (k, v)) := by
  obtain ⟨p, hp, rfl⟩ := hk
  refine ⟨by simp [h.size], fun j q hq => ?_, fun a b e e' h1 h2 h3 => ?_⟩
  · rw [List.getElem?_set] at hq
    rw [Array.getElem?_modify]
    by_cases hj : i = j
    · subst hj
      obtain ⟨n, hn, hc⟩ := h.ent i p hp
      split at hq
      · split at hq
        · cases hq; exact ⟨n, by simp [hn], hc⟩
        · cases hq
      · contradiction
    · rw [if_neg hj] at hq ⊢
      exact h.ent j q hq
  · rw [Array.getElem?_modify] at h1 h2
    have key : ∀ a e, (if i = a then Option.map (fun e : MapEntry => { e with val := ve v }) es[a]? else es[a]?) = some e → ∃ e0, es[a]? = some e0 ∧ e0.born = e.born := fun a e h => by
      split at h
      · cases hq : es[a]? with
        | none => simp [hq] at h
        | some e0 => simp [hq] at h; exact ⟨e0, rfl, by rw [← h]⟩
      · exact ⟨e, h, rfl⟩
    obtain ⟨e0, q1, q2⟩ := key a e h1
    obtain ⟨e1, q3, q4⟩ := key b e' h2
    exact h.born a b e0 e1 q1 q3 (by rw [q2, q4, h3])
theorem MapOk.push {es : Array MapEntry} {c : Nat} {L : List (κ × β)} (h : MapOk ke ve es c L) (k : κ) (v : β) : MapOk ke ve (es.push { key := ke k, val := ve v, born := c }) (c + 1) (L ++ [(k, v)]) := by
  have old : ∀ (i : Nat) (e : MapEntry), es[i]? = some e → e.born < c := fun i e he => by
    have hlt : i < L.length := by rw [← h.size]; exact (Array.getElem?_eq_some_iff.1 he).1
    obtain ⟨n, h1, h2⟩ := h.ent i L[i] (List.getElem?_eq_getElem hlt)
    rw [he] at h1; cases h1; exact h2
  refine ⟨by simp [h.size], fun j q hq => ?_, fun a b e e' h1 h2 h3 => ?_⟩
  · rw [Array.getElem?_push]
    by_cases hj : j = es.size
    · rw [if_pos hj]
      have : q = (k, v) := by
        rw [hj, h.size] at hq; simpa using hq.symm
      subst this
      exact ⟨c, rfl, by omega⟩
    · rw [if_neg hj]
      have hlt : j < L.length := by
        have := (List.getElem?_eq_some_iff.1 hq).1
        simp at this
        rw [h.size] at hj; omega
      rw [List.getElem?_append_left hlt] at hq
      obtain ⟨n, q1, q2⟩ := h.ent j q hq
      exact ⟨n, q1, by omega⟩
  · rw [Array.getElem?_push] at h1 h2
    split at h1 <;> split at h2
    · omega
    · cases h1; have := old b e' h2; simp only at h3; omega
    · cases h2; have := old a e h1; simp only at h3; omega
    · exact h.born a b e e' h1 h2 h3
def mapR (b : Nat) (ke : κ → Value) (ve : β → Value) (L : List (κ × β)) : Res where
  foot := fun x => x = b
  holds := fun w => ∃ es c, w.heap[b]? = some (.map es c) ∧ MapOk ke ve es c L
  stable := fun w w' ⟨es, c, h, h2⟩ hk => ⟨es, c, (hk b rfl).trans h, h2⟩
theorem MapOk.find {es : Array MapEntry} {c : Nat} {L : List (κ × β)} (h : MapOk ke ve es c L) {i : Nat} {e : MapEntry} (he : es[i]? = some e) : es.findIdx? (fun x => (x.born : Int) == (e.born : Int)) = some i := by
  obtain ⟨hi, rfl⟩ := Array.getElem?_eq_some_iff.1 he
  rw [Array.findIdx?_eq_some_iff_getElem]
  refine ⟨hi, by simp, fun j hj hc => ?_⟩
  have hji : j < es.size := by omega
  have := h.born j i _ _ (Array.getElem?_eq_getElem hji) (Array.getElem?_eq_getElem hi) (by simp at hc; omega)
  omega
variable [DecidableEq κ]
theorem mget_at {k : κ} {d : β} : ∀ {L : List (κ × β)} {i : Nat}, (L.map (·.1))[i]? = some k → (∀ j < i, (L.map (·.1))[j]? ≠ some k) → ∃ p : κ × β, L[i]? = some p ∧ p.1 = k ∧ mget L k d = p.2
  | [], i, h, _ => by simp at h
  | p :: L, 0, h, _ => by
    simp at h
    exact ⟨p, rfl, h, by rw [mget_cons, if_pos h]⟩
  | p :: L, i + 1, h, hj => by
    have h0 : ¬ p.1 = k := by simpa using hj 0 (by omega)
    obtain ⟨q, h1, h2, h3⟩ := mget_at (k := k) (d := d) (L := L) (i := i) (by simpa using h) (fun j hlt => by simpa using hj (j + 1) (by omega))
    exact ⟨q, by simpa using h1, h2, by rw [mget_cons, if_neg h0, h3]⟩
theorem mget_not {k : κ} {d : β} : ∀ {L : List (κ × β)}, (∀ j ∈ L.map (·.1), j ≠ k) → mget L k d = d
  | [], _ => rfl
  | p :: L, h => by
    rw [mget_cons, if_neg (h p.1 (by simp)), mget_not fun j hj => h j (by simp at hj ⊢; exact .inr hj)]
theorem mput_at {k : κ} {v : β} : ∀ {L : List (κ × β)} {i : Nat}, (L.map (·.1))[i]? = some k → (∀ j < i, (L.map (·.1))[j]? ≠ some k) → mput L k v = L.set i (k, v)
  | [], i, h, _ => by simp at h
  | p :: L, 0, h, _ => by
    simp at h
    simp [mput, h]
  | p :: L, i + 1, h, hj => by
    have h0 : ¬ p.1 = k := by simpa using hj 0 (by omega)
    unfold mput
    rw [if_neg h0, List.set_cons_succ, mput_at (L := L) (i := i) (by simpa using h) (fun j hlt => by simpa using hj (j + 1) (by omega))]
theorem mput_not {k : κ} {v : β} : ∀ {L : List (κ × β)}, (∀ j ∈ L.map (·.1), j ≠ k) → mput L k v = L ++ [(k, v)]
  | [], _ => rfl
  | p :: L, h => by
    unfold mput
    rw [if_neg (h p.1 (by simp)), mput_not fun j hj => h j (by simp at hj ⊢; exact .inr hj)]
    rfl
def mapW (b : Nat) (ke : κ → Value) (ve : β → Value) (dft : β) (L : List (κ × β)) : Res where
  foot := fun x => x = b
  holds := fun w => ∃ L', (mapR b ke ve L').holds w ∧ ∀ key, mget L' key dft = mget L key dft
  stable := fun w w' ⟨L', h, h2⟩ hk => ⟨L', (mapR b ke ve L').stable w w' h hk, h2⟩
def mapMid (b : Nat) (ke : κ → Value) (ve : β → Value) (dft : β) (L : List (κ × β)) (k : κ) (s : Nat) : Res where
  foot := fun x => x = b
  holds := fun w => ∃ es c i, w.heap[b]? = some (.map es c) ∧ (∃ L', MapOk ke ve es c L' ∧ ∀ key, mget L' key dft = mget L key dft) ∧ es.findIdx? (fun e => (e.born : Int) == (s : Int)) = some i ∧ ∀ v, MapOk ke ve (es.modify i fun e => { e with val := ve v }) c (mput L k v)
  stable := fun w w' ⟨es, c, i, h, h2⟩ hk => ⟨es, c, i, (hk b rfl).trans h, h2⟩
end
section
variable {P : Program} {n : Nat} {σ : Env} {M : Nat → Prop} {w0 : World} {H : List Res} {d : Option Tmp} {T U E Kt : TypeId} {pos : String} {after : Array Edge} {gd : Option (Nat × Bool)} {x y z : Operand} {g g' g'' : Bool} {v : Value}
  {K : Act → World → Prop} {Q : Exit → Act → World → Prop} {κ β : Type} {ke : κ → Value} {ve : β → Value} {L : List (κ × β)} {b : Nat}
def MapT (P : Program) (U Kt E : TypeId) : Prop := P.underlying U = some (.map Kt E)
def ZVal (P : Program) (E : TypeId) (v : Value) : Prop := ((P.info? E).map fun i => i.zero) = some (some v)
theorem run_zeroV {w : World} (h : ZVal P E v) : (zeroValue E).run P w = .ok v w := by
  obtain ⟨i, hi, hz⟩ := Option.map_eq_some_iff.1 h
  simp [zeroValue, typeInfo, hi, hz]
theorem EV.makeMap {dd : Nat} (hn : dd < n) (kk : ∀ b, WK n K ((dd, (true, .map (some b))) :: σ) (Own M w0 (mapR b ke ve ([] : List (κ × β)) :: H))) : EV P n ⟨some dd, .makeMap U none, T, pos, after, gd⟩ σ (Own M w0 H) K Q := fun a w ha hw => by
  refine .inl ?_
  have hrun : (execOp a.eval ⟨some dd, .makeMap U none, T, pos, after, gd⟩).run P w = .ok (.value (.map (some w.heap.size))) (w.alloc (.map #[] 0)) := by
    simp [execOp, Instr.makeMap, newObj, Sem.run, Result.andThen]
  unfold Oper.wp
  rw [hrun]
  show K (a.put (some dd) _) _
  refine kk w.heap.size _ _ (ha.put hn true _) (hw.push (w' := w.alloc (.map #[] 0)) ?_ (mapR w.heap.size ke ve []) ⟨#[], 0, heap_alloc_new w _, MapOk.nil⟩ ?_)
  · exact Grow.alloc _
  · intro b hb
    cases hb
    simp
variable [DecidableEq κ]
theorem run_lookup {w : World} {k : κ} {dft : β} {ok : Bool} (hU : MapT P U Kt E) (hK : KeyT P Kt ke) (hz : ZVal P E (ve dft)) (h : (mapR b ke ve L).holds w) : (Instr.lookup U (.map (some b)) (ke k) ok).run P w = .ok (if ok then .tuple #[ve (mget L k dft), .bool (mhas L k)] else ve (mget L k dft)) w := by
  obtain ⟨es, c, hh, hM⟩ := h
  obtain ⟨r, h1, h2⟩ := hK.find k w es.toList (L.map (·.1)) hM.keys
  have hg : (getObj b).run P w = .ok (.map es c) w := by simp [getObj, Sem.run, hh]
  have hc := hK.check k w es.isEmpty
  unfold Instr.lookup
  rcases h2 with ⟨rfl, hn⟩ | ⟨i, e, rfl, he, hk, hj⟩
  · have e1 : mget L k dft = dft := mget_not hn
    have e2 : mhas L k = false := by
      unfold mhas
      rw [List.any_eq_false]
      intro p hp
      simpa using hn p.1 (List.mem_map_of_mem hp)
    simp [run_underlying hU, hg, hc, h1, run_zeroV hz, e1, e2]
  · obtain ⟨p, q1, q2, q3⟩ := mget_at (d := dft) hk hj
    obtain ⟨m, q4, _⟩ := hM.ent i p q1
    have : e.val = ve p.2 := by rw [Array.getElem?_toList, q4] at he; cases he; rfl
    have e2 : mhas L k = true := by
      unfold mhas
      rw [List.any_eq_true]
      exact ⟨p, List.mem_of_getElem? q1, by simpa using q2⟩
    simp [run_underlying hU, hg, hc, h1, q3, this, e2]
theorem QV.lookup {k : κ} (j : Nat) (dft : β) (hU : MapT P U Kt E) (hK : KeyT P Kt ke) (hz : ZVal P E (ve dft)) (hx : σ.ev x = some (g, .map (some b))) (hg : g = true) (hy : σ.ev y = some (g', ke k)) (hg' : g' = true) (hj : H[j]? = some (mapR b ke ve L)) :
    QV P ⟨d, .lookup U x y false, T, pos, after, gd⟩ σ (Own M w0 H) (ve (mget L k dft)) := .of_run fun n a ha w hw => by
  have := run_lookup (k := k) (ok := false) hU hK hz (hw.at j hj)
  simp only [execOp, ha.ev hx hg, ha.ev hy hg', Sem.run_bind, this, Result.andThen_ok, Sem.run_pure]
  rfl
theorem map_upd' {w : World} {o : Obj} {r' : Res} {j : Nat} {r : Res} (hw : Own M w0 H w) (hj : H[j]? = some r) (hf : ∀ x, r.foot x ↔ x = b) (hf' : ∀ x, r'.foot x ↔ x = b) {o0 : Obj} (hb : w.heap[b]? = some o0) (hr : r'.holds { w with heap := w.heap.setIfInBounds b o }) :
    Own M w0 (H.set j r') { w with heap := w.heap.setIfInBounds b o } := by
  have hlt : b < w.heap.size := (Array.getElem?_eq_some_iff.1 hb).1
  refine hw.upd j hj rfl rfl ⟨rfl, Nat.le_refl _⟩ (by simp) (fun x hx hn => ?_) hr fun x hx => ?_
  · exact (heap_set hb).2 x fun e => hn ((hf x).2 e)
  · exact ⟨.inl ((hf x).2 ((hf' x).1 hx)), by rw [(hf' x).1 hx]; simpa using hlt⟩
theorem EV.mapEntry {dd : Nat} (hn : dd < n) (k : κ) (j : Nat) (dft : β) (hU : MapT P U Kt E) (hK : KeyT P Kt ke) (hz : ZVal P E (ve dft)) (hx : σ.ev x = some (g, .map (some b))) (hg : g = true) (hy : σ.ev y = some (g', ke k)) (hg' : g' = true) (hj : H[j]? = some (mapR b ke ve L))
    (kk : ∀ s : Nat, WK n K ((dd, (true, .tuple #[ve (mget L k dft), .int .i64 s])) :: σ) (Own M w0 (H.set j (mapMid b ke ve dft L k s)))) : EV P n ⟨some dd, .mapEntry U x y, T, pos, after, gd⟩ σ (Own M w0 H) K Q := fun a w ha hw => by
  refine .inl ?_
  obtain ⟨es, c, hh, hM⟩ := hw.at j hj
  obtain ⟨r, h1, h2⟩ := hK.find k w es.toList (L.map (·.1)) hM.keys
  have hgo : (getObj b).run P w = .ok (.map es c) w := by simp [getObj, Sem.run, hh]
  have hc := hK.check k w false
  rcases h2 with ⟨rfl, hnk⟩ | ⟨i, e, rfl, he, hk, hjj⟩
  · have e1 : mget L k dft = dft := mget_not hnk
    have hrun : (execOp a.eval ⟨some dd, .mapEntry U x y, T, pos, after, gd⟩).run P w = .ok (.value (.tuple #[ve (mget L k dft), .int .i64 c])) { w with heap := w.heap.setIfInBounds b (.map (es.push { key := ke k, val := ve dft, born := c }) (c + 1)) } := by
      simp [execOp, Instr.mapEntry, ha.ev hx hg, ha.ev hy hg', run_underlying hU, hgo, hc, h1, run_zeroV hz, run_setObj_map _ hh, e1, goInt, Result.andThen]
    unfold Oper.wp
    rw [hrun]
    show K (a.put (some dd) _) _
    have hP := hM.push k dft
    refine kk c _ _ (ha.put hn true _) (map_upd' hw hj (fun _ => Iff.rfl) (fun _ => Iff.rfl) hh ⟨_, _, es.size, (heap_set hh).1, ⟨_, hP, fun key => ?_⟩, ?_, fun v => ?_⟩)
    · rw [← mput_not (v := dft) hnk, mget_mput]
      split
      · rename_i e; subst e; exact e1.symm
      · rfl
    · exact hP.find (e := { key := ke k, val := ve dft, born := c }) (by simp)
    · have := hP.setVal (i := es.size) (k := k) (v := v) ⟨(k, dft), by rw [hM.size]; simp, rfl⟩
      rw [mput_not hnk]
      rw [hM.size] at this ⊢
      simpa using this
  · obtain ⟨p, q1, q2, q3⟩ := mget_at (d := dft) hk hjj
    obtain ⟨m, q4, q5⟩ := hM.ent i p q1
    have hev : e = ⟨ke p.1, ve p.2, m⟩ := by rw [Array.getElem?_toList, q4] at he; cases he; rfl
    subst hev
    subst q2
    have hstay : (Instr.keyThatStays (ke p.1) (ke p.1)).run P w = .ok (ke p.1) w := by simp [Instr.keyThatStays, hK.same]
    have hmod : (es.modify i fun e => { e with key := ke p.1 }) = es := by
      apply Array.ext_getElem?
      intro q
      rw [Array.getElem?_modify]
      split
      · rename_i hq; subst hq; rw [q4]; rfl
      · rfl
    have hrun : (execOp a.eval ⟨some dd, .mapEntry U x y, T, pos, after, gd⟩).run P w = .ok (.value (.tuple #[ve (mget L p.1 dft), .int .i64 m])) { w with heap := w.heap.setIfInBounds b (.map es c) } := by
      simp [execOp, Instr.mapEntry, ha.ev hx hg, ha.ev hy hg', run_underlying hU, hgo, hc, h1, q4, hstay, hmod, run_setObj_map _ hh, q3, goInt, Result.andThen]
    unfold Oper.wp
    rw [hrun]
    show K (a.put (some dd) _) _
    refine kk m _ _ (ha.put hn true _) (map_upd' hw hj (fun _ => Iff.rfl) (fun _ => Iff.rfl) hh ⟨_, _, i, (heap_set hh).1, ⟨_, hM, fun _ => rfl⟩, hM.find q4, fun v => ?_⟩)
    rw [mput_at hk hjj]
    exact hM.setVal ⟨p, q1, rfl⟩
theorem EV.entryStore (k : κ) (j : Nat) (u : β) (s : Nat) (hx : σ.ev x = some (g, .map (some b))) (hg : g = true) (hy : σ.ev y = some (g', .int .i64 s)) (hg' : g' = true) (hz : σ.ev z = some (g'', ve u)) (hg'' : g'' = true) {dft : β} (hj : H[j]? = some (mapMid b ke ve dft L k s))
    (kk : WK n K σ (Own M w0 (H.set j (mapR b ke ve (mput L k u))))) : EV P n ⟨none, .entryStore U x y z, T, pos, after, gd⟩ σ (Own M w0 H) K Q := fun a w ha hw => by
  refine .inl ?_
  obtain ⟨es, c, i, hh, _, hf, hM⟩ := hw.at j hj
  have hgo : (getObj b).run P w = .ok (.map es c) w := by simp [getObj, Sem.run, hh]
  have hrun : (execOp a.eval ⟨none, .entryStore U x y z, T, pos, after, gd⟩).run P w = .ok .skip { w with heap := w.heap.setIfInBounds b (.map (es.modify i fun e => { e with val := ve u }) c) } := by
    simp [execOp, Instr.entryStore, ha.ev hx hg, ha.ev hy hg', ha.ev hz hg'', hgo, hf, asInt, asIntOf, run_setObj_map _ hh, Result.andThen]
  unfold Oper.wp
  rw [hrun]
  show K (a.put none undef) _
  exact kk a _ ha (map_upd' hw hj (fun _ => Iff.rfl) (fun _ => Iff.rfl) hh ⟨_, _, (heap_set hh).1, hM u⟩)
theorem EV.mapUpdate (k : κ) (j : Nat) (u : β) (hU : MapT P U Kt E) (hK : KeyT P Kt ke) (hx : σ.ev x = some (g, .map (some b))) (hg : g = true) (hy : σ.ev y = some (g', ke k)) (hg' : g' = true) (hz : σ.ev z = some (g'', ve u)) (hg'' : g'' = true) (hj : H[j]? = some (mapR b ke ve L))
    (kk : WK n K σ (Own M w0 (H.set j (mapR b ke ve (mput L k u))))) : EV P n ⟨none, .mapUpdate U x y z, T, pos, after, gd⟩ σ (Own M w0 H) K Q := fun a w ha hw => by
  refine .inl ?_
  obtain ⟨es, c, hh, hM⟩ := hw.at j hj
  obtain ⟨r, h1, h2⟩ := hK.find k w es.toList (L.map (·.1)) hM.keys
  have hgo : (getObj b).run P w = .ok (.map es c) w := by simp [getObj, Sem.run, hh]
  have hc := hK.check k w false
  rcases h2 with ⟨rfl, hnk⟩ | ⟨i, e, rfl, he, hk, hjj⟩
  · have hrun : (execOp a.eval ⟨none, .mapUpdate U x y z, T, pos, after, gd⟩).run P w = .ok .skip { w with heap := w.heap.setIfInBounds b (.map (es.push { key := ke k, val := ve u, born := c }) (c + 1)) } := by
      simp [execOp, Instr.mapUpdate, ha.ev hx hg, ha.ev hy hg', ha.ev hz hg'', run_underlying hU, hgo, hc, h1, run_setObj_map _ hh, Result.andThen]
    unfold Oper.wp
    rw [hrun]
    show K (a.put none undef) _
    refine kk a _ ha (map_upd' hw hj (fun _ => Iff.rfl) (fun _ => Iff.rfl) hh ⟨_, _, (heap_set hh).1, ?_⟩)
    rw [mput_not hnk]
    exact hM.push k u
  · obtain ⟨p, q1, q2, q3⟩ := mget_at (d := u) hk hjj
    obtain ⟨m, q4, q5⟩ := hM.ent i p q1
    have hev : e = ⟨ke p.1, ve p.2, m⟩ := by rw [Array.getElem?_toList, q4] at he; cases he; rfl
    subst hev
    subst q2
    have hstay : (Instr.keyThatStays (ke p.1) (ke p.1)).run P w = .ok (ke p.1) w := by simp [Instr.keyThatStays, hK.same]
    have hmod : (es.modify i fun e => { e with key := ke p.1, val := ve u }) = (es.modify i fun e => { e with val := ve u }) := by
      apply Array.ext_getElem?
      intro q
      rw [Array.getElem?_modify, Array.getElem?_modify]
      split
      · rename_i hq; subst hq; rw [q4]; rfl
      · rfl
    have hrun : (execOp a.eval ⟨none, .mapUpdate U x y z, T, pos, after, gd⟩).run P w = .ok .skip { w with heap := w.heap.setIfInBounds b (.map (es.modify i fun e => { e with val := ve u }) c) } := by
      simp [execOp, Instr.mapUpdate, ha.ev hx hg, ha.ev hy hg', ha.ev hz hg'', run_underlying hU, hgo, hc, h1, q4, hstay, hmod, run_setObj_map _ hh, Result.andThen]
    unfold Oper.wp
    rw [hrun]
    show K (a.put none undef) _
    refine kk a _ ha (map_upd' hw hj (fun _ => Iff.rfl) (fun _ => Iff.rfl) hh ⟨_, _, (heap_set hh).1, ?_⟩)
    rw [mput_at hk hjj]
    exact hM.setVal ⟨p, q1, rfl⟩
theorem Own.weak {r r' : Res} {w : World} (k : Nat) (hk : H[k]? = some r) (hr : r.holds w → r'.holds w) (hf : ∀ x, r'.foot x → r.foot x) (h : Own M w0 H w) : Own M w0 (H.set k r') w :=
  h.upd k hk rfl rfl ⟨rfl, Nat.le_refl _⟩ (Nat.le_refl _) (fun _ _ _ => rfl) (hr (h.at k hk)) fun b hb => ⟨.inl (hf b hb), (h.2.lt r (List.mem_of_getElem? hk) b (hf b hb)).2⟩
theorem Own.mapWeak {w : World} (k : Nat) (dft : β) (hk : H[k]? = some (mapR b ke ve L)) (h : Own M w0 H w) : Own M w0 (H.set k (mapW b ke ve dft L)) w :=
  h.weak k hk (fun x => ⟨L, x, fun _ => rfl⟩) fun _ x => x
theorem Own.midWeak {w : World} (k : Nat) {dft : β} {key : κ} {s : Nat} (hk : H[k]? = some (mapMid b ke ve dft L key s)) (h : Own M w0 H w) : Own M w0 (H.set k (mapW b ke ve dft L)) w :=
  h.weak k hk (fun ⟨es, c, i, h1, ⟨L', h2, h3⟩, _⟩ => ⟨L', ⟨es, c, h1, h2⟩, h3⟩) fun _ x => x
theorem QV.lookupW {k : κ} (j : Nat) (dft : β) (hU : MapT P U Kt E) (hK : KeyT P Kt ke) (hz : ZVal P E (ve dft)) (hx : σ.ev x = some (g, .map (some b))) (hg : g = true) (hy : σ.ev y = some (g', ke k)) (hg' : g' = true) (hj : H[j]? = some (mapW b ke ve dft L)) :
    QV P ⟨d, .lookup U x y false, T, pos, after, gd⟩ σ (Own M w0 H) (ve (mget L k dft)) := .of_run fun n a ha w hw => by
  obtain ⟨L', h1, h2⟩ := hw.at j hj
  have := run_lookup (k := k) (ok := false) hU hK hz h1
  rw [h2] at this
  simp only [execOp, ha.ev hx hg, ha.ev hy hg', Sem.run_bind, this, Result.andThen_ok, Sem.run_pure]
  rfl
end
end Go.Rd
end

section
namespace Go.Rd
open Go.RowKit
set_option linter.unusedVariables false
theorem putL_append : ∀ (vs a c : List Value) (off : Nat), off + vs.length ≤ a.length → putL (a ++ c) off vs = putL a off vs ++ c
  | [], a, c, off, _ => rfl
  | v :: vs, a, c, off, h => by
    simp only [List.length_cons] at h
    unfold putL
    rw [List.set_append_left _ _ (by omega), putL_append vs (a.set off v) c (off + 1) (by simp; omega)]
theorem putL_right : ∀ (vs a c : List Value) (off : Nat), putL (a ++ c) (a.length + off) vs = a ++ putL c off vs
  | [], a, c, off => rfl
  | v :: vs, a, c, off => by
    unfold putL
    rw [List.set_append_right _ _ (by omega), Nat.add_sub_cancel_left, Nat.add_assoc, putL_right vs a (c.set off v) (off + 1)]
theorem putL_flatten {sz : Nat} {vs : List Value} {off : Nat} (hl : off + vs.length ≤ sz) : ∀ {rows : List (List Value)} {i : Nat}, (∀ r ∈ rows, r.length = sz) → i < rows.length → putL rows.flatten (i * sz + off) vs = (rows.set i (putL (rows.getD i []) off vs)).flatten
  | [], i, _, h => by simp at h
  | r :: rows, 0, hr, _ => by
    have := hr r (by simp)
    simp [putL_append vs r rows.flatten off (by omega)]
  | r :: rows, i + 1, hr, h => by
    have h1 := hr r (by simp)
    have ih := putL_flatten (vs := vs) (off := off) hl (rows := rows) (i := i) (fun q hq => hr q (by simp [hq])) (by simpa using h)
    rw [List.flatten_cons, show (i + 1) * sz + off = r.length + (i * sz + off) from by rw [h1, Nat.succ_mul]; omega, putL_right, ih]
    simp
theorem map_set_putL {α : Type} [Inhabited α] {enc : α → List Value} {xs : List α} {i : Nat} {z : α} {off : Nat} {vs : List Value} (hi : i < xs.length) (he : enc z = putL (enc (xs.getD i default)) off vs) : (xs.map enc).set i (putL ((xs.map enc).getD i []) off vs) = (xs.set i z).map enc := by
  have : (xs.map enc).getD i [] = enc (xs.getD i default) := by simp [List.getD_eq_getElem?_getD, List.getElem?_eq_getElem hi]
  rw [this, ← he, List.map_set]
section
variable {P : Program} {n : Nat} {σ : Env} {M : Nat → Prop} {w0 : World} {H : List Res} {d : Option Tmp} {T U E S T2 : TypeId} {pos : String} {after : Array Edge} {gd : Option (Nat × Bool)} {x y z : Operand} {g g' g'' : Bool} {v yv : Value}
  {K : Act → World → Prop} {Q : Exit → Act → World → Prop}
theorem EV.storeE {α : Type} [Inhabited α] {enc : α → List Value} {sz : Nat} (k : Nat) (u : α) {xs : List α} {i : Int} {p q : Addr} {off : Nat} {vs : List Value} (hx : σ.ev x = some (g, .pointer (some q))) (hg : g = true) (hy : σ.ev y = some (g', yv)) (hg' : g' = true)
    (hk : H[k]? = some (vec v E sz (xs.map enc))) (hp : ElemP v i sz p) (hi : IX i (ln xs)) (hq : q = p.add off) (hv : yv.cells = vs.toArray) (hs : SizeT P T vs.length) (hl : off + vs.length ≤ sz) (ho : ∀ u ∈ vs, u.oneCell' = true) (he : enc u = putL (enc (ele xs i)) off vs)
    (kk : WK n K σ (Own M w0 (H.set k (vec v E sz ((upd xs i u).map enc))))) : EV P n ⟨none, .store T x y, U, pos, after, gd⟩ σ (Own M w0 H) K Q := fun a w ha hw => by
  refine .inl ?_
  have hvh := hw.at k hk
  obtain ⟨⟨h1, h2⟩, h3⟩ := hvh
  rcases h2 with ⟨rfl, _⟩ | ⟨b, cap, cur, rfl, hb, hh, hnc, hcm, hcs, ht⟩
  · obtain ⟨a, n, c', he', _⟩ := hp; simp at he'
  obtain ⟨aa, n', c', he', h0, hlt, rfl⟩ := hp
  simp only [Value.slice.injEq, Option.some.injEq] at he'
  obtain ⟨rfl, hn', rfl⟩ := he'
  have hxs : i.toNat < xs.length := by have := hi.2; unfold ln at this; omega
  have hrl : (xs.map enc).length = xs.length := List.length_map _
  have hq2 : q = ⟨b, i.toNat * sz + off, none⟩ := by rw [hq, Addr.add_add, Addr.add_lit]; simp
  subst hq2
  have hcl : cur.toList.length = cap * sz := by simpa using hcs
  have hle : (i.toNat + 1) * sz ≤ cap * sz := Nat.mul_le_mul_right _ (by rw [hrl] at hnc; omega)
  rw [Nat.succ_mul] at hle
  obtain ⟨w', q1, q2, q3, q4, q5, q6, q7⟩ := run_storeCells_blk (P := P) vs ⟨b, i.toNat * sz + off, none⟩ 0 (i.toNat * sz + off) cur.toList w (by simpa using hh) (by simp [Addr.add]) (by omega) ho
  obtain ⟨inf, hinf, hsz⟩ := Option.map_eq_some_iff.1 hs
  have hrun : (execOp a.eval ⟨none, .store T x y, U, pos, after, gd⟩).run P w = .ok .skip w' := by
    simp [execOp, ha.ev hx hg, ha.ev hy hg', Instr.storeAt, Instr.sureAddr, storeVar, hv, sizeOf, typeInfo, hinf, hsz, q1]
  unfold Oper.wp
  rw [hrun]
  show K (a.put none undef) w'
  have hbl : b < w.heap.size := (Array.getElem?_eq_some_iff.1 hh).1
  have hfl := flatten_len h3
  have hrows : ((upd xs i u).map enc).flatten = putL (xs.map enc).flatten (i.toNat * sz + off) vs := by
    rw [putL_flatten hl h3 (by rw [hrl]; exact hxs), map_set_putL hxs he]
    rfl
  have hur : ((upd xs i u).map enc).length = (xs.map enc).length := by simp [upd]
  have hholds : (vec (.slice (some ⟨b, 0, none⟩) (xs.map enc).length cap) E sz ((upd xs i u).map enc)).holds w' := by
    refine ⟨⟨by rw [hrows, putL_length, hur]; exact h1, .inr ⟨b, cap, (putL cur.toList (i.toNat * sz + off) vs).toArray, by rw [hur], hb, q2, by rw [hur]; exact hnc, hcm, by simp [putL_length, hcs], ?_⟩⟩, fun r hr => ?_⟩
    · rw [hrows]
      have e1 : cur.toList = (xs.map enc).flatten ++ cur.toList.drop ((xs.map enc).length * sz) := by
        conv => lhs; rw [← List.take_append_drop ((xs.map enc).length * sz) cur.toList]
        rw [ht]
      have hmul : (i.toNat + 1) * sz ≤ (xs.map enc).length * sz := Nat.mul_le_mul_right _ (by rw [hrl]; omega)
      rw [Nat.succ_mul] at hmul
      rw [e1, putL_append vs _ _ _ (by rw [hfl]; omega), hur, List.take_append_of_le_length (by rw [putL_length, hfl]; exact Nat.le_refl _), List.take_of_length_le (by rw [putL_length, hfl]; exact Nat.le_refl _)]
    · obtain ⟨s, hs', rfl⟩ := List.mem_map.1 hr
      rcases List.mem_or_eq_of_mem_set hs' with hm | rfl
      · exact h3 _ (List.mem_map_of_mem hm)
      · rw [he, putL_length]
        have := h3 (enc (ele xs i)) (List.mem_map_of_mem (by unfold ele; rw [List.getD_eq_getElem?_getD, List.getElem?_eq_getElem hxs]; exact List.getElem_mem hxs))
        exact this
  refine kk a w' ha (hw.upd k hk q5 q6 q7 (by omega) (fun c hc hne => q3 c fun e => hne (by subst e; exact ⟨_, _, rfl⟩)) hholds fun c hc => ?_)
  obtain ⟨n2, k2, he2⟩ := hc
  simp only [Value.slice.injEq, Option.some.injEq, Addr.mk.injEq] at he2
  obtain ⟨⟨rfl, _⟩, _⟩ := he2
  exact ⟨.inl ⟨_, _, rfl⟩, by omega⟩
end
end Go.Rd
end

section
namespace Go.Rd
open Go.RowKit
set_option linter.unusedVariables false
theorem sub_len {α : Type} {xs : List α} {i j : Int} (h : SX i j (ln xs)) : (sub xs i j).length = (j - i).toNat := by
  obtain ⟨h1, h2, h3⟩ := h
  unfold sub ln at *
  rw [List.length_take, List.length_drop]; omega
theorem subS_slen {α : Type} {xs : List α} {v : Value} {sz : Nat} {i j : Int} (hv : SliceLen v xs.length) (h : SX i j (ln xs)) : SliceLen (subS v sz i.toNat j.toNat) (sub xs i j).length := by
  rw [sub_len h]
  obtain ⟨h1, h2, h3⟩ := h
  unfold ln at h3
  have := subS_len (sz := sz) hv (l := i.toNat) (h := j.toNat) (by omega) (by omega)
  rwa [show (j - i).toNat = j.toNat - i.toNat from by omega]
section
variable {P : Program} {n : Nat} {σ : Env} {M : Nat → Prop} {w0 : World} {H : List Res} {d : Option Tmp} {T U E : TypeId} {pos : String} {after : Array Edge} {gd : Option (Nat × Bool)} {x y : Operand} {g g' : Bool} {v : Value}
  {K : Act → World → Prop} {Q : Exit → Act → World → Prop}
theorem zero_cells {α : Type} {enc : α → List Value} {z : α} {sz m : Nat} (hl : (enc z).length = sz) (h0 : 0 < sz) : (Builtin.zeroCells (enc z).toArray m).toList = ((List.replicate m z).map enc).flatten := by
  apply List.ext_getElem?
  intro j
  have hall : ∀ r ∈ (List.replicate m z).map enc, r.length = sz := by intro r hr; obtain ⟨u, hu, rfl⟩ := List.mem_map.1 hr; rw [List.mem_replicate] at hu; rw [hu.2, hl]
  have hfl : ((List.replicate m z).map enc).flatten.length = m * sz := by rw [flatten_len hall]; simp
  have hs : (enc z).toArray.size = sz := by simpa using hl
  by_cases hj : j < m * sz
  · have hq : j / sz < m := Nat.div_lt_of_lt_mul (by rwa [Nat.mul_comm] at hj)
    have hd := drop_flatten (sz := sz) (rows := (List.replicate m z).map enc) (i := j / sz) (r := enc z) hall (by simp [hq])
    have hmod : j % sz < sz := Nat.mod_lt _ h0
    have e1 : ((List.replicate m z).map enc).flatten[j]? = (enc z)[j % sz]? := by
      have : (enc z)[j % sz]? = ((((List.replicate m z).map enc).flatten.drop (j / sz * sz)).take (enc z).length)[j % sz]? := by rw [hd]
      rw [this, List.getElem?_take, hl, if_pos hmod, List.getElem?_drop, Nat.mul_comm, Nat.div_add_mod]
    rw [e1]
    have hlt : j % sz < (enc z).length := by rw [hl]; exact hmod
    simp [Builtin.zeroCells, hj, hl, List.getElem?_eq_getElem hlt]
  · have hj' := Nat.le_of_not_lt hj
    rw [List.getElem?_eq_none (by rw [Array.length_toList, size_zeroCells, hs]; exact hj'), List.getElem?_eq_none (by rw [hfl]; exact hj')]
def clr {α : Type} (xs : List α) (i : Int) (z : α) : List α := xs.take i.toNat ++ List.replicate (xs.length - i.toNat) z
theorem addr_zero (p : Addr) : p = p.add 0 := (by cases p; simp [Addr.add])
theorem clr_len {α : Type} {xs : List α} {i : Int} {z : α} (h : i ≤ ln xs) : (clr xs i z).length = xs.length := by
  unfold clr ln at *
  rw [List.length_append, List.length_take, List.length_replicate]; omega
theorem putL_all : ∀ (vs a : List Value) (off : Nat), off + vs.length = a.length → putL a off vs = a.take off ++ vs
  | [], a, off, h => by simp only [List.length_nil, Nat.add_zero] at h; subst h; simp [putL]
  | v :: vs, a, off, h => by
    simp only [List.length_cons] at h
    unfold putL
    rw [putL_all vs (a.set off v) (off + 1) (by simp; omega)]
    have : (a.set off v).take (off + 1) = a.take off ++ [v] := by
      rw [List.take_add_one, List.take_set_of_le (Nat.le_refl _), List.getElem?_set_self (by omega)]; rfl
    rw [this, List.append_assoc]; rfl
theorem flatten_take {sz : Nat} : ∀ {rows : List (List Value)} (i : Nat), (∀ r ∈ rows, r.length = sz) → (rows.take i).flatten = rows.flatten.take (i * sz)
  | [], i, _ => by simp
  | r :: rows, 0, _ => by simp
  | r :: rows, i + 1, h => by
    have h1 := h r (by simp)
    rw [List.take_succ_cons, List.flatten_cons, List.flatten_cons, flatten_take i (fun q hq => h q (by simp [hq])), show (i + 1) * sz = r.length + i * sz from by rw [h1, Nat.succ_mul]; omega, List.take_length_add_append]
theorem EV.clear {α : Type} {enc : α → List Value} {sz : Nat} (k : Nat) (z : α) {xs : List α} {lo hi : Int} (hT : SliceT P U E sz) (hz : ZeroT P E (enc z)) (hlen : ∀ u, (enc u).length = sz) (h0 : 0 < sz) (h1 : ∀ c ∈ enc z, c.oneCell' = true)
    (hx : σ.ev x = some (g, subS v sz lo.toNat hi.toNat)) (hg : g = true) (hk : H[k]? = some (vec v E sz (xs.map enc))) (hS : SX lo hi (ln xs)) (hh : hi = ln xs) {dd : Nat} (hd : d = some dd ∧ dd < n ∨ d = none)
    (kk : WK n K σ (Own M w0 (H.set k (vec v E sz ((clr xs lo z).map enc))))) (kd : ∀ dd, d = some dd → WK n K ((dd, (true, .tuple #[])) :: σ) (Own M w0 (H.set k (vec v E sz ((clr xs lo z).map enc))))) :
    EV P n ⟨d, .call ⟨.builtin .clear, #[x], #[U]⟩, T, pos, after, gd⟩ σ (Own M w0 H) K Q := fun a w ha hw => by
  refine .inl ?_
  obtain ⟨s1, s2, s3⟩ := hS
  subst hh
  obtain ⟨⟨q1, q2⟩, q3⟩ := hw.at k hk
  obtain ⟨hU, hSz⟩ := hT
  obtain ⟨inf, zv, z1, z2, z3⟩ := hz.out
  have hrl : (xs.map enc).length = xs.length := List.length_map _
  have hhi : (ln xs).toNat = xs.length := by unfold ln; omega
  have hend : ∀ w', (vec v E sz ((clr xs lo z).map enc)).holds w' → Own M w0 (H.set k (vec v E sz ((clr xs lo z).map enc))) w' → K (a.put d (.tuple #[])) w' := fun w' _ ho => by
    cases d with
    | none => exact kk a w' ha ho
    | some dd' =>
      rcases hd with ⟨hd1, hd2⟩ | hd
      · cases hd1; exact kd _ rfl _ w' (ha.put hd2 true _) ho
      · cases hd
  rcases q2 with ⟨rfl, hl0⟩ | ⟨b, cap, cur, rfl, hb, hh, hnc, hcm, hcs, ht⟩
  · have hx0 : xs = [] := List.length_eq_zero_iff.1 (by rw [← hrl]; exact hl0)
    subst hx0
    have hl0 : lo = 0 := by unfold ln at s3; simp at s3; omega
    subst hl0
    have hrun : (execOp a.eval ⟨d, .call ⟨.builtin .clear, #[x], #[U]⟩, T, pos, after, gd⟩).run P w = .ok (.value (.tuple #[])) w := by
      simp [execOp, resolve, invoke, builtin, ha.ev hx hg, Builtin.clear_, run_underlying hU, subS, ln, Result.andThen]
    unfold Oper.wp
    rw [hrun]
    have e : clr ([] : List α) 0 z = [] := rfl
    have es : H.set k (vec (.slice none 0 0) E sz (([] : List α).map enc)) = H := by
      apply List.ext_getElem?
      intro j
      rw [List.getElem?_set]
      split
      · rename_i hj; subst hj
        split
        · exact hk.symm
        · rw [List.getElem?_eq_none (by omega)] at hk; cases hk
      · rfl
    have hown : Own M w0 (H.set k (vec (.slice none 0 0) E sz ((clr ([] : List α) 0 z).map enc))) w := by rw [e, es]; exact hw
    exact hend w (hown.at k (by rw [List.getElem?_set_self (List.getElem?_eq_some_iff.1 hk).1])) hown
  · by_cases hm : xs.length - lo.toNat = 0
    · have e : clr xs lo z = xs := by unfold clr; rw [hm, List.replicate_zero, List.append_nil, List.take_of_length_le (by omega)]
      have es : H.set k (vec (.slice (some ⟨b, 0, none⟩) (xs.map enc).length cap) E sz (xs.map enc)) = H := by
        apply List.ext_getElem?
        intro j
        rw [List.getElem?_set]
        split
        · rename_i hj; subst hj
          split
          · exact hk.symm
          · rw [List.getElem?_eq_none (by omega)] at hk; cases hk
        · rfl
      have hrun : (execOp a.eval ⟨d, .call ⟨.builtin .clear, #[x], #[U]⟩, T, pos, after, gd⟩).run P w = .ok (.value (.tuple #[])) w := by
        have ex := ha.ev hx hg
        simp only [subS, hhi, hm] at ex
        split at ex <;> simp [execOp, resolve, invoke, builtin, ex, Builtin.clear_, run_underlying hU, Result.andThen]
      unfold Oper.wp
      rw [hrun]
      have hown : Own M w0 (H.set k (vec (.slice (some ⟨b, 0, none⟩) (xs.map enc).length cap) E sz ((clr xs lo z).map enc))) w := by rw [e, es]; exact hw
      exact hend w (hown.at k (by rw [List.getElem?_set_self (List.getElem?_eq_some_iff.1 hk).1])) hown
    · have hne : ¬ cap = lo.toNat := by rw [hrl] at hnc; omega
      have hzl : (enc z).length = sz := hlen z
      have hzc := zero_cells (enc := enc) (z := z) (m := xs.length - lo.toNat) hzl h0
      have hfz := flatten_len (sz := sz) (rows := (List.replicate (xs.length - lo.toNat) z).map enc) (by intro r hr; obtain ⟨u, hu, rfl⟩ := List.mem_map.1 hr; rw [List.mem_replicate] at hu; rw [hu.2, hzl])
      rw [List.length_map, List.length_replicate] at hfz
      have hcl : cur.toList.length = cap * sz := by simpa using hcs
      have hmul : (lo.toNat + (xs.length - lo.toNat)) * sz ≤ cap * sz := Nat.mul_le_mul_right _ (by rw [hrl] at hnc; omega)
      rw [Nat.add_mul] at hmul
      obtain ⟨w', q1', r2, r3, r4, r5, r6, r7⟩ := run_storeCells_blk (P := P) ((List.replicate (xs.length - lo.toNat) z).map enc).flatten ⟨b, lo.toNat * sz, none⟩ 0 (lo.toNat * sz) cur.toList w (by simpa using hh) (by simp [Addr.add]) (by rw [hfz]; omega)
        (fun u hu => by obtain ⟨r, hr, hu⟩ := List.mem_flatten.1 hu; obtain ⟨v, hv, rfl⟩ := List.mem_map.1 hr; rw [List.mem_replicate] at hv; rw [hv.2] at hu; exact h1 u hu)
      have hrun : (execOp a.eval ⟨d, .call ⟨.builtin .clear, #[x], #[U]⟩, T, pos, after, gd⟩).run P w = .ok (.value (.tuple #[])) w' := by
        have ex := ha.ev hx hg
        simp only [subS, hhi, if_neg hne, Option.map_some, Addr.add_lit, Nat.zero_add] at ex
        obtain ⟨m', hm'⟩ : ∃ m', xs.length - lo.toNat = m' + 1 := ⟨xs.length - lo.toNat - 1, by omega⟩
        rw [hm'] at ex hzc q1'
        rw [List.map_replicate] at hzc q1'
        have hzr : (zeroValue E).run P w = .ok zv w := by simp [zeroValue, typeInfo, z1, z2]
        simp [execOp, resolve, invoke, builtin, ex, Builtin.clear_, run_underlying hU, Result.andThen, hzr, z3, hzc, q1']
      unfold Oper.wp
      rw [hrun]
      have hbl : b < w.heap.size := (Array.getElem?_eq_some_iff.1 hh).1
      have hcl2 : ((clr xs lo z).map enc).length = (xs.map enc).length := by rw [List.length_map, List.length_map, clr_len s2]
      have hflat : ((clr xs lo z).map enc).flatten = putL (xs.map enc).flatten (lo.toNat * sz) ((List.replicate (xs.length - lo.toNat) z).map enc).flatten := by
        have hfx := flatten_len q3
        rw [putL_all _ _ _ (by rw [hfz, hfx, hrl, ← Nat.add_mul]; congr 1; omega), ← flatten_take _ q3]
        unfold clr
        rw [List.map_append, List.flatten_append, List.map_take]
      have hholds : (vec (.slice (some ⟨b, 0, none⟩) (xs.map enc).length cap) E sz ((clr xs lo z).map enc)).holds w' := by
        refine ⟨⟨by rw [hflat, putL_length, hcl2]; exact q1, .inr ⟨b, cap, (putL cur.toList (lo.toNat * sz) ((List.replicate (xs.length - lo.toNat) z).map enc).flatten).toArray, by rw [hcl2], hb, r2, by rw [hcl2]; exact hnc, hcm, by simp [putL_length, hcs], ?_⟩⟩, fun r hr => ?_⟩
        · have e1 : cur.toList = (xs.map enc).flatten ++ cur.toList.drop ((xs.map enc).length * sz) := by
            conv => lhs; rw [← List.take_append_drop ((xs.map enc).length * sz) cur.toList]
            rw [ht]
          have hfx := flatten_len q3
          rw [hflat, e1, putL_append _ _ _ _ (by rw [hfz, hfx, hrl, ← Nat.add_mul]; exact Nat.mul_le_mul_right _ (by omega)), hcl2, List.take_append_of_le_length (by rw [putL_length, hfx]; exact Nat.le_refl _), List.take_of_length_le (by rw [putL_length, hfx]; exact Nat.le_refl _)]
        · obtain ⟨u, hu, rfl⟩ := List.mem_map.1 hr
          exact hlen u
      refine hend w' hholds (hw.upd k hk r5 r6 r7 (by omega) (fun c hc hne => r3 c fun e => hne (by subst e; exact ⟨_, _, rfl⟩)) hholds fun c hc => ?_)
      obtain ⟨n2, k2, he2⟩ := hc
      simp only [Value.slice.injEq, Option.some.injEq, Addr.mk.injEq] at he2
      obtain ⟨⟨rfl, _⟩, _⟩ := he2
      exact ⟨.inl ⟨_, _, rfl⟩, by omega⟩
end
def ordV (a b : Edg) : Int := if a.fr < b.fr then -1 else if b.fr < a.fr then 1 else if a.to < b.to then -1 else if b.to < a.to then 1 else if a.bk < b.bk then -1 else if b.bk < a.bk then 1 else if a.wt < b.wt then -1 else if b.wt < a.wt then 1 else 0
def sortE (xs : List Edg) : List Edg := xs.mergeSort fun x y => !decide (ordV y x < 0)
def SortFunc_m (xs : List Edg) : Option (List Edg) := ck (xs.length < 4611686018427387904) (some (sortE xs))
end Go.Rd
end

section
namespace Go.Rd
set_option linter.unusedVariables false
noncomputable def num_Class_m (op : Int) : Option (Int) :=
 br (op == 3) (
 br (op == 3) (
 some 2) (
 br (op == 13) (
 some 1) (
 some 0))) (
 br (op == 4) (
 some 2) (
 br (op == 13) (
 some 1) (
 some 0)))

noncomputable def roundelayref1_Class_m (op : Int) : Option (Int) :=
 br ((op == 3) || (op == 4)) (
 some 2) (
 br (op == 13) (
 some 1) (
 some 0))

noncomputable def roundelayref1_Size_L0 (log : Int) : (Int × Int) → Option (Stp (Int × Int) (Empty)) := fun (n3_1, i4_1) =>
 br (decide (i4_1 < log)) (
 ck (IR (n3_1 + n3_1)) <|
 ck (IR (i4_1 + 1)) <|
 some (.next ((n3_1 + n3_1), (i4_1 + 1)))) (
 some (.brk (n3_1, i4_1)))
noncomputable def roundelayref1_Size_m (log : Int) : Option (Int) :=
 bd (lp (roundelayref1_Size_L0 log) (1, 0)) fun o1 => o1.on (fun (n3_1, i4_1) =>
 some n3_1) (fun r => r.elim)

noncomputable def roundelayref1_Rest_m (a : Int) (b : Int) : Option (Int) :=
 ck (b ≠ 0) <|
 br (decide ((Int.tmod a b) < 0)) (
 ck (IR ((Int.tmod a b) + b)) <|
 some ((Int.tmod a b) + b)) (
 some (Int.tmod a b))

end Go.Rd
end

section
namespace Go.Rd
set_option linter.unusedVariables false
theorem num_Class_s (op : Int) : num_Class_m op = some (clsV op) := by
  unfold num_Class_m clsV
  simp only [br_eq, beq_iff_eq]
  (repeat' split) <;> simp_all
theorem ref_Class_s (op : Int) : roundelayref1_Class_m op = some (clsV op) := by
  unfold roundelayref1_Class_m clsV
  simp only [br_eq, Bool.or_eq_true, beq_iff_eq]
  (repeat' split) <;> simp_all
theorem Size_loop (log : Int) (hl : log ≤ 5) : ∀ (m i : Nat), i + m = log.toNat → lp (roundelayref1_Size_L0 log) (2 ^ i, i) = some (.go (2 ^ log.toNat, (log.toNat : Int)))
  | 0, i, h => by
    have hi : i = log.toNat := by omega
    subst hi
    refine lp_brk ?_
    unfold roundelayref1_Size_L0
    exact br_F (by omega)
  | m + 1, i, h => by
    have hp := two_pow_5 i (by omega)
    refine lp_step ?_ (Size_loop log hl m (i + 1) (by omega))
    unfold roundelayref1_Size_L0
    simp only
    rw [br_T (by omega), ck_IR (by omega) (by omega), ck_IR (by omega) (by omega), pow_next]
    rfl
theorem Size_s (log : Int) (hl : log ≤ 5) : roundelayref1_Size_m log = some (2 ^ log.toNat) := by
  have := Size_loop log hl log.toNat 0 (by omega)
  unfold roundelayref1_Size_m
  rw [show ((1 : Int), (0 : Int)) = ((2 : Int) ^ 0, ((0 : Nat) : Int)) from rfl, this]
  rfl
theorem Rest_s (a b : Int) (hb : 0 < b) (hB : b ≤ 9223372036854775807) : roundelayref1_Rest_m a b = some (a % b) := by
  have ht := tmod_lt' a hb
  have hf := tmod_fix (a := a) hb
  unfold roundelayref1_Rest_m
  rw [ck_yes (by omega)]
  by_cases h : Int.tmod a b < 0
  · rw [if_pos h] at hf
    rw [br_T h, ck_IR (by omega) (by omega), hf]
  · rw [if_neg h] at hf
    rw [br_F h, hf]
end Go.Rd
end

section
namespace Go.Rd
set_option linter.unusedVariables false
noncomputable def target_May_L0 (t : Tgt) : Int → Option (Stp (Int) (Bool)) := fun x4_1 =>
 br (decide (x4_1 < 3)) (
 ck (IX x4_1 3) <|
 ck ((!(decide ((sel3 t.u0 t.u1 t.u2 x4_1) < 1))) = true → IX x4_1 3) <|
 ck ((!((decide ((sel3 t.u0 t.u1 t.u2 x4_1) < 1)) || (decide ((sel3 t.u0 t.u1 t.u2 x4_1) > 4)))) = true → IX x4_1 3) <|
 ck ((!(((decide ((sel3 t.u0 t.u1 t.u2 x4_1) < 1)) || (decide ((sel3 t.u0 t.u1 t.u2 x4_1) > 4))) || (decide ((sel3 t.w0 t.w1 t.w2 x4_1) < 1)))) = true → IX x4_1 3) <|
 br ((((decide ((sel3 t.u0 t.u1 t.u2 x4_1) < 1)) || (decide ((sel3 t.u0 t.u1 t.u2 x4_1) > 4))) || (decide ((sel3 t.w0 t.w1 t.w2 x4_1) < 1))) || (decide ((sel3 t.w0 t.w1 t.w2 x4_1) > 6))) (
 some (.ret false)) (
 ck (IR (x4_1 + 1)) <|
 some (.next (x4_1 + 1)))) (
 some (.brk x4_1))
noncomputable def target_May_m (t : Tgt) : Option (Bool) :=
 bd (lp (target_May_L0 t) 0) fun o2 => o2.on (fun x4_1 =>
 some ((decide (t.regs ≥ 1)) && (decide (t.regs ≤ 128)))) (fun r => some r)

noncomputable def target_Wait_m (t : Tgt) (op : Int) : Option (Int) :=
 bd (target_May_m t) fun x2 =>
 br (!x2) (
 some 0) (
 bd (num_Class_m op) fun x8 =>
 ck (IX x8 3) <|
 some (sel3 t.w0 t.w1 t.w2 x8))

noncomputable def roundelayref4_May_L0 (t : Tgt) : Int → Option (Stp (Int) (Bool)) := fun k3_1 =>
 br (decide (k3_1 < 3)) (
 ck (IX k3_1 3) <|
 ck ((!(decide ((sel3 t.u0 t.u1 t.u2 k3_1) < 1))) = true → IX k3_1 3) <|
 ck ((!((decide ((sel3 t.u0 t.u1 t.u2 k3_1) < 1)) || (decide ((sel3 t.u0 t.u1 t.u2 k3_1) > 4)))) = true → IX k3_1 3) <|
 ck ((!(((decide ((sel3 t.u0 t.u1 t.u2 k3_1) < 1)) || (decide ((sel3 t.u0 t.u1 t.u2 k3_1) > 4))) || (decide ((sel3 t.w0 t.w1 t.w2 k3_1) < 1)))) = true → IX k3_1 3) <|
 br ((((decide ((sel3 t.u0 t.u1 t.u2 k3_1) < 1)) || (decide ((sel3 t.u0 t.u1 t.u2 k3_1) > 4))) || (decide ((sel3 t.w0 t.w1 t.w2 k3_1) < 1))) || (decide ((sel3 t.w0 t.w1 t.w2 k3_1) > 6))) (
 some (.ret false)) (
 ck (IR (k3_1 + 1)) <|
 some (.next (k3_1 + 1)))) (
 some (.brk k3_1))
noncomputable def roundelayref4_May_m (t : Tgt) : Option (Bool) :=
 bd (lp (roundelayref4_May_L0 t) 0) fun o2 => o2.on (fun k3_1 =>
 some ((decide (t.regs > 0)) && (decide (t.regs ≤ 128)))) (fun r => some r)

noncomputable def roundelayref4_Wait_m (t : Tgt) (op : Int) : Option (Int) :=
 bd (roundelayref4_May_m t) fun x2 =>
 br (!x2) (
 some 0) (
 bd (roundelayref1_Class_m op) fun x8 =>
 ck (IX x8 3) <|
 some (sel3 t.w0 t.w1 t.w2 x8))

noncomputable def loop_in_m (n_ : Int) (from_ : Int) (below : Int) : Option (Bool) :=
 some ((decide (n_ ≥ from_)) && (decide (n_ < below)))

noncomputable def loop_Uses_m (s : Stm) : Option (List Rf) :=
 br (s.op == 4) (
 some [s.a]) (
 br (decide (s.op > 10)) (
 some [s.a, s.b]) (
 some []))

noncomputable def loop_ref_m (l : Lp) (k_ : Int) (r_ : Rf) : Option (Bool) :=
 br (r_.bk == 0) (
 bd (loop_in_m r_.bk 0 4) fun x5 =>
 bdG (x5) (loop_in_m r_.st 0 k_) fun x8 =>
 some (x5 && x8)) (
 bd (loop_in_m r_.bk 0 4) fun x12 =>
 bdG (x12) (loop_in_m r_.st 0 (ln l.body)) fun x15 =>
 some (x12 && x15))

noncomputable def loop_stmt_L0 (l : Lp) (k_ : Int) (x17 : List Rf) : Int → Option (Stp (Int) (Bool)) := fun x49_1 =>
 br (decide (x49_1 < (ln x17))) (
 ck (IX x49_1 (ln x17)) <|
 bd (loop_ref_m l k_ (ele x17 x49_1)) fun x33 =>
 br (!x33) (
 some (.ret false)) (
 ck (IR (x49_1 + 1)) <|
 some (.next (x49_1 + 1)))) (
 some (.brk x49_1))
noncomputable def loop_stmt_m (l : Lp) (k_ : Int) : Option (Bool) :=
 ck (IX k_ (ln l.body)) <|
 bd (loop_in_m ((ele l.body k_).ar) 0 (ln l.logs)) fun x8 =>
 bdG (x8) (loop_in_m ((ele l.body k_).sp) (-64) 65) fun x11 =>
 bdG (x8 && x11) (loop_in_m ((ele l.body k_).pl) (-64) 65) fun x14 =>
 bd (loop_Uses_m (Stm.mk ((ele l.body k_).op) ((ele l.body k_).a) ((ele l.body k_).b) ((ele l.body k_).ar) ((ele l.body k_).sp) ((ele l.body k_).pl) ((ele l.body k_).n))) fun x17 =>
 bd (lp (loop_stmt_L0 l k_ x17) 0) fun o21 => o21.on (fun x49_1 =>
 br ((ele l.body k_).op == 1) (
 some ((((((ele l.body k_).ar == 0) && ((ele l.body k_).sp == 0)) && ((ele l.body k_).pl == 0)) && ([((ele l.body k_).a).st, ((ele l.body k_).a).bk] == [0, 0])) && ([((ele l.body k_).b).st, ((ele l.body k_).b).bk] == [0, 0]))) (
 br ((ele l.body k_).n != 0) (
 some false) (
 br ((ele l.body k_).op == 2) (
 some ((((((ele l.body k_).ar == 0) && ((ele l.body k_).sp == 0)) && ((ele l.body k_).pl == 0)) && ([((ele l.body k_).a).st, ((ele l.body k_).a).bk] == [0, 0])) && ([((ele l.body k_).b).st, ((ele l.body k_).b).bk] == [0, 0]))) (
 br ((ele l.body k_).op == 3) (
 some ((((x8 && x11) && x14) && ([((ele l.body k_).a).st, ((ele l.body k_).a).bk] == [0, 0])) && ([((ele l.body k_).b).st, ((ele l.body k_).b).bk] == [0, 0]))) (
 br ((ele l.body k_).op == 4) (
 some (((x8 && x11) && x14) && ([((ele l.body k_).b).st, ((ele l.body k_).b).bk] == [0, 0]))) (
 bdG ((((ele l.body k_).ar == 0) && ((ele l.body k_).sp == 0)) && ((ele l.body k_).pl == 0)) (loop_in_m (IntKind.i64.wrap ((ele l.body k_).op - 10)) 1 9) fun x41 =>
 some (((((ele l.body k_).ar == 0) && ((ele l.body k_).sp == 0)) && ((ele l.body k_).pl == 0)) && x41))))))) (fun r => some r)

noncomputable def loop_May_L0 (l : Lp) : Int → Option (Stp (Int) (Bool)) := fun x12_1 =>
 br (decide (x12_1 < (ln l.logs))) (
 ck (IX x12_1 (ln l.logs)) <|
 bd (loop_in_m (ele l.logs x12_1) 0 6) fun x13 =>
 br (!x13) (
 some (.ret false)) (
 ck (IR (x12_1 + 1)) <|
 some (.next (x12_1 + 1)))) (
 some (.brk x12_1))
noncomputable def loop_May_L2 (l : Lp) : (Int × Int) → Option (Stp (Int × Int) (Bool)) := fun (last5_2, x23_2) =>
 br (decide (x23_2 < (ln l.outs))) (
 ck (IX x23_2 (ln l.outs)) <|
 ck (IR (last5_2 + 1)) <|
 bd (loop_in_m (ele l.outs x23_2) (last5_2 + 1) (ln l.body)) fun x20 =>
 br (!x20) (
 some (.ret false)) (
 ck (IR (x23_2 + 1)) <|
 some (.next ((ele l.outs x23_2), (x23_2 + 1))))) (
 some (.brk (last5_2, x23_2)))
noncomputable def loop_May_L4 (l : Lp) : Int → Option (Stp (Int) (Bool)) := fun x40_3 =>
 br (decide (x40_3 < (ln l.body))) (
 bdG (!(decide ((ln l.body) > 16))) (loop_stmt_m l x40_3) fun x19 =>
 br ((decide ((ln l.body) > 16)) || (!x19)) (
 some (.ret false)) (
 ck (IR (x40_3 + 1)) <|
 some (.next (x40_3 + 1)))) (
 some (.brk x40_3))
noncomputable def loop_May_m (l : Lp) : Option (Bool) :=
 bd (lp (loop_May_L0 l) 0) fun o2 => o2.on (fun x12_1 =>
 bd (lp (loop_May_L2 l) ((-1), 0)) fun o7 => o7.on (fun (last5_2, x23_2) =>
 bd (lp (loop_May_L4 l) 0) fun o12 => o12.on (fun x40_3 =>
 some ((decide ((ln l.logs) ≤ 3)) && (decide ((ln l.body) > 0)))) (fun r => some r)) (fun r => some r)) (fun r => some r)

noncomputable def roundelayref2_Within_m (n_ : Int) (least : Int) (most : Int) : Option (Bool) :=
 some ((decide (n_ ≥ least)) && (decide (n_ ≤ most)))

noncomputable def roundelayref2_Uses_m (s : Stm) : Option (List Rf) :=
 br (s.op == 4) (
 some [s.a]) (
 br (decide (s.op > 10)) (
 some [s.a, s.b]) (
 some []))

noncomputable def roundelayref2_stmt_L0 (l : Lp) (k_ : Int) (x7 : List Rf) : Int → Option (Stp (Int) (Bool)) := fun i7_1 =>
 br (decide (i7_1 < (ln x7))) (
 ck (IR ((ln l.body) - 1)) <|
 ck (IX i7_1 (ln x7)) <|
 br ((ele x7 i7_1).bk == 0) (
 ck (IR (k_ - 1)) <|
 ck (IX i7_1 (ln x7)) <|
 bd (roundelayref2_Within_m ((ele x7 i7_1).bk) 0 3) fun x32 =>
 ck ((!(!x32)) = true → IX i7_1 (ln x7)) <|
 bdG (!(!x32)) (roundelayref2_Within_m ((ele x7 i7_1).st) 0 (k_ - 1)) fun x39 =>
 br ((!x32) || (!x39)) (
 some (.ret false)) (
 ck (IR (i7_1 + 1)) <|
 some (.next (i7_1 + 1)))) (
 ck (IX i7_1 (ln x7)) <|
 bd (roundelayref2_Within_m ((ele x7 i7_1).bk) 0 3) fun x52 =>
 ck ((!(!x52)) = true → IX i7_1 (ln x7)) <|
 bdG (!(!x52)) (roundelayref2_Within_m ((ele x7 i7_1).st) 0 ((ln l.body) - 1)) fun x59 =>
 br ((!x52) || (!x59)) (
 some (.ret false)) (
 ck (IR (i7_1 + 1)) <|
 some (.next (i7_1 + 1))))) (
 some (.brk i7_1))
noncomputable def roundelayref2_stmt_m (l : Lp) (k_ : Int) : Option (Bool) :=
 ck (IX k_ (ln l.body)) <|
 bd (roundelayref2_Uses_m (Stm.mk ((ele l.body k_).op) ((ele l.body k_).a) ((ele l.body k_).b) ((ele l.body k_).ar) ((ele l.body k_).sp) ((ele l.body k_).pl) ((ele l.body k_).n))) fun x7 =>
 bd (lp (roundelayref2_stmt_L0 l k_ x7) 0) fun o11 => o11.on (fun i7_1 =>
 br (((decide ((ln x7) < 2)) && ((((ele l.body k_).b).st != 0) || (((ele l.body k_).b).bk != 0))) || ((decide ((ln x7) < 1)) && ((((ele l.body k_).a).st != 0) || (((ele l.body k_).a).bk != 0)))) (
 some false) (
 br (((ele l.body k_).op != 1) && ((ele l.body k_).n != 0)) (
 some false) (
 br (((ele l.body k_).op == 3) || ((ele l.body k_).op == 4)) (
 ck (IR ((ln l.logs) - 1)) <|
 bd (roundelayref2_Within_m ((ele l.body k_).ar) 0 ((ln l.logs) - 1)) fun x26 =>
 bdG (x26) (roundelayref2_Within_m ((ele l.body k_).sp) (-64) 64) fun x29 =>
 bdG (x26 && x29) (roundelayref2_Within_m ((ele l.body k_).pl) (-64) 64) fun x32 =>
 some ((x26 && x29) && x32)) (
 br ((((ele l.body k_).ar != 0) || ((ele l.body k_).sp != 0)) || ((ele l.body k_).pl != 0)) (
 some false) (
 bdG (!(((ele l.body k_).op == 1) || ((ele l.body k_).op == 2))) (roundelayref2_Within_m ((ele l.body k_).op) 11 18) fun x39 =>
 some ((((ele l.body k_).op == 1) || ((ele l.body k_).op == 2)) || x39)))))) (fun r => some r)

noncomputable def roundelayref2_May_L0 (l : Lp) : Int → Option (Stp (Int) (Bool)) := fun i4_1 =>
 br (decide (i4_1 < (ln l.logs))) (
 ck (IX i4_1 (ln l.logs)) <|
 bd (roundelayref2_Within_m (ele l.logs i4_1) 0 5) fun x16 =>
 br (!x16) (
 some (.ret false)) (
 ck (IR (i4_1 + 1)) <|
 some (.next (i4_1 + 1)))) (
 some (.brk i4_1))
noncomputable def roundelayref2_May_L2 (l : Lp) : Int → Option (Stp (Int) (Bool)) := fun i5_2 =>
 br (decide (i5_2 < (ln l.outs))) (
 ck (IX i5_2 (ln l.outs)) <|
 ck (IR ((ln l.body) - 1)) <|
 bd (roundelayref2_Within_m (ele l.outs i5_2) 0 ((ln l.body) - 1)) fun x23 =>
 ck ((!(!x23) && (decide (i5_2 > 0))) = true → IX i5_2 (ln l.outs)) <|
 ck ((!(!x23) && (decide (i5_2 > 0))) = true → IR (i5_2 - 1)) <|
 ck ((!(!x23) && (decide (i5_2 > 0))) = true → IX (i5_2 - 1) (ln l.outs)) <|
 br ((!x23) || ((decide (i5_2 > 0)) && (decide ((ele l.outs i5_2) ≤ (ele l.outs (i5_2 - 1)))))) (
 some (.ret false)) (
 ck (IR (i5_2 + 1)) <|
 some (.next (i5_2 + 1)))) (
 some (.brk i5_2))
noncomputable def roundelayref2_May_L4 (l : Lp) : Int → Option (Stp (Int) (Bool)) := fun k6_3 =>
 br (decide (k6_3 < (ln l.body))) (
 bd (roundelayref2_stmt_m l k6_3) fun x22 =>
 br (!x22) (
 some (.ret false)) (
 ck (IR (k6_3 + 1)) <|
 some (.next (k6_3 + 1)))) (
 some (.brk k6_3))
noncomputable def roundelayref2_May_m (l : Lp) : Option (Bool) :=
 br (((decide ((ln l.logs) > 3)) || (decide ((ln l.body) < 1))) || (decide ((ln l.body) > 16))) (
 some false) (
 bd (lp (roundelayref2_May_L0 l) 0) fun o5 => o5.on (fun i4_1 =>
 bd (lp (roundelayref2_May_L2 l) 0) fun o10 => o10.on (fun i5_2 =>
 bd (lp (roundelayref2_May_L4 l) 0) fun o15 => o15.on (fun k6_3 =>
 some true) (fun r => some r)) (fun r => some r)) (fun r => some r))

end Go.Rd
end

section
namespace Go.Rd
open Go.RowKit Go.ChangeShapes Go.WideShapes Go.ChangeAt
set_option linter.unusedVariables false
section
variable {H : Type} {enc : TypeId × Value → H} {P : Program} {w : World} {base : Nat} {spare : Nat → Bool} {held : Bool}
theorem struct_at {fuel : Nat} {t : TypeId} {fs : Array Field} {cs : List Value} {x : DataW H × List MemPlace} {l : List (TypeId × Nat)} (ht : P.underlying t = some (.struct fs)) (hl : fs.toList.map (fun f => (f.type, f.offset)) = l)
    (h : DataW.trod enc P w base spare held fuel t cs = some x) (t1 : TypeId) (o : Nat) (hm : (t1, o) ∈ l) : ∃ fuel' y, DataW.trod enc P w base spare held fuel' t1 ((cs.drop o).take (P.cellsOf t1)) = some y := by
  subst hl
  obtain ⟨f, hf, he⟩ := List.mem_map.1 hm
  simp only [Prod.mk.injEq] at he
  obtain ⟨rfl, rfl⟩ := he
  exact (trod_struct ht h).2 f hf

theorem ints_arg {fuel : Nat} {t e : TypeId} {v : Value} {x : DataW H × List MemPlace} (ht : P.underlying t = some (.slice e)) (he : flatT P 6 e = true) (hsz : P.cellsOf e = 1) (hx : DataW.trod enc P w base spare held fuel t [v] = some x) :
    ∃ xs : List Int, Arr w v 1 (xs.map icell) ∧ (∀ u ∈ xs, InR u) ∧ xs.length ≤ maxLen :=
  slice_list icell InR ht hsz hx fun fuel' es y h => by
    obtain ⟨ns, rfl, hl, hr⟩ := trod_flat he h
    rw [hsz] at hl
    match ns, hl with
    | [n], _ => exact ⟨n, rfl, hr n (by simp)⟩

theorem stms_arg {fuel : Nat} {t e : TypeId} {v : Value} {x : DataW H × List MemPlace} (ht : P.underlying t = some (.slice e)) (he : flatT P 6 e = true) (hsz : P.cellsOf e = 9) (hx : DataW.trod enc P w base spare held fuel t [v] = some x) :
    ∃ xs : List Stm, Arr w v 9 (xs.map Stm.cells) ∧ (∀ u ∈ xs, u.InR) ∧ xs.length ≤ maxLen :=
  slice_list Stm.cells Stm.InR ht hsz hx fun fuel' es y h => by
    obtain ⟨ns, rfl, hl, hr⟩ := trod_flat he h
    rw [hsz] at hl
    match ns, hl with
    | [a, b, c, d, e, f, g, i, j], _ => exact ⟨⟨a, ⟨b, c⟩, ⟨d, e⟩, f, g, i, j⟩, rfl, by unfold Stm.InR; simp at hr; simp [hr]⟩

theorem loop_arg {fuel : Nat} {t t1 t2 e1 e2 : TypeId} {fs : Array Field} {cs : List Value} {x : DataW H × List MemPlace} (ht : P.underlying t = some (.struct fs)) (hl : fs.toList.map (fun f => (f.type, f.offset)) = [(t1, 0), (t2, 1), (t1, 2)])
    (h1 : P.underlying t1 = some (.slice e1)) (h2 : P.underlying t2 = some (.slice e2)) (hf1 : flatT P 6 e1 = true) (hf2 : flatT P 6 e2 = true) (hz : P.cellsOf t = 3 ∧ P.cellsOf t1 = 1 ∧ P.cellsOf t2 = 1 ∧ P.cellsOf e1 = 1 ∧ P.cellsOf e2 = 9)
    (hx : DataW.trod enc P w base spare held fuel t cs = some x) : ∃ v1 v2 v3 l, cs = [v1, v2, v3] ∧ LpRep w v1 v2 v3 l := by
  obtain ⟨z0, z1, z2, z3, z4⟩ := hz
  have hlen := (trod_struct ht hx).1
  rw [z0] at hlen
  obtain ⟨_, _, g1⟩ := struct_at ht hl hx t1 0 (by simp)
  obtain ⟨_, _, g2⟩ := struct_at ht hl hx t2 1 (by simp)
  obtain ⟨_, _, g3⟩ := struct_at ht hl hx t1 2 (by simp)
  match cs, hlen with
  | [v1, v2, v3], _ =>
    rw [z1] at g1 g3
    rw [z2] at g2
    obtain ⟨logs, a1, a2, a3⟩ := ints_arg h1 hf1 z3 g1
    obtain ⟨body, b1, b2, b3⟩ := stms_arg h2 hf2 z4 g2
    obtain ⟨outs, c1, c2, c3⟩ := ints_arg h1 hf1 z3 g3
    exact ⟨v1, v2, v3, ⟨logs, body, outs⟩, rfl, a1, b1, c1, a2, b2, c2, a3, b3, c3⟩

end
end Go.Rd
end

section
namespace Go.Rd
open Go.RowKit Go.ChangeShapes Go.WideShapes Go.ChangeAt
set_option linter.unusedVariables false
section
variable {H : Type} {enc : TypeId × Value → H} {P : Program} {w : World} {base : Nat} {spare : Nat → Bool} {held : Bool}
def Opr.InRo (o : Opr) : Prop := ∀ x ∈ [o.slot, o.stage, o.op, o.dest, o.a, o.b, o.ar, o.sp, o.pl, o.n], InR x
structure KrnRep (w : World) (v : Value) (k : Krn) : Prop where
  ops : Arr w v 10 (k.ops.map Opr.cells)
  pace : InR k.pace
  stages : InR k.stages
  rops : ∀ o ∈ k.ops, o.InRo
  len : k.ops.length ≤ maxLen
theorem int_one {fuel : Nat} {t : TypeId} {cs : List Value} {x : DataW H × List MemPlace} (ht : P.underlying t = some (.int .i64)) (hx : DataW.trod enc P w base spare held fuel t cs = some x) : ∃ n, cs = [.int .i64 n] ∧ InR n := by
  obtain ⟨n, h, _, hw⟩ := DataW.trod_int ht hx
  exact ⟨n, h, wf_i64 hw⟩
structure PlnRep (w : World) (v : Value) (k : Pln) : Prop where
  times : Arr w v 1 (k.times.map icell)
  pace : InR k.pace
  rtimes : ∀ o ∈ k.times, InR o
  len : k.times.length ≤ maxLen
theorem pln_arg {fuel : Nat} {t ti t2 e2 : TypeId} {fs : Array Field} {cs : List Value} {x : DataW H × List MemPlace} (ht : P.underlying t = some (.struct fs)) (hl : fs.toList.map (fun f => (f.type, f.offset)) = [(ti, 0), (t2, 1)])
    (hi : P.underlying ti = some (.int .i64)) (h2 : P.underlying t2 = some (.slice e2)) (hf2 : flatT P 6 e2 = true) (hz : P.cellsOf t = 2 ∧ P.cellsOf ti = 1 ∧ P.cellsOf t2 = 1 ∧ P.cellsOf e2 = 1)
    (hx : DataW.trod enc P w base spare held fuel t cs = some x) : ∃ v k, cs = [.int .i64 k.pace, v] ∧ PlnRep w v k := by
  obtain ⟨z0, z1, z2, z3⟩ := hz
  have hlen := (trod_struct ht hx).1
  rw [z0] at hlen
  obtain ⟨_, _, g1⟩ := struct_at ht hl hx ti 0 (by simp)
  obtain ⟨_, _, g3⟩ := struct_at ht hl hx t2 1 (by simp)
  match cs, hlen with
  | [v1, v3], _ =>
    rw [z1] at g1
    rw [z2] at g3
    obtain ⟨p, hp, rp⟩ := int_one hi g1
    obtain ⟨ts, a, b, c⟩ := ints_arg h2 hf2 z3 g3
    simp at hp
    subst hp
    exact ⟨v3, ⟨p, ts⟩, rfl, a, rp, b, c⟩
structure RowsOk (xss : List (List Int)) : Prop where
  rng : ∀ xs ∈ xss, ∀ x ∈ xs, InR x
  lens : ∀ xs ∈ xss, xs.length ≤ maxLen
  len : xss.length ≤ maxLen
end
end Go.Rd
end

section
namespace Go.Rd
set_option linter.unusedVariables false
theorem tb_t {p : Prop} (h : p) : tb p = true := tb_of h
theorem tb_f {p : Prop} (h : ¬ p) : tb p = false := tb_nof h

def tgtAt (t : Tgt) (i : Nat) : Prop := 1 ≤ sel3 t.u0 t.u1 t.u2 i ∧ sel3 t.u0 t.u1 t.u2 i ≤ 4 ∧ 1 ≤ sel3 t.w0 t.w1 t.w2 i ∧ sel3 t.w0 t.w1 t.w2 i ≤ 6
theorem tgtAt_all (t : Tgt) : (∀ i, i < 3 → tgtAt t i) ↔ ((1 ≤ t.u0 ∧ t.u0 ≤ 4 ∧ 1 ≤ t.w0 ∧ t.w0 ≤ 6) ∧ (1 ≤ t.u1 ∧ t.u1 ≤ 4 ∧ 1 ≤ t.w1 ∧ t.w1 ≤ 6) ∧ (1 ≤ t.u2 ∧ t.u2 ≤ 4 ∧ 1 ≤ t.w2 ∧ t.w2 ≤ 6)) := by
  constructor
  · intro h
    exact ⟨h 0 (by omega), h 1 (by omega), h 2 (by omega)⟩
  · rintro ⟨h0, h1, h2⟩ i hi
    match i, hi with
    | 0, _ => exact h0
    | 1, _ => exact h1
    | 2, _ => exact h2
theorem tgt_step (t : Tgt) (i : Nat) (hi : i < 3) (f : Int → Option (Stp Int Bool)) (hf : f i = br (decide ((i : Int) < 3)) (
    ck (IX (i : Int) 3) <| ck ((!(decide ((sel3 t.u0 t.u1 t.u2 i) < 1))) = true → IX (i : Int) 3) <| ck ((!((decide ((sel3 t.u0 t.u1 t.u2 i) < 1)) || (decide ((sel3 t.u0 t.u1 t.u2 i) > 4)))) = true → IX (i : Int) 3) <|
    ck ((!(((decide ((sel3 t.u0 t.u1 t.u2 i) < 1)) || (decide ((sel3 t.u0 t.u1 t.u2 i) > 4))) || (decide ((sel3 t.w0 t.w1 t.w2 i) < 1)))) = true → IX (i : Int) 3) <|
    br ((((decide ((sel3 t.u0 t.u1 t.u2 i) < 1)) || (decide ((sel3 t.u0 t.u1 t.u2 i) > 4))) || (decide ((sel3 t.w0 t.w1 t.w2 i) < 1))) || (decide ((sel3 t.w0 t.w1 t.w2 i) > 6))) (some (.ret false)) (ck (IR ((i : Int) + 1)) <| some (.next ((i : Int) + 1)))) (some (.brk (i : Int)))) :
    (tgtAt t i → f i = some (.next ((i : Int) + 1))) ∧ (¬ tgtAt t i → f i = some (.ret false)) := by
  have hix : IX (i : Int) 3 := ⟨by omega, by omega⟩
  rw [hf, br_T (by omega), ck_yes hix, ck_imp (fun _ => hix), ck_imp (fun _ => hix), ck_imp (fun _ => hix), ck_IR (by omega) (by omega)]
  unfold tgtAt
  constructor
  · intro h
    have : ((((decide ((sel3 t.u0 t.u1 t.u2 i) < 1)) || (decide ((sel3 t.u0 t.u1 t.u2 i) > 4))) || (decide ((sel3 t.w0 t.w1 t.w2 i) < 1))) || (decide ((sel3 t.w0 t.w1 t.w2 i) > 6))) = false := by
      simp only [Bool.or_eq_false_iff, decide_eq_false_iff_not]; omega
    rw [this]; rfl
  · intro h
    have : ((((decide ((sel3 t.u0 t.u1 t.u2 i) < 1)) || (decide ((sel3 t.u0 t.u1 t.u2 i) > 4))) || (decide ((sel3 t.w0 t.w1 t.w2 i) < 1))) || (decide ((sel3 t.w0 t.w1 t.w2 i) > 6))) = true := by
      simp only [Bool.or_eq_true, decide_eq_true_eq]; omega
    rw [this]; rfl
theorem target_May_s (t : Tgt) : target_May_m t = some (tgtOk t) := by
  unfold target_May_m
  have ha := tgtAt_all t
  rcases lp_all (f := target_May_L0 t) (n := 3) (p := tgtAt t) (fun i hi _ => tgt_step t i hi _ rfl) (by unfold target_May_L0; exact br_F (by omega)) with ⟨h, e⟩ | ⟨h, e⟩
  · rw [e, bd_ret, Out.on_go]
    congr 1
    rw [ha] at h
    unfold tgtOk
    rw [← Bool.decide_and]
    exact decide_eq_decide.2 ⟨fun h' => ⟨h.1, h.2.1, h.2.2, h'⟩, fun h' => h'.2.2.2⟩
  · rw [e, bd_ret, Out.on_ret]
    congr 1
    rw [ha] at h
    exact (tgtOk_not.2 fun h' => h ⟨h'.1, h'.2.1, h'.2.2.1⟩).symm
theorem ref_tMay_s (t : Tgt) : roundelayref4_May_m t = some (tgtOk t) := by
  unfold roundelayref4_May_m
  have ha := tgtAt_all t
  rcases lp_all (f := roundelayref4_May_L0 t) (n := 3) (p := tgtAt t) (fun i hi _ => tgt_step t i hi _ rfl) (by unfold roundelayref4_May_L0; exact br_F (by omega)) with ⟨h, e⟩ | ⟨h, e⟩
  · rw [e, bd_ret, Out.on_go]
    congr 1
    rw [ha] at h
    unfold tgtOk
    rw [← Bool.decide_and]
    exact decide_eq_decide.2 ⟨fun h' => ⟨h.1, h.2.1, h.2.2, h'⟩, fun h' => h'.2.2.2⟩
  · rw [e, bd_ret, Out.on_ret]
    congr 1
    rw [ha] at h
    exact (tgtOk_not.2 fun h' => h ⟨h'.1, h'.2.1, h'.2.2.1⟩).symm
theorem target_Wait_s (t : Tgt) (op : Int) : target_Wait_m t op = some (waitV t op) := by
  have hc := clsV_range op
  unfold target_Wait_m waitV
  rw [target_May_s, bd_ret]
  cases h : tgtOk t with
  | true => simp only [Bool.not_true, br_false, if_true]; rw [num_Class_s, bd_ret, ck_IX hc.1 hc.2]
  | false => rfl
theorem ref_Wait_s (t : Tgt) (op : Int) : roundelayref4_Wait_m t op = some (waitV t op) := by
  have hc := clsV_range op
  unfold roundelayref4_Wait_m waitV
  rw [ref_tMay_s, bd_ret]
  cases h : tgtOk t with
  | true => simp only [Bool.not_true, br_false, if_true]; rw [ref_Class_s, bd_ret, ck_IX hc.1 hc.2]
  | false => rfl

theorem Uses_s (s : Stm) : loop_Uses_m s = some (usesL s) := by
  unfold loop_Uses_m usesL
  simp only [br_eq, beq_iff_eq, decide_eq_true_eq]
  (repeat' split) <;> rfl
theorem ref_Uses_s (s : Stm) : roundelayref2_Uses_m s = some (usesL s) := by
  unfold roundelayref2_Uses_m usesL
  simp only [br_eq, beq_iff_eq, decide_eq_true_eq]
  (repeat' split) <;> rfl
theorem ref_s (l : Lp) (k : Int) (r : Rf) : loop_ref_m l k r = some (tb (RefOk l.body.length k r)) := by
  unfold loop_ref_m loop_in_m bdG
  simp only [bd_ret, br_eq, beq_iff_eq]
  by_cases h0 : r.bk = 0
  · rw [if_pos h0, h0]
    simp only [show ((0 : Int) ≥ 0) from by omega, show ((0 : Int) < 4) from by omega, decide_true, Bool.and_self, if_true, Bool.true_and]
    congr 1
    refine tb_eq ?_
    simp only [Bool.and_eq_true, decide_eq_true_eq]
    unfold RefOk
    omega
  · rw [if_neg h0]
    by_cases h1 : 0 ≤ r.bk ∧ r.bk < 4
    · simp only [show r.bk ≥ 0 from h1.1, h1.2, decide_true, Bool.and_self, if_true, Bool.true_and]
      congr 1
      refine tb_eq ?_
      simp only [Bool.and_eq_true, decide_eq_true_eq]
      unfold RefOk ln
      omega
    · have : (decide (r.bk ≥ 0) && decide (r.bk < 4)) = false := by
        simp only [Bool.and_eq_false_iff, decide_eq_false_iff_not]; omega
      rw [this]
      simp only [Bool.false_eq_true, if_false, Bool.false_and]
      congr 1
      exact (tb_f (by unfold RefOk; omega)).symm
structure Lp.Fine (l : Lp) : Prop where
  rlogs : ∀ x ∈ l.logs, InR x
  rbody : ∀ x ∈ l.body, x.InR
  routs : ∀ x ∈ l.outs, InR x
  llogs : l.logs.length ≤ maxLen
  lbody : l.body.length ≤ maxLen
  louts : l.outs.length ≤ maxLen
theorem LpRep.fine {w : World} {v1 v2 v3 : Value} {l : Lp} (h : LpRep w v1 v2 v3 l) : l.Fine := ⟨h.rlogs, h.rbody, h.routs, h.llogs, h.lbody, h.louts⟩
theorem maxLen_eq : maxLen = 9223372036854775807 := rfl
theorem zero2 (r : Rf) : ([r.st, r.bk] == [(0 : Int), 0]) = tb r.isZero := by
  refine tb_eq ?_
  simp [Rf.isZero]
theorem stmt_uses (l : Lp) (k : Int) (s : Stm) (hx : l.body.length ≤ maxLen) : (UsesTo l.body.length k (usesL s).length s ∧ lp (loop_stmt_L0 l k (usesL s)) 0 = some (.go ((usesL s).length : Int))) ∨
    (¬ UsesTo l.body.length k (usesL s).length s ∧ lp (loop_stmt_L0 l k (usesL s)) 0 = some (.ret false)) := by
  have hl := usesL_len s
  have := lp_all (f := loop_stmt_L0 l k (usesL s)) (n := (usesL s).length) (p := fun i => RefOk l.body.length k ((usesL s).getD i Rf.zero)) (fun i hi _ => by
    have e : loop_stmt_L0 l k (usesL s) i = br (!tb (RefOk l.body.length k ((usesL s).getD i Rf.zero))) (some (.ret false)) (some (.next ((i : Int) + 1))) := by
      unfold loop_stmt_L0
      rw [br_T (by unfold ln; omega), ck_IX (by omega) (by unfold ln; omega), ref_s, bd_ret, ck_IR (by omega) (by omega)]
      rfl
    constructor
    · intro h; rw [e, tb_t h]; rfl
    · intro h; rw [e, tb_f h]; rfl) (by unfold loop_stmt_L0; exact br_F (by unfold ln; omega))
  rcases this with ⟨h, e⟩ | ⟨h, e⟩
  · exact .inl ⟨fun j hj hj2 => h j hj2, e⟩
  · exact .inr ⟨fun h' => h fun i hi => h' i (by omega) hi, e⟩
theorem stillB (s : Stm) : ((s.ar == 0 && s.sp == 0) && s.pl == 0) = tb (StillOk s) := by
  refine tb_eq ?_
  simp [StillOk, and_assoc]
theorem wordB (nl : Int) (s : Stm) : (((decide (s.ar ≥ 0) && decide (s.ar < nl)) && (decide (s.sp ≥ -64) && decide (s.sp < 65))) && (decide (s.pl ≥ -64) && decide (s.pl < 65))) = tb (WordOk nl s) := by
  refine tb_eq ?_
  simp only [Bool.and_eq_true, decide_eq_true_eq]
  unfold WordOk
  omega
theorem tb_and {p q : Prop} : (tb p && tb q) = tb (p ∧ q) := by
  refine tb_eq ?_
  rw [Bool.and_eq_true, tb_iff, tb_iff]
theorem stmt_s (l : Lp) (k : Nat) (hk : k < l.body.length) (hf : l.Fine) : loop_stmt_m l k = some (tb (StmtOk l.logs.length l.body.length k (ele l.body k))) := by
  have hR : (ele l.body k).InR := ele_all hf.rbody hk
  have hop := hR.1
  unfold Rd.InR at hop
  have hl := hf.lbody
  rw [maxLen_eq] at hl
  generalize hs : ele l.body k = s at *
  have hs' : (Stm.mk s.op s.a s.b s.ar s.sp s.pl s.n) = s := rfl
  unfold loop_stmt_m
  rw [ck_IX (by omega) (by unfold ln; omega), hs, hs', Uses_s]
  unfold loop_in_m
  simp only [bd_ret, bdG_some']
  rcases stmt_uses l k s hf.lbody with ⟨hu, e⟩ | ⟨hu, e⟩
  · rw [e]
    simp only [bd_ret, Out.on_go]
    rw [tb_congr (stmt_rest (nl := l.logs.length) hu (by omega)), stillB, zero2, zero2]
    have w : ∀ A B C : Bool, ((A && (if A = true then B else false)) && (if (A && (if A = true then B else false)) = true then C else false)) = ((A && B) && C) := by decide
    rw [w, show ln l.logs = (l.logs.length : Int) from rfl, wordB]
    simp only [br_eq, beq_iff_eq, bne_iff_ne]
    by_cases h1 : s.op = 1
    · rw [if_pos h1, tb_congr (rest_1 h1), tb_and, tb_and, tb_congr (and_assoc)]
    · rw [if_neg h1]
      by_cases hn : s.n = 0
      · rw [if_neg (by simpa using hn)]
        by_cases h2 : s.op = 2
        · rw [if_pos h2, tb_congr (rest_2 h2 hn), tb_and, tb_and, tb_congr (and_assoc)]
        · rw [if_neg h2]
          by_cases h3 : s.op = 3
          · rw [if_pos h3, tb_congr (rest_3 h3 hn), tb_and, tb_and, tb_congr (and_assoc)]
          · rw [if_neg h3]
            by_cases h4 : s.op = 4
            · rw [if_pos h4, tb_congr (rest_4 h4 hn), tb_and]
            · rw [if_neg h4, tb_congr (rest_5 h1 h2 h3 h4 hn)]
              have ho := op_sub10 hop
              have e1 : (decide (IntKind.i64.wrap (s.op - 10) ≥ 1) && decide (IntKind.i64.wrap (s.op - 10) < 9)) = tb (11 ≤ s.op ∧ s.op ≤ 18) := by
                refine tb_eq ?_
                rw [Bool.and_eq_true, decide_eq_true_eq, decide_eq_true_eq]
                exact ho
              rw [e1]
              by_cases hst : StillOk s
              · rw [tb_t hst, if_pos rfl, Bool.true_and]
                congr 1
                exact tb_congr ⟨fun h => ⟨hst, h⟩, fun h => h.2⟩
              · rw [tb_f hst, Bool.false_and]
                congr 1
                exact (tb_f fun h => hst h.1).symm
      · rw [if_pos (by simpa using hn)]
        congr 1
        exact (tb_f (rest_n h1 hn)).symm
  · rw [e]
    simp only [bd_ret, Out.on_ret]
    congr 1
    refine (tb_f fun h => hu fun j hj hj2 => ?_).symm
    exact (uses_all.2 ⟨h.1, h.2.1⟩) j hj2

def LogAt (l : Lp) (j : Nat) : Prop := 0 ≤ l.logs.getD j 0 ∧ l.logs.getD j 0 ≤ 5
theorem logs_to {l : Lp} : LogsTo l l.logs.length ↔ ∀ i, i < l.logs.length → LogAt l i := ⟨fun h i hi => h i (by omega), fun h j hj => h j (by omega)⟩
def BodyAt (l : Lp) (j : Nat) : Prop := StmtOk l.logs.length l.body.length j (l.body.getD j Stm.zero)
theorem body_to {l : Lp} : BodyTo l l.body.length ↔ ∀ i, i < l.body.length → BodyAt l i := ⟨fun h i hi => h i (by omega), fun h j hj => h j (by omega)⟩
theorem ele_int (l : List Int) (i : Nat) : ele l (i : Int) = l.getD i 0 := rfl
theorem ele_stm (l : List Stm) (i : Nat) : ele l (i : Int) = l.getD i Stm.zero := rfl
theorem logs_s (l : Lp) (hf : l.Fine) : (LogsTo l l.logs.length ∧ lp (loop_May_L0 l) 0 = some (.go (l.logs.length : Int))) ∨ (¬ LogsTo l l.logs.length ∧ lp (loop_May_L0 l) 0 = some (.ret false)) := by
  have hl := hf.llogs
  rw [maxLen_eq] at hl
  rw [logs_to]
  refine lp_all (fun i hi _ => ?_) (by unfold loop_May_L0; exact br_F (by unfold ln; omega))
  have e : loop_May_L0 l i = br (!(decide (l.logs.getD i 0 ≥ 0) && decide (l.logs.getD i 0 < 6))) (some (.ret false)) (some (.next ((i : Int) + 1))) := by
    unfold loop_May_L0 loop_in_m
    rw [br_T (by unfold ln; omega), ck_IX (by omega) (by unfold ln; omega), bd_ret, ck_IR (by omega) (by omega)]
    rfl
  rw [e]
  constructor
  · intro h
    rw [show (decide (l.logs.getD i 0 ≥ 0) && decide (l.logs.getD i 0 < 6)) = true from by simp only [Bool.and_eq_true, decide_eq_true_eq]; unfold LogAt at h; omega]; rfl
  · intro h
    rw [show (decide (l.logs.getD i 0 ≥ 0) && decide (l.logs.getD i 0 < 6)) = false from by simp only [Bool.and_eq_false_iff, decide_eq_false_iff_not]; unfold LogAt at h; omega]; rfl
theorem outs_s (l : Lp) (hf : l.Fine) : ∀ (m i : Nat), i + m = l.outs.length → OutsTo l i →
    (OutsTo l l.outs.length ∧ ∃ x, lp (loop_May_L2 l) (lastOut l i, i) = some (.go (x, (l.outs.length : Int)))) ∨ (¬ OutsTo l l.outs.length ∧ lp (loop_May_L2 l) (lastOut l i, i) = some (.ret false))
  | 0, i, h, hp => by
    have hi : i = l.outs.length := by omega
    subst hi
    exact .inl ⟨hp, _, lp_brk (by unfold loop_May_L2; exact br_F (by unfold ln; omega))⟩
  | m + 1, i, h, hp => by
    have hl := hf.louts
    have hb := hf.lbody
    rw [maxLen_eq] at hl hb
    have hlo := lastOut_bd (by omega) hp
    have hst := out_step (l := l) (i := i) (by omega) hp
    rw [Int.toNat_natCast] at hst
    have e : loop_May_L2 l (lastOut l i, i) = br (!(decide (l.outs.getD i 0 ≥ lastOut l i + 1) && decide (l.outs.getD i 0 < l.body.length))) (some (.ret false)) (some (.next (l.outs.getD i 0, (i : Int) + 1))) := by
      unfold loop_May_L2 loop_in_m
      simp only
      rw [br_T (by unfold ln; omega), ck_IX (by omega) (by unfold ln; omega), ck_IR (by omega) (by omega), bd_ret, ck_IR (by omega) (by omega)]
      rfl
    by_cases hc : lastOut l i + 1 ≤ l.outs.getD i 0 ∧ l.outs.getD i 0 < l.body.length
    · have hc' : (decide (l.outs.getD i 0 ≥ lastOut l i + 1) && decide (l.outs.getD i 0 < l.body.length)) = true := by simp only [Bool.and_eq_true, decide_eq_true_eq]; exact hc
      rw [hc', Bool.not_true, br_false] at e
      have hnext : OutsTo l ((i : Int) + 1) := to_next hp (by omega) (by rw [Int.toNat_natCast]; exact hst.1 hc)
      have hn := lastOut_next (l := l) (i := i) (by omega)
      rw [Int.toNat_natCast] at hn
      have ih := outs_s l hf m (i + 1) (by omega) hnext
      rw [show ((i + 1 : Nat) : Int) = (i : Int) + 1 from rfl, hn] at ih
      rcases ih with ⟨a, x, b⟩ | ⟨a, b⟩
      · exact .inl ⟨a, x, (lp_next e).trans b⟩
      · exact .inr ⟨a, (lp_next e).trans b⟩
    · have hc' : (decide (l.outs.getD i 0 ≥ lastOut l i + 1) && decide (l.outs.getD i 0 < l.body.length)) = false := by simp only [Bool.and_eq_false_iff, decide_eq_false_iff_not]; omega
      rw [hc', Bool.not_false, br_true] at e
      exact .inr ⟨fun h' => hc (hst.2 (h' i (by omega))), lp_ret e⟩
theorem body_s (l : Lp) (hf : l.Fine) (hle : l.body.length ≤ 16) : (BodyTo l l.body.length ∧ lp (loop_May_L4 l) 0 = some (.go (l.body.length : Int))) ∨ (¬ BodyTo l l.body.length ∧ lp (loop_May_L4 l) 0 = some (.ret false)) := by
  rw [body_to]
  refine lp_all (fun i hi _ => ?_) (by unfold loop_May_L4; exact br_F (by unfold ln; omega))
  have e : loop_May_L4 l i = br (!tb (BodyAt l i)) (some (.ret false)) (some (.next ((i : Int) + 1))) := by
    have h16 : ¬ ln l.body > 16 := by unfold ln; omega
    unfold loop_May_L4
    rw [br_T (by unfold ln; omega), stmt_s l i hi hf, decide_eq_false h16, ck_IR (by omega) (by omega), ele_stm]
    simp only [Bool.not_false, bdG_t, bd_ret, Bool.false_or, BodyAt]
  rw [e]
  exact ⟨fun h => by rw [tb_t h]; rfl, fun h => by rw [tb_f h]; rfl⟩
theorem May_s (l : Lp) (hf : l.Fine) : loop_May_m l = some (tb (LoopOk l)) := by
  unfold loop_May_m
  rcases logs_s l hf with ⟨h1, e1⟩ | ⟨h1, e1⟩
  · rw [e1, bd_ret, Out.on_go]
    have h0 := outs_s l hf l.outs.length 0 (by omega) (to_zero)
    rw [show lastOut l ((0 : Nat) : Int) = -1 from rfl] at h0
    rcases h0 with ⟨h2, x, e2⟩ | ⟨h2, e2⟩
    · rw [show ((-1 : Int), (0 : Int)) = (-1, ((0 : Nat) : Int)) from rfl, e2, bd_ret, Out.on_go]
      simp only
      by_cases h16 : l.body.length ≤ 16
      · rcases body_s l hf h16 with ⟨h3, e3⟩ | ⟨h3, e3⟩
        · rw [e3, bd_ret, Out.on_go]
          congr 1
          refine tb_eq ?_
          simp only [Bool.and_eq_true, decide_eq_true_eq]
          unfold ln
          exact ⟨fun h => ⟨by omega, by omega, h16, h1, h2, h3⟩, fun h => ⟨by have := h.1; omega, by have := h.2.1; omega⟩⟩
        · rw [e3, bd_ret, Out.on_ret]
          congr 1
          exact (tb_f fun h => h3 h.2.2.2.2.2).symm
      · have : loop_May_L4 l 0 = some (.ret false) := by
          unfold loop_May_L4
          rw [br_T (by unfold ln; omega), show (decide (ln l.body > 16)) = true from decide_eq_true (by unfold ln; omega)]
          rfl
        rw [lp_ret this, bd_ret, Out.on_ret]
        congr 1
        exact (tb_f fun h => h16 h.2.2.1).symm
    · rw [show ((-1 : Int), (0 : Int)) = (-1, ((0 : Nat) : Int)) from rfl, e2, bd_ret, Out.on_ret]
      congr 1
      exact (tb_f fun h => h2 h.2.2.2.2.1).symm
  · rw [e1, bd_ret, Out.on_ret]
    congr 1
    exact (tb_f fun h => h1 h.2.2.2.1).symm

theorem ref_uses (l : Lp) (k : Int) (s : Stm) (hx : l.body.length ≤ maxLen) (hk : 0 ≤ k) (hk2 : k ≤ l.body.length) : (UsesTo l.body.length k (usesL s).length s ∧ lp (roundelayref2_stmt_L0 l k (usesL s)) 0 = some (.go ((usesL s).length : Int))) ∨
    (¬ UsesTo l.body.length k (usesL s).length s ∧ lp (roundelayref2_stmt_L0 l k (usesL s)) 0 = some (.ret false)) := by
  have hl := usesL_len s
  rw [maxLen_eq] at hx
  have := lp_all (f := roundelayref2_stmt_L0 l k (usesL s)) (n := (usesL s).length) (p := fun i => RefOk l.body.length k ((usesL s).getD i Rf.zero)) (fun i hi _ => by
    have hix : IX (i : Int) (ln (usesL s)) := ⟨by omega, by unfold ln; omega⟩
    have e : roundelayref2_stmt_L0 l k (usesL s) i = br (!tb (RefOk l.body.length k ((usesL s).getD i Rf.zero))) (some (.ret false)) (some (.next ((i : Int) + 1))) := by
      unfold roundelayref2_stmt_L0 roundelayref2_Within_m
      rw [show ele (usesL s) (i : Int) = (usesL s).getD i Rf.zero from rfl]
      generalize (usesL s).getD i Rf.zero = r
      rw [br_T (by unfold ln; omega), ck_IR (by unfold ln; omega) (by unfold ln; omega), ck_yes hix]
      simp only [bd_ret, bdG_some', Bool.not_not]
      rw [ck_yes hix, ck_imp (fun _ => hix), ck_yes hix, ck_imp (fun _ => hix), ck_IR (by omega) (by omega), ck_IR (by omega) (by omega)]
      have hb : ∀ b : Bool, (!b || !(if b = true then (decide (r.st ≥ 0) && decide (r.st ≤ k - 1)) else false)) = !(b && (decide (r.st ≥ 0) && decide (r.st ≤ k - 1))) := fun b => by cases b <;> simp
      have hb2 : ∀ b : Bool, (!b || !(if b = true then (decide (r.st ≥ 0) && decide (r.st ≤ ln l.body - 1)) else false)) = !(b && (decide (r.st ≥ 0) && decide (r.st ≤ ln l.body - 1))) := fun b => by cases b <;> simp
      rw [hb, hb2]
      rw [br_eq]
      simp only [beq_iff_eq]
      have q : ∀ {b : Bool} {p : Prop}, (b = true ↔ p) → br (!b) (some (Stp.ret false)) (some (Stp.next ((i : Int) + 1))) = br (!tb p) (some (.ret false)) (some (.next ((i : Int) + 1))) := fun h => by rw [tb_eq h]
      split
      · refine q ?_
        simp only [Bool.and_eq_true, decide_eq_true_eq]
        unfold RefOk; omega
      · refine q ?_
        simp only [Bool.and_eq_true, decide_eq_true_eq]
        unfold RefOk ln; omega
    constructor
    · intro h; rw [e, tb_t h]; rfl
    · intro h; rw [e, tb_f h]; rfl) (by unfold roundelayref2_stmt_L0; exact br_F (by unfold ln; omega))
  rcases this with ⟨h, e⟩ | ⟨h, e⟩
  · exact .inl ⟨fun j hj hj2 => h j hj2, e⟩
  · exact .inr ⟨fun h' => h fun i hi => h' i (by omega) hi, e⟩
theorem zerosB (s : Stm) : ((decide (ln (usesL s) < 2) && ((s.b.st != 0) || (s.b.bk != 0))) || (decide (ln (usesL s) < 1) && ((s.a.st != 0) || (s.a.bk != 0)))) = !tb (Zeros s) := by
  have : (!((decide (ln (usesL s) < 2) && ((s.b.st != 0) || (s.b.bk != 0))) || (decide (ln (usesL s) < 1) && ((s.a.st != 0) || (s.a.bk != 0))))) = tb (Zeros s) := by
    refine tb_eq ?_
    unfold Zeros Rf.isZero ln
    simp only [Bool.not_eq_true', Bool.or_eq_false_iff, Bool.and_eq_false_iff, decide_eq_false_iff_not, bne_eq_false_iff_eq]
    omega
  rw [← this, Bool.not_not]
theorem ref_stmt_s (l : Lp) (k : Nat) (hk : k < l.body.length) (hf : l.Fine) : roundelayref2_stmt_m l k = some (tb (StmtOk l.logs.length l.body.length k (ele l.body k))) := by
  have hl := hf.lbody
  have hl2 := hf.llogs
  rw [maxLen_eq] at hl hl2
  generalize hs : ele l.body k = s
  have hs' : (Stm.mk s.op s.a s.b s.ar s.sp s.pl s.n) = s := rfl
  unfold roundelayref2_stmt_m
  rw [ck_IX (by omega) (by unfold ln; omega), hs, hs', ref_Uses_s]
  unfold roundelayref2_Within_m
  simp only [bd_ret, bdG_some']
  rcases ref_uses l k s hf.lbody (by omega) (by omega) with ⟨hu, e⟩ | ⟨hu, e⟩
  · rw [e]
    simp only [bd_ret, Out.on_go]
    rw [tb_congr (stmt_rest (nl := l.logs.length) hu (by omega)), zerosB, ck_IR (by unfold ln; omega) (by unfold ln; omega)]
    by_cases hz : Zeros s
    · rw [tb_t hz, Bool.not_true, br_false]
      by_cases hn : s.op = 1 ∨ s.n = 0
      · rw [show ((s.op != 1) && (s.n != 0)) = false from by simp; omega, br_false]
        by_cases h34 : s.op = 3 ∨ s.op = 4
        · rw [show ((s.op == 3) || (s.op == 4)) = true from by simpa using h34, br_true, tb_congr (rest_34 h34 hz (by omega))]
          have w : ∀ A B C : Bool, ((A && (if A = true then B else false)) && (if (A && (if A = true then B else false)) = true then C else false)) = ((A && B) && C) := by decide
          rw [w]
          congr 1
          refine tb_eq ?_
          simp only [Bool.and_eq_true, decide_eq_true_eq]
          unfold WordOk ln; omega
        · rw [show ((s.op == 3) || (s.op == 4)) = false from by simp; omega, br_false]
          by_cases hst : StillOk s
          · have hst' := hst
            unfold StillOk at hst'
            rw [show (((s.ar != 0) || (s.sp != 0)) || (s.pl != 0)) = false from by simp [hst'.1, hst'.2.1, hst'.2.2], br_false, tb_congr (rest_end h34 hz hst hn)]
            congr 1
            refine tb_eq ?_
            by_cases h12 : s.op = 1 ∨ s.op = 2
            · simp [h12]; omega
            · simp; omega
          · have hst' := hst
            unfold StillOk at hst'
            rw [show (((s.ar != 0) || (s.sp != 0)) || (s.pl != 0)) = true from by simp; omega, br_true]
            congr 1
            exact (tb_f fun h => hst (rest_still h34 h)).symm
      · rw [show ((s.op != 1) && (s.n != 0)) = true from by simp; omega, br_true]
        congr 1
        exact (tb_f (rest_n (by omega) (by omega))).symm
    · rw [tb_f hz, Bool.not_false, br_true]
      congr 1
      exact (tb_f fun h => hz (rest_zero h)).symm
  · rw [e]
    simp only [bd_ret, Out.on_ret]
    congr 1
    refine (tb_f fun h => hu fun j hj hj2 => ?_).symm
    exact (uses_all.2 ⟨h.1, h.2.1⟩) j hj2
def OutAt (l : Lp) (j : Nat) : Prop := 0 ≤ l.outs.getD j 0 ∧ l.outs.getD j 0 < l.body.length ∧ (∀ m : Nat, j = m + 1 → l.outs.getD m 0 < l.outs.getD j 0)
theorem outs_to {l : Lp} : OutsTo l l.outs.length ↔ ∀ i, i < l.outs.length → OutAt l i := ⟨fun h i hi => h i (by omega), fun h j hj => h j (by omega)⟩
theorem ref_outs (l : Lp) (hf : l.Fine) : (OutsTo l l.outs.length ∧ lp (roundelayref2_May_L2 l) 0 = some (.go (l.outs.length : Int))) ∨ (¬ OutsTo l l.outs.length ∧ lp (roundelayref2_May_L2 l) 0 = some (.ret false)) := by
  have hl := hf.louts
  have hb := hf.lbody
  rw [maxLen_eq] at hl hb
  rw [outs_to]
  refine lp_all (fun i hi _ => ?_) (by unfold roundelayref2_May_L2; exact br_F (by unfold ln; omega))
  have hix : IX (i : Int) (ln l.outs) := ⟨by omega, by unfold ln; omega⟩
  have e : roundelayref2_May_L2 l i = br (!tb (OutAt l i)) (some (.ret false)) (some (.next ((i : Int) + 1))) := by
    unfold roundelayref2_May_L2 roundelayref2_Within_m
    rw [br_T (by unfold ln; omega), ck_yes hix, ck_IR (by unfold ln; omega) (by unfold ln; omega), bd_ret, ck_imp (fun _ => hix), ck_imp (fun h => ⟨by omega, by omega⟩), ck_imp (fun h => ⟨by simp at h; omega, by unfold ln; omega⟩), ck_IR (by omega) (by omega)]
    have : ((!(decide (ele l.outs (i : Int) ≥ 0) && decide (ele l.outs (i : Int) ≤ ln l.body - 1))) || (decide ((i : Int) > 0) && decide (ele l.outs (i : Int) ≤ ele l.outs ((i : Int) - 1)))) = !tb (OutAt l i) := by
      have : (!((!(decide (ele l.outs (i : Int) ≥ 0) && decide (ele l.outs (i : Int) ≤ ln l.body - 1))) || (decide ((i : Int) > 0) && decide (ele l.outs (i : Int) ≤ ele l.outs ((i : Int) - 1))))) = tb (OutAt l i) := by
        refine tb_eq ?_
        rw [ele_int]
        unfold OutAt ln
        cases i with
        | zero => simp; omega
        | succ m =>
          have e2 : ((m + 1 : Nat) : Int) - 1 = (m : Int) := by omega
          rw [e2, ele_int]
          simp
          constructor <;> intro h <;> omega
      rw [← this, Bool.not_not]
    rw [this]
  rw [e]
  exact ⟨fun h => by rw [tb_t h]; rfl, fun h => by rw [tb_f h]; rfl⟩
theorem ref_logs (l : Lp) (hf : l.Fine) : (LogsTo l l.logs.length ∧ lp (roundelayref2_May_L0 l) 0 = some (.go (l.logs.length : Int))) ∨ (¬ LogsTo l l.logs.length ∧ lp (roundelayref2_May_L0 l) 0 = some (.ret false)) := by
  have hl := hf.llogs
  rw [maxLen_eq] at hl
  rw [logs_to]
  refine lp_all (fun i hi _ => ?_) (by unfold roundelayref2_May_L0; exact br_F (by unfold ln; omega))
  have e : roundelayref2_May_L0 l i = br (!(decide (l.logs.getD i 0 ≥ 0) && decide (l.logs.getD i 0 ≤ 5))) (some (.ret false)) (some (.next ((i : Int) + 1))) := by
    unfold roundelayref2_May_L0 roundelayref2_Within_m
    rw [br_T (by unfold ln; omega), ck_IX (by omega) (by unfold ln; omega), bd_ret, ck_IR (by omega) (by omega)]
    rfl
  rw [e]
  constructor
  · intro h
    rw [show (decide (l.logs.getD i 0 ≥ 0) && decide (l.logs.getD i 0 ≤ 5)) = true from by simp only [Bool.and_eq_true, decide_eq_true_eq]; unfold LogAt at h; omega]; rfl
  · intro h
    rw [show (decide (l.logs.getD i 0 ≥ 0) && decide (l.logs.getD i 0 ≤ 5)) = false from by simp only [Bool.and_eq_false_iff, decide_eq_false_iff_not]; unfold LogAt at h; omega]; rfl
theorem ref_body (l : Lp) (hf : l.Fine) : (BodyTo l l.body.length ∧ lp (roundelayref2_May_L4 l) 0 = some (.go (l.body.length : Int))) ∨ (¬ BodyTo l l.body.length ∧ lp (roundelayref2_May_L4 l) 0 = some (.ret false)) := by
  have hb := hf.lbody
  rw [maxLen_eq] at hb
  rw [body_to]
  refine lp_all (fun i hi _ => ?_) (by unfold roundelayref2_May_L4; exact br_F (by unfold ln; omega))
  have e : roundelayref2_May_L4 l i = br (!tb (BodyAt l i)) (some (.ret false)) (some (.next ((i : Int) + 1))) := by
    unfold roundelayref2_May_L4
    rw [br_T (by unfold ln; omega), ref_stmt_s l i hi hf, bd_ret, ck_IR (by omega) (by omega)]
    rfl
  rw [e]
  exact ⟨fun h => by rw [tb_t h]; rfl, fun h => by rw [tb_f h]; rfl⟩
theorem ref_May_s (l : Lp) (hf : l.Fine) : roundelayref2_May_m l = some (tb (LoopOk l)) := by
  unfold roundelayref2_May_m
  by_cases h0 : l.logs.length ≤ 3 ∧ 1 ≤ l.body.length ∧ l.body.length ≤ 16
  · rw [show ((decide (ln l.logs > 3) || decide (ln l.body < 1)) || decide (ln l.body > 16)) = false from by simp only [Bool.or_eq_false_iff, decide_eq_false_iff_not]; unfold ln; omega, br_false]
    rcases ref_logs l hf with ⟨h1, e1⟩ | ⟨h1, e1⟩
    · rw [e1, bd_ret, Out.on_go]
      rcases ref_outs l hf with ⟨h2, e2⟩ | ⟨h2, e2⟩
      · rw [e2, bd_ret, Out.on_go]
        rcases ref_body l hf with ⟨h3, e3⟩ | ⟨h3, e3⟩
        · rw [e3, bd_ret, Out.on_go]
          congr 1
          exact (tb_t ⟨h0.1, h0.2.1, h0.2.2, h1, h2, h3⟩).symm
        · rw [e3, bd_ret, Out.on_ret]
          congr 1
          exact (tb_f fun h => h3 h.2.2.2.2.2).symm
      · rw [e2, bd_ret, Out.on_ret]
        congr 1
        exact (tb_f fun h => h2 h.2.2.2.2.1).symm
    · rw [e1, bd_ret, Out.on_ret]
      congr 1
      exact (tb_f fun h => h1 h.2.2.2.1).symm
  · rw [show ((decide (ln l.logs > 3) || decide (ln l.body < 1)) || decide (ln l.body > 16)) = true from by simp only [Bool.or_eq_true, decide_eq_true_eq]; unfold ln; omega, br_true]
    congr 1
    exact (tb_f fun h => h0 ⟨h.1, h.2.1, h.2.2.1⟩).symm
theorem LoopOk.log {l : Lp} (h : LoopOk l) (i : Nat) (hi : i < l.logs.length) : 0 ≤ l.logs.getD i 0 ∧ l.logs.getD i 0 ≤ 5 := h.2.2.2.1 i (by omega)
theorem LoopOk.out {l : Lp} (h : LoopOk l) (i : Nat) (hi : i < l.outs.length) : 0 ≤ l.outs.getD i 0 ∧ l.outs.getD i 0 < l.body.length := ⟨(h.2.2.2.2.1 i (by omega)).1, (h.2.2.2.2.1 i (by omega)).2.1⟩
theorem LoopOk.stm {l : Lp} (h : LoopOk l) (i : Nat) (hi : i < l.body.length) : StmtOk l.logs.length l.body.length i (l.body.getD i Stm.zero) := h.2.2.2.2.2 i (by omega)
theorem neB {a b : Int} : (a != b) = !tb (a = b) := by
  have : (!(a != b)) = tb (a = b) := tb_eq (by simp)
  rw [← this, Bool.not_not]
theorem outs_len {l : Lp} (h : LoopOk l) : l.outs.length ≤ 16 := by
  have h5 := h.2.2.2.2.1
  have key : ∀ i : Nat, i < l.outs.length → (i : Int) ≤ l.outs.getD i 0 := by
    intro i
    induction i with
    | zero => intro hi; exact (h5 0 (by omega)).1
    | succ i ih =>
      intro hi
      have h1 := ih (by omega)
      have h2 := (h5 (i + 1) (by omega)).2.2 i rfl
      omega
  rcases Nat.lt_or_ge 16 l.outs.length with hlt | hge
  · have h1 := key 16 hlt
    have h2 := (h5 16 (by omega)).2.1
    have := h.2.2.1
    omega
  · exact hge
theorem AL8 {n : Nat} (h : n ≤ 100000) : AL n 8 := ⟨by rw [maxLen_eq]; omega, by omega⟩
end Go.Rd
end

section
namespace Go.Rd
set_option linter.unusedVariables false
noncomputable def cmp_isNaN_int__m (x : Int) : Option (Bool) :=
 some (x != x)

noncomputable def cmp_Compare_int__m (x : Int) (y : Int) : Option (Int) :=
 bd (cmp_isNaN_int__m x) fun x1 =>
 bd (cmp_isNaN_int__m y) fun x4 =>
 br x1 (
 br x4 (
 some 0) (
 some (-1))) (
 br x4 (
 some 1) (
 br (decide (x < y)) (
 some (-1)) (
 br (decide (x > y)) (
 some 1) (
 some 0))))

noncomputable def cmp_Or_int__L0 (vals : List Int) : Int → Option (Stp (Int) (Int)) := fun x8_1 =>
 br (decide (x8_1 < (ln vals))) (
 ck (IX x8_1 (ln vals)) <|
 br ((ele vals x8_1) != 0) (
 some (.ret (ele vals x8_1))) (
 ck (IR (x8_1 + 1)) <|
 some (.next (x8_1 + 1)))) (
 some (.brk x8_1))
noncomputable def cmp_Or_int__m (vals : List Int) : Option (Int) :=
 bd (lp (cmp_Or_int__L0 vals) 0) fun o1 => o1.on (fun x8_1 =>
 some 0) (fun r => some r)

noncomputable def dep_order_m (a : Edg) (b : Edg) : Option (Int) :=
 bd (cmp_Compare_int__m a.fr b.fr) fun x3 =>
 bd (cmp_Compare_int__m a.to b.to) fun x6 =>
 bd (cmp_Compare_int__m a.bk b.bk) fun x9 =>
 bd (cmp_Compare_int__m a.wt b.wt) fun x12 =>
 bd (cmp_Or_int__m [x3, x6, x9, x12]) fun x16 =>
 some x16
end Go.Rd
end

section
namespace Go.Rd
set_option linter.unusedVariables false
noncomputable def slices_Compact___api_Edge_api_Edge__L2 (ows0_3 : List Edg) (k3_3 : Int) : ((List Edg) × Int × Int) → Option (Stp ((List Edg) × Int × Int) (Empty)) := fun (ows0_4, k3_4, k25_4) =>
 ck (SX k3_3 (ln ows0_3) (ln ows0_4)) <|
 br (decide (k25_4 < (ln (sub ows0_4 k3_3 (ln ows0_3))))) (
 ck (IX k25_4 (ln (sub ows0_4 k3_3 (ln ows0_3)))) <|
 ck (IR (k25_4 - 1)) <|
 ck (IX (k25_4 - 1) (ln (sub ows0_4 k3_3 (ln ows0_3)))) <|
 br (!([(ele (sub ows0_4 k3_3 (ln ows0_3)) k25_4).fr, (ele (sub ows0_4 k3_3 (ln ows0_3)) k25_4).to, (ele (sub ows0_4 k3_3 (ln ows0_3)) k25_4).bk, (ele (sub ows0_4 k3_3 (ln ows0_3)) k25_4).wt] == [(ele (sub ows0_4 k3_3 (ln ows0_3)) (k25_4 - 1)).fr, (ele (sub ows0_4 k3_3 (ln ows0_3)) (k25_4 - 1)).to, (ele (sub ows0_4 k3_3 (ln ows0_3)) (k25_4 - 1)).bk, (ele (sub ows0_4 k3_3 (ln ows0_3)) (k25_4 - 1)).wt])) (
 ck (IX k25_4 (ln (sub ows0_4 k3_3 (ln ows0_3)))) <|
 ck (IX k3_4 (ln ows0_4)) <|
 ck (IR (k3_4 + 1)) <|
 ck (IR (k25_4 + 1)) <|
 some (.next ((upd ows0_4 k3_4 (ele (sub ows0_4 k3_3 (ln ows0_3)) k25_4)), (k3_4 + 1), (k25_4 + 1)))) (
 ck (IR (k25_4 + 1)) <|
 some (.next (ows0_4, k3_4, (k25_4 + 1))))) (
 some (.brk (ows0_4, k3_4, k25_4)))
noncomputable def slices_Compact___api_Edge_api_Edge__L0  : ((List Edg) × Int) → Option (Stp ((List Edg) × Int) (List Edg)) := fun (ows0_3, k3_3) =>
 br (decide (k3_3 < (ln ows0_3))) (
 ck (IX k3_3 (ln ows0_3)) <|
 ck (IR (k3_3 - 1)) <|
 ck (IX (k3_3 - 1) (ln ows0_3)) <|
 br ([(ele ows0_3 k3_3).fr, (ele ows0_3 k3_3).to, (ele ows0_3 k3_3).bk, (ele ows0_3 k3_3).wt] == [(ele ows0_3 (k3_3 - 1)).fr, (ele ows0_3 (k3_3 - 1)).to, (ele ows0_3 (k3_3 - 1)).bk, (ele ows0_3 (k3_3 - 1)).wt]) (
 ck (SX k3_3 (ln ows0_3) (ln ows0_3)) <|
 bd (lp (slices_Compact___api_Edge_api_Edge__L2 ows0_3 k3_3) (ows0_3, k3_3, 1)) fun o26 => o26.on (fun (ows0_4, k3_4, k25_4) =>
 ck (SX k3_4 (ln ows0_4) (ln ows0_4)) <|
 ck (SX 0 k3_4 (ln (clr ows0_4 k3_4 (Edg.mk 0 0 0 0)))) <|
 some (.ret (sub (clr ows0_4 k3_4 (Edg.mk 0 0 0 0)) 0 k3_4))) (fun r => r.elim)) (
 ck (IR (k3_3 + 1)) <|
 some (.next (ows0_3, (k3_3 + 1))))) (
 some (.brk (ows0_3, k3_3)))
noncomputable def slices_Compact___api_Edge_api_Edge__m (s : List Edg) : Option (List Edg) :=
 br (decide ((ln s) < 2)) (
 some s) (
 bd (lp (slices_Compact___api_Edge_api_Edge__L0) (s, 1)) fun o5 => o5.on (fun (ows0_3, k3_3) =>
 some ows0_3) (fun r => some r))
end Go.Rd
end

section
namespace Go.Rd
set_option linter.unusedVariables false
noncomputable def dep_meet_L0 (a : Stm) (b : Stm) (back : Int) (size : Int) : Int → Option (Stp (Int) (Bool)) := fun x11_1 =>
 br (decide (x11_1 < size)) (
 ck (IR (a.sp * x11_1)) <|
 ck (IR ((a.sp * x11_1) + a.pl)) <|
 ck (IR (x11_1 + back)) <|
 ck (IR (b.sp * (x11_1 + back))) <|
 ck (IR (((a.sp * x11_1) + a.pl) - (b.sp * (x11_1 + back)))) <|
 ck (IR ((((a.sp * x11_1) + a.pl) - (b.sp * (x11_1 + back))) - b.pl)) <|
 ck (IR (size - 1)) <|
 br ((bitAnd ((((a.sp * x11_1) + a.pl) - (b.sp * (x11_1 + back))) - b.pl) (size - 1)) == 0) (
 some (.ret true)) (
 ck (IR (x11_1 + 1)) <|
 some (.next (x11_1 + 1)))) (
 some (.brk x11_1))
noncomputable def dep_meet_m (a : Stm) (b : Stm) (back : Int) (size : Int) : Option (Bool) :=
 bd (lp (dep_meet_L0 a b back size) 0) fun o3 => o3.on (fun x11_1 =>
 some false) (fun r => some r)

noncomputable def dep_words_m (s : Stm) : Option (Bool) :=
 some ((s.op == 3) || (s.op == 4))

noncomputable def dep_memory_L0 (l : Lp) (from_ : Int) (to : Int) (wait11_2 : Int) : Int → Option (Stp (Int) (Edg × Bool)) := fun back13_3 =>
 br (decide (back13_3 ≤ (shlD 1 (ele l.logs ((ele l.body from_).ar))))) (
 bd (dep_meet_m (ele l.body from_) (ele l.body to) back13_3 (shlD 1 (ele l.logs ((ele l.body from_).ar)))) fun x41 =>
 br x41 (
 some (.ret ((Edg.mk from_ to back13_3 wait11_2), true))) (
 ck (IR (back13_3 + 1)) <|
 some (.next (back13_3 + 1)))) (
 some (.brk back13_3))
noncomputable def dep_memory_m (l : Lp) (from_ : Int) (to : Int) : Option (Edg × Bool) :=
 ck (IX from_ (ln l.body)) <|
 ck (IX to (ln l.body)) <|
 bd (dep_words_m (ele l.body from_)) fun x13 =>
 bdG (!(!x13)) (dep_words_m (ele l.body to)) fun x16 =>
 br ((((!x13) || (!x16)) || ((ele l.body from_).ar != (ele l.body to).ar)) || (((ele l.body from_).op == 3) && ((ele l.body to).op == 3))) (
 some ((Edg.mk 0 0 0 0), false)) (
 bd (show Option (Out (Int) (Empty)) from br (decide (from_ ≥ to)) (
 some (.go 1)) (
 some (.go 0))) fun o22 => o22.on (fun least10_1 =>
 bd (show Option (Out (Int) (Empty)) from br ((ele l.body from_).op == 4) (
 some (.go 1)) (
 some (.go 0))) fun o25 => o25.on (fun wait11_2 =>
 ck (IX ((ele l.body from_).ar) (ln l.logs)) <|
 ck (0 ≤ (ele l.logs ((ele l.body from_).ar))) <|
 bd (lp (dep_memory_L0 l from_ to wait11_2) least10_1) fun o34 => o34.on (fun back13_3 =>
 some ((Edg.mk 0 0 0 0), false)) (fun r => some r)) (fun r => r.elim)) (fun r => r.elim))

noncomputable def dep_Edges_L2 (l : Lp) (t : Tgt) (x25_7 : Int) (x25 : List Rf) : ((List Edg) × Int) → Option (Stp ((List Edg) × Int) (Empty)) := fun (v12_8, x33_8) =>
 br (decide (x33_8 < (ln x25))) (
 ck (IX x33_8 (ln x25)) <|
 ck (IX ((ele x25 x33_8).st) (ln l.body)) <|
 bd (target_Wait_m t ((ele l.body ((ele x25 x33_8).st)).op)) fun x45 =>
 ck (AL (v12_8 ++ [(Edg.mk ((ele x25 x33_8).st) x25_7 ((ele x25 x33_8).bk) x45)]).length 32) <|
 ck (IR (x33_8 + 1)) <|
 some (.next ((v12_8 ++ [(Edg.mk ((ele x25 x33_8).st) x25_7 ((ele x25 x33_8).bk) x45)]), (x33_8 + 1)))) (
 some (.brk (v12_8, x33_8)))
noncomputable def dep_Edges_L4 (l : Lp) (x25_7 : Int) : ((List Edg) × Int) → Option (Stp ((List Edg) × Int) (Empty)) := fun (v12_9, x59_9) =>
 br (decide (x59_9 < (ln l.body))) (
 bd (dep_memory_m l x59_9 x25_7) fun x41 =>
 br x41.2 (
 ck (AL (v12_9 ++ [x41.1]).length 32) <|
 ck (IR (x59_9 + 1)) <|
 some (.next ((v12_9 ++ [x41.1]), (x59_9 + 1)))) (
 ck (IR (x59_9 + 1)) <|
 some (.next (v12_9, (x59_9 + 1))))) (
 some (.brk (v12_9, x59_9)))
noncomputable def dep_Edges_L0 (l : Lp) (t : Tgt) : ((List Edg) × Int) → Option (Stp ((List Edg) × Int) (Empty)) := fun (v12_7, x25_7) =>
 br (decide (x25_7 < (ln l.body))) (
 ck (IX x25_7 (ln l.body)) <|
 bd (loop_Uses_m (ele l.body x25_7)) fun x25 =>
 bd (lp (dep_Edges_L2 l t x25_7 x25) (v12_7, 0)) fun o29 => o29.on (fun (v12_8, x33_8) =>
 bd (lp (dep_Edges_L4 l x25_7) (v12_8, 0)) fun o34 => o34.on (fun (v12_9, x59_9) =>
 ck (IR (x25_7 + 1)) <|
 some (.next (v12_9, (x25_7 + 1)))) (fun r => r.elim)) (fun r => r.elim)) (
 some (.brk (v12_7, x25_7)))
noncomputable def dep_Edges_m (l : Lp) (t : Tgt) : Option (List Edg × Int) :=
 bd (loop_May_m l) fun x3 =>
 bdG (!(!x3)) (target_May_m t) fun x6 =>
 br ((!x3) || (!x6)) (
 some ([], 2)) (
 bd (lp (dep_Edges_L0 l t) ([], 0)) fun o13 => o13.on (fun (v12_7, x25_7) =>
 bd (SortFunc_m v12_7) fun x18 =>
 bd (slices_Compact___api_Edge_api_Edge__m x18) fun x22 =>
 some (x22, 0)) (fun r => r.elim))
end Go.Rd
end

section
namespace Go.Rd
set_option linter.unusedVariables false
noncomputable def roundelayref6_Meets_L0 (a : Stm) (b : Stm) (back : Int) (size : Int) : Int → Option (Stp (Int) (Bool)) := fun turn9_1 =>
 br (decide (turn9_1 < size)) (
 ck (IR (a.sp * turn9_1)) <|
 ck (IR ((a.sp * turn9_1) + a.pl)) <|
 bd (roundelayref1_Rest_m ((a.sp * turn9_1) + a.pl) size) fun x14 =>
 ck (IR (turn9_1 + back)) <|
 ck (IR (b.sp * (turn9_1 + back))) <|
 ck (IR ((b.sp * (turn9_1 + back)) + b.pl)) <|
 bd (roundelayref1_Rest_m ((b.sp * (turn9_1 + back)) + b.pl) size) fun x23 =>
 br (x14 == x23) (
 some (.ret true)) (
 ck (IR (turn9_1 + 1)) <|
 some (.next (turn9_1 + 1)))) (
 some (.brk turn9_1))
noncomputable def roundelayref6_Meets_m (a : Stm) (b : Stm) (back : Int) (size : Int) : Option (Bool) :=
 bd (lp (roundelayref6_Meets_L0 a b back size) 0) fun o3 => o3.on (fun turn9_1 =>
 some false) (fun r => some r)

noncomputable def roundelayref6_Memory_m (a : Stm) (b : Stm) : Option (Bool) :=
 some (((((a.op == 3) || (a.op == 4)) && ((b.op == 3) || (b.op == 4))) && (a.ar == b.ar)) && ((a.op == 4) || (b.op == 4)))

noncomputable def roundelayref6_is_L0 (l : Lp) (t : Tgt) (e_ : Edg) (x8 : List Rf) : Int → Option (Stp (Int) (Bool)) := fun i8_1 =>
 br (decide (i8_1 < (ln x8))) (
 ck (IX i8_1 (ln x8)) <|
 ck (((ele x8 i8_1).st == e_.fr) = true → IX i8_1 (ln x8)) <|
 ck ((((ele x8 i8_1).st == e_.fr) && ((ele x8 i8_1).bk == e_.bk)) = true → IX e_.fr (ln l.body)) <|
 bdG (((ele x8 i8_1).st == e_.fr) && ((ele x8 i8_1).bk == e_.bk)) (roundelayref4_Wait_m t ((ele l.body e_.fr).op)) fun x31 =>
 br ((((ele x8 i8_1).st == e_.fr) && ((ele x8 i8_1).bk == e_.bk)) && (e_.wt == x31)) (
 some (.ret true)) (
 ck (IR (i8_1 + 1)) <|
 some (.next (i8_1 + 1)))) (
 some (.brk i8_1))
noncomputable def roundelayref6_is_L2 (l : Lp) (e_ : Edg) (x40 : Int) : Int → Option (Stp (Int) (Bool)) := fun back14_4 =>
 br (decide (back14_4 < e_.bk)) (
 bd (roundelayref6_Meets_m (ele l.body e_.fr) (ele l.body e_.to) back14_4 x40) fun x59 =>
 br x59 (
 some (.ret false)) (
 ck (IR (back14_4 + 1)) <|
 some (.next (back14_4 + 1)))) (
 some (.brk back14_4))
noncomputable def roundelayref6_is_m (l : Lp) (t : Tgt) (e_ : Edg) : Option (Bool) :=
 ck (IX e_.to (ln l.body)) <|
 bd (roundelayref2_Uses_m (ele l.body e_.to)) fun x8 =>
 bd (lp (roundelayref6_is_L0 l t e_ x8) 0) fun o12 => o12.on (fun i8_1 =>
 ck (IX e_.fr (ln l.body)) <|
 ck (IX e_.to (ln l.body)) <|
 bd (show Option (Out (Int) (Empty)) from br ((ele l.body e_.fr).op == 4) (
 some (.go 1)) (
 some (.go 0))) fun o27 => o27.on (fun wait11_2 =>
 bd (roundelayref6_Memory_m (ele l.body e_.fr) (ele l.body e_.to)) fun x30 =>
 br ((!x30) || (e_.wt != wait11_2)) (
 some false) (
 ck (IX ((ele l.body e_.fr).ar) (ln l.logs)) <|
 bd (roundelayref1_Size_m (ele l.logs ((ele l.body e_.fr).ar))) fun x40 =>
 bd (show Option (Out (Int) (Empty)) from br (decide (e_.fr ≥ e_.to)) (
 some (.go 1)) (
 some (.go 0))) fun o43 => o43.on (fun least13_3 =>
 bdG (!((decide (e_.bk < least13_3)) || (decide (e_.bk > x40)))) (roundelayref6_Meets_m (ele l.body e_.fr) (ele l.body e_.to) e_.bk x40) fun x46 =>
 br (((decide (e_.bk < least13_3)) || (decide (e_.bk > x40))) || (!x46)) (
 some false) (
 bd (lp (roundelayref6_is_L2 l e_ x40) least13_3) fun o52 => o52.on (fun back14_4 =>
 some true) (fun r => some r))) (fun r => r.elim))) (fun r => r.elim)) (fun r => some r)

noncomputable def roundelayref6_Edges_L6 (l : Lp) (t : Tgt) (from6_45 : Int) (to7_54 : Int) (back8_57 : Int) : ((List Edg) × Int) → Option (Stp ((List Edg) × Int) (Empty)) := fun (v3_58, wait9_58) =>
 br (decide (wait9_58 ≤ 6)) (
 bd (roundelayref6_is_m l t (Edg.mk from6_45 to7_54 back8_57 wait9_58)) fun x33 =>
 br x33 (
 ck (AL (v3_58 ++ [(Edg.mk from6_45 to7_54 back8_57 wait9_58)]).length 32) <|
 ck (IR (wait9_58 + 1)) <|
 some (.next ((v3_58 ++ [(Edg.mk from6_45 to7_54 back8_57 wait9_58)]), (wait9_58 + 1)))) (
 ck (IR (wait9_58 + 1)) <|
 some (.next (v3_58, (wait9_58 + 1))))) (
 some (.brk (v3_58, wait9_58)))
noncomputable def roundelayref6_Edges_L4 (l : Lp) (t : Tgt) (from6_45 : Int) (to7_54 : Int) : ((List Edg) × Int) → Option (Stp ((List Edg) × Int) (Empty)) := fun (v3_57, back8_57) =>
 br (decide (back8_57 ≤ 32)) (
 bd (lp (roundelayref6_Edges_L6 l t from6_45 to7_54 back8_57) (v3_57, 0)) fun o25 => o25.on (fun (v3_58, wait9_58) =>
 ck (IR (back8_57 + 1)) <|
 some (.next (v3_58, (back8_57 + 1)))) (fun r => r.elim)) (
 some (.brk (v3_57, back8_57)))
noncomputable def roundelayref6_Edges_L2 (l : Lp) (t : Tgt) (from6_45 : Int) : ((List Edg) × Int) → Option (Stp ((List Edg) × Int) (Empty)) := fun (v3_54, to7_54) =>
 br (decide (to7_54 < (ln l.body))) (
 bd (lp (roundelayref6_Edges_L4 l t from6_45 to7_54) (v3_54, 0)) fun o18 => o18.on (fun (v3_57, back8_57) =>
 ck (IR (to7_54 + 1)) <|
 some (.next (v3_57, (to7_54 + 1)))) (fun r => r.elim)) (
 some (.brk (v3_54, to7_54)))
noncomputable def roundelayref6_Edges_L0 (l : Lp) (t : Tgt) : ((List Edg) × Int) → Option (Stp ((List Edg) × Int) (Empty)) := fun (v3_45, from6_45) =>
 br (decide (from6_45 < (ln l.body))) (
 bd (lp (roundelayref6_Edges_L2 l t from6_45) (v3_45, 0)) fun o11 => o11.on (fun (v3_54, to7_54) =>
 ck (IR (from6_45 + 1)) <|
 some (.next (v3_54, (from6_45 + 1)))) (fun r => r.elim)) (
 some (.brk (v3_45, from6_45)))
noncomputable def roundelayref6_Edges_m (l : Lp) (t : Tgt) : Option (List Edg) :=
 bd (lp (roundelayref6_Edges_L0 l t) ([], 0)) fun o4 => o4.on (fun (v3_45, from6_45) =>
 some v3_45) (fun r => r.elim)

noncomputable def roundelayref6_May_m (l : Lp) (t : Tgt) : Option (Bool) :=
 bd (roundelayref2_May_m l) fun x3 =>
 bdG (x3) (roundelayref4_May_m t) fun x6 =>
 some (x3 && x6)
end Go.Rd
end

section
namespace Go.Rd
set_option linter.unusedVariables false
def MeetP (a b : Stm) (back size : Int) : Prop := ∃ i : Nat, (i : Int) < size ∧ (a.sp * i + a.pl) % size = (b.sp * (i + back) + b.pl) % size
def NearS (a : Stm) : Prop := -64 ≤ a.sp ∧ a.sp ≤ 64 ∧ -64 ≤ a.pl ∧ a.pl ≤ 64
theorem pow2 {k : Nat} (h : k ≤ 5) : (1 : Int) ≤ 2 ^ k ∧ (2 : Int) ^ k ≤ 32 ∧ ((2 ^ k : Nat) : Int) = 2 ^ k := ⟨(two_pow_5 k h).1, (two_pow_5 k h).2, by simp⟩
theorem bitAnd_mask {x : Int} {k : Nat} (h : k ≤ 5) : bitAnd x (2 ^ k - 1) = x % 2 ^ k := by
  have hp := pow2 h
  unfold bitAnd
  rw [and_mask _ _ h, wrap_i64]
  · have := Int.emod_nonneg x (show (2 : Int) ^ k ≠ 0 from by omega); omega
  · have := Int.emod_lt_of_pos x (show (0 : Int) < 2 ^ k from by omega); omega
theorem meet_s {a b : Stm} (ha : NearS a) (hb : NearS b) {back : Int} (h0 : 0 ≤ back) (h1 : back ≤ 32) {k : Nat} (hk : k ≤ 5) : dep_meet_m a b back (2 ^ k) = some (tb (MeetP a b back (2 ^ k))) := by
  obtain ⟨p1, p2, p3⟩ := pow2 hk
  unfold dep_meet_m
  have step : ∀ i : Nat, 0 ≤ i → i < 2 ^ k → (¬ ((a.sp * i + a.pl) % 2 ^ k = (b.sp * (i + back) + b.pl) % 2 ^ k) → dep_meet_L0 a b back (2 ^ k) i = some (.next ((i : Int) + 1))) ∧ (¬ ¬ ((a.sp * i + a.pl) % 2 ^ k = (b.sp * (i + back) + b.pl) % 2 ^ k) → dep_meet_L0 a b back (2 ^ k) i = some (.ret true)) := fun i _ hi => by
    have hi' : (i : Int) < 2 ^ k := by omega
    have m1 := mul_le ha.1 ha.2.1 (show (0 : Int) ≤ i from by omega) (show (i : Int) ≤ 64 from by omega)
    have m2 := mul_le hb.1 hb.2.1 (show (0 : Int) ≤ i + back from by omega) (show (i : Int) + back ≤ 64 from by omega)
    obtain ⟨_, _, a3, a4⟩ := ha
    obtain ⟨_, _, b3, b4⟩ := hb
    have hiff : ((a.sp * i + a.pl) % 2 ^ k = (b.sp * (i + back) + b.pl) % 2 ^ k) ↔ (a.sp * i + a.pl - b.sp * (i + back) - b.pl) % 2 ^ k = 0 := by
      rw [Int.emod_eq_emod_iff_emod_sub_eq_zero, Int.sub_sub]
    have e : dep_meet_L0 a b back (2 ^ k) i = br ((a.sp * i + a.pl - b.sp * (i + back) - b.pl) % 2 ^ k == 0) (some (.ret true)) (some (.next ((i : Int) + 1))) := by
      unfold dep_meet_L0
      rw [br_T hi', ck_IR (by omega) (by omega), ck_IR (by omega) (by omega), ck_IR (by omega) (by omega), ck_IR (by omega) (by omega), ck_IR (by omega) (by omega), ck_IR (by omega) (by omega), ck_IR (by omega) (by omega), bitAnd_mask hk, ck_IR (by omega) (by omega)]
    rw [e, hiff]
    exact ⟨fun h => by rw [show ((a.sp * i + a.pl - b.sp * (i + back) - b.pl) % 2 ^ k == 0) = false from by simpa using h]; rfl, fun h => by rw [show ((a.sp * i + a.pl - b.sp * (i + back) - b.pl) % 2 ^ k == 0) = true from by simpa using h]; rfl⟩
  rcases lp_scan (f := dep_meet_L0 a b back (2 ^ k)) (n := 2 ^ k) (fun _ => true) (2 ^ k) 0 (by omega) step (by unfold dep_meet_L0; rw [p3]; exact br_F (by omega)) with ⟨h, e⟩ | ⟨i, _, h2, h3, _, e⟩
  · rw [show (((0 : Nat)) : Int) = 0 from rfl] at e
    rw [e, bd_ret, Out.on_go, tb_f]
    rintro ⟨i, hi, he⟩
    exact h i (by omega) (by omega) he
  · rw [show (((0 : Nat)) : Int) = 0 from rfl] at e
    rw [e, bd_ret, Out.on_ret, tb_t ⟨i, by omega, Classical.not_not.1 h3⟩]
theorem rmeet_s {a b : Stm} (ha : NearS a) (hb : NearS b) {back : Int} (h0 : 0 ≤ back) (h1 : back ≤ 32) {k : Nat} (hk : k ≤ 5) : roundelayref6_Meets_m a b back (2 ^ k) = some (tb (MeetP a b back (2 ^ k))) := by
  obtain ⟨p1, p2, p3⟩ := pow2 hk
  unfold roundelayref6_Meets_m
  have step : ∀ i : Nat, 0 ≤ i → i < 2 ^ k → (¬ ((a.sp * i + a.pl) % 2 ^ k = (b.sp * (i + back) + b.pl) % 2 ^ k) → roundelayref6_Meets_L0 a b back (2 ^ k) i = some (.next ((i : Int) + 1))) ∧ (¬ ¬ ((a.sp * i + a.pl) % 2 ^ k = (b.sp * (i + back) + b.pl) % 2 ^ k) → roundelayref6_Meets_L0 a b back (2 ^ k) i = some (.ret true)) := fun i _ hi => by
    have hi' : (i : Int) < 2 ^ k := by omega
    have m1 := mul_le ha.1 ha.2.1 (show (0 : Int) ≤ i from by omega) (show (i : Int) ≤ 64 from by omega)
    have m2 := mul_le hb.1 hb.2.1 (show (0 : Int) ≤ i + back from by omega) (show (i : Int) + back ≤ 64 from by omega)
    obtain ⟨_, _, a3, a4⟩ := ha
    obtain ⟨_, _, b3, b4⟩ := hb
    have e : roundelayref6_Meets_L0 a b back (2 ^ k) i = br ((a.sp * i + a.pl) % 2 ^ k == (b.sp * (i + back) + b.pl) % 2 ^ k) (some (.ret true)) (some (.next ((i : Int) + 1))) := by
      unfold roundelayref6_Meets_L0
      rw [br_T hi', ck_IR (by omega) (by omega), ck_IR (by omega) (by omega), Rest_s _ _ (by omega) (by omega), bd_ret, ck_IR (by omega) (by omega), ck_IR (by omega) (by omega), ck_IR (by omega) (by omega), Rest_s _ _ (by omega) (by omega), bd_ret, ck_IR (by omega) (by omega)]
    rw [e]
    exact ⟨fun h => by rw [beq_eq_false_iff_ne.2 h]; rfl, fun h => by rw [beq_iff_eq.2 (Classical.not_not.1 h)]; rfl⟩
  rcases lp_scan (f := roundelayref6_Meets_L0 a b back (2 ^ k)) (n := 2 ^ k) (fun _ => true) (2 ^ k) 0 (by omega) step (by unfold roundelayref6_Meets_L0; rw [p3]; exact br_F (by omega)) with ⟨h, e⟩ | ⟨i, _, h2, h3, _, e⟩
  · rw [show (((0 : Nat)) : Int) = 0 from rfl] at e
    rw [e, bd_ret, Out.on_go, tb_f]
    rintro ⟨i, hi, he⟩
    exact h i (by omega) (by omega) he
  · rw [show (((0 : Nat)) : Int) = 0 from rfl] at e
    rw [e, bd_ret, Out.on_ret, tb_t ⟨i, by omega, Classical.not_not.1 h3⟩]
def wordS (s : Stm) : Prop := s.op = 3 ∨ s.op = 4
def leastV (fr to : Int) : Int := if fr ≥ to then 1 else 0
def sizeV (l : Lp) (a : Stm) : Int := 2 ^ (ele l.logs a.ar).toNat
def memC (l : Lp) (fr to : Int) : Prop := wordS (ele l.body fr) ∧ wordS (ele l.body to) ∧ (ele l.body fr).ar = (ele l.body to).ar ∧ ((ele l.body fr).op = 4 ∨ (ele l.body to).op = 4)
structure MemE (l : Lp) (f u : Int) (e : Edg) : Prop where
  c : memC l f u
  fr : e.fr = f
  to : e.to = u
  wt : e.wt = if (ele l.body f).op = 4 then 1 else 0
  lo : leastV f u ≤ e.bk
  hi : e.bk ≤ sizeV l (ele l.body f)
  meet : MeetP (ele l.body f) (ele l.body u) e.bk (sizeV l (ele l.body f))
  first : ∀ k : Int, leastV f u ≤ k → k < e.bk → ¬ MeetP (ele l.body f) (ele l.body u) k (sizeV l (ele l.body f))
theorem MemE.one {l : Lp} {fr to : Int} {e e' : Edg} (h : MemE l fr to e) (h' : MemE l fr to e') : e = e' := by
  have hb : e.bk = e'.bk := by
    rcases Int.lt_trichotomy e.bk e'.bk with hh | hh | hh
    · exact absurd h.meet (h'.first _ h.lo hh)
    · exact hh
    · exact absurd h'.meet (h.first _ h'.lo hh)
  have h1 := h.fr.trans h'.fr.symm
  have h2 := h.to.trans h'.to.symm
  have h3 := h.wt.trans h'.wt.symm
  cases e; cases e'
  simp only [Edg.mk.injEq]
  exact ⟨h1, h2, hb, h3⟩
theorem word_near {l : Lp} (hl : LoopOk l) {i : Nat} (hi : i < l.body.length) (h : wordS (ele l.body (i : Int))) : NearS (ele l.body (i : Int)) ∧ IX (ele l.body (i : Int)).ar (ln l.logs) ∧ 0 ≤ ele l.logs (ele l.body (i : Int)).ar ∧ ele l.logs (ele l.body (i : Int)).ar ≤ 5 := by
  obtain ⟨_, _, q3⟩ := hl.stm i hi
  rw [show l.body.getD i Stm.zero = ele l.body (i : Int) from rfl] at q3
  generalize ele l.body (i : Int) = s at q3 h
  have hw : WordOk l.logs.length s := by
    unfold wordS at h
    rcases q3 with h' | h' | h' | h' | h' <;> first | exact h'.2.2.1 | omega
  obtain ⟨w1, w2, w3⟩ := hw
  have hlg := hl.log s.ar.toNat (by omega)
  exact ⟨w3, ⟨w1, by unfold ln; omega⟩, hlg⟩
theorem leastV_bd (fr to : Int) : 0 ≤ leastV fr to ∧ leastV fr to ≤ 1 := by unfold leastV; split <;> omega
theorem boolC {l : Lp} {fr to : Int} : ((((!((ele l.body fr).op == 3 || (ele l.body fr).op == 4)) || (!(if ((ele l.body fr).op == 3 || (ele l.body fr).op == 4) = true then ((ele l.body to).op == 3 || (ele l.body to).op == 4) else false))) || ((ele l.body fr).ar != (ele l.body to).ar)) || (((ele l.body fr).op == 3) && ((ele l.body to).op == 3))) = !tb (memC l fr to) := by
  unfold memC
  generalize ele l.body fr = a
  generalize ele l.body to = b
  have : (!((((!(a.op == 3 || a.op == 4)) || (!(if (a.op == 3 || a.op == 4) = true then (b.op == 3 || b.op == 4) else false))) || (a.ar != b.ar)) || ((a.op == 3) && (b.op == 3)))) = tb (wordS a ∧ wordS b ∧ a.ar = b.ar ∧ (a.op = 4 ∨ b.op = 4)) := by
    refine tb_eq ?_
    unfold wordS
    by_cases h1 : a.op = 3 <;> by_cases h2 : a.op = 4 <;> by_cases h3 : b.op = 3 <;> by_cases h4 : b.op = 4 <;> by_cases h5 : a.ar = b.ar <;> simp_all
  rw [← this, Bool.not_not]
theorem memory_s {l : Lp} (hl : LoopOk l) {fr to : Nat} (h1 : fr < l.body.length) (h2 : to < l.body.length) : ∃ r, dep_memory_m l fr to = some r ∧ ((r.2 = true ∧ MemE l fr to r.1) ∨ (r.2 = false ∧ ∀ e, ¬ MemE l fr to e)) := by
  unfold dep_memory_m dep_words_m
  rw [ck_IX (by omega) (by unfold ln; omega), ck_IX (by omega) (by unfold ln; omega), bd_ret]
  simp only [bdG_some', Bool.not_not]
  rw [boolC]
  by_cases hc : memC l fr to
  · rw [tb_t hc, Bool.not_true, br_false, br_go, bd_ret, Out.on_go, br_go, bd_ret, Out.on_go]
    obtain ⟨n1, x1, g1, g2⟩ := word_near hl h1 hc.1
    obtain ⟨n2, _, _, _⟩ := word_near hl h2 hc.2.1
    have hk : (ele l.logs (ele l.body (fr : Int)).ar).toNat ≤ 5 := by omega
    obtain ⟨p1, p2, p3⟩ := pow2 hk
    have hsz : shlD 1 (ele l.logs (ele l.body (fr : Int)).ar) = sizeV l (ele l.body (fr : Int)) := shl_one _ g1 g2
    have hS : sizeV l (ele l.body (fr : Int)) = 2 ^ (ele l.logs (ele l.body (fr : Int)).ar).toNat := rfl
    rw [ck_yes x1, ck_yes g1]
    have hle : (if decide ((fr : Int) ≥ to) = true then (1 : Int) else 0) = leastV fr to := by unfold leastV; simp
    have hwt : (if ((ele l.body (fr : Int)).op == 4) = true then (1 : Int) else 0) = if (ele l.body (fr : Int)).op = 4 then 1 else 0 := by simp
    rw [hle, hwt]
    have hlb := leastV_bd fr to
    generalize hW : (if (ele l.body (fr : Int)).op = 4 then (1 : Int) else 0) = W
    have hm : ∀ k : Int, 0 ≤ k → k ≤ 32 → dep_meet_m (ele l.body (fr : Int)) (ele l.body (to : Int)) k (sizeV l (ele l.body (fr : Int))) = some (tb (MeetP (ele l.body (fr : Int)) (ele l.body (to : Int)) k (sizeV l (ele l.body (fr : Int))))) := fun k a b => meet_s n1 n2 a b hk
    generalize hSS : sizeV l (ele l.body (fr : Int)) = Sz at hm hS hsz
    have hn : ((Sz.toNat : Nat) : Int) = Sz := by omega
    have step : ∀ i : Nat, (leastV fr to).toNat ≤ i → i < Sz.toNat + 1 → (¬ MeetP (ele l.body (fr : Int)) (ele l.body (to : Int)) i Sz → dep_memory_L0 l fr to W i = some (.next ((i : Int) + 1))) ∧ (¬ ¬ MeetP (ele l.body (fr : Int)) (ele l.body (to : Int)) i Sz → dep_memory_L0 l fr to W i = some (.ret (Edg.mk fr to i W, true))) := fun i _ hi => by
      have e : dep_memory_L0 l fr to W i = br (tb (MeetP (ele l.body (fr : Int)) (ele l.body (to : Int)) i Sz)) (some (.ret (Edg.mk fr to i W, true))) (some (.next ((i : Int) + 1))) := by
        unfold dep_memory_L0
        rw [hsz, br_T (by omega), hm i (by omega) (by omega), bd_ret, ck_IR (by omega) (by omega)]
      rw [e]
      exact ⟨fun h => by rw [tb_f h]; rfl, fun h => by rw [tb_t (Classical.not_not.1 h)]; rfl⟩
    rcases lp_scan (f := dep_memory_L0 l fr to W) (n := Sz.toNat + 1) (fun i => (Edg.mk fr to i W, true)) (Sz.toNat + 1 - (leastV fr to).toNat) (leastV fr to).toNat (by omega) step (by unfold dep_memory_L0; rw [hsz]; exact br_F (by omega)) with ⟨h, e⟩ | ⟨i, h3, h4, h5, h6, e⟩
    · rw [show (((leastV fr to).toNat : Nat) : Int) = leastV fr to from by omega] at e
      rw [e, bd_ret, Out.on_go]
      refine ⟨_, rfl, .inr ⟨rfl, fun e he => ?_⟩⟩
      have hlo := he.lo; have hhi := he.hi; have hme := he.meet
      rw [hSS] at hhi hme
      have hek : ((e.bk.toNat : Nat) : Int) = e.bk := by omega
      refine h e.bk.toNat (by omega) (by omega) ?_
      rw [hek]; exact hme
    · rw [show (((leastV fr to).toNat : Nat) : Int) = leastV fr to from by omega] at e
      rw [e, bd_ret, Out.on_ret]
      refine ⟨_, rfl, .inl ⟨rfl, ⟨hc, rfl, rfl, hW.symm, by show leastV fr to ≤ (i : Int); omega, by rw [hSS]; show (i : Int) ≤ Sz; omega, by rw [hSS]; exact Classical.not_not.1 h5, fun k hk1 hk2 => ?_⟩⟩⟩
      rw [hSS]
      have hk2' : k < (i : Int) := hk2
      have hkk : ((k.toNat : Nat) : Int) = k := by omega
      have := h6 k.toNat (by omega) (by omega)
      rwa [hkk] at this
  · rw [tb_f hc, Bool.not_false, br_true]
    exact ⟨_, rfl, .inr ⟨rfl, fun e he => hc he.c⟩⟩
def UseE (l : Lp) (t : Tgt) (to : Int) (e : Edg) : Prop := ∃ r ∈ usesL (ele l.body to), e = ⟨r.st, to, r.bk, waitV t (ele l.body r.st).op⟩
theorem uses_ok {l : Lp} (hl : LoopOk l) {i : Nat} (hi : i < l.body.length) {r : Rf} (hr : r ∈ usesL (ele l.body (i : Int))) : RefOk l.body.length i r := by
  obtain ⟨q1, q2, q3⟩ := hl.stm i hi
  rw [show l.body.getD i Stm.zero = ele l.body (i : Int) from rfl] at q1 q2 q3
  generalize ele l.body (i : Int) = s at q1 q2 q3 hr
  unfold usesL at hr
  split at hr
  · simp only [List.mem_singleton] at hr; subst hr; exact q1 (.inl ‹_›)
  · split at hr
    · simp only [List.mem_cons, List.not_mem_nil, or_false] at hr
      rcases hr with rfl | rfl
      · exact q1 (.inr ‹_›)
      · exact q2 ‹_›
    · cases hr
theorem RefOk.st {n k : Int} {r : Rf} (h : RefOk n k r) (hk : k ≤ n) : 0 ≤ r.st ∧ r.st < n := by
  obtain ⟨a1, a2, a3, a4, a5⟩ := h
  refine ⟨a3, ?_⟩
  by_cases hb : r.bk = 0
  · have := a4 hb; omega
  · exact a5 hb
def EdgeP (l : Lp) (t : Tgt) (e : Edg) : Prop := ∃ to : Nat, to < l.body.length ∧ (UseE l t to e ∨ ∃ fr : Nat, fr < l.body.length ∧ MemE l fr to e)
structure EdgeIn (n : Int) (e : Edg) : Prop where
  fr : 0 ≤ e.fr ∧ e.fr < n
  to : 0 ≤ e.to ∧ e.to < n
  bk : 0 ≤ e.bk ∧ e.bk ≤ 32
  wt : 0 ≤ e.wt ∧ e.wt ≤ 6
  ahead : e.bk = 0 → e.fr < e.to
theorem MemE.in {l : Lp} (hl : LoopOk l) {fr to : Nat} (h1 : fr < l.body.length) (h2 : to < l.body.length) {e : Edg} (h : MemE l fr to e) : EdgeIn l.body.length e := by
  obtain ⟨n1, x1, g1, g2⟩ := word_near hl h1 h.c.1
  obtain ⟨p1, p2, p3⟩ := pow2 (show (ele l.logs (ele l.body (fr : Int)).ar).toNat ≤ 5 from by omega)
  have hlo := h.lo; have hhi := h.hi
  have hlb := leastV_bd fr to
  have hS : sizeV l (ele l.body (fr : Int)) = 2 ^ (ele l.logs (ele l.body (fr : Int)).ar).toNat := rfl
  have hwt := h.wt
  refine ⟨by rw [h.fr]; omega, by rw [h.to]; omega, by omega, by split at hwt <;> omega, fun h0 => ?_⟩
  rw [h.fr, h.to]
  unfold leastV at hlo
  split at hlo <;> omega
theorem UseE.in {l : Lp} (hl : LoopOk l) {t : Tgt} {to : Nat} (h2 : to < l.body.length) {e : Edg} (h : UseE l t to e) : EdgeIn l.body.length e := by
  obtain ⟨r, hr, rfl⟩ := h
  have hk := uses_ok hl h2 hr
  have hst := hk.st (by omega)
  obtain ⟨a1, a2, a3, a4, a5⟩ := hk
  have hw := waitV_bd t (ele l.body r.st).op
  exact ⟨hst, ⟨by show (0 : Int) ≤ to; omega, by show (to : Int) < _; omega⟩, ⟨a1, by show r.bk ≤ 32; omega⟩, hw, fun h0 => a4 h0⟩
theorem EdgeP.in {l : Lp} (hl : LoopOk l) {t : Tgt} {e : Edg} (h : EdgeP l t e) : EdgeIn l.body.length e := by
  obtain ⟨to, h1, h2 | ⟨fr, h2, h3⟩⟩ := h
  · exact h2.in hl h1
  · exact h3.in hl h2 h1
end Go.Rd
end

section
namespace Go.Rd
set_option linter.unusedVariables false
def cmpV (x y : Int) : Int := if x < y then -1 else if y < x then 1 else 0
theorem cmp_s (x y : Int) : cmp_Compare_int__m x y = some (cmpV x y) := by
  unfold cmp_Compare_int__m cmp_isNaN_int__m cmpV
  simp only [bd_ret, bne_self_eq_false, br_false, br_eq, decide_eq_true_eq]
  by_cases h : x < y
  · simp [h]
  · by_cases h2 : y < x
    · simp [h, h2]
    · simp [h, h2]
theorem or_s (a b c d : Int) : cmp_Or_int__m [a, b, c, d] = some (if a ≠ 0 then a else if b ≠ 0 then b else if c ≠ 0 then c else d) := by
  unfold cmp_Or_int__m
  have st : ∀ (i : Nat) (v : Int), i < 4 → ele [a, b, c, d] (i : Int) = v → cmp_Or_int__L0 [a, b, c, d] i = br (v != 0) (some (.ret v)) (some (.next ((i + 1 : Nat) : Int))) := fun i v hi hv => by
    unfold cmp_Or_int__L0
    rw [br_T (by show (i : Int) < 4; omega), ck_IX (by omega) (by show (i : Int) < 4; omega), hv, ck_IR (by omega) (by omega)]
    rfl
  have s0 := st 0 a (by omega) rfl
  have s1 := st 1 b (by omega) rfl
  have s2 := st 2 c (by omega) rfl
  have s3 := st 3 d (by omega) rfl
  have s4 : cmp_Or_int__L0 [a, b, c, d] 4 = some (.brk 4) := by unfold cmp_Or_int__L0; exact br_F (by show ¬ ((4 : Int) < 4); omega)
  have key : ∀ (i : Nat) (v : Int) (r : Option (Out Int Int)), cmp_Or_int__L0 [a, b, c, d] i = br (v != 0) (some (.ret v)) (some (.next ((i + 1 : Nat) : Int))) → lp (cmp_Or_int__L0 [a, b, c, d]) ((i + 1 : Nat) : Int) = r → lp (cmp_Or_int__L0 [a, b, c, d]) i = if v ≠ 0 then some (.ret v) else r := fun i v r h1 h2 => by
    by_cases hv : v = 0
    · subst hv
      simp only [bne_self_eq_false, br_false] at h1
      rw [lp_next h1, h2]; rfl
    · rw [show (v != 0) = true from by simpa using hv, br_true] at h1
      rw [lp_ret h1, if_pos hv]
  have h4 : lp (cmp_Or_int__L0 [a, b, c, d]) ((3 + 1 : Nat) : Int) = some (.go 4) := lp_brk s4
  have h0 := key 0 a _ s0 (key 1 b _ s1 (key 2 c _ s2 (key 3 d _ s3 h4)))
  rw [show ((0 : Nat) : Int) = 0 from rfl] at h0
  rw [h0]
  by_cases ha : a = 0
  · by_cases hb : b = 0
    · by_cases hc : c = 0
      · by_cases hd : d = 0
        · simp [ha, hb, hc, hd]
        · simp [ha, hb, hc, hd]
      · simp [ha, hb, hc]
    · simp [ha, hb]
  · simp [ha]
theorem order_s (a b : Edg) : dep_order_m a b = some (ordV a b) := by
  unfold dep_order_m
  simp only [cmp_s, bd_ret, or_s]
  congr 1
  unfold cmpV ordV
  by_cases h1 : a.fr < b.fr
  · simp [h1]
  by_cases h2 : b.fr < a.fr
  · simp [h1, h2]
  by_cases h3 : a.to < b.to
  · simp [h1, h2, h3]
  by_cases h4 : b.to < a.to
  · simp [h1, h2, h3, h4]
  by_cases h5 : a.bk < b.bk
  · simp [h1, h2, h3, h4, h5]
  by_cases h6 : b.bk < a.bk
  · simp [h1, h2, h3, h4, h5, h6]
  simp [h1, h2, h3, h4, h5, h6]
theorem ordV_neg {a b : Edg} : ordV a b < 0 ↔ a.fr < b.fr ∨ (a.fr = b.fr ∧ (a.to < b.to ∨ (a.to = b.to ∧ (a.bk < b.bk ∨ (a.bk = b.bk ∧ a.wt < b.wt))))) := by
  unfold ordV
  repeat' split
  all_goals omega
end Go.Rd
end

section
namespace Go.Rd
set_option linter.unusedVariables false
def Lt (a b : Edg) : Prop := ordV a b < 0
theorem Lt.trans {a b c : Edg} (h : Lt a b) (h' : Lt b c) : Lt a c := by unfold Lt at *; rw [ordV_neg] at *; omega
theorem Lt.irrefl {a : Edg} : ¬ Lt a a := by unfold Lt; rw [ordV_neg]; omega
theorem Lt.asymm {a b : Edg} (h : Lt a b) : ¬ Lt b a := fun h' => Lt.irrefl (h.trans h')
theorem Lt.tri {a b : Edg} (h1 : ¬ Lt a b) (h2 : ¬ Lt b a) : a = b := by
  unfold Lt at *; rw [ordV_neg] at *
  cases a; cases b; simp only [Edg.mk.injEq] at *; omega
def Strict (l : List Edg) : Prop := l.Pairwise Lt
theorem strict_ext : ∀ {a b : List Edg}, Strict a → Strict b → (∀ e, e ∈ a ↔ e ∈ b) → a = b
  | [], [], _, _, _ => rfl
  | [], y :: b, _, _, h => by have := (h y).2 (by simp); cases this
  | x :: a, [], _, _, h => by have := (h x).1 (by simp); cases this
  | x :: a, y :: b, ha, hb, h => by
    obtain ⟨a1, a2⟩ := List.pairwise_cons.1 ha
    obtain ⟨b1, b2⟩ := List.pairwise_cons.1 hb
    have hxy : x = y := by
      rcases List.mem_cons.1 ((h x).1 (by simp)) with h1 | h1
      · exact h1
      · rcases List.mem_cons.1 ((h y).2 (by simp)) with h2 | h2
        · exact h2.symm
        · exact absurd (b1 x h1) (a1 y h2).asymm
    subst hxy
    congr 1
    refine strict_ext a2 b2 fun e => ⟨fun he => ?_, fun he => ?_⟩
    · rcases List.mem_cons.1 ((h e).1 (by simp [he])) with h1 | h1
      · subst h1; exact absurd (a1 e he) Lt.irrefl
      · exact h1
    · rcases List.mem_cons.1 ((h e).2 (by simp [he])) with h1 | h1
      · subst h1; exact absurd (b1 e he) Lt.irrefl
      · exact h1
theorem strict_snoc {l : List Edg} {x : Edg} (h : Strict l) (hx : ∀ e ∈ l, Lt e x) : Strict (l ++ [x]) := by
  unfold Strict
  rw [List.pairwise_append]
  exact ⟨h, List.pairwise_singleton _ _, fun a ha b hb => by simp only [List.mem_singleton] at hb; subst hb; exact hx a ha⟩
theorem edg_beq (a b : Edg) : ([a.fr, a.to, a.bk, a.wt] == [b.fr, b.to, b.bk, b.wt]) = tb (a = b) := by
  refine tb_eq ?_
  cases a; cases b
  simp
def Srt (l : List Edg) : Prop := l.Pairwise fun a b => ¬ Lt b a
theorem Srt.at {l : List Edg} (h : Srt l) {i j : Nat} (hij : i < j) (hj : j < l.length) : ¬ Lt (ele l (j : Int)) (ele l (i : Int)) := by
  have := List.pairwise_iff_getElem.1 h i j (by omega) hj hij
  simpa [ele_nat, List.getD_eq_getElem?_getD, hj, show i < l.length from by omega] using this
theorem mem_take {l : List Edg} {n : Nat} {e : Edg} : e ∈ l.take n ↔ ∃ i : Nat, i < n ∧ i < l.length ∧ ele l (i : Int) = e := by
  constructor
  · intro h
    obtain ⟨i, hi, rfl⟩ := List.getElem_of_mem h
    rw [List.length_take] at hi
    exact ⟨i, by omega, by omega, by simp [ele_nat, List.getD_eq_getElem?_getD, show i < l.length from by omega]⟩
  · rintro ⟨i, h1, h2, rfl⟩
    rw [ele_nat, List.getD_eq_getElem?_getD, List.getElem?_eq_getElem h2]
    exact List.mem_of_getElem? (by rw [List.getElem?_take, if_pos h1, List.getElem?_eq_getElem h2]; rfl)
theorem upd_take {l : List Edg} {k : Nat} {x : Edg} (h : k < l.length) : (upd l (k : Int) x).take (k + 1) = l.take k ++ [x] := by
  unfold upd
  rw [Int.toNat_natCast, List.take_add_one, List.take_set_of_le (Nat.le_refl _), List.getElem?_set_self h]
  rfl
theorem sub_at {l : List Edg} {k i : Nat} (h : k + i < l.length) : ele (sub l (k : Int) (ln l)) (i : Int) = ele l ((k + i : Nat) : Int) := by
  unfold sub ln
  rw [ele_nat, ele_nat, List.getD_eq_getElem?_getD, List.getElem?_take, if_pos (by omega), List.getElem?_drop, Int.toNat_natCast, List.getD_eq_getElem?_getD]
structure CptI (s : List Edg) (k0 : Nat) (ows : List Edg) (k j : Nat) : Prop where
  len : ows.length = s.length
  kp : 1 ≤ k0
  j1 : 1 ≤ j
  jn : k0 + j ≤ s.length
  kk : k0 ≤ k
  kj : k + 1 ≤ k0 + j
  st : Strict (ows.take k)
  mem : ∀ e, e ∈ ows.take k ↔ e ∈ s.take (k0 + j)
  last : ele ows ((k - 1 : Nat) : Int) = ele s ((k0 + j - 1 : Nat) : Int)
  rest : ∀ p : Nat, k0 + j - 1 ≤ p → p < s.length → ele ows (p : Int) = ele s (p : Int)
theorem last_max {l : List Edg} (h : Strict l) (h0 : 0 < l.length) : ∀ e ∈ l, e = ele l ((l.length - 1 : Nat) : Int) ∨ Lt e (ele l ((l.length - 1 : Nat) : Int)) := fun e he => by
  obtain ⟨i, hi, rfl⟩ := List.getElem_of_mem he
  have hl : ele l ((l.length - 1 : Nat) : Int) = l[l.length - 1] := by simp [ele_nat, List.getD_eq_getElem?_getD, show l.length - 1 < l.length from by omega]
  rw [hl]
  by_cases h1 : i = l.length - 1
  · left; congr 1
  · right; exact List.pairwise_iff_getElem.1 h i (l.length - 1) hi (by omega) (by omega)
theorem ele_take {l : List Edg} {k i : Nat} (h : i < k) : ele (l.take k) (i : Int) = ele l (i : Int) := by
  rw [ele_nat, ele_nat, List.getD_eq_getElem?_getD, List.getElem?_take, if_pos h, List.getD_eq_getElem?_getD]
theorem cpt_step {s : List Edg} (hs : Srt s) (hb : s.length ≤ 4611686018427387904) {k0 : Nat} {ows : List Edg} {k j : Nat} (h : CptI s k0 ows k j) (hj : k0 + j < s.length) :
    (∃ ows' k', slices_Compact___api_Edge_api_Edge__L2 s k0 (ows, (k : Int), (j : Int)) = some (.next (ows', ((k' : Nat) : Int), ((j + 1 : Nat) : Int))) ∧ CptI s k0 ows' k' (j + 1)) := by
  have hl := h.len; have hj1 := h.j1; have hkj := h.kj; have hk0 := h.kp; have hkk := h.kk
  have hln : ln s = ln ows := by unfold ln; rw [hl]
  have hsub : ln (sub ows (k0 : Int) (ln ows)) = ((s.length - k0 : Nat) : Int) := by
    have := sub_len (xs := ows) (i := (k0 : Int)) (j := ln ows) ⟨by omega, by unfold ln; omega, Int.le_refl _⟩
    unfold ln at this ⊢
    rw [this]; omega
  have hx : ele (sub ows (k0 : Int) (ln ows)) (j : Int) = ele s ((k0 + j : Nat) : Int) := by rw [sub_at (by omega), h.rest _ (by omega) hj]
  have hy : ele (sub ows (k0 : Int) (ln ows)) ((j : Int) - 1) = ele s ((k0 + j - 1 : Nat) : Int) := by
    rw [show (j : Int) - 1 = ((j - 1 : Nat) : Int) from by omega, sub_at (by omega), h.rest _ (by omega) (by omega), show k0 + (j - 1) = k0 + j - 1 from by omega]
  have hsc : ((j + 1 : Nat) : Int) = (j : Int) + 1 := rfl
  have hmem : ∀ e, e ∈ s.take (k0 + (j + 1)) ↔ e ∈ s.take (k0 + j) ∨ e = ele s ((k0 + j : Nat) : Int) := fun e => by
    rw [show k0 + (j + 1) = (k0 + j) + 1 from rfl, take_next hj, List.mem_append, List.mem_singleton]
  unfold slices_Compact___api_Edge_api_Edge__L2
  simp only
  rw [hln, ck_SX (by omega) (by unfold ln; omega) (Int.le_refl _), hsub, br_T (by omega), ck_IX (by omega) (by omega), ck_IR (by omega) (by omega), ck_IX (by omega) (by omega), hx, hy, edg_beq]
  by_cases he : ele s ((k0 + j : Nat) : Int) = ele s ((k0 + j - 1 : Nat) : Int)
  · rw [tb_t he, Bool.not_true, br_false, ck_IR (by omega) (by omega), ← hsc]
    refine ⟨ows, k, rfl, ⟨hl, hk0, by omega, by omega, hkk, by omega, h.st, fun e => ?_, ?_, fun p h1 h2 => h.rest p (by omega) h2⟩⟩
    · rw [h.mem, hmem]
      refine ⟨.inl, fun h' => h'.elim id fun h' => ?_⟩
      rw [h', he, mem_take]
      exact ⟨k0 + j - 1, by omega, by omega, rfl⟩
    · rw [h.last, show k0 + (j + 1) - 1 = k0 + j from by omega, he]
  · rw [tb_f he, Bool.not_false, br_true, ck_IX (by omega) (by omega), ck_IX (by omega) (by unfold ln; omega), ck_IR (by omega) (by omega), ck_IR (by omega) (by omega), ← hsc]
    refine ⟨_, k + 1, rfl, ⟨by rw [upd_length]; exact hl, hk0, by omega, by omega, by omega, by omega, ?_, fun e => ?_, ?_, fun p h1 h2 => ?_⟩⟩
    · rw [upd_take (by omega)]
      refine strict_snoc h.st fun e hm => ?_
      have hlt : (ows.take k).length = k := by rw [List.length_take]; omega
      have hmx := last_max h.st (by omega) e hm
      rw [hlt, ele_take (by omega), h.last] at hmx
      have hnot := hs.at (i := k0 + j - 1) (j := k0 + j) (by omega) hj
      have hlt2 : Lt (ele s ((k0 + j - 1 : Nat) : Int)) (ele s ((k0 + j : Nat) : Int)) := by
        by_cases hh : Lt (ele s ((k0 + j - 1 : Nat) : Int)) (ele s ((k0 + j : Nat) : Int))
        · exact hh
        · exact absurd (Lt.tri hnot hh) he
      rcases hmx with h' | h'
      · rw [h']; exact hlt2
      · exact h'.trans hlt2
    · rw [upd_take (by omega), List.mem_append, List.mem_singleton, h.mem, hmem]
    · rw [show k + 1 - 1 = k from rfl, ele_upd ⟨by omega, by unfold ln; omega⟩, show k0 + (j + 1) - 1 = k0 + j from by omega]
    · rw [ele_upd_ne (by omega)]
      exact h.rest p (by omega) h2
theorem cpt_loop {s : List Edg} (hs : Srt s) (hb : s.length ≤ 4611686018427387904) {k0 : Nat} : ∀ (m j k : Nat) (ows : List Edg), k0 + j + m = s.length → CptI s k0 ows k j → ∃ ows' k', lp (slices_Compact___api_Edge_api_Edge__L2 s k0) (ows, (k : Int), (j : Int)) = some (.go (ows', ((k' : Nat) : Int), ((s.length - k0 : Nat) : Int))) ∧ CptI s k0 ows' k' (s.length - k0)
  | 0, j, k, ows, hm, h => by
    have hj : j = s.length - k0 := by have := h.kk; omega
    subst hj
    refine ⟨ows, k, lp_brk ?_, h⟩
    have hl := h.len
    have hln : ln s = ln ows := by unfold ln; rw [hl]
    have hsub : ln (sub ows (k0 : Int) (ln ows)) = ((s.length - k0 : Nat) : Int) := by
      have := sub_len (xs := ows) (i := (k0 : Int)) (j := ln ows) ⟨by omega, by unfold ln; omega, Int.le_refl _⟩
      unfold ln at this ⊢
      rw [this]; omega
    unfold slices_Compact___api_Edge_api_Edge__L2
    simp only
    rw [hln, ck_SX (by omega) (by unfold ln; omega) (Int.le_refl _), hsub, br_F (by omega)]
  | m + 1, j, k, ows, hm, h => by
    obtain ⟨ows', k', h1, h2⟩ := cpt_step hs hb h (by omega)
    obtain ⟨o2, k2, h3, h4⟩ := cpt_loop hs hb m (j + 1) k' ows' (by omega) h2
    exact ⟨o2, k2, lp_step h1 h3, h4⟩
theorem Compact_s {s : List Edg} (hs : Srt s) (hb : s.length ≤ 4611686018427387904) : ∃ ys, slices_Compact___api_Edge_api_Edge__m s = some ys ∧ Strict ys ∧ ∀ e, e ∈ ys ↔ e ∈ s := by
  unfold slices_Compact___api_Edge_api_Edge__m
  by_cases h2 : s.length < 2
  · rw [br_T (by unfold ln; omega)]
    refine ⟨s, rfl, ?_, fun e => Iff.rfl⟩
    match s, h2 with
    | [], _ => exact List.Pairwise.nil
    | [x], _ => exact List.pairwise_singleton _ _
  · rw [br_F (by unfold ln; omega)]
    have key : ∀ m k : Nat, 1 ≤ k → k + m = s.length → Strict (s.take k) → (Strict s ∧ lp slices_Compact___api_Edge_api_Edge__L0 (s, (k : Int)) = some (.go (s, (s.length : Int)))) ∨ (∃ ys, lp slices_Compact___api_Edge_api_Edge__L0 (s, (k : Int)) = some (.ret ys) ∧ Strict ys ∧ ∀ e, e ∈ ys ↔ e ∈ s) := by
      intro m
      induction m with
      | zero =>
        intro k h1 hk hst
        have : k = s.length := by omega
        subst this
        rw [List.take_length] at hst
        refine .inl ⟨hst, lp_brk ?_⟩
        unfold slices_Compact___api_Edge_api_Edge__L0
        exact br_F (by unfold ln; omega)
      | succ m ih =>
        intro k h1 hk hst
        have e : slices_Compact___api_Edge_api_Edge__L0 (s, (k : Int)) = br (tb (ele s (k : Int) = ele s ((k - 1 : Nat) : Int))) (ck (SX (k : Int) (ln s) (ln s)) <| bd (lp (slices_Compact___api_Edge_api_Edge__L2 s k) (s, (k : Int), 1)) fun o26 => o26.on (fun (ows0_4, k3_4, k25_4) =>
            ck (SX k3_4 (ln ows0_4) (ln ows0_4)) <| ck (SX 0 k3_4 (ln (clr ows0_4 k3_4 (Edg.mk 0 0 0 0)))) <| some (.ret (sub (clr ows0_4 k3_4 (Edg.mk 0 0 0 0)) 0 k3_4))) (fun r => r.elim)) (some (.next (s, ((k + 1 : Nat) : Int)))) := by
          unfold slices_Compact___api_Edge_api_Edge__L0
          simp only
          rw [br_T (by unfold ln; omega), ck_IX (by omega) (by unfold ln; omega), ck_IR (by omega) (by omega), show (k : Int) - 1 = ((k - 1 : Nat) : Int) from by omega, ck_IX (by omega) (by unfold ln; omega), edg_beq, ck_IR (by omega) (by omega)]
          rfl
        by_cases he : ele s (k : Int) = ele s ((k - 1 : Nat) : Int)
        · rw [tb_t he, br_true, ck_SX (by omega) (by unfold ln; omega) (Int.le_refl _)] at e
          have hI : CptI s k s k 1 := ⟨rfl, h1, Nat.le_refl _, by omega, Nat.le_refl _, Nat.le_refl _, hst, fun x => by
              rw [take_next (by omega), List.mem_append, List.mem_singleton]
              refine ⟨.inl, fun h' => h'.elim id fun h' => ?_⟩
              rw [h', he, mem_take]
              exact ⟨k - 1, by omega, by omega, rfl⟩, he.symm, fun _ _ _ => rfl⟩
          obtain ⟨o2, k2, h3, h4⟩ := cpt_loop hs hb m 1 k s (by omega) hI
          rw [show ((1 : Nat) : Int) = 1 from rfl] at h3
          rw [h3, bd_ret, Out.on_go] at e
          simp only at e
          have hl := h4.len; have hk1 := h4.kk; have hk2 := h4.kj
          have hcl := clr_len (xs := o2) (i := (k2 : Int)) (z := Edg.mk 0 0 0 0) (by unfold ln; omega)
          rw [ck_SX (by omega) (by unfold ln; omega) (Int.le_refl _), ck_SX (by omega) (by omega) (by unfold ln; rw [hcl]; omega)] at e
          have hsub : sub (clr o2 (k2 : Int) (Edg.mk 0 0 0 0)) 0 (k2 : Int) = o2.take k2 := by
            unfold sub clr
            have h0 : (0 : Int).toNat = 0 := rfl
            rw [h0, List.drop_zero, Int.sub_zero, Int.toNat_natCast, List.take_append_of_le_length (by rw [List.length_take]; omega), List.take_take, Nat.min_self]
          rw [hsub] at e
          refine .inr ⟨_, lp_ret e, h4.st, fun x => ?_⟩
          rw [h4.mem, show k + (s.length - k) = s.length from by omega, List.take_length]
        · rw [tb_f he, br_false] at e
          have hst' : Strict (s.take (k + 1)) := by
            rw [take_next (by omega)]
            refine strict_snoc hst fun x hx => ?_
            have hlen : (s.take k).length = k := by rw [List.length_take]; omega
            have hmx := last_max hst (by omega) x hx
            rw [hlen, ele_take (by omega)] at hmx
            have hnot := hs.at (i := k - 1) (j := k) (by omega) (by omega)
            have hlt : Lt (ele s ((k - 1 : Nat) : Int)) (ele s (k : Int)) := by
              by_cases hh : Lt (ele s ((k - 1 : Nat) : Int)) (ele s (k : Int))
              · exact hh
              · exact absurd (Lt.tri hnot hh) he
            rcases hmx with h' | h'
            · rw [h']; exact hlt
            · exact h'.trans hlt
          rcases ih (k + 1) (by omega) (by omega) hst' with ⟨a, b⟩ | ⟨ys, a, b⟩
          · exact .inl ⟨a, (lp_next e).trans b⟩
          · exact .inr ⟨ys, (lp_next e).trans a, b⟩
    have h1 : Strict (s.take 1) := by
      match s with
      | [] => exact List.Pairwise.nil
      | x :: _ => exact List.pairwise_singleton _ _
    rcases key (s.length - 1) 1 (Nat.le_refl _) (by omega) h1 with ⟨a, b⟩ | ⟨ys, a, b, c⟩
    · rw [show ((1 : Nat) : Int) = 1 from rfl] at b
      rw [b, bd_ret, Out.on_go]
      exact ⟨s, rfl, a, fun e => Iff.rfl⟩
    · rw [show ((1 : Nat) : Int) = 1 from rfl] at a
      rw [a, bd_ret, Out.on_ret]
      exact ⟨ys, rfl, b, c⟩
theorem sort_srt (l : List Edg) : Srt (sortE l) ∧ (∀ e, e ∈ sortE l ↔ e ∈ l) ∧ (sortE l).length = l.length := by
  refine ⟨?_, fun e => List.mem_mergeSort, List.length_mergeSort ..⟩
  have := List.pairwise_mergeSort (le := fun x y => !decide (ordV y x < 0)) (fun a b c h1 h2 => ?_) (fun a b => ?_) l
  · refine this.imp fun {a b} h => ?_
    unfold Lt
    simpa using h
  · simp only [Bool.not_eq_true', decide_eq_false_iff_not] at *
    rw [ordV_neg] at *
    omega
  · simp only [Bool.or_eq_true, Bool.not_eq_true', decide_eq_false_iff_not]
    rw [ordV_neg, ordV_neg]
    omega
end Go.Rd
end

section
namespace Go.Rd
set_option linter.unusedVariables false
theorem EdgeP_iff {l : Lp} {t : Tgt} {e : Edg} {fr to : Nat} (hf : fr < l.body.length) (hn : to < l.body.length) (h1 : e.fr = fr) (h2 : e.to = to) (hl : LoopOk l) : EdgeP l t e ↔ (UseE l t to e ∨ MemE l fr to e) := by
  constructor
  · rintro ⟨u, hu, h | ⟨f, hf', h⟩⟩
    · have : (u : Int) = to := by
        obtain ⟨r, hr, rfl⟩ := h
        exact h2
      rw [this] at h; exact .inl h
    · have e1 : (u : Int) = to := by rw [← h2, h.to]
      have e2 : (f : Int) = fr := by rw [← h1, h.fr]
      rw [e1, e2] at h; exact .inr h
  · rintro (h | h)
    · exact ⟨to, hn, .inl h⟩
    · exact ⟨to, hn, .inr ⟨fr, hf, h⟩⟩
theorem bdG_any {α β : Type} [Inhabited α] {c : Bool} {x : α} {k : α → Option β} : bdG c (some x) k = k (if c = true then x else default) := by cases c <;> rfl
theorem bool_uses {A B : Bool} {x y d : Int} : ((A && B) && (x == if (A && B) = true then y else d)) = ((A && B) && (x == y)) := by cases A <;> cases B <;> rfl
theorem tb_or {p q : Prop} : tb (p ∨ q) = (tb p || tb q) := by
  by_cases h1 : p
  · rw [tb_t (.inl h1), tb_t h1]; rfl
  · by_cases h2 : q
    · rw [tb_t (.inr h2), tb_f h1, tb_t h2]; rfl
    · rw [tb_f (fun h => h.elim h1 h2), tb_f h1, tb_f h2]; rfl
theorem is_edge_s {l : Lp} (hl : LoopOk l) (t : Tgt) {fr to : Nat} (h1 : fr < l.body.length) (h2 : to < l.body.length) {bk wt : Int} (h3 : 0 ≤ bk) (h4 : bk ≤ 32) : roundelayref6_is_m l t ⟨fr, to, bk, wt⟩ = some (tb (UseE l t to ⟨fr, to, bk, wt⟩ ∨ MemE l fr to ⟨fr, to, bk, wt⟩)) := by
  have hul := usesL_len (ele l.body (to : Int))
  unfold roundelayref6_is_m
  simp only
  rw [ck_IX (by omega) (by unfold ln; omega), ref_Uses_s, bd_ret]
  have step : ∀ i : Nat, 0 ≤ i → i < (usesL (ele l.body (to : Int))).length → (¬ ((ele (usesL (ele l.body (to : Int))) (i : Int)).st = fr ∧ (ele (usesL (ele l.body (to : Int))) (i : Int)).bk = bk ∧ wt = waitV t (ele l.body (fr : Int)).op) → roundelayref6_is_L0 l t ⟨fr, to, bk, wt⟩ (usesL (ele l.body (to : Int))) i = some (.next ((i : Int) + 1))) ∧
      (¬ ¬ ((ele (usesL (ele l.body (to : Int))) (i : Int)).st = fr ∧ (ele (usesL (ele l.body (to : Int))) (i : Int)).bk = bk ∧ wt = waitV t (ele l.body (fr : Int)).op) → roundelayref6_is_L0 l t ⟨fr, to, bk, wt⟩ (usesL (ele l.body (to : Int))) i = some (.ret true)) := fun i _ hi => by
    have hix : IX (i : Int) (ln (usesL (ele l.body (to : Int)))) := ⟨by omega, by unfold ln; omega⟩
    have e : roundelayref6_is_L0 l t ⟨fr, to, bk, wt⟩ (usesL (ele l.body (to : Int))) i = br (tb ((ele (usesL (ele l.body (to : Int))) (i : Int)).st = fr ∧ (ele (usesL (ele l.body (to : Int))) (i : Int)).bk = bk ∧ wt = waitV t (ele l.body (fr : Int)).op)) (some (.ret true)) (some (.next ((i : Int) + 1))) := by
      unfold roundelayref6_is_L0
      simp only
      rw [br_T (by unfold ln; omega), ck_yes hix, ck_imp (fun _ => hix), ck_imp (fun _ => ⟨by omega, by unfold ln; omega⟩), ref_Wait_s]
      rw [bdG_any, bool_uses, ck_IR (by omega) (by omega)]
      have hb : ∀ (x y z : Bool) (p q r : Prop), (x = true ↔ p) → (y = true ↔ q) → (z = true ↔ r) → ((x && y) && z) = tb (p ∧ q ∧ r) := fun x y z p q r h1 h2 h3 => tb_eq (by rw [Bool.and_eq_true, Bool.and_eq_true, h1, h2, h3, and_assoc])
      rw [hb _ _ _ _ _ _ beq_iff_eq beq_iff_eq beq_iff_eq]
    rw [e]
    exact ⟨fun h => by rw [tb_f h]; rfl, fun h => by rw [tb_t (Classical.not_not.1 h)]; rfl⟩
  have huse : UseE l t to ⟨fr, to, bk, wt⟩ ↔ ∃ i : Nat, i < (usesL (ele l.body (to : Int))).length ∧ ((ele (usesL (ele l.body (to : Int))) (i : Int)).st = fr ∧ (ele (usesL (ele l.body (to : Int))) (i : Int)).bk = bk ∧ wt = waitV t (ele l.body (fr : Int)).op) := by
    constructor
    · rintro ⟨r, hr, he⟩
      obtain ⟨i, hi, rfl⟩ := mem_ele hr
      simp only [Edg.mk.injEq] at he
      obtain ⟨a1, a2, a3, a4⟩ := he
      exact ⟨i, hi, a1.symm, a3.symm, by rw [a4, ← a1]⟩
    · rintro ⟨i, hi, a1, a2, a3⟩
      exact ⟨_, ele_mem' hi, by rw [a1, a2, a3]⟩
  rcases lp_scan (f := roundelayref6_is_L0 l t ⟨fr, to, bk, wt⟩ (usesL (ele l.body (to : Int)))) (n := (usesL (ele l.body (to : Int))).length) (fun _ => true) (usesL (ele l.body (to : Int))).length 0 (by omega) step (by unfold roundelayref6_is_L0; exact br_F (by unfold ln; omega)) with ⟨h, e⟩ | ⟨i, _, hi, hh, _, e⟩
  · rw [show (((0 : Nat)) : Int) = 0 from rfl] at e
    have hnu : ¬ UseE l t to ⟨fr, to, bk, wt⟩ := fun hu => by
      obtain ⟨i, hi, hc⟩ := huse.1 hu
      exact h i (by omega) hi hc
    rw [e, bd_ret, Out.on_go, tb_or, tb_f hnu, Bool.false_or, ck_IX (by omega) (by unfold ln; omega), ck_IX (by omega) (by unfold ln; omega), br_go, bd_ret, Out.on_go]
    unfold roundelayref6_Memory_m
    rw [bd_ret]
    have hC : (((((ele l.body (fr : Int)).op == 3 || (ele l.body (fr : Int)).op == 4) && ((ele l.body (to : Int)).op == 3 || (ele l.body (to : Int)).op == 4)) && ((ele l.body (fr : Int)).ar == (ele l.body (to : Int)).ar)) && ((ele l.body (fr : Int)).op == 4 || (ele l.body (to : Int)).op == 4)) = tb (memC l fr to) := by
      unfold memC
      refine tb_eq ?_
      unfold wordS
      simp [and_assoc]
    rw [hC]
    have hwt : (if ((ele l.body (fr : Int)).op == 4) = true then (1 : Int) else 0) = if (ele l.body (fr : Int)).op = 4 then 1 else 0 := by simp
    rw [hwt]
    by_cases hc : memC l fr to
    · rw [tb_t hc, Bool.not_true, Bool.false_or]
      by_cases hw : wt = if (ele l.body (fr : Int)).op = 4 then 1 else 0
      · obtain ⟨n1, x1, g1, g2⟩ := word_near hl h1 hc.1
        obtain ⟨n2, _, _, _⟩ := word_near hl h2 hc.2.1
        have hk : (ele l.logs (ele l.body (fr : Int)).ar).toNat ≤ 5 := by omega
        obtain ⟨p1, p2, p3⟩ := pow2 hk
        have hS : sizeV l (ele l.body (fr : Int)) = 2 ^ (ele l.logs (ele l.body (fr : Int)).ar).toNat := rfl
        have hle : (if decide ((fr : Int) ≥ to) = true then (1 : Int) else 0) = leastV fr to := by unfold leastV; simp
        have hlb := leastV_bd fr to
        rw [show (wt != if (ele l.body (fr : Int)).op = 4 then 1 else 0) = false from by rw [← hw]; exact bne_self_eq_false _, br_false, ck_yes x1, Size_s _ g2, bd_ret, br_go, bd_ret, Out.on_go, hle]
        rw [← hS]
        have hm : ∀ k : Int, 0 ≤ k → k ≤ 32 → roundelayref6_Meets_m (ele l.body (fr : Int)) (ele l.body (to : Int)) k (sizeV l (ele l.body (fr : Int))) = some (tb (MeetP (ele l.body (fr : Int)) (ele l.body (to : Int)) k (sizeV l (ele l.body (fr : Int))))) := fun k a b => rmeet_s n1 n2 a b hk
        rw [hm bk h3 h4, bdG_some']
        by_cases hr : leastV fr to ≤ bk ∧ bk ≤ sizeV l (ele l.body (fr : Int))
        · rw [show (decide (bk < leastV fr to) || decide (bk > sizeV l (ele l.body (fr : Int)))) = false from by simp; omega]
          simp only [Bool.not_false, if_true, Bool.false_or]
          by_cases hme : MeetP (ele l.body (fr : Int)) (ele l.body (to : Int)) bk (sizeV l (ele l.body (fr : Int)))
          · rw [tb_t hme, Bool.not_true, br_false]
            have hbk : ((bk.toNat : Nat) : Int) = bk := by omega
            have hlk : (((leastV fr to).toNat : Nat) : Int) = leastV fr to := by omega
            have st2 : ∀ i : Nat, (leastV fr to).toNat ≤ i → i < bk.toNat → (¬ MeetP (ele l.body (fr : Int)) (ele l.body (to : Int)) i (sizeV l (ele l.body (fr : Int))) → roundelayref6_is_L2 l ⟨fr, to, bk, wt⟩ (sizeV l (ele l.body (fr : Int))) i = some (.next ((i : Int) + 1))) ∧ (¬ ¬ MeetP (ele l.body (fr : Int)) (ele l.body (to : Int)) i (sizeV l (ele l.body (fr : Int))) → roundelayref6_is_L2 l ⟨fr, to, bk, wt⟩ (sizeV l (ele l.body (fr : Int))) i = some (.ret false)) := fun i _ hi => by
              have e : roundelayref6_is_L2 l ⟨fr, to, bk, wt⟩ (sizeV l (ele l.body (fr : Int))) i = br (tb (MeetP (ele l.body (fr : Int)) (ele l.body (to : Int)) i (sizeV l (ele l.body (fr : Int))))) (some (.ret false)) (some (.next ((i : Int) + 1))) := by
                unfold roundelayref6_is_L2
                simp only
                rw [br_T (by omega), hm i (by omega) (by omega), bd_ret, ck_IR (by omega) (by omega)]
              rw [e]
              exact ⟨fun h => by rw [tb_f h]; rfl, fun h => by rw [tb_t (Classical.not_not.1 h)]; rfl⟩
            rcases lp_scan (f := roundelayref6_is_L2 l ⟨fr, to, bk, wt⟩ (sizeV l (ele l.body (fr : Int)))) (n := bk.toNat) (fun _ => false) (bk.toNat - (leastV fr to).toNat) (leastV fr to).toNat (by omega) st2 (by unfold roundelayref6_is_L2; exact br_F (by show ¬ ((bk.toNat : Int) < bk); omega)) with ⟨ha, e2⟩ | ⟨i, hi0, hi1, hi2, _, e2⟩
            · rw [hlk] at e2
              rw [e2, bd_ret, Out.on_go, tb_t]
              refine ⟨hc, rfl, rfl, hw, hr.1, hr.2, hme, fun k hk1 hk2 => ?_⟩
              have hk2' : k < bk := hk2
              have hkk : ((k.toNat : Nat) : Int) = k := by omega
              have := ha k.toNat (by omega) (by omega)
              rwa [hkk] at this
            · rw [hlk] at e2
              rw [e2, bd_ret, Out.on_ret, tb_f]
              exact fun h => hi2 (h.first i (by omega) (by show (i : Int) < bk; omega))
          · rw [tb_f hme, Bool.not_false, br_true, tb_f fun h => hme h.meet]
        · rw [show (decide (bk < leastV fr to) || decide (bk > sizeV l (ele l.body (fr : Int)))) = true from by simp; omega]
          simp only [Bool.true_or, br_true]
          rw [tb_f fun h => hr ⟨h.lo, h.hi⟩]
      · rw [show (wt != if (ele l.body (fr : Int)).op = 4 then 1 else 0) = true from by simpa using hw, br_true, tb_f fun h => hw h.wt]
    · rw [tb_f hc, Bool.not_false, Bool.true_or, br_true, tb_f fun h => hc h.c]
  · rw [show (((0 : Nat)) : Int) = 0 from rfl] at e
    rw [e, bd_ret, Out.on_ret, tb_t (.inl (huse.2 ⟨i, hi, Classical.not_not.1 hh⟩))]
structure UpTo (l : Lp) (t : Tgt) (p : Edg) (b : Int) (v : List Edg) : Prop where
  st : Strict v
  mem : ∀ e, e ∈ v ↔ EdgeP l t e ∧ Lt e p
  len : (v.length : Int) ≤ b
theorem AL32 {n : Nat} (h : n ≤ 100000) : AL n 32 := ⟨by rw [maxLen_eq]; omega, by omega⟩
theorem upto_next {l : Lp} {t : Tgt} {p p' : Edg} {b b' : Int} {v : List Edg} (h : UpTo l t p b v) (hb : b ≤ b') (hp : ∀ e, EdgeP l t e → (Lt e p ↔ Lt e p')) : UpTo l t p' b' v :=
  ⟨h.st, fun e => by rw [h.mem]; exact ⟨fun ⟨a, c⟩ => ⟨a, (hp e a).1 c⟩, fun ⟨a, c⟩ => ⟨a, (hp e a).2 c⟩⟩, Int.le_trans h.len hb⟩
theorem rEdges_s {l : Lp} (hl : LoopOk l) (t : Tgt) : ∃ E, roundelayref6_Edges_m l t = some E ∧ Strict E ∧ (∀ e, e ∈ E ↔ EdgeP l t e) ∧ E.length ≤ 60000 := by
  have hn16 := hl.2.2.1
  have hin : ∀ e, EdgeP l t e → EdgeIn l.body.length e := fun e h => h.in hl
  unfold roundelayref6_Edges_m
  have XE := lp_inv (f := roundelayref6_Edges_L0 l t) (n := l.body.length) (fun k v => UpTo l t ⟨k, 0, 0, 0⟩ (k * 3696) v) (fun fr v hfr hv => ?_) (fun g => by unfold roundelayref6_Edges_L0; exact br_F (by unfold ln; omega)) [] ⟨List.Pairwise.nil, fun e => ⟨fun h => (by cases h), fun ⟨h1, h2⟩ => by
    have := hin e h1; have := this.fr; unfold Lt at h2; rw [ordV_neg] at h2; have := (hin e h1).to; have := (hin e h1).bk; have := (hin e h1).wt; simp only at h2; omega⟩, by simp⟩
  · obtain ⟨E, e0, hE⟩ := XE
    rw [e0, bd_ret, Out.on_go]
    refine ⟨E, rfl, hE.st, fun e => ?_, by have := hE.len; omega⟩
    rw [hE.mem]
    refine ⟨fun h => h.1, fun h => ⟨h, ?_⟩⟩
    have := (hin e h).fr
    unfold Lt; rw [ordV_neg]; left; exact this.2
  · have Xv1 := lp_inv (f := roundelayref6_Edges_L2 l t fr) (n := l.body.length) (fun k v => UpTo l t ⟨fr, k, 0, 0⟩ ((fr : Int) * 3696 + k * 231) v) (fun to v hto hv => ?_) (fun g => by unfold roundelayref6_Edges_L2; exact br_F (by unfold ln; omega)) v (upto_next hv (by omega) fun e he => Iff.rfl)
    · obtain ⟨v1, e1, hv1⟩ := Xv1
      refine ⟨v1, ?_, upto_next hv1 (by omega) fun e he => ?_⟩
      · unfold roundelayref6_Edges_L0
        simp only
        rw [br_T (by unfold ln; omega), e1, bd_ret, Out.on_go]
        simp only
        rw [ck_IR (by omega) (by omega)]
      · have h1 := (hin e he).to; have h2 := (hin e he).bk; have h3 := (hin e he).wt
        unfold Lt; rw [ordV_neg, ordV_neg]; simp only; omega
    · have Xv2 := lp_inv (f := roundelayref6_Edges_L4 l t fr to) (n := 33) (fun k v => UpTo l t ⟨fr, to, k, 0⟩ ((fr : Int) * 3696 + to * 231 + k * 7) v) (fun bk v hbk hv => ?_) (fun g => by unfold roundelayref6_Edges_L4; exact br_F (by omega)) v (upto_next hv (by omega) fun e he => Iff.rfl)
      · obtain ⟨v2, e2, hv2⟩ := Xv2
        refine ⟨v2, ?_, upto_next hv2 (by omega) fun e he => ?_⟩
        · unfold roundelayref6_Edges_L2
          simp only
          rw [br_T (by unfold ln; omega), e2, bd_ret, Out.on_go]
          simp only
          rw [ck_IR (by omega) (by omega)]
        · have h2 := (hin e he).bk; have h3 := (hin e he).wt
          unfold Lt; rw [ordV_neg, ordV_neg]; simp only; omega
      · have Xv3 := lp_inv (f := roundelayref6_Edges_L6 l t fr to bk) (n := 7) (fun k v => UpTo l t ⟨fr, to, bk, k⟩ ((fr : Int) * 3696 + to * 231 + bk * 7 + k) v) (fun wt v hwt hv => ?_) (fun g => by unfold roundelayref6_Edges_L6; exact br_F (by omega)) v (upto_next hv (by omega) fun e he => Iff.rfl)
        · obtain ⟨v3, e3, hv3⟩ := Xv3
          refine ⟨v3, ?_, upto_next hv3 (by omega) fun e he => ?_⟩
          · unfold roundelayref6_Edges_L4
            simp only
            rw [br_T (by omega), e3, bd_ret, Out.on_go]
            simp only
            rw [ck_IR (by omega) (by omega)]
          · have h3 := (hin e he).wt
            unfold Lt; rw [ordV_neg, ordV_neg]; simp only; omega
        · have hlen := hv.len
          have hiff := EdgeP_iff (t := t) (e := ⟨fr, to, bk, wt⟩) hfr hto rfl rfl hl
          unfold roundelayref6_Edges_L6
          simp only
          rw [br_T (by omega), is_edge_s hl t hfr hto (by omega) (by omega), bd_ret, ck_IR (by omega) (by omega)]
          by_cases hE : UseE l t to ⟨fr, to, bk, wt⟩ ∨ MemE l fr to ⟨fr, to, bk, wt⟩
          · rw [tb_t hE, br_true, ck_yes (AL32 (by rw [List.length_append, List.length_singleton]; omega))]
            refine ⟨_, rfl, strict_snoc hv.st fun e he => ((hv.mem e).1 he).2, fun e => ?_, by rw [List.length_append, List.length_singleton]; omega⟩
            rw [List.mem_append, List.mem_singleton, hv.mem]
            constructor
            · rintro (⟨a, b⟩ | rfl)
              · refine ⟨a, ?_⟩
                unfold Lt at b ⊢; rw [ordV_neg] at b ⊢; simp only at b ⊢; omega
              · exact ⟨hiff.2 hE, by unfold Lt; rw [ordV_neg]; exact .inr ⟨rfl, .inr ⟨rfl, .inr ⟨rfl, by show (wt : Int) < ((wt + 1 : Nat) : Int); omega⟩⟩⟩⟩
            · rintro ⟨a, b⟩
              unfold Lt at b; rw [ordV_neg] at b; simp only at b
              by_cases hq : e = ⟨fr, to, bk, wt⟩
              · exact .inr hq
              · refine .inl ⟨a, ?_⟩
                unfold Lt; rw [ordV_neg]; simp only
                have : ¬ (e.fr = fr ∧ e.to = to ∧ e.bk = bk ∧ e.wt = wt) := fun ⟨x1, x2, x3, x4⟩ => hq (by cases e; simp only [Edg.mk.injEq] at *; exact ⟨x1, x2, x3, x4⟩)
                omega
          · rw [tb_f hE, br_false, ck_IR (by omega) (by omega)]
            refine ⟨v, rfl, hv.st, fun e => ?_, by omega⟩
            rw [hv.mem]
            constructor
            · rintro ⟨a, b⟩
              refine ⟨a, ?_⟩
              unfold Lt at b ⊢; rw [ordV_neg] at b ⊢; simp only at b ⊢; omega
            · rintro ⟨a, b⟩
              refine ⟨a, ?_⟩
              unfold Lt at b ⊢; rw [ordV_neg] at b ⊢; simp only at b ⊢
              have : ¬ (e.fr = fr ∧ e.to = to ∧ e.bk = bk ∧ e.wt = wt) := fun ⟨x1, x2, x3, x4⟩ => hE (hiff.1 (by
                have : e = ⟨fr, to, bk, wt⟩ := by cases e; simp only [Edg.mk.injEq] at *; exact ⟨x1, x2, x3, x4⟩
                rw [← this]; exact a))
              omega
structure Cnt (P : Edg → Prop) (b : Nat) (v : List Edg) : Prop where
  mem : ∀ e, e ∈ v ↔ P e
  len : v.length ≤ b
theorem Edges_s {l : Lp} (hl : LoopOk l) (hf : l.Fine) {t : Tgt} (ht : tgtOk t = true) : ∃ E, dep_Edges_m l t = some (E, 0) ∧ Strict E ∧ (∀ e, e ∈ E ↔ EdgeP l t e) := by
  have hn16 := hl.2.2.1
  unfold dep_Edges_m
  rw [May_s l hf, bd_ret, target_May_s, tb_t hl, ht]
  simp only [Bool.not_true, Bool.not_false, bdG_t, bd_ret, Bool.or_self, br_false]
  have Xv := lp_inv (f := dep_Edges_L0 l t) (n := l.body.length) (fun k v => Cnt (fun e => ∃ to : Nat, to < k ∧ (UseE l t to e ∨ ∃ fr : Nat, fr < l.body.length ∧ MemE l fr to e)) (k * 18) v) (fun to v hto hv => ?_) (fun g => by unfold dep_Edges_L0; exact br_F (by unfold ln; omega)) [] ⟨fun e => ⟨fun h => (by cases h), fun ⟨_, h, _⟩ => (by omega)⟩, Nat.zero_le _⟩
  · obtain ⟨v, e0, hv⟩ := Xv
    rw [e0, bd_ret, Out.on_go]
    simp only
    obtain ⟨s1, s2, s3⟩ := sort_srt v
    have hlen := hv.len
    unfold SortFunc_m
    rw [ck_yes (by omega), bd_ret]
    obtain ⟨ys, c1, c2, c3⟩ := Compact_s s1 (by omega)
    rw [c1, bd_ret]
    exact ⟨ys, rfl, c2, fun e => by rw [c3, s2, hv.mem]; rfl⟩
  · have hul := usesL_len (ele l.body (to : Int))
    have hlen := hv.len
    have Xv1 := lp_inv (f := dep_Edges_L2 l t to (usesL (ele l.body (to : Int)))) (n := (usesL (ele l.body (to : Int))).length) (fun k w => Cnt (fun e => e ∈ v ∨ ∃ j : Nat, j < k ∧ e = ⟨(ele (usesL (ele l.body (to : Int))) (j : Int)).st, to, (ele (usesL (ele l.body (to : Int))) (j : Int)).bk, waitV t (ele l.body (ele (usesL (ele l.body (to : Int))) (j : Int)).st).op⟩) (to * 18 + k) w) (fun i w hi hw => ?_) (fun g => by unfold dep_Edges_L2; exact br_F (by unfold ln; omega)) v ⟨fun e => ⟨.inl, fun h => h.elim id fun ⟨_, h, _⟩ => (by omega)⟩, by omega⟩
    · obtain ⟨v1, e1, hv1⟩ := Xv1
      have Xv2 := lp_inv (f := dep_Edges_L4 l to) (n := l.body.length) (fun k w => Cnt (fun e => e ∈ v1 ∨ ∃ fr : Nat, fr < k ∧ MemE l fr to e) (to * 18 + 2 + k) w) (fun i w hi hw => ?_) (fun g => by unfold dep_Edges_L4; exact br_F (by unfold ln; omega)) v1 ⟨fun e => ⟨.inl, fun h => h.elim id fun ⟨_, h, _⟩ => (by omega)⟩, by have := hv1.len; omega⟩
      · obtain ⟨v2, e2, hv2⟩ := Xv2
        refine ⟨v2, ?_, fun e => ?_, by have := hv2.len; omega⟩
        · unfold dep_Edges_L0
          simp only
          rw [br_T (by unfold ln; omega), ck_IX (by omega) (by unfold ln; omega), Uses_s, bd_ret, e1, bd_ret, Out.on_go]
          simp only
          rw [e2, bd_ret, Out.on_go]
          simp only
          rw [ck_IR (by omega) (by omega)]
        · rw [hv2.mem, hv1.mem, hv.mem]
          constructor
          · rintro ((⟨u, h1, h2⟩ | ⟨j, h1, rfl⟩) | ⟨fr, h1, h2⟩)
            · exact ⟨u, by omega, h2⟩
            · exact ⟨to, by omega, .inl ⟨_, ele_mem' h1, rfl⟩⟩
            · exact ⟨to, by omega, .inr ⟨fr, h1, h2⟩⟩
          · rintro ⟨u, h1, h2⟩
            by_cases hu : u = to
            · subst hu
              rcases h2 with ⟨r, hr, rfl⟩ | ⟨fr, h3, h4⟩
              · obtain ⟨j, hj, rfl⟩ := mem_ele hr
                exact .inl (.inr ⟨j, hj, rfl⟩)
              · exact .inr ⟨fr, h3, h4⟩
            · exact .inl (.inl ⟨u, by omega, h2⟩)
      · obtain ⟨r, q1, q2⟩ := memory_s hl hi hto
        have hwl := hw.len
        unfold dep_Edges_L4
        simp only
        rw [br_T (by unfold ln; omega), q1, bd_ret, ck_IR (by omega) (by omega)]
        rcases q2 with ⟨q2, q3⟩ | ⟨q2, q3⟩
        · rw [q2, br_true, ck_yes (AL32 (by rw [List.length_append, List.length_singleton]; omega))]
          refine ⟨_, rfl, fun e => ?_, by rw [List.length_append, List.length_singleton]; omega⟩
          rw [List.mem_append, List.mem_singleton, hw.mem]
          constructor
          · rintro ((h | ⟨f, h1, h2⟩) | rfl)
            · exact .inl h
            · exact .inr ⟨f, by omega, h2⟩
            · exact .inr ⟨i, by omega, q3⟩
          · rintro (h | ⟨f, h1, h2⟩)
            · exact .inl (.inl h)
            · by_cases hu : f = i
              · subst hu; exact .inr (h2.one q3)
              · exact .inl (.inr ⟨f, by omega, h2⟩)
        · rw [q2, br_false, ck_IR (by omega) (by omega)]
          refine ⟨w, rfl, fun e => ?_, by omega⟩
          rw [hw.mem]
          constructor
          · rintro (h | ⟨f, h1, h2⟩)
            · exact .inl h
            · exact .inr ⟨f, by omega, h2⟩
          · rintro (h | ⟨f, h1, h2⟩)
            · exact .inl h
            · by_cases hu : f = i
              · subst hu; exact absurd h2 (q3 e)
              · exact .inr ⟨f, by omega, h2⟩
    · have hwl := hw.len
      have hst := (uses_ok hl hto (ele_mem' hi)).st (by omega)
      unfold dep_Edges_L2
      simp only
      rw [br_T (by unfold ln; omega), ck_IX (by omega) (by unfold ln; omega), ck_IX hst.1 (by unfold ln; omega), target_Wait_s, bd_ret, ck_yes (AL32 (by rw [List.length_append, List.length_singleton]; omega)), ck_IR (by omega) (by omega)]
      refine ⟨_, rfl, fun e => ?_, by rw [List.length_append, List.length_singleton]; omega⟩
      rw [List.mem_append, List.mem_singleton, hw.mem]
      constructor
      · rintro ((h | ⟨j, h1, h2⟩) | rfl)
        · exact .inl h
        · exact .inr ⟨j, by omega, h2⟩
        · exact .inr ⟨i, by omega, rfl⟩
      · rintro (h | ⟨j, h1, h2⟩)
        · exact .inl (.inl h)
        · by_cases hu : j = i
          · subst hu; exact .inr h2
          · exact .inl (.inr ⟨j, by omega, h2⟩)
theorem edges_both {l : Lp} (hl : LoopOk l) (hf : l.Fine) {t : Tgt} (ht : tgtOk t = true) : ∃ E, dep_Edges_m l t = some (E, 0) ∧ roundelayref6_Edges_m l t = some E ∧ Strict E ∧ (∀ e, e ∈ E ↔ EdgeP l t e) ∧ E.length ≤ 60000 := by
  obtain ⟨E, e1, e2, e3⟩ := Edges_s hl hf ht
  obtain ⟨F, f1, f2, f3, f4⟩ := rEdges_s hl t
  have : E = F := strict_ext e2 f2 fun e => by rw [e3, f3]
  subst this
  exact ⟨E, e1, f1, e2, e3, f4⟩
theorem Edges_bad {l : Lp} (hf : l.Fine) {t : Tgt} (h : ¬ (LoopOk l ∧ tgtOk t = true)) : dep_Edges_m l t = some ([], 2) := by
  unfold dep_Edges_m
  rw [May_s l hf, bd_ret, target_May_s]
  by_cases hl : LoopOk l
  · have : tgtOk t = false := by
      cases hh : tgtOk t with
      | true => exact absurd ⟨hl, hh⟩ h
      | false => rfl
    rw [tb_t hl, this]; rfl
  · rw [tb_f hl]; rfl
theorem rMay_s {l : Lp} (hf : l.Fine) (t : Tgt) : roundelayref6_May_m l t = some (tb (LoopOk l ∧ tgtOk t = true)) := by
  unfold roundelayref6_May_m
  rw [ref_May_s l hf, bd_ret, ref_tMay_s]
  simp only [bdG_some']
  congr 1
  refine tb_eq ?_
  by_cases h : LoopOk l
  · rw [tb_t h]; simp [h]
  · rw [tb_f h]; simp [h]
end Go.Rd
end

section
namespace Go.Rd
set_option linter.unusedVariables false
noncomputable def sched_fits_L0 (l : Lp) (t : Tgt) (p : Pln) : ((List ((Int × Int) × Int)) × Int) → Option (Stp ((List ((Int × Int) × Int)) × Int) (Bool)) := fun (m4n_1, x19_1) =>
 br (decide (x19_1 < (ln p.times))) (
 ck (IX x19_1 (ln p.times)) <|
 br ((decide ((ele p.times x19_1) < 0)) || (decide ((ele p.times x19_1) > 1000))) (
 some (.ret false)) (
 ck (p.pace ≠ 0) <|
 ck (IX x19_1 (ln l.body)) <|
 bd (num_Class_m ((ele l.body x19_1).op)) fun x25 =>
 ck (IR ((mget m4n_1 ((Int.tmod (ele p.times x19_1) p.pace), x25) 0) + 1)) <|
 ck (IX x25 3) <|
 br (decide ((mget (mput m4n_1 ((Int.tmod (ele p.times x19_1) p.pace), x25) ((mget m4n_1 ((Int.tmod (ele p.times x19_1) p.pace), x25) 0) + 1)) ((Int.tmod (ele p.times x19_1) p.pace), x25) 0) > (sel3 t.u0 t.u1 t.u2 x25))) (
 some (.ret false)) (
 ck (IR (x19_1 + 1)) <|
 some (.next ((mput m4n_1 ((Int.tmod (ele p.times x19_1) p.pace), x25) ((mget m4n_1 ((Int.tmod (ele p.times x19_1) p.pace), x25) 0) + 1)), (x19_1 + 1)))))) (
 some (.brk (m4n_1, x19_1)))
noncomputable def sched_fits_L2 (p : Pln) (edges : List Edg) : Int → Option (Stp (Int) (Bool)) := fun x60_2 =>
 br (decide (x60_2 < (ln edges))) (
 ck (IX x60_2 (ln edges)) <|
 ck (IX ((ele edges x60_2).to) (ln p.times)) <|
 ck (IR ((ele edges x60_2).bk * p.pace)) <|
 ck (IR ((ele p.times ((ele edges x60_2).to)) + ((ele edges x60_2).bk * p.pace))) <|
 ck (IX ((ele edges x60_2).fr) (ln p.times)) <|
 ck (IR ((ele p.times ((ele edges x60_2).fr)) + (ele edges x60_2).wt)) <|
 br (decide (((ele p.times ((ele edges x60_2).to)) + ((ele edges x60_2).bk * p.pace)) < ((ele p.times ((ele edges x60_2).fr)) + (ele edges x60_2).wt))) (
 some (.ret false)) (
 ck (IR (x60_2 + 1)) <|
 some (.next (x60_2 + 1)))) (
 some (.brk x60_2))
noncomputable def sched_fits_m (l : Lp) (t : Tgt) (p : Pln) (edges : List Edg) : Option (Bool) :=
 bd (lp (sched_fits_L0 l t p) (([] : List ((Int × Int) × Int)), 0)) fun o5 => o5.on (fun (m4n_1, x19_1) =>
 bd (lp (sched_fits_L2 p edges) 0) fun o10 => o10.on (fun x60_2 =>
 some true) (fun r => some r)) (fun r => some r)

noncomputable def sched_Legal_m (l : Lp) (t : Tgt) (p : Pln) : Option (Bool) :=
 bd (dep_Edges_m l t) fun x4 =>
 bdG ((((x4.2 == 0) && (decide (p.pace ≥ 1))) && (decide (p.pace ≤ 200))) && ((ln p.times) == (ln l.body))) (sched_fits_m l t p x4.1) fun x8 =>
 some (((((x4.2 == 0) && (decide (p.pace ≥ 1))) && (decide (p.pace ≤ 200))) && ((ln p.times) == (ln l.body))) && x8)
end Go.Rd
end

section
namespace Go.Rd
set_option linter.unusedVariables false
noncomputable def roundelayref8_Legal_L2 (l : Lp) (p : Pln) (i7_2 : Int) (x32 : Int) : (Int × Int) → Option (Stp (Int × Int) (Empty)) := fun (many9_3, j10_3) =>
 br (decide (j10_3 < (ln p.times))) (
 ck (IX j10_3 (ln p.times)) <|
 ck (p.pace ≠ 0) <|
 ck (IX i7_2 (ln p.times)) <|
 ck (p.pace ≠ 0) <|
 ck (((Int.tmod (ele p.times j10_3) p.pace) == (Int.tmod (ele p.times i7_2) p.pace)) = true → IX j10_3 (ln l.body)) <|
 bdG ((Int.tmod (ele p.times j10_3) p.pace) == (Int.tmod (ele p.times i7_2) p.pace)) (roundelayref1_Class_m ((ele l.body j10_3).op)) fun x58 =>
 br (((Int.tmod (ele p.times j10_3) p.pace) == (Int.tmod (ele p.times i7_2) p.pace)) && (x58 == x32)) (
 ck (IR (many9_3 + 1)) <|
 ck (IR (j10_3 + 1)) <|
 some (.next ((many9_3 + 1), (j10_3 + 1)))) (
 ck (IR (j10_3 + 1)) <|
 some (.next (many9_3, (j10_3 + 1))))) (
 some (.brk (many9_3, j10_3)))
noncomputable def roundelayref8_Legal_L0 (l : Lp) (t : Tgt) (p : Pln) : Int → Option (Stp (Int) (Bool)) := fun i7_2 =>
 br (decide (i7_2 < (ln p.times))) (
 ck (IX i7_2 (ln p.times)) <|
 ck ((!(decide ((ele p.times i7_2) < 0))) = true → IX i7_2 (ln p.times)) <|
 br ((decide ((ele p.times i7_2) < 0)) || (decide ((ele p.times i7_2) > 1000))) (
 some (.ret false)) (
 ck (IX i7_2 (ln l.body)) <|
 bd (roundelayref1_Class_m ((ele l.body i7_2).op)) fun x32 =>
 bd (lp (roundelayref8_Legal_L2 l p i7_2 x32) (0, 0)) fun o35 => o35.on (fun (many9_3, j10_3) =>
 ck (IX x32 3) <|
 br (decide (many9_3 > (sel3 t.u0 t.u1 t.u2 x32))) (
 some (.ret false)) (
 ck (IR (i7_2 + 1)) <|
 some (.next (i7_2 + 1)))) (fun r => r.elim))) (
 some (.brk i7_2))
noncomputable def roundelayref8_Legal_L4 (p : Pln) (x15 : List Edg) : Int → Option (Stp (Int) (Bool)) := fun i12_3 =>
 br (decide (i12_3 < (ln x15))) (
 ck (IX i12_3 (ln x15)) <|
 ck (IX ((ele x15 i12_3).to) (ln p.times)) <|
 ck (IR ((ele x15 i12_3).bk * p.pace)) <|
 ck (IR ((ele p.times ((ele x15 i12_3).to)) + ((ele x15 i12_3).bk * p.pace))) <|
 ck (IX ((ele x15 i12_3).fr) (ln p.times)) <|
 ck (IR ((ele p.times ((ele x15 i12_3).fr)) + (ele x15 i12_3).wt)) <|
 br (decide (((ele p.times ((ele x15 i12_3).to)) + ((ele x15 i12_3).bk * p.pace)) < ((ele p.times ((ele x15 i12_3).fr)) + (ele x15 i12_3).wt))) (
 some (.ret false)) (
 ck (IR (i12_3 + 1)) <|
 some (.next (i12_3 + 1)))) (
 some (.brk i12_3))
noncomputable def roundelayref8_Legal_m (l : Lp) (t : Tgt) (p : Pln) : Option (Bool) :=
 bd (roundelayref6_May_m l t) fun x4 =>
 br ((((!x4) || (decide (p.pace < 1))) || (decide (p.pace > 200))) || ((ln p.times) != (ln l.body))) (
 some false) (
 bd (lp (roundelayref8_Legal_L0 l t p) 0) fun o10 => o10.on (fun i7_2 =>
 bd (roundelayref6_Edges_m l t) fun x15 =>
 bd (lp (roundelayref8_Legal_L4 p x15) 0) fun o19 => o19.on (fun i12_3 =>
 some true) (fun r => some r)) (fun r => some r))

end Go.Rd
end

section
namespace Go.Rd
set_option linter.unusedVariables false
def keyK (l : Lp) (p : Pln) (i : Nat) : Int × Int := (Int.tmod (ele p.times (i : Int)) p.pace, clsV (ele l.body (i : Int)).op)
def cntK (l : Lp) (p : Pln) (k : Nat) (κ : Int × Int) : Nat := (List.range k).countP fun j => decide (keyK l p j = κ)
def unitsV (t : Tgt) (c : Int) : Int := sel3 t.u0 t.u1 t.u2 c
theorem cntK_succ (l : Lp) (p : Pln) (k : Nat) (κ : Int × Int) : cntK l p (k + 1) κ = cntK l p k κ + if keyK l p k = κ then 1 else 0 := by
  unfold cntK
  rw [List.range_succ, List.countP_append, List.countP_singleton]
  by_cases h : keyK l p k = κ <;> simp [h]
theorem cntK_mono (l : Lp) (p : Pln) {κ : Int × Int} {i j : Nat} (h : i ≤ j) : cntK l p i κ ≤ cntK l p j κ := by
  induction j with
  | zero => have : i = 0 := by omega
            subst this; exact Nat.le_refl _
  | succ j ih =>
    by_cases e : i = j + 1
    · subst e; exact Nat.le_refl _
    · rw [cntK_succ]; have := ih (by omega); omega
theorem cntK_le (l : Lp) (p : Pln) (κ : Int × Int) : ∀ k, cntK l p k κ ≤ k
  | 0 => Nat.le_refl _
  | k + 1 => by rw [cntK_succ]; have := cntK_le l p κ k; split <;> omega
theorem units_bd {t : Tgt} (ht : tgtOk t = true) (c : Int) : 1 ≤ unitsV t c ∧ unitsV t c ≤ 4 := by
  rw [tgtOk_iff] at ht
  exact sel3_bd ⟨ht.1.1, ht.1.2.1⟩ ⟨ht.2.1.1, ht.2.1.2.1⟩ ⟨ht.2.2.1.1, ht.2.2.1.2.1⟩
theorem cnt_all {l : Lp} {p : Pln} {t : Tgt} (ht : tgtOk t = true) {n : Nat} : (∀ k, k < n → (cntK l p (k + 1) (keyK l p k) : Int) ≤ unitsV t (keyK l p k).2) ↔ (∀ i, i < n → (cntK l p n (keyK l p i) : Int) ≤ unitsV t (keyK l p i).2) := by
  constructor
  · intro h
    have key : ∀ k, k ≤ n → ∀ κ, (cntK l p k κ : Int) ≤ unitsV t κ.2 := by
      intro k
      induction k with
      | zero => intro _ κ; have := (units_bd ht κ.2).1; show ((0 : Nat) : Int) ≤ _; omega
      | succ k ih =>
        intro hk κ
        by_cases e : keyK l p k = κ
        · have := h k (by omega); rw [e] at this; exact this
        · rw [cntK_succ, if_neg e]; exact ih (by omega) κ
    exact fun i _ => key n (Nat.le_refl _) _
  · intro h k hk
    have := h k hk
    have := cntK_mono l p (κ := keyK l p k) (show k + 1 ≤ n from hk)
    omega
def RngP (p : Pln) (i : Nat) : Prop := 0 ≤ ele p.times (i : Int) ∧ ele p.times (i : Int) ≤ 1000
def EdgOk (p : Pln) (e : Edg) : Prop := ele p.times e.fr + e.wt ≤ ele p.times e.to + e.bk * p.pace
structure LegalP (l : Lp) (t : Tgt) (p : Pln) : Prop where
  loop : LoopOk l
  tgt : tgtOk t = true
  pace : 1 ≤ p.pace ∧ p.pace ≤ 200
  len : p.times.length = l.body.length
  rng : ∀ i, i < l.body.length → RngP p i
  units : ∀ i, i < l.body.length → (cntK l p l.body.length (keyK l p i) : Int) ≤ unitsV t (keyK l p i).2
  edge : ∀ e, EdgeP l t e → EdgOk p e
def FitP (l : Lp) (t : Tgt) (p : Pln) : Prop := ((∀ i, i < l.body.length → RngP p i) ∧ (∀ i, i < l.body.length → (cntK l p l.body.length (keyK l p i) : Int) ≤ unitsV t (keyK l p i).2)) ∧ ∀ e, EdgeP l t e → EdgOk p e
theorem edge_range {l : Lp} {p : Pln} (hl : LoopOk l) (hp : 1 ≤ p.pace ∧ p.pace ≤ 200) (hlen : p.times.length = l.body.length) (hr : ∀ i, i < l.body.length → RngP p i) {t : Tgt} {e : Edg} (he : EdgeP l t e) :
    IX e.to (ln p.times) ∧ IX e.fr (ln p.times) ∧ (0 ≤ e.bk * p.pace ∧ e.bk * p.pace ≤ 6400) ∧ (0 ≤ ele p.times e.to ∧ ele p.times e.to ≤ 1000) ∧ (0 ≤ ele p.times e.fr ∧ ele p.times e.fr ≤ 1000) ∧ (0 ≤ e.wt ∧ e.wt ≤ 6) := by
  obtain ⟨a1, a2, a3, a4, _⟩ := he.in hl
  have m1 := mul_le (a := e.bk) (A := 32) (b := p.pace) (B := 200) (by omega) (by omega) (by omega) (by omega)
  have m2 : 0 ≤ e.bk * p.pace := Int.mul_nonneg a3.1 (by omega)
  have q1 := hr e.to.toNat (by omega)
  have q2 := hr e.fr.toNat (by omega)
  unfold RngP at q1 q2
  rw [show ((e.to.toNat : Nat) : Int) = e.to from by omega] at q1
  rw [show ((e.fr.toNat : Nat) : Int) = e.fr from by omega] at q2
  exact ⟨⟨a2.1, by unfold ln; omega⟩, ⟨a1.1, by unfold ln; omega⟩, ⟨m2, by omega⟩, q1, q2, a4⟩
theorem all_edges {l : Lp} {t : Tgt} {E : List Edg} (hE : ∀ e, e ∈ E ↔ EdgeP l t e) {q : Edg → Prop} : (∀ i : Nat, i < E.length → q (ele E (i : Int))) ↔ ∀ e, EdgeP l t e → q e := by
  constructor
  · intro h e he
    obtain ⟨i, hi, rfl⟩ := mem_ele ((hE e).2 he)
    exact h i hi
  · exact fun h i hi => h _ ((hE _).1 (ele_mem' hi))
theorem fits_s {l : Lp} {t : Tgt} {p : Pln} (hl : LoopOk l) (ht : tgtOk t = true) (hp : 1 ≤ p.pace ∧ p.pace ≤ 200) (hlen : p.times.length = l.body.length) {E : List Edg} (hE : ∀ e, e ∈ E ↔ EdgeP l t e) (hEl : E.length ≤ 60000) : sched_fits_m l t p E = some (tb (FitP l t p)) := by
  have hn16 := hl.2.2.1
  unfold sched_fits_m
  rcases lp_chk (f := sched_fits_L0 l t p) (n := p.times.length) (r0 := false) (fun i => RngP p i ∧ (cntK l p (i + 1) (keyK l p i) : Int) ≤ unitsV t (keyK l p i).2) (fun k m => ∀ κ, mget m κ 0 = (cntK l p k κ : Int)) (fun i m hi hm => by
      have hc := clsV_range (ele l.body (i : Int)).op
      have hcl := cntK_le l p (keyK l p i) i
      have hmg : mget m (keyK l p i) 0 = (cntK l p i (keyK l p i) : Int) := hm _
      have hk : keyK l p i = (Int.tmod (ele p.times (i : Int)) p.pace, clsV (ele l.body (i : Int)).op) := rfl
      have hnew : mget (mput m (keyK l p i) (mget m (keyK l p i) 0 + 1)) (keyK l p i) 0 = (cntK l p (i + 1) (keyK l p i) : Int) := by rw [mget_mput, if_pos rfl, hmg, cntK_succ, if_pos rfl]; rfl
      have e : sched_fits_L0 l t p (m, (i : Int)) = br (!tb (RngP p i)) (some (.ret false)) (br (decide ((cntK l p (i + 1) (keyK l p i) : Int) > unitsV t (keyK l p i).2)) (some (.ret false)) (some (.next (mput m (keyK l p i) (mget m (keyK l p i) 0 + 1), (i : Int) + 1)))) := by
        unfold sched_fits_L0
        simp only
        rw [br_T (by unfold ln; omega), ck_IX (by omega) (by unfold ln; omega)]
        have hb : (decide (ele p.times (i : Int) < 0) || decide (ele p.times (i : Int) > 1000)) = !tb (RngP p i) := by
          have : (!(decide (ele p.times (i : Int) < 0) || decide (ele p.times (i : Int) > 1000))) = tb (RngP p i) := tb_eq (by unfold RngP; simp)
          rw [← this, Bool.not_not]
        rw [hb, ck_yes (by omega), ck_IX (by omega) (by unfold ln; omega), num_Class_s, bd_ret, ← hk, ck_IR (by omega) (by omega), ck_IX hc.1 hc.2, hnew, ck_IR (by omega) (by omega)]
        rfl
      rw [e]
      by_cases h1 : RngP p i
      · rw [tb_t h1, Bool.not_true, br_false]
        by_cases h2 : (cntK l p (i + 1) (keyK l p i) : Int) > unitsV t (keyK l p i).2
        · rw [br_T h2]; exact .inr ⟨fun h => by omega, rfl⟩
        · rw [br_F h2]
          refine .inl ⟨⟨h1, by omega⟩, _, rfl, fun κ => ?_⟩
          rw [mget_mput, cntK_succ]
          by_cases hq : keyK l p i = κ
          · rw [if_pos hq, if_pos hq, hmg, hq]; rfl
          · rw [if_neg hq, if_neg hq, hm]; rfl
      · rw [tb_f h1]; exact .inr ⟨fun h => h1 h.1, rfl⟩) (fun g => by unfold sched_fits_L0; exact br_F (by unfold ln; omega)) [] (fun κ => rfl) with ⟨h1, m, e1, _⟩ | ⟨h1, e1⟩
  · rw [e1, bd_ret, Out.on_go]
    simp only
    have hrng : ∀ i, i < l.body.length → RngP p i := fun i hi => (h1 i (by omega)).1
    have hcnt := (cnt_all (l := l) (p := p) ht (n := l.body.length)).1 fun i hi => (h1 i (by omega)).2
    rcases lp_all (f := sched_fits_L2 p E) (n := E.length) (p := fun i => EdgOk p (ele E (i : Int))) (fun i hi _ => by
        obtain ⟨x1, x2, x3, x4, x5, x6⟩ := edge_range hl hp hlen hrng ((hE _).1 (ele_mem' hi))
        have e : sched_fits_L2 p E i = br (!tb (EdgOk p (ele E (i : Int)))) (some (.ret false)) (some (.next ((i : Int) + 1))) := by
          unfold sched_fits_L2
          rw [br_T (by unfold ln; omega), ck_IX (by omega) (by unfold ln; omega), ck_yes x1, ck_IR (by omega) (by omega), ck_IR (by omega) (by omega), ck_yes x2, ck_IR (by omega) (by omega), ck_IR (by omega) (by omega)]
          congr 1
          have : (!decide (ele p.times (ele E (i : Int)).to + (ele E (i : Int)).bk * p.pace < ele p.times (ele E (i : Int)).fr + (ele E (i : Int)).wt)) = tb (EdgOk p (ele E (i : Int))) := tb_eq (by unfold EdgOk; simp)
          rw [← this, Bool.not_not]
        rw [e]
        exact ⟨fun h => by rw [tb_t h]; rfl, fun h => by rw [tb_f h]; rfl⟩) (by unfold sched_fits_L2; exact br_F (by unfold ln; omega)) with ⟨h2, e2⟩ | ⟨h2, e2⟩
    · rw [e2, bd_ret, Out.on_go, tb_t ⟨⟨hrng, hcnt⟩, (all_edges hE).1 h2⟩]
    · rw [e2, bd_ret, Out.on_ret, tb_f fun h => h2 ((all_edges hE).2 h.2)]
  · rw [e1, bd_ret, Out.on_ret, tb_f fun h => h1 fun i hi => ⟨h.1.1 i (by omega), (cnt_all ht).2 h.1.2 i (by omega)⟩]
theorem legal_iff {l : Lp} {t : Tgt} {p : Pln} : LegalP l t p ↔ (LoopOk l ∧ tgtOk t = true) ∧ (1 ≤ p.pace ∧ p.pace ≤ 200) ∧ p.times.length = l.body.length ∧ FitP l t p :=
  ⟨fun h => ⟨⟨h.loop, h.tgt⟩, h.pace, h.len, ⟨h.rng, h.units⟩, h.edge⟩, fun ⟨h1, h2, h3, h4⟩ => ⟨h1.1, h1.2, h2, h3, h4.1.1, h4.1.2, h4.2⟩⟩
theorem Legal_s {l : Lp} (hf : l.Fine) (t : Tgt) (p : Pln) : sched_Legal_m l t p = some (tb (LegalP l t p)) := by
  unfold sched_Legal_m
  by_cases h : LoopOk l ∧ tgtOk t = true
  · obtain ⟨E, e1, e2, e3, e4, e5⟩ := edges_both h.1 hf h.2
    rw [e1, bd_ret]
    simp only
    by_cases h2 : (1 ≤ p.pace ∧ p.pace ≤ 200) ∧ p.times.length = l.body.length
    · have hc : ((((0 : Int) == 0) && (decide (p.pace ≥ 1))) && (decide (p.pace ≤ 200)) && ((ln p.times) == (ln l.body))) = true := by
        unfold ln
        simp only [Bool.and_eq_true, decide_eq_true_eq, beq_iff_eq]
        exact ⟨⟨⟨trivial, by omega⟩, by omega⟩, by omega⟩
      rw [hc, fits_s h.1 h.2 h2.1 h2.2 e4 e5, bdG_t, bd_ret, Bool.true_and]
      congr 1
      exact tb_congr ⟨fun hh => legal_iff.2 ⟨h, h2.1, h2.2, hh⟩, fun hh => (legal_iff.1 hh).2.2.2⟩
    · have hc : ((((0 : Int) == 0) && (decide (p.pace ≥ 1))) && (decide (p.pace ≤ 200)) && ((ln p.times) == (ln l.body))) = false := by
        cases hq : ((((0 : Int) == 0) && (decide (p.pace ≥ 1))) && (decide (p.pace ≤ 200)) && ((ln p.times) == (ln l.body))) with
        | false => rfl
        | true =>
          unfold ln at hq
          simp only [Bool.and_eq_true, decide_eq_true_eq, beq_iff_eq] at hq
          exact absurd ⟨⟨by omega, by omega⟩, by omega⟩ h2
      rw [hc, bdG_f, Bool.false_and, tb_f fun hh => h2 ⟨hh.pace, hh.len⟩]
  · rw [Edges_bad hf h, bd_ret, tb_f fun hh => h ⟨hh.loop, hh.tgt⟩]
    rfl
theorem rLegal_s {l : Lp} (hf : l.Fine) (t : Tgt) (p : Pln) : roundelayref8_Legal_m l t p = some (tb (LegalP l t p)) := by
  unfold roundelayref8_Legal_m
  rw [rMay_s hf, bd_ret]
  by_cases h : LoopOk l ∧ tgtOk t = true
  · by_cases h2 : (1 ≤ p.pace ∧ p.pace ≤ 200) ∧ p.times.length = l.body.length
    · have hn16 := h.1.2.2.1
      obtain ⟨E, e1, e2, e3, e4, e5⟩ := edges_both h.1 hf h.2
      have hlen := h2.2
      rw [tb_t h, show ((((!true) || (decide (p.pace < 1))) || (decide (p.pace > 200))) || ((ln p.times) != (ln l.body))) = false from by unfold ln; simp only [Bool.not_true, Bool.false_or, Bool.or_eq_false_iff, decide_eq_false_iff_not, bne_eq_false_iff_eq]; omega, br_false]
      rcases lp_all (f := roundelayref8_Legal_L0 l t p) (n := p.times.length) (p := fun i => RngP p i ∧ (cntK l p l.body.length (keyK l p i) : Int) ≤ unitsV t (keyK l p i).2) (fun i hi _ => by
          have hc := clsV_range (ele l.body (i : Int)).op
          have hix : IX (i : Int) (ln p.times) := ⟨by omega, by unfold ln; omega⟩
          have hin : ∃ g, lp (roundelayref8_Legal_L2 l p i (clsV (ele l.body (i : Int)).op)) (0, 0) = some (.go (g, (p.times.length : Int))) ∧ g = (cntK l p p.times.length (keyK l p i) : Int) := by
            refine lp_inv (fun k g => g = (cntK l p k (keyK l p i) : Int)) (fun j g hj hg => ?_) (fun g => by unfold roundelayref8_Legal_L2; exact br_F (by unfold ln; omega)) 0 rfl
            have hcl := cntK_le l p (keyK l p i) j
            have hb : ((Int.tmod (ele p.times (j : Int)) p.pace == Int.tmod (ele p.times (i : Int)) p.pace) && ((if (Int.tmod (ele p.times (j : Int)) p.pace == Int.tmod (ele p.times (i : Int)) p.pace) = true then clsV (ele l.body (j : Int)).op else default) == clsV (ele l.body (i : Int)).op)) = tb (keyK l p j = keyK l p i) := by
              refine tb_eq ?_
              unfold keyK
              by_cases hq : Int.tmod (ele p.times (j : Int)) p.pace = Int.tmod (ele p.times (i : Int)) p.pace
              · simp [hq]
              · simp [hq]
            unfold roundelayref8_Legal_L2
            simp only
            rw [br_T (by unfold ln; omega), ck_IX (by omega) (by unfold ln; omega), ck_yes (by omega), ck_yes hix, ck_yes (by omega), ck_imp (fun _ => ⟨by omega, by unfold ln; omega⟩), ref_Class_s, bdG_any, hb]
            by_cases hq : keyK l p j = keyK l p i
            · rw [tb_t hq, br_true, ck_IR (by omega) (by omega), ck_IR (by omega) (by omega)]
              exact ⟨_, rfl, by rw [hg, cntK_succ, if_pos hq]; rfl⟩
            · rw [tb_f hq, br_false, ck_IR (by omega) (by omega)]
              exact ⟨_, rfl, by rw [hg, cntK_succ, if_neg hq]; rfl⟩
          obtain ⟨g, g1, g2⟩ := hin
          have e : roundelayref8_Legal_L0 l t p i = br (!tb (RngP p i)) (some (.ret false)) (br (decide ((cntK l p l.body.length (keyK l p i) : Int) > unitsV t (keyK l p i).2)) (some (.ret false)) (some (.next ((i : Int) + 1)))) := by
            have hb : (decide (ele p.times (i : Int) < 0) || decide (ele p.times (i : Int) > 1000)) = !tb (RngP p i) := by
              have : (!(decide (ele p.times (i : Int) < 0) || decide (ele p.times (i : Int) > 1000))) = tb (RngP p i) := tb_eq (by unfold RngP; simp)
              rw [← this, Bool.not_not]
            unfold roundelayref8_Legal_L0
            rw [br_T (by unfold ln; omega), ck_yes hix, ck_imp (fun _ => hix), hb, ck_IX (by omega) (by unfold ln; omega), ref_Class_s, bd_ret, g1, bd_ret, Out.on_go]
            simp only
            rw [ck_IX hc.1 hc.2, ck_IR (by omega) (by omega), g2, hlen]
            rfl
          rw [e]
          constructor
          · rintro ⟨x1, x2⟩
            rw [tb_t x1, Bool.not_true, br_false, br_F (by omega)]
          · intro hh
            by_cases x1 : RngP p i
            · rw [tb_t x1, Bool.not_true, br_false, br_T]
              have : ¬ ((cntK l p l.body.length (keyK l p i) : Int) ≤ unitsV t (keyK l p i).2) := fun x => hh ⟨x1, x⟩
              omega
            · rw [tb_f x1]; rfl) (by unfold roundelayref8_Legal_L0; exact br_F (by unfold ln; omega)) with ⟨h3, x3⟩ | ⟨h3, x3⟩
      · rw [x3, bd_ret, Out.on_go, e2, bd_ret]
        have hrng : ∀ i, i < l.body.length → RngP p i := fun i hi => (h3 i (by omega)).1
        rcases lp_all (f := roundelayref8_Legal_L4 p E) (n := E.length) (p := fun i => EdgOk p (ele E (i : Int))) (fun i hi _ => by
            obtain ⟨x1, x2, x3, x4, x5, x6⟩ := edge_range h.1 h2.1 hlen hrng ((e4 _).1 (ele_mem' hi))
            have e : roundelayref8_Legal_L4 p E i = br (!tb (EdgOk p (ele E (i : Int)))) (some (.ret false)) (some (.next ((i : Int) + 1))) := by
              unfold roundelayref8_Legal_L4
              rw [br_T (by unfold ln; omega), ck_IX (by omega) (by unfold ln; omega), ck_yes x1, ck_IR (by omega) (by omega), ck_IR (by omega) (by omega), ck_yes x2, ck_IR (by omega) (by omega), ck_IR (by omega) (by omega)]
              congr 1
              have : (!decide (ele p.times (ele E (i : Int)).to + (ele E (i : Int)).bk * p.pace < ele p.times (ele E (i : Int)).fr + (ele E (i : Int)).wt)) = tb (EdgOk p (ele E (i : Int))) := tb_eq (by unfold EdgOk; simp)
              rw [← this, Bool.not_not]
            rw [e]
            exact ⟨fun h => by rw [tb_t h]; rfl, fun h => by rw [tb_f h]; rfl⟩) (by unfold roundelayref8_Legal_L4; exact br_F (by unfold ln; omega)) with ⟨h4, x4⟩ | ⟨h4, x4⟩
        · rw [x4, bd_ret, Out.on_go, tb_t]
          exact legal_iff.2 ⟨h, h2.1, h2.2, ⟨hrng, fun i hi => (h3 i (by omega)).2⟩, (all_edges e4).1 h4⟩
        · rw [x4, bd_ret, Out.on_ret, tb_f fun hh => h4 ((all_edges e4).2 hh.edge)]
      · rw [x3, bd_ret, Out.on_ret, tb_f fun hh => h3 fun i hi => ⟨hh.rng i (by omega), hh.units i (by omega)⟩]
    · have hc : ((((!tb (LoopOk l ∧ tgtOk t = true)) || (decide (p.pace < 1))) || (decide (p.pace > 200))) || ((ln p.times) != (ln l.body))) = true := by
        cases hq : ((((!tb (LoopOk l ∧ tgtOk t = true)) || (decide (p.pace < 1))) || (decide (p.pace > 200))) || ((ln p.times) != (ln l.body))) with
        | true => rfl
        | false =>
          unfold ln at hq
          simp only [Bool.or_eq_false_iff, decide_eq_false_iff_not, bne_eq_false_iff_eq] at hq
          exact absurd ⟨⟨by omega, by omega⟩, by omega⟩ h2
      rw [hc, br_true, tb_f fun hh => h2 ⟨hh.pace, hh.len⟩]
  · rw [tb_f h, tb_f fun hh => h ⟨hh.loop, hh.tgt⟩]
    rfl
end Go.Rd
end

section
namespace Go.Rd
set_option linter.unusedVariables false
theorem lp_det {γ ρ : Type} {f : γ → Option (Stp γ ρ)} (st : Nat → γ) (n : Nat) (step : ∀ i, i < n → f (st i) = some (.next (st (i + 1)))) (hend : f (st n) = some (.brk (st n))) : lp f (st 0) = some (.go (st n)) := by
  have key : ∀ m i : Nat, i + m = n → lp f (st i) = some (.go (st n)) := by
    intro m
    induction m with
    | zero =>
      intro i hi
      have : i = n := by omega
      subst this
      exact lp_brk hend
    | succ m ih => exact fun i hi => lp_step (step i (by omega)) (ih (i + 1) (by omega))
  exact key n 0 (by omega)
theorem lp_det2 {γ ρ : Type} {f : γ → Option (Stp γ ρ)} (st : Nat → γ) (n : Nat) (p : Nat → Prop) (q : Nat → ρ) (step : ∀ i, i < n → (∀ j, j < i → p j) → (p i → f (st i) = some (.next (st (i + 1)))) ∧ (¬ p i → f (st i) = some (.ret (q i)))) (hend : f (st n) = some (.brk (st n))) :
    ((∀ i, i < n → p i) ∧ lp f (st 0) = some (.go (st n))) ∨ (∃ i, i < n ∧ ¬ p i ∧ (∀ j, j < i → p j) ∧ lp f (st 0) = some (.ret (q i))) := by
  have key : ∀ m i : Nat, i + m = n → (∀ j, j < i → p j) → ((∀ i, i < n → p i) ∧ lp f (st i) = some (.go (st n))) ∨ (∃ k, k < n ∧ ¬ p k ∧ (∀ j, j < k → p j) ∧ lp f (st i) = some (.ret (q k))) := by
    intro m
    induction m with
    | zero =>
      intro i hi hp
      have : i = n := by omega
      subst this
      exact .inl ⟨hp, lp_brk hend⟩
    | succ m ih =>
      intro i hi hp
      obtain ⟨h1, h2⟩ := step i (by omega) hp
      by_cases hpi : p i
      · have hp' : ∀ j, j < i + 1 → p j := fun j hj => by
          by_cases e : j = i
          · subst e; exact hpi
          · exact hp j (by omega)
        rcases ih (i + 1) (by omega) hp' with ⟨a, b⟩ | ⟨k, a, b, c, d⟩
        · exact .inl ⟨a, lp_step (h1 hpi) b⟩
        · exact .inr ⟨k, a, b, c, lp_step (h1 hpi) d⟩
      · exact .inr ⟨i, by omega, hpi, hp, lp_ret (h2 hpi)⟩
  exact key n 0 (by omega) (fun j hj => absurd hj (Nat.not_lt_zero _))
theorem lp_invR {α ρ : Type} {f : α × Int → Option (Stp (α × Int) ρ)} {n : Nat} (Inv : Nat → α → Prop) (Rr : ρ → Prop) (step : ∀ (i : Nat) g, i < n → Inv i g → (∃ g', f (g, (i : Int)) = some (.next (g', (i : Int) + 1)) ∧ Inv (i + 1) g') ∨ (∃ r, f (g, (i : Int)) = some (.ret r) ∧ Rr r)) (hend : ∀ g, f (g, (n : Int)) = some (.brk (g, (n : Int)))) (g0 : α) (h0 : Inv 0 g0) :
    (∃ g, lp f (g0, 0) = some (.go (g, (n : Int))) ∧ Inv n g) ∨ (∃ r, lp f (g0, 0) = some (.ret r) ∧ Rr r) := by
  have key : ∀ m i : Nat, i + m = n → ∀ g, Inv i g → (∃ g', lp f (g, (i : Int)) = some (.go (g', (n : Int))) ∧ Inv n g') ∨ (∃ r, lp f (g, (i : Int)) = some (.ret r) ∧ Rr r) := by
    intro m
    induction m with
    | zero =>
      intro i hi g hg
      have : i = n := by omega
      subst this
      exact .inl ⟨g, lp_brk (hend g), hg⟩
    | succ m ih =>
      intro i hi g hg
      rcases step i g (by omega) hg with ⟨g', h1, h2⟩ | ⟨r, h1, h2⟩
      · rcases ih (i + 1) (by omega) g' h2 with ⟨g2, h3, h4⟩ | ⟨r, h3, h4⟩
        · exact .inl ⟨g2, lp_step h1 h3, h4⟩
        · exact .inr ⟨r, lp_step h1 h3, h4⟩
      · exact .inr ⟨r, lp_ret h1, h2⟩
  exact key n 0 (by omega) g0 h0
theorem ele_rm {α : Type} [Inhabited α] {n : Nat} {g : Nat → α} {i : Nat} (h : i < n) : ele ((List.range n).map g) (i : Int) = g i := by
  rw [ele_nat, List.getD_eq_getElem?_getD, List.getElem?_map, List.getElem?_range h]; rfl
theorem ln_rm {α : Type} {n : Nat} {g : Nat → α} : ln ((List.range n).map g) = n := by unfold ln; simp
theorem rm_succ {α : Type} {n : Nat} {g : Nat → α} : (List.range n).map g ++ [g n] = (List.range (n + 1)).map g := by rw [List.range_succ, List.map_append]; rfl
theorem upd_rm {α : Type} [Inhabited α] {n : Nat} {g : Nat → α} {i : Nat} (h : i < n) {x : α} : upd ((List.range n).map g) (i : Int) x = (List.range n).map (fun j => if j = i then x else g j) := by
  apply List.ext_getElem?
  intro j
  unfold upd
  rw [List.getElem?_set, List.getElem?_map]
  by_cases hj : j < n
  · rw [List.getElem?_map, List.getElem?_range hj]
    by_cases e : j = i
    · subst e; simp [h]
    · simp [show ¬ i = j from fun h => e h.symm, e]
  · rw [List.getElem?_map, List.getElem?_eq_none (by simp; omega)]
    have : ¬ i = j := by omega
    simp [this]
theorem rm_congr {α : Type} {n : Nat} {g h : Nat → α} (e : ∀ i, i < n → g i = h i) : (List.range n).map g = (List.range n).map h := List.map_congr_left fun i hi => e i (List.mem_range.1 hi)
theorem AL80 {n : Nat} (h : n ≤ 100000) : AL n 80 := ⟨by show n ≤ 9223372036854775807; omega, by omega⟩
end Go.Rd
end

section
namespace Go.Rd
set_option linter.unusedVariables false
noncomputable def emit_Rest_m (a : Int) (b : Int) : Option (Int) :=
 ck (b ≠ 0) <|
 ck (IR ((Int.tmod a b) + b)) <|
 ck (b ≠ 0) <|
 some (Int.tmod ((Int.tmod a b) + b) b)

end Go.Rd
end

section
namespace Go.Rd
set_option linter.unusedVariables false
noncomputable def roundelayref11_Emit_L0 (l : Lp) (t : Tgt) (p : Pln) (dests : List Int) : ((List Opr) × Int × Int) → Option (Stp ((List Opr) × Int × Int) (Krn × Int)) := fun (v13_1, b12c1_1, i12_1) =>
 br (decide (i12_1 < (ln dests))) (
 ck (IX i12_1 (ln dests)) <|
 ck ((!(decide ((ele dests i12_1) < 0))) = true → IX i12_1 (ln dests)) <|
 br ((decide ((ele dests i12_1) < 0)) || (decide ((ele dests i12_1) ≥ t.regs))) (
 some (.ret ((Krn.mk 0 0 []), 2))) (
 ck (IX i12_1 (ln l.body)) <|
 ck (IX i12_1 (ln dests)) <|
 ck (IX i12_1 (ln p.times)) <|
 ck (p.pace ≠ 0) <|
 ck (IX i12_1 (ln p.times)) <|
 ck (IR ((ele p.times i12_1) - (Int.tmod (ele p.times i12_1) p.pace))) <|
 ck (p.pace ≠ 0) <|
 ck (IR (Int.tdiv ((ele p.times i12_1) - (Int.tmod (ele p.times i12_1) p.pace)) p.pace)) <|
 br (decide ((Int.tdiv ((ele p.times i12_1) - (Int.tmod (ele p.times i12_1) p.pace)) p.pace) ≥ b12c1_1)) (
 ck (IR ((Int.tdiv ((ele p.times i12_1) - (Int.tmod (ele p.times i12_1) p.pace)) p.pace) + 1)) <|
 ck (AL (v13_1 ++ [(Opr.mk (Int.tmod (ele p.times i12_1) p.pace) (Int.tdiv ((ele p.times i12_1) - (Int.tmod (ele p.times i12_1) p.pace)) p.pace) ((ele l.body i12_1).op) (ele dests i12_1) 0 0 ((ele l.body i12_1).ar) ((ele l.body i12_1).sp) ((ele l.body i12_1).pl) ((ele l.body i12_1).n))]).length 80) <|
 ck (IR (i12_1 + 1)) <|
 some (.next ((v13_1 ++ [(Opr.mk (Int.tmod (ele p.times i12_1) p.pace) (Int.tdiv ((ele p.times i12_1) - (Int.tmod (ele p.times i12_1) p.pace)) p.pace) ((ele l.body i12_1).op) (ele dests i12_1) 0 0 ((ele l.body i12_1).ar) ((ele l.body i12_1).sp) ((ele l.body i12_1).pl) ((ele l.body i12_1).n))]), ((Int.tdiv ((ele p.times i12_1) - (Int.tmod (ele p.times i12_1) p.pace)) p.pace) + 1), (i12_1 + 1)))) (
 ck (AL (v13_1 ++ [(Opr.mk (Int.tmod (ele p.times i12_1) p.pace) (Int.tdiv ((ele p.times i12_1) - (Int.tmod (ele p.times i12_1) p.pace)) p.pace) ((ele l.body i12_1).op) (ele dests i12_1) 0 0 ((ele l.body i12_1).ar) ((ele l.body i12_1).sp) ((ele l.body i12_1).pl) ((ele l.body i12_1).n))]).length 80) <|
 ck (IR (i12_1 + 1)) <|
 some (.next ((v13_1 ++ [(Opr.mk (Int.tmod (ele p.times i12_1) p.pace) (Int.tdiv ((ele p.times i12_1) - (Int.tmod (ele p.times i12_1) p.pace)) p.pace) ((ele l.body i12_1).op) (ele dests i12_1) 0 0 ((ele l.body i12_1).ar) ((ele l.body i12_1).sp) ((ele l.body i12_1).pl) ((ele l.body i12_1).n))]), b12c1_1, (i12_1 + 1)))))) (
 some (.brk (v13_1, b12c1_1, i12_1)))
noncomputable def roundelayref11_Emit_L4 (t : Tgt) (i15_4 : Int) (x30 : List Rf) : ((List Opr) × Int) → Option (Stp ((List Opr) × Int) (Empty)) := fun (v13_5, j17_5) =>
 br (decide (j17_5 < (ln x30))) (
 ck (IX j17_5 (ln x30)) <|
 ck (IX ((ele x30 j17_5).st) (ln v13_5)) <|
 ck (IR ((ele v13_5 ((ele x30 j17_5).st)).dest + (ele v13_5 ((ele x30 j17_5).st)).stage)) <|
 ck (IX j17_5 (ln x30)) <|
 ck (IR (((ele v13_5 ((ele x30 j17_5).st)).dest + (ele v13_5 ((ele x30 j17_5).st)).stage) - (ele x30 j17_5).bk)) <|
 ck (IX i15_4 (ln v13_5)) <|
 ck (IR ((((ele v13_5 ((ele x30 j17_5).st)).dest + (ele v13_5 ((ele x30 j17_5).st)).stage) - (ele x30 j17_5).bk) - (ele v13_5 i15_4).stage)) <|
 bd (roundelayref1_Rest_m ((((ele v13_5 ((ele x30 j17_5).st)).dest + (ele v13_5 ((ele x30 j17_5).st)).stage) - (ele x30 j17_5).bk) - (ele v13_5 i15_4).stage) t.regs) fun x64 =>
 br (j17_5 == 0) (
 ck (IX i15_4 (ln v13_5)) <|
 ck (IR (j17_5 + 1)) <|
 some (.next ((upd v13_5 i15_4 (Opr.mk ((ele v13_5 i15_4).slot) ((ele v13_5 i15_4).stage) ((ele v13_5 i15_4).op) ((ele v13_5 i15_4).dest) x64 ((ele v13_5 i15_4).b) ((ele v13_5 i15_4).ar) ((ele v13_5 i15_4).sp) ((ele v13_5 i15_4).pl) ((ele v13_5 i15_4).n))), (j17_5 + 1)))) (
 ck (IX i15_4 (ln v13_5)) <|
 ck (IR (j17_5 + 1)) <|
 some (.next ((upd v13_5 i15_4 (Opr.mk ((ele v13_5 i15_4).slot) ((ele v13_5 i15_4).stage) ((ele v13_5 i15_4).op) ((ele v13_5 i15_4).dest) ((ele v13_5 i15_4).a) x64 ((ele v13_5 i15_4).ar) ((ele v13_5 i15_4).sp) ((ele v13_5 i15_4).pl) ((ele v13_5 i15_4).n))), (j17_5 + 1))))) (
 some (.brk (v13_5, j17_5)))
noncomputable def roundelayref11_Emit_L2 (l : Lp) (t : Tgt) (dests : List Int) : ((List Opr) × Int) → Option (Stp ((List Opr) × Int) (Empty)) := fun (v13_4, i15_4) =>
 br (decide (i15_4 < (ln dests))) (
 ck (IX i15_4 (ln l.body)) <|
 bd (roundelayref2_Uses_m (ele l.body i15_4)) fun x30 =>
 bd (lp (roundelayref11_Emit_L4 t i15_4 x30) (v13_4, 0)) fun o34 => o34.on (fun (v13_5, j17_5) =>
 ck (IR (i15_4 + 1)) <|
 some (.next (v13_5, (i15_4 + 1)))) (fun r => r.elim)) (
 some (.brk (v13_4, i15_4)))
noncomputable def roundelayref11_Emit_m (l : Lp) (t : Tgt) (p : Pln) (dests : List Int) : Option (Krn × Int) :=
 bd (roundelayref8_Legal_m l t p) fun x6 =>
 br ((!x6) || ((ln dests) != (ln l.body))) (
 some ((Krn.mk 0 0 []), 2)) (
 bd (lp (roundelayref11_Emit_L0 l t p dests) ([], 0, 0)) fun o14 => o14.on (fun (v13_1, b12c1_1, i12_1) =>
 bd (lp (roundelayref11_Emit_L2 l t dests) (v13_1, 0)) fun o19 => o19.on (fun (v13_4, i15_4) =>
 some ((Krn.mk p.pace b12c1_1 v13_4), 0)) (fun r => r.elim)) (fun r => some r))
end Go.Rd
end

section
namespace Go.Rd
set_option linter.unusedVariables false
end Go.Rd
end

section
namespace Go.Rd
set_option linter.unusedVariables false
def stgV (p : Pln) (i : Int) : Int := Int.tdiv (ele p.times i) p.pace
def regV (t : Tgt) (p : Pln) (ds : List Int) (i : Int) (r : Rf) : Int := (ele ds r.st + stgV p r.st - r.bk - stgV p i) % t.regs
def abV (t : Tgt) (p : Pln) (ds : List Int) (i : Int) (us : List Rf) : Int × Int := match us with | [] => (0, 0) | [a] => (regV t p ds i a, 0) | a :: b :: _ => (regV t p ds i a, regV t p ds i b)
def oprV (l : Lp) (t : Tgt) (p : Pln) (ds : List Int) (i : Int) (us : List Rf) : Opr :=
  ⟨Int.tmod (ele p.times i) p.pace, stgV p i, (ele l.body i).op, ele ds i, (abV t p ds i us).1, (abV t p ds i us).2, (ele l.body i).ar, (ele l.body i).sp, (ele l.body i).pl, (ele l.body i).n⟩
def stagesV (p : Pln) : Nat → Int
  | 0 => 0
  | i + 1 => max (stagesV p i) (stgV p i + 1)
def DestOk (t : Tgt) (ds : List Int) (i : Nat) : Prop := 0 ≤ ele ds (i : Int) ∧ ele ds (i : Int) < t.regs
def krnV (l : Lp) (t : Tgt) (p : Pln) (ds : List Int) : Krn := ⟨p.pace, stagesV p l.body.length, (List.range l.body.length).map fun i : Nat => oprV l t p ds i (usesL (ele l.body (i : Int)))⟩
def EmitP (l : Lp) (t : Tgt) (p : Pln) (ds : List Int) : Prop := LegalP l t p ∧ ds.length = l.body.length ∧ ∀ i, i < l.body.length → DestOk t ds i
theorem stg_bd {p : Pln} {i : Nat} (hp : 1 ≤ p.pace ∧ p.pace ≤ 200) (hr : RngP p i) : 0 ≤ stgV p i ∧ stgV p i ≤ 1000 := by
  unfold stgV
  obtain ⟨h1, h2⟩ := hr
  rw [Int.tdiv_eq_ediv_of_nonneg h1]
  exact ⟨Int.ediv_nonneg h1 (by omega), Int.le_trans (Int.ediv_le_self _ h1) h2⟩
theorem stg_ref {a b : Int} (ha : 0 ≤ a) (hb : 1 ≤ b) : Int.tdiv (a - Int.tmod a b) b = Int.tdiv a b := by
  have h := Int.tmod_add_mul_tdiv a b
  rw [show a - Int.tmod a b = b * Int.tdiv a b from by omega, Int.mul_tdiv_cancel_left _ (by omega)]
theorem tmod_bd0 {a b : Int} (ha : 0 ≤ a) (hb : 1 ≤ b) : 0 ≤ Int.tmod a b ∧ Int.tmod a b ≤ a := by
  rw [Int.tmod_eq_emod_of_nonneg ha]
  have h1 := Int.emod_add_mul_ediv a b
  have h2 := Int.mul_nonneg (show 0 ≤ b by omega) (Int.ediv_nonneg ha (show 0 ≤ b by omega))
  exact ⟨Int.emod_nonneg _ (by omega), by omega⟩
theorem eRest_s {a b : Int} (hb : 1 ≤ b) (hB : b ≤ 128) : emit_Rest_m a b = some (a % b) := by
  have ht := tmod_lt' a (show 0 < b by omega)
  unfold emit_Rest_m
  rw [ck_yes (by omega), ck_IR (by omega) (by omega), ck_yes (by omega)]
  congr 1
  rw [Int.tmod_eq_emod_of_nonneg (by omega), Int.add_emod_right]
  have h := Int.tmod_add_mul_tdiv a b
  rw [show Int.tmod a b = a - b * Int.tdiv a b from by omega, Int.sub_mul_emod_self_left]
theorem use_rng {l : Lp} {t : Tgt} {p : Pln} {ds : List Int} (h : EmitP l t p ds) {i : Nat} (hi : i < l.body.length) {r : Rf} (hr : r ∈ usesL (ele l.body (i : Int))) :
    (0 ≤ r.st ∧ r.st < l.body.length) ∧ (0 ≤ r.bk ∧ r.bk ≤ 3) ∧ (0 ≤ stgV p r.st ∧ stgV p r.st ≤ 1000) ∧ (0 ≤ stgV p i ∧ stgV p i ≤ 1000) ∧ (0 ≤ ele ds r.st ∧ ele ds r.st < 128) ∧ (1 ≤ t.regs ∧ t.regs ≤ 128) := by
  have h1 := uses_ok h.1.loop hi hr
  have h2 := h1.st (by omega)
  obtain ⟨k, hk⟩ := Int.eq_ofNat_of_zero_le h2.1
  have hk' : k < l.body.length := by omega
  have ht := h.1.tgt
  rw [tgtOk_iff] at ht
  have h3 := h.2.2 k hk'
  rw [hk]
  unfold DestOk at h3
  exact ⟨by omega, ⟨h1.1, h1.2.1⟩, stg_bd h.1.pace (h.1.rng k hk'), stg_bd h.1.pace (h.1.rng i hi), by omega, ht.2.2.2⟩
theorem ref_in {l : Lp} {t : Tgt} {p : Pln} {ds : List Int} (h : EmitP l t p ds) {i : Nat} (hi : i < l.body.length) {us : List Rf} (hu : ∀ r ∈ us, r ∈ usesL (ele l.body (i : Int))) {j : Nat} (hj : j < us.length) (hj2 : j < 2) {v : List Opr} (hv : v.length = l.body.length) (hd : ∀ k, k < l.body.length → (ele v (k : Int)).dest = ele ds (k : Int) ∧ (ele v (k : Int)).stage = stgV p k) :
    roundelayref11_Emit_L4 t i us (v, (j : Int)) = br ((j : Int) == 0) (some (.next (upd v i (Opr.mk (ele v i).slot (ele v i).stage (ele v i).op (ele v i).dest (regV t p ds i (ele us (j : Int))) (ele v i).b (ele v i).ar (ele v i).sp (ele v i).pl (ele v i).n), (j : Int) + 1)))
      (some (.next (upd v i (Opr.mk (ele v i).slot (ele v i).stage (ele v i).op (ele v i).dest (ele v i).a (regV t p ds i (ele us (j : Int))) (ele v i).ar (ele v i).sp (ele v i).pl (ele v i).n), (j : Int) + 1))) := by
  obtain ⟨q1, q2, q3, q4, q5, q6⟩ := use_rng h hi (hu _ (ele_mem' hj))
  obtain ⟨k, hk⟩ := Int.eq_ofNat_of_zero_le q1.1
  have hk' : k < l.body.length := by omega
  have e1 := hd k hk'
  have e2 := hd i hi
  unfold roundelayref11_Emit_L4
  simp only
  unfold regV
  rw [hk] at q3 q5 ⊢
  rw [br_T (by unfold ln; omega), ck_IX (by omega) (by unfold ln; omega), ck_IX (by omega) (by unfold ln; omega), e1.1, e1.2, ck_IR (by omega) (by omega), ck_IX (by omega) (by unfold ln; omega), ck_IR (by omega) (by omega), ck_IX (by omega) (by unfold ln; omega), e2.2, ck_IR (by omega) (by omega), Rest_s _ _ (by omega) (by omega), bd_ret, ck_IX (by omega) (by unfold ln; omega), ck_IR (by omega) (by omega), ck_IX (by omega) (by unfold ln; omega), ck_IR (by omega) (by omega)]
theorem upd_len {α : Type} {v : List α} {i : Int} {x : α} : (upd v i x).length = v.length := List.length_set
theorem ref_inner {l : Lp} {t : Tgt} {p : Pln} {ds : List Int} (h : EmitP l t p ds) {i : Nat} (hi : i < l.body.length) {v : List Opr} (hv : v.length = l.body.length) (hd : ∀ k, k < l.body.length → (ele v (k : Int)).dest = ele ds (k : Int) ∧ (ele v (k : Int)).stage = stgV p k) (h0 : ele v (i : Int) = oprV l t p ds i []) :
    ∃ v', lp (roundelayref11_Emit_L4 t i (usesL (ele l.body (i : Int)))) (v, 0) = some (.go (v', ((usesL (ele l.body (i : Int))).length : Int))) ∧ v' = upd v i (oprV l t p ds i (usesL (ele l.body (i : Int)))) := by
  have hlen := usesL_len (ele l.body (i : Int))
  have hin := fun {j : Nat} hj hj2 {v : List Opr} hv hd => ref_in h hi (us := usesL (ele l.body (i : Int))) (fun r hr => hr) (j := j) hj hj2 (v := v) hv hd
  generalize usesL (ele l.body (i : Int)) = us at *
  have hix : IX (i : Int) (ln v) := ⟨by omega, by unfold ln; omega⟩
  have hend : ∀ v : List Opr, roundelayref11_Emit_L4 t i us (v, (us.length : Int)) = some (.brk (v, (us.length : Int))) := fun b => by
    unfold roundelayref11_Emit_L4; exact br_F (by unfold ln; omega)
  match us, hlen with
  | [], _ =>
    refine ⟨_, lp_brk (hend _), ?_⟩
    rw [← h0]
    apply List.ext_getElem?
    intro k
    unfold upd
    rw [List.getElem?_set]
    by_cases e : (i : Int).toNat = k
    · subst e
      have : i < v.length := by omega
      simp [ele, List.getD_eq_getElem?_getD, this]
    · rw [if_neg e]
  | [a], _ =>
    have s1 := hin (j := 0) (by simp) (by omega) hv hd
    rw [show (((0 : Nat) : Int) == 0) = true from rfl, br_true, h0] at s1
    exact ⟨_, lp_step s1 (lp_brk (hend _)), rfl⟩
  | [a, c], _ =>
    have s1 := hin (j := 0) (by simp) (by omega) hv hd
    rw [show (((0 : Nat) : Int) == 0) = true from rfl, br_true, h0] at s1
    have s2 := hin (j := 1) (by simp) (by omega) (v := upd v i (oprV l t p ds i [a])) (by rw [upd_len]; exact hv) (fun k hk => by
      by_cases e : k = i
      · subst e; rw [ele_upd hix]; exact ⟨rfl, rfl⟩
      · rw [ele_upd_ne (by omega)]; exact hd k hk)
    rw [show (((1 : Nat) : Int) == 0) = false from rfl, br_false, ele_upd hix, upd_upd] at s2
    exact ⟨_, lp_step s1 (lp_step s2 (lp_brk (hend _))), rfl⟩
theorem ref_loop0 {l : Lp} {t : Tgt} {p : Pln} {ds : List Int} (h : LegalP l t p) (hd : ds.length = l.body.length) :
    ((∀ i, i < l.body.length → DestOk t ds i) ∧ lp (roundelayref11_Emit_L0 l t p ds) ([], 0, 0) = some (.go ((List.range l.body.length).map fun i : Nat => oprV l t p ds i [], stagesV p l.body.length, (l.body.length : Int)))) ∨ (∃ i, i < l.body.length ∧ ¬ DestOk t ds i ∧ (∀ j, j < i → DestOk t ds j) ∧ lp (roundelayref11_Emit_L0 l t p ds) ([], 0, 0) = some (.ret (⟨0, 0, []⟩, 2))) := by
  have hl := h.len
  have hp := h.pace
  have hn := h.loop.2.2.1
  refine lp_det2 (f := roundelayref11_Emit_L0 l t p ds) (fun i => ((List.range i).map fun i : Nat => oprV l t p ds i [], stagesV p i, (i : Int))) l.body.length (DestOk t ds) (fun _ => (⟨0, 0, []⟩, 2)) (fun i hi _ => ?_) (by unfold roundelayref11_Emit_L0; exact br_F (by unfold ln; omega))
  have hs := stg_bd hp (h.rng i hi)
  have hr := h.rng i hi
  unfold RngP at hr
  have hm := tmod_bd0 hr.1 hp.1
  have e3 : Int.tdiv (ele p.times (i : Int) - Int.tmod (ele p.times (i : Int)) p.pace) p.pace = stgV p i := stg_ref hr.1 hp.1
  unfold roundelayref11_Emit_L0 DestOk
  simp only
  have hix : IX (i : Int) (ln ds) := ⟨by omega, by unfold ln; omega⟩
  rw [br_T (by unfold ln; omega), ck_yes hix, ck_imp (fun _ => hix)]
  constructor
  · intro h
    rw [show (decide (ele ds (i : Int) < 0) || decide (ele ds (i : Int) ≥ t.regs)) = false from by simp; omega, br_false]
    have e4 : Opr.mk (Int.tmod (ele p.times (i : Int)) p.pace) (stgV p i) ((ele l.body (i : Int)).op) (ele ds (i : Int)) 0 0 ((ele l.body (i : Int)).ar) ((ele l.body (i : Int)).sp) ((ele l.body (i : Int)).pl) ((ele l.body (i : Int)).n) = oprV l t p ds i [] := rfl
    rw [e3, e4, ck_IX (by omega) (by unfold ln; omega), ck_IX (by omega) (by unfold ln; omega), ck_IX (by omega) (by unfold ln; omega), ck_yes (by omega), ck_IX (by omega) (by unfold ln; omega), ck_IR (by omega) (by omega), ck_yes (by omega), ck_IR (by omega) (by omega), rm_succ (g := fun i : Nat => oprV l t p ds i [])]
    by_cases hc : stgV p i ≥ stagesV p i
    · rw [br_T hc, ck_IR (by omega) (by omega), ck_yes (AL80 (by simp; omega)), ck_IR (by omega) (by omega)]
      show _ = some (Stp.next (_, max (stagesV p i) (stgV p i + 1), _))
      rw [show max (stagesV p i) (stgV p i + 1) = stgV p i + 1 from by omega]
      rfl
    · rw [br_F hc, ck_yes (AL80 (by simp; omega)), ck_IR (by omega) (by omega)]
      show _ = some (Stp.next (_, max (stagesV p i) (stgV p i + 1), _))
      rw [show max (stagesV p i) (stgV p i + 1) = stagesV p i from by omega]
      rfl
  · intro h
    rw [show (decide (ele ds (i : Int) < 0) || decide (ele ds (i : Int) ≥ t.regs)) = true from by simp; omega, br_true]
theorem ref_loop2 {l : Lp} {t : Tgt} {p : Pln} {ds : List Int} (h : EmitP l t p ds) : lp (roundelayref11_Emit_L2 l t ds) ((List.range l.body.length).map fun i : Nat => oprV l t p ds i [], 0) = some (.go ((krnV l t p ds).ops, (l.body.length : Int))) := by
  have hd := h.2.1
  have hn := h.1.loop.2.2.1
  have e0 : ((List.range l.body.length).map fun i : Nat => oprV l t p ds i []) = (List.range l.body.length).map fun j : Nat => if j < 0 then oprV l t p ds j (usesL (ele l.body (j : Int))) else oprV l t p ds j [] := rm_congr fun j hj => by rw [if_neg (by omega)]
  have e1 : (krnV l t p ds).ops = (List.range l.body.length).map fun j : Nat => if j < l.body.length then oprV l t p ds j (usesL (ele l.body (j : Int))) else oprV l t p ds j [] := rm_congr fun j hj => by rw [if_pos hj]
  rw [e0, e1]
  refine lp_det (f := roundelayref11_Emit_L2 l t ds) (fun i => ((List.range l.body.length).map fun j : Nat => if j < i then oprV l t p ds j (usesL (ele l.body (j : Int))) else oprV l t p ds j [], (i : Int))) l.body.length (fun i hi => ?_) (by unfold roundelayref11_Emit_L2; exact br_F (by unfold ln; omega))
  obtain ⟨v', e2, e3⟩ := ref_inner h hi (v := (List.range l.body.length).map fun j : Nat => if j < i then oprV l t p ds j (usesL (ele l.body (j : Int))) else oprV l t p ds j []) (by simp) (fun k hk => by
      rw [ele_rm hk]
      split <;> exact ⟨rfl, rfl⟩) (by rw [ele_rm hi, if_neg (by omega)])
  unfold roundelayref11_Emit_L2
  simp only
  rw [br_T (by unfold ln; omega), ck_IX (by omega) (by unfold ln; omega), ref_Uses_s, bd_ret, e2, bd_ret, Out.on_go, ck_IR (by omega) (by omega), e3, upd_rm hi]
  refine congrArg some (congrArg Stp.next (Prod.ext (rm_congr fun j hj => ?_) rfl))
  by_cases a : j = i
  · subst a; rw [if_pos rfl, if_pos (by omega)]
  · rw [if_neg a]
    by_cases b : j < i
    · rw [if_pos b, if_pos (by omega)]
    · rw [if_neg b, if_neg (by omega)]
theorem rEmit_s {l : Lp} (hf : l.Fine) (t : Tgt) (p : Pln) {ds : List Int} : roundelayref11_Emit_m l t p ds = some (if tb (EmitP l t p ds) = true then (krnV l t p ds, 0) else (⟨0, 0, []⟩, 2)) := by
  unfold roundelayref11_Emit_m
  rw [rLegal_s hf, bd_ret]
  by_cases h1 : LegalP l t p ∧ ds.length = l.body.length
  · rw [tb_t h1.1, show ((!true) || ((ln ds) != (ln l.body))) = false from by unfold ln; simp [h1.2], br_false]
    rcases ref_loop0 h1.1 h1.2 (ds := ds) with ⟨h2, e⟩ | ⟨i, h2, h3, _, e⟩
    · have hE : EmitP l t p ds := ⟨h1.1, h1.2, h2⟩
      rw [e, bd_ret, Out.on_go]
      simp only
      rw [ref_loop2 hE, bd_ret, Out.on_go, tb_t hE]
      rfl
    · rw [e, bd_ret, Out.on_ret, tb_f fun hE : EmitP l t p ds => h3 (hE.2.2 i h2)]
      rfl
  · have hc : ((!tb (LegalP l t p)) || ((ln ds) != (ln l.body))) = true := by
      by_cases h : LegalP l t p
      · have : ¬ ds.length = l.body.length := fun e => h1 ⟨h, e⟩
        rw [tb_t h]
        unfold ln
        simp; omega
      · rw [tb_f h]; rfl
    rw [hc, br_true, tb_f fun hE : EmitP l t p ds => h1 ⟨hE.1, hE.2.1⟩]
    rfl
theorem krn_len {l : Lp} {t : Tgt} {p : Pln} {ds : List Int} : (krnV l t p ds).ops.length = l.body.length := by unfold krnV; simp
end Go.Rd
end

section
namespace Go.Rd
set_option linter.unusedVariables false
noncomputable def keep_Far_L2 (a : Int) (x14 : List Rf) : (Int × Int) → Option (Stp (Int × Int) (Empty)) := fun (far5_4, x20_4) =>
 br (decide (x20_4 < (ln x14))) (
 ck (IX x20_4 (ln x14)) <|
 br ((ele x14 x20_4).st == a) (
 ck (IR (x20_4 + 1)) <|
 some (.next ((max far5_4 ((ele x14 x20_4).bk)), (x20_4 + 1)))) (
 ck (IR (x20_4 + 1)) <|
 some (.next (far5_4, (x20_4 + 1))))) (
 some (.brk (far5_4, x20_4)))
noncomputable def keep_Far_L0 (l : Lp) (a : Int) : (Int × Int) → Option (Stp (Int × Int) (Empty)) := fun (far5_3, x13_3) =>
 br (decide (x13_3 < (ln l.body))) (
 ck (IX x13_3 (ln l.body)) <|
 bd (loop_Uses_m (Stm.mk ((ele l.body x13_3).op) ((ele l.body x13_3).a) ((ele l.body x13_3).b) ((ele l.body x13_3).ar) ((ele l.body x13_3).sp) ((ele l.body x13_3).pl) ((ele l.body x13_3).n))) fun x14 =>
 bd (lp (keep_Far_L2 a x14) (far5_3, 0)) fun o18 => o18.on (fun (far5_4, x20_4) =>
 ck (IR (x13_3 + 1)) <|
 some (.next (far5_4, (x13_3 + 1)))) (fun r => r.elim)) (
 some (.brk (far5_3, x13_3)))
noncomputable def keep_Far_m (l : Lp) (a : Int) : Option (Int) :=
 bd (lp (keep_Far_L0 l a) (0, 0)) fun o2 => o2.on (fun (far5_3, x13_3) =>
 some far5_3) (fun r => r.elim)

noncomputable def slices_Index___int_int__L0 (s : List Int) (v : Int) : Int → Option (Stp (Int) (Int)) := fun x8_1 =>
 br (decide (x8_1 < (ln s))) (
 ck (IX x8_1 (ln s)) <|
 br (v == (ele s x8_1)) (
 some (.ret x8_1)) (
 ck (IR (x8_1 + 1)) <|
 some (.next (x8_1 + 1)))) (
 some (.brk x8_1))
noncomputable def slices_Index___int_int__m (s : List Int) (v : Int) : Option (Int) :=
 bd (lp (slices_Index___int_int__L0 s v) 0) fun o1 => o1.on (fun x8_1 =>
 some (-1)) (fun r => some r)

noncomputable def slices_Contains___int_int__m (s : List Int) (v : Int) : Option (Bool) :=
 bd (slices_Index___int_int__m s v) fun x1 =>
 some (decide (x1 ≥ 0))

noncomputable def keep_Layout_uses_L2 (y_Pace : Int) (y_Time : List Int) (a : Int) (x16_4 : Int) (x14 : List Rf) : ((List Use) × Int) → Option (Stp ((List Use) × Int) (Empty)) := fun (v1_5, x24_5) =>
 br (decide (x24_5 < (ln x14))) (
 ck (IX x24_5 (ln x14)) <|
 br ((ele x14 x24_5).st == a) (
 ck (IX x16_4 (ln y_Time)) <|
 ck (IR ((ele x14 x24_5).bk * y_Pace)) <|
 ck (IR ((ele y_Time x16_4) + ((ele x14 x24_5).bk * y_Pace))) <|
 ck (AL (v1_5 ++ [(Use.mk ((ele y_Time x16_4) + ((ele x14 x24_5).bk * y_Pace)) (decide ((ele x14 x24_5).bk > 0)))]).length 16) <|
 ck (IR (x24_5 + 1)) <|
 some (.next ((v1_5 ++ [(Use.mk ((ele y_Time x16_4) + ((ele x14 x24_5).bk * y_Pace)) (decide ((ele x14 x24_5).bk > 0)))]), (x24_5 + 1)))) (
 ck (IR (x24_5 + 1)) <|
 some (.next (v1_5, (x24_5 + 1))))) (
 some (.brk (v1_5, x24_5)))
noncomputable def keep_Layout_uses_L0 (y_Loop_Body : List Stm) (y_Pace : Int) (y_Time : List Int) (a : Int) : ((List Use) × Int) → Option (Stp ((List Use) × Int) (Empty)) := fun (v1_4, x16_4) =>
 br (decide (x16_4 < (ln y_Loop_Body))) (
 ck (IX x16_4 (ln y_Loop_Body)) <|
 bd (loop_Uses_m (Stm.mk ((ele y_Loop_Body x16_4).op) ((ele y_Loop_Body x16_4).a) ((ele y_Loop_Body x16_4).b) ((ele y_Loop_Body x16_4).ar) ((ele y_Loop_Body x16_4).sp) ((ele y_Loop_Body x16_4).pl) ((ele y_Loop_Body x16_4).n))) fun x14 =>
 bd (lp (keep_Layout_uses_L2 y_Pace y_Time a x16_4 x14) (v1_4, 0)) fun o18 => o18.on (fun (v1_5, x24_5) =>
 ck (IR (x16_4 + 1)) <|
 some (.next (v1_5, (x16_4 + 1)))) (fun r => r.elim)) (
 some (.brk (v1_4, x16_4)))
noncomputable def keep_Layout_uses_m (y_Loop_Body : List Stm) (y_Pace : Int) (y_Regs : Int) (y_Time : List Int) (a : Int) : Option (List Use) :=
 bd (lp (keep_Layout_uses_L0 y_Loop_Body y_Pace y_Time a) ([], 0)) fun o2 => o2.on (fun (v1_4, x16_4) =>
 some v1_4) (fun r => r.elim)

noncomputable def keep_Layout_bad_L0 (y_Pace : Int) (y_Ready : List Int) (a : Int) (m_ : Int) (j : Int) (uses : List Use) : Int → Option (Stp (Int) (Bool)) := fun x30_1 =>
 br (decide (x30_1 < (ln uses))) (
 ck (IX x30_1 (ln uses)) <|
 ck (IX a (ln y_Ready)) <|
 br (((decide (((ele y_Ready m_) + (j * y_Pace)) ≥ (ele y_Ready a))) && (decide (((ele y_Ready m_) + (j * y_Pace)) ≤ (ele uses x30_1).til))) || (((ele uses x30_1).later && (decide (j > 0))) && (decide (((ele y_Ready m_) + (j * y_Pace)) ≤ (ele uses x30_1).til)))) (
 some (.ret true)) (
 ck (IR (x30_1 + 1)) <|
 some (.next (x30_1 + 1)))) (
 some (.brk x30_1))
noncomputable def keep_Layout_bad_m (y_Loop_Outs : List Int) (y_Pace : Int) (y_Regs : Int) (y_Ready : List Int) (a : Int) (m_ : Int) (j : Int) (uses : List Use) : Option (Bool) :=
 ck (IX m_ (ln y_Ready)) <|
 ck (IR (j * y_Pace)) <|
 ck (IR ((ele y_Ready m_) + (j * y_Pace))) <|
 bd (lp (keep_Layout_bad_L0 y_Pace y_Ready a m_ j uses) 0) fun o9 => o9.on (fun x30_1 =>
 ck ((decide (j ≤ 0)) = true → IX a (ln y_Ready)) <|
 bdG ((decide (j ≤ 0)) && (decide (((ele y_Ready m_) + (j * y_Pace)) ≥ (ele y_Ready a)))) (slices_Contains___int_int__m y_Loop_Outs a) fun x18 =>
 some (((decide (j ≤ 0)) && (decide (((ele y_Ready m_) + (j * y_Pace)) ≥ (ele y_Ready a)))) && x18)) (fun r => some r)

noncomputable def keep_Layout_Apart_L0 (y_Loop_Outs : List Int) (y_Pace : Int) (y_Regs : Int) (y_Ready : List Int) (a : Int) (m_ : Int) (x1 : List Use) : Int → Option (Stp (Int) (Bool)) := fun j10_1 =>
 br (decide (j10_1 ≤ ((Int.tdiv 4000 y_Pace) + 1))) (
 bdG ((m_ != a) || (j10_1 != 0)) (keep_Layout_bad_m y_Loop_Outs y_Pace y_Regs y_Ready a m_ j10_1 x1) fun x44 =>
 br (((m_ != a) || (j10_1 != 0)) && x44) (
 some (.ret false)) (
 ck (IR (j10_1 + y_Regs)) <|
 some (.next (j10_1 + y_Regs)))) (
 some (.brk j10_1))
noncomputable def keep_Layout_Apart_m (y_Loop_Body : List Stm) (y_Loop_Outs : List Int) (y_Pace : Int) (y_Regs : Int) (y_Time : List Int) (y_Ready : List Int) (y_Places : List Int) (a : Int) (m_ : Int) : Option (Bool) :=
 bd (keep_Layout_uses_m y_Loop_Body y_Pace y_Regs y_Time a) fun x1 =>
 ck (IX a (ln y_Places)) <|
 ck (IX m_ (ln y_Places)) <|
 ck (IR ((ele y_Places a) - (ele y_Places m_))) <|
 ck (y_Regs ≠ 0) <|
 ck (IR ((Int.tmod ((ele y_Places a) - (ele y_Places m_)) y_Regs) + y_Regs)) <|
 ck (y_Regs ≠ 0) <|
 ck (y_Pace ≠ 0) <|
 ck (IR (Int.tdiv 4000 y_Pace)) <|
 ck (IR ((Int.tdiv 4000 y_Pace) + 1)) <|
 ck (y_Regs ≠ 0) <|
 ck (IR (Int.tdiv ((Int.tdiv 4000 y_Pace) + 1) y_Regs)) <|
 ck (IR ((Int.tdiv ((Int.tdiv 4000 y_Pace) + 1) y_Regs) + 2)) <|
 ck (IR (((Int.tdiv ((Int.tdiv 4000 y_Pace) + 1) y_Regs) + 2) * y_Regs)) <|
 ck (IR ((Int.tmod ((Int.tmod ((ele y_Places a) - (ele y_Places m_)) y_Regs) + y_Regs) y_Regs) - (((Int.tdiv ((Int.tdiv 4000 y_Pace) + 1) y_Regs) + 2) * y_Regs))) <|
 bd (lp (keep_Layout_Apart_L0 y_Loop_Outs y_Pace y_Regs y_Ready a m_ x1) ((Int.tmod ((Int.tmod ((ele y_Places a) - (ele y_Places m_)) y_Regs) + y_Regs) y_Regs) - (((Int.tdiv ((Int.tdiv 4000 y_Pace) + 1) y_Regs) + 2) * y_Regs))) fun o37 => o37.on (fun j10_1 =>
 some true) (fun r => some r)

noncomputable def keep_Layout_Firsts_L2 (y_Regs : Int) (y_Places : List Int) (l : List Int) (x13_3 : Int) (x13 : Int) : ((List (Int × Bool)) × Int) → Option (Stp ((List (Int × Bool)) × Int) (Bool)) := fun (m1n_4, x23_4) =>
 br (decide (x23_4 < x13)) (
 ck (IX (ele l x13_3) (ln y_Places)) <|
 ck (IR ((ele y_Places (ele l x13_3)) - x23_4)) <|
 ck (IR (((ele y_Places (ele l x13_3)) - x23_4) - 1)) <|
 ck (y_Regs ≠ 0) <|
 ck (IR ((Int.tmod (((ele y_Places (ele l x13_3)) - x23_4) - 1) y_Regs) + y_Regs)) <|
 ck (y_Regs ≠ 0) <|
 br (mget m1n_4 (Int.tmod ((Int.tmod (((ele y_Places (ele l x13_3)) - x23_4) - 1) y_Regs) + y_Regs) y_Regs) false) (
 some (.ret false)) (
 ck (IR (x23_4 + 1)) <|
 some (.next ((mput m1n_4 (Int.tmod ((Int.tmod (((ele y_Places (ele l x13_3)) - x23_4) - 1) y_Regs) + y_Regs) y_Regs) true), (x23_4 + 1))))) (
 some (.brk (m1n_4, x23_4)))
noncomputable def keep_Layout_Firsts_L0 (y_Loop_Logs : List Int) (y_Loop_Body : List Stm) (y_Loop_Outs : List Int) (y_Regs : Int) (y_Places : List Int) (l : List Int) : ((List (Int × Bool)) × Int) → Option (Stp ((List (Int × Bool)) × Int) (Bool)) := fun (m1n_3, x13_3) =>
 br (decide (x13_3 < (ln l))) (
 ck (IX x13_3 (ln l)) <|
 bd (keep_Far_m (Lp.mk y_Loop_Logs y_Loop_Body y_Loop_Outs) (ele l x13_3)) fun x13 =>
 bd (lp (keep_Layout_Firsts_L2 y_Regs y_Places l x13_3 x13) (m1n_3, 0)) fun o16 => o16.on (fun (m1n_4, x23_4) =>
 ck (IR (x13_3 + 1)) <|
 some (.next (m1n_4, (x13_3 + 1)))) (fun r => some (.ret r))) (
 some (.brk (m1n_3, x13_3)))
noncomputable def keep_Layout_Firsts_m (y_Loop_Logs : List Int) (y_Loop_Body : List Stm) (y_Loop_Outs : List Int) (y_Pace : Int) (y_Regs : Int) (y_Places : List Int) (l : List Int) : Option (Bool) :=
 bd (lp (keep_Layout_Firsts_L0 y_Loop_Logs y_Loop_Body y_Loop_Outs y_Regs y_Places l) (([] : List (Int × Bool)), 0)) fun o2 => o2.on (fun (m1n_3, x13_3) =>
 some true) (fun r => some r)
end Go.Rd
end

section
namespace Go.Rd
set_option linter.unusedVariables false
structure LayD where
  (logs : List Int)
  (body : List Stm)
  (outs : List Int)
  (pace regs : Int)
  (time ready places : List Int)
structure LayD.Ok (y : LayD) : Prop where
  n : 1 ≤ y.body.length ∧ y.body.length ≤ 16
  lt : y.time.length = y.body.length
  lr : y.ready.length = y.body.length
  lp : y.places.length = y.body.length
  lo : y.outs.length ≤ 100000
  pace : 1 ≤ y.pace ∧ y.pace ≤ 200
  regs : 1 ≤ y.regs ∧ y.regs ≤ 128
  tm : ∀ i : Nat, i < y.body.length → 0 ≤ ele y.time (i : Int) ∧ ele y.time (i : Int) ≤ 1000
  rd : ∀ i : Nat, i < y.body.length → 0 ≤ ele y.ready (i : Int) ∧ ele y.ready (i : Int) ≤ 1006
  pl : ∀ i : Nat, i < y.body.length → -100000 ≤ ele y.places (i : Int) ∧ ele y.places (i : Int) ≤ 100000
  us : ∀ i : Nat, i < y.body.length → ∀ r ∈ usesL (ele y.body (i : Int)), 0 ≤ r.st ∧ r.st < y.body.length ∧ 0 ≤ r.bk ∧ r.bk ≤ 3
def farU (a : Int) : List Rf → Int → Int
  | [], f => f
  | r :: us, f => farU a us (if r.st = a then max f r.bk else f)
def farN (body : List Stm) (a : Int) : Nat → Int
  | 0 => 0
  | k + 1 => farU a (usesL (ele body (k : Int))) (farN body a k)
def farV (body : List Stm) (a : Int) : Int := farN body a body.length
theorem farU_app (a : Int) : ∀ (u v : List Rf) (f : Int), farU a (u ++ v) f = farU a v (farU a u f)
  | [], _, _ => rfl
  | r :: u, v, f => farU_app a u v _
theorem farU_ge (a : Int) : ∀ (u : List Rf) (f : Int), f ≤ farU a u f ∧ ∀ r ∈ u, r.st = a → r.bk ≤ farU a u f
  | [], f => ⟨Int.le_refl _, fun r h => by cases h⟩
  | r :: u, f => by
    have h := farU_ge a u (if r.st = a then max f r.bk else f)
    refine ⟨Int.le_trans ?_ h.1, fun x hx hs => ?_⟩
    · split <;> omega
    · rcases List.mem_cons.1 hx with rfl | hx
      · refine Int.le_trans ?_ h.1
        rw [if_pos hs]; omega
      · exact h.2 x hx hs
theorem farU_le (a : Int) {B : Int} : ∀ (u : List Rf) (f : Int), f ≤ B → (∀ r ∈ u, r.bk ≤ B) → farU a u f ≤ B
  | [], _, h, _ => h
  | r :: u, f, h, hu => farU_le a u _ (by have := hu r (by simp); split <;> omega) fun x hx => hu x (by simp [hx])
theorem farN_bd {body : List Stm} (hu : ∀ i : Nat, i < body.length → ∀ r ∈ usesL (ele body (i : Int)), 0 ≤ r.bk ∧ r.bk ≤ 3) (a : Int) : ∀ k, k ≤ body.length → 0 ≤ farN body a k ∧ farN body a k ≤ 3
  | 0, _ => by show 0 ≤ (0 : Int) ∧ (0 : Int) ≤ 3; omega
  | k + 1, h => by
    have ih := farN_bd hu a k (by omega)
    have h1 := farU_ge a (usesL (ele body (k : Int))) (farN body a k)
    exact ⟨Int.le_trans ih.1 h1.1, farU_le a _ _ ih.2 fun r hr => (hu k (by omega) r hr).2⟩
theorem far_s {l : Lp} (hn : l.body.length ≤ 16) (hu : ∀ i : Nat, i < l.body.length → ∀ r ∈ usesL (ele l.body (i : Int)), 0 ≤ r.bk ∧ r.bk ≤ 3) (a : Int) : keep_Far_m l a = some (farV l.body a) := by
  have X := lp_det (f := keep_Far_L0 l a) (ρ := Empty) (fun k => (farN l.body a k, (k : Int))) l.body.length (fun k hk => by
    have h2 := usesL_len (ele l.body (k : Int))
    have Y := lp_det (f := keep_Far_L2 a (usesL (ele l.body (k : Int)))) (ρ := Empty) (fun j => (farU a ((usesL (ele l.body (k : Int))).take j) (farN l.body a k), (j : Int))) (usesL (ele l.body (k : Int))).length (fun j hj => by
      unfold keep_Far_L2
      simp only
      rw [br_T (by unfold ln; omega), ck_IX (by omega) (by unfold ln; omega), take_next hj, farU_app]
      by_cases e : (ele (usesL (ele l.body (k : Int))) (j : Int)).st = a
      · rw [show ((ele (usesL (ele l.body (k : Int))) (j : Int)).st == a) = true from by simp [e], br_true, ck_IR (by omega) (by omega)]
        show _ = some (Stp.next (if _ then _ else _, _))
        rw [if_pos e]; rfl
      · rw [show ((ele (usesL (ele l.body (k : Int))) (j : Int)).st == a) = false from by simp [e], br_false, ck_IR (by omega) (by omega)]
        show _ = some (Stp.next (if _ then _ else _, _))
        rw [if_neg e]; rfl) (by unfold keep_Far_L2; exact br_F (by unfold ln; omega))
    rw [List.take_length] at Y
    unfold keep_Far_L0
    simp only
    rw [br_T (by unfold ln; omega), ck_IX (by omega) (by unfold ln; omega), show loop_Uses_m (Stm.mk ((ele l.body (k : Int)).op) ((ele l.body (k : Int)).a) ((ele l.body (k : Int)).b) ((ele l.body (k : Int)).ar) ((ele l.body (k : Int)).sp) ((ele l.body (k : Int)).pl) ((ele l.body (k : Int)).n)) = some (usesL (ele l.body (k : Int))) from Uses_s _, bd_ret,
      show lp (keep_Far_L2 a (usesL (ele l.body (k : Int)))) (farN l.body a k, 0) = _ from Y, bd_ret, Out.on_go, ck_IR (by omega) (by omega)]
    rfl) (by unfold keep_Far_L0; exact br_F (by unfold ln; omega))
  unfold keep_Far_m
  rw [show lp (keep_Far_L0 l a) (0, 0) = _ from X, bd_ret, Out.on_go]
  rfl
def UseOf (y : LayD) (a : Int) (k : Nat) (r : Rf) (x : Use) : Prop := r.st = a ∧ x = ⟨ele y.time (k : Int) + r.bk * y.pace, decide (r.bk > 0)⟩
theorem uses_in {y : LayD} (hy : y.Ok) (a : Int) {k : Nat} (hk : k < y.body.length) {g0 : List Use} (hg : g0.length ≤ 1000) : ∃ g, lp (keep_Layout_uses_L2 y.pace y.time a k (usesL (ele y.body (k : Int)))) (g0, 0) = some (.go (g, ((usesL (ele y.body (k : Int))).length : Int))) ∧ ((∀ x, x ∈ g ↔ x ∈ g0 ∨ ∃ r ∈ usesL (ele y.body (k : Int)), UseOf y a k r x) ∧ g.length ≤ g0.length + 2) := by
  have h2 := usesL_len (ele y.body (k : Int))
  have X := lp_inv (f := keep_Layout_uses_L2 y.pace y.time a k (usesL (ele y.body (k : Int)))) (ρ := Empty) (n := (usesL (ele y.body (k : Int))).length) (fun j g => (∀ x, x ∈ g ↔ x ∈ g0 ∨ ∃ r ∈ (usesL (ele y.body (k : Int))).take j, UseOf y a k r x) ∧ g.length ≤ g0.length + j) (fun j g hj hg2 => by
    obtain ⟨q1, q2⟩ := hg2
    have hu := hy.us k hk _ (ele_mem' hj)
    have ht := hy.tm k hk
    have hpc := hy.pace
    have m1 := mul_le (a := (ele (usesL (ele y.body (k : Int))) (j : Int)).bk) (A := 3) (b := y.pace) (B := 200) (by omega) (by omega) (by omega) (by omega)
    have hl := hy.lt
    unfold keep_Layout_uses_L2
    simp only
    rw [br_T (by unfold ln; omega), ck_IX (by omega) (by unfold ln; omega), take_next hj]
    by_cases e : (ele (usesL (ele y.body (k : Int))) (j : Int)).st = a
    · rw [show ((ele (usesL (ele y.body (k : Int))) (j : Int)).st == a) = true from by simp [e], br_true, ck_IX (by omega) (by unfold ln; omega), ck_IR (by omega) (by omega), ck_IR (by omega) (by omega), ck_yes ⟨by show _ ≤ 9223372036854775807; simp; omega, by simp; omega⟩, ck_IR (by omega) (by omega)]
      refine ⟨_, rfl, fun x => ?_, by simp; omega⟩
      rw [List.mem_append, List.mem_singleton, q1]
      constructor
      · rintro ((h | ⟨r, h, h'⟩) | h)
        · exact .inl h
        · exact .inr ⟨r, by simp [h], h'⟩
        · exact .inr ⟨_, by simp, e, h⟩
      · rintro (h | ⟨r, h, h'⟩)
        · exact .inl (.inl h)
        · rcases List.mem_append.1 h with h | h
          · exact .inl (.inr ⟨r, h, h'⟩)
          · rw [List.mem_singleton] at h
            subst h
            exact .inr h'.2
    · rw [show ((ele (usesL (ele y.body (k : Int))) (j : Int)).st == a) = false from by simp [e], br_false, ck_IR (by omega) (by omega)]
      refine ⟨_, rfl, fun x => ?_, by omega⟩
      rw [q1]
      constructor
      · rintro (h | ⟨r, h, h'⟩)
        · exact .inl h
        · exact .inr ⟨r, by simp [h], h'⟩
      · rintro (h | ⟨r, h, h'⟩)
        · exact .inl h
        · rcases List.mem_append.1 h with h | h
          · exact .inr ⟨r, h, h'⟩
          · rw [List.mem_singleton] at h
            subst h
            exact absurd h'.1 e) (fun g => by unfold keep_Layout_uses_L2; exact br_F (by unfold ln; omega)) g0 ⟨fun x => ⟨.inl, fun h => by
              rcases h with h | ⟨r, h, _⟩
              · exact h
              · simp at h⟩, by omega⟩
  obtain ⟨g, e, q1, q2⟩ := X
  rw [List.take_length] at q1
  exact ⟨g, e, q1, by omega⟩
theorem uses_l {y : LayD} (hy : y.Ok) (a : Int) : ∃ us, keep_Layout_uses_m y.body y.pace y.regs y.time a = some us ∧ (∀ x, x ∈ us ↔ ∃ k, k < y.body.length ∧ ∃ r ∈ usesL (ele y.body (k : Int)), UseOf y a k r x) ∧ us.length ≤ 32 := by
  have hn := hy.n
  have X := lp_inv (f := keep_Layout_uses_L0 y.body y.pace y.time a) (ρ := Empty) (n := y.body.length) (fun i g => (∀ x, x ∈ g ↔ ∃ k, k < i ∧ ∃ r ∈ usesL (ele y.body (k : Int)), UseOf y a k r x) ∧ g.length ≤ 2 * i) (fun i g hi hg => by
    obtain ⟨q1, q2⟩ := hg
    obtain ⟨g', e1, e2, e3⟩ := uses_in hy a hi (g0 := g) (by omega)
    unfold keep_Layout_uses_L0
    simp only
    rw [br_T (by unfold ln; omega), ck_IX (by omega) (by unfold ln; omega), show loop_Uses_m (Stm.mk ((ele y.body (i : Int)).op) ((ele y.body (i : Int)).a) ((ele y.body (i : Int)).b) ((ele y.body (i : Int)).ar) ((ele y.body (i : Int)).sp) ((ele y.body (i : Int)).pl) ((ele y.body (i : Int)).n)) = some (usesL (ele y.body (i : Int))) from Uses_s _, bd_ret, e1, bd_ret, Out.on_go, ck_IR (by omega) (by omega)]
    refine ⟨_, rfl, fun x => ?_, by show g'.length ≤ _; omega⟩
    rw [e2, q1]
    constructor
    · rintro (⟨k, h1, h2⟩ | h)
      · exact ⟨k, by omega, h2⟩
      · exact ⟨i, by omega, h⟩
    · rintro ⟨k, h1, h2⟩
      by_cases e : k = i
      · subst e; exact .inr h2
      · exact .inl ⟨k, by omega, h2⟩) (fun g => by unfold keep_Layout_uses_L0; exact br_F (by unfold ln; omega)) [] ⟨fun x => ⟨fun h => (by cases h), fun ⟨k, h, _⟩ => absurd h (Nat.not_lt_zero _)⟩, by simp⟩
  obtain ⟨g, e, q1, q2⟩ := X
  unfold keep_Layout_uses_m
  rw [e, bd_ret, Out.on_go]
  exact ⟨g, rfl, q1, by omega⟩
structure LookP (y : LayD) (a m j : Int) (k : Nat) (r : Rf) : Prop where
  kn : k < y.body.length
  mem : r ∈ usesL (ele y.body (k : Int))
  st : r.st = a
  near : (ele y.ready a ≤ ele y.ready m + j * y.pace ∧ ele y.ready m + j * y.pace ≤ ele y.time (k : Int) + r.bk * y.pace) ∨ (0 < r.bk ∧ 0 < j ∧ ele y.ready m + j * y.pace ≤ ele y.time (k : Int) + r.bk * y.pace)
def OutP (y : LayD) (a m j : Int) : Prop := j ≤ 0 ∧ ele y.ready a ≤ ele y.ready m + j * y.pace ∧ a ∈ y.outs
def BadP (y : LayD) (a m j : Int) : Prop := (∃ k r, LookP y a m j k r) ∨ OutP y a m j
def ApartP (y : LayD) (a m : Int) : Prop := ∀ j : Int, (m ≠ a ∨ j ≠ 0) → (ele y.places m + j - ele y.places a) % y.regs = 0 → ¬ BadP y a m j
theorem contains_s (s : List Int) (hs : s.length ≤ 100000) (v : Int) : slices_Contains___int_int__m s v = some (tb (v ∈ s)) := by
  unfold slices_Contains___int_int__m slices_Index___int_int__m
  rcases lp_det2 (f := slices_Index___int_int__L0 s v) (fun i => (i : Int)) s.length (fun i => ¬ (v = ele s (i : Int))) (fun i => (i : Int)) (fun i hi _ => by
      unfold slices_Index___int_int__L0
      rw [br_T (by unfold ln; omega), ck_IX (by omega) (by unfold ln; omega)]
      exact ⟨fun h => by rw [show (v == ele s (i : Int)) = false from by simp [h], br_false, ck_IR (by omega) (by omega)]; rfl, fun h => by rw [show (v == ele s (i : Int)) = true from by simpa using h, br_true]⟩) (by unfold slices_Index___int_int__L0; exact br_F (by unfold ln; omega)) with ⟨h1, e⟩ | ⟨i, h1, h2, _, e⟩
  · rw [show (0 : Int) = ((0 : Nat) : Int) from rfl, e, bd_ret, Out.on_go, bd_ret, tb_f]
    · rfl
    · intro h
      obtain ⟨i, hi, he⟩ := mem_ele h
      exact h1 i hi he.symm
  · rw [show (0 : Int) = ((0 : Nat) : Int) from rfl, e, bd_ret, Out.on_ret, bd_ret, tb_t (by rw [Classical.not_not.1 h2]; exact ele_mem' h1), decide_eq_true (by omega)]
theorem bad_s {y : LayD} (hy : y.Ok) {a m : Nat} (ha : a < y.body.length) (hm : m < y.body.length) {j : Int} (h1 : -10000 ≤ j) (h2 : j ≤ 10000) {us : List Use} (hus : ∀ x, x ∈ us ↔ ∃ k, k < y.body.length ∧ ∃ r ∈ usesL (ele y.body (k : Int)), UseOf y a k r x) (hul : us.length ≤ 32) :
    keep_Layout_bad_m y.outs y.pace y.regs y.ready a m j us = some (tb (BadP y a m j)) := by
  have hpc := hy.pace
  have hlr := hy.lr
  have r1 := hy.rd a ha; have r2 := hy.rd m hm
  have m1 := mul_le (a := j) (A := 10000) (b := y.pace) (B := 200) (by omega) (by omega) (by omega) (by omega)
  unfold keep_Layout_bad_m
  rw [ck_IX (by omega) (by unfold ln; omega), ck_IR (by omega) (by omega), ck_IR (by omega) (by omega)]
  rcases lp_det2 (f := keep_Layout_bad_L0 y.pace y.ready a m j us) (fun i => (i : Int)) us.length (fun i => ¬ ((ele y.ready a ≤ ele y.ready m + j * y.pace ∧ ele y.ready m + j * y.pace ≤ (ele us (i : Int)).til) ∨ ((ele us (i : Int)).later = true ∧ 0 < j ∧ ele y.ready m + j * y.pace ≤ (ele us (i : Int)).til))) (fun i => true) (fun i hi _ => by
      unfold keep_Layout_bad_L0
      rw [br_T (by unfold ln; omega), ck_IX (by omega) (by unfold ln; omega), ck_IX (by omega) (by unfold ln; omega)]
      have hb : (((decide (((ele y.ready m) + (j * y.pace)) ≥ (ele y.ready a))) && (decide (((ele y.ready m) + (j * y.pace)) ≤ (ele us (i : Int)).til))) || (((ele us (i : Int)).later && (decide (j > 0))) && (decide (((ele y.ready m) + (j * y.pace)) ≤ (ele us (i : Int)).til)))) = tb ((ele y.ready a ≤ ele y.ready m + j * y.pace ∧ ele y.ready m + j * y.pace ≤ (ele us (i : Int)).til) ∨ ((ele us (i : Int)).later = true ∧ 0 < j ∧ ele y.ready m + j * y.pace ≤ (ele us (i : Int)).til)) := tb_eq (by simp [and_assoc])
      rw [hb]
      exact ⟨fun h => by rw [tb_f h, br_false, ck_IR (by omega) (by omega)]; rfl, fun h => by rw [tb_t (Classical.not_not.1 h), br_true]⟩) (by unfold keep_Layout_bad_L0; exact br_F (by unfold ln; omega)) with ⟨q1, e⟩ | ⟨i, q1, q2, _, e⟩
  · rw [show lp (keep_Layout_bad_L0 y.pace y.ready a m j us) 0 = _ from e, bd_ret, Out.on_go, ck_imp (fun _ => ⟨by omega, by unfold ln; omega⟩), contains_s _ hy.lo, bdG_some']
    congr 1
    refine tb_eq ?_
    have hno : ¬ ∃ k r, LookP y a m j k r := by
      rintro ⟨k, r, hk, hr, hs, hn⟩
      obtain ⟨i, hi, he⟩ := mem_ele ((hus _).2 ⟨k, hk, r, hr, hs, rfl⟩)
      refine q1 i hi ?_
      rw [he]
      simpa using hn
    unfold BadP OutP
    constructor
    · intro h
      by_cases c : j ≤ 0 <;> by_cases d : ele y.ready a ≤ ele y.ready m + j * y.pace <;> by_cases f : (a : Int) ∈ y.outs <;> simp [c, d, f, tb_t, tb_f] at h ⊢
    · rintro (h | ⟨c, d, f⟩)
      · exact absurd h hno
      · have d' : ele y.ready m + j * y.pace ≥ ele y.ready a := d
        rw [tb_t f, decide_eq_true c, decide_eq_true d']
        rfl
  · rw [show lp (keep_Layout_bad_L0 y.pace y.ready a m j us) 0 = _ from e, bd_ret, Out.on_ret, tb_t]
    obtain ⟨k, hk, r, hr, hs, he⟩ := (hus _).1 (ele_mem' q1)
    have q3 := Classical.not_not.1 q2
    rw [he] at q3
    exact .inl ⟨k, r, hk, hr, hs, by simpa using q3⟩
end Go.Rd
end
