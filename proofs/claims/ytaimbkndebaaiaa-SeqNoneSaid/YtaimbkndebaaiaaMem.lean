/- Rules for operations that make or change the call's own memory; slices that are read. -/
import Derived.Test.YtaimbkndebaaiaaRules
namespace Go.Rd
open Go.RowKit
set_option linter.unusedVariables false
set_option linter.unusedSimpArgs false

/-! ### Slices that are read -/
theorem Addr.add_add (a : Addr) (i j : Nat) : (a.add i).add j = a.add (i + j) := by
  unfold Addr.add
  by_cases hi : i = 0 <;> by_cases hj : j = 0 <;> simp [hi, hj]
  omega

theorem CellsAt.get {w : World} {q : Addr} : ∀ {l : List Value} {k : Nat} (j : Nat) {v : Value}, CellsAt w q l k → l[j]? = some v → w.cell? (q.add (k + j)) = some v
  | u :: r, k, 0, v, ⟨h1, _⟩, hv => by simp at hv; subst hv; exact h1
  | u :: r, k, j + 1, v, ⟨_, h2⟩, hv => by
    have := h2.get j (by simpa using hv)
    rwa [show k + 1 + j = k + (j + 1) from by omega] at this
theorem CellsAt.one {w : World} {q : Addr} {l : List Value} (j : Nat) {v : Value} (h : CellsAt w q l 0) (hv : l[j]? = some v) : w.cell? (q.add j) = some v := by
  have := h.get j hv
  rwa [Nat.zero_add] at this

theorem CellsAt.of {w : World} {q : Addr} : ∀ {l : List Value} {k : Nat}, (∀ j v, l[j]? = some v → w.cell? (q.add (k + j)) = some v) → CellsAt w q l k
  | [], _, _ => trivial
  | u :: r, k, h => ⟨by simpa using h 0 u rfl, CellsAt.of fun j v hv => by
      have := h (j + 1) v (by simpa using hv)
      rwa [show k + (j + 1) = k + 1 + j from by omega] at this⟩

theorem CellsAt.mono {w w' : World} {q : Addr} (h : ∀ a v, w.cell? a = some v → w'.cell? a = some v) : ∀ {l : List Value} {k : Nat}, CellsAt w q l k → CellsAt w' q l k
  | [], _, _ => trivial
  | u :: r, k, ⟨h1, h2⟩ => ⟨h _ _ h1, h2.mono h⟩

/-- The value is a slice of n elements. -/
def SliceLen (v : Value) (n : Nat) : Prop := ∃ a c, v = .slice a n c ∧ (0 < n → a.isSome = true) ∧ n ≤ c

/-- The slice reads as these rows of cells. -/
structure Arr (w : World) (v : Value) (sz : Nat) (rows : List (List Value)) : Prop where
  len : SliceLen v rows.length
  row : ∀ (i : Nat) r p, rows[i]? = some r → ElemP v i sz p → CellsAt w p r 0

theorem SliceLen.elem {v : Value} {n : Nat} (h : SliceLen v n) (sz : Nat) (i : Int) (h0 : 0 ≤ i) (h1 : i < n) : ∃ p, ElemP v i sz p := by
  obtain ⟨a, c, rfl, hs, _⟩ := h
  obtain ⟨a, rfl⟩ := Option.isSome_iff_exists.1 (hs (by omega))
  exact ⟨_, a, n, c, rfl, h0, h1, rfl⟩

theorem Arr.at {α : Type} {w : World} {v : Value} {sz : Nat} {xs : List α} {enc : α → List Value} (d : α) (h : Arr w v sz (xs.map enc)) (i : Int) (h0 : 0 ≤ i) (h1 : i < xs.length) :
    ∃ p, ElemP v i sz p ∧ CellsAt w p (enc (xs.getD i.toNat d)) 0 := by
  obtain ⟨p, hp⟩ := h.len.elem sz i h0 (by simpa using h1)
  refine ⟨p, hp, h.row i.toNat _ p ?_ (by rwa [Int.toNat_of_nonneg h0])⟩
  have hlt : i.toNat < xs.length := by omega
  simp [List.getD_eq_getElem?_getD, List.getElem?_eq_getElem hlt]

/-- .. where the index may be out of range: of an index within it. -/
theorem Arr.atIf {α : Type} {w : World} {v : Value} {sz : Nat} {xs : List α} {enc : α → List Value} (d : α) (h : Arr w v sz (xs.map enc)) (i : Int) :
    ∃ p, (0 ≤ i → i < xs.length → ElemP v i sz p) ∧ (0 ≤ i → i < xs.length → CellsAt w p (enc (xs.getD i.toNat d)) 0) := by
  by_cases hc : 0 ≤ i ∧ i < xs.length
  · obtain ⟨p, h1, h2⟩ := h.at d i hc.1 hc.2
    exact ⟨p, fun _ _ => h1, fun _ _ => h2⟩
  · exact ⟨default, fun a b => absurd ⟨a, b⟩ hc, fun a b => absurd ⟨a, b⟩ hc⟩

theorem Arr.lenMap {α : Type} {w : World} {v : Value} {sz : Nat} {xs : List α} {enc : α → List Value} (h : Arr w v sz (xs.map enc)) : SliceLen v xs.length := by
  have := h.len
  rwa [List.length_map] at this

theorem Arr.mono {w w' : World} {v : Value} {sz : Nat} {rows : List (List Value)} (h : Arr w v sz rows) (hm : ∀ a u, w.cell? a = some u → w'.cell? a = some u) : Arr w' v sz rows :=
  ⟨h.len, fun i r p hr hp => (h.row i r p hr hp).mono hm⟩
theorem Arr.grow {w w' : World} {v : Value} {sz : Nat} {rows : List (List Value)} (h : Arr w v sz rows) (hg : Grow w w') : Arr w' v sz rows :=
  h.mono fun a u hu => by rw [hg.cell (World.block_lt_of_cell? w a hu)]; exact hu

theorem Arr.nil {w : World} {sz : Nat} : Arr w (.slice none 0 0) sz [] := ⟨⟨none, 0, rfl, by simp, Nat.le_refl _⟩, fun i r p hr => by simp at hr⟩

theorem Own.cells {w0 : World} {H : List Res} {p : Addr} {l : List Value} (h : CellsAt w0 p l 0) : ∀ w, Own noM w0 H w → CellsAt w p l 0 := fun w hw =>
  h.mono fun a v hv => Own.base hv w hw

theorem Own.cellsBlk {M : Nat → Prop} {w0 : World} {H : List Res} (k : Nat) {b : Nat} {cs : List Value} {T : TypeId} (hk : H[k]? = some (blk b cs T)) :
    ∀ w, Own M w0 H w → CellsAt w ⟨b, 0, none⟩ cs 0 := fun w hw => CellsAt.of fun j v hv => by
  have := Own.cell (w0 := w0) (H := H) k hk hv w hw
  rw [Nat.zero_add]
  unfold Addr.add
  split
  · subst_vars; exact this
  · simpa using this

/-- A part of a block's cells. -/
theorem CellsAt.sub {w : World} {q : Addr} {l : List Value} (off len : Nat) (h : CellsAt w q l 0) {r : List Value} (hr : (l.drop off).take len = r) : CellsAt w (q.add off) r 0 := CellsAt.of fun j v hv => by
  rw [Nat.zero_add, Addr.add_add]
  refine h.one (off + j) ?_
  rw [← hr, List.getElem?_take] at hv
  split at hv
  · simpa [List.getElem?_drop] using hv
  · cases hv

section
variable {P : Program} {n : Nat} {σ : Env} {M : Nat → Prop} {w0 : World} {H : List Res} {d : Option Tmp} {T U : TypeId} {pos : String} {after : Array Edge} {gd : Option (Nat × Bool)} {x y : Operand} {g g' : Bool} {v : Value} {C : World → Prop}
  {K : Act → World → Prop} {Q : Exit → Act → World → Prop}

theorem QV.lenS {m : Nat} {E : TypeId} (hT : P.underlying U = some (.slice E)) (hx : σ.ev x = some (g, v)) (hg : g = true) (hl : SliceLen v m) :
    QV P ⟨d, .call ⟨.builtin .len, #[x], #[U]⟩, T, pos, after, gd⟩ σ C (.int .i64 m) := by
  obtain ⟨a, c, rfl, _⟩ := hl
  exact QV.len hT hx hg

/-- A new block. -/
theorem EV.new {o : Oper} {dd : Nat} {cs : List Value} (hd : o.dst = some dd) (hn : dd < n)
    (hrun : ∀ a w, Has n a σ → Own M w0 H w → (execOp a.eval o).run P w = .ok (.value (.pointer (some ⟨w.heap.size, 0, none⟩))) (w.alloc (.cells cs.toArray T)))
    (k : ∀ b, WK n K ((dd, (true, .pointer (some ⟨b, 0, none⟩))) :: σ) (Own M w0 (blk b cs T :: H))) : EV P n o σ (Own M w0 H) K Q := fun a w ha hw => by
  refine .inl ?_
  unfold Oper.wp
  rw [hrun a w ha hw]
  show K (a.put o.dst _) _
  rw [hd]
  refine k w.heap.size _ _ (ha.put hn true _) (hw.push (w' := w.alloc (.cells cs.toArray T)) ?_ (blk w.heap.size cs T) ?_ ?_)
  · exact Grow.alloc _
  · exact heap_alloc_new w _
  · intro b hb
    subst hb
    simp

theorem EV.boxAgg {dd : Nat} {cs : List Value} (hn : dd < n) (hx : σ.ev x = some (g, .agg cs.toArray)) (hg : g = true)
    (k : ∀ b, WK n K ((dd, (true, .pointer (some ⟨b, 0, none⟩))) :: σ) (Own M w0 (blk b cs T :: H))) : EV P n ⟨some dd, .box T x, U, pos, after, gd⟩ σ (Own M w0 H) K Q :=
  EV.new rfl hn (fun a w ha hw => by simp [execOp, Instr.box, newVar, newRow, newObj, ha.ev hx hg, Sem.run, Value.cells]) k
theorem EV.box1 {dd : Nat} (hn : dd < n) (hx : σ.ev x = some (g, v)) (hg : g = true) (hv : v.cells = #[v])
    (k : ∀ b, WK n K ((dd, (true, .pointer (some ⟨b, 0, none⟩))) :: σ) (Own M w0 (blk b [v] T :: H))) : EV P n ⟨some dd, .box T x, U, pos, after, gd⟩ σ (Own M w0 H) K Q :=
  EV.new rfl hn (fun a w ha hw => by simp [execOp, Instr.box, newVar, newRow, newObj, ha.ev hx hg, Sem.run, hv]) k
theorem EV.alloc {dd : Nat} {cs : List Value} (hn : dd < n) (hz : ZeroT P T cs)
    (k : ∀ b, WK n K ((dd, (true, .pointer (some ⟨b, 0, none⟩))) :: σ) (Own M w0 (blk b cs T :: H))) : EV P n ⟨some dd, .alloc T, U, pos, after, gd⟩ σ (Own M w0 H) K Q := by
  obtain ⟨i, z, h1, h2, h3⟩ := hz.out
  exact EV.new rfl hn (fun a w ha hw => by simp [execOp, Instr.alloc, newVar, newRow, newObj, Sem.run, zeroValue, typeInfo, h1, h2, h3]) k

/-! ### Stores into a block of the call's own -/
def putL : List Value → Nat → List Value → List Value
  | l, _, [] => l
  | l, off, v :: r => putL (l.set off v) (off + 1) r

theorem putL_length : ∀ (r l : List Value) (off : Nat), (putL l off r).length = l.length
  | [], _, _ => rfl
  | v :: r, l, off => by unfold putL; rw [putL_length r]; simp

theorem setCell_blk {w : World} {b : Nat} {cs : List Value} {off : Nat} (h : w.heap[b]? = some (.cells cs.toArray T (0, 0))) : (w.setCell ⟨b, off, none⟩ v).heap[b]? = some (.cells (cs.set off v).toArray T (0, 0)) := by
  simp [World.setCell, Array.getElem?_modify, h]

theorem run_storeCells_blk {b : Nat} : ∀ (vs : List Value) (q : Addr) (i off : Nat) (cs : List Value) (w : World), w.heap[b]? = some (.cells cs.toArray T (0, 0)) → q.add i = ⟨b, off, none⟩ → off + vs.length ≤ cs.length →
    (∀ v ∈ vs, v.oneCell' = true) →
    ∃ w', (storeCells q vs i).run P w = .ok () w' ∧ w'.heap[b]? = some (.cells (putL cs off vs).toArray T (0, 0)) ∧ (∀ k, k ≠ b → w'.heap[k]? = w.heap[k]?) ∧ w'.heap.size = w.heap.size ∧ w'.os = w.os ∧ w'.tape = w.tape ∧ (w'.output = w.output ∧ w.drawn ≤ w'.drawn)
  | [], q, i, off, cs, w, h, _, _, _ => ⟨w, by simp [storeCells], h, fun _ _ => rfl, rfl, rfl, rfl, rfl, Nat.le_refl _⟩
  | v :: vs, q, i, off, cs, w, h, hq, hl, hc => by
    have hlt : off < cs.length := by simp only [List.length_cons] at hl; omega
    have hcell : w.cell? ⟨b, off, none⟩ = some cs[off] := by simp [World.cell?, h, hlt]
    have hfr : w.frozen? ⟨b, off, none⟩ = false := by simp [World.frozen?, h]
    have hq' : q.add (i + 1) = ⟨b, off + 1, none⟩ := by rw [← Addr.add_add, hq]; simp [Addr.add]
    obtain ⟨w', h1, h2, h3, h4, h5, h6, h7⟩ := run_storeCells_blk vs q (i + 1) (off + 1) (cs.set off v) (w.setCell ⟨b, off, none⟩ v) (setCell_blk h) hq'
      (by simp only [List.length_cons, List.length_set] at hl ⊢; omega) (fun u hu => hc u (List.mem_cons_of_mem _ hu))
    have hst : (store ⟨b, off, none⟩ v).run P w = .ok () (w.setCell ⟨b, off, none⟩ v) := by
      have := hc v (List.mem_cons_self ..)
      cases v <;> simp_all [store, Sem.run, Value.oneCell']
    refine ⟨w', ?_, h2, fun k hk => (h3 k hk).trans (Below.heap_setCell _ _ _ _ hk), by simpa using h4, by simpa [World.setCell] using h5, by simpa [World.setCell] using h6, by simpa [World.setCell] using h7⟩
    simp [storeCells, hq, hst, h1]

/-- A store into block number k of the call's own. -/
theorem EV.store (k : Nat) {b off : Nat} {q : Addr} {cs vs : List Value} {E : TypeId} (hx : σ.ev x = some (g, .pointer (some q))) (hg : g = true) (hy : σ.ev y = some (g', v)) (hg' : g' = true)
    (hk : H[k]? = some (blk b cs E)) (hq : q = ⟨b, off, none⟩) (hv : v.cells = vs.toArray) (hs : SizeT P T vs.length) (hl : off + vs.length ≤ cs.length) (ho : ∀ u ∈ vs, u.oneCell' = true)
    (kk : WK n K σ (Own M w0 (H.set k (blk b (putL cs off vs) E)))) : EV P n ⟨none, .store T x y, U, pos, after, gd⟩ σ (Own M w0 H) K Q := fun a w ha hw => by
  refine .inl ?_
  subst hq
  have hb : w.heap[b]? = some (.cells cs.toArray E (0, 0)) := hw.at k hk
  obtain ⟨w', h1, h2, h3, h4, h5, h6, h7⟩ := run_storeCells_blk (P := P) vs ⟨b, off, none⟩ 0 off cs w hb (by simp [Addr.add]) hl ho
  obtain ⟨inf, hi, hsz⟩ := Option.map_eq_some_iff.1 hs
  have hrun : (execOp a.eval ⟨none, .store T x y, U, pos, after, gd⟩).run P w = .ok .skip w' := by
    simp [execOp, ha.ev hx hg, ha.ev hy hg', Instr.storeAt, Instr.sureAddr, storeVar, hv, sizeOf, typeInfo, hi, hsz, h1]
  unfold Oper.wp
  rw [hrun]
  show K (a.put none undef) w'
  refine kk a w' ha (hw.upd k hk h5 h6 h7 (by omega) (fun c hc hne => h3 c hne) h2 fun c hc => ?_)
  have : c = b := hc
  subst this
  have hlt : c < w.heap.size := (Array.getElem?_eq_some_iff.1 hb).1
  exact ⟨.inl rfl, by omega⟩
end
end Go.Rd
