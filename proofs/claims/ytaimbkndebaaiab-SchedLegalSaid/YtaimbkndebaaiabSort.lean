/- Slices of the call's own, sorted by the library: from its worlds to ours. -/
import Derived.Test.YtaimbkndebaaiabSlc
import Derived.Shelf.SlSortCmp.NoneTotal
namespace Go.Rd
open Go.RowKit Go.Sort Go.Shelf Go.Lib Go.Proofs
set_option linter.unusedVariables false
set_option linter.unusedSimpArgs false
section
variable {α : Type} [Inhabited α] {enc : α → List Value} {k : Nat}
theorem flatK_list (hk : ∀ x, (enc x).length = k) (h0 : 0 < k) (xs : List α) : (flatK enc k xs.toArray).toList = (xs.map enc).flatten := by
  apply List.ext_getElem?
  intro j
  have hall : ∀ r ∈ xs.map enc, r.length = k := fun r hr => by obtain ⟨u, _, rfl⟩ := List.mem_map.1 hr; exact hk u
  have hfl := flatten_len hall
  rw [List.length_map] at hfl
  by_cases hj : j < xs.length * k
  · have hq : j / k < xs.length := Nat.div_lt_of_lt_mul (by rwa [Nat.mul_comm] at hj)
    have hmod : j % k < k := Nat.mod_lt _ h0
    have hd := drop_flatten (sz := k) (rows := xs.map enc) (i := j / k) (r := enc xs[j / k]) hall (by simp [hq])
    have e1 : (xs.map enc).flatten[j]? = (enc xs[j / k])[j % k]? := by
      have : (enc xs[j / k])[j % k]? = (((xs.map enc).flatten.drop (j / k * k)).take (enc xs[j / k]).length)[j % k]? := by rw [hd]
      rw [this, List.getElem?_take, hk, if_pos hmod, List.getElem?_drop, Nat.mul_comm, Nat.div_add_mod]
    have hlt : j % k < (enc xs[j / k]).length := by rw [hk]; exact hmod
    rw [e1, List.getElem?_eq_getElem hlt]
    simp [flatK, hj, hq, hlt]
  · rw [List.getElem?_eq_none (by rw [Array.length_toList, size_flatK, List.size_toArray]; omega), List.getElem?_eq_none (by rw [hfl]; omega)]
variable {M : Nat → Prop} {w w0 : World} {H : List Res} {E : TypeId} {b n cap : Nat} {xs ys : List α}
theorem vec_holdsK (hk : ∀ x, (enc x).length = k) (h0 : 0 < k) (h : (vec (.slice (some ⟨b, 0, none⟩) n cap) E k (xs.map enc)).holds w) : HoldsK enc k w b 0 xs.toArray ∧ n = xs.length ∧ b < w.heap.size := by
  obtain ⟨⟨h1, h2⟩, h3⟩ := h
  rcases h2 with ⟨h, _⟩ | ⟨g, cap', cur, hv, _, hh, hnc, _, hcs, ht⟩
  · cases h
  · simp only [Value.slice.injEq, Option.some.injEq, Addr.mk.injEq, List.length_map] at hv
    obtain ⟨⟨rfl, _⟩, rfl, rfl⟩ := hv
    refine ⟨fun j hj => ?_, rfl, (Array.getElem?_eq_some_iff.1 hh).1⟩
    rw [size_flatK, List.size_toArray] at hj
    rw [List.length_map] at hnc ht
    have hlt : j < cur.size := by rw [hcs]; exact Nat.lt_of_lt_of_le hj (Nat.mul_le_mul_right _ hnc)
    have hl := flatK_list hk h0 xs
    have hget : cur[j]? = some (id (flatK enc k xs.toArray)[j]!) := by
      have h1 : (flatK enc k xs.toArray)[j]? = some (flatK enc k xs.toArray)[j]! := by
        have : j < (flatK enc k xs.toArray).size := by simpa using hj
        rw [getElem!_pos (flatK enc k xs.toArray) j this, Array.getElem?_eq_getElem this]
      have h2 : (flatK enc k xs.toArray).toList[j]? = cur.toList[j]? := by
        rw [hl, ← ht, List.getElem?_take, if_pos hj]
      rw [Array.getElem?_toList, Array.getElem?_toList] at h2
      rw [← h2, h1]; rfl
    rw [Nat.zero_add]
    refine ⟨?_, by simp [World.frozen?, hh]⟩
    simp only [World.cell?, hh]
    exact hget
theorem onCells_cells {f : Array Value → Array Value} {c : Array Value} {t : TypeId} {fr : Nat × Nat} : onCells f (.cells c t fr) = .cells (f c) t fr := rfl
theorem sortedK_facts {m : Nat} {os : Array Obj} : ((sortWorldK enc k w b 0 m ys.toArray os).os = w.os ∧ (sortWorldK enc k w b 0 m ys.toArray os).tape = w.tape ∧ ((sortWorldK enc k w b 0 m ys.toArray os).output = w.output ∧ w.drawn ≤ (sortWorldK enc k w b 0 m ys.toArray os).drawn) ∧ w.heap.size ≤ (sortWorldK enc k w b 0 m ys.toArray os).heap.size) ∧
    (∀ j, j < w.heap.size → j ≠ b → (sortWorldK enc k w b 0 m ys.toArray os).heap[j]? = w.heap[j]?) ∧
    (∀ cur t, w.heap[b]? = some (.cells cur t (0, 0)) → (sortWorldK enc k w b 0 m ys.toArray os).heap[b]? = some (.cells (putCells id 0 (flatK enc k ys.toArray) cur) t (0, 0))) := by
  refine ⟨⟨rfl, rfl, ⟨rfl, Nat.le_add_right _ _⟩, ?_⟩, fun j hj hne => ?_, fun cur t hc => ?_⟩
  · show w.heap.size ≤ (w.heap.modify b _ ++ os).size
    simp
  · show (w.heap.modify b (onCells (putCells id 0 (flatK enc k ys.toArray))) ++ os)[j]? = _
    rw [Array.getElem?_append_left (by simpa using hj), Array.getElem?_modify, if_neg (Ne.symm hne)]
  · have hj := (Array.getElem?_eq_some_iff.1 hc).1
    show (w.heap.modify b (onCells (putCells id 0 (flatK enc k ys.toArray))) ++ os)[b]? = _
    rw [Array.getElem?_append_left (by simpa using hj), Array.getElem?_modify, if_pos rfl, hc]
    rfl
theorem vec_sorted (hk : ∀ x, (enc x).length = k) (h0 : 0 < k) (h : (vec (.slice (some ⟨b, 0, none⟩) n cap) E k (xs.map enc)).holds w) (hl : ys.length = xs.length) (m : Nat) (os : Array Obj) :
    (vec (.slice (some ⟨b, 0, none⟩) n cap) E k (ys.map enc)).holds (sortWorldK enc k w b 0 m ys.toArray os) := by
  obtain ⟨⟨h1, h2⟩, h3⟩ := h
  rcases h2 with ⟨h, _⟩ | ⟨g, cap', cur, hv, hg0, hh, hnc, hcm, hcs, ht⟩
  · cases h
  · simp only [Value.slice.injEq, Option.some.injEq, Addr.mk.injEq] at hv
    obtain ⟨⟨rfl, _⟩, rfl, rfl⟩ := hv
    have hall : ∀ r ∈ ys.map enc, r.length = k := fun r hr => by obtain ⟨u, _, rfl⟩ := List.mem_map.1 hr; exact hk u
    have hfl := flatten_len hall
    have hb := (sortedK_facts (enc := enc) (k := k) (w := w) (b := b) (ys := ys) (m := m) (os := os)).2.2 cur E hh
    have hlm : (ys.map enc).length = (xs.map enc).length := by simp [hl]
    refine ⟨⟨hfl, .inr ⟨b, cap, putCells id 0 (flatK enc k ys.toArray) cur, by rw [hlm], hg0, hb, by rw [hlm]; exact hnc, hcm, by simp [putCells, hcs], ?_⟩⟩, hall⟩
    rw [← flatK_list hk h0 ys]
    apply List.ext_getElem?
    intro j
    rw [List.getElem?_take]
    have hs : (flatK enc k ys.toArray).size = (ys.map enc).length * k := by simp
    by_cases hj : j < (ys.map enc).length * k
    · have hlt : j < cur.size := by rw [hcs]; rw [hlm] at hj; exact Nat.lt_of_lt_of_le hj (Nat.mul_le_mul_right _ hnc)
      have hjf : j < (flatK enc k ys.toArray).size := by rw [hs]; exact hj
      rw [if_pos hj, Array.getElem?_toList, Array.getElem?_toList]
      rw [Array.getElem?_eq_getElem hjf]
      have hj' : j < ys.length * k := by rw [List.length_map] at hj; exact hj
      simp [putCells, hlt, hj']
    · rw [if_neg hj, List.getElem?_eq_none (by rw [Array.length_toList, hs]; omega)]
/-- Behind a sort. -/
theorem Own.sorted {K0 : World} (hb : Base M K0 w) (hk : ∀ x, (enc x).length = k) (h0 : 0 < k) (hw : Own M w [vec (.slice (some ⟨b, 0, none⟩) n cap) E k (xs.map enc)] w) (hl : ys.length = xs.length) (m : Nat) (os : Array Obj) :
    Own M w (kn M w.heap.size K0 K0 :: [vec (.slice (some ⟨b, 0, none⟩) n cap) E k (ys.map enc)]) (sortWorldK enc k w b 0 m ys.toArray os) := by
  have hs := Own.startK hb hw
  obtain ⟨⟨f1, f2, f3, f4⟩, f5, f6⟩ := sortedK_facts (enc := enc) (k := k) (w := w) (b := b) (ys := ys) (m := m) (os := os)
  refine hs.upd 1 rfl f1 f2 f3 f4 (fun j hj hn => f5 j hj fun e => hn (by subst e; exact ⟨_, _, rfl⟩)) (vec_sorted hk h0 hw.head hl m os) fun j hj => ?_
  refine ⟨.inl hj, ?_⟩
  obtain ⟨n2, c2, he⟩ := hj
  simp only [Value.slice.injEq, Option.some.injEq, Addr.mk.injEq] at he
  obtain ⟨⟨rfl, _⟩, _⟩ := he
  have := (vec_holdsK hk h0 hw.head).2.2
  omega
/-- What has only grown is what the sort's premise asks. -/
theorem grow_of {w w' : World} (h : Grow w w') : ∃ q os', w' = grow (w.drewN q) os' := by
  obtain ⟨h1, h2, ⟨h3, h4⟩, h5, h6⟩ := h
  refine ⟨w'.drawn - w.drawn, w'.heap.extract w.heap.size w'.heap.size, ?_⟩
  cases w'
  simp only [grow, World.drewN] at *
  subst h1 h2 h3
  congr 1
  · apply Array.ext_getElem?
    intro j
    by_cases hj : j < w.heap.size
    · rw [Array.getElem?_append_left hj]; exact h6 j hj
    · rw [Array.getElem?_append_right (by omega), Array.getElem?_extract]
      split
      · congr 1; omega
      · rw [Array.getElem?_eq_none (by omega)]
  · omega
end
end Go.Rd
