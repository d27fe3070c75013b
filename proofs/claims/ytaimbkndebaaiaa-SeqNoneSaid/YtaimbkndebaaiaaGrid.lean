/- Slices of the call's own that are changed in place; slices of such slices; blocks by their data. -/
import Derived.Test.YtaimbkndebaaiaaData
import Derived.Laws.OwnMore
namespace Go.Rd
open Go.RowKit
set_option linter.unusedVariables false
set_option linter.unusedSimpArgs false

/-! ### Stores into a slice of one-cell elements -/
theorem flatten_one {α : Type} {c : α → Value} {enc : α → List Value} (he : ∀ u, enc u = [c u]) : ∀ xs : List α, (xs.map enc).flatten = xs.map c
  | [] => rfl
  | x :: xs => by simp [he, flatten_one he xs]
theorem map_upd {α β : Type} {f : α → β} {xs : List α} {i : Int} {z : α} : (upd xs i z).map f = (xs.map f).set i.toNat (f z) := by unfold upd; rw [List.map_set]
theorem upd_length {α : Type} {xs : List α} {i : Int} {z : α} : (upd xs i z).length = xs.length := by simp [upd]
theorem elemP_lit {b n c : Nat} {i : Int} {p : Addr} (h : ElemP (.slice (some ⟨b, 0, none⟩) n c) i 1 p) : p = ⟨b, i.toNat, none⟩ := by
  obtain ⟨a, n', c', he, h0, h1, rfl⟩ := h
  simp only [Value.slice.injEq, Option.some.injEq] at he
  obtain ⟨rfl, _, _⟩ := he
  rw [Addr.add_lit]; simp
theorem run_store_one {P : Program} {w : World} {p : Addr} {v u : Value} (h : w.cell? p = some v) (hf : w.frozen? p = false) (h1 : u.oneCell' = true) : (store p u).run P w = .ok () (w.setCell p u) := by
  cases u <;> simp_all [store, Sem.run, Value.oneCell']
theorem vec_set1 {P : Program} {α : Type} {c : α → Value} {enc : α → List Value} (he : ∀ u, enc u = [c u]) {w : World} {v : Value} {E : TypeId} {xs : List α} {i : Int} {p : Addr} {z : α} (h : (vec v E 1 (xs.map enc)).holds w) (hp : ElemP v i 1 p) (h1 : (c z).oneCell' = true) :
    ∃ b, (∃ n k, v = .slice (some ⟨b, 0, none⟩) n k) ∧ p = ⟨b, i.toNat, none⟩ ∧ (store p (c z)).run P w = .ok () (w.setCell p (c z)) ∧ (vec v E 1 ((upd xs i z).map enc)).holds (w.setCell p (c z)) ∧
      (∀ j, j ≠ b → (w.setCell p (c z)).heap[j]? = w.heap[j]?) := by
  obtain ⟨ho, hl⟩ := h
  rcases ho.2 with ⟨rfl, _⟩ | ⟨b, cap, cur, rfl, hb, hh, hnc, hcm, hcs, ht⟩
  · obtain ⟨a, n, c', he', _⟩ := hp; simp at he'
  · have hpe := elemP_lit hp
    subst hpe
    obtain ⟨a, n', c', he', h0, hi, _⟩ := hp
    simp only [Value.slice.injEq, Option.some.injEq] at he'
    obtain ⟨_, rfl, rfl⟩ := he'
    have hsz : i.toNat < cur.size := by rw [hcs]; omega
    have hcell : w.cell? ⟨b, i.toNat, none⟩ = some cur[i.toNat] := by simp [World.cell?, hh, hsz]
    have hfr : w.frozen? ⟨b, i.toNat, none⟩ = false := by simp [World.frozen?, hh]
    obtain ⟨hst, hg⟩ := World.ownsRow.stored ho i.toNat (c z)
    refine ⟨b, ⟨_, _, rfl⟩, rfl, run_store_one hcell hfr h1, ⟨?_, ?_⟩, fun j hj => Below.heap_setCell _ _ _ _ hj⟩
    · rw [flatten_one he] at hst ⊢
      rw [map_upd (f := c)]
      simpa [upd_length] using hst
    · intro r hr
      obtain ⟨u, _, rfl⟩ := List.mem_map.1 hr
      simp [he]

section
variable {P : Program} {n : Nat} {σ : Env} {M : Nat → Prop} {w0 : World} {H : List Res} {d : Option Tmp} {T U E E2 S T2 : TypeId} {pos : String} {after : Array Edge} {gd : Option (Nat × Bool)} {x y : Operand} {g g' : Bool} {v : Value}
  {K : Act → World → Prop} {Q : Exit → Act → World → Prop}

theorem EV.storeV {α : Type} {c : α → Value} {enc : α → List Value} (k : Nat) (z : α) {xs : List α} {i : Int} {p : Addr} (he : ∀ u, enc u = [c u]) (hx : σ.ev x = some (g, .pointer (some p))) (hg : g = true) (hy : σ.ev y = some (g', c z)) (hg' : g' = true)
    (hk : H[k]? = some (vec v E 1 (xs.map enc))) (hp : ElemP v i 1 p) (h1 : (c z).oneCell' = true) (hv : (c z).cells = [c z].toArray) (hs : SizeT P T 1)
    (kk : WK n K σ (Own M w0 (H.set k (vec v E 1 ((upd xs i z).map enc))))) : EV P n ⟨none, .store T x y, U, pos, after, gd⟩ σ (Own M w0 H) K Q := fun a w ha hw => by
  refine .inl ?_
  obtain ⟨b, ⟨n1, k1, rfl⟩, rfl, h3, h4, h5⟩ := vec_set1 (P := P) he (z := z) (hw.at k hk) hp h1
  obtain ⟨inf, hi, hsz⟩ := Option.map_eq_some_iff.1 hs
  have hrun : (execOp a.eval ⟨none, .store T x y, U, pos, after, gd⟩).run P w = .ok .skip (w.setCell ⟨b, i.toNat, none⟩ (c z)) := by
    simp [execOp, ha.ev hx hg, ha.ev hy hg', Instr.storeAt, Instr.sureAddr, storeVar, hv, sizeOf, typeInfo, hi, hsz, storeCells, h3, Addr.add]
  unfold Oper.wp
  rw [hrun]
  show K (a.put none undef) _
  have hlt : b < w.heap.size := vec_foot_lt (hw.at k hk) b ⟨_, _, rfl⟩
  refine kk a _ ha (hw.upd k hk rfl rfl ⟨rfl, Nat.le_refl _⟩ (by simp [World.setCell]) (fun c hc hne => h5 c fun e => hne (by subst e; exact ⟨_, _, rfl⟩)) h4 fun c hc => ?_)
  obtain ⟨n2, k2, he2⟩ := hc
  simp only [Value.slice.injEq, Option.some.injEq, Addr.mk.injEq] at he2
  obtain ⟨⟨rfl, _⟩, _⟩ := he2
  exact ⟨.inl ⟨_, _, rfl⟩, by simpa [World.setCell] using hlt⟩

/-! ### make -/
theorem EV.makeSlice {α : Type} {enc : α → List Value} (z : α) {dd sz bytes : Nat} {m : Int} (hn : dd < n) (hV : VecT P T E sz bytes) (hz : ZeroT P E (enc z)) (hx : σ.ev x = some (g, .int .i64 m)) (hg : g = true) (h0 : 0 ≤ m) (hl : (enc z).length = sz) (hA : AL m.toNat bytes)
    (kk : ∀ u, SliceLen u (List.replicate m.toNat z).length → WK n K ((dd, (true, u)) :: σ) (Own M w0 (vec u E sz ((List.replicate m.toNat z).map enc) :: H))) : EV P n ⟨some dd, .makeSlice T x x, U, pos, after, gd⟩ σ (Own M w0 H) K Q := fun a w ha hw => by
  refine .inl ?_
  obtain ⟨hU, hi, hsz⟩ := hV
  obtain ⟨i, hi, hq⟩ := Option.map_eq_some_iff.1 hi
  simp only [Prod.mk.injEq] at hq
  obtain ⟨hzq, his, hib⟩ := hq
  obtain ⟨i', zv, h1, h2, h3⟩ := hz.out
  have : i' = i := by rw [hi] at h1; cases h1; rfl
  subst this
  have hm : (m.toNat : Int) = m := Int.toNat_of_nonneg h0
  obtain ⟨w', hr, ho, hgr⟩ := run_make_full (P := P) w w.heap.size T E i' zv sz hU hi h2 his .i64 .i64 m.toNat (by rw [hib]; have := hA.2; rw [Nat.mul_comm]; omega) hA.1 (Nat.le_refl _)
  rw [hm] at hr
  have hrun : (execOp a.eval ⟨some dd, .makeSlice T x x, U, pos, after, gd⟩).run P w = .ok (.value (.slice (some ⟨w.heap.size, 0, none⟩) m.toNat m.toNat)) w' := by
    simp [execOp, ha.ev hx hg, hr, Result.andThen]
  unfold Oper.wp
  rw [hrun]
  show K (a.put (some dd) _) _
  have hrep : (madeCells zv.cells (m.toNat * sz)).toList = ((List.replicate m.toNat z).map enc).flatten := by
    rw [h3]
    apply List.ext_getElem?
    intro j
    have hfl : ((List.replicate m.toNat z).map enc).flatten.length = m.toNat * sz := by
      rw [flatten_len (sz := sz) (by intro r hr; obtain ⟨u, hu, rfl⟩ := List.mem_map.1 hr; rw [List.mem_replicate] at hu; rw [hu.2, hl])]; simp
    by_cases hj : j < m.toNat * sz
    · have hq : j / sz < m.toNat := Nat.div_lt_of_lt_mul (by rwa [Nat.mul_comm] at hj)
      have hd := drop_flatten (sz := sz) (rows := (List.replicate m.toNat z).map enc) (i := j / sz) (r := enc z) (by intro r hr; obtain ⟨u, hu, rfl⟩ := List.mem_map.1 hr; rw [List.mem_replicate] at hu; rw [hu.2, hl]) (by simp [hq])
      have hmod : j % sz < sz := Nat.mod_lt _ hsz
      have e1 : ((List.replicate m.toNat z).map enc).flatten[j]? = (enc z)[j % sz]? := by
        have : (enc z)[j % sz]? = ((((List.replicate m.toNat z).map enc).flatten.drop (j / sz * sz)).take (enc z).length)[j % sz]? := by rw [hd]
        rw [this, List.getElem?_take, hl, if_pos hmod, List.getElem?_drop, Nat.mul_comm, Nat.div_add_mod]
      rw [e1]
      have hlt : j % sz < (enc z).length := by rw [hl]; exact hmod
      simp [madeCells, hj, hl, List.getElem?_eq_getElem hlt]
    · have hj' := Nat.le_of_not_lt hj
      rw [List.getElem?_eq_none (by rw [Array.length_toList, size_madeCells]; exact hj'), List.getElem?_eq_none (by rw [hfl]; exact hj')]
  have hholds : (vec (.slice (some ⟨w.heap.size, 0, none⟩) m.toNat m.toNat) E sz ((List.replicate m.toNat z).map enc)).holds w' := by
    refine ⟨?_, fun r hr => ?_⟩
    · rw [← hrep]
      have : ((List.replicate m.toNat z).map enc).length = m.toNat := by simp
      rw [this]
      refine ⟨ho.1, ?_⟩
      rcases ho.2 with h | ⟨g2, c2, cur, q1, q2, q3⟩
      · exact .inl h
      · exact .inr ⟨g2, c2, cur, q1, Nat.zero_le _, q3⟩
    · obtain ⟨u, hu, rfl⟩ := List.mem_map.1 hr
      rw [List.mem_replicate] at hu; rw [hu.2, hl]
  have hgrow : Grow w w' := ⟨hgr.os, hgr.tape, ⟨hgr.output, run_drawn _ _ hr⟩, hgr.size, fun b hb => hgr.block b hb (by simp)⟩
  refine kk _ ?_ _ _ (ha.put hn true _) (hw.push hgrow _ hholds fun b hb => ?_)
  · exact ⟨some ⟨w.heap.size, 0, none⟩, m.toNat, by simp, fun _ => rfl, by simp⟩
  · have hlt := vec_foot_lt hholds b hb
    obtain ⟨n2, k2, he2⟩ := hb
    simp only [Value.slice.injEq, Option.some.injEq, Addr.mk.injEq] at he2
    obtain ⟨⟨rfl, _⟩, _⟩ := he2
    exact ⟨Nat.le_refl _, hlt⟩
end
theorem icell_eq : ∀ u : Int, icell u = [i64v u] := fun _ => rfl
theorem bcell_eq : ∀ u : UInt8, bcell u = [(fun b : UInt8 => Value.int .u8 (b.toNat : Int)) u] := fun _ => rfl
end Go.Rd
