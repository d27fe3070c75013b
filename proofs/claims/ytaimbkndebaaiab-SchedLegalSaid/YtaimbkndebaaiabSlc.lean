/- Parts of slices of the call's own. -/
import Derived.Test.YtaimbkndebaaiabOp2
namespace Go.Rd
open Go.RowKit
set_option linter.unusedVariables false
set_option linter.unusedSimpArgs false
theorem sub_len {α : Type} {xs : List α} {i j : Int} (h : SX i j (ln xs)) : (sub xs i j).length = (j - i).toNat := by
  obtain ⟨h1, h2, h3⟩ := h
  unfold sub ln at *
  rw [List.length_take, List.length_drop]; omega
theorem subS_slen {α : Type} {xs : List α} {v : Value} {sz : Nat} {i j : Int} (hv : SliceLen v xs.length) (h : SX i j (ln xs)) : SliceLen (subS v sz i.toNat j.toNat) (sub xs i j).length := by
  rw [sub_len h]
  obtain ⟨h1, h2, h3⟩ := h
  unfold ln at h3
  have := subS_len (sz := sz) hv (l := i.toNat) (h := j.toNat) (by omega) (by omega)
  rwa [show (j - i).toNat = j.toNat - i.toNat from by omega]
section
variable {P : Program} {n : Nat} {σ : Env} {M : Nat → Prop} {w0 : World} {H : List Res} {d : Option Tmp} {T U E : TypeId} {pos : String} {after : Array Edge} {gd : Option (Nat × Bool)} {x y : Operand} {g g' : Bool} {v : Value}
  {K : Act → World → Prop} {Q : Exit → Act → World → Prop}
theorem zero_cells {α : Type} {enc : α → List Value} {z : α} {sz m : Nat} (hl : (enc z).length = sz) (h0 : 0 < sz) : (Builtin.zeroCells (enc z).toArray m).toList = ((List.replicate m z).map enc).flatten := by
  apply List.ext_getElem?
  intro j
  have hall : ∀ r ∈ (List.replicate m z).map enc, r.length = sz := by intro r hr; obtain ⟨u, hu, rfl⟩ := List.mem_map.1 hr; rw [List.mem_replicate] at hu; rw [hu.2, hl]
  have hfl : ((List.replicate m z).map enc).flatten.length = m * sz := by rw [flatten_len hall]; simp
  have hs : (enc z).toArray.size = sz := by simpa using hl
  by_cases hj : j < m * sz
  · have hq : j / sz < m := Nat.div_lt_of_lt_mul (by rwa [Nat.mul_comm] at hj)
    have hd := drop_flatten (sz := sz) (rows := (List.replicate m z).map enc) (i := j / sz) (r := enc z) hall (by simp [hq])
    have hmod : j % sz < sz := Nat.mod_lt _ h0
    have e1 : ((List.replicate m z).map enc).flatten[j]? = (enc z)[j % sz]? := by
      have : (enc z)[j % sz]? = ((((List.replicate m z).map enc).flatten.drop (j / sz * sz)).take (enc z).length)[j % sz]? := by rw [hd]
      rw [this, List.getElem?_take, hl, if_pos hmod, List.getElem?_drop, Nat.mul_comm, Nat.div_add_mod]
    rw [e1]
    have hlt : j % sz < (enc z).length := by rw [hl]; exact hmod
    simp [Builtin.zeroCells, hj, hl, List.getElem?_eq_getElem hlt]
  · have hj' := Nat.le_of_not_lt hj
    rw [List.getElem?_eq_none (by rw [Array.length_toList, size_zeroCells, hs]; exact hj'), List.getElem?_eq_none (by rw [hfl]; exact hj')]
/-- What stands from i on is cleared. -/
def clr {α : Type} (xs : List α) (i : Int) (z : α) : List α := xs.take i.toNat ++ List.replicate (xs.length - i.toNat) z
theorem addr_zero (p : Addr) : p = p.add 0 := (by cases p; simp [Addr.add])
theorem clr_len {α : Type} {xs : List α} {i : Int} {z : α} (h : i ≤ ln xs) : (clr xs i z).length = xs.length := by
  unfold clr ln at *
  rw [List.length_append, List.length_take, List.length_replicate]; omega
theorem putL_all : ∀ (vs a : List Value) (off : Nat), off + vs.length = a.length → putL a off vs = a.take off ++ vs
  | [], a, off, h => by simp only [List.length_nil, Nat.add_zero] at h; subst h; simp [putL]
  | v :: vs, a, off, h => by
    simp only [List.length_cons] at h
    unfold putL
    rw [putL_all vs (a.set off v) (off + 1) (by simp; omega)]
    have : (a.set off v).take (off + 1) = a.take off ++ [v] := by
      rw [List.take_add_one, List.take_set_of_le (Nat.le_refl _), List.getElem?_set_self (by omega)]; rfl
    rw [this, List.append_assoc]; rfl
theorem flatten_take {sz : Nat} : ∀ {rows : List (List Value)} (i : Nat), (∀ r ∈ rows, r.length = sz) → (rows.take i).flatten = rows.flatten.take (i * sz)
  | [], i, _ => by simp
  | r :: rows, 0, _ => by simp
  | r :: rows, i + 1, h => by
    have h1 := h r (by simp)
    rw [List.take_succ_cons, List.flatten_cons, List.flatten_cons, flatten_take i (fun q hq => h q (by simp [hq])), show (i + 1) * sz = r.length + i * sz from by rw [h1, Nat.succ_mul]; omega, List.take_length_add_append]
theorem EV.clear {α : Type} {enc : α → List Value} {sz : Nat} (k : Nat) (z : α) {xs : List α} {lo hi : Int} (hT : SliceT P U E sz) (hz : ZeroT P E (enc z)) (hlen : ∀ u, (enc u).length = sz) (h0 : 0 < sz) (h1 : ∀ c ∈ enc z, c.oneCell' = true)
    (hx : σ.ev x = some (g, subS v sz lo.toNat hi.toNat)) (hg : g = true) (hk : H[k]? = some (vec v E sz (xs.map enc))) (hS : SX lo hi (ln xs)) (hh : hi = ln xs) {dd : Nat} (hd : d = some dd ∧ dd < n ∨ d = none)
    (kk : WK n K σ (Own M w0 (H.set k (vec v E sz ((clr xs lo z).map enc))))) (kd : ∀ dd, d = some dd → WK n K ((dd, (true, .tuple #[])) :: σ) (Own M w0 (H.set k (vec v E sz ((clr xs lo z).map enc))))) :
    EV P n ⟨d, .call ⟨.builtin .clear, #[x], #[U]⟩, T, pos, after, gd⟩ σ (Own M w0 H) K Q := fun a w ha hw => by
  refine .inl ?_
  obtain ⟨s1, s2, s3⟩ := hS
  subst hh
  obtain ⟨⟨q1, q2⟩, q3⟩ := hw.at k hk
  obtain ⟨hU, hSz⟩ := hT
  obtain ⟨inf, zv, z1, z2, z3⟩ := hz.out
  have hrl : (xs.map enc).length = xs.length := List.length_map _
  have hhi : (ln xs).toNat = xs.length := by unfold ln; omega
  have hend : ∀ w', (vec v E sz ((clr xs lo z).map enc)).holds w' → Own M w0 (H.set k (vec v E sz ((clr xs lo z).map enc))) w' → K (a.put d (.tuple #[])) w' := fun w' _ ho => by
    cases d with
    | none => exact kk a w' ha ho
    | some dd' =>
      rcases hd with ⟨hd1, hd2⟩ | hd
      · cases hd1; exact kd _ rfl _ w' (ha.put hd2 true _) ho
      · cases hd
  rcases q2 with ⟨rfl, hl0⟩ | ⟨b, cap, cur, rfl, hb, hh, hnc, hcm, hcs, ht⟩
  · have hx0 : xs = [] := List.length_eq_zero_iff.1 (by rw [← hrl]; exact hl0)
    subst hx0
    have hl0 : lo = 0 := by unfold ln at s3; simp at s3; omega
    subst hl0
    have hrun : (execOp a.eval ⟨d, .call ⟨.builtin .clear, #[x], #[U]⟩, T, pos, after, gd⟩).run P w = .ok (.value (.tuple #[])) w := by
      simp [execOp, resolve, invoke, builtin, ha.ev hx hg, Builtin.clear_, run_underlying hU, subS, ln, Result.andThen]
    unfold Oper.wp
    rw [hrun]
    have e : clr ([] : List α) 0 z = [] := rfl
    have es : H.set k (vec (.slice none 0 0) E sz (([] : List α).map enc)) = H := by
      apply List.ext_getElem?
      intro j
      rw [List.getElem?_set]
      split
      · rename_i hj; subst hj
        split
        · exact hk.symm
        · rw [List.getElem?_eq_none (by omega)] at hk; cases hk
      · rfl
    have hown : Own M w0 (H.set k (vec (.slice none 0 0) E sz ((clr ([] : List α) 0 z).map enc))) w := by rw [e, es]; exact hw
    exact hend w (hown.at k (by rw [List.getElem?_set_self (List.getElem?_eq_some_iff.1 hk).1])) hown
  · by_cases hm : xs.length - lo.toNat = 0
    · have e : clr xs lo z = xs := by unfold clr; rw [hm, List.replicate_zero, List.append_nil, List.take_of_length_le (by omega)]
      have es : H.set k (vec (.slice (some ⟨b, 0, none⟩) (xs.map enc).length cap) E sz (xs.map enc)) = H := by
        apply List.ext_getElem?
        intro j
        rw [List.getElem?_set]
        split
        · rename_i hj; subst hj
          split
          · exact hk.symm
          · rw [List.getElem?_eq_none (by omega)] at hk; cases hk
        · rfl
      have hrun : (execOp a.eval ⟨d, .call ⟨.builtin .clear, #[x], #[U]⟩, T, pos, after, gd⟩).run P w = .ok (.value (.tuple #[])) w := by
        have ex := ha.ev hx hg
        simp only [subS, hhi, hm] at ex
        split at ex <;> simp [execOp, resolve, invoke, builtin, ex, Builtin.clear_, run_underlying hU, Result.andThen]
      unfold Oper.wp
      rw [hrun]
      have hown : Own M w0 (H.set k (vec (.slice (some ⟨b, 0, none⟩) (xs.map enc).length cap) E sz ((clr xs lo z).map enc))) w := by rw [e, es]; exact hw
      exact hend w (hown.at k (by rw [List.getElem?_set_self (List.getElem?_eq_some_iff.1 hk).1])) hown
    · have hne : ¬ cap = lo.toNat := by rw [hrl] at hnc; omega
      have hzl : (enc z).length = sz := hlen z
      have hzc := zero_cells (enc := enc) (z := z) (m := xs.length - lo.toNat) hzl h0
      have hfz := flatten_len (sz := sz) (rows := (List.replicate (xs.length - lo.toNat) z).map enc) (by intro r hr; obtain ⟨u, hu, rfl⟩ := List.mem_map.1 hr; rw [List.mem_replicate] at hu; rw [hu.2, hzl])
      rw [List.length_map, List.length_replicate] at hfz
      have hcl : cur.toList.length = cap * sz := by simpa using hcs
      have hmul : (lo.toNat + (xs.length - lo.toNat)) * sz ≤ cap * sz := Nat.mul_le_mul_right _ (by rw [hrl] at hnc; omega)
      rw [Nat.add_mul] at hmul
      obtain ⟨w', q1', r2, r3, r4, r5, r6, r7⟩ := run_storeCells_blk (P := P) ((List.replicate (xs.length - lo.toNat) z).map enc).flatten ⟨b, lo.toNat * sz, none⟩ 0 (lo.toNat * sz) cur.toList w (by simpa using hh) (by simp [Addr.add]) (by rw [hfz]; omega)
        (fun u hu => by obtain ⟨r, hr, hu⟩ := List.mem_flatten.1 hu; obtain ⟨v, hv, rfl⟩ := List.mem_map.1 hr; rw [List.mem_replicate] at hv; rw [hv.2] at hu; exact h1 u hu)
      have hrun : (execOp a.eval ⟨d, .call ⟨.builtin .clear, #[x], #[U]⟩, T, pos, after, gd⟩).run P w = .ok (.value (.tuple #[])) w' := by
        have ex := ha.ev hx hg
        simp only [subS, hhi, if_neg hne, Option.map_some, Addr.add_lit, Nat.zero_add] at ex
        obtain ⟨m', hm'⟩ : ∃ m', xs.length - lo.toNat = m' + 1 := ⟨xs.length - lo.toNat - 1, by omega⟩
        rw [hm'] at ex hzc q1'
        rw [List.map_replicate] at hzc q1'
        have hzr : (zeroValue E).run P w = .ok zv w := by simp [zeroValue, typeInfo, z1, z2]
        simp [execOp, resolve, invoke, builtin, ex, Builtin.clear_, run_underlying hU, Result.andThen, hzr, z3, hzc, q1']
      unfold Oper.wp
      rw [hrun]
      have hbl : b < w.heap.size := (Array.getElem?_eq_some_iff.1 hh).1
      have hcl2 : ((clr xs lo z).map enc).length = (xs.map enc).length := by rw [List.length_map, List.length_map, clr_len s2]
      have hflat : ((clr xs lo z).map enc).flatten = putL (xs.map enc).flatten (lo.toNat * sz) ((List.replicate (xs.length - lo.toNat) z).map enc).flatten := by
        have hfx := flatten_len q3
        rw [putL_all _ _ _ (by rw [hfz, hfx, hrl, ← Nat.add_mul]; congr 1; omega), ← flatten_take _ q3]
        unfold clr
        rw [List.map_append, List.flatten_append, List.map_take]
      have hholds : (vec (.slice (some ⟨b, 0, none⟩) (xs.map enc).length cap) E sz ((clr xs lo z).map enc)).holds w' := by
        refine ⟨⟨by rw [hflat, putL_length, hcl2]; exact q1, .inr ⟨b, cap, (putL cur.toList (lo.toNat * sz) ((List.replicate (xs.length - lo.toNat) z).map enc).flatten).toArray, by rw [hcl2], hb, r2, by rw [hcl2]; exact hnc, hcm, by simp [putL_length, hcs], ?_⟩⟩, fun r hr => ?_⟩
        · have e1 : cur.toList = (xs.map enc).flatten ++ cur.toList.drop ((xs.map enc).length * sz) := by
            conv => lhs; rw [← List.take_append_drop ((xs.map enc).length * sz) cur.toList]
            rw [ht]
          have hfx := flatten_len q3
          rw [hflat, e1, putL_append _ _ _ _ (by rw [hfz, hfx, hrl, ← Nat.add_mul]; exact Nat.mul_le_mul_right _ (by omega)), hcl2, List.take_append_of_le_length (by rw [putL_length, hfx]; exact Nat.le_refl _), List.take_of_length_le (by rw [putL_length, hfx]; exact Nat.le_refl _)]
        · obtain ⟨u, hu, rfl⟩ := List.mem_map.1 hr
          exact hlen u
      refine hend w' hholds (hw.upd k hk r5 r6 r7 (by omega) (fun c hc hne => r3 c fun e => hne (by subst e; exact ⟨_, _, rfl⟩)) hholds fun c hc => ?_)
      obtain ⟨n2, k2, he2⟩ := hc
      simp only [Value.slice.injEq, Option.some.injEq, Addr.mk.injEq] at he2
      obtain ⟨⟨rfl, _⟩, _⟩ := he2
      exact ⟨.inl ⟨_, _, rfl⟩, by omega⟩
end
/-! ### edges in order -/
def ordV (a b : Edg) : Int := if a.fr < b.fr then -1 else if b.fr < a.fr then 1 else if a.to < b.to then -1 else if b.to < a.to then 1 else if a.bk < b.bk then -1 else if b.bk < a.bk then 1 else if a.wt < b.wt then -1 else if b.wt < a.wt then 1 else 0
def sortE (xs : List Edg) : List Edg := xs.mergeSort fun x y => !decide (ordV y x < 0)
def SortFunc_m (xs : List Edg) : Option (List Edg) := ck (xs.length < 4611686018427387904) (some (sortE xs))
end Go.Rd
