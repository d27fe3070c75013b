/- Results that lie in cells. -/
import Derived.Test.YtaimbkndebaaiaaKn
import Derived.Laws.ResultCell
namespace Go.Rd
open Go.RowKit
set_option linter.unusedVariables false
set_option linter.unusedSimpArgs false
section
variable {P : Program} {n : Nat} {σ : Env} {C : World → Prop} {ty : TypeId} {p u : Nat} {q : Addr} {sz : Nat} {cs : List Value} {x : Value}

theorem run_loadVar_cells {w : World} (hT : AggT P ty sz) (hl : cs.length = sz) (hc : CellsAt w q cs 0) : (loadVar ty q).run P w = .ok (.agg cs.toArray) w := by
  have hA := run_isAgg_agg hT w
  obtain ⟨dd, h1, h2, h3⟩ := hT
  obtain ⟨inf, hi, hs⟩ := Option.map_eq_some_iff.1 h3
  have := run_loadCellsFrom (P := P) cs 0 #[] hc
  rw [hl] at this
  simp [loadVar, hA, sizeOf, typeInfo, hi, hs, loadCells, this]

theorem WQ.retCell {fn : Func} {R : Ending → World → Prop} (hr : fn.results = #[.cell p ty]) (hT : AggT P ty sz) (hl : cs.length = sz) (hp : σ.look p = some (true, .pointer (some q))) (hc : ∀ w, C w → CellsAt w q cs 0)
    (h : ∀ w, C w → R (.returned (.agg cs.toArray)) w) : WK n (bodyPost P fn R .ret) σ C := fun a w ha hw => by
  refine ⟨ha.defers, _, ?_, h w hw⟩
  have hp' := ha.look p true _ hp
  have hp2 : a.tmps[p]?.getD undef = .pointer (some q) := by simpa using hp'
  have := run_loadVar_cells (P := P) hT hl (hc w hw)
  simp [results, hr, hp2, asAddr, this]
theorem WQ.retCellTmp {fn : Func} {R : Ending → World → Prop} (hr : fn.results = #[.cell p ty, .tmp u]) (hT : AggT P ty sz) (hl : cs.length = sz) (hp : σ.look p = some (true, .pointer (some q))) (hx : σ.look u = some (true, x)) (hc : ∀ w, C w → CellsAt w q cs 0)
    (h : ∀ w, C w → R (.returned (.tuple #[.agg cs.toArray, x])) w) : WK n (bodyPost P fn R .ret) σ C := fun a w ha hw => by
  refine ⟨ha.defers, _, ?_, h w hw⟩
  have hp' := ha.look p true _ hp
  have hx' := ha.look u true _ hx
  have hp2 : a.tmps.getD p undef = .pointer (some q) := hp'
  have := run_loadVar_cells (P := P) hT hl (hc w hw)
  rw [results_cell_tmp hr, hp2, hx']
  simp [asAddr, this, Result.andThen]
end

/-! ### Arrays of one-cell things, by their data -/
section
variable {P : Program} {n : Nat} {σ : Env} {M : Nat → Prop} {w0 : World} {H : List Res} {T U E : TypeId} {pos : String} {after : Array Edge} {gd : Option (Nat × Bool)} {x y : Operand} {g g' : Bool} {v : Value}
  {K : Act → World → Prop} {Q : Exit → Act → World → Prop} {α : Type} {c : α → Value} {xs : List α} {b : Nat}

theorem add_one (b i : Nat) : ((⟨b, 0, none⟩ : Addr).add (i * 1)) = ⟨b, i, none⟩ := by
  rw [Addr.add_lit]; simp
theorem Own.cellL (k : Nat) (i : Nat) (dft : α) (hk : H[k]? = some (blk b (xs.map c) T)) (hi : i < xs.length) : ∀ w, Own M w0 H w → w.cell? ((⟨b, 0, none⟩ : Addr).add (i * 1)) = some (c (xs.getD i dft)) := fun w hw => by
  rw [add_one]
  refine Own.cell k hk ?_ w hw
  rw [List.getElem?_map, List.getElem?_eq_getElem hi, List.getD_eq_getElem?_getD, List.getElem?_eq_getElem hi]
  rfl
theorem EV.storeL (k : Nat) (i : Nat) (z : α) (hx : σ.ev x = some (g, .pointer (some ((⟨b, 0, none⟩ : Addr).add (i * 1))))) (hg : g = true) (hy : σ.ev y = some (g', c z)) (hg' : g' = true)
    (hk : H[k]? = some (blk b (xs.map c) E)) (hv : (c z).cells = [c z].toArray) (ho : (c z).oneCell' = true) (hs : SizeT P T 1) (hi : i < xs.length)
    (kk : WK n K σ (Own M w0 (H.set k (blk b ((xs.set i z).map c) E)))) : EV P n ⟨none, .store T x y, U, pos, after, gd⟩ σ (Own M w0 H) K Q := by
  refine EV.store k (vs := [c z]) hx hg hy hg' hk (add_one b i) hv hs (by simp; omega) (fun u hu => by simp at hu; subst hu; exact ho) ?_
  rw [show putL (xs.map c) i [c z] = (xs.set i z).map c from by simp [putL, List.map_set]]
  exact kk
end

/-! ### Parts of slices -/
/-- v[l:h] -/
def subS (v : Value) (sz l h : Nat) : Value :=
  match v with
  | .slice a _ c => .slice (if c = l then a else a.map (·.add (l * sz))) (h - l) (c - l)
  | v => v

theorem subS_len {v : Value} {n l h sz : Nat} (hv : SliceLen v n) (h1 : l ≤ h) (h2 : h ≤ n) : SliceLen (subS v sz l h) (h - l) := by
  obtain ⟨a, c, rfl, ha, hc⟩ := hv
  refine ⟨_, _, rfl, fun hp => ?_, by omega⟩
  have := ha (by omega)
  obtain ⟨b, rfl⟩ := Option.isSome_iff_exists.1 this
  split <;> simp
theorem subS_arr {w : World} {v : Value} {l h sz : Nat} {rows : List (List Value)} (hv : Arr w v sz rows) (h1 : l ≤ h) (h2 : h ≤ rows.length) : Arr w (subS v sz l h) sz ((rows.drop l).take (h - l)) := by
  have hlen : ((rows.drop l).take (h - l)).length = h - l := by simp; omega
  refine ⟨by rw [hlen]; exact subS_len hv.len h1 h2, fun i r p hr hp => ?_⟩
  have hi : i < h - l := by have := (List.getElem?_eq_some_iff.1 hr).1; omega
  obtain ⟨a, c, rfl, ha, hc⟩ := hv.len
  obtain ⟨b, rfl⟩ := Option.isSome_iff_exists.1 (ha (by omega))
  obtain ⟨a', n', c', he, g1, g2, rfl⟩ := hp
  have hne : ¬ c = l := by omega
  simp only [subS, if_neg hne, Option.map_some, Value.slice.injEq, Option.some.injEq] at he
  obtain ⟨rfl, _, _⟩ := he
  rw [Addr.add_add, Int.toNat_natCast, ← Nat.add_mul]
  refine hv.row (l + i) r _ ?_ (ElemP_base (by omega))
  rw [List.getElem?_take, if_pos hi, List.getElem?_drop] at hr
  exact hr
theorem subS_map {α : Type} {enc : α → List Value} {w : World} {v : Value} {l h sz : Nat} {xs : List α} (hv : Arr w v sz (xs.map enc)) (h1 : l ≤ h) (h2 : h ≤ xs.length) : Arr w (subS v sz l h) sz (((xs.drop l).take (h - l)).map enc) := by
  have := subS_arr hv h1 (by simpa using h2)
  rwa [← List.map_drop, ← List.map_take] at this

section
variable {P : Program} {σ : Env} {C : World → Prop} {d : Option Tmp} {T U E : TypeId} {pos : String} {after : Array Edge} {gd : Option (Nat × Bool)} {x lo hi : Operand} {g g' g'' : Bool} {v : Value} {m sz : Nat}

theorem run_sizeOf {w : World} (h : (P.info? E).map (·.size) = some sz) : (sizeOf E).run P w = .ok sz w := by
  obtain ⟨inf, hi, hs⟩ := Option.map_eq_some_iff.1 h
  simp [sizeOf, typeInfo, hi, hs]
theorem QV.sliceLH {k k' : IntKind} {i j : Int} (hT : SliceT P U E sz) (hx : σ.ev x = some (g, v)) (hg : g = true) (hl : SliceLen v m) (hlo : σ.ev lo = some (g', .int k i)) (hg' : g' = true) (hhi : σ.ev hi = some (g'', .int k' j)) (hg'' : g'' = true)
    (h0 : 0 ≤ i) (h1 : i ≤ j) (h2 : j ≤ m) : QV P ⟨d, .slice U x (some lo) (some hi) none, T, pos, after, gd⟩ σ C (subS v sz i.toNat j.toNat) := .of_run fun n ac ha w hw => by
  obtain ⟨a, c, rfl, _, hc⟩ := hl
  obtain ⟨hU, hS⟩ := hT
  have e1 := ha.ev hx hg
  have e2 := ha.ev hlo hg'
  have e3 := ha.ev hhi hg''
  have hs := run_sizeOf (w := w) hS
  have ej : (j.toNat : Int) = j := Int.toNat_of_nonneg (by omega)
  simp [execOp, e1, e2, e3, Instr.sliceAt, Instr.slice, run_underlying hU, Instr.sliceBounds, run_sliceBound, hs, ej, h0, h1, (by omega : 0 ≤ j), (by omega : j ≤ c), subS]
theorem QV.sliceH {k' : IntKind} {j : Int} (hT : SliceT P U E sz) (hx : σ.ev x = some (g, v)) (hg : g = true) (hl : SliceLen v m) (hhi : σ.ev hi = some (g'', .int k' j)) (hg'' : g'' = true)
    (h1 : 0 ≤ j) (h2 : j ≤ m) : QV P ⟨d, .slice U x none (some hi) none, T, pos, after, gd⟩ σ C (subS v sz 0 j.toNat) := .of_run fun n ac ha w hw => by
  obtain ⟨a, c, rfl, _, hc⟩ := hl
  obtain ⟨hU, hS⟩ := hT
  have e1 := ha.ev hx hg
  have e3 := ha.ev hhi hg''
  have hs := run_sizeOf (w := w) hS
  simp [execOp, e1, e3, Instr.sliceAt, Instr.slice, run_underlying hU, Instr.sliceBounds, run_sliceBound, hs, h1, (by omega : j ≤ c), subS]
theorem QV.sliceL {k : IntKind} {i : Int} (hT : SliceT P U E sz) (hx : σ.ev x = some (g, v)) (hg : g = true) (hl : SliceLen v m) (hlo : σ.ev lo = some (g', .int k i)) (hg' : g' = true)
    (h0 : 0 ≤ i) (h1 : i ≤ m) : QV P ⟨d, .slice U x (some lo) none none, T, pos, after, gd⟩ σ C (subS v sz i.toNat m) := .of_run fun n ac ha w hw => by
  obtain ⟨a, c, rfl, _, hc⟩ := hl
  obtain ⟨hU, hS⟩ := hT
  have e1 := ha.ev hx hg
  have e2 := ha.ev hlo hg'
  have hs := run_sizeOf (w := w) hS
  simp [execOp, e1, e2, Instr.sliceAt, Instr.slice, run_underlying hU, Instr.sliceBounds, run_sliceBound, hs, h0, h1, subS]
/-- A whole array, through its pointer. -/
theorem QV.sliceArr {b : Nat} {len : Nat} (hA : ArrayT P U len sz) (h0 : len ≠ 0) (hx : σ.ev x = some (g, .pointer (some ⟨b, 0, none⟩))) (hg : g = true) :
    QV P ⟨d, .slice U x none none none, T, pos, after, gd⟩ σ C (blkSlice b len len) := .of_run fun n ac ha w hw => by
  obtain ⟨E, hA, hS⟩ := hA
  have e1 := ha.ev hx hg
  have hs := run_sizeOf (w := w) hS
  simp [execOp, e1, Instr.sliceAt, run_underlying hA, Instr.sliceBounds, hs, blkSlice, h0, Instr.sureAddr, Addr.add]
end
end Go.Rd
