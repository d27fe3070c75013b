/- Blocks by their data, read and changed at an index that is reckoned; arrays of pointers; index of strings. -/
import Derived.Test.YtaimbkndebaaiaaRws
namespace Go.Rd
open Go.RowKit
set_option linter.unusedVariables false
set_option linter.unusedSimpArgs false
def bval (b : UInt8) : Value := .int .u8 (b.toNat : Int)
theorem addr_dyn {b off : Nat} {i : Int} (h : 0 ≤ i) : (((⟨b, 0, none⟩ : Addr).add off).add (i.toNat * 1)) = ⟨b, ((off : Int) + i).toNat, none⟩ := by
  rw [addr_sym]; congr 1; omega
theorem addr_dyn0 {b : Nat} {i : Int} : ((⟨b, 0, none⟩ : Addr).add (i.toNat * 1)) = ⟨b, i.toNat, none⟩ := add_one b i.toNat
theorem addr_lit {b : Nat} (j : Nat) : ((⟨b, 0, none⟩ : Addr).add j) = ⟨b, (j : Int).toNat, none⟩ := by
  rw [Addr.add_lit]; simp
section
variable {P : Program} {n : Nat} {σ : Env} {C : World → Prop} {M : Nat → Prop} {w0 : World} {H : List Res} {d : Option Tmp} {T U E D : TypeId} {pos : String} {after : Array Edge} {gd : Option (Nat × Bool)} {x y : Operand} {g g' : Bool} {v : Value}
  {K : Act → World → Prop} {Q : Exit → Act → World → Prop} {α : Type} {c : α → Value} {xs : List α} {b : Nat} {i : Int} {q : Addr}
theorem Own.cellG [Inhabited α] (k : Nat) (hk : H[k]? = some (blk b (xs.map c) T)) (hi : IX i (ln xs)) (hq : q = ⟨b, i.toNat, none⟩) : ∀ w, Own M w0 H w → w.cell? q = some (c (ele xs i)) := fun w hw => by
  subst hq
  have hlt : i.toNat < xs.length := by have := hi.1; have := hi.2; unfold ln at this; omega
  refine Own.cell k hk ?_ w hw
  rw [List.getElem?_map, List.getElem?_eq_getElem hlt]
  simp [ele, List.getD_eq_getElem?_getD, List.getElem?_eq_getElem hlt]
theorem Own.cellsL {cs : List Value} (k : Nat) (hk : H[k]? = some (blk b (xs.map c) T)) (he : xs.map c = cs) : ∀ w, Own M w0 H w → CellsAt w ⟨b, 0, none⟩ cs 0 := he ▸ Own.cellsBlk k hk
theorem EV.storeB (k : Nat) (i : Int) (z : α) (hx : σ.ev x = some (g, .pointer (some q))) (hg : g = true) (hy : σ.ev y = some (g', c z)) (hg' : g' = true) (hk : H[k]? = some (blk b (xs.map c) E)) (hq : q = ⟨b, i.toNat, none⟩) (hi : IX i (ln xs))
    (hv : (c z).cells = [c z].toArray) (ho : (c z).oneCell' = true) (hs : SizeT P T 1) (kk : WK n K σ (Own M w0 (H.set k (blk b ((upd xs i z).map c) E)))) : EV P n ⟨none, .store T x y, U, pos, after, gd⟩ σ (Own M w0 H) K Q := by
  have hlt : i.toNat < xs.length := by have := hi.1; have := hi.2; unfold ln at this; omega
  refine EV.store k (vs := [c z]) hx hg hy hg' hk hq hv hs (by simp; omega) (fun u hu => by simp at hu; subst hu; exact ho) ?_
  rw [show putL (xs.map c) i.toNat [c z] = (upd xs i z).map c from by simp [putL, upd, List.map_set]]
  exact kk
theorem Own.blkArrL (k : Nat) {enc : α → List Value} (he : ∀ u, enc u = [c u]) {m : Nat} (hk : H[k]? = some (blk b (xs.map c) T)) (hm : xs.length = m) : ∀ w, Own M w0 H w → Arr w (blkSlice b m m) 1 (xs.map enc) := fun w hw => by
  subst hm
  have := Own.blkArr (rows := xs.map enc) (sz := 1) k hk (flatten_one he xs) (fun r hr => by obtain ⟨u, _, rfl⟩ := List.mem_map.1 hr; simp [he]) w hw
  rwa [List.length_map] at this

/-- n pointers to the cells of a block, one behind the other. -/
def ptrsV (b m : Nat) : List Value := (List.range m).map fun j => .pointer (some ⟨b, j, none⟩)
theorem QV.indexPtrs {m : Nat} {k : IntKind} (hU : P.underlying U = some (.array m E)) (hE : Plain P E) (hs : SizeT P E 1) (hx : σ.ev x = some (g, .agg (ptrsV b m).toArray)) (hg : g = true) (hy : σ.ev y = some (g', .int k i)) (hg' : g' = true) (hi : IX i m) :
    QV P ⟨d, .index U x y, T, pos, after, gd⟩ σ C (.pointer (some ⟨b, i.toNat, none⟩)) := .of_run fun n a ha w hw => by
  obtain ⟨inf, hin, hsz⟩ := Option.map_eq_some_iff.1 hs
  have h0 := hi.1; have h1 := hi.2
  have hlt : i.toNat < m := by omega
  have hA := run_isAgg_plain hE w
  have hget : (ptrsV b m)[i.toNat]? = some (.pointer (some ⟨b, i.toNat, none⟩)) := by simp [ptrsV, hlt]
  simp [execOp, ha.ev hx hg, ha.ev hy hg', Instr.index, asIntOf, run_underlying hU, h0, h1, sizeOf, typeInfo, hin, hsz, part, hA, hget]
theorem ele_lt {α : Type} [Inhabited α] {l : List α} {i : Int} (h : IX i (ln l)) : l[i.toNat]? = some (ele l i) := by
  have hlt : i.toNat < l.length := by have := h.1; have := h.2; unfold ln at this; omega
  simp [ele, List.getD_eq_getElem?_getD, List.getElem?_eq_getElem hlt]
theorem QV.indexStr {k : IntKind} {s : List UInt8} (hU : P.underlying U = some .string) (hx : σ.ev x = some (g, strV s)) (hg : g = true) (hy : σ.ev y = some (g', .int k i)) (hg' : g' = true) (hi : IX i (ln s)) :
    QV P ⟨d, .index U x y, T, pos, after, gd⟩ σ C (.int .u8 ((ele s i).toNat : Int)) := .of_run fun n a ha w hw => by
  have h0 := hi.1
  have hget : (ByteArray.mk s.toArray)[i.toNat]? = some (ele s i) := by
    have hlt : i.toNat < s.length := by have := hi.2; unfold ln at this; omega
    have h1 : i.toNat < (ByteArray.mk s.toArray).size := by simpa [ByteArray.size] using hlt
    have := ele_lt hi
    rw [List.getElem?_eq_getElem hlt] at this
    rw [getElem?_pos (ByteArray.mk s.toArray) i.toNat h1]
    have e : (ByteArray.mk s.toArray)[i.toNat] = s[i.toNat] := by
      show (s.toArray)[i.toNat]'_ = _
      simp
    rw [e, this]
  simp [execOp, ha.ev hx hg, ha.ev hy hg', Instr.index, asIntOf, run_underlying hU, h0, strV, hget]
end
theorem rows_one {u : Value} : ∀ r ∈ [[u]], r.length = 1 := fun r hr => by simp at hr; subst hr; rfl
/-- slices.Clone of numbers: the same numbers. -/
def Clone_m (xs : List Int) : Option (List Int) := ck (AL xs.length 8) (some xs)
def oprOf (ns : List Int) : Opr := ⟨ns.getD 0 0, ns.getD 1 0, ns.getD 2 0, ns.getD 3 0, ns.getD 4 0, ns.getD 5 0, ns.getD 6 0, ns.getD 7 0, ns.getD 8 0, ns.getD 9 0⟩
theorem oprOf_cells {ns : List Int} (h : ns.length = 10) : ns.map i64v = (oprOf ns).cells := by
  match ns, h with
  | [_, _, _, _, _, _, _, _, _, _], _ => rfl
def tgtOf (ns : List Int) : Tgt := ⟨ns.getD 0 0, ns.getD 1 0, ns.getD 2 0, ns.getD 3 0, ns.getD 4 0, ns.getD 5 0, ns.getD 6 0⟩
theorem tgtOf_cells {ns : List Int} (h : ns.length = 7) : ns.map i64v = (tgtOf ns).cells := by
  match ns, h with
  | [_, _, _, _, _, _, _], _ => rfl
end Go.Rd
