/- '==' between structs of ints; building structs; slices made at once; calls that hand back memory. -/
import Derived.Test.YtaimbkndebaaiaaLaw
import Derived.Laws.StructEq
import Derived.Laws.Tables
namespace Go.Rd
open Go.RowKit
set_option linter.unusedVariables false
set_option linter.unusedSimpArgs false

/-- A type of ints alone that may be compared. -/
def eqFlatT (P : Program) : Nat → TypeId → Bool
  | 0, _ => false
  | k + 1, t =>
    match P.underlying t with
    | some (.int .i64) => P.cellsOf t == 1
    | some (.struct fs) => !P.stoodInHeld t && (fs.toList.all fun f => f.name != "_" && eqFlatT P k f.type) && covers (fs.toList.map fun f => (f.offset, P.cellsOf f.type)) 0 (P.cellsOf t)
    | _ => false

theorem covers_eq {ns ms : List Int} {total : Nat} (h1 : ns.length = total) (h2 : ms.length = total) : ∀ {l : List (Nat × Nat)} {cur : Nat}, covers l cur total = true →
    (l.all fun p => (ns.drop p.1).take p.2 == (ms.drop p.1).take p.2) = (ns.drop cur == ms.drop cur)
  | [], cur, h => by
    simp [covers] at h; subst h
    rw [List.drop_eq_nil_of_le (by omega), List.drop_eq_nil_of_le (by omega)]; rfl
  | (o, s) :: r, cur, h => by
    simp only [covers, Bool.and_eq_true, beq_iff_eq] at h
    obtain ⟨rfl, h⟩ := h
    rw [List.all_cons, covers_eq h1 h2 h]
    have e1 : ns.drop o = (ns.drop o).take s ++ ns.drop (o + s) := by rw [← List.drop_drop, List.take_append_drop]
    have e2 : ms.drop o = (ms.drop o).take s ++ ms.drop (o + s) := by rw [← List.drop_drop, List.take_append_drop]
    have hl : ((ns.drop o).take s).length = ((ms.drop o).take s).length := by simp [h1, h2]
    rw [Bool.eq_iff_iff]
    simp only [Bool.and_eq_true, beq_iff_eq]
    constructor
    · rintro ⟨a, b⟩; rw [e1, e2, a, b]
    · intro a
      rw [e1, e2] at a
      exact List.append_inj a hl

theorem getElem?_map_i64 (ns : List Int) (o : Nat) : (ns.map i64v).toArray[o]? = (ns[o]?).map i64v := by simp

section
variable {P : Program}

theorem covers_le {total : Nat} : ∀ {l : List (Nat × Nat)} {cur : Nat}, covers l cur total = true → (∀ p ∈ l, p.1 + p.2 ≤ total) ∧ cur ≤ total
  | [], cur, h => by simp [covers] at h; subst h; simp
  | (o, s) :: r, cur, h => by
    simp only [covers, Bool.and_eq_true, beq_iff_eq] at h
    obtain ⟨rfl, h⟩ := h
    obtain ⟨h1, h2⟩ := covers_le h
    exact ⟨fun p hp => (List.mem_cons.1 hp).elim (fun e => by subst e; exact h2) (h1 p), by omega⟩

theorem drop_take_one {ns : List Int} {o : Nat} (h : o < ns.length) : (ns.drop o).take 1 = [ns[o]] := by
  rw [List.drop_eq_getElem_cons h]; rfl

theorem run_equalIn_flat (w : World) : ∀ (k : Nat) (t : TypeId) (e : Nat) (ns ms : List Int), eqFlatT P (k + 1) t = true → (∃ fs, P.underlying t = some (.struct fs)) → ns.length = P.cellsOf t → ms.length = P.cellsOf t →
    (Op.equalIn (e + k + 1) t (.agg (ns.map i64v).toArray) (.agg (ms.map i64v).toArray)).run P w = .ok (ns == ms) w := by
  intro k
  induction k with
  | zero =>
    intro t e ns ms h ⟨fs, hu⟩ h1 h2
    simp only [eqFlatT, hu, Bool.and_eq_true, List.all_eq_true] at h
    have hfs : fs.toList = [] := by
      cases hf : fs.toList with
      | nil => rfl
      | cons f r => have := h.1.2 f (by rw [hf]; simp); simp at this
    have hc := h.2
    rw [hfs] at hc
    simp [covers] at hc
    have : ns = [] := List.length_eq_zero_iff.1 (by omega)
    have : ms = [] := List.length_eq_zero_iff.1 (by omega)
    subst ns; subst ms
    have hfo : P.fieldsOf t = fs := by simp [Program.fieldsOf, hu]
    rw [run_equalIn_struct w (e + 0) t _ _ (by rw [hfo]; exact hu) (by simpa using h.1.1), hfo, hfs]
    simp [Op.eqFields]
  | succ k ih =>
    intro t e ns ms h ⟨fs, hu⟩ h1 h2
    rw [eqFlatT, hu] at h
    simp only [Bool.and_eq_true, List.all_eq_true] at h
    have hfo : P.fieldsOf t = fs := by simp [Program.fieldsOf, hu]
    rw [run_equalIn_struct w (e + (k + 1)) t _ _ (by rw [hfo]; exact hu) (by simpa using h.1.1), hfo]
    have hall := covers_eq h1 h2 h.2
    rw [List.drop_zero, List.drop_zero] at hall
    rw [← hall]
    have hle := (covers_le h.2).1
    have hel := h.1.2
    clear hall h hfo hu
    generalize fs.toList = l at *
    induction l with
    | nil => simp [Op.eqFields]
    | cons f l ihl =>
      have hf := hel f (by simp)
      have hfl := hle (f.offset, P.cellsOf f.type) (by simp)
      simp only [] at hfl
      simp only [Bool.and_eq_true, bne_iff_ne, ne_eq] at hf
      have hrest := ihl (fun p hp => hle p (by simp at hp ⊢; exact .inr hp)) (fun f hf => hel f (by simp [hf]))
      simp only [Op.eqFields, List.map_cons, List.all_cons]
      rw [if_pos hf.1]
      have hfield := hf.2
      -- the field: an int, or a struct
      have key : ∃ a b, (part f.type (ns.map i64v).toArray f.offset).run P w = .ok a w ∧ (part f.type (ms.map i64v).toArray f.offset).run P w = .ok b w ∧
          (Op.equalIn (e + (k + 1)) f.type a b).run P w = .ok ((ns.drop f.offset).take (P.cellsOf f.type) == (ms.drop f.offset).take (P.cellsOf f.type)) w := by
        unfold eqFlatT at hfield
        split at hfield
        · rename_i hu
          have hc1 : P.cellsOf f.type = 1 := by simpa using hfield
          rw [hc1] at hfl ⊢
          have l1 : f.offset < ns.length := by omega
          have l2 : f.offset < ms.length := by omega
          have hag : (isAgg f.type).run P w = .ok false w := by simp [isAgg, run_underlying hu]
          refine ⟨i64v ns[f.offset], i64v ms[f.offset], ?_, ?_, ?_⟩
          · simp [part, hag, l1]
          · simp [part, hag, l2]
          · rw [drop_take_one l1, drop_take_one l2]
            have := run_equalIn_int (P := P) w (e + k) f.type .i64 .i64 ns[f.offset] ms[f.offset] hu
            rw [show e + (k + 1) = e + k + 1 from by omega]
            unfold i64v
            rw [this]
            simp
        · rename_i fs' hu
          have hag : (isAgg f.type).run P w = .ok true w := by simp [isAgg, run_underlying hu]
          have hsz : ∃ inf, P.info? f.type = some inf ∧ inf.size = P.cellsOf f.type := by
            unfold Program.underlying at hu
            cases hi : P.info? f.type with
            | none => simp [hi] at hu
            | some inf => exact ⟨inf, rfl, by simp [Program.cellsOf, hi]⟩
          obtain ⟨inf, hi, hs⟩ := hsz
          have ext : ∀ l : List Int, (l.map i64v).toArray.extract f.offset (f.offset + P.cellsOf f.type) = ((((l.drop f.offset).take (P.cellsOf f.type))).map i64v).toArray := by
            intro l
            apply Array.ext'
            simp [List.extract_eq_take_drop, List.map_take, List.map_drop]
          refine ⟨.agg ((((ns.drop f.offset).take (P.cellsOf f.type))).map i64v).toArray, .agg ((((ms.drop f.offset).take (P.cellsOf f.type))).map i64v).toArray, ?_, ?_, ?_⟩
          · have := ext ns
            simp [part, hag, sizeOf, typeInfo, hi, hs, this]
          · have := ext ms
            simp [part, hag, sizeOf, typeInfo, hi, hs, this]
          · refine ih f.type e _ _ hf.2 ⟨fs', hu⟩ ?_ ?_
            · simp; omega
            · simp; omega
        · cases hfield
      obtain ⟨a, b, ha, hb, hr⟩ := key
      simp only [Sem.run_bind, ha, hb, hr, Result.andThen_ok]
      cases hq : (List.take (P.cellsOf f.type) (List.drop f.offset ns) == List.take (P.cellsOf f.type) (List.drop f.offset ms)) with
      | false => simp
      | true => simpa using hrest

section
variable {σ : Env} {C : World → Prop} {d : Option Tmp} {T U z : TypeId} {pos : String} {after : Array Edge} {gd : Option (Nat × Bool)} {x y : Operand} {g g' : Bool} {v : Value} {n : Nat}
  {K : Act → World → Prop} {Q : Exit → Act → World → Prop} {M : Nat → Prop} {w0 : World} {H : List Res}

def EqT (P : Program) (U : TypeId) (sz : Nat) : Prop := eqFlatT P 5 U = true ∧ (∃ fs, P.underlying U = some (.struct fs)) ∧ P.cellsOf U = sz ∧ P.eqGuardType P.depth U = false

theorem run_eqFlat {w : World} {sz : Nat} {ns ms : List Int} (hU : EqT P U sz) (h1 : ns.length = sz) (h2 : ms.length = sz) : (binOp .eql U (.agg (ns.map i64v).toArray) (.agg (ms.map i64v).toArray)).run P w = .ok (.bool (ns == ms)) w := by
  have := run_equalIn_flat (P := P) w 4 U 9995 ns ms hU.1 hU.2.1 (by rw [hU.2.2.1]; exact h1) (by rw [hU.2.2.1]; exact h2)
  simp only [binOp]; simp [Op.equal, Op.maxDepth, this]
theorem run_neqFlat {w : World} {sz : Nat} {ns ms : List Int} (hU : EqT P U sz) (h1 : ns.length = sz) (h2 : ms.length = sz) : (binOp .neq U (.agg (ns.map i64v).toArray) (.agg (ms.map i64v).toArray)).run P w = .ok (.bool (!(ns == ms))) w := by
  have := run_equalIn_flat (P := P) w 4 U 9995 ns ms hU.1 hU.2.1 (by rw [hU.2.2.1]; exact h1) (by rw [hU.2.2.1]; exact h2)
  simp only [binOp]; simp [Op.equal, Op.maxDepth, this]

theorem QV.eqlF {sz : Nat} {ns ms : List Int} (hU : EqT P U sz) (hx : σ.ev x = some (g, .agg (ns.map i64v).toArray)) (hg : g = true) (hy : σ.ev y = some (g', .agg (ms.map i64v).toArray)) (hg' : g' = true)
    (h1 : ns.length = sz) (h2 : ms.length = sz) : QV P ⟨d, .binOp .eql U x y z, T, pos, after, gd⟩ σ C (.bool (ns == ms)) := .of_run fun n a ha w hw => by
  have hgd := run_eqGuard_agg (P := P) w .eql U x y (ns.map i64v).toArray (ms.map i64v).toArray hU.2.2.2
  have := run_eqFlat (w := w) hU h1 h2
  simp only [execOp, ha.ev hx hg, ha.ev hy hg', Sem.run_bind, hgd, this, Result.andThen_ok, Sem.run_pure]
theorem QV.neqF {sz : Nat} {ns ms : List Int} (hU : EqT P U sz) (hx : σ.ev x = some (g, .agg (ns.map i64v).toArray)) (hg : g = true) (hy : σ.ev y = some (g', .agg (ms.map i64v).toArray)) (hg' : g' = true)
    (h1 : ns.length = sz) (h2 : ms.length = sz) : QV P ⟨d, .binOp .neq U x y z, T, pos, after, gd⟩ σ C (.bool (!(ns == ms))) := .of_run fun n a ha w hw => by
  have hgd := run_eqGuard_agg (P := P) w .neq U x y (ns.map i64v).toArray (ms.map i64v).toArray hU.2.2.2
  have := run_neqFlat (w := w) hU h1 h2
  simp only [execOp, ha.ev hx hg, ha.ev hy hg', Sem.run_bind, hgd, this, Result.andThen_ok, Sem.run_pure]

/-! ### Structs and slices built at once -/
theorem QV.build {ps : List (Nat × Operand)} {vs : List Value} {cells : List Value} (hv : EvAll σ (ps.map (·.2)) vs) (hb : P.built U ((ps.map (·.1)).zip vs) = some cells.toArray) :
    QV P ⟨d, .build U ps.toArray, T, pos, after, gd⟩ σ C (.agg cells.toArray) := .of_run fun n a ha w hw => by
  have hm := hv.map ha
  have e : (ps.toArray.map fun (i, x) => (i, a.eval x)).toList = (ps.map (·.1)).zip vs := by
    rw [← hm]
    simp [List.zip_map', Function.comp_def]
  have := run_build (P := P) w U (ps.toArray.map fun (i, x) => (i, a.eval x)) cells.toArray (by rw [e]; exact hb)
  rw [show (ps.toArray.map fun (p : Nat × Operand) => match p with | (i, x) => (i, a.eval x)) = (List.map (fun x => (x.fst, a.eval x.snd)) ps).toArray from by simp] at this
  simp [execOp, this]

/-- A slice over a block of the call's own. -/
def blkSlice (b n c : Nat) : Value := .slice (some ⟨b, 0, none⟩) n c

def SliceZ (P : Program) (U E sz : Nat) (zc : List Value) : Prop := P.underlying U = some (.slice E) ∧ (P.info? E).map (fun i => (i.zero.map Value.cells, i.size)) = some (some zc.toArray, sz)
def filled (sz len : Nat) (zc : List Value) (parts : List (Nat × Value)) : Option (Array Value) := Instr.fill (fun j => some (j * sz, sz)) ((Array.range (len * sz)).map (zc.toArray[· % zc.toArray.size]!)) parts

theorem EV.buildSlice {dd len E sz : Nat} {zc : List Value} {ps : List (Nat × Operand)} {vs cells : List Value} (hn : dd < n) (hb : SliceZ P T E sz zc) (h24 : len * sz ≤ 16777216) (h0 : len * sz ≠ 0) (hv : EvAll σ (ps.map (·.2)) vs) (hf : filled sz len zc ((ps.map (·.1)).zip vs) = some cells.toArray)
    (k : ∀ b, WK n K ((dd, (true, blkSlice b len len)) :: σ) (Own M w0 (blk b cells E :: H))) : EV P n ⟨some dd, .buildSlice T len ps.toArray, U, pos, after, gd⟩ σ (Own M w0 H) K Q := fun a w ha hw => by
  refine .inl ?_
  have hm := hv.map ha
  have e : (ps.toArray.map fun (i, x) => (i, a.eval x)).toList = (ps.map (·.1)).zip vs := by
    rw [← hm]
    simp [List.zip_map', Function.comp_def]
  obtain ⟨hu, hb1⟩ := hb
  obtain ⟨i, hi, hb2⟩ := Option.map_eq_some_iff.1 hb1
  simp only [Prod.mk.injEq] at hb2
  obtain ⟨hb3, rfl⟩ := hb2
  obtain ⟨z, hz, hzc⟩ := Option.map_eq_some_iff.1 hb3
  unfold filled at hf
  rw [← hzc] at hf
  have hrun : (execOp a.eval ⟨some dd, .buildSlice T len ps.toArray, U, pos, after, gd⟩).run P w = .ok (.value (blkSlice w.heap.size len len)) (w.alloc (.cells cells.toArray E)) := by
    have e' : (ps.toArray.map fun (p : Nat × Operand) => (p.1, a.eval p.2)).toList = (ps.map (·.1)).zip vs := e
    have h24' : ¬ len * i.size > 2 ^ 24 := by omega
    have h0' : ¬ (len = 0 ∨ i.size = 0) := by rw [← Nat.mul_eq_zero]; exact h0
    simp only [execOp, Instr.buildSlice]
    simp [run_underlying hu, sizeOf, typeInfo, zeroValue, hi, hz, e', blkSlice, newRow, newObj, Sem.run, h0', hf]
    have e'' : List.map (fun x => (x.fst, a.eval x.snd)) ps = (ps.map (·.1)).zip vs := by rw [← e']; simp
    rw [if_neg (by omega), if_neg h0, e'', hf]
    simp [Sem.run]
  unfold Oper.wp
  rw [hrun]
  show K (a.put (some dd) _) _
  refine k w.heap.size _ _ (ha.put hn true _) (hw.push (w' := w.alloc (.cells cells.toArray E)) ?_ (blk w.heap.size cells E) ?_ ?_)
  · exact Grow.alloc _
  · exact heap_alloc_new w _
  · intro b hb
    subst hb
    simp

/-! ### What a call hands back in memory -/
/-- A resource in blocks that have been made between two worlds. -/
def Made (r : Res) (w w' : World) : Prop := r.holds w' ∧ ∀ b, r.foot b → w.heap.size ≤ b ∧ b < w'.heap.size

/-- A slice that reads as these rows, and its block. -/
def arr (v : Value) (sz : Nat) (rows : List (List Value)) : Res where
  foot := fun b => ∃ a n c, v = .slice (some a) n c ∧ b = a.block ∧ 0 < n
  holds := fun w => Arr w v sz rows
  stable := fun w w' h hk => ⟨h.len, fun i r p hr hp => by
    obtain ⟨a, n, c, rfl, h0, h1, rfl⟩ := hp
    have hc := h.row i r _ hr ⟨a, n, c, rfl, h0, h1, rfl⟩
    refine CellsAt.of fun j u hu => ?_
    have h3 := hc.one j hu
    rw [Nat.zero_add]
    have hb : ((a.add ((i : Int).toNat * sz)).add j).block = a.block := by
      unfold Addr.add; (repeat' split) <;> rfl
    rw [World.cell?_of_block (w := w) (w' := w') (by rw [hb]; exact hk a.block ⟨a, n, c, rfl, rfl, by omega⟩)]
    exact h3⟩

theorem Own.arrCells {α : Type} {enc : α → List Value} {xs : List α} {sz : Nat} {i : Int} {p : Addr} (k : Nat) (d : α) (hk : H[k]? = some (arr v sz (xs.map enc))) (hp : ElemP v i sz p) (h1 : i < xs.length) :
    ∀ w, Own M w0 H w → CellsAt w p (enc (xs.getD i.toNat d)) 0 := fun w hw => by
  have h : Arr w v sz (xs.map enc) := hw.at k hk
  have h0 : 0 ≤ i := by obtain ⟨_, _, _, _, h0, _⟩ := hp; exact h0
  refine h.row i.toNat _ p ?_ (by rwa [Int.toNat_of_nonneg h0])
  have hlt : i.toNat < xs.length := by omega
  simp [List.getD_eq_getElem?_getD, List.getElem?_eq_getElem hlt]

theorem Own.made {r : Res} (k : Nat) (hk : H[k]? = some r) : ∀ w, Own noM w0 H w → Made r w0 w := fun w hw =>
  ⟨hw.at k hk, hw.lt r (List.mem_of_getElem? hk)⟩

theorem drop_flatten {sz : Nat} : ∀ {rows : List (List Value)} {i : Nat} {r : List Value}, (∀ r ∈ rows, r.length = sz) → rows[i]? = some r → (rows.flatten.drop (i * sz)).take r.length = r
  | [], i, r, _, h => by simp at h
  | q :: rows, 0, r, hs, h => by simp at h; subst h; simp
  | q :: rows, i + 1, r, hs, h => by
    have hq : q.length = sz := hs q (by simp)
    have := drop_flatten (fun r hr => hs r (by simp [hr])) (show rows[i]? = some r by simpa using h)
    rw [List.flatten_cons, Nat.succ_mul, Nat.add_comm, ← List.drop_drop, ← hq, List.drop_left, hq]
    exact this

theorem Own.madeArr {b : Nat} {cells : List Value} {E : TypeId} {sz : Nat} {rows : List (List Value)} (k : Nat) (hk : H[k]? = some (blk b cells E)) (hf : rows.flatten = cells) (hs : ∀ r ∈ rows, r.length = sz) (hn : 0 < rows.length) :
    ∀ w, Own noM w0 H w → Made (arr (blkSlice b rows.length rows.length) sz rows) w0 w := fun w hw => by
  have hlt := hw.lt _ (List.mem_of_getElem? hk) b rfl
  refine ⟨⟨⟨some ⟨b, 0, none⟩, _, rfl, fun _ => rfl, Nat.le_refl _⟩, fun i r p hr hp => ?_⟩, fun x hx => ?_⟩
  · obtain ⟨a, n, c', he, h0, h1, rfl⟩ := hp
    simp only [blkSlice, Value.slice.injEq, Option.some.injEq] at he
    obtain ⟨rfl, rfl, rfl⟩ := he
    have := Own.cellsBlk k hk w hw
    rw [Int.toNat_natCast]
    exact this.sub (i * sz) r.length (by rw [← hf]; exact drop_flatten hs hr)
  · obtain ⟨a, n, c', he, rfl, _⟩ := hx
    simp only [blkSlice, Value.slice.injEq, Option.some.injEq] at he
    obtain ⟨rfl, _, _⟩ := he
    exact hlt

theorem Own.madeNil {sz : Nat} : ∀ w, Own noM w0 H w → Made (arr (.slice none 0 0) sz []) w0 w := fun w hw =>
  ⟨Arr.nil, fun b hb => by obtain ⟨a, n, c, h, _⟩ := hb; cases h⟩

theorem SliceLen.blk {b n : Nat} : SliceLen (blkSlice b n n) n := ⟨_, _, rfl, fun _ => rfl, Nat.le_refl _⟩
theorem SliceLen.nil : SliceLen (.slice none 0 0) 0 := ⟨_, _, rfl, by simp, Nat.le_refl _⟩

theorem one_nil : ∀ u ∈ ([] : List Value), u.oneCell' = true := fun u h => by cases h
theorem one_cons {v : Value} {r : List Value} (h : v.oneCell' = true) (k : ∀ u ∈ r, u.oneCell' = true) : ∀ u ∈ v :: r, u.oneCell' = true := fun u hu => by
  rcases List.mem_cons.1 hu with rfl | hu
  · exact h
  · exact k u hu
theorem SliceLen.one {v : Value} {n : Nat} (h : SliceLen v n) : v.oneCell' = true := by
  obtain ⟨a, c, rfl, _⟩ := h; rfl

/-- A call that makes memory. -/
theorem EV.callM {f : FuncId} {xs : List Operand} {vs : List Value} {ats : Array TypeId} {dd : Nat} (G : Value → Value) (r : Value → Res) (F : Value → Prop) (hn : dd < n) (hf : Enters P f) (hv : EvAll σ xs vs)
    (hc : ∀ w, Own M w0 H w → Calls P f vs.toArray w (fun e w'' => ∃ u, e = .returned (G u) ∧ Grow w w'' ∧ Made (r u) w w'' ∧ F u))
    (k : ∀ u, F u → WK n K ((dd, (true, G u)) :: σ) (Own M w0 (r u :: H))) : EV P n ⟨some dd, .call ⟨.value (.func f), xs.toArray, ats⟩, T, pos, after, gd⟩ σ (Own M w0 H) K Q := fun a w ha hw => by
  refine .inl ?_
  have hm := hv.map ha
  have hrun : (execOp a.eval ⟨some dd, .call ⟨.value (.func f), xs.toArray, ats⟩, T, pos, after, gd⟩).run P w = .ok (.enter f vs.toArray) w := by
    simp [execOp, resolve, Deferred.ofValue, Act.eval, invoke, run_callFunc hf, hm]
  unfold Oper.wp
  rw [hrun]
  refine (hc w hw).mono ?_
  rintro e w'' ⟨u, rfl, hg, hmade, hF⟩
  exact k u hF _ _ (ha.put hn true _) (hw.push hg (r u) hmade.1 hmade.2)
end
end
end Go.Rd
