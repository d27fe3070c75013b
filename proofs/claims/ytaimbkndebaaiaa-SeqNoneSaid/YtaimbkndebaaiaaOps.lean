/- Rules for printed walks: numbers, parts of slices, rows of rows, strings. -/
import Derived.Test.YtaimbkndebaaiaaLoops
namespace Go.Rd
open Go.RowKit
set_option linter.unusedVariables false
set_option linter.unusedSimpArgs false

/-! ### Numbers -/
def bt (n : Int) : UInt8 := UInt8.ofNat (n % 256).toNat
theorem u8_wrap (n : Int) : IntKind.u8.wrap n = n % 256 := by
  simp [IntKind.wrap, IntKind.bits, IntKind.signed]
theorem bt_nat (n : Int) : ((bt n).toNat : Int) = n % 256 := by
  unfold bt
  have h1 : 0 ≤ n % 256 := Int.emod_nonneg _ (by decide)
  have h2 : n % 256 < 256 := Int.emod_lt_of_pos _ (by decide)
  have : (UInt8.ofNat (n % 256).toNat).toNat = (n % 256).toNat := by
    rw [UInt8.toNat_ofNat']; apply Nat.mod_eq_of_lt; omega
  rw [this]; omega
theorem wrap_bt (n : Int) : Value.int .u8 (IntKind.u8.wrap n) = .int .u8 ((bt n).toNat : Int) := by rw [bt_nat, u8_wrap]
theorem wrap_byte (b : UInt8) : Value.int .i64 (IntKind.i64.wrap (b.toNat : Int)) = .int .i64 (b.toNat : Int) := by
  have := UInt8.toNat_lt b
  rw [wrap_i64 (by omega) (by omega)]
theorem wrap_in {n : Int} (h : IR n) : Value.int .i64 (IntKind.i64.wrap n) = .int .i64 n := by rw [wrap_i64 h.1 h.2]
def bitAnd (i j : Int) : Int := IntKind.i64.wrap (BitVec.ofInt 64 i &&& BitVec.ofInt 64 j).toNat
def bitOr (i j : Int) : Int := IntKind.i64.wrap (BitVec.ofInt 64 i ||| BitVec.ofInt 64 j).toNat
def bitXor (i j : Int) : Int := IntKind.i64.wrap (BitVec.ofInt 64 i ^^^ BitVec.ofInt 64 j).toNat
def shrD (i j : Int) : Int := i.fdiv (2 ^ (min j.toNat 64))
def shlD (i j : Int) : Int := IntKind.i64.wrap (i * 2 ^ (min j.toNat 64))
def SX (i j n : Int) : Prop := 0 ≤ i ∧ i ≤ j ∧ j ≤ n
instance (i j n : Int) : Decidable (SX i j n) := by unfold SX; infer_instance
/-- How long a string may become. -/
def SL (l : List UInt8) : Prop := l.length ≤ 9223372036854775807
instance (l : List UInt8) : Decidable (SL l) := by unfold SL; infer_instance
def scell (s : List UInt8) : List Value := [strV s]
theorem scell_len : ∀ s : List UInt8, (scell s).length = 1 := fun _ => rfl
theorem scell_one (ys : List (List UInt8)) : ∀ u ∈ ys, ∀ c ∈ scell u, c.oneCell' = true := fun n _ c hc => by simp [scell] at hc; subst hc; rfl

section
variable {P : Program} {n : Nat} {σ : Env} {C : World → Prop} {d : Option Tmp} {T U E D z : TypeId} {pos : String} {after : Array Edge} {gd : Option (Nat × Bool)} {x y lo hi : Operand} {g g' g'' : Bool} {v : Value} {i j : Int} {a b : List UInt8} {sz m : Nat}

theorem QV.andD (hx : σ.ev x = some (g, .int .i64 i)) (hg : g = true) (hy : σ.ev y = some (g', .int .i64 j)) (hg' : g' = true) : QV P ⟨d, .binOp .and U x y z, T, pos, after, gd⟩ σ C (.int .i64 (bitAnd i j)) := QV.andW hx hg hy hg'
theorem QV.orD (hx : σ.ev x = some (g, .int .i64 i)) (hg : g = true) (hy : σ.ev y = some (g', .int .i64 j)) (hg' : g' = true) : QV P ⟨d, .binOp .or U x y z, T, pos, after, gd⟩ σ C (.int .i64 (bitOr i j)) := QV.orW hx hg hy hg'
theorem QV.xorD (hx : σ.ev x = some (g, .int .i64 i)) (hg : g = true) (hy : σ.ev y = some (g', .int .i64 j)) (hg' : g' = true) : QV P ⟨d, .binOp .xor U x y z, T, pos, after, gd⟩ σ C (.int .i64 (bitXor i j)) := QV.xorW hx hg hy hg'
theorem QV.shrD {k' : IntKind} (hx : σ.ev x = some (g, .int .i64 i)) (hg : g = true) (hy : σ.ev y = some (g', .int k' j)) (hg' : g' = true) (h0 : 0 ≤ j) : QV P ⟨d, .binOp .shr U x y z, T, pos, after, gd⟩ σ C (.int .i64 (shrD i j)) := QV.shrW hx hg hy hg' h0
theorem QV.shlD {k' : IntKind} (hx : σ.ev x = some (g, .int .i64 i)) (hg : g = true) (hy : σ.ev y = some (g', .int k' j)) (hg' : g' = true) (h0 : 0 ≤ j) : QV P ⟨d, .binOp .shl U x y z, T, pos, after, gd⟩ σ C (.int .i64 (shlD i j)) := QV.shlW hx hg hy hg' h0
theorem QV.quo (hx : σ.ev x = some (g, .int .i64 i)) (hg : g = true) (hy : σ.ev y = some (g', .int .i64 j)) (hg' : g' = true) (h0 : j ≠ 0) (hr : IR (i.tdiv j)) : QV P ⟨d, .binOp .quo U x y z, T, pos, after, gd⟩ σ C (.int .i64 (i.tdiv j)) :=
  QV.eqv (wrap_in hr) (QV.quoW hx hg hy hg' h0)
theorem QV.neg (hx : σ.ev x = some (g, .int .i64 i)) (hg : g = true) (hr : IR (-i)) : QV P ⟨d, .unOp .neg U x, T, pos, after, gd⟩ σ C (.int .i64 (-i)) := .of_run fun n a ha w hw => by
  have e : (0 : Int) - i = -i := by omega
  simp [execOp, ha.ev hx hg, Op.unary, Op.intArith, wrap_i64 hr.1 hr.2]
theorem QV.max2 {ats : Array TypeId} {k : IntKind} (hx : σ.ev x = some (g, .int k i)) (hg : g = true) (hy : σ.ev y = some (g', .int k j)) (hg' : g' = true) : QV P ⟨d, .call ⟨.builtin .max, #[x, y], ats⟩, T, pos, after, gd⟩ σ C (.int k (max i j)) := .of_run fun n a ha w hw => by
  have e : (if j > i then j else i) = max i j := by split <;> omega
  simp [execOp, resolve, invoke, builtin, ha.ev hx hg, ha.ev hy hg', Builtin.max_, Builtin.max2, List.foldlM, e]
theorem QV.min2 {ats : Array TypeId} {k : IntKind} (hx : σ.ev x = some (g, .int k i)) (hg : g = true) (hy : σ.ev y = some (g', .int k j)) (hg' : g' = true) : QV P ⟨d, .call ⟨.builtin .min, #[x, y], ats⟩, T, pos, after, gd⟩ σ C (.int k (min i j)) := .of_run fun n a ha w hw => by
  have e : (if j < i then j else i) = min i j := by split <;> omega
  simp [execOp, resolve, invoke, builtin, ha.ev hx hg, ha.ev hy hg', Builtin.min_, Builtin.min2, List.foldlM, e]

/-! ### Parts of slices -/
theorem QV.sliceLHd {k k' : IntKind} {α : Type} {xs : List α} (hT : SliceT P U E sz) (hx : σ.ev x = some (g, v)) (hg : g = true) (hl : SliceLen v xs.length) (hlo : σ.ev lo = some (g', .int k i)) (hg' : g' = true) (hhi : σ.ev hi = some (g'', .int k' j)) (hg'' : g'' = true)
    (h : SX i j (ln xs)) : QV P ⟨d, .slice U x (some lo) (some hi) none, T, pos, after, gd⟩ σ C (subS v sz i.toNat j.toNat) := QV.sliceLH hT hx hg hl hlo hg' hhi hg'' h.1 h.2.1 h.2.2
theorem QV.sliceHd {k' : IntKind} {α : Type} {xs : List α} (hT : SliceT P U E sz) (hx : σ.ev x = some (g, v)) (hg : g = true) (hl : SliceLen v xs.length) (hhi : σ.ev hi = some (g'', .int k' j)) (hg'' : g'' = true)
    (h : SX 0 j (ln xs)) : QV P ⟨d, .slice U x none (some hi) none, T, pos, after, gd⟩ σ C (subS v sz (0 : Int).toNat j.toNat) := QV.sliceH hT hx hg hl hhi hg'' h.2.1 h.2.2
theorem QV.sliceLd {k : IntKind} {α : Type} {xs : List α} (hT : SliceT P U E sz) (hx : σ.ev x = some (g, v)) (hg : g = true) (hl : SliceLen v xs.length) (hlo : σ.ev lo = some (g', .int k i)) (hg' : g' = true)
    (h : SX i (ln xs) (ln xs)) : QV P ⟨d, .slice U x (some lo) none none, T, pos, after, gd⟩ σ C (subS v sz i.toNat (ln xs).toNat) := QV.sliceL hT hx hg hl hlo hg' h.1 (show i ≤ (xs.length : Int) from h.2.1)
theorem subS_sub {α : Type} {enc : α → List Value} {w : World} {v : Value} {i j : Int} {sz : Nat} {xs : List α} (hv : Arr w v sz (xs.map enc)) (h : SX i j (ln xs)) : Arr w (subS v sz i.toNat j.toNat) sz ((sub xs i j).map enc) := by
  have h1 := h.1; have h2 := h.2.1; have h3 := h.2.2
  unfold ln at h3
  have := subS_map hv (l := i.toNat) (h := j.toNat) (by omega) (by omega)
  rwa [show j.toNat - i.toNat = (j - i).toNat from by omega] at this

/-! ### Strings -/
theorem QV.strAddD (hx : σ.ev x = some (g, strV a)) (hg : g = true) (hy : σ.ev y = some (g', strV b)) (hg' : g' = true) (hl : SL (a ++ b)) : QV P ⟨d, .binOp .add U x y z, T, pos, after, gd⟩ σ C (strV (a ++ b)) := QV.strAdd hx hg hy hg' (by unfold SL at hl; simpa using hl)
theorem QV.strNeq (hx : σ.ev x = some (g, strV a)) (hg : g = true) (hy : σ.ev y = some (g', strV b)) (hg' : g' = true) : QV P ⟨d, .binOp .neq U x y z, T, pos, after, gd⟩ σ C (.bool (a != b)) := .of_run fun n ac ha w hw => by
  have e1 := ha.ev hx hg
  have e2 := ha.ev hy hg'
  have e3 : (eqGuard .neq U x y (strV a) (strV b)).run P w = .ok () w := by simp [eqGuard, strV]
  have e4 : (binOp .neq U (strV a) (strV b)).run P w = .ok (.bool (a != b)) w := by
    unfold strV
    rw [binOp_string_neq, toList_ba, toList_ba]
    simp [bne]
  simp only [execOp, e1, e2, Sem.run_bind, e3, e4, Result.andThen_ok, Sem.run_pure]
theorem QV.lenStr (hU : P.underlying U = some .string) (hx : σ.ev x = some (g, strV a)) (hg : g = true) : QV P ⟨d, .call ⟨.builtin .len, #[x], #[U]⟩, T, pos, after, gd⟩ σ C (.int .i64 (ln a)) := .of_run fun n ac ha w hw => by
  have e1 := ha.ev hx hg
  have e : (ByteArray.mk a.toArray).size = a.length := by simp [ByteArray.size]
  simp [execOp, resolve, invoke, builtin, e1, strV, Builtin.len_, run_underlying hU, goInt, ln, e]
end

/-! ### Structs with slices -/
def fillL (place : Nat → Option (Nat × Nat)) (cells : Array Value) : List (Nat × List Value) → Option (Array Value)
  | [] => some cells
  | (i, v) :: rest =>
    match place i with
    | none => none
    | some (off, size) =>
      if v.length ≠ size || off + v.length > cells.size then none
      else fillL place (v.toArray.zipIdx.foldl (fun cs (c, j) => cs.setIfInBounds (off + j) c) cells) rest
def builtL (P : Program) (t : TypeId) (parts : List (Nat × List Value)) : Option (Array Value) :=
  match P.info? t, P.underlying t with
  | some it, some (.array _ e) =>
    match it.zero, P.info? e with
    | some z, some ie => fillL (fun i => some (i * ie.size, ie.size)) z.cells parts
    | _, _ => none
  | some it, some (.struct fields) =>
    match it.zero, fields.toList.mapM (fun f => (P.info? f.type).map fun i => (f.offset, i.size)) with
    | some z, some places => fillL (places.toArray[·]?) z.cells parts
    | _, _ => none
  | _, _ => none
def CellsAll : List Value → List (List Value) → Prop
  | [], [] => True
  | v :: vs, c :: cs => v.cells = c.toArray ∧ CellsAll vs cs
  | _, _ => False
theorem CellsAll.nil : CellsAll [] [] := trivial
theorem CellsAll.cons {v : Value} {c : List Value} {vs : List Value} {cs : List (List Value)} (h : v.cells = c.toArray) (k : CellsAll vs cs) : CellsAll (v :: vs) (c :: cs) := ⟨h, k⟩
theorem fill_eq {place : Nat → Option (Nat × Nat)} : ∀ (is : List Nat) {vs : List Value} {css : List (List Value)} (cells : Array Value), CellsAll vs css → Instr.fill place cells (is.zip vs) = fillL place cells (is.zip css)
  | _, [], [], cells, _ => by simp [Instr.fill, fillL]
  | [], _ :: _, _ :: _, cells, _ => by simp [Instr.fill, fillL]
  | i :: is, v :: vs, c :: cs, cells, ⟨h, k⟩ => by
    simp only [List.zip_cons_cons, Instr.fill, fillL]
    cases place i with
    | none => rfl
    | some p =>
      obtain ⟨off, size⟩ := p
      simp only [h, List.size_toArray]
      rw [fill_eq is _ k]
theorem built_eq {P : Program} {t : TypeId} {is : List Nat} {vs : List Value} {css : List (List Value)} (h : CellsAll vs css) : P.built t (is.zip vs) = builtL P t (is.zip css) := by
  unfold Program.built builtL
  cases P.info? t with
  | none => rfl
  | some it =>
    cases P.underlying t with
    | none => rfl
    | some dd => cases dd <;> first | rfl | (simp only [fill_eq is _ h]; rfl)
theorem QV.buildS {P : Program} {σ : Env} {C : World → Prop} {d : Option Tmp} {T U : TypeId} {pos : String} {after : Array Edge} {gd : Option (Nat × Bool)} {ps : List (Nat × Operand)} {vs cells : List Value} {css : List (List Value)} (hv : EvAll σ (ps.map (·.2)) vs) (hc : CellsAll vs css) (hb : builtL P U ((ps.map (·.1)).zip css) = some cells.toArray) :
    QV P ⟨d, .build U ps.toArray, T, pos, after, gd⟩ σ C (.agg cells.toArray) := QV.build hv (by rw [built_eq hc]; exact hb)

/-! ### Rows of rows -/
/-- A slice of slices of numbers. -/
def RowsA (w : World) (v : Value) (xss : List (List Int)) : Prop := ∃ B : List (Value × List Int), B.map (·.2) = xss ∧ Arr w v 1 (B.map vcell) ∧ RowsK w B
theorem RowsA.le {k k' : World} {v : Value} {xss : List (List Int)} (h : RowsA k v xss) (hl : Le k k') : RowsA k' v xss := by
  obtain ⟨B, h1, h2, h3⟩ := h; exact ⟨B, h1, h2.le hl, h3.le hl⟩
theorem RowsA.slen {w : World} {v : Value} {xss : List (List Int)} (h : RowsA w v xss) : SliceLen v xss.length := by
  obtain ⟨B, rfl, h2, h3⟩ := h
  have := h2.lenMap
  rwa [List.length_map]
theorem RowsA.ix {w : World} {v : Value} {xss : List (List Int)} (h : RowsA w v xss) {i : Int} (hi : IX i (ln xss)) : ∃ p u, ElemP v i 1 p ∧ CellsAt w p [u] 0 ∧ Arr w u 1 ((ele xss i).map icell) := by
  obtain ⟨B, rfl, h2, h3⟩ := h
  have h0 := hi.1; have h1 := hi.2
  unfold ln at h1
  rw [List.length_map] at h1
  have hlt : i.toNat < B.length := by omega
  obtain ⟨p, hp⟩ := h2.lenMap.elem 1 i h0 h1
  refine ⟨p, (B[i.toNat]).1, hp, ?_, ?_⟩
  · have := h2.row i.toNat (vcell B[i.toNat]) p (by simp [List.getElem?_eq_getElem hlt]) (by rwa [Int.toNat_of_nonneg h0])
    exact this
  · have := h3 B[i.toNat] (List.getElem_mem hlt)
    have e : ele (B.map (·.2)) i = (B[i.toNat]).2 := by simp [ele, List.getD_eq_getElem?_getD, List.getElem?_eq_getElem hlt]
    rw [e]; exact this
theorem RowsA.ixG {w : World} {v : Value} {xss : List (List Int)} (h : RowsA w v xss) {i : Int} {g : Prop} (hi : g → IX i (ln xss)) : ∃ p u, (g → ElemP v i 1 p) ∧ (g → CellsAt w p [u] 0) ∧ Arr w u 1 ((ele xss i).map icell) := by
  by_cases hg : g
  · obtain ⟨p, u, h1, h2, h3⟩ := h.ix (hi hg)
    exact ⟨p, u, fun _ => h1, fun _ => h2, h3⟩
  · by_cases hr : i.toNat < xss.length
    · have hx : IX (i.toNat : Int) (ln xss) := ⟨by omega, by unfold ln; omega⟩
      obtain ⟨p, u, h1, h2, h3⟩ := h.ix hx
      refine ⟨p, u, fun h => absurd h hg, fun h => absurd h hg, ?_⟩
      rwa [show ele xss (i.toNat : Int) = ele xss i from by unfold ele; rw [Int.toNat_natCast]] at h3
    · refine ⟨default, .slice none 0 0, fun h => absurd h hg, fun h => absurd h hg, ?_⟩
      have e : ele xss i = [] := by simp [ele, List.getD_eq_getElem?_getD, List.getElem?_eq_none (Nat.le_of_not_lt hr)]; rfl
      rw [e]; exact Arr.nil
theorem Own.krows {M : Nat → Prop} {w0 k0 k : World} {H : List Res} (j : Nat) (hj : H[j]? = some (kn M w0.heap.size k0 k)) (hb : Base M k0 w0) {v : Value} {xss : List (List Int)} (h : RowsA k v xss) : ∀ w, Own M w0 H w → RowsA w v xss := fun w hw => h.le (Own.le j hj hb hw)
theorem vcell_len : ∀ p : Value × List Int, (vcell p).length = 1 := fun _ => rfl
theorem RowsK.cons {k : World} {v : Value} {xs : List Int} {B : List (Value × List Int)} (h : Arr k v 1 (xs.map icell)) (h' : RowsK k B) : RowsK k ((v, xs) :: B) := fun p hp => by
  rcases List.mem_cons.1 hp with rfl | hp
  · exact h
  · exact h' p hp
theorem RowsA.nil {k : World} : RowsA k (.slice none 0 0) [] := ⟨[], rfl, Arr.nil, RowsK.nil⟩
theorem CellsAt.le {k w : World} {p : Addr} {l : List Value} {j : Nat} (h : CellsAt k p l j) (hl : Le k w) : CellsAt w p l j := h.mono hl
theorem blk_cells {w : World} {b : Nat} {cs : List Value} {T : TypeId} (h : (blk b cs T).holds w) : CellsAt w ⟨b, 0, none⟩ cs 0 := CellsAt.of fun j v hv => by
  have h' : w.heap[b]? = some (.cells cs.toArray T (0, 0)) := h
  rw [Nat.zero_add, Addr.add_lit, Nat.zero_add]
  simp [World.cell?, h', hv]
theorem RowsK.append {k : World} {A B : List (Value × List Int)} (h : RowsK k A) (h' : RowsK k B) : RowsK k (A ++ B) := fun p hp => (List.mem_append.1 hp).elim (h p) (h' p)
theorem rowsk_one {k : World} {B : List (Value × List Int)} (h : RowsK k B) : ∀ u ∈ B, ∀ c ∈ vcell u, c.oneCell' = true := fun p hp c hc => by
  simp [vcell] at hc; subst hc
  exact (h p hp).len.one
theorem RowsA.sub {w : World} {v : Value} {xss : List (List Int)} {i j : Int} (h : RowsA w v xss) (hx : SX i j (ln xss)) : RowsA w (subS v 1 i.toNat j.toNat) (Rd.sub xss i j) := by
  obtain ⟨B, rfl, h2, h3⟩ := h
  have hx' : SX i j (ln B) := by unfold ln at *; simpa using hx
  refine ⟨Rd.sub B i j, by simp [Rd.sub, List.map_take, List.map_drop], subS_sub h2 hx', fun p hp => h3 p ?_⟩
  unfold Rd.sub at hp
  exact List.mem_of_mem_drop (List.mem_of_mem_take hp)
theorem rows_maps {A B : List (Value × List Int)} {xss yss : List (List Int)} (h : A.map (·.2) = xss) (h' : B.map (·.2) = yss) : (A ++ B).map (·.2) = xss ++ yss := by rw [List.map_append, h, h']
theorem rows_map {B : List (Value × List Int)} {xss : List (List Int)} {u : Value} {r : List Int} (h : B.map (·.2) = xss) : (B ++ [(u, r)]).map (·.2) = xss ++ [r] := by rw [List.map_append, h]; rfl
theorem AL.b1 {B : List (Value × List Int)} {xss : List (List Int)} {b : Nat} (h : B.map (·.2) = xss) (ha : AL xss.length b) : B.length ≤ maxLen := by subst h; have := ha.1; rwa [List.length_map] at this
theorem AL.b2 {B : List (Value × List Int)} {xss : List (List Int)} {b : Nat} (h : B.map (·.2) = xss) (ha : AL xss.length b) : B.length * b ≤ 140737488355328 := by subst h; have := ha.2; rwa [List.length_map] at this
section
variable {P : Program} {n : Nat} {σ : Env} {M : Nat → Prop} {w0 k0 k : World} {H : List Res} {o : Oper} {K : Act → World → Prop} {Q : Exit → Act → World → Prop}
theorem WK.of {C C' : World → Prop} (h : ∀ w, C w → C' w) (kk : WK n K σ C') : WK n K σ C := fun a w ha hw => kk a w ha (h w hw)
theorem EV.of {C C' : World → Prop} (h : ∀ w, C w → C' w) (kk : EV P n o σ C' K Q) : EV P n o σ C K Q := fun a w ha hw => kk a w ha (h w hw)
theorem EV.freeze {r : Res} (hb : Base M k0 w0) (kk : ∀ k', Le k k' → r.holds k' → EV P n o σ (Own M w0 (kn M w0.heap.size k0 k' :: H)) K Q) : EV P n o σ (Own M w0 (kn M w0.heap.size k0 k :: r :: H)) K Q := fun a w ha hw => by
  obtain ⟨k', h1, h2, h3⟩ := hw.freeze hb
  exact kk k' h1 h2 a w ha h3
end
end Go.Rd
