/- Rules for single operations, over any program: what each yields, and what becomes of the call's own memory. -/
import Derived.Test.YtaimbkndebaaiaaCore
namespace Go.Rd
open Go.RowKit
set_option linter.unusedVariables false
set_option linter.unusedSimpArgs false

/-! ### The call's own memory -/
structure Res where
  foot : Nat → Prop
  holds : World → Prop
  stable : ∀ w w', holds w → (∀ b, foot b → w'.heap[b]? = w.heap[b]?) → holds w'

/-- Of what was there nothing has changed but in M. -/
structure Frame (M : Nat → Prop) (w0 w : World) : Prop where
  os : w.os = w0.os
  tape : w.tape = w0.tape
  output : w.output = w0.output ∧ w0.drawn ≤ w.drawn
  size : w0.heap.size ≤ w.heap.size
  block : ∀ b, b < w0.heap.size → ¬ M b → w.heap[b]? = w0.heap[b]?

/-- Nothing at all. -/
def noM : Nat → Prop := fun _ => False
theorem Frame.refl {M : Nat → Prop} (w : World) : Frame M w w := ⟨rfl, rfl, ⟨rfl, Nat.le_refl _⟩, Nat.le_refl _, fun _ _ _ => rfl⟩
theorem Frame.grow {w0 w : World} (h : Frame noM w0 w) : Grow w0 w := ⟨h.os, h.tape, h.output, h.size, fun b hb => h.block b hb (fun x => x)⟩
theorem Frame.trans {M : Nat → Prop} {w0 w w' : World} (h : Frame M w0 w) (k : Frame (fun b => M b ∨ w0.heap.size ≤ b) w w') : Frame M w0 w' :=
  ⟨k.os.trans h.os, k.tape.trans h.tape, ⟨k.output.1.trans h.output.1, Nat.le_trans h.output.2 k.output.2⟩, Nat.le_trans h.size k.size, fun b hb hM => (k.block b (Nat.lt_of_lt_of_le hb h.size) (by rintro (x | x); exact hM x; omega)).trans (h.block b hb hM)⟩

/-- Each resource holds, lies in blocks that are the call's, and shares none with another. -/
def AllOwn (B : Nat → Prop) (w : World) : List Res → Prop
  | [] => True
  | r :: H => (r.holds w ∧ (∀ b, r.foot b → B b ∧ b < w.heap.size) ∧ ∀ s ∈ H, ∀ b, r.foot b → ¬ s.foot b) ∧ AllOwn B w H

/-- The blocks of M, and those made since w0, are the call's. -/
def Mine (M : Nat → Prop) (w0 : World) (b : Nat) : Prop := M b ∨ w0.heap.size ≤ b
def Own (M : Nat → Prop) (w0 : World) (H : List Res) (w : World) : Prop := Frame M w0 w ∧ AllOwn (Mine M w0) w H

theorem AllOwn.change {B : Nat → Prop} {w w' : World} (hs : w.heap.size ≤ w'.heap.size) : ∀ {H : List Res}, AllOwn B w H → (∀ r ∈ H, ∀ b, r.foot b → w'.heap[b]? = w.heap[b]?) → AllOwn B w' H
  | [], _, _ => trivial
  | r :: H, ⟨⟨h1, h2, h3⟩, h4⟩, hk => ⟨⟨r.stable w w' h1 (hk r (by simp)), fun b hb => ⟨(h2 b hb).1, Nat.lt_of_lt_of_le (h2 b hb).2 hs⟩, h3⟩, h4.change hs fun s hs' => hk s (List.mem_cons_of_mem _ hs')⟩

theorem AllOwn.lt {B : Nat → Prop} {w : World} : ∀ {H : List Res}, AllOwn B w H → ∀ r ∈ H, ∀ b, r.foot b → B b ∧ b < w.heap.size
  | r :: H, ⟨⟨_, h2, _⟩, h4⟩, s, hs, b, hb => by
    rcases List.mem_cons.1 hs with rfl | hs
    · exact h2 b hb
    · exact h4.lt s hs b hb

section
variable {M : Nat → Prop} {w0 w w' : World} {H : List Res}
theorem Own.closed : Closed (Own M w0 H) := fun w w' ⟨h1, h2⟩ hg =>
  ⟨h1.trans ⟨hg.os, hg.tape, hg.output, hg.size, fun b hb _ => hg.block b hb⟩, h2.change hg.size fun r hr b hb => hg.block b (h2.lt r hr b hb).2⟩

theorem Own.start (w0 : World) : Own noM w0 [] w0 := ⟨Frame.refl _, trivial⟩
theorem Own.grow (h : Own noM w0 H w) : Grow w0 w := h.1.grow

/-- A new resource, in blocks that have been made since. -/
theorem Own.push (h : Own M w0 H w) (hg : Grow w w') (r : Res) (hr : r.holds w') (hf : ∀ b, r.foot b → w.heap.size ≤ b ∧ b < w'.heap.size) : Own M w0 (r :: H) w' := by
  have hc := Own.closed w w' h hg
  refine ⟨hc.1, ⟨hr, fun b hb => ⟨.inr (Nat.le_trans h.1.size (hf b hb).1), (hf b hb).2⟩, fun s hs b hb hsb => ?_⟩, hc.2⟩
  have := (h.2.lt s hs b hsb).2
  have := (hf b hb).1
  omega

theorem Own.head {r : Res} (h : Own M w0 (r :: H) w) : r.holds w := h.2.1.1
theorem Own.tail {r : Res} (h : Own M w0 (r :: H) w) : Own M w0 H w := ⟨h.1, h.2.2⟩

/-- Resource number k. -/
theorem AllOwn.at {B : Nat → Prop} {w : World} : ∀ {H : List Res} (k : Nat) {r : Res}, AllOwn B w H → H[k]? = some r → r.holds w
  | r :: H, 0, s, ⟨⟨h1, _⟩, _⟩, hk => by simp at hk; exact hk ▸ h1
  | r :: H, k + 1, s, ⟨_, h4⟩, hk => h4.at k (by simpa using hk)
theorem Own.at (h : Own M w0 H w) (k : Nat) {r : Res} (hk : H[k]? = some r) : r.holds w := h.2.at k hk

/-- Resource number k becomes another one, the world having changed in its blocks and in new ones alone. -/
theorem AllOwn.upd {B : Nat → Prop} {w w' : World} (hs : w.heap.size ≤ w'.heap.size) : ∀ {H : List Res} (k : Nat) {r r' : Res}, AllOwn B w H → H[k]? = some r →
    (∀ b, b < w.heap.size → ¬ r.foot b → w'.heap[b]? = w.heap[b]?) → r'.holds w' → (∀ b, r'.foot b → (r.foot b ∨ w.heap.size ≤ b) ∧ b < w'.heap.size) → (∀ b, w.heap.size ≤ b → B b) → AllOwn B w' (H.set k r')
  | s :: H, 0, r, r', ⟨⟨h1, h2, h3⟩, h4⟩, hk, hch, hr', hf, hB => by
    simp at hk; subst hk
    refine ⟨⟨hr', fun b hb => ⟨?_, (hf b hb).2⟩, fun t ht b hb htb => ?_⟩, ?_⟩
    · rcases (hf b hb).1 with h | h
      · exact (h2 b h).1
      · exact hB b h
    · rcases (hf b hb).1 with h | h
      · exact h3 t ht b h htb
      · have := (h4.lt t ht b htb).2; omega
    · exact h4.change hs fun t ht b hb => hch b (h4.lt t ht b hb).2 fun hrb => h3 t ht b hrb hb
  | s :: H, k + 1, r, r', ⟨⟨h1, h2, h3⟩, h4⟩, hk, hch, hr', hf, hB => by
    have hk' : H[k]? = some r := by simpa using hk
    have hmem : r ∈ H := List.mem_of_getElem? hk'
    refine ⟨⟨s.stable w w' h1 fun b hb => hch b (h2 b hb).2 fun hrb => h3 r hmem b hb hrb, fun b hb => ⟨(h2 b hb).1, Nat.lt_of_lt_of_le (h2 b hb).2 hs⟩, fun t ht b hb htb => ?_⟩, h4.upd hs k hk' hch hr' hf hB⟩
    rcases List.mem_or_eq_of_mem_set ht with h | rfl
    · exact h3 t h b hb htb
    · rcases (hf b htb).1 with h | h
      · exact h3 r hmem b hb h
      · have := (h2 b hb).2; omega

theorem Own.upd (h : Own M w0 H w) (k : Nat) {r r' : Res} (hk : H[k]? = some r) (hos : w'.os = w.os) (htape : w'.tape = w.tape) (hout : w'.output = w.output ∧ w.drawn ≤ w'.drawn) (hs : w.heap.size ≤ w'.heap.size)
    (hch : ∀ b, b < w.heap.size → ¬ r.foot b → w'.heap[b]? = w.heap[b]?) (hr' : r'.holds w') (hf : ∀ b, r'.foot b → (r.foot b ∨ w.heap.size ≤ b) ∧ b < w'.heap.size) : Own M w0 (H.set k r') w' := by
  refine ⟨h.1.trans ⟨hos, htape, hout, hs, fun b hb hM => hch b hb fun hrb => ?_⟩, h.2.upd hs k hk hch hr' hf fun b hb => .inr (Nat.le_trans h.1.size hb)⟩
  exact hM (h.2.lt r (List.mem_of_getElem? hk) b hrb).1
end

theorem Own.lt {w0 w : World} {H : List Res} (h : Own noM w0 H w) : ∀ r ∈ H, ∀ b, r.foot b → w0.heap.size ≤ b ∧ b < w.heap.size := fun r hr b hb => by
  obtain ⟨h1, h2⟩ := h.2.lt r hr b hb
  exact ⟨h1.elim (fun x => x.elim) id, h2⟩

/-- A block of the call's own, known whole. -/
def blk (b : Nat) (cs : List Value) (T : TypeId) : Res where
  foot := fun x => x = b
  holds := fun w => w.heap[b]? = some (.cells cs.toArray T (0, 0))
  stable := fun w w' h hk => (hk b rfl).trans h

theorem Own.cell {M : Nat → Prop} {w0 : World} {H : List Res} (k : Nat) {b : Nat} {cs : List Value} {T : TypeId} {off : Nat} {v : Value} (hk : H[k]? = some (blk b cs T)) (hv : cs[off]? = some v) :
    ∀ w, Own M w0 H w → w.cell? ⟨b, off, none⟩ = some v := fun w hw => by
  have h : w.heap[b]? = some (.cells cs.toArray T (0, 0)) := hw.at k hk
  simp [World.cell?, h, hv]

/-- A cell that was there when the call began. -/
theorem Own.base {w0 : World} {H : List Res} {p : Addr} {v : Value} (h : w0.cell? p = some v) : ∀ w, Own noM w0 H w → w.cell? p = some v := fun w hw => by
  rw [hw.grow.cell (World.block_lt_of_cell? w0 p h)]; exact h

/-! ### Facts on types -/
def TypeDesc.agg : TypeDesc → Bool
  | .struct _ | .array _ _ => true
  | _ => false
def Plain (P : Program) (T : TypeId) : Prop := ∃ d, P.underlying T = some d ∧ TypeDesc.agg d = false
def AggT (P : Program) (T : TypeId) (sz : Nat) : Prop := ∃ d, P.underlying T = some d ∧ TypeDesc.agg d = true ∧ (P.info? T).map (·.size) = some sz
def SizeT (P : Program) (T : TypeId) (sz : Nat) : Prop := (P.info? T).map (·.size) = some sz
def ZeroT (P : Program) (T : TypeId) (cs : List Value) : Prop := (P.info? T).map (fun i => i.zero.map Value.cells) = some (some cs.toArray)
theorem ZeroT.out {P : Program} {T : TypeId} {cs : List Value} (h : ZeroT P T cs) : ∃ i v, P.info? T = some i ∧ i.zero = some v ∧ v.cells = cs.toArray := by
  obtain ⟨i, h1, h2⟩ := Option.map_eq_some_iff.1 h
  obtain ⟨v, h3, h4⟩ := Option.map_eq_some_iff.1 h2
  exact ⟨i, v, h1, h3, h4⟩
def FieldT (P : Program) (T : TypeId) (f off : Nat) : Prop := ∃ fs fd sz, P.underlying T = some (.struct fs) ∧ fs[f]? = some fd ∧ fd.offset = off ∧ (P.info? fd.type).map (·.size) = some (sz + 1)
def SliceT (P : Program) (T E : TypeId) (sz : Nat) : Prop := P.underlying T = some (.slice E) ∧ (P.info? E).map (·.size) = some sz
def ArrayT (P : Program) (T : TypeId) (len sz : Nat) : Prop := ∃ E, P.underlying T = some (.array len E) ∧ (P.info? E).map (·.size) = some sz
def Enters (P : Program) (f : FuncId) : Prop := ∃ fn, P.funcs[f]? = some fn ∧ fn.body.isNone = false ∧ (fn.name == "runtime.NumGoroutine") = false

section
variable {P : Program} {σ : Env} {C : World → Prop} {d : Option Tmp} {T U : TypeId} {pos : String} {after : Array Edge} {gd : Option (Nat × Bool)} {x y : Operand} {z : TypeId} {g g' g'' : Bool} {v : Value}

theorem eval_const (a : Act) (v : Value) : a.eval (.const v) = v := rfl
theorem QV.of_run {o : Oper} (h : ∀ n a, Has n a σ → ∀ w, C w → (execOp a.eval o).run P w = .ok (.value v) w) : QV P o σ C v := fun n a ha w hw => .inl (h n a ha w hw)

theorem QV.move (hx : σ.ev x = some (g, v)) (hg : g = true) : QV P ⟨d, .move x, T, pos, after, gd⟩ σ C v := .of_run fun n a ha w hw => by
  simp [execOp, ha.ev hx hg]
theorem QV.assign (hx : σ.ev x = some (g, v)) (hg : g = true) : QV P ⟨d, .assign x, T, pos, after, gd⟩ σ C v := .of_run fun n a ha w hw => by
  simp [execOp, ha.ev hx hg]

theorem QV.pickAnd {p q : Bool} (hx : σ.ev x = some (g, .bool p)) (hg : g = true) (hy : σ.ev y = some (g', .bool q)) (hg' : p = true → g' = true) :
    QV P ⟨d, .pick x y (.const (.bool false)), T, pos, after, gd⟩ σ C (.bool (p && q)) := .of_run fun n a ha w hw => by
  cases p with
  | true => simp [execOp, ha.ev hx hg, ha.ev hy (hg' rfl), asBool]
  | false => simp [execOp, ha.ev hx hg, asBool, eval_const]
theorem QV.pickOr {p q : Bool} (hx : σ.ev x = some (g, .bool p)) (hg : g = true) (hy : σ.ev y = some (g', .bool q)) (hg' : p = false → g' = true) :
    QV P ⟨d, .pick x (.const (.bool true)) y, T, pos, after, gd⟩ σ C (.bool (p || q)) := .of_run fun n a ha w hw => by
  cases p with
  | false => simp [execOp, ha.ev hx hg, ha.ev hy (hg' rfl), asBool]
  | true => simp [execOp, ha.ev hx hg, asBool, eval_const]

theorem QV.not {p : Bool} (hx : σ.ev x = some (g, .bool p)) (hg : g = true) : QV P ⟨d, .unOp .not U x, T, pos, after, gd⟩ σ C (.bool (!p)) := .of_run fun n a ha w hw => by
  simp [execOp, ha.ev hx hg, Op.unary]

theorem QV.eql {k : IntKind} {i j : Int} (hx : σ.ev x = some (g, .int k i)) (hg : g = true) (hy : σ.ev y = some (g', .int k j)) (hg' : g' = true) : QV P ⟨d, .binOp .eql U x y z, T, pos, after, gd⟩ σ C (.bool (i == j)) := .of_run fun n a ha w hw => by
  simp [execOp, ha.ev hx hg, ha.ev hy hg', eqGuard_at_int, binOp, Op.intCmp]
theorem QV.neq {k : IntKind} {i j : Int} (hx : σ.ev x = some (g, .int k i)) (hg : g = true) (hy : σ.ev y = some (g', .int k j)) (hg' : g' = true) : QV P ⟨d, .binOp .neq U x y z, T, pos, after, gd⟩ σ C (.bool (i != j)) := .of_run fun n a ha w hw => by
  simp [execOp, ha.ev hx hg, ha.ev hy hg', eqGuard_at_int, binOp, Op.intCmp]
theorem QV.lss {k : IntKind} {i j : Int} (hx : σ.ev x = some (g, .int k i)) (hg : g = true) (hy : σ.ev y = some (g', .int k j)) (hg' : g' = true) : QV P ⟨d, .binOp .lss U x y z, T, pos, after, gd⟩ σ C (.bool (decide (i < j))) := .of_run fun n a ha w hw => by
  simp [execOp, ha.ev hx hg, ha.ev hy hg', eqGuard_at_int, binOp, Op.intCmp]
theorem QV.leq {k : IntKind} {i j : Int} (hx : σ.ev x = some (g, .int k i)) (hg : g = true) (hy : σ.ev y = some (g', .int k j)) (hg' : g' = true) : QV P ⟨d, .binOp .leq U x y z, T, pos, after, gd⟩ σ C (.bool (decide (i ≤ j))) := .of_run fun n a ha w hw => by
  simp [execOp, ha.ev hx hg, ha.ev hy hg', eqGuard_at_int, binOp, Op.intCmp]
theorem QV.gtr {k : IntKind} {i j : Int} (hx : σ.ev x = some (g, .int k i)) (hg : g = true) (hy : σ.ev y = some (g', .int k j)) (hg' : g' = true) : QV P ⟨d, .binOp .gtr U x y z, T, pos, after, gd⟩ σ C (.bool (decide (i > j))) := .of_run fun n a ha w hw => by
  simp [execOp, ha.ev hx hg, ha.ev hy hg', eqGuard_at_int, binOp, Op.intCmp]
theorem QV.geq {k : IntKind} {i j : Int} (hx : σ.ev x = some (g, .int k i)) (hg : g = true) (hy : σ.ev y = some (g', .int k j)) (hg' : g' = true) : QV P ⟨d, .binOp .geq U x y z, T, pos, after, gd⟩ σ C (.bool (decide (i ≥ j))) := .of_run fun n a ha w hw => by
  simp [execOp, ha.ev hx hg, ha.ev hy hg', eqGuard_at_int, binOp, Op.intCmp]
theorem QV.addW {k : IntKind} {i j : Int} (hx : σ.ev x = some (g, .int k i)) (hg : g = true) (hy : σ.ev y = some (g', .int k j)) (hg' : g' = true) : QV P ⟨d, .binOp .add U x y z, T, pos, after, gd⟩ σ C (.int k (k.wrap (i + j))) := .of_run fun n a ha w hw => by
  simp [execOp, ha.ev hx hg, ha.ev hy hg', eqGuard_at_int, binOp, Op.intArith]
theorem QV.subW {k : IntKind} {i j : Int} (hx : σ.ev x = some (g, .int k i)) (hg : g = true) (hy : σ.ev y = some (g', .int k j)) (hg' : g' = true) : QV P ⟨d, .binOp .sub U x y z, T, pos, after, gd⟩ σ C (.int k (k.wrap (i - j))) := .of_run fun n a ha w hw => by
  simp [execOp, ha.ev hx hg, ha.ev hy hg', eqGuard_at_int, binOp, Op.intArith]
theorem QV.mulW {k : IntKind} {i j : Int} (hx : σ.ev x = some (g, .int k i)) (hg : g = true) (hy : σ.ev y = some (g', .int k j)) (hg' : g' = true) : QV P ⟨d, .binOp .mul U x y z, T, pos, after, gd⟩ σ C (.int k (k.wrap (i * j))) := .of_run fun n a ha w hw => by
  simp [execOp, ha.ev hx hg, ha.ev hy hg', eqGuard_at_int, binOp, Op.intArith]
theorem QV.andW {k : IntKind} {i j : Int} (hx : σ.ev x = some (g, .int k i)) (hg : g = true) (hy : σ.ev y = some (g', .int k j)) (hg' : g' = true) : QV P ⟨d, .binOp .and U x y z, T, pos, after, gd⟩ σ C (.int k (k.wrap (BitVec.ofInt k.bits i &&& BitVec.ofInt k.bits j).toNat)) := .of_run fun n a ha w hw => by
  simp [execOp, ha.ev hx hg, ha.ev hy hg', eqGuard_at_int, binOp, Op.intBits]
theorem QV.orW {k : IntKind} {i j : Int} (hx : σ.ev x = some (g, .int k i)) (hg : g = true) (hy : σ.ev y = some (g', .int k j)) (hg' : g' = true) : QV P ⟨d, .binOp .or U x y z, T, pos, after, gd⟩ σ C (.int k (k.wrap (BitVec.ofInt k.bits i ||| BitVec.ofInt k.bits j).toNat)) := .of_run fun n a ha w hw => by
  simp [execOp, ha.ev hx hg, ha.ev hy hg', eqGuard_at_int, binOp, Op.intBits]
theorem QV.xorW {k : IntKind} {i j : Int} (hx : σ.ev x = some (g, .int k i)) (hg : g = true) (hy : σ.ev y = some (g', .int k j)) (hg' : g' = true) : QV P ⟨d, .binOp .xor U x y z, T, pos, after, gd⟩ σ C (.int k (k.wrap (BitVec.ofInt k.bits i ^^^ BitVec.ofInt k.bits j).toNat)) := .of_run fun n a ha w hw => by
  simp [execOp, ha.ev hx hg, ha.ev hy hg', eqGuard_at_int, binOp, Op.intBits]
theorem QV.quoW {k : IntKind} {i j : Int} (hx : σ.ev x = some (g, .int k i)) (hg : g = true) (hy : σ.ev y = some (g', .int k j)) (hg' : g' = true) (h0 : j ≠ 0) : QV P ⟨d, .binOp .quo U x y z, T, pos, after, gd⟩ σ C (.int k (k.wrap (i.tdiv j))) := .of_run fun n a ha w hw => by
  simp [execOp, ha.ev hx hg, ha.ev hy hg', eqGuard_at_int, binOp, Op.intDiv, h0]
theorem QV.rem {k : IntKind} {i j : Int} (hx : σ.ev x = some (g, .int k i)) (hg : g = true) (hy : σ.ev y = some (g', .int k j)) (hg' : g' = true) (h0 : j ≠ 0) : QV P ⟨d, .binOp .rem U x y z, T, pos, after, gd⟩ σ C (.int k (i.tmod j)) := .of_run fun n a ha w hw => by
  simp [execOp, ha.ev hx hg, ha.ev hy hg', eqGuard_at_int, binOp, Op.intDiv, h0]
theorem QV.shlW {k k' : IntKind} {i j : Int} (hx : σ.ev x = some (g, .int k i)) (hg : g = true) (hy : σ.ev y = some (g', .int k' j)) (hg' : g' = true) (h0 : 0 ≤ j) :
    QV P ⟨d, .binOp .shl U x y z, T, pos, after, gd⟩ σ C (.int k (k.wrap (i * 2 ^ (min j.toNat k.bits)))) := .of_run fun n a ha w hw => by
  simp [execOp, ha.ev hx hg, ha.ev hy hg', eqGuard_at_int, binOp, Op.shift, Int.not_lt.2 h0]
theorem QV.shrW {k k' : IntKind} {i j : Int} (hx : σ.ev x = some (g, .int k i)) (hg : g = true) (hy : σ.ev y = some (g', .int k' j)) (hg' : g' = true) (h0 : 0 ≤ j) :
    QV P ⟨d, .binOp .shr U x y z, T, pos, after, gd⟩ σ C (.int k (i.fdiv (2 ^ (min j.toNat k.bits)))) := .of_run fun n a ha w hw => by
  simp [execOp, ha.ev hx hg, ha.ev hy hg', eqGuard_at_int, binOp, Op.shift, Int.not_lt.2 h0]
theorem run_equalIn_bool {w : World} (k : Nat) {p q : Bool} (hT : P.underlying U = some .bool) : (Op.equalIn (k + 1) U (.bool p) (.bool q)).run P w = .ok (p == q) w := by
  simp only [Op.equalIn]; simp [run_underlying hT]
theorem run_binOp_eqlB {w : World} {p q : Bool} (hT : P.underlying U = some .bool) : (binOp .eql U (.bool p) (.bool q)).run P w = .ok (.bool (p == q)) w := by
  simp only [binOp]; simp [Op.equal, Op.maxDepth, run_equalIn_bool 9999 hT]
theorem run_binOp_neqB {w : World} {p q : Bool} (hT : P.underlying U = some .bool) : (binOp .neq U (.bool p) (.bool q)).run P w = .ok (.bool (!(p == q))) w := by
  simp only [binOp]; simp [Op.equal, Op.maxDepth, run_equalIn_bool 9999 hT]
theorem QV.eqlB {p q : Bool} (hT : P.underlying U = some .bool) (hx : σ.ev x = some (g, .bool p)) (hg : g = true) (hy : σ.ev y = some (g', .bool q)) (hg' : g' = true) : QV P ⟨d, .binOp .eql U x y z, T, pos, after, gd⟩ σ C (.bool (p == q)) := .of_run fun n a ha w hw => by
  simp [execOp, ha.ev hx hg, ha.ev hy hg', eqGuard_at_bool, run_binOp_eqlB hT]
theorem QV.neqB {p q : Bool} (hT : P.underlying U = some .bool) (hx : σ.ev x = some (g, .bool p)) (hg : g = true) (hy : σ.ev y = some (g', .bool q)) (hg' : g' = true) : QV P ⟨d, .binOp .neq U x y z, T, pos, after, gd⟩ σ C (.bool (!(p == q))) := .of_run fun n a ha w hw => by
  simp [execOp, ha.ev hx hg, ha.ev hy hg', eqGuard_at_bool, run_binOp_neqB hT]

/-! within the range the result is the plain one -/
theorem wrap_i64 {n : Int} (h1 : -9223372036854775808 ≤ n) (h2 : n ≤ 9223372036854775807) : IntKind.i64.wrap n = n := IntWalk.i64_in n (by omega)
theorem QV.add {i j : Int} (hx : σ.ev x = some (g, .int .i64 i)) (hg : g = true) (hy : σ.ev y = some (g', .int .i64 j)) (hg' : g' = true) (hr : -9223372036854775808 ≤ i + j ∧ i + j ≤ 9223372036854775807) :
    QV P ⟨d, .binOp .add U x y z, T, pos, after, gd⟩ σ C (.int .i64 (i + j)) := by
  have := QV.addW (P := P) (C := C) (d := d) (T := T) (U := U) (pos := pos) (after := after) (gd := gd) (z := z) hx hg hy hg'
  rwa [wrap_i64 hr.1 hr.2] at this
theorem QV.sub {i j : Int} (hx : σ.ev x = some (g, .int .i64 i)) (hg : g = true) (hy : σ.ev y = some (g', .int .i64 j)) (hg' : g' = true) (hr : -9223372036854775808 ≤ i - j ∧ i - j ≤ 9223372036854775807) :
    QV P ⟨d, .binOp .sub U x y z, T, pos, after, gd⟩ σ C (.int .i64 (i - j)) := by
  have := QV.subW (P := P) (C := C) (d := d) (T := T) (U := U) (pos := pos) (after := after) (gd := gd) (z := z) hx hg hy hg'
  rwa [wrap_i64 hr.1 hr.2] at this
theorem QV.mul {i j : Int} (hx : σ.ev x = some (g, .int .i64 i)) (hg : g = true) (hy : σ.ev y = some (g', .int .i64 j)) (hg' : g' = true) (hr : -9223372036854775808 ≤ i * j ∧ i * j ≤ 9223372036854775807) :
    QV P ⟨d, .binOp .mul U x y z, T, pos, after, gd⟩ σ C (.int .i64 (i * j)) := by
  have := QV.mulW (P := P) (C := C) (d := d) (T := T) (U := U) (pos := pos) (after := after) (gd := gd) (z := z) hx hg hy hg'
  rwa [wrap_i64 hr.1 hr.2] at this

/-! ### Addresses and loads -/
theorem QV.fieldAddr {f off : Nat} {q : Addr} (hT : FieldT P U f off) (hx : σ.ev x = some (g, .pointer (some q))) (hg : g = true) :
    QV P ⟨d, .fieldAddr U x f, T, pos, after, gd⟩ σ C (.pointer (some (q.add off))) := .of_run fun n a ha w hw => by
  obtain ⟨fs, fd, sz, h1, h2, rfl, h4⟩ := hT
  obtain ⟨i, hi, hs⟩ := Option.map_eq_some_iff.1 h4
  simp [execOp, ha.ev hx hg, Instr.fieldAt, run_underlying h1, h2, Instr.sureAddr, fieldPlace, sizeOf, typeInfo, hi, hs]

/-- p is the address of element i of the slice v, each element of sz cells. -/
def ElemP (v : Value) (i : Int) (sz : Nat) (p : Addr) : Prop := ∃ a n c, v = .slice (some a) n c ∧ 0 ≤ i ∧ i < n ∧ p = a.add (i.toNat * sz)

theorem QV.indexSlice {E : TypeId} {sz : Nat} {i : Int} {k : IntKind} {p : Addr} (hT : SliceT P U E sz) (hx : σ.ev x = some (g, v)) (hg : g = true) (hy : σ.ev y = some (g', .int k i)) (hg' : g' = true) (hp : ElemP v i sz p) :
    QV P ⟨d, .indexAddr U x y, T, pos, after, gd⟩ σ C (.pointer (some p)) := .of_run fun n a ha w hw => by
  obtain ⟨a0, m, c, rfl, h0, h1, rfl⟩ := hp
  obtain ⟨hT, hS⟩ := hT
  obtain ⟨inf, hi, hs⟩ := Option.map_eq_some_iff.1 hS
  simp [execOp, ha.ev hx hg, ha.ev hy hg', Instr.indexAt, asIntOf, run_underlying hT, h0, h1, sizeOf, typeInfo, hi, hs]
theorem QV.indexArray {len sz : Nat} {i : Int} {k : IntKind} {q : Addr} (hT : ArrayT P U len sz) (hx : σ.ev x = some (g, .pointer (some q))) (hg : g = true) (hy : σ.ev y = some (g', .int k i)) (hg' : g' = true) (h0 : 0 ≤ i) (h1 : i < len) :
    QV P ⟨d, .indexAddr U x y, T, pos, after, gd⟩ σ C (.pointer (some (q.add (i.toNat * sz)))) := .of_run fun n a ha w hw => by
  obtain ⟨E, hT, hS⟩ := hT
  obtain ⟨inf, hi, hs⟩ := Option.map_eq_some_iff.1 hS
  simp [execOp, ha.ev hx hg, ha.ev hy hg', Instr.indexAt, asIntOf, Instr.sureAddr, run_underlying hT, h0, h1, sizeOf, typeInfo, hi, hs]

theorem run_isAgg_plain (hT : Plain P T) (w : World) : (isAgg T).run P w = .ok false w := by
  obtain ⟨dd, h1, h2⟩ := hT
  cases dd <;> simp_all [isAgg, run_underlying h1, TypeDesc.agg]
theorem run_isAgg_agg {sz : Nat} (hT : AggT P T sz) (w : World) : (isAgg T).run P w = .ok true w := by
  obtain ⟨dd, h1, h2, _⟩ := hT
  cases dd <;> simp_all [isAgg, run_underlying h1, TypeDesc.agg]
theorem run_load_cell {w : World} {p : Addr} (h : w.cell? p = some v) : (load p).run P w = .ok v w := by
  simp [load, Sem.run, h]

theorem QV.load {q : Addr} (hT : Plain P U) (hx : σ.ev x = some (g, .pointer (some q))) (hg : g = true) (hc : ∀ w, C w → w.cell? q = some v) :
    QV P ⟨d, .load U x, T, pos, after, gd⟩ σ C v := .of_run fun n a ha w hw => by
  simp [execOp, ha.ev hx hg, Instr.loadAt, Instr.sureAddr, loadVar, run_isAgg_plain hT, hc w hw]

/-- The cells from an address on. -/
def CellsAt (w : World) (q : Addr) : List Value → Nat → Prop
  | [], _ => True
  | v :: r, k => w.cell? (q.add k) = some v ∧ CellsAt w q r (k + 1)

theorem run_loadCellsFrom {w : World} {q : Addr} : ∀ (l : List Value) (k : Nat) (acc : Array Value), CellsAt w q l k → (loadCellsFrom q k l.length acc).run P w = .ok (acc ++ l.toArray) w
  | [], k, acc, _ => by simp [loadCellsFrom]
  | v :: r, k, acc, ⟨h1, h2⟩ => by
    simp only [List.length_cons, loadCellsFrom]
    simp [run_load_cell h1, run_loadCellsFrom r (k + 1) (acc.push v) h2]

theorem QV.loadAgg {q : Addr} {sz : Nat} {cs : List Value} (hT : AggT P U sz) (hl : cs.length = sz) (hx : σ.ev x = some (g, .pointer (some q))) (hg : g = true) (hc : ∀ w, C w → CellsAt w q cs 0) :
    QV P ⟨d, .load U x, T, pos, after, gd⟩ σ C (.agg cs.toArray) := .of_run fun n a ha w hw => by
  have hA := run_isAgg_agg hT w
  obtain ⟨dd, h1, h2, h3⟩ := hT
  obtain ⟨inf, hi, hs⟩ := Option.map_eq_some_iff.1 h3
  have := run_loadCellsFrom (P := P) cs 0 #[] (hc w hw)
  rw [hl] at this
  simp [execOp, ha.ev hx hg, Instr.loadAt, Instr.sureAddr, loadVar, hA, sizeOf, typeInfo, hi, hs, loadCells, this]

theorem QV.len {a0 : Option Addr} {m c : Nat} {E : TypeId} (hT : P.underlying U = some (.slice E)) (hx : σ.ev x = some (g, .slice a0 m c)) (hg : g = true) :
    QV P ⟨d, .call ⟨.builtin .len, #[x], #[U]⟩, T, pos, after, gd⟩ σ C (.int .i64 m) := .of_run fun n a ha w hw => by
  simp [execOp, resolve, invoke, builtin, ha.ev hx hg, Builtin.len_, run_underlying hT, goInt]

theorem QV.nilCheck {q : Addr} (hx : σ.ev x = some (g, .pointer (some q))) (hg : g = true) : QV P ⟨d, .nilCheck x, T, pos, after, gd⟩ σ C (.pointer (some q)) := .of_run fun n a ha w hw => by
  simp [execOp, ha.ev hx hg]
theorem QV.extract {l : List Value} {k : Nat} (hx : σ.ev x = some (g, .tuple l.toArray)) (hg : g = true) (hv : l[k]? = some v) : QV P ⟨d, .extract x k, T, pos, after, gd⟩ σ C v := .of_run fun n a ha w hw => by
  simp [execOp, ha.ev hx hg, Instr.extract, hv]

theorem QV.intToInt {k k' : IntKind} {i : Int} (hT : P.underlying U = some (.int k)) {S : TypeId} {ds : TypeDesc} (hS : P.underlying S = some ds) (hx : σ.ev x = some (g, .int k' i)) (hg : g = true) :
    QV P ⟨d, .convert S U x, T, pos, after, gd⟩ σ C (.int k (k.wrap i)) := .of_run fun n a ha w hw => by
  simp [execOp, ha.ev hx hg, convert, run_underlying hT, run_underlying hS, Conv.intToInt]

/-! ### Calls that hand back a plain value -/
/-- The operands' values. -/
def EvAll (σ : Env) : List Operand → List Value → Prop
  | [], [] => True
  | x :: xs, v :: vs => (∃ g, σ.ev x = some (g, v) ∧ g = true) ∧ EvAll σ xs vs
  | _, _ => False
theorem EvAll.map {n : Nat} {a : Act} (ha : Has n a σ) : ∀ {xs : List Operand} {vs : List Value}, EvAll σ xs vs → xs.map a.eval = vs
  | [], [], _ => rfl
  | x :: xs, v :: vs, ⟨⟨g, h1, h2⟩, h3⟩ => by simp [ha.ev h1 h2, EvAll.map ha h3]
theorem EvAll.nil : EvAll σ [] [] := trivial
theorem EvAll.cons {xs : List Operand} {vs : List Value} (h1 : σ.ev x = some (g, v)) (h2 : g = true) (h3 : EvAll σ xs vs) : EvAll σ (x :: xs) (v :: vs) := ⟨⟨g, h1, h2⟩, h3⟩

theorem run_callFunc {f : FuncId} (hf : Enters P f) (args : Array Value) (w : World) : (callFunc f args).run P w = .ok (.enter f args) w := by
  obtain ⟨fn, h1, h2, h3⟩ := hf
  have h2' : ¬ fn.body = none := by intro h; simp [h] at h2
  have h3' : ¬ fn.name = "runtime.NumGoroutine" := by simpa using h3
  simp [callFunc, h1, h2', h3']

theorem QV.call {f : FuncId} {xs : List Operand} {ats : Array TypeId} {vs : List Value} (hf : Enters P f) (hv : EvAll σ xs vs) (hc : ∀ w, C w → Calls P f vs.toArray w (fun e w'' => e = .returned v ∧ Grow w w'')) :
    QV P ⟨d, .call ⟨.value (.func f), xs.toArray, ats⟩, T, pos, after, gd⟩ σ C v := fun n a ha w hw => by
  refine .inr ⟨f, vs.toArray, ?_, hc w hw⟩
  have := hv.map ha
  simp [execOp, resolve, Deferred.ofValue, Act.eval, invoke, run_callFunc hf, this]
/-- .. of a function value. -/
theorem QV.callV {f : FuncId} {xs : List Operand} {ats : Array TypeId} {vs cs : List Value} (hf : Enters P f) (hx : σ.ev x = some (g, .func (.func f) #[] cs.toArray)) (hg : g = true) (hv : EvAll σ xs vs)
    (hc : ∀ w, C w → Calls P f (vs ++ cs).toArray w (fun e w'' => e = .returned v ∧ Grow w w'')) :
    QV P ⟨d, .call ⟨.value x, xs.toArray, ats⟩, T, pos, after, gd⟩ σ C v := fun n a ha w hw => by
  refine .inr ⟨f, (vs ++ cs).toArray, ?_, hc w hw⟩
  have := hv.map ha
  simp [execOp, resolve, Deferred.ofValue, ha.ev hx hg, invoke, run_callFunc hf, this]
end
end Go.Rd
