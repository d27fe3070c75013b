/- A small logic of straight-line code over the walk's own weakest preconditions: environments of temporaries, worlds by resources, regions in whatever order. No program is in sight. -/
import Derived.WalkKit
import Derived.Deep.Quiet
import Derived.OrdersHeld
import Derived.Deep.LoopGhost
namespace Go.Rd
open Go.RowKit
set_option linter.unusedVariables false
set_option linter.unusedSimpArgs false

/-! ### Environments: what is known of the temporaries -/
theorem beq_false {d t : Nat} (h : ¬ d = t) : Nat.beq d t = false := by
  cases hb : Nat.beq d t with
  | false => rfl
  | true => exact absurd (Nat.eq_of_beq_eq_true hb) h

abbrev Env := List (Nat × (Bool × Value))

def Env.look : Env → Nat → Option (Bool × Value)
  | [], _ => none
  | (d, gv) :: σ, t => bif Nat.beq d t then some gv else Env.look σ t

def Env.ev (σ : Env) : Operand → Option (Bool × Value)
  | .tmp t => σ.look t
  | .const v => some (true, v)
  | .global g => some (true, .pointer (some ⟨g, 0, none⟩))
  | .func f => some (true, .func (.func f) #[] #[])

structure Has (n : Nat) (a : Act) (σ : Env) : Prop where
  size : a.tmps.size = n
  defers : a.defers = []
  look : ∀ t g v, σ.look t = some (g, v) → a.tmps.getD t undef = bif g then v else undef

theorem Has.ev {n : Nat} {a : Act} {σ : Env} (h : Has n a σ) {x : Operand} {g : Bool} {v : Value} (hx : σ.ev x = some (g, v)) (hg : g = true) : a.eval x = v := by
  subst hg
  cases x with
  | tmp t => exact h.look t true v hx
  | const u => simp only [Env.ev, Option.some.injEq, Prod.mk.injEq, true_and] at hx; exact hx
  | global k => simp only [Env.ev, Option.some.injEq, Prod.mk.injEq, true_and] at hx; exact hx
  | func f => simp only [Env.ev, Option.some.injEq, Prod.mk.injEq, true_and] at hx; exact hx

theorem Has.put {n : Nat} {a : Act} {σ : Env} (h : Has n a σ) {d : Nat} (hd : d < n) (G : Bool) (v : Value) : Has n (a.put (some d) (bif G then v else undef)) ((d, (G, v)) :: σ) := by
  refine ⟨by simpa [Act.put] using h.size, h.defers, fun t g u ht => ?_⟩
  unfold Env.look at ht
  by_cases e : d = t
  · subst e
    simp only [Nat.beq_refl, cond_true, Option.some.injEq, Prod.mk.injEq] at ht
    obtain ⟨rfl, rfl⟩ := ht
    simp [Act.put, h.size, hd]
  · have : Nat.beq d t = false := beq_false e
    rw [this, cond_false] at ht
    rw [← h.look t g u ht]
    simp [Act.put, Array.getElem?_setIfInBounds_ne e]

theorem Has.keep {n : Nat} {a : Act} {σ : Env} (h : Has n a σ) : Has n (a.put none undef) σ := h

/-- What an environment says is said by another one. -/
def Sub (σ : Env) : Env → Prop
  | [] => True
  | (t, gv) :: r => σ.look t = some gv ∧ Sub σ r

theorem Sub.look {σ : Env} : ∀ {τ : Env}, Sub σ τ → ∀ t gv, τ.look t = some gv → σ.look t = some gv
  | [], _, _, _, h => by simp [Env.look] at h
  | (d, x) :: r, ⟨h1, h2⟩, t, gv, h => by
    unfold Env.look at h
    by_cases e : d = t
    · subst e; simp only [Nat.beq_refl, cond_true, Option.some.injEq] at h; rw [h1, h]
    · have : Nat.beq d t = false := beq_false e
      rw [this, cond_false] at h
      exact Sub.look h2 t gv h

theorem Has.sub {n : Nat} {a : Act} {σ τ : Env} (h : Has n a σ) (hs : Sub σ τ) : Has n a τ :=
  ⟨h.size, h.defers, fun t g v ht => h.look t g v (hs.look t (g, v) ht)⟩

/-! ### Guards -/
def wantG : Option (Nat × Bool) → (Nat → Option Bool) → Bool
  | none, _ => true
  | some (j, want), y => y j == some want

theorem wanted_eq (o : Oper) (y : Nat → Option Bool) : Region.wanted o y = wantG o.guard y := by
  unfold Region.wanted wantG
  cases o.guard with
  | none => rfl
  | some x => rfl

/-- Whether an operation is wanted, by what is known. -/
def GuardIs (ops : Array Oper) (σ : Env) (gd : Option (Nat × Bool)) (G : Bool) : Prop := ∀ n a, Has n a σ → wantG gd (yielded ops a.tmps) = G

theorem GuardIs.none {ops : Array Oper} {σ : Env} : GuardIs ops σ none true := fun _ _ _ => rfl

theorem yielded_of {ops : Array Oper} {σ : Env} {j d : Nat} {g b : Bool} (hj : (ops[j]?).bind (·.dst) = some d) (hd : σ.look d = some (g, .bool b)) {n : Nat} {a : Act} (h : Has n a σ) :
    yielded ops a.tmps j = bif g then some b else none := by
  have hl := h.look d g _ hd
  unfold yielded
  rw [hj, Option.bind_some]
  cases g with
  | true =>
    simp only [cond_true] at hl ⊢
    have : a.tmps[d]? = some (.bool b) := by
      cases hx : a.tmps[d]? with
      | none => simp [Array.getD_eq_getD_getElem?, hx, undef] at hl
      | some v => simp [Array.getD_eq_getD_getElem?, hx] at hl; rw [hl]
    rw [this]
  | false =>
    simp only [cond_false] at hl ⊢
    cases hx : a.tmps[d]? with
    | none => rfl
    | some v =>
      simp [Array.getD_eq_getD_getElem?, hx, undef] at hl
      subst hl; rfl

theorem GuardIs.pos {ops : Array Oper} {σ : Env} {j d : Nat} {b : Bool} (hj : (ops[j]?).bind (·.dst) = some d) (hd : σ.look d = some (true, .bool b)) : GuardIs ops σ (some (j, true)) b := fun n a h => by
  show (yielded ops a.tmps j == some _) = _
  rw [yielded_of hj hd h]; cases b <;> rfl
theorem GuardIs.neg {ops : Array Oper} {σ : Env} {j d : Nat} {b : Bool} (hj : (ops[j]?).bind (·.dst) = some d) (hd : σ.look d = some (true, .bool b)) : GuardIs ops σ (some (j, false)) (!b) := fun n a h => by
  show (yielded ops a.tmps j == some _) = _
  rw [yielded_of hj hd h]; cases b <;> rfl
theorem GuardIs.posC {ops : Array Oper} {σ : Env} {j d : Nat} {g b : Bool} (hj : (ops[j]?).bind (·.dst) = some d) (hd : σ.look d = some (g, .bool b)) : GuardIs ops σ (some (j, true)) (g && b) := fun n a h => by
  show (yielded ops a.tmps j == some _) = _
  rw [yielded_of hj hd h]; cases g <;> cases b <;> rfl
theorem GuardIs.negC {ops : Array Oper} {σ : Env} {j d : Nat} {g b : Bool} (hj : (ops[j]?).bind (·.dst) = some d) (hd : σ.look d = some (g, .bool b)) : GuardIs ops σ (some (j, false)) (g && !b) := fun n a h => by
  show (yielded ops a.tmps j == some _) = _
  rw [yielded_of hj hd h]; cases g <;> cases b <;> rfl

/-! ### Quiet operations: one value in every world of a class -/
/-! How often was drawn only grows -/
theorem ask_drawn {α : Type} (s : Ask α) : ∀ w : World, w.drawn ≤ (w.ask s).2.drawn := by
  induction s with
  | done a => intro w; exact Nat.le_refl _
  | ask q r k ih =>
    intro w
    unfold World.ask
    dsimp only
    split
    · exact ih _ _
    · refine Nat.le_trans ?_ (ih _ _)
      show w.drawn ≤ w.drawn + 1
      omega
theorem sys_drawn (w : World) (c : Sys) : w.drawn ≤ (w.sys c).2.drawn := by
  have h := ask_drawn (Kernel.perform c w.os) w
  unfold World.sys
  split
  · exact Nat.le_refl _
  · rename_i r os w' hq
    rw [hq] at h
    exact h
theorem viewStore_drawn {p : Program} {w w' : World} {at_ : Addr} {u : TypeId} {k : Addr} {v : Value} {b : Bool} {l : List Addr} (h : w.viewStore p at_ u k v b = .ok (w', l)) : w'.drawn = w.drawn := by
  unfold World.viewStore at h
  simp only [bind, Except.bind, pure, Except.pure] at h
  repeat' split at h
  all_goals (try cases h)
  all_goals rfl
theorem farStore_drawn {p : Program} {w w' : World} {a : Addr} {v : Value} {b : Bool} {l : List Addr} (h : w.farStore p a v b = .ok (w', l)) : w'.drawn = w.drawn := by
  unfold World.farStore at h
  split at h
  · split at h
    · rename_i r hr
      cases h
      exact viewStore_drawn hr
    · cases h
  · cases h
theorem freeze_drawn (w : World) (a : Addr) (n : Nat) : (w.freeze a n).drawn = w.drawn := by
  unfold World.freeze
  (repeat' split) <;> rfl
theorem run_drawn {P : Program} {α : Type} (s : Sem α) : ∀ (w : World) {a : α} {w' : World}, s.run P w = .ok a w' → w.drawn ≤ w'.drawn := by
  induction s with
  | pure a => intro w a w' h; simp [Sem.run] at h; rw [h.2]; exact Nat.le_refl _
  | load m a k ih =>
    intro w a' w' h
    unfold Sem.run at h
    split at h
    · exact ih _ _ h
    · split at h
      · exact ih _ _ h
      · cases h
  | store m a v k ih =>
    intro w a' w' h
    unfold Sem.run at h
    split at h
    · rename_i e; cases e
    · rename_i e; cases e
    · rename_i e; cases e; cases h
    · rename_i e; cases e; cases h
    · rename_i e
      cases e
      split at h
      · split at h
        · cases h
        · exact ih (World.setCell _ a v) h
      · split at h
        · rename_i w1 l hf
          have := ih w1 h
          rw [farStore_drawn hf] at this
          exact this
        · cases h
    all_goals (rename_i e; cases e)
  | new o k ih => intro w a w' h; unfold Sem.run at h; exact ih _ { w with heap := w.heap.push o } h
  | shape r k ih => intro w a w' h; unfold Sem.run at h; exact ih _ _ h
  | freeze a n k ih =>
    intro w a' w' h
    unfold Sem.run at h
    have := ih _ h
    rw [freeze_drawn] at this
    exact this
  | frozen a k ih => intro w a w' h; unfold Sem.run at h; exact ih _ _ h
  | getObj r k ih =>
    intro w a w' h
    unfold Sem.run at h
    split at h
    · cases h
    · exact ih _ _ h
    · cases h
  | setObj r o k ih =>
    intro w a w' h
    unfold Sem.run at h
    split at h
    · cases h
    · exact ih { w with heap := w.heap.setIfInBounds r o } h
    · cases h
  | choose q k ih =>
    intro w a w' h
    unfold Sem.run at h
    split at h
    · exact ih _ _ h
    · have := ih _ { w with drawn := w.drawn + 1 } h
      simp at this
      omega
  | sys c k ih => intro w a w' h; unfold Sem.run at h; exact Nat.le_trans (sys_drawn w c) (ih _ _ h)
  | program k ih => intro w a w' h; unfold Sem.run at h; exact ih _ _ h
  | mark m k ih => intro w a w' h; unfold Sem.run at h; exact ih _ h
  | halt h0 => intro w a w' h; unfold Sem.run at h; cases h
/-- The world has at most grown. -/
structure Grow (w w' : World) : Prop where
  os : w'.os = w.os
  tape : w'.tape = w.tape
  output : w'.output = w.output ∧ w.drawn ≤ w'.drawn
  size : w.heap.size ≤ w'.heap.size
  block : ∀ k, k < w.heap.size → w'.heap[k]? = w.heap[k]?
theorem Grow.below {w w' : World} (h : Grow w w') : Below w.heap.size w w' := ⟨h.os, h.tape, h.output.1, h.size, h.block⟩
theorem Grow.of {w w' : World} (h : Below w.heap.size w w') (hd : w.drawn ≤ w'.drawn) : Grow w w' := ⟨h.os, h.tape, ⟨h.output, hd⟩, h.size, h.block⟩
theorem Grow.cell {w w' : World} (h : Grow w w') {a : Addr} (ha : a.block < w.heap.size) : w'.cell? a = w.cell? a := h.below.cell ha
theorem Grow.refl (w : World) : Grow w w := .of (Below.refl _ _) (Nat.le_refl _)
theorem Grow.trans {a b c : World} (h : Grow a b) (k : Grow b c) : Grow a c := .of (Below.trans h.below (Below.mono k.below h.size)) (Nat.le_trans h.output.2 k.output.2)
theorem Grow.alloc {w : World} (o : Obj) : Grow w (w.alloc o) := .of ((Below.refl _ _).alloc (Nat.le_refl _) _) (Nat.le_refl _)

def Closed (C : World → Prop) : Prop := ∀ w w', C w → Grow w w' → C w'

section
variable {P : Program}

/-- The operation yields v, in every world of the class, and leaves it, or (a call) one that has grown. -/
def QV (P : Program) (o : Oper) (σ : Env) (C : World → Prop) (v : Value) : Prop := ∀ n a, Has n a σ → ∀ w, C w →
  ((execOp a.eval o).run P w = .ok (.value v) w) ∨ (∃ f args, (execOp a.eval o).run P w = .ok (.enter f args) w ∧ Calls P f args w (fun e w'' => e = .returned v ∧ Grow w w''))

/-- From every frame of which the environment speaks, in every world of the class. -/
def WK (n : Nat) (K : Act → World → Prop) (σ : Env) (C : World → Prop) : Prop := ∀ a w, Has n a σ → C w → K a w

variable {n : Nat} {ops : Array Oper} {Q : Exit → Act → World → Prop} {rest : List Oper} {o : Oper} {σ : Env} {C S : World → Prop}

theorem Oper.wp_of_QV {a : Act} {v : Value} (hq : QV P o σ C v) (ha : Has n a σ) {w : World} (hw : C w) (hc : Closed C) {K : Act → World → Prop} (hK : ∀ w', C w' → K (a.put o.dst v) w') : o.wp P a w K Q := by
  unfold Oper.wp
  rcases hq n a ha w hw with h | ⟨f, args, h, hcall⟩
  · rw [h]; exact hK w hw
  · rw [h]
    exact hcall.mono fun e w'' ⟨he, hg⟩ => by subst he; exact hK w'' (hc w w'' hw hg)

theorem WL.quiet {G : Bool} {v : Value} {d : Nat} (hc : Closed C) (hd : o.dst = some d) (hn : d < n) (hG : GuardIs ops σ o.guard G) (hq : G = true → QV P o σ C v)
    (k : WK n (wpList P ops Q rest) ((d, (G, v)) :: σ) C) : WK n (wpList P ops Q (o :: rest)) σ C := fun a w ha hw => by
  unfold wpList
  rw [wanted_eq, hG n a ha]
  cases G with
  | true =>
    rw [if_pos rfl]
    refine .inl (Oper.wp_of_QV (hq rfl) ha hw hc fun w' hw' => ?_)
    rw [hd]
    exact k _ w' (ha.put hn true v) hw'
  | false =>
    rw [if_neg (by simp), hd]
    exact k _ w (ha.put hn false v) hw

theorem WL.nil (k : WK n (Q .normal) σ C) : WK n (wpList P ops Q []) σ C := k

/-- An operation that changes the world. -/
def EV (P : Program) (n : Nat) (o : Oper) (σ : Env) (C : World → Prop) (K : Act → World → Prop) (Q : Exit → Act → World → Prop) : Prop :=
  ∀ a w, Has n a σ → C w → o.wp P a w K Q ∨ (o.asks P a w ∧ LetsOut Q)

theorem WL.effect (hg : o.guard = none) (h : EV P n o σ C (wpList P ops Q rest) Q) : WK n (wpList P ops Q (o :: rest)) σ C := fun a w ha hw => by
  unfold wpList
  rw [if_pos (by simp [Region.wanted, hg])]
  exact h a w ha hw

/-! ### Regions that draw their order -/
def Tail (md : Region.Mode) (ops : Array Oper) (listed : Array Bool) : Prop := ∃ (j : Nat) (oj : Oper), ops[j]? = some oj ∧ Region.ready md ops listed = [j] ∧ ∀ k, listed.getD k false = true → ∃ e ∈ oj.after, Region.binds md e = true ∧ e.on = k

def wpAnyG (P : Program) (md : Region.Mode) (ops : Array Oper) (Q : Exit → Act → World → Prop) : (World → Prop) → Nat → Array Bool → (World → Prop) → Act → Prop
  | S, 0, listed, C, a => Region.ready md ops listed = [] ∧ ∀ w, C w → Q .normal a w
  | S, fuel + 1, listed, C, a =>
    ((Region.ready md ops listed = [] → ∀ w, C w → Q .normal a w) ∧
    ∀ i ∈ Region.ready md ops listed, ∀ w, C w → wpOp P ops Q i (fun a' w' => ∃ C' S' : World → Prop, Closed C' ∧ (∀ x, C' x → S' x) ∧ (∀ x, S' x → S x) ∧ C' w' ∧ wpAnyG P md ops Q S' fuel (listed.setIfInBounds i true) C' a') a w) ∨
    (Tail md ops listed ∧ ∀ w, C w → wpAny P md ops Q (fuel + 1) listed a w)

theorem wpAny_of_G {md : Region.Mode} : ∀ (S : World → Prop) (fuel : Nat) (listed : Array Bool) (C : World → Prop) (a : Act) (w : World), C w → wpAnyG P md ops Q S fuel listed C a → wpAny P md ops Q fuel listed a w
  | _, 0, _, _, _, w, hw, h => ⟨h.1, h.2 w hw⟩
  | _, fuel + 1, _, _, _, w, hw, .inl h => ⟨fun h0 => h.1 h0 w hw, fun i hi => wpOp_mono (fun a' w' ⟨C', S', _, _, _, h1, h2⟩ => wpAny_of_G S' fuel _ C' a' w' h1 h2) (h.2 i hi w hw)⟩
  | _, fuel + 1, _, _, _, w, hw, .inr h => h.2 w hw

/-- In this state the operation leaves v in its temporary, in every world of the class. -/
def YG (P : Program) (ops : Array Oper) (C : World → Prop) (o : Oper) (v : Value) (a : Act) : Prop :=
  (wantG o.guard (yielded ops a.tmps) = true ∧ ∀ w, C w →
    ((execOp a.eval o).run P w = .ok (.value v) w) ∨ (∃ f args, (execOp a.eval o).run P w = .ok (.enter f args) w ∧ Calls P f args w (fun e w'' => e = .returned v ∧ Grow w w''))) ∨
  (wantG o.guard (yielded ops a.tmps) = false ∧ v = undef)

theorem YG.of_same {v : Value} {a a' : Act} (hy : YG P ops C o v a) (he : execOp a'.eval o = execOp a.eval o)
    (hw : Region.wanted o (yielded ops a'.tmps) = Region.wanted o (yielded ops a.tmps)) : YG P ops C o v a' := by
  unfold YG at *
  rw [wanted_eq, wanted_eq] at hw
  rw [he, hw]
  exact hy

theorem YG.mono {v : Value} {a : Act} {S' : World → Prop} (h : ∀ x, S' x → S x) : YG P ops S o v a → YG P ops S' o v a
  | .inl ⟨h1, h2⟩ => .inl ⟨h1, fun w hw => h2 w (h w hw)⟩
  | .inr h2 => .inr h2
theorem YG.toOp {i : Nat} {oi : Oper} {v : Value} {a : Act} (hi : ops[i]? = some oi) (hy : YG P ops S oi v a) {K : Act → World → Prop} {w : World} (hw : C w) (hCS : ∀ x, C x → S x) (hc : Closed C)
    (hK : ∀ w', C w' → K (a.put oi.dst v) w') : wpOp P ops Q i K a w := by
  unfold Go.wpOp
  simp only [hi]
  rw [wanted_eq]
  rcases hy with ⟨hwa, hv⟩ | ⟨hwa, rfl⟩
  · rw [if_pos hwa]
    refine .inl ?_
    unfold Oper.wp
    rcases hv w (hCS w hw) with h | ⟨f, args, h, hcall⟩
    · rw [h]; exact hK w hw
    · rw [h]
      exact hcall.mono fun e w'' ⟨he, hg⟩ => by subst he; exact hK w'' (hc w w'' hw hg)
  · rw [if_neg (by simp [hwa])]
    exact hK w hw

theorem wpOp_putG {j : Nat} {oi oj : Oper} {v : Value} (hj : ops[j]? = some oj) (hap : oi.apart ops oj = true)
    (hsi : ∀ cs b, oi.op ≠ .select cs b) (hsj : ∀ cs b, oj.op ≠ .select cs b)
    (hQ : ∀ c a w, Q (.panic c) (a.put oi.dst v) w → Q (.panic c) a w) {K : Act → World → Prop} {a : Act} {w : World}
    (hy : YG P ops S oi v a) (h : wpOp P ops Q j K (a.put oi.dst v) w) :
    wpOp P ops Q j (fun a' w' => YG P ops S oi v a' ∧ K (a'.put oi.dst v) w') a w := by
  obtain ⟨h1, h2, h3⟩ := Oper.apart_spec hap
  have keep : ∀ (a : Act), YG P ops S oi v a → ∀ u, YG P ops S oi v (a.put oj.dst u) := fun a hy u =>
    hy.of_same (execOp_put oi hsi a oj.dst u h3) (wanted_put oi a oj.dst u h3)
  have keepD : ∀ d, YG P ops S oi v { a with defers := d :: a.defers } := fun d => hy.of_same rfl rfl
  unfold wpOp at *
  simp only [hj] at *
  rw [wanted_put oj a oi.dst v h1] at h
  split
  · rename_i hw
    simp only [hw, if_true] at h
    rcases h with h | ⟨hasks, hlets⟩
    case inr => exact .inr ⟨by unfold Oper.asks at *; rw [execOp_put oj hsj a oi.dst v h1] at hasks; exact hasks, hlets⟩
    refine .inl ?_
    unfold Oper.wp at *
    rw [execOp_put oj hsj a oi.dst v h1] at h
    generalize (execOp a.eval oj).run P w = r at *
    cases r with
    | ok n w' =>
      cases n <;> simp only [Oper.upon] at h ⊢
      case value u => exact ⟨keep a hy u, by rw [← Act.put_comm a v u h2]; exact h⟩
      case skip => exact ⟨keep a hy _, by rw [← Act.put_comm a v undef h2]; exact h⟩
      case defer d =>
        refine ⟨keep _ (keepD d) _, ?_⟩
        rw [← Act.put_comm _ v undef h2, ← Act.put_defers]
        exact h
      case enter f args =>
        refine Calls.mono h fun e w'' he => ?_
        cases e with
        | returned u => exact ⟨keep a hy u, by rw [← Act.put_comm a v u h2]; exact he⟩
        | panicked c => exact hQ _ _ _ he
        | outgrown => exact he
      case row row args => exact Rows.mono h fun u w'' he => ⟨keep a hy u, by rw [← Act.put_comm a v u h2]; exact he⟩
    | halt x w' =>
      cases x <;> simp only [Oper.upon] at h ⊢
      case panic u => exact hQ _ _ _ h
  · rename_i hw
    simp only [hw] at h
    exact ⟨keep a hy _, by rw [← Act.put_comm a v undef h2]; exact h⟩

theorem wpAnyG_first {md : Region.Mode} {i : Nat} {oi : Oper} {v : Value} (hi : ops[i]? = some oi) (hsel : ∀ (j : Nat) (o : Oper) cs b, ops[j]? = some o → o.op ≠ .select cs b)
    (hQ : ∀ c a w, Q (.panic c) (a.put oi.dst v) w → Q (.panic c) a w) :
    ∀ (fuel : Nat) (S : World → Prop) (listed : Array Bool) (C : World → Prop) (a : Act), Closed C → (∀ x, C x → S x) →
      (∀ j oj, ops[j]? = some oj → j ≠ i → listed.getD j true = false → (∀ e ∈ oj.after, Region.binds md e = true → e.on ≠ i) → oi.apart ops oj = true) →
      i ∈ Region.ready md ops listed → YG P ops S oi v a →
      wpAnyG P md ops Q S fuel (listed.setIfInBounds i true) C (a.put oi.dst v) → wpAnyG P md ops Q S (fuel + 1) listed C a := by
  intro fuel
  induction fuel with
  | zero =>
    intro S listed C a hc hCS _ hr hy H
    refine .inl ⟨fun h => (by rw [h] at hr; cases hr), fun j hj w hw => ?_⟩
    by_cases hji : j = i
    · subst hji; exact hy.toOp hi hw hCS hc fun w' hw' => ⟨C, S, hc, hCS, fun _ h => h, hw', H⟩
    · have := ready_mono hj hji
      rw [H.1] at this
      cases this
  | succ fuel ih =>
    intro S listed C a hc hCS hfree hr hy H
    refine .inl ⟨fun h => (by rw [h] at hr; cases hr), fun j hj w hw => ?_⟩
    by_cases hji : j = i
    · subst hji; exact hy.toOp hi hw hCS hc fun w' hw' => ⟨C, S, hc, hCS, fun _ h => h, hw', H⟩
    · have hilt : i < listed.size := by
        rcases Nat.lt_or_ge i listed.size with h' | h'
        · exact h'
        · have h0 := (mem_ready.1 hr).1
          simp [Array.getElem?_eq_none h'] at h0
      rcases H with H | ⟨⟨j0, o0, ho0, hr0, hall0⟩, _⟩
      case inr =>
        have hj0 := ready_mono hj hji
        rw [hr0, List.mem_singleton] at hj0
        subst hj0
        obtain ⟨e, he, hb, heq⟩ := hall0 i (by simp [hilt])
        obtain ⟨_, oj, hoj, hall⟩ := mem_ready.1 hj
        rw [ho0] at hoj
        cases hoj
        have h1 := hall e he hb
        have h0 := (mem_ready.1 hr).1
        rw [heq] at h1
        simp [hilt] at h0 h1
        rw [h0] at h1; cases h1
      have h1 := H.2 j (ready_mono hj hji) w hw
      obtain ⟨hjun, oj, hoj, hall⟩ := mem_ready.1 hj
      have hnot : ∀ e ∈ oj.after, Region.binds md e = true → e.on ≠ i := fun e he hb heq => by
        have h1 := hall e he hb
        have h0 := (mem_ready.1 hr).1
        rw [heq] at h1
        simp [hilt] at h0 h1
        rw [h0] at h1; cases h1
      have h2 := wpOp_putG hoj (hfree j oj hoj hji hjun hnot) (fun cs b => hsel i oi cs b hi) (fun cs b => hsel j oj cs b hoj) hQ hy h1
      have hfree' : ∀ k ok, ops[k]? = some ok → k ≠ i → (listed.setIfInBounds j true).getD k true = false →
          (∀ e ∈ ok.after, Region.binds md e = true → e.on ≠ i) → oi.apart ops ok = true := fun k ok hk hki hun hno => by
        refine hfree k ok hk hki ?_ hno
        by_cases hjk : j = k
        · subst hjk; exact hjun
        · rw [getD_set_ne true hjk] at hun; exact hun
      refine wpOp_mono (fun a' w' h3 => ?_) h2
      obtain ⟨hy', C', S', hc', hsub, hSS, hw', hrest⟩ := h3
      refine ⟨C', S', hc', hsub, hSS, hw', ih S' (listed.setIfInBounds j true) C' a' hc' hsub hfree' (ready_mono hr (Ne.symm hji)) (hy'.mono hSS) ?_⟩
      rw [Array.setIfInBounds_comm _ _ hji]
      exact hrest

def PanicOk (Q : Exit → Act → World → Prop) : Prop := ∀ c a d v w, Q (.panic c) (a.put d v) w → Q (.panic c) a w
def WD (P : Program) (n : Nat) (ops : Array Oper) (Q : Exit → Act → World → Prop) (S : World → Prop) (fuel : Nat) (listed : Array Bool) (σ : Env) (C : World → Prop) : Prop :=
  (∀ x, C x → S x) → ∀ a, Has n a σ → wpAnyG P .any ops Q S fuel listed C a

theorem WD.take (i : Nat) {oi : Oper} {fuel : Nat} {listed listed' : Array Bool} {G : Bool} {v : Value} {d : Nat} (hi : ops[i]? = some oi)
    (hs : Region.noSelect ops = true) (hf : Region.free .any ops listed i = true) (hr : (Region.ready .any ops listed).contains i = true) (hl : listed.setIfInBounds i true = listed')
    (hQ : PanicOk Q)
    (hc : Closed C) (hd : oi.dst = some d) (hn : d < n) (hG : GuardIs ops σ oi.guard G) (hq : G = true → QV P oi σ S v)
    (k : WD P n ops Q S fuel listed' ((d, (G, v)) :: σ) C) : WD P n ops Q S (fuel + 1) listed σ C := fun hCS a ha => by
  subst hl
  have hp := k hCS _ (ha.put hn G v)
  rw [← hd] at hp
  refine wpAnyG_first hi (Region.noSelect_spec hs) (fun c a w => hQ c a _ _ w) fuel S listed C a hc hCS (Region.free_spec hi hf) (by simpa using hr) ?_ hp
  have hg := hG n a ha
  cases G with
  | true => exact .inl ⟨hg, fun w hw => hq rfl n a ha w hw⟩
  | false => exact .inr ⟨hg, rfl⟩

/-- What stands behind an operation with an effect: from now on in a narrower class. -/
theorem WD.behind {fuel : Nat} {listed : Array Bool} {τ : Env} {C' S' : World → Prop} (hc : Closed C') (hs : ∀ x, C' x → S' x) (hss : ∀ x, S' x → S x) (h : WD P n ops Q S' fuel listed τ C') :
    WK n (fun a' w' => ∃ C' S' : World → Prop, Closed C' ∧ (∀ x, C' x → S' x) ∧ (∀ x, S' x → S x) ∧ C' w' ∧ wpAnyG P .any ops Q S' fuel listed C' a') τ C' := fun a w ha hw => ⟨C', S', hc, hs, hss, hw, h hs a ha⟩

/-- The one operation that may come up; it only adds to what is known. -/
theorem WD.only (i : Nat) {oi : Oper} {fuel : Nat} {listed listed' : Array Bool} (hi : ops[i]? = some oi) (hr : Region.ready .any ops listed = [i]) (hl : listed.setIfInBounds i true = listed')
    (hg : oi.guard = none) (h : EV P n oi σ C (fun a' w' => ∃ C' S' : World → Prop, Closed C' ∧ (∀ x, C' x → S' x) ∧ (∀ x, S' x → S x) ∧ C' w' ∧ wpAnyG P .any ops Q S' fuel listed' C' a') Q) : WD P n ops Q S (fuel + 1) listed σ C := fun hCS a ha => by
  subst hl
  refine .inl ⟨fun h0 => (by rw [hr] at h0; cases h0), fun j hj w hw => ?_⟩
  rw [hr, List.mem_singleton] at hj
  subst hj
  unfold Go.wpOp
  simp only [hi]
  rw [if_pos (by simp [Region.wanted, hg])]
  exact h a w ha hw

def tailB (ops : Array Oper) (oj : Oper) (listed : Array Bool) : Bool := (List.range listed.size).all fun k => !listed.getD k false || oj.after.any fun e => Region.binds .any e && e.on == k
theorem tailB_spec {oj : Oper} {listed : Array Bool} (h : tailB ops oj listed = true) : ∀ k, listed.getD k false = true → ∃ e ∈ oj.after, Region.binds .any e = true ∧ e.on = k := fun k hk => by
  have hlt : k < listed.size := by
    rcases Nat.lt_or_ge k listed.size with h' | h'
    · exact h'
    · simp [Array.getElem?_eq_none h'] at hk
  have := List.all_eq_true.1 h k (List.mem_range.2 hlt)
  rw [hk, Bool.not_true, Bool.false_or] at this
  obtain ⟨e, he, h1⟩ := Array.any_eq_true'.1 this
  simp only [Bool.and_eq_true, beq_iff_eq] at h1
  exact ⟨e, he, h1.1, h1.2⟩

/-- The last operation, which has waited for all others. -/
theorem WD.last (i : Nat) {oi : Oper} {fuel : Nat} {listed : Array Bool} (hi : ops[i]? = some oi) (hr : Region.ready .any ops listed = [i]) (ht : tailB ops oi listed = true) (hl : Region.ready .any ops (listed.setIfInBounds i true) = [])
    (hg : oi.guard = none) (h : EV P n oi σ C (Q .normal) Q) : WD P n ops Q S (fuel + 1) listed σ C := fun hCS a ha => by
  refine .inr ⟨⟨i, oi, hi, hr, tailB_spec ht⟩, fun w hw => ⟨fun h0 => (by rw [hr] at h0; cases h0), fun j hj => ?_⟩⟩
  rw [hr, List.mem_singleton] at hj
  subst hj
  refine wpOp_mono (K := Q .normal) (fun a' w' hq => ?_) ?_
  · cases fuel with
    | zero => exact ⟨hl, hq⟩
    | succ f => exact ⟨fun _ => hq, by rw [hl]; simp⟩
  · unfold Go.wpOp
    simp only [hi]
    rw [if_pos (by simp [Region.wanted, hg])]
    exact h a w ha hw

theorem WD.done {fuel : Nat} {listed : Array Bool} (hr : Region.ready .any ops listed = []) (k : WK n (Q .normal) σ C) : WD P n ops Q S fuel listed σ C := fun hCS a ha => by
  cases fuel with
  | zero => exact ⟨hr, fun w hw => k a w ha hw⟩
  | succ f => exact .inl ⟨fun _ w hw => k a w ha hw, by rw [hr]; simp⟩

/-! ### Code -/
theorem WC.region {id : Nat} {l : List Oper} (h : WK n (wpList P l.toArray Q l) σ C) : WK n ((Code.region id l.toArray false).wp P Q) σ C := fun a w ha hw => wp_region_lit (h a w ha hw)
theorem WC.drawn {id : Nat} (hm : P.follows .mixedOrders = true) (hc : Closed C) (hCS : ∀ x, C x → S x) (h : WD P n ops Q S ops.size (Array.replicate ops.size false) σ C) : WK n ((Code.region id ops true).wp P Q) σ C := fun a w ha hw =>
  wp_region_any hm (wpAny_of_G S _ _ C a _ (hc w _ hw ⟨rfl, rfl, ⟨rfl, Nat.le_succ _⟩, Nat.le_refl _, fun _ _ => rfl⟩) (h hCS a ha))
theorem WC.seq {x y : Code} (h : WK n (x.wp P (Exit.then (y.wp P Q) Q)) σ C) : WK n ((x.seq y).wp P Q) σ C := fun a w ha hw => wp_seq (h a w ha hw)
theorem WC.skip (k : WK n (Q .normal) σ C) : WK n (Code.skip.wp P Q) σ C := fun a w ha hw => wp_skip (k a w ha hw)
theorem WC.exit {id : Nat} (k : WK n (Q (.exit id)) σ C) : WK n ((Code.exit id).wp P Q) σ C := fun a w ha hw => wp_exit (k a w ha hw)
theorem WC.ret (k : WK n (Q .ret) σ C) : WK n (Code.ret.wp P Q) σ C := fun a w ha hw => wp_ret (k a w ha hw)
theorem WC.block {id : Nat} {c : Code} (h : WK n (c.wp P (Exit.inBlock id Q)) σ C) : WK n ((Code.block id c).wp P Q) σ C := fun a w ha hw => wp_block (h a w ha hw)
theorem WC.cond {c : Operand} {x y : Code} {b : Bool} (hb : σ.ev c = some (true, .bool b)) (ht : b = true → WK n (x.wp P Q) σ C) (hf : b = false → WK n (y.wp P Q) σ C) : WK n ((Code.cond c x y).wp P Q) σ C := fun a w ha hw =>
  wp_cond_split (ha.ev hb rfl) (fun h => ht h a w ha hw) (fun h => hf h a w ha hw)
theorem WC.cut {c : Code} (τ : Env) (D : World → Prop) (hs : Sub σ τ) (hd : ∀ w, C w → D w) (h : WK n (c.wp P Q) τ D) : WK n (c.wp P Q) σ C := fun a w ha hw => h a w (ha.sub hs) (hd w hw)

theorem WQ.then {y : Code} (h : WK n (y.wp P Q) σ C) : WK n (Exit.then (y.wp P Q) Q .normal) σ C := h
theorem WQ.thenLoop {K : Act → World → Prop} (h : ∀ a w, Has n a σ → C w → K a w) : WK n (Exit.then K Q .normal) σ C := h
theorem WQ.then_exit {K : Act → World → Prop} {id : Nat} (h : WK n (Q (.exit id)) σ C) : WK n (Exit.then K Q (.exit id)) σ C := h
theorem WQ.then_ret {K : Act → World → Prop} (h : WK n (Q .ret) σ C) : WK n (Exit.then K Q .ret) σ C := h
theorem WQ.block {id : Nat} (h : WK n (Q .normal) σ C) : WK n (Exit.inBlock id Q .normal) σ C := h
theorem WQ.block_ret {id : Nat} (h : WK n (Q .ret) σ C) : WK n (Exit.inBlock id Q .ret) σ C := h
theorem WQ.block_exit {id : Nat} (h : WK n (Q .normal) σ C) : WK n (Exit.inBlock id Q (.exit id)) σ C := fun a w ha hw => by
  simp only [Exit.inBlock, if_true]; exact h a w ha hw
theorem WQ.block_other {id j : Nat} (hj : j ≠ id) (h : WK n (Q (.exit j)) σ C) : WK n (Exit.inBlock id Q (.exit j)) σ C := fun a w ha hw => by
  simp only [Exit.inBlock, if_neg hj]; exact h a w ha hw

/-- A loop with a ghost state. -/
theorem WC.loop {Γ : Type} (S : Γ → Env) (D : Γ → World → Prop) (I : Γ → Prop) (μ : Γ → Nat) (g₀ : Γ) {c : Code} (h₀ : I g₀) (hs : Sub σ (S g₀)) (hd : ∀ w, C w → D g₀ w)
    (round : ∀ g, I g → WK n (c.wp P (Exit.then (fun a' w' => ∃ g', I g' ∧ μ g' < μ g ∧ Has n a' (S g') ∧ D g' w') Q)) (S g) (D g)) : WK n ((Code.loop c).wp P Q) σ C := fun a w ha hw => by
  refine wp_loop_ghost (fun k a' w' => ∃ g, I g ∧ μ g = k ∧ Has n a' (S g) ∧ D g w') (μ g₀) ⟨g₀, h₀, rfl, ha.sub hs, hd w hw⟩ ?_
  rintro k a' w' ⟨g, hI, rfl, hh, hD⟩
  refine wp_mono (round g hI a' w' hh hD) ?_
  intro e a₂ w₂ hq
  cases e <;> first | exact hq | (obtain ⟨g', h1, h2, h3, h4⟩ := hq; exact ⟨μ g', h2, g', h1, rfl, h3, h4⟩)

/-- The end of a round. -/
theorem WQ.again {Γ : Type} {S : Γ → Env} {D : Γ → World → Prop} {I : Γ → Prop} {μ : Γ → Nat} {m : Nat} (g' : Γ) (hI : I g') (hm : μ g' < m) (hs : Sub σ (S g')) (hd : ∀ w, C w → D g' w) :
    WK n (Exit.then (fun a' w' => ∃ g', I g' ∧ μ g' < m ∧ Has n a' (S g') ∧ D g' w') Q .normal) σ C := fun a w ha hw => ⟨g', hI, hm, ha.sub hs, hd w hw⟩

theorem WQ.ret1 {fn : Func} {R : Ending → World → Prop} {t : Nat} {v : Value} (hr : fn.results = #[.tmp t]) (hv : σ.look t = some (true, v)) (h : ∀ w, C w → R (.returned v) w) :
    WK n (bodyPost P fn R .ret) σ C := fun a w ha hw => by
  refine ⟨ha.defers, v, ?_, h w hw⟩
  rw [results_tmp hr]
  have := ha.look t true v hv
  rw [this]; rfl
theorem WQ.ret2 {fn : Func} {R : Ending → World → Prop} {t u : Nat} {v x : Value} (hr : fn.results = #[.tmp t, .tmp u]) (hv : σ.look t = some (true, v)) (hx : σ.look u = some (true, x)) (h : ∀ w, C w → R (.returned (.tuple #[v, x])) w) :
    WK n (bodyPost P fn R .ret) σ C := fun a w ha hw => by
  refine ⟨ha.defers, _, ?_, h w hw⟩
  rw [results_tmp2 hr, ha.look t true v hv, ha.look u true x hx]; rfl
theorem WQ.ret0 {fn : Func} {R : Ending → World → Prop} (hr : fn.results = #[]) (h : ∀ w, C w → R (.returned (.tuple #[])) w) :
    WK n (bodyPost P fn R .ret) σ C := fun a w ha hw => ⟨ha.defers, _, results_none hr _ _ _, h w hw⟩
theorem WQ.end0 {fn : Func} {R : Ending → World → Prop} (hr : fn.results = #[]) (h : ∀ w, C w → R (.returned (.tuple #[])) w) :
    WK n (bodyPost P fn R .normal) σ C := fun a w ha hw => ⟨ha.defers, _, results_none hr _ _ _, h w hw⟩

def argsEnv : List Value → Nat → Env
  | [], _ => []
  | v :: r, k => (k, (true, v)) :: argsEnv r (k + 1)

theorem argsEnv_look : ∀ (l : List Value) (k t : Nat) (g : Bool) (v : Value), (argsEnv l k).look t = some (g, v) → g = true ∧ ∃ j, t = k + j ∧ l[j]? = some v
  | [], _, _, _, _, h => by simp [argsEnv, Env.look] at h
  | x :: r, k, t, g, v, h => by
    unfold argsEnv Env.look at h
    by_cases e : k = t
    · subst e
      simp only [Nat.beq_refl, cond_true, Option.some.injEq, Prod.mk.injEq] at h
      exact ⟨h.1.symm, 0, rfl, by simp [h.2]⟩
    · have : Nat.beq k t = false := beq_false e
      rw [this, cond_false] at h
      obtain ⟨h1, j, h2, h3⟩ := argsEnv_look r (k + 1) t g v h
      exact ⟨h1, j + 1, by omega, by simpa using h3⟩

theorem calls_of_WC {f : FuncId} {fn : Func} {c : Code} {args : List Value} {R : Ending → World → Prop} {w : World} (hf : P.funcs[f]? = some fn) (hb : fn.body = some c) (hn : fn.ntmps = n) (hl : args.length ≤ n)
    (h : WK n (c.wp P (bodyPost P fn R)) (argsEnv args 0) C) (hw : C w) : Calls P f args.toArray w R := by
  refine calls_of_wp hf hb (h _ w ⟨?_, rfl, ?_⟩ hw)
  · simp [hn]; omega
  · intro t g v ht
    obtain ⟨rfl, j, h2, h3⟩ := argsEnv_look args 0 t g v ht
    obtain rfl : t = j := by omega
    have hlt : t < args.length := (List.getElem?_eq_some_iff.1 h3).1
    simp only [cond_true]
    rw [Array.getD_eq_getD_getElem?, Array.getElem?_append_left (by simpa using hlt)]
    simp [h3]

theorem PanicOk.then {K : Act → World → Prop} (h : PanicOk Q) : PanicOk (Exit.then K Q) := h
theorem PanicOk.block {id : Nat} (h : PanicOk Q) : PanicOk (Exit.inBlock id Q) := h
theorem PanicOk.body {fn : Func} {R : Ending → World → Prop} : PanicOk (bodyPost P fn R) := fun c a d v w h => by
  cases d <;> exact h
theorem WC.drawnL {id : Nat} (fuel : Nat) (listed : Array Bool) (hm : P.follows .mixedOrders = true) (hs : ops.size = fuel) (hl : Array.replicate fuel false = listed) (hc : Closed C) (hCS : ∀ x, C x → S x) (h : WD P n ops Q S fuel listed σ C) : WK n ((Code.region id ops true).wp P Q) σ C := by
  subst hs; subst hl; exact WC.drawn hm hc hCS h
theorem andT {a b : Bool} (h : a = true) (k : b = true) : (a && b) = true := by rw [h, k]; rfl
theorem andN {a b : Bool} (h : a = true) (k : b = false) : (a && !b) = true := by rw [h, k]; rfl
theorem notF {b : Bool} (k : b = false) : (!b) = true := by rw [k]; rfl
theorem andL {a b : Bool} (h : (a && b) = true) : a = true := by cases a <;> simp_all
/-- A loop that leaves the world's class as it is; τ: what stays. -/
theorem WC.loopC {Γ : Type} (τ : Env) (S : Γ → Env) (D : World → Prop) (I : Γ → Prop) (μ : Γ → Nat) (g₀ : Γ) {c : Code} (h₀ : I g₀) (hs : Sub σ (S g₀ ++ τ)) (hd : ∀ w, C w → D w)
    (round : ∀ g, I g → WK n (c.wp P (Exit.then (fun a' w' => ∃ g', I g' ∧ μ g' < μ g ∧ Has n a' (S g' ++ τ) ∧ D w') Q)) (S g ++ τ) D) : WK n ((Code.loop c).wp P Q) σ C :=
  WC.loop (fun g => S g ++ τ) (fun _ => D) I μ g₀ h₀ hs hd round
theorem WQ.againC {Γ : Type} {S : Γ → Env} {D : World → Prop} {I : Γ → Prop} {μ : Γ → Nat} {m : Nat} {τ : Env} (g' : Γ) (hI : I g') (hm : μ g' < m) (hs : Sub σ (S g' ++ τ)) (hd : ∀ w, C w → D w) :
    WK n (Exit.then (fun a' w' => ∃ g', I g' ∧ μ g' < m ∧ Has n a' (S g' ++ τ) ∧ D w') Q .normal) σ C := fun a w ha hw => ⟨g', hI, hm, ha.sub hs, hd w hw⟩
theorem bodyPost_panic {fn : Func} {R : Ending → World → Prop} : ∀ c a d v w, bodyPost P fn R (.panic c) (a.put d v) w → bodyPost P fn R (.panic c) a w := fun c a d v w h => by
  cases d <;> exact h
end
end Go.Rd
