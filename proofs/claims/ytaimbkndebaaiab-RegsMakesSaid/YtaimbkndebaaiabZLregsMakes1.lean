/- Texts that the law stands on: part 1. -/
import Derived.WalkKit
import Derived.Deep.Quiet
import Derived.OrdersHeld
import Derived.Deep.LoopGhost
import Derived.ProofKit
import Derived.OpenShut
import Derived.Laws.StructEq
import Derived.Laws.Tables
import Derived.ArgAppend
import Derived.Laws.AppendOwn
import Derived.Laws.ResultCell
import Derived.Laws.IdiomStrings
import Derived.Laws.Strings
import Derived.Laws.OwnMore
section
namespace Go.Rd
open Go.RowKit
set_option linter.unusedVariables false
set_option linter.unusedSimpArgs false
theorem beq_false {d t : Nat} (h : ¬ d = t) : Nat.beq d t = false := by
  cases hb : Nat.beq d t with
  | false => rfl
  | true => exact absurd (Nat.eq_of_beq_eq_true hb) h

abbrev Env := List (Nat × (Bool × Value))

def Env.look : Env → Nat → Option (Bool × Value)
  | [], _ => none
  | (d, gv) :: σ, t => bif Nat.beq d t then some gv else Env.look σ t

def Env.ev (σ : Env) : Operand → Option (Bool × Value)
  | .tmp t => σ.look t
  | .const v => some (true, v)
  | .global g => some (true, .pointer (some ⟨g, 0, none⟩))
  | .func f => some (true, .func (.func f) #[] #[])

structure Has (n : Nat) (a : Act) (σ : Env) : Prop where
  size : a.tmps.size = n
  defers : a.defers = []
  look : ∀ t g v, σ.look t = some (g, v) → a.tmps.getD t undef = bif g then v else undef

theorem Has.ev {n : Nat} {a : Act} {σ : Env} (h : Has n a σ) {x : Operand} {g : Bool} {v : Value} (hx : σ.ev x = some (g, v)) (hg : g = true) : a.eval x = v := by
  subst hg
  cases x with
  | tmp t => exact h.look t true v hx
  | const u => simp only [Env.ev, Option.some.injEq, Prod.mk.injEq, true_and] at hx; exact hx
  | global k => simp only [Env.ev, Option.some.injEq, Prod.mk.injEq, true_and] at hx; exact hx
  | func f => simp only [Env.ev, Option.some.injEq, Prod.mk.injEq, true_and] at hx; exact hx

theorem Has.put {n : Nat} {a : Act} {σ : Env} (h : Has n a σ) {d : Nat} (hd : d < n) (G : Bool) (v : Value) : Has n (a.put (some d) (bif G then v else undef)) ((d, (G, v)) :: σ) := by
  refine ⟨by simpa [Act.put] using h.size, h.defers, fun t g u ht => ?_⟩
  unfold Env.look at ht
  by_cases e : d = t
  · subst e
    simp only [Nat.beq_refl, cond_true, Option.some.injEq, Prod.mk.injEq] at ht
    obtain ⟨rfl, rfl⟩ := ht
    simp [Act.put, h.size, hd]
  · have : Nat.beq d t = false := beq_false e
    rw [this, cond_false] at ht
    rw [← h.look t g u ht]
    simp [Act.put, Array.getElem?_setIfInBounds_ne e]

theorem Has.keep {n : Nat} {a : Act} {σ : Env} (h : Has n a σ) : Has n (a.put none undef) σ := h

def Sub (σ : Env) : Env → Prop
  | [] => True
  | (t, gv) :: r => σ.look t = some gv ∧ Sub σ r

theorem Sub.look {σ : Env} : ∀ {τ : Env}, Sub σ τ → ∀ t gv, τ.look t = some gv → σ.look t = some gv
  | [], _, _, _, h => by simp [Env.look] at h
  | (d, x) :: r, ⟨h1, h2⟩, t, gv, h => by
    unfold Env.look at h
    by_cases e : d = t
    · subst e; simp only [Nat.beq_refl, cond_true, Option.some.injEq] at h; rw [h1, h]
    · have : Nat.beq d t = false := beq_false e
      rw [this, cond_false] at h
      exact Sub.look h2 t gv h

theorem Has.sub {n : Nat} {a : Act} {σ τ : Env} (h : Has n a σ) (hs : Sub σ τ) : Has n a τ :=
  ⟨h.size, h.defers, fun t g v ht => h.look t g v (hs.look t (g, v) ht)⟩

def wantG : Option (Nat × Bool) → (Nat → Option Bool) → Bool
  | none, _ => true
  | some (j, want), y => y j == some want

theorem wanted_eq (o : Oper) (y : Nat → Option Bool) : Region.wanted o y = wantG o.guard y := by
  unfold Region.wanted wantG
  cases o.guard with
  | none => rfl
  | some x => rfl

def GuardIs (ops : Array Oper) (σ : Env) (gd : Option (Nat × Bool)) (G : Bool) : Prop := ∀ n a, Has n a σ → wantG gd (yielded ops a.tmps) = G

theorem GuardIs.none {ops : Array Oper} {σ : Env} : GuardIs ops σ none true := fun _ _ _ => rfl

theorem yielded_of {ops : Array Oper} {σ : Env} {j d : Nat} {g b : Bool} (hj : (ops[j]?).bind (·.dst) = some d) (hd : σ.look d = some (g, .bool b)) {n : Nat} {a : Act} (h : Has n a σ) :
    yielded ops a.tmps j = bif g then some b else none := by
  have hl := h.look d g _ hd
  unfold yielded
  rw [hj, Option.bind_some]
  cases g with
  | true =>
    simp only [cond_true] at hl ⊢
    have : a.tmps[d]? = some (.bool b) := by
      cases hx : a.tmps[d]? with
      | none => simp [Array.getD_eq_getD_getElem?, hx, undef] at hl
      | some v => simp [Array.getD_eq_getD_getElem?, hx] at hl; rw [hl]
    rw [this]
  | false =>
    simp only [cond_false] at hl ⊢
    cases hx : a.tmps[d]? with
    | none => rfl
    | some v =>
      simp [Array.getD_eq_getD_getElem?, hx, undef] at hl
      subst hl; rfl

theorem GuardIs.pos {ops : Array Oper} {σ : Env} {j d : Nat} {b : Bool} (hj : (ops[j]?).bind (·.dst) = some d) (hd : σ.look d = some (true, .bool b)) : GuardIs ops σ (some (j, true)) b := fun n a h => by
  show (yielded ops a.tmps j == some _) = _
  rw [yielded_of hj hd h]; cases b <;> rfl
theorem GuardIs.neg {ops : Array Oper} {σ : Env} {j d : Nat} {b : Bool} (hj : (ops[j]?).bind (·.dst) = some d) (hd : σ.look d = some (true, .bool b)) : GuardIs ops σ (some (j, false)) (!b) := fun n a h => by
  show (yielded ops a.tmps j == some _) = _
  rw [yielded_of hj hd h]; cases b <;> rfl
theorem GuardIs.posC {ops : Array Oper} {σ : Env} {j d : Nat} {g b : Bool} (hj : (ops[j]?).bind (·.dst) = some d) (hd : σ.look d = some (g, .bool b)) : GuardIs ops σ (some (j, true)) (g && b) := fun n a h => by
  show (yielded ops a.tmps j == some _) = _
  rw [yielded_of hj hd h]; cases g <;> cases b <;> rfl
theorem GuardIs.negC {ops : Array Oper} {σ : Env} {j d : Nat} {g b : Bool} (hj : (ops[j]?).bind (·.dst) = some d) (hd : σ.look d = some (g, .bool b)) : GuardIs ops σ (some (j, false)) (g && !b) := fun n a h => by
  show (yielded ops a.tmps j == some _) = _
  rw [yielded_of hj hd h]; cases g <;> cases b <;> rfl

theorem ask_drawn {α : Type} (s : Ask α) : ∀ w : World, w.drawn ≤ (w.ask s).2.drawn := by
  induction s with
  | done a => intro w; exact Nat.le_refl _
  | ask q r k ih =>
    intro w
    unfold World.ask
    dsimp only
    split
    · exact ih _ _
    · refine Nat.le_trans ?_ (ih _ _)
      show w.drawn ≤ w.drawn + 1
      omega
theorem sys_drawn (w : World) (c : Sys) : w.drawn ≤ (w.sys c).2.drawn := by
  have h := ask_drawn (Kernel.perform c w.os) w
  unfold World.sys
  split
  · exact Nat.le_refl _
  · rename_i r os w' hq
    rw [hq] at h
    exact h
theorem viewStore_drawn {p : Program} {w w' : World} {at_ : Addr} {u : TypeId} {k : Addr} {v : Value} {b : Bool} {l : List Addr} (h : w.viewStore p at_ u k v b = .ok (w', l)) : w'.drawn = w.drawn := by
  unfold World.viewStore at h
  simp only [bind, Except.bind, pure, Except.pure] at h
  repeat' split at h
  all_goals (try cases h)
  all_goals rfl
theorem farStore_drawn {p : Program} {w w' : World} {a : Addr} {v : Value} {b : Bool} {l : List Addr} (h : w.farStore p a v b = .ok (w', l)) : w'.drawn = w.drawn := by
  unfold World.farStore at h
  split at h
  · split at h
    · rename_i r hr
      cases h
      exact viewStore_drawn hr
    · cases h
  · cases h
theorem freeze_drawn (w : World) (a : Addr) (n : Nat) : (w.freeze a n).drawn = w.drawn := by
  unfold World.freeze
  (repeat' split) <;> rfl
theorem run_drawn {P : Program} {α : Type} (s : Sem α) : ∀ (w : World) {a : α} {w' : World}, s.run P w = .ok a w' → w.drawn ≤ w'.drawn := by
  induction s with
  | pure a => intro w a w' h; simp [Sem.run] at h; rw [h.2]; exact Nat.le_refl _
  | load m a k ih =>
    intro w a' w' h
    unfold Sem.run at h
    split at h
    · exact ih _ _ h
    · split at h
      · exact ih _ _ h
      · cases h
  | store m a v k ih =>
    intro w a' w' h
    unfold Sem.run at h
    split at h
    · rename_i e; cases e
    · rename_i e; cases e
    · rename_i e; cases e; cases h
    · rename_i e; cases e; cases h
    · rename_i e
      cases e
      split at h
      · split at h
        · cases h
        · exact ih (World.setCell _ a v) h
      · split at h
        · rename_i w1 l hf
          have := ih w1 h
          rw [farStore_drawn hf] at this
          exact this
        · cases h
    all_goals (rename_i e; cases e)
  | new o k ih => intro w a w' h; unfold Sem.run at h; exact ih _ { w with heap := w.heap.push o } h
  | shape r k ih => intro w a w' h; unfold Sem.run at h; exact ih _ _ h
  | freeze a n k ih =>
    intro w a' w' h
    unfold Sem.run at h
    have := ih _ h
    rw [freeze_drawn] at this
    exact this
  | frozen a k ih => intro w a w' h; unfold Sem.run at h; exact ih _ _ h
  | getObj r k ih =>
    intro w a w' h
    unfold Sem.run at h
    split at h
    · cases h
    · exact ih _ _ h
    · cases h
  | setObj r o k ih =>
    intro w a w' h
    unfold Sem.run at h
    split at h
    · cases h
    · exact ih { w with heap := w.heap.setIfInBounds r o } h
    · cases h
  | choose q k ih =>
    intro w a w' h
    unfold Sem.run at h
    split at h
    · exact ih _ _ h
    · have := ih _ { w with drawn := w.drawn + 1 } h
      simp at this
      omega
  | sys c k ih => intro w a w' h; unfold Sem.run at h; exact Nat.le_trans (sys_drawn w c) (ih _ _ h)
  | program k ih => intro w a w' h; unfold Sem.run at h; exact ih _ _ h
  | mark m k ih => intro w a w' h; unfold Sem.run at h; exact ih _ h
  | halt h0 => intro w a w' h; unfold Sem.run at h; cases h
structure Grow (w w' : World) : Prop where
  os : w'.os = w.os
  tape : w'.tape = w.tape
  output : w'.output = w.output ∧ w.drawn ≤ w'.drawn
  size : w.heap.size ≤ w'.heap.size
  block : ∀ k, k < w.heap.size → w'.heap[k]? = w.heap[k]?
theorem Grow.below {w w' : World} (h : Grow w w') : Below w.heap.size w w' := ⟨h.os, h.tape, h.output.1, h.size, h.block⟩
theorem Grow.of {w w' : World} (h : Below w.heap.size w w') (hd : w.drawn ≤ w'.drawn) : Grow w w' := ⟨h.os, h.tape, ⟨h.output, hd⟩, h.size, h.block⟩
theorem Grow.cell {w w' : World} (h : Grow w w') {a : Addr} (ha : a.block < w.heap.size) : w'.cell? a = w.cell? a := h.below.cell ha
theorem Grow.refl (w : World) : Grow w w := .of (Below.refl _ _) (Nat.le_refl _)
theorem Grow.trans {a b c : World} (h : Grow a b) (k : Grow b c) : Grow a c := .of (Below.trans h.below (Below.mono k.below h.size)) (Nat.le_trans h.output.2 k.output.2)
theorem Grow.alloc {w : World} (o : Obj) : Grow w (w.alloc o) := .of ((Below.refl _ _).alloc (Nat.le_refl _) _) (Nat.le_refl _)

def Closed (C : World → Prop) : Prop := ∀ w w', C w → Grow w w' → C w'

section
variable {P : Program}
def QV (P : Program) (o : Oper) (σ : Env) (C : World → Prop) (v : Value) : Prop := ∀ n a, Has n a σ → ∀ w, C w →
  ((execOp a.eval o).run P w = .ok (.value v) w) ∨ (∃ f args, (execOp a.eval o).run P w = .ok (.enter f args) w ∧ Calls P f args w (fun e w'' => e = .returned v ∧ Grow w w''))

def WK (n : Nat) (K : Act → World → Prop) (σ : Env) (C : World → Prop) : Prop := ∀ a w, Has n a σ → C w → K a w

variable {n : Nat} {ops : Array Oper} {Q : Exit → Act → World → Prop} {rest : List Oper} {o : Oper} {σ : Env} {C S : World → Prop}
theorem Oper.wp_of_QV {a : Act} {v : Value} (hq : QV P o σ C v) (ha : Has n a σ) {w : World} (hw : C w) (hc : Closed C) {K : Act → World → Prop} (hK : ∀ w', C w' → K (a.put o.dst v) w') : o.wp P a w K Q := by
  unfold Oper.wp
  rcases hq n a ha w hw with h | ⟨f, args, h, hcall⟩
  · rw [h]; exact hK w hw
  · rw [h]
    exact hcall.mono fun e w'' ⟨he, hg⟩ => by subst he; exact hK w'' (hc w w'' hw hg)

theorem WL.quiet {G : Bool} {v : Value} {d : Nat} (hc : Closed C) (hd : o.dst = some d) (hn : d < n) (hG : GuardIs ops σ o.guard G) (hq : G = true → QV P o σ C v)
    (k : WK n (wpList P ops Q rest) ((d, (G, v)) :: σ) C) : WK n (wpList P ops Q (o :: rest)) σ C := fun a w ha hw => by
  unfold wpList
  rw [wanted_eq, hG n a ha]
  cases G with
  | true =>
    rw [if_pos rfl]
    refine .inl (Oper.wp_of_QV (hq rfl) ha hw hc fun w' hw' => ?_)
    rw [hd]
    exact k _ w' (ha.put hn true v) hw'
  | false =>
    rw [if_neg (by simp), hd]
    exact k _ w (ha.put hn false v) hw

theorem WL.nil (k : WK n (Q .normal) σ C) : WK n (wpList P ops Q []) σ C := k

def EV (P : Program) (n : Nat) (o : Oper) (σ : Env) (C : World → Prop) (K : Act → World → Prop) (Q : Exit → Act → World → Prop) : Prop :=
  ∀ a w, Has n a σ → C w → o.wp P a w K Q ∨ (o.asks P a w ∧ LetsOut Q)

theorem WL.effect (hg : o.guard = none) (h : EV P n o σ C (wpList P ops Q rest) Q) : WK n (wpList P ops Q (o :: rest)) σ C := fun a w ha hw => by
  unfold wpList
  rw [if_pos (by simp [Region.wanted, hg])]
  exact h a w ha hw

def Tail (md : Region.Mode) (ops : Array Oper) (listed : Array Bool) : Prop := ∃ (j : Nat) (oj : Oper), ops[j]? = some oj ∧ Region.ready md ops listed = [j] ∧ ∀ k, listed.getD k false = true → ∃ e ∈ oj.after, Region.binds md e = true ∧ (e.on = k ∨ ∃ o', ops[e.on]? = some o' ∧ ∃ e' ∈ o'.after, Region.binds md e' = true ∧ e'.on = k)
def DC (md : Region.Mode) (ops : Array Oper) (listed : Array Bool) : Prop := ∀ (k : Nat) (o : Oper), ops[k]? = some o → listed.getD k false = true → ∀ e ∈ o.after, Region.binds md e = true → listed.getD e.on false = true
theorem DC.set {md : Region.Mode} {i : Nat} {listed : Array Bool} (h : DC md ops listed) (hi : i ∈ Region.ready md ops listed) : DC md ops (listed.setIfInBounds i true) := fun k o ho hk e he hb => by
  obtain ⟨_, oi, hoi, hall⟩ := mem_ready.1 hi
  by_cases c : i = k
  · subst c
    rw [ho] at hoi
    cases hoi
    exact getD_set_true (hall e he hb)
  · rw [getD_set_ne false c] at hk
    exact getD_set_true (h k o ho hk e he hb)
theorem DC.start {md : Region.Mode} {m : Nat} : DC md ops (Array.replicate m false) := fun k o _ hk => by
  by_cases c : k < m
  · simp [c] at hk
  · simp [c] at hk

def wpAnyG (P : Program) (md : Region.Mode) (ops : Array Oper) (Q : Exit → Act → World → Prop) : (World → Prop) → Nat → Array Bool → (World → Prop) → Act → Prop
  | S, 0, listed, C, a => Region.ready md ops listed = [] ∧ ∀ w, C w → Q .normal a w
  | S, fuel + 1, listed, C, a => DC md ops listed →
    ((Region.ready md ops listed = [] → ∀ w, C w → Q .normal a w) ∧
    ∀ i ∈ Region.ready md ops listed, ∀ w, C w → wpOp P ops Q i (fun a' w' => ∃ C' S' : World → Prop, Closed C' ∧ (∀ x, C' x → S' x) ∧ (∀ x, S' x → S x) ∧ C' w' ∧ wpAnyG P md ops Q S' fuel (listed.setIfInBounds i true) C' a') a w) ∨
    (Tail md ops listed ∧ ∀ w, C w → wpAny P md ops Q (fuel + 1) listed a w)

theorem wpAny_of_G {md : Region.Mode} : ∀ (S : World → Prop) (fuel : Nat) (listed : Array Bool) (C : World → Prop) (a : Act) (w : World), DC md ops listed → C w → wpAnyG P md ops Q S fuel listed C a → wpAny P md ops Q fuel listed a w
  | _, 0, _, _, _, w, _, hw, h => ⟨h.1, h.2 w hw⟩
  | _, fuel + 1, _, _, _, w, hd, hw, h => by
    rcases h hd with h | h
    · exact ⟨fun h0 => h.1 h0 w hw, fun i hi => wpOp_mono (fun a' w' ⟨C', S', _, _, _, h1, h2⟩ => wpAny_of_G S' fuel _ C' a' w' (hd.set hi) h1 h2) (h.2 i hi w hw)⟩
    · exact h.2 w hw

def YG (P : Program) (ops : Array Oper) (C : World → Prop) (o : Oper) (v : Value) (a : Act) : Prop :=
  (wantG o.guard (yielded ops a.tmps) = true ∧ ∀ w, C w →
    ((execOp a.eval o).run P w = .ok (.value v) w) ∨ (∃ f args, (execOp a.eval o).run P w = .ok (.enter f args) w ∧ Calls P f args w (fun e w'' => e = .returned v ∧ Grow w w''))) ∨
  (wantG o.guard (yielded ops a.tmps) = false ∧ v = undef)

theorem YG.of_same {v : Value} {a a' : Act} (hy : YG P ops C o v a) (he : execOp a'.eval o = execOp a.eval o)
    (hw : Region.wanted o (yielded ops a'.tmps) = Region.wanted o (yielded ops a.tmps)) : YG P ops C o v a' := by
  unfold YG at *
  rw [wanted_eq, wanted_eq] at hw
  rw [he, hw]
  exact hy

theorem YG.mono {v : Value} {a : Act} {S' : World → Prop} (h : ∀ x, S' x → S x) : YG P ops S o v a → YG P ops S' o v a
  | .inl ⟨h1, h2⟩ => .inl ⟨h1, fun w hw => h2 w (h w hw)⟩
  | .inr h2 => .inr h2
theorem YG.toOp {i : Nat} {oi : Oper} {v : Value} {a : Act} (hi : ops[i]? = some oi) (hy : YG P ops S oi v a) {K : Act → World → Prop} {w : World} (hw : C w) (hCS : ∀ x, C x → S x) (hc : Closed C)
    (hK : ∀ w', C w' → K (a.put oi.dst v) w') : wpOp P ops Q i K a w := by
  unfold Go.wpOp
  simp only [hi]
  rw [wanted_eq]
  rcases hy with ⟨hwa, hv⟩ | ⟨hwa, rfl⟩
  · rw [if_pos hwa]
    refine .inl ?_
    unfold Oper.wp
    rcases hv w (hCS w hw) with h | ⟨f, args, h, hcall⟩
    · rw [h]; exact hK w hw
    · rw [h]
      exact hcall.mono fun e w'' ⟨he, hg⟩ => by subst he; exact hK w'' (hc w w'' hw hg)
  · rw [if_neg (by simp [hwa])]
    exact hK w hw

theorem wpOp_putG {j : Nat} {oi oj : Oper} {v : Value} (hj : ops[j]? = some oj) (hap : oi.apart ops oj = true)
    (hsi : ∀ cs b, oi.op ≠ .select cs b) (hsj : ∀ cs b, oj.op ≠ .select cs b)
    (hQ : ∀ c a w, Q (.panic c) (a.put oi.dst v) w → Q (.panic c) a w) {K : Act → World → Prop} {a : Act} {w : World}
    (hy : YG P ops S oi v a) (h : wpOp P ops Q j K (a.put oi.dst v) w) :
    wpOp P ops Q j (fun a' w' => YG P ops S oi v a' ∧ K (a'.put oi.dst v) w') a w := by
  obtain ⟨h1, h2, h3⟩ := Oper.apart_spec hap
  have keep : ∀ (a : Act), YG P ops S oi v a → ∀ u, YG P ops S oi v (a.put oj.dst u) := fun a hy u =>
    hy.of_same (execOp_put oi hsi a oj.dst u h3) (wanted_put oi a oj.dst u h3)
  have keepD : ∀ d, YG P ops S oi v { a with defers := d :: a.defers } := fun d => hy.of_same rfl rfl
  unfold wpOp at *
  simp only [hj] at *
  rw [wanted_put oj a oi.dst v h1] at h
  split
  · rename_i hw
    simp only [hw, if_true] at h
    rcases h with h | ⟨hasks, hlets⟩
    case inr => exact .inr ⟨by unfold Oper.asks at *; rw [execOp_put oj hsj a oi.dst v h1] at hasks; exact hasks, hlets⟩
    refine .inl ?_
    unfold Oper.wp at *
    rw [execOp_put oj hsj a oi.dst v h1] at h
    generalize (execOp a.eval oj).run P w = r at *
    cases r with
    | ok n w' =>
      cases n <;> simp only [Oper.upon] at h ⊢
      case value u => exact ⟨keep a hy u, by rw [← Act.put_comm a v u h2]; exact h⟩
      case skip => exact ⟨keep a hy _, by rw [← Act.put_comm a v undef h2]; exact h⟩
      case defer d =>
        refine ⟨keep _ (keepD d) _, ?_⟩
        rw [← Act.put_comm _ v undef h2, ← Act.put_defers]
        exact h
      case enter f args =>
        refine Calls.mono h fun e w'' he => ?_
        cases e with
        | returned u => exact ⟨keep a hy u, by rw [← Act.put_comm a v u h2]; exact he⟩
        | panicked c => exact hQ _ _ _ he
        | outgrown => exact he
      case row row args => exact Rows.mono h fun u w'' he => ⟨keep a hy u, by rw [← Act.put_comm a v u h2]; exact he⟩
    | halt x w' =>
      cases x <;> simp only [Oper.upon] at h ⊢
      case panic u => exact hQ _ _ _ h
  · rename_i hw
    simp only [hw] at h
    exact ⟨keep a hy _, by rw [← Act.put_comm a v undef h2]; exact h⟩

theorem wpAnyG_first {md : Region.Mode} {i : Nat} {oi : Oper} {v : Value} (hi : ops[i]? = some oi) (hsel : ∀ (j : Nat) (o : Oper) cs b, ops[j]? = some o → o.op ≠ .select cs b)
    (hQ : ∀ c a w, Q (.panic c) (a.put oi.dst v) w → Q (.panic c) a w) :
    ∀ (fuel : Nat) (S : World → Prop) (listed : Array Bool) (C : World → Prop) (a : Act), Closed C → (∀ x, C x → S x) →
      (∀ j oj, ops[j]? = some oj → j ≠ i → listed.getD j true = false → (∀ e ∈ oj.after, Region.binds md e = true → e.on ≠ i) → oi.apart ops oj = true) →
      i ∈ Region.ready md ops listed → YG P ops S oi v a →
      wpAnyG P md ops Q S fuel (listed.setIfInBounds i true) C (a.put oi.dst v) → wpAnyG P md ops Q S (fuel + 1) listed C a := by
  intro fuel
  induction fuel with
  | zero =>
    intro S listed C a hc hCS _ hr hy H
    intro hD
    refine .inl ⟨fun h => (by rw [h] at hr; cases hr), fun j hj w hw => ?_⟩
    by_cases hji : j = i
    · subst hji; exact hy.toOp hi hw hCS hc fun w' hw' => ⟨C, S, hc, hCS, fun _ h => h, hw', H⟩
    · have := ready_mono hj hji
      rw [H.1] at this
      cases this
  | succ fuel ih =>
    intro S listed C a hc hCS hfree hr hy H
    intro hD
    have H0 := H
    replace H := H (hD.set hr)
    refine .inl ⟨fun h => (by rw [h] at hr; cases hr), fun j hj w hw => ?_⟩
    by_cases hji : j = i
    · subst hji; exact hy.toOp hi hw hCS hc fun w' hw' => ⟨C, S, hc, hCS, fun _ h => h, hw', H0⟩
    · have hilt : i < listed.size := by
        rcases Nat.lt_or_ge i listed.size with h' | h'
        · exact h'
        · have h0 := (mem_ready.1 hr).1
          simp [Array.getElem?_eq_none h'] at h0
      rcases H with H | ⟨⟨j0, o0, ho0, hr0, hall0⟩, _⟩
      case inr =>
        have hj0 := ready_mono hj hji
        rw [hr0, List.mem_singleton] at hj0
        subst hj0
        obtain ⟨e, he, hb, heq⟩ := hall0 i (by simp [hilt])
        obtain ⟨_, oj, hoj, hall⟩ := mem_ready.1 hj
        rw [ho0] at hoj
        cases hoj
        have h1 := hall e he hb
        have h0 := (mem_ready.1 hr).1
        rcases heq with heq | ⟨o', ho', e', he', hb', heq⟩
        · rw [heq] at h1
          simp [hilt] at h0 h1
          rw [h0] at h1; cases h1
        · have h2 := hD e.on o' ho' h1 e' he' hb'
          rw [heq] at h2
          simp [hilt] at h0 h2
          rw [h0] at h2; cases h2
      have h1 := H.2 j (ready_mono hj hji) w hw
      obtain ⟨hjun, oj, hoj, hall⟩ := mem_ready.1 hj
      have hnot : ∀ e ∈ oj.after, Region.binds md e = true → e.on ≠ i := fun e he hb heq => by
        have h1 := hall e he hb
        have h0 := (mem_ready.1 hr).1
        rw [heq] at h1
        simp [hilt] at h0 h1
        rw [h0] at h1; cases h1
      have h2 := wpOp_putG hoj (hfree j oj hoj hji hjun hnot) (fun cs b => hsel i oi cs b hi) (fun cs b => hsel j oj cs b hoj) hQ hy h1
      have hfree' : ∀ k ok, ops[k]? = some ok → k ≠ i → (listed.setIfInBounds j true).getD k true = false →
          (∀ e ∈ ok.after, Region.binds md e = true → e.on ≠ i) → oi.apart ops ok = true := fun k ok hk hki hun hno => by
        refine hfree k ok hk hki ?_ hno
        by_cases hjk : j = k
        · subst hjk; exact hjun
        · rw [getD_set_ne true hjk] at hun; exact hun
      refine wpOp_mono (fun a' w' h3 => ?_) h2
      obtain ⟨hy', C', S', hc', hsub, hSS, hw', hrest⟩ := h3
      refine ⟨C', S', hc', hsub, hSS, hw', ih S' (listed.setIfInBounds j true) C' a' hc' hsub hfree' (ready_mono hr (Ne.symm hji)) (hy'.mono hSS) ?_⟩
      rw [Array.setIfInBounds_comm _ _ hji]
      exact hrest

def PanicOk (Q : Exit → Act → World → Prop) : Prop := ∀ c a d v w, Q (.panic c) (a.put d v) w → Q (.panic c) a w
def WD (P : Program) (n : Nat) (ops : Array Oper) (Q : Exit → Act → World → Prop) (S : World → Prop) (fuel : Nat) (listed : Array Bool) (σ : Env) (C : World → Prop) : Prop :=
  (∀ x, C x → S x) → ∀ a, Has n a σ → wpAnyG P .any ops Q S fuel listed C a

theorem WD.take (i : Nat) {oi : Oper} {fuel : Nat} {listed listed' : Array Bool} {G : Bool} {v : Value} {d : Nat} (hi : ops[i]? = some oi)
    (hs : Region.noSelect ops = true) (hf : Region.free .any ops listed i = true) (hr : (Region.ready .any ops listed).contains i = true) (hl : listed.setIfInBounds i true = listed')
    (hQ : PanicOk Q)
    (hc : Closed C) (hd : oi.dst = some d) (hn : d < n) (hG : GuardIs ops σ oi.guard G) (hq : G = true → QV P oi σ S v)
    (k : WD P n ops Q S fuel listed' ((d, (G, v)) :: σ) C) : WD P n ops Q S (fuel + 1) listed σ C := fun hCS a ha => by
  subst hl
  have hp := k hCS _ (ha.put hn G v)
  rw [← hd] at hp
  refine wpAnyG_first hi (Region.noSelect_spec hs) (fun c a w => hQ c a _ _ w) fuel S listed C a hc hCS (Region.free_spec hi hf) (by simpa using hr) ?_ hp
  have hg := hG n a ha
  cases G with
  | true => exact .inl ⟨hg, fun w hw => hq rfl n a ha w hw⟩
  | false => exact .inr ⟨hg, rfl⟩

theorem WD.behind {fuel : Nat} {listed : Array Bool} {τ : Env} {C' S' : World → Prop} (hc : Closed C') (hs : ∀ x, C' x → S' x) (hss : ∀ x, S' x → S x) (h : WD P n ops Q S' fuel listed τ C') :
    WK n (fun a' w' => ∃ C' S' : World → Prop, Closed C' ∧ (∀ x, C' x → S' x) ∧ (∀ x, S' x → S x) ∧ C' w' ∧ wpAnyG P .any ops Q S' fuel listed C' a') τ C' := fun a w ha hw => ⟨C', S', hc, hs, hss, hw, h hs a ha⟩

theorem WD.only (i : Nat) {oi : Oper} {fuel : Nat} {listed listed' : Array Bool} (hi : ops[i]? = some oi) (hr : Region.ready .any ops listed = [i]) (hl : listed.setIfInBounds i true = listed')
    (hg : oi.guard = none) (h : EV P n oi σ C (fun a' w' => ∃ C' S' : World → Prop, Closed C' ∧ (∀ x, C' x → S' x) ∧ (∀ x, S' x → S x) ∧ C' w' ∧ wpAnyG P .any ops Q S' fuel listed' C' a') Q) : WD P n ops Q S (fuel + 1) listed σ C := fun hCS a ha => by
  subst hl
  intro _
  refine .inl ⟨fun h0 => (by rw [hr] at h0; cases h0), fun j hj w hw => ?_⟩
  rw [hr, List.mem_singleton] at hj
  subst hj
  unfold Go.wpOp
  simp only [hi]
  rw [if_pos (by simp [Region.wanted, hg])]
  exact h a w ha hw

def tailB (ops : Array Oper) (oj : Oper) (listed : Array Bool) : Bool := (List.range listed.size).all fun k => !listed.getD k false || oj.after.any fun e => Region.binds .any e && (e.on == k || match ops[e.on]? with | some o' => o'.after.any fun e' => Region.binds .any e' && e'.on == k | none => false)
theorem tailB_spec {oj : Oper} {listed : Array Bool} (h : tailB ops oj listed = true) : ∀ k, listed.getD k false = true → ∃ e ∈ oj.after, Region.binds .any e = true ∧ (e.on = k ∨ ∃ o', ops[e.on]? = some o' ∧ ∃ e' ∈ o'.after, Region.binds .any e' = true ∧ e'.on = k) := fun k hk => by
  have hlt : k < listed.size := by
    rcases Nat.lt_or_ge k listed.size with h' | h'
    · exact h'
    · simp [Array.getElem?_eq_none h'] at hk
  have := List.all_eq_true.1 h k (List.mem_range.2 hlt)
  rw [hk, Bool.not_true, Bool.false_or] at this
  obtain ⟨e, he, h1⟩ := Array.any_eq_true'.1 this
  simp only [Bool.and_eq_true, Bool.or_eq_true, beq_iff_eq] at h1
  refine ⟨e, he, h1.1, ?_⟩
  rcases h1.2 with h2 | h2
  · exact .inl h2
  · cases ho : ops[e.on]? with
    | none => rw [ho] at h2; cases h2
    | some o' =>
      rw [ho] at h2
      obtain ⟨e', he', h3⟩ := Array.any_eq_true'.1 h2
      simp only [Bool.and_eq_true, beq_iff_eq] at h3
      exact .inr ⟨o', rfl, e', he', h3.1, h3.2⟩

theorem WD.last (i : Nat) {oi : Oper} {fuel : Nat} {listed : Array Bool} (hi : ops[i]? = some oi) (hr : Region.ready .any ops listed = [i]) (ht : tailB ops oi listed = true) (hl : Region.ready .any ops (listed.setIfInBounds i true) = [])
    (hg : oi.guard = none) (h : EV P n oi σ C (Q .normal) Q) : WD P n ops Q S (fuel + 1) listed σ C := fun hCS a ha => by
  intro _
  refine .inr ⟨⟨i, oi, hi, hr, tailB_spec ht⟩, fun w hw => ⟨fun h0 => (by rw [hr] at h0; cases h0), fun j hj => ?_⟩⟩
  rw [hr, List.mem_singleton] at hj
  subst hj
  refine wpOp_mono (K := Q .normal) (fun a' w' hq => ?_) ?_
  · cases fuel with
    | zero => exact ⟨hl, hq⟩
    | succ f => exact ⟨fun _ => hq, by rw [hl]; simp⟩
  · unfold Go.wpOp
    simp only [hi]
    rw [if_pos (by simp [Region.wanted, hg])]
    exact h a w ha hw

theorem WD.done {fuel : Nat} {listed : Array Bool} (hr : Region.ready .any ops listed = []) (k : WK n (Q .normal) σ C) : WD P n ops Q S fuel listed σ C := fun hCS a ha => by
  cases fuel with
  | zero => exact ⟨hr, fun w hw => k a w ha hw⟩
  | succ f => exact fun _ => .inl ⟨fun _ w hw => k a w ha hw, by rw [hr]; simp⟩

theorem WC.region {id : Nat} {l : List Oper} (h : WK n (wpList P l.toArray Q l) σ C) : WK n ((Code.region id l.toArray false).wp P Q) σ C := fun a w ha hw => wp_region_lit (h a w ha hw)
theorem WC.drawn {id : Nat} (hm : P.follows .mixedOrders = true) (hc : Closed C) (hCS : ∀ x, C x → S x) (h : WD P n ops Q S ops.size (Array.replicate ops.size false) σ C) : WK n ((Code.region id ops true).wp P Q) σ C := fun a w ha hw =>
  wp_region_any hm (wpAny_of_G S _ _ C a _ DC.start (hc w _ hw ⟨rfl, rfl, ⟨rfl, Nat.le_succ _⟩, Nat.le_refl _, fun _ _ => rfl⟩) (h hCS a ha))
theorem WC.seq {x y : Code} (h : WK n (x.wp P (Exit.then (y.wp P Q) Q)) σ C) : WK n ((x.seq y).wp P Q) σ C := fun a w ha hw => wp_seq (h a w ha hw)
theorem WC.skip (k : WK n (Q .normal) σ C) : WK n (Code.skip.wp P Q) σ C := fun a w ha hw => wp_skip (k a w ha hw)
theorem WC.exit {id : Nat} (k : WK n (Q (.exit id)) σ C) : WK n ((Code.exit id).wp P Q) σ C := fun a w ha hw => wp_exit (k a w ha hw)
theorem WC.ret (k : WK n (Q .ret) σ C) : WK n (Code.ret.wp P Q) σ C := fun a w ha hw => wp_ret (k a w ha hw)
theorem WC.block {id : Nat} {c : Code} (h : WK n (c.wp P (Exit.inBlock id Q)) σ C) : WK n ((Code.block id c).wp P Q) σ C := fun a w ha hw => wp_block (h a w ha hw)
theorem WC.cond {c : Operand} {x y : Code} {b : Bool} (hb : σ.ev c = some (true, .bool b)) (ht : b = true → WK n (x.wp P Q) σ C) (hf : b = false → WK n (y.wp P Q) σ C) : WK n ((Code.cond c x y).wp P Q) σ C := fun a w ha hw =>
  wp_cond_split (ha.ev hb rfl) (fun h => ht h a w ha hw) (fun h => hf h a w ha hw)
theorem WC.cut {c : Code} (τ : Env) (D : World → Prop) (hs : Sub σ τ) (hd : ∀ w, C w → D w) (h : WK n (c.wp P Q) τ D) : WK n (c.wp P Q) σ C := fun a w ha hw => h a w (ha.sub hs) (hd w hw)

theorem WQ.then {y : Code} (h : WK n (y.wp P Q) σ C) : WK n (Exit.then (y.wp P Q) Q .normal) σ C := h
theorem WQ.then_exit {K : Act → World → Prop} {id : Nat} (h : WK n (Q (.exit id)) σ C) : WK n (Exit.then K Q (.exit id)) σ C := h
theorem WQ.then_ret {K : Act → World → Prop} (h : WK n (Q .ret) σ C) : WK n (Exit.then K Q .ret) σ C := h
theorem WQ.block {id : Nat} (h : WK n (Q .normal) σ C) : WK n (Exit.inBlock id Q .normal) σ C := h
theorem WQ.block_ret {id : Nat} (h : WK n (Q .ret) σ C) : WK n (Exit.inBlock id Q .ret) σ C := h
theorem WQ.block_exit {id : Nat} (h : WK n (Q .normal) σ C) : WK n (Exit.inBlock id Q (.exit id)) σ C := fun a w ha hw => by
  simp only [Exit.inBlock, if_true]; exact h a w ha hw
theorem WC.loop {Γ : Type} (S : Γ → Env) (D : Γ → World → Prop) (I : Γ → Prop) (μ : Γ → Nat) (g₀ : Γ) {c : Code} (h₀ : I g₀) (hs : Sub σ (S g₀)) (hd : ∀ w, C w → D g₀ w)
    (round : ∀ g, I g → WK n (c.wp P (Exit.then (fun a' w' => ∃ g', I g' ∧ μ g' < μ g ∧ Has n a' (S g') ∧ D g' w') Q)) (S g) (D g)) : WK n ((Code.loop c).wp P Q) σ C := fun a w ha hw => by
  refine wp_loop_ghost (fun k a' w' => ∃ g, I g ∧ μ g = k ∧ Has n a' (S g) ∧ D g w') (μ g₀) ⟨g₀, h₀, rfl, ha.sub hs, hd w hw⟩ ?_
  rintro k a' w' ⟨g, hI, rfl, hh, hD⟩
  refine wp_mono (round g hI a' w' hh hD) ?_
  intro e a₂ w₂ hq
  cases e <;> first | exact hq | (obtain ⟨g', h1, h2, h3, h4⟩ := hq; exact ⟨μ g', h2, g', h1, rfl, h3, h4⟩)

theorem WQ.ret1 {fn : Func} {R : Ending → World → Prop} {t : Nat} {v : Value} (hr : fn.results = #[.tmp t]) (hv : σ.look t = some (true, v)) (h : ∀ w, C w → R (.returned v) w) :
    WK n (bodyPost P fn R .ret) σ C := fun a w ha hw => by
  refine ⟨ha.defers, v, ?_, h w hw⟩
  rw [results_tmp hr]
  have := ha.look t true v hv
  rw [this]; rfl
theorem WQ.ret2 {fn : Func} {R : Ending → World → Prop} {t u : Nat} {v x : Value} (hr : fn.results = #[.tmp t, .tmp u]) (hv : σ.look t = some (true, v)) (hx : σ.look u = some (true, x)) (h : ∀ w, C w → R (.returned (.tuple #[v, x])) w) :
    WK n (bodyPost P fn R .ret) σ C := fun a w ha hw => by
  refine ⟨ha.defers, _, ?_, h w hw⟩
  rw [results_tmp2 hr, ha.look t true v hv, ha.look u true x hx]; rfl
def argsEnv : List Value → Nat → Env
  | [], _ => []
  | v :: r, k => (k, (true, v)) :: argsEnv r (k + 1)

theorem argsEnv_look : ∀ (l : List Value) (k t : Nat) (g : Bool) (v : Value), (argsEnv l k).look t = some (g, v) → g = true ∧ ∃ j, t = k + j ∧ l[j]? = some v
  | [], _, _, _, _, h => by simp [argsEnv, Env.look] at h
  | x :: r, k, t, g, v, h => by
    unfold argsEnv Env.look at h
    by_cases e : k = t
    · subst e
      simp only [Nat.beq_refl, cond_true, Option.some.injEq, Prod.mk.injEq] at h
      exact ⟨h.1.symm, 0, rfl, by simp [h.2]⟩
    · have : Nat.beq k t = false := beq_false e
      rw [this, cond_false] at h
      obtain ⟨h1, j, h2, h3⟩ := argsEnv_look r (k + 1) t g v h
      exact ⟨h1, j + 1, by omega, by simpa using h3⟩

theorem calls_of_WC {f : FuncId} {fn : Func} {c : Code} {args : List Value} {R : Ending → World → Prop} {w : World} (hf : P.funcs[f]? = some fn) (hb : fn.body = some c) (hn : fn.ntmps = n) (hl : args.length ≤ n)
    (h : WK n (c.wp P (bodyPost P fn R)) (argsEnv args 0) C) (hw : C w) : Calls P f args.toArray w R := by
  refine calls_of_wp hf hb (h _ w ⟨?_, rfl, ?_⟩ hw)
  · simp [hn]; omega
  · intro t g v ht
    obtain ⟨rfl, j, h2, h3⟩ := argsEnv_look args 0 t g v ht
    obtain rfl : t = j := by omega
    have hlt : t < args.length := (List.getElem?_eq_some_iff.1 h3).1
    simp only [cond_true]
    rw [Array.getD_eq_getD_getElem?, Array.getElem?_append_left (by simpa using hlt)]
    simp [h3]

theorem PanicOk.then {K : Act → World → Prop} (h : PanicOk Q) : PanicOk (Exit.then K Q) := h
theorem PanicOk.block {id : Nat} (h : PanicOk Q) : PanicOk (Exit.inBlock id Q) := h
theorem PanicOk.body {fn : Func} {R : Ending → World → Prop} : PanicOk (bodyPost P fn R) := fun c a d v w h => by
  cases d <;> exact h
theorem andT {a b : Bool} (h : a = true) (k : b = true) : (a && b) = true := by rw [h, k]; rfl
theorem andN {a b : Bool} (h : a = true) (k : b = false) : (a && !b) = true := by rw [h, k]; rfl
theorem notF {b : Bool} (k : b = false) : (!b) = true := by rw [k]; rfl
end
end Go.Rd
end

section
namespace Go.Rd
open Go.RowKit
set_option linter.unusedVariables false
structure Res where
  foot : Nat → Prop
  holds : World → Prop
  stable : ∀ w w', holds w → (∀ b, foot b → w'.heap[b]? = w.heap[b]?) → holds w'

structure Frame (M : Nat → Prop) (w0 w : World) : Prop where
  os : w.os = w0.os
  tape : w.tape = w0.tape
  output : w.output = w0.output ∧ w0.drawn ≤ w.drawn
  size : w0.heap.size ≤ w.heap.size
  block : ∀ b, b < w0.heap.size → ¬ M b → w.heap[b]? = w0.heap[b]?

def noM : Nat → Prop := fun _ => False
theorem Frame.refl {M : Nat → Prop} (w : World) : Frame M w w := ⟨rfl, rfl, ⟨rfl, Nat.le_refl _⟩, Nat.le_refl _, fun _ _ _ => rfl⟩
theorem Frame.grow {w0 w : World} (h : Frame noM w0 w) : Grow w0 w := ⟨h.os, h.tape, h.output, h.size, fun b hb => h.block b hb (fun x => x)⟩
theorem Frame.trans {M : Nat → Prop} {w0 w w' : World} (h : Frame M w0 w) (k : Frame (fun b => M b ∨ w0.heap.size ≤ b) w w') : Frame M w0 w' :=
  ⟨k.os.trans h.os, k.tape.trans h.tape, ⟨k.output.1.trans h.output.1, Nat.le_trans h.output.2 k.output.2⟩, Nat.le_trans h.size k.size, fun b hb hM => (k.block b (Nat.lt_of_lt_of_le hb h.size) (by rintro (x | x); exact hM x; omega)).trans (h.block b hb hM)⟩

def AllOwn (B : Nat → Prop) (w : World) : List Res → Prop
  | [] => True
  | r :: H => (r.holds w ∧ (∀ b, r.foot b → B b ∧ b < w.heap.size) ∧ ∀ s ∈ H, ∀ b, r.foot b → ¬ s.foot b) ∧ AllOwn B w H

def Mine (M : Nat → Prop) (w0 : World) (b : Nat) : Prop := M b ∨ w0.heap.size ≤ b
def Own (M : Nat → Prop) (w0 : World) (H : List Res) (w : World) : Prop := Frame M w0 w ∧ AllOwn (Mine M w0) w H

theorem AllOwn.change {B : Nat → Prop} {w w' : World} (hs : w.heap.size ≤ w'.heap.size) : ∀ {H : List Res}, AllOwn B w H → (∀ r ∈ H, ∀ b, r.foot b → w'.heap[b]? = w.heap[b]?) → AllOwn B w' H
  | [], _, _ => trivial
  | r :: H, ⟨⟨h1, h2, h3⟩, h4⟩, hk => ⟨⟨r.stable w w' h1 (hk r (by simp)), fun b hb => ⟨(h2 b hb).1, Nat.lt_of_lt_of_le (h2 b hb).2 hs⟩, h3⟩, h4.change hs fun s hs' => hk s (List.mem_cons_of_mem _ hs')⟩

theorem AllOwn.lt {B : Nat → Prop} {w : World} : ∀ {H : List Res}, AllOwn B w H → ∀ r ∈ H, ∀ b, r.foot b → B b ∧ b < w.heap.size
  | r :: H, ⟨⟨_, h2, _⟩, h4⟩, s, hs, b, hb => by
    rcases List.mem_cons.1 hs with rfl | hs
    · exact h2 b hb
    · exact h4.lt s hs b hb

section
variable {M : Nat → Prop} {w0 w w' : World} {H : List Res}
theorem Own.closed : Closed (Own M w0 H) := fun w w' ⟨h1, h2⟩ hg =>
  ⟨h1.trans ⟨hg.os, hg.tape, hg.output, hg.size, fun b hb _ => hg.block b hb⟩, h2.change hg.size fun r hr b hb => hg.block b (h2.lt r hr b hb).2⟩

theorem Own.start (w0 : World) : Own noM w0 [] w0 := ⟨Frame.refl _, trivial⟩
theorem Own.grow (h : Own noM w0 H w) : Grow w0 w := h.1.grow

theorem Own.push (h : Own M w0 H w) (hg : Grow w w') (r : Res) (hr : r.holds w') (hf : ∀ b, r.foot b → w.heap.size ≤ b ∧ b < w'.heap.size) : Own M w0 (r :: H) w' := by
  have hc := Own.closed w w' h hg
  refine ⟨hc.1, ⟨hr, fun b hb => ⟨.inr (Nat.le_trans h.1.size (hf b hb).1), (hf b hb).2⟩, fun s hs b hb hsb => ?_⟩, hc.2⟩
  have := (h.2.lt s hs b hsb).2
  have := (hf b hb).1
  omega

theorem Own.head {r : Res} (h : Own M w0 (r :: H) w) : r.holds w := h.2.1.1
theorem AllOwn.at {B : Nat → Prop} {w : World} : ∀ {H : List Res} (k : Nat) {r : Res}, AllOwn B w H → H[k]? = some r → r.holds w
  | r :: H, 0, s, ⟨⟨h1, _⟩, _⟩, hk => by simp at hk; exact hk ▸ h1
  | r :: H, k + 1, s, ⟨_, h4⟩, hk => h4.at k (by simpa using hk)
theorem Own.at (h : Own M w0 H w) (k : Nat) {r : Res} (hk : H[k]? = some r) : r.holds w := h.2.at k hk

theorem AllOwn.upd {B : Nat → Prop} {w w' : World} (hs : w.heap.size ≤ w'.heap.size) : ∀ {H : List Res} (k : Nat) {r r' : Res}, AllOwn B w H → H[k]? = some r →
    (∀ b, b < w.heap.size → ¬ r.foot b → w'.heap[b]? = w.heap[b]?) → r'.holds w' → (∀ b, r'.foot b → (r.foot b ∨ w.heap.size ≤ b) ∧ b < w'.heap.size) → (∀ b, w.heap.size ≤ b → B b) → AllOwn B w' (H.set k r')
  | s :: H, 0, r, r', ⟨⟨h1, h2, h3⟩, h4⟩, hk, hch, hr', hf, hB => by
    simp at hk; subst hk
    refine ⟨⟨hr', fun b hb => ⟨?_, (hf b hb).2⟩, fun t ht b hb htb => ?_⟩, ?_⟩
    · rcases (hf b hb).1 with h | h
      · exact (h2 b h).1
      · exact hB b h
    · rcases (hf b hb).1 with h | h
      · exact h3 t ht b h htb
      · have := (h4.lt t ht b htb).2; omega
    · exact h4.change hs fun t ht b hb => hch b (h4.lt t ht b hb).2 fun hrb => h3 t ht b hrb hb
  | s :: H, k + 1, r, r', ⟨⟨h1, h2, h3⟩, h4⟩, hk, hch, hr', hf, hB => by
    have hk' : H[k]? = some r := by simpa using hk
    have hmem : r ∈ H := List.mem_of_getElem? hk'
    refine ⟨⟨s.stable w w' h1 fun b hb => hch b (h2 b hb).2 fun hrb => h3 r hmem b hb hrb, fun b hb => ⟨(h2 b hb).1, Nat.lt_of_lt_of_le (h2 b hb).2 hs⟩, fun t ht b hb htb => ?_⟩, h4.upd hs k hk' hch hr' hf hB⟩
    rcases List.mem_or_eq_of_mem_set ht with h | rfl
    · exact h3 t h b hb htb
    · rcases (hf b htb).1 with h | h
      · exact h3 r hmem b hb h
      · have := (h2 b hb).2; omega

theorem Own.upd (h : Own M w0 H w) (k : Nat) {r r' : Res} (hk : H[k]? = some r) (hos : w'.os = w.os) (htape : w'.tape = w.tape) (hout : w'.output = w.output ∧ w.drawn ≤ w'.drawn) (hs : w.heap.size ≤ w'.heap.size)
    (hch : ∀ b, b < w.heap.size → ¬ r.foot b → w'.heap[b]? = w.heap[b]?) (hr' : r'.holds w') (hf : ∀ b, r'.foot b → (r.foot b ∨ w.heap.size ≤ b) ∧ b < w'.heap.size) : Own M w0 (H.set k r') w' := by
  refine ⟨h.1.trans ⟨hos, htape, hout, hs, fun b hb hM => hch b hb fun hrb => ?_⟩, h.2.upd hs k hk hch hr' hf fun b hb => .inr (Nat.le_trans h.1.size hb)⟩
  exact hM (h.2.lt r (List.mem_of_getElem? hk) b hrb).1
end
theorem Own.lt {w0 w : World} {H : List Res} (h : Own noM w0 H w) : ∀ r ∈ H, ∀ b, r.foot b → w0.heap.size ≤ b ∧ b < w.heap.size := fun r hr b hb => by
  obtain ⟨h1, h2⟩ := h.2.lt r hr b hb
  exact ⟨h1.elim (fun x => x.elim) id, h2⟩

def blk (b : Nat) (cs : List Value) (T : TypeId) : Res where
  foot := fun x => x = b
  holds := fun w => w.heap[b]? = some (.cells cs.toArray T (0, 0))
  stable := fun w w' h hk => (hk b rfl).trans h

theorem Own.cell {M : Nat → Prop} {w0 : World} {H : List Res} (k : Nat) {b : Nat} {cs : List Value} {T : TypeId} {off : Nat} {v : Value} (hk : H[k]? = some (blk b cs T)) (hv : cs[off]? = some v) :
    ∀ w, Own M w0 H w → w.cell? ⟨b, off, none⟩ = some v := fun w hw => by
  have h : w.heap[b]? = some (.cells cs.toArray T (0, 0)) := hw.at k hk
  simp [World.cell?, h, hv]

theorem Own.base {w0 : World} {H : List Res} {p : Addr} {v : Value} (h : w0.cell? p = some v) : ∀ w, Own noM w0 H w → w.cell? p = some v := fun w hw => by
  rw [hw.grow.cell (World.block_lt_of_cell? w0 p h)]; exact h

def TypeDesc.agg : TypeDesc → Bool
  | .struct _ | .array _ _ => true
  | _ => false
def Plain (P : Program) (T : TypeId) : Prop := ∃ d, P.underlying T = some d ∧ TypeDesc.agg d = false
def AggT (P : Program) (T : TypeId) (sz : Nat) : Prop := ∃ d, P.underlying T = some d ∧ TypeDesc.agg d = true ∧ (P.info? T).map (·.size) = some sz
def SizeT (P : Program) (T : TypeId) (sz : Nat) : Prop := (P.info? T).map (·.size) = some sz
def ZeroT (P : Program) (T : TypeId) (cs : List Value) : Prop := (P.info? T).map (fun i => i.zero.map Value.cells) = some (some cs.toArray)
theorem ZeroT.out {P : Program} {T : TypeId} {cs : List Value} (h : ZeroT P T cs) : ∃ i v, P.info? T = some i ∧ i.zero = some v ∧ v.cells = cs.toArray := by
  obtain ⟨i, h1, h2⟩ := Option.map_eq_some_iff.1 h
  obtain ⟨v, h3, h4⟩ := Option.map_eq_some_iff.1 h2
  exact ⟨i, v, h1, h3, h4⟩
def FieldT (P : Program) (T : TypeId) (f off : Nat) : Prop := ∃ fs fd sz, P.underlying T = some (.struct fs) ∧ fs[f]? = some fd ∧ fd.offset = off ∧ (P.info? fd.type).map (·.size) = some (sz + 1)
def SliceT (P : Program) (T E : TypeId) (sz : Nat) : Prop := P.underlying T = some (.slice E) ∧ (P.info? E).map (·.size) = some sz
def ArrayT (P : Program) (T : TypeId) (len sz : Nat) : Prop := ∃ E, P.underlying T = some (.array len E) ∧ (P.info? E).map (·.size) = some sz
def Enters (P : Program) (f : FuncId) : Prop := ∃ fn, P.funcs[f]? = some fn ∧ fn.body.isNone = false ∧ (fn.name == "runtime.NumGoroutine") = false

section
variable {P : Program} {σ : Env} {C : World → Prop} {d : Option Tmp} {T U : TypeId} {pos : String} {after : Array Edge} {gd : Option (Nat × Bool)} {x y : Operand} {z : TypeId} {g g' g'' : Bool} {v : Value}
theorem eval_const (a : Act) (v : Value) : a.eval (.const v) = v := rfl
theorem QV.of_run {o : Oper} (h : ∀ n a, Has n a σ → ∀ w, C w → (execOp a.eval o).run P w = .ok (.value v) w) : QV P o σ C v := fun n a ha w hw => .inl (h n a ha w hw)

theorem QV.move (hx : σ.ev x = some (g, v)) (hg : g = true) : QV P ⟨d, .move x, T, pos, after, gd⟩ σ C v := .of_run fun n a ha w hw => by
  simp [execOp, ha.ev hx hg]
theorem QV.assign (hx : σ.ev x = some (g, v)) (hg : g = true) : QV P ⟨d, .assign x, T, pos, after, gd⟩ σ C v := .of_run fun n a ha w hw => by
  simp [execOp, ha.ev hx hg]

theorem QV.pickAnd {p q : Bool} (hx : σ.ev x = some (g, .bool p)) (hg : g = true) (hy : σ.ev y = some (g', .bool q)) (hg' : p = true → g' = true) :
    QV P ⟨d, .pick x y (.const (.bool false)), T, pos, after, gd⟩ σ C (.bool (p && q)) := .of_run fun n a ha w hw => by
  cases p with
  | true => simp [execOp, ha.ev hx hg, ha.ev hy (hg' rfl), asBool]
  | false => simp [execOp, ha.ev hx hg, asBool, eval_const]
theorem QV.pickOr {p q : Bool} (hx : σ.ev x = some (g, .bool p)) (hg : g = true) (hy : σ.ev y = some (g', .bool q)) (hg' : p = false → g' = true) :
    QV P ⟨d, .pick x (.const (.bool true)) y, T, pos, after, gd⟩ σ C (.bool (p || q)) := .of_run fun n a ha w hw => by
  cases p with
  | false => simp [execOp, ha.ev hx hg, ha.ev hy (hg' rfl), asBool]
  | true => simp [execOp, ha.ev hx hg, asBool, eval_const]

theorem QV.not {p : Bool} (hx : σ.ev x = some (g, .bool p)) (hg : g = true) : QV P ⟨d, .unOp .not U x, T, pos, after, gd⟩ σ C (.bool (!p)) := .of_run fun n a ha w hw => by
  simp [execOp, ha.ev hx hg, Op.unary]

theorem QV.eql {k : IntKind} {i j : Int} (hx : σ.ev x = some (g, .int k i)) (hg : g = true) (hy : σ.ev y = some (g', .int k j)) (hg' : g' = true) : QV P ⟨d, .binOp .eql U x y z, T, pos, after, gd⟩ σ C (.bool (i == j)) := .of_run fun n a ha w hw => by
  simp [execOp, ha.ev hx hg, ha.ev hy hg', eqGuard_at_int, binOp, Op.intCmp]
theorem QV.neq {k : IntKind} {i j : Int} (hx : σ.ev x = some (g, .int k i)) (hg : g = true) (hy : σ.ev y = some (g', .int k j)) (hg' : g' = true) : QV P ⟨d, .binOp .neq U x y z, T, pos, after, gd⟩ σ C (.bool (i != j)) := .of_run fun n a ha w hw => by
  simp [execOp, ha.ev hx hg, ha.ev hy hg', eqGuard_at_int, binOp, Op.intCmp]
theorem QV.lss {k : IntKind} {i j : Int} (hx : σ.ev x = some (g, .int k i)) (hg : g = true) (hy : σ.ev y = some (g', .int k j)) (hg' : g' = true) : QV P ⟨d, .binOp .lss U x y z, T, pos, after, gd⟩ σ C (.bool (decide (i < j))) := .of_run fun n a ha w hw => by
  simp [execOp, ha.ev hx hg, ha.ev hy hg', eqGuard_at_int, binOp, Op.intCmp]
theorem QV.leq {k : IntKind} {i j : Int} (hx : σ.ev x = some (g, .int k i)) (hg : g = true) (hy : σ.ev y = some (g', .int k j)) (hg' : g' = true) : QV P ⟨d, .binOp .leq U x y z, T, pos, after, gd⟩ σ C (.bool (decide (i ≤ j))) := .of_run fun n a ha w hw => by
  simp [execOp, ha.ev hx hg, ha.ev hy hg', eqGuard_at_int, binOp, Op.intCmp]
theorem QV.gtr {k : IntKind} {i j : Int} (hx : σ.ev x = some (g, .int k i)) (hg : g = true) (hy : σ.ev y = some (g', .int k j)) (hg' : g' = true) : QV P ⟨d, .binOp .gtr U x y z, T, pos, after, gd⟩ σ C (.bool (decide (i > j))) := .of_run fun n a ha w hw => by
  simp [execOp, ha.ev hx hg, ha.ev hy hg', eqGuard_at_int, binOp, Op.intCmp]
theorem QV.geq {k : IntKind} {i j : Int} (hx : σ.ev x = some (g, .int k i)) (hg : g = true) (hy : σ.ev y = some (g', .int k j)) (hg' : g' = true) : QV P ⟨d, .binOp .geq U x y z, T, pos, after, gd⟩ σ C (.bool (decide (i ≥ j))) := .of_run fun n a ha w hw => by
  simp [execOp, ha.ev hx hg, ha.ev hy hg', eqGuard_at_int, binOp, Op.intCmp]
theorem QV.addW {k : IntKind} {i j : Int} (hx : σ.ev x = some (g, .int k i)) (hg : g = true) (hy : σ.ev y = some (g', .int k j)) (hg' : g' = true) : QV P ⟨d, .binOp .add U x y z, T, pos, after, gd⟩ σ C (.int k (k.wrap (i + j))) := .of_run fun n a ha w hw => by
  simp [execOp, ha.ev hx hg, ha.ev hy hg', eqGuard_at_int, binOp, Op.intArith]
theorem QV.subW {k : IntKind} {i j : Int} (hx : σ.ev x = some (g, .int k i)) (hg : g = true) (hy : σ.ev y = some (g', .int k j)) (hg' : g' = true) : QV P ⟨d, .binOp .sub U x y z, T, pos, after, gd⟩ σ C (.int k (k.wrap (i - j))) := .of_run fun n a ha w hw => by
  simp [execOp, ha.ev hx hg, ha.ev hy hg', eqGuard_at_int, binOp, Op.intArith]
theorem QV.mulW {k : IntKind} {i j : Int} (hx : σ.ev x = some (g, .int k i)) (hg : g = true) (hy : σ.ev y = some (g', .int k j)) (hg' : g' = true) : QV P ⟨d, .binOp .mul U x y z, T, pos, after, gd⟩ σ C (.int k (k.wrap (i * j))) := .of_run fun n a ha w hw => by
  simp [execOp, ha.ev hx hg, ha.ev hy hg', eqGuard_at_int, binOp, Op.intArith]
theorem QV.andW {k : IntKind} {i j : Int} (hx : σ.ev x = some (g, .int k i)) (hg : g = true) (hy : σ.ev y = some (g', .int k j)) (hg' : g' = true) : QV P ⟨d, .binOp .and U x y z, T, pos, after, gd⟩ σ C (.int k (k.wrap (BitVec.ofInt k.bits i &&& BitVec.ofInt k.bits j).toNat)) := .of_run fun n a ha w hw => by
  simp [execOp, ha.ev hx hg, ha.ev hy hg', eqGuard_at_int, binOp, Op.intBits]
theorem QV.quoW {k : IntKind} {i j : Int} (hx : σ.ev x = some (g, .int k i)) (hg : g = true) (hy : σ.ev y = some (g', .int k j)) (hg' : g' = true) (h0 : j ≠ 0) : QV P ⟨d, .binOp .quo U x y z, T, pos, after, gd⟩ σ C (.int k (k.wrap (i.tdiv j))) := .of_run fun n a ha w hw => by
  simp [execOp, ha.ev hx hg, ha.ev hy hg', eqGuard_at_int, binOp, Op.intDiv, h0]
theorem QV.rem {k : IntKind} {i j : Int} (hx : σ.ev x = some (g, .int k i)) (hg : g = true) (hy : σ.ev y = some (g', .int k j)) (hg' : g' = true) (h0 : j ≠ 0) : QV P ⟨d, .binOp .rem U x y z, T, pos, after, gd⟩ σ C (.int k (i.tmod j)) := .of_run fun n a ha w hw => by
  simp [execOp, ha.ev hx hg, ha.ev hy hg', eqGuard_at_int, binOp, Op.intDiv, h0]
theorem QV.shlW {k k' : IntKind} {i j : Int} (hx : σ.ev x = some (g, .int k i)) (hg : g = true) (hy : σ.ev y = some (g', .int k' j)) (hg' : g' = true) (h0 : 0 ≤ j) :
    QV P ⟨d, .binOp .shl U x y z, T, pos, after, gd⟩ σ C (.int k (k.wrap (i * 2 ^ (min j.toNat k.bits)))) := .of_run fun n a ha w hw => by
  simp [execOp, ha.ev hx hg, ha.ev hy hg', eqGuard_at_int, binOp, Op.shift, Int.not_lt.2 h0]
theorem wrap_i64 {n : Int} (h1 : -9223372036854775808 ≤ n) (h2 : n ≤ 9223372036854775807) : IntKind.i64.wrap n = n := IntWalk.i64_in n (by omega)
theorem QV.add {i j : Int} (hx : σ.ev x = some (g, .int .i64 i)) (hg : g = true) (hy : σ.ev y = some (g', .int .i64 j)) (hg' : g' = true) (hr : -9223372036854775808 ≤ i + j ∧ i + j ≤ 9223372036854775807) :
    QV P ⟨d, .binOp .add U x y z, T, pos, after, gd⟩ σ C (.int .i64 (i + j)) := by
  have := QV.addW (P := P) (C := C) (d := d) (T := T) (U := U) (pos := pos) (after := after) (gd := gd) (z := z) hx hg hy hg'
  rwa [wrap_i64 hr.1 hr.2] at this
theorem QV.sub {i j : Int} (hx : σ.ev x = some (g, .int .i64 i)) (hg : g = true) (hy : σ.ev y = some (g', .int .i64 j)) (hg' : g' = true) (hr : -9223372036854775808 ≤ i - j ∧ i - j ≤ 9223372036854775807) :
    QV P ⟨d, .binOp .sub U x y z, T, pos, after, gd⟩ σ C (.int .i64 (i - j)) := by
  have := QV.subW (P := P) (C := C) (d := d) (T := T) (U := U) (pos := pos) (after := after) (gd := gd) (z := z) hx hg hy hg'
  rwa [wrap_i64 hr.1 hr.2] at this
theorem QV.mul {i j : Int} (hx : σ.ev x = some (g, .int .i64 i)) (hg : g = true) (hy : σ.ev y = some (g', .int .i64 j)) (hg' : g' = true) (hr : -9223372036854775808 ≤ i * j ∧ i * j ≤ 9223372036854775807) :
    QV P ⟨d, .binOp .mul U x y z, T, pos, after, gd⟩ σ C (.int .i64 (i * j)) := by
  have := QV.mulW (P := P) (C := C) (d := d) (T := T) (U := U) (pos := pos) (after := after) (gd := gd) (z := z) hx hg hy hg'
  rwa [wrap_i64 hr.1 hr.2] at this

theorem QV.fieldAddr {f off : Nat} {q : Addr} (hT : FieldT P U f off) (hx : σ.ev x = some (g, .pointer (some q))) (hg : g = true) :
    QV P ⟨d, .fieldAddr U x f, T, pos, after, gd⟩ σ C (.pointer (some (q.add off))) := .of_run fun n a ha w hw => by
  obtain ⟨fs, fd, sz, h1, h2, rfl, h4⟩ := hT
  obtain ⟨i, hi, hs⟩ := Option.map_eq_some_iff.1 h4
  simp [execOp, ha.ev hx hg, Instr.fieldAt, run_underlying h1, h2, Instr.sureAddr, fieldPlace, sizeOf, typeInfo, hi, hs]

def ElemP (v : Value) (i : Int) (sz : Nat) (p : Addr) : Prop := ∃ a n c, v = .slice (some a) n c ∧ 0 ≤ i ∧ i < n ∧ p = a.add (i.toNat * sz)

theorem QV.indexSlice {E : TypeId} {sz : Nat} {i : Int} {k : IntKind} {p : Addr} (hT : SliceT P U E sz) (hx : σ.ev x = some (g, v)) (hg : g = true) (hy : σ.ev y = some (g', .int k i)) (hg' : g' = true) (hp : ElemP v i sz p) :
    QV P ⟨d, .indexAddr U x y, T, pos, after, gd⟩ σ C (.pointer (some p)) := .of_run fun n a ha w hw => by
  obtain ⟨a0, m, c, rfl, h0, h1, rfl⟩ := hp
  obtain ⟨hT, hS⟩ := hT
  obtain ⟨inf, hi, hs⟩ := Option.map_eq_some_iff.1 hS
  simp [execOp, ha.ev hx hg, ha.ev hy hg', Instr.indexAt, asIntOf, run_underlying hT, h0, h1, sizeOf, typeInfo, hi, hs]
theorem QV.indexArray {len sz : Nat} {i : Int} {k : IntKind} {q : Addr} (hT : ArrayT P U len sz) (hx : σ.ev x = some (g, .pointer (some q))) (hg : g = true) (hy : σ.ev y = some (g', .int k i)) (hg' : g' = true) (h0 : 0 ≤ i) (h1 : i < len) :
    QV P ⟨d, .indexAddr U x y, T, pos, after, gd⟩ σ C (.pointer (some (q.add (i.toNat * sz)))) := .of_run fun n a ha w hw => by
  obtain ⟨E, hT, hS⟩ := hT
  obtain ⟨inf, hi, hs⟩ := Option.map_eq_some_iff.1 hS
  simp [execOp, ha.ev hx hg, ha.ev hy hg', Instr.indexAt, asIntOf, Instr.sureAddr, run_underlying hT, h0, h1, sizeOf, typeInfo, hi, hs]

theorem run_isAgg_plain (hT : Plain P T) (w : World) : (isAgg T).run P w = .ok false w := by
  obtain ⟨dd, h1, h2⟩ := hT
  cases dd <;> simp_all [isAgg, run_underlying h1, TypeDesc.agg]
theorem run_isAgg_agg {sz : Nat} (hT : AggT P T sz) (w : World) : (isAgg T).run P w = .ok true w := by
  obtain ⟨dd, h1, h2, _⟩ := hT
  cases dd <;> simp_all [isAgg, run_underlying h1, TypeDesc.agg]
theorem run_load_cell {w : World} {p : Addr} (h : w.cell? p = some v) : (load p).run P w = .ok v w := by
  simp [load, Sem.run, h]

theorem QV.load {q : Addr} (hT : Plain P U) (hx : σ.ev x = some (g, .pointer (some q))) (hg : g = true) (hc : ∀ w, C w → w.cell? q = some v) :
    QV P ⟨d, .load U x, T, pos, after, gd⟩ σ C v := .of_run fun n a ha w hw => by
  simp [execOp, ha.ev hx hg, Instr.loadAt, Instr.sureAddr, loadVar, run_isAgg_plain hT, hc w hw]

def CellsAt (w : World) (q : Addr) : List Value → Nat → Prop
  | [], _ => True
  | v :: r, k => w.cell? (q.add k) = some v ∧ CellsAt w q r (k + 1)

theorem run_loadCellsFrom {w : World} {q : Addr} : ∀ (l : List Value) (k : Nat) (acc : Array Value), CellsAt w q l k → (loadCellsFrom q k l.length acc).run P w = .ok (acc ++ l.toArray) w
  | [], k, acc, _ => by simp [loadCellsFrom]
  | v :: r, k, acc, ⟨h1, h2⟩ => by
    simp only [List.length_cons, loadCellsFrom]
    simp [run_load_cell h1, run_loadCellsFrom r (k + 1) (acc.push v) h2]

theorem QV.loadAgg {q : Addr} {sz : Nat} {cs : List Value} (hT : AggT P U sz) (hl : cs.length = sz) (hx : σ.ev x = some (g, .pointer (some q))) (hg : g = true) (hc : ∀ w, C w → CellsAt w q cs 0) :
    QV P ⟨d, .load U x, T, pos, after, gd⟩ σ C (.agg cs.toArray) := .of_run fun n a ha w hw => by
  have hA := run_isAgg_agg hT w
  obtain ⟨dd, h1, h2, h3⟩ := hT
  obtain ⟨inf, hi, hs⟩ := Option.map_eq_some_iff.1 h3
  have := run_loadCellsFrom (P := P) cs 0 #[] (hc w hw)
  rw [hl] at this
  simp [execOp, ha.ev hx hg, Instr.loadAt, Instr.sureAddr, loadVar, hA, sizeOf, typeInfo, hi, hs, loadCells, this]

theorem QV.len {a0 : Option Addr} {m c : Nat} {E : TypeId} (hT : P.underlying U = some (.slice E)) (hx : σ.ev x = some (g, .slice a0 m c)) (hg : g = true) :
    QV P ⟨d, .call ⟨.builtin .len, #[x], #[U]⟩, T, pos, after, gd⟩ σ C (.int .i64 m) := .of_run fun n a ha w hw => by
  simp [execOp, resolve, invoke, builtin, ha.ev hx hg, Builtin.len_, run_underlying hT, goInt]

theorem QV.nilCheck {q : Addr} (hx : σ.ev x = some (g, .pointer (some q))) (hg : g = true) : QV P ⟨d, .nilCheck x, T, pos, after, gd⟩ σ C (.pointer (some q)) := .of_run fun n a ha w hw => by
  simp [execOp, ha.ev hx hg]
theorem QV.extract {l : List Value} {k : Nat} (hx : σ.ev x = some (g, .tuple l.toArray)) (hg : g = true) (hv : l[k]? = some v) : QV P ⟨d, .extract x k, T, pos, after, gd⟩ σ C v := .of_run fun n a ha w hw => by
  simp [execOp, ha.ev hx hg, Instr.extract, hv]

def EvAll (σ : Env) : List Operand → List Value → Prop
  | [], [] => True
  | x :: xs, v :: vs => (∃ g, σ.ev x = some (g, v) ∧ g = true) ∧ EvAll σ xs vs
  | _, _ => False
theorem EvAll.map {n : Nat} {a : Act} (ha : Has n a σ) : ∀ {xs : List Operand} {vs : List Value}, EvAll σ xs vs → xs.map a.eval = vs
  | [], [], _ => rfl
  | x :: xs, v :: vs, ⟨⟨g, h1, h2⟩, h3⟩ => by simp [ha.ev h1 h2, EvAll.map ha h3]
theorem EvAll.nil : EvAll σ [] [] := trivial
theorem EvAll.cons {xs : List Operand} {vs : List Value} (h1 : σ.ev x = some (g, v)) (h2 : g = true) (h3 : EvAll σ xs vs) : EvAll σ (x :: xs) (v :: vs) := ⟨⟨g, h1, h2⟩, h3⟩

theorem run_callFunc {f : FuncId} (hf : Enters P f) (args : Array Value) (w : World) : (callFunc f args).run P w = .ok (.enter f args) w := by
  obtain ⟨fn, h1, h2, h3⟩ := hf
  have h2' : ¬ fn.body = none := by intro h; simp [h] at h2
  have h3' : ¬ fn.name = "runtime.NumGoroutine" := by simpa using h3
  simp [callFunc, h1, h2', h3']

theorem QV.call {f : FuncId} {xs : List Operand} {ats : Array TypeId} {vs : List Value} (hf : Enters P f) (hv : EvAll σ xs vs) (hc : ∀ w, C w → Calls P f vs.toArray w (fun e w'' => e = .returned v ∧ Grow w w'')) :
    QV P ⟨d, .call ⟨.value (.func f), xs.toArray, ats⟩, T, pos, after, gd⟩ σ C v := fun n a ha w hw => by
  refine .inr ⟨f, vs.toArray, ?_, hc w hw⟩
  have := hv.map ha
  simp [execOp, resolve, Deferred.ofValue, Act.eval, invoke, run_callFunc hf, this]
end
end Go.Rd
end

section
namespace Go.Rd
open Go.RowKit
set_option linter.unusedVariables false
theorem Addr.add_add (a : Addr) (i j : Nat) : (a.add i).add j = a.add (i + j) := by
  unfold Addr.add
  by_cases hi : i = 0 <;> by_cases hj : j = 0 <;> simp [hi, hj]
  omega

theorem CellsAt.get {w : World} {q : Addr} : ∀ {l : List Value} {k : Nat} (j : Nat) {v : Value}, CellsAt w q l k → l[j]? = some v → w.cell? (q.add (k + j)) = some v
  | u :: r, k, 0, v, ⟨h1, _⟩, hv => by simp at hv; subst hv; exact h1
  | u :: r, k, j + 1, v, ⟨_, h2⟩, hv => by
    have := h2.get j (by simpa using hv)
    rwa [show k + 1 + j = k + (j + 1) from by omega] at this
theorem CellsAt.one {w : World} {q : Addr} {l : List Value} (j : Nat) {v : Value} (h : CellsAt w q l 0) (hv : l[j]? = some v) : w.cell? (q.add j) = some v := by
  have := h.get j hv
  rwa [Nat.zero_add] at this

theorem CellsAt.of {w : World} {q : Addr} : ∀ {l : List Value} {k : Nat}, (∀ j v, l[j]? = some v → w.cell? (q.add (k + j)) = some v) → CellsAt w q l k
  | [], _, _ => trivial
  | u :: r, k, h => ⟨by simpa using h 0 u rfl, CellsAt.of fun j v hv => by
      have := h (j + 1) v (by simpa using hv)
      rwa [show k + (j + 1) = k + 1 + j from by omega] at this⟩

theorem CellsAt.mono {w w' : World} {q : Addr} (h : ∀ a v, w.cell? a = some v → w'.cell? a = some v) : ∀ {l : List Value} {k : Nat}, CellsAt w q l k → CellsAt w' q l k
  | [], _, _ => trivial
  | u :: r, k, ⟨h1, h2⟩ => ⟨h _ _ h1, h2.mono h⟩

def SliceLen (v : Value) (n : Nat) : Prop := ∃ a c, v = .slice a n c ∧ (0 < n → a.isSome = true) ∧ n ≤ c

structure Arr (w : World) (v : Value) (sz : Nat) (rows : List (List Value)) : Prop where
  len : SliceLen v rows.length
  row : ∀ (i : Nat) r p, rows[i]? = some r → ElemP v i sz p → CellsAt w p r 0

theorem SliceLen.elem {v : Value} {n : Nat} (h : SliceLen v n) (sz : Nat) (i : Int) (h0 : 0 ≤ i) (h1 : i < n) : ∃ p, ElemP v i sz p := by
  obtain ⟨a, c, rfl, hs, _⟩ := h
  obtain ⟨a, rfl⟩ := Option.isSome_iff_exists.1 (hs (by omega))
  exact ⟨_, a, n, c, rfl, h0, h1, rfl⟩

theorem Arr.at {α : Type} {w : World} {v : Value} {sz : Nat} {xs : List α} {enc : α → List Value} (d : α) (h : Arr w v sz (xs.map enc)) (i : Int) (h0 : 0 ≤ i) (h1 : i < xs.length) :
    ∃ p, ElemP v i sz p ∧ CellsAt w p (enc (xs.getD i.toNat d)) 0 := by
  obtain ⟨p, hp⟩ := h.len.elem sz i h0 (by simpa using h1)
  refine ⟨p, hp, h.row i.toNat _ p ?_ (by rwa [Int.toNat_of_nonneg h0])⟩
  have hlt : i.toNat < xs.length := by omega
  simp [List.getD_eq_getElem?_getD, List.getElem?_eq_getElem hlt]

theorem Arr.lenMap {α : Type} {w : World} {v : Value} {sz : Nat} {xs : List α} {enc : α → List Value} (h : Arr w v sz (xs.map enc)) : SliceLen v xs.length := by
  have := h.len
  rwa [List.length_map] at this

theorem Arr.mono {w w' : World} {v : Value} {sz : Nat} {rows : List (List Value)} (h : Arr w v sz rows) (hm : ∀ a u, w.cell? a = some u → w'.cell? a = some u) : Arr w' v sz rows :=
  ⟨h.len, fun i r p hr hp => (h.row i r p hr hp).mono hm⟩
theorem Arr.grow {w w' : World} {v : Value} {sz : Nat} {rows : List (List Value)} (h : Arr w v sz rows) (hg : Grow w w') : Arr w' v sz rows :=
  h.mono fun a u hu => by rw [hg.cell (World.block_lt_of_cell? w a hu)]; exact hu

theorem Arr.nil {w : World} {sz : Nat} : Arr w (.slice none 0 0) sz [] := ⟨⟨none, 0, rfl, by simp, Nat.le_refl _⟩, fun i r p hr => by simp at hr⟩

theorem Own.cells {w0 : World} {H : List Res} {p : Addr} {l : List Value} (h : CellsAt w0 p l 0) : ∀ w, Own noM w0 H w → CellsAt w p l 0 := fun w hw =>
  h.mono fun a v hv => Own.base hv w hw

theorem Own.cellsBlk {M : Nat → Prop} {w0 : World} {H : List Res} (k : Nat) {b : Nat} {cs : List Value} {T : TypeId} (hk : H[k]? = some (blk b cs T)) :
    ∀ w, Own M w0 H w → CellsAt w ⟨b, 0, none⟩ cs 0 := fun w hw => CellsAt.of fun j v hv => by
  have := Own.cell (w0 := w0) (H := H) k hk hv w hw
  rw [Nat.zero_add]
  unfold Addr.add
  split
  · subst_vars; exact this
  · simpa using this

theorem CellsAt.sub {w : World} {q : Addr} {l : List Value} (off len : Nat) (h : CellsAt w q l 0) {r : List Value} (hr : (l.drop off).take len = r) : CellsAt w (q.add off) r 0 := CellsAt.of fun j v hv => by
  rw [Nat.zero_add, Addr.add_add]
  refine h.one (off + j) ?_
  rw [← hr, List.getElem?_take] at hv
  split at hv
  · simpa [List.getElem?_drop] using hv
  · cases hv

section
variable {P : Program} {n : Nat} {σ : Env} {M : Nat → Prop} {w0 : World} {H : List Res} {d : Option Tmp} {T U : TypeId} {pos : String} {after : Array Edge} {gd : Option (Nat × Bool)} {x y : Operand} {g g' : Bool} {v : Value} {C : World → Prop}
  {K : Act → World → Prop} {Q : Exit → Act → World → Prop}
theorem QV.lenS {m : Nat} {E : TypeId} (hT : P.underlying U = some (.slice E)) (hx : σ.ev x = some (g, v)) (hg : g = true) (hl : SliceLen v m) :
    QV P ⟨d, .call ⟨.builtin .len, #[x], #[U]⟩, T, pos, after, gd⟩ σ C (.int .i64 m) := by
  obtain ⟨a, c, rfl, _⟩ := hl
  exact QV.len hT hx hg

theorem EV.new {o : Oper} {dd : Nat} {cs : List Value} (hd : o.dst = some dd) (hn : dd < n)
    (hrun : ∀ a w, Has n a σ → Own M w0 H w → (execOp a.eval o).run P w = .ok (.value (.pointer (some ⟨w.heap.size, 0, none⟩))) (w.alloc (.cells cs.toArray T)))
    (k : ∀ b, WK n K ((dd, (true, .pointer (some ⟨b, 0, none⟩))) :: σ) (Own M w0 (blk b cs T :: H))) : EV P n o σ (Own M w0 H) K Q := fun a w ha hw => by
  refine .inl ?_
  unfold Oper.wp
  rw [hrun a w ha hw]
  show K (a.put o.dst _) _
  rw [hd]
  refine k w.heap.size _ _ (ha.put hn true _) (hw.push (w' := w.alloc (.cells cs.toArray T)) ?_ (blk w.heap.size cs T) ?_ ?_)
  · exact Grow.alloc _
  · exact heap_alloc_new w _
  · intro b hb
    subst hb
    simp

theorem EV.boxAgg {dd : Nat} {cs : List Value} (hn : dd < n) (hx : σ.ev x = some (g, .agg cs.toArray)) (hg : g = true)
    (k : ∀ b, WK n K ((dd, (true, .pointer (some ⟨b, 0, none⟩))) :: σ) (Own M w0 (blk b cs T :: H))) : EV P n ⟨some dd, .box T x, U, pos, after, gd⟩ σ (Own M w0 H) K Q :=
  EV.new rfl hn (fun a w ha hw => by simp [execOp, Instr.box, newVar, newRow, newObj, ha.ev hx hg, Sem.run, Value.cells]) k
theorem EV.alloc {dd : Nat} {cs : List Value} (hn : dd < n) (hz : ZeroT P T cs)
    (k : ∀ b, WK n K ((dd, (true, .pointer (some ⟨b, 0, none⟩))) :: σ) (Own M w0 (blk b cs T :: H))) : EV P n ⟨some dd, .alloc T, U, pos, after, gd⟩ σ (Own M w0 H) K Q := by
  obtain ⟨i, z, h1, h2, h3⟩ := hz.out
  exact EV.new rfl hn (fun a w ha hw => by simp [execOp, Instr.alloc, newVar, newRow, newObj, Sem.run, zeroValue, typeInfo, h1, h2, h3]) k

def putL : List Value → Nat → List Value → List Value
  | l, _, [] => l
  | l, off, v :: r => putL (l.set off v) (off + 1) r

theorem putL_length : ∀ (r l : List Value) (off : Nat), (putL l off r).length = l.length
  | [], _, _ => rfl
  | v :: r, l, off => by unfold putL; rw [putL_length r]; simp

theorem setCell_blk {w : World} {b : Nat} {cs : List Value} {off : Nat} (h : w.heap[b]? = some (.cells cs.toArray T (0, 0))) : (w.setCell ⟨b, off, none⟩ v).heap[b]? = some (.cells (cs.set off v).toArray T (0, 0)) := by
  simp [World.setCell, Array.getElem?_modify, h]

theorem run_storeCells_blk {b : Nat} : ∀ (vs : List Value) (q : Addr) (i off : Nat) (cs : List Value) (w : World), w.heap[b]? = some (.cells cs.toArray T (0, 0)) → q.add i = ⟨b, off, none⟩ → off + vs.length ≤ cs.length →
    (∀ v ∈ vs, v.oneCell' = true) →
    ∃ w', (storeCells q vs i).run P w = .ok () w' ∧ w'.heap[b]? = some (.cells (putL cs off vs).toArray T (0, 0)) ∧ (∀ k, k ≠ b → w'.heap[k]? = w.heap[k]?) ∧ w'.heap.size = w.heap.size ∧ w'.os = w.os ∧ w'.tape = w.tape ∧ (w'.output = w.output ∧ w.drawn ≤ w'.drawn)
  | [], q, i, off, cs, w, h, _, _, _ => ⟨w, by simp [storeCells], h, fun _ _ => rfl, rfl, rfl, rfl, rfl, Nat.le_refl _⟩
  | v :: vs, q, i, off, cs, w, h, hq, hl, hc => by
    have hlt : off < cs.length := by simp only [List.length_cons] at hl; omega
    have hcell : w.cell? ⟨b, off, none⟩ = some cs[off] := by simp [World.cell?, h, hlt]
    have hfr : w.frozen? ⟨b, off, none⟩ = false := by simp [World.frozen?, h]
    have hq' : q.add (i + 1) = ⟨b, off + 1, none⟩ := by rw [← Addr.add_add, hq]; simp [Addr.add]
    obtain ⟨w', h1, h2, h3, h4, h5, h6, h7⟩ := run_storeCells_blk vs q (i + 1) (off + 1) (cs.set off v) (w.setCell ⟨b, off, none⟩ v) (setCell_blk h) hq'
      (by simp only [List.length_cons, List.length_set] at hl ⊢; omega) (fun u hu => hc u (List.mem_cons_of_mem _ hu))
    have hst : (store ⟨b, off, none⟩ v).run P w = .ok () (w.setCell ⟨b, off, none⟩ v) := by
      have := hc v (List.mem_cons_self ..)
      cases v <;> simp_all [store, Sem.run, Value.oneCell']
    refine ⟨w', ?_, h2, fun k hk => (h3 k hk).trans (Below.heap_setCell _ _ _ _ hk), by simpa using h4, by simpa [World.setCell] using h5, by simpa [World.setCell] using h6, by simpa [World.setCell] using h7⟩
    simp [storeCells, hq, hst, h1]

theorem EV.store (k : Nat) {b off : Nat} {q : Addr} {cs vs : List Value} {E : TypeId} (hx : σ.ev x = some (g, .pointer (some q))) (hg : g = true) (hy : σ.ev y = some (g', v)) (hg' : g' = true)
    (hk : H[k]? = some (blk b cs E)) (hq : q = ⟨b, off, none⟩) (hv : v.cells = vs.toArray) (hs : SizeT P T vs.length) (hl : off + vs.length ≤ cs.length) (ho : ∀ u ∈ vs, u.oneCell' = true)
    (kk : WK n K σ (Own M w0 (H.set k (blk b (putL cs off vs) E)))) : EV P n ⟨none, .store T x y, U, pos, after, gd⟩ σ (Own M w0 H) K Q := fun a w ha hw => by
  refine .inl ?_
  subst hq
  have hb : w.heap[b]? = some (.cells cs.toArray E (0, 0)) := hw.at k hk
  obtain ⟨w', h1, h2, h3, h4, h5, h6, h7⟩ := run_storeCells_blk (P := P) vs ⟨b, off, none⟩ 0 off cs w hb (by simp [Addr.add]) hl ho
  obtain ⟨inf, hi, hsz⟩ := Option.map_eq_some_iff.1 hs
  have hrun : (execOp a.eval ⟨none, .store T x y, U, pos, after, gd⟩).run P w = .ok .skip w' := by
    simp [execOp, ha.ev hx hg, ha.ev hy hg', Instr.storeAt, Instr.sureAddr, storeVar, hv, sizeOf, typeInfo, hi, hsz, h1]
  unfold Oper.wp
  rw [hrun]
  show K (a.put none undef) w'
  refine kk a w' ha (hw.upd k hk h5 h6 h7 (by omega) (fun c hc hne => h3 c hne) h2 fun c hc => ?_)
  have : c = b := hc
  subst this
  have hlt : c < w.heap.size := (Array.getElem?_eq_some_iff.1 hb).1
  exact ⟨.inl rfl, by omega⟩
end
end Go.Rd
end

section
namespace Go.Rd
open Go.RowKit Go.ChangeShapes Go.WideShapes Go.ChangeAt
set_option linter.unusedVariables false
section
variable {H : Type} {enc : TypeId × Value → H} {P : Program}
theorem trodAll_below (hl : laidOutB P = true) {W W' : World} (hb : Below W.heap.size W W') : ∀ {ts : List TypeId} {vs : List Value} {ds : List (DataW H)} {ps : List MemPlace},
    DataW.TrodAll enc P W 0 (fun _ => true) true ts vs ds ps → (∀ t ∈ ts, P.readableRec t = true ∧ t < P.types.size) → (∀ x ∈ ps, x.block < W.heap.size) →
    DataW.TrodAll enc P W' 0 (fun b => decide (b < W.heap.size)) true ts vs ds ps
  | [], [], [], ps, h, _, _ => h
  | t :: ts, v :: vs, d :: ds, ps, h, hr, hlt => by
    obtain ⟨p, q, h1, h2, rfl⟩ := h
    exact ⟨p, q, Below.trod hl (hr t (by simp)).1 (hr t (by simp)).2 h1 hb (fun x hx => hlt x (by simp [hx])), trodAll_below hl hb h2 (fun t ht => hr t (by simp [ht])) (fun x hx => hlt x (by simp [hx])), rfl⟩
  | [], [], _ :: _, _, h, _, _ => h.elim
  | [], _ :: _, _, _, h, _, _ => h.elim
  | _ :: _, [], _, _, h, _, _ => h.elim
  | _ :: _, _ :: _, [], _, h, _, _ => h.elim

theorem law_post {f : Func} {s : ChangeSpec} {W W' : World} {args : Array Value} {ds : List (DataW H)} {before : List MemPlace} {tb : TypeId} (hl : laidOutB P = true)
    (hW : DataW.Whole enc P f.params.toList s.vars false W args.toList ds [] before) (hvars : s.vars = []) (hr : ∀ t ∈ f.params.toList, P.readableRec t = true ∧ t < P.types.size)
    (hres : f.resultTypes = #[tb]) (htb : P.underlying tb = some .bool) (hfn : s.fn H ds = { results := [.lit (.bool true)], args := ds }) (hb : Below W.heap.size W W') :
    s.post enc P f false true false false W args (.bool true) W' := by
  have hlt : ∀ x ∈ before, x.block < W.heap.size := fun x hx => hW.lt x hx
  have hW' := hW
  obtain ⟨p, q, hA, hV, rfl, hz, hn⟩ := hW
  rw [hvars] at hV
  obtain ⟨_, rfl⟩ := trodVars_none hV
  refine ⟨ds, [], _, [], p, [], hW', ?_, ?_, ?_, hb.frame _, fun h => by cases h⟩
  · simp only [List.append_nil, hfn, hres]
    exact trodAll_cons_mk (shut_bool htb _) trodAll_mk0
  · simp only [List.append_nil, hfn]
    exact trodAll_below hl hb hA hr (fun x hx => hlt x (by simp [hx]))
  · rw [hvars]; simp [List.append_nil, hfn, DataW.TrodVars]

theorem wf_i64 {n : Int} (h : (Lit.int .i64 n).wf = true) : -9223372036854775808 ≤ n ∧ n ≤ 9223372036854775807 := by
  simp [Lit.wf, IntKind.min, IntKind.max, IntKind.signed, IntKind.bits] at h
  omega

theorem mapM_all {α β : Type} {f : α → Option β} : ∀ {l : List α} {r : List β}, l.mapM f = some r → ∀ a ∈ l, ∃ b, f a = some b
  | [], _, _, a, ha => by cases ha
  | x :: l, r, h, a, ha => by
    rw [List.mapM_cons] at h
    cases hx : f x with
    | none => simp [hx] at h
    | some y =>
      cases hl : l.mapM f with
      | none => simp [hx, hl] at h
      | some ys =>
        rcases List.mem_cons.1 ha with rfl | ha
        · exact ⟨y, hx⟩
        · exact mapM_all hl a ha

section
variable {w : World} {base : Nat} {spare : Nat → Bool} {held : Bool}
theorem trod_struct {fuel : Nat} {t : TypeId} {fs : Array Field} {cs : List Value} {x : DataW H × List MemPlace} (ht : P.underlying t = some (.struct fs)) (h : DataW.trod enc P w base spare held fuel t cs = some x) :
    cs.length = P.cellsOf t ∧ ∀ f ∈ fs.toList, ∃ fuel' y, DataW.trod enc P w base spare held fuel' f.type ((cs.drop f.offset).take (P.cellsOf f.type)) = some y := by
  cases fuel with
  | zero => simp [DataW.trod] at h
  | succ fuel =>
    simp only [DataW.trod, ht] at h
    split at h
    · rename_i hl
      obtain ⟨r, hr, _⟩ := Option.map_eq_some_iff.1 h
      exact ⟨hl, fun f hf => ⟨fuel, mapM_all hr f hf⟩⟩
    · cases h

theorem trod_array {fuel : Nat} {t e : TypeId} {n : Nat} {cs : List Value} {x : DataW H × List MemPlace} (ht : P.underlying t = some (.array n e)) (h : DataW.trod enc P w base spare held fuel t cs = some x) :
    cs.length = P.cellsOf t ∧ ∀ i, i < n → ∃ fuel' y, DataW.trod enc P w base spare held fuel' e ((cs.drop (i * P.cellsOf e)).take (P.cellsOf e)) = some y := by
  cases fuel with
  | zero => simp [DataW.trod] at h
  | succ fuel =>
    simp only [DataW.trod, ht] at h
    split at h
    · rename_i hl
      obtain ⟨r, hr, _⟩ := Option.map_eq_some_iff.1 h
      exact ⟨hl, fun i hi => ⟨fuel, mapM_all hr i (List.mem_range.2 hi)⟩⟩
    · cases h

theorem trod_slice {fuel : Nat} {t e : TypeId} {cs : List Value} {x : DataW H × List MemPlace} (ht : P.underlying t = some (.slice e)) (h : DataW.trod enc P w base spare held fuel t cs = some x) :
    cs = [.slice none 0 0] ∨ ∃ a len cap fuel', cs = [.slice (some a) len cap] ∧ len ≤ cap ∧ cap ≤ maxLen ∧
      ∀ i, i < len → ∃ es y, w.cells? base (a.add (i * P.cellsOf e)) (P.cellsOf e) = some es ∧ DataW.trod enc P w base spare held fuel' e es = some y := by
  cases fuel with
  | zero => simp [DataW.trod] at h
  | succ fuel =>
    unfold DataW.trod at h
    split at h <;> simp_all
    rename_i a len cap _
    obtain ⟨⟨h1, h2, h3⟩, h4⟩ := h
    obtain ⟨r, hr, _⟩ := Option.bind_eq_some_iff.1 h4
    refine ⟨a, len, cap, ⟨rfl, rfl, rfl⟩, h2, h3, fuel, fun i hi => ?_⟩
    obtain ⟨b, hb⟩ := mapM_all hr i (List.mem_range.2 hi)
    obtain ⟨es, he, hy⟩ := Option.bind_eq_some_iff.1 hb
    exact ⟨es, he, b.1, b.2, hy⟩

def covers : List (Nat × Nat) → Nat → Nat → Bool
  | [], cur, total => cur == total
  | (o, s) :: r, cur, total => o == cur && covers r (cur + s) total
def flatT (P : Program) : Nat → TypeId → Bool
  | 0, _ => false
  | k + 1, t =>
    match P.underlying t with
    | some (.int .i64) => P.cellsOf t == 1
    | some (.struct fs) => (fs.toList.all fun f => flatT P k f.type) && covers (fs.toList.map fun f => (f.offset, P.cellsOf f.type)) 0 (P.cellsOf t)
    | some (.array n e) => flatT P k e && covers ((List.range n).map fun i => (i * P.cellsOf e, P.cellsOf e)) 0 (P.cellsOf t)
    | _ => false

def i64v (n : Int) : Value := .int .i64 n
def InR (n : Int) : Prop := -9223372036854775808 ≤ n ∧ n ≤ 9223372036854775807

theorem covers_ints {cs : List Value} {total : Nat} (hl : cs.length = total) : ∀ {l : List (Nat × Nat)} {cur : Nat}, covers l cur total = true → cur ≤ total →
    (∀ p ∈ l, ∃ ns : List Int, (cs.drop p.1).take p.2 = ns.map i64v ∧ ns.length = p.2 ∧ ∀ n ∈ ns, InR n) → ∃ ns : List Int, cs.drop cur = ns.map i64v ∧ ∀ n ∈ ns, InR n
  | [], cur, h, _, _ => ⟨[], by simp [covers] at h; subst h; simp [← hl], by simp⟩
  | (o, s) :: r, cur, h, hc, hp => by
    simp only [covers, Bool.and_eq_true, beq_iff_eq] at h
    obtain ⟨rfl, h⟩ := h
    obtain ⟨ns, h1, h2, h3⟩ := hp (o, s) (by simp)
    have hs : o + s ≤ total := by
      have := congrArg List.length h1
      simp [h2, hl] at this
      omega
    obtain ⟨ms, h4, h5⟩ := covers_ints hl h hs (fun p hpr => hp p (by simp [hpr]))
    refine ⟨ns ++ ms, ?_, fun n hn => (List.mem_append.1 hn).elim (h3 n) (h5 n)⟩
    rw [List.map_append, ← h1, ← h4]
    simp only []
    rw [← List.drop_drop, List.take_append_drop]

theorem trod_flat : ∀ {k : Nat} {t : TypeId}, flatT P k t = true → ∀ {fuel : Nat} {cs : List Value} {x : DataW H × List MemPlace}, DataW.trod enc P w base spare held fuel t cs = some x →
    ∃ ns : List Int, cs = ns.map i64v ∧ ns.length = P.cellsOf t ∧ ∀ n ∈ ns, InR n
  | 0, _, h, _, _, _, _ => by simp [flatT] at h
  | k + 1, t, h, fuel, cs, x, hx => by
    unfold flatT at h
    split at h
    · rename_i hu
      obtain ⟨n, rfl, _, hw⟩ := DataW.trod_int hu hx
      exact ⟨[n], rfl, by simp at h; simp [h], by simpa [InR] using wf_i64 hw⟩
    · rename_i fs hu
      obtain ⟨hl, hf⟩ := trod_struct hu hx
      simp only [Bool.and_eq_true, List.all_eq_true] at h
      obtain ⟨ns, h1, h2⟩ := covers_ints hl h.2 (Nat.zero_le _) (fun p hp => by
        obtain ⟨f, hfm, rfl⟩ := List.mem_map.1 hp
        obtain ⟨fuel', y, hy⟩ := hf f hfm
        exact trod_flat (h.1 f hfm) hy)
      rw [List.drop_zero] at h1
      exact ⟨ns, h1, by rw [← hl, h1]; simp, h2⟩
    · rename_i n e hu
      obtain ⟨hl, hf⟩ := trod_array hu hx
      simp only [Bool.and_eq_true] at h
      obtain ⟨ns, h1, h2⟩ := covers_ints hl h.2 (Nat.zero_le _) (fun p hp => by
        obtain ⟨i, hi, rfl⟩ := List.mem_map.1 hp
        obtain ⟨fuel', y, hy⟩ := hf i (List.mem_range.1 hi)
        exact trod_flat h.1 hy)
      rw [List.drop_zero] at h1
      exact ⟨ns, h1, by rw [← hl, h1]; simp, h2⟩
    · cases h

theorem mapM_get {α β : Type} {f : α → Option β} : ∀ {l : List α} {r : List β}, l.mapM f = some r → r.length = l.length ∧ ∀ (j : Nat) (b : β), r[j]? = some b → ∃ a, l[j]? = some a ∧ f a = some b
  | [], r, h => by
    simp at h; subst h; simp
  | x :: l, r, h => by
    rw [List.mapM_cons] at h
    cases hx : f x with
    | none => simp [hx] at h
    | some y =>
      cases hl : l.mapM f with
      | none => simp [hx, hl] at h
      | some ys =>
        simp [hx, hl] at h
        subst h
        obtain ⟨h1, h2⟩ := mapM_get hl
        refine ⟨by simp [h1], fun j b hb => ?_⟩
        cases j with
        | zero => simp at hb; subst hb; exact ⟨x, by simp, hx⟩
        | succ j => simpa using h2 j b (by simpa using hb)

theorem cells_at {a : Addr} {n : Nat} {es : List Value} (h : w.cells? base a n = some es) : es.length = n ∧ ∀ j v, es[j]? = some v → w.cell? (a.add j) = some v := by
  unfold World.cells? at h
  split at h
  · obtain ⟨h1, h2⟩ := mapM_get h
    refine ⟨by simpa using h1, fun j v hv => ?_⟩
    obtain ⟨i, hi, hc⟩ := h2 j v hv
    have hlt : j < n := by have := (List.getElem?_eq_some_iff.1 hi).1; simpa using this
    rw [List.getElem?_range hlt] at hi
    cases hi
    exact hc
  · cases h

theorem slice_list {α : Type} (f : α → List Value) (ok : α → Prop) {sz : Nat} {fuel : Nat} {t e : TypeId} {v : Value} {x : DataW H × List MemPlace} (ht : P.underlying t = some (.slice e)) (hsz : P.cellsOf e = sz)
    (hx : DataW.trod enc P w base spare held fuel t [v] = some x)
    (hel : ∀ fuel' es y, DataW.trod enc P w base spare held fuel' e es = some y → ∃ u : α, es = f u ∧ ok u) :
    ∃ xs : List α, Arr w v sz (xs.map f) ∧ (∀ u ∈ xs, ok u) ∧ xs.length ≤ maxLen := by
  rcases trod_slice ht hx with h | ⟨a, len, cap, fuel', h, h1, h2, h3⟩
  · simp at h; subst h
    exact ⟨[], Arr.nil, by simp, by simp⟩
  · simp at h; subst h
    have hch : ∀ i, i < len → ∃ u : α, ok u ∧ CellsAt w (a.add (i * sz)) (f u) 0 := fun i hi => by
      obtain ⟨es, y, h4, h5⟩ := h3 i hi
      obtain ⟨u, rfl, hu⟩ := hel fuel' es y h5
      rw [hsz] at h4
      exact ⟨u, hu, CellsAt.of fun j v hv => by rw [Nat.zero_add]; exact (cells_at h4).2 j v hv⟩
    have : ∀ m, m ≤ len → ∃ xs : List α, xs.length = m ∧ (∀ u ∈ xs, ok u) ∧ ∀ i u, xs[i]? = some u → CellsAt w (a.add (i * sz)) (f u) 0 := by
      intro m
      induction m with
      | zero => exact fun _ => ⟨[], rfl, by simp, by simp⟩
      | succ m ih =>
        intro hm
        obtain ⟨xs, h4, h5, h6⟩ := ih (by omega)
        obtain ⟨u, hu, hc⟩ := hch m (by omega)
        refine ⟨xs ++ [u], by simp [h4], fun y hy => ?_, fun i y hy => ?_⟩
        · rcases List.mem_append.1 hy with hy | hy
          · exact h5 y hy
          · simp at hy; subst hy; exact hu
        · by_cases hi : i < xs.length
          · rw [List.getElem?_append_left hi] at hy; exact h6 i y hy
          · rw [List.getElem?_append_right (by omega)] at hy
            have : i = m := by
              have := (List.getElem?_eq_some_iff.1 hy).1
              simp at this; omega
            subst this
            simp [h4] at hy
            subst hy; exact hc
    obtain ⟨xs, h4, h5, h6⟩ := this len (Nat.le_refl _)
    refine ⟨xs, ⟨⟨some a, cap, by simp [h4], fun _ => rfl, by simp; omega⟩, fun i r p hr hp => ?_⟩, h5, by omega⟩
    rw [List.getElem?_map] at hr
    obtain ⟨u, hu, rfl⟩ := Option.map_eq_some_iff.1 hr
    obtain ⟨a', n', c', he, h7, h8, rfl⟩ := hp
    simp only [Value.slice.injEq, Option.some.injEq] at he
    obtain ⟨rfl, _, _⟩ := he
    simpa using h6 i u hu
end
theorem seven {l : List Int} (h : l.length = 7) : ∃ a b c d e f g, l = [a, b, c, d, e, f, g] := by
  match l, h with
  | [a, b, c, d, e, f, g], _ => exact ⟨a, b, c, d, e, f, g, rfl⟩

theorem okWide_agg {r : Reach} {b0 : Nat} {w : World} {t : TypeId} {fs : Array Field} {v : Value} (ht : P.underlying t = some (.struct fs)) (h : Value.okWide P w r b0 t v) : ∃ cs : List Value, v = .agg cs.toArray := by
  unfold Value.okWide at h
  rw [ht] at h
  obtain ⟨cs, rfl, _⟩ := h
  exact ⟨cs.toList, by simp⟩
end
end Go.Rd
end

section
namespace Go.Rd
open Go.RowKit
set_option linter.unusedVariables false
def eqFlatT (P : Program) : Nat → TypeId → Bool
  | 0, _ => false
  | k + 1, t =>
    match P.underlying t with
    | some (.int .i64) => P.cellsOf t == 1
    | some (.struct fs) => !P.stoodInHeld t && (fs.toList.all fun f => f.name != "_" && eqFlatT P k f.type) && covers (fs.toList.map fun f => (f.offset, P.cellsOf f.type)) 0 (P.cellsOf t)
    | _ => false

theorem covers_eq {ns ms : List Int} {total : Nat} (h1 : ns.length = total) (h2 : ms.length = total) : ∀ {l : List (Nat × Nat)} {cur : Nat}, covers l cur total = true →
    (l.all fun p => (ns.drop p.1).take p.2 == (ms.drop p.1).take p.2) = (ns.drop cur == ms.drop cur)
  | [], cur, h => by
    simp [covers] at h; subst h
    rw [List.drop_eq_nil_of_le (by omega), List.drop_eq_nil_of_le (by omega)]; rfl
  | (o, s) :: r, cur, h => by
    simp only [covers, Bool.and_eq_true, beq_iff_eq] at h
    obtain ⟨rfl, h⟩ := h
    rw [List.all_cons, covers_eq h1 h2 h]
    have e1 : ns.drop o = (ns.drop o).take s ++ ns.drop (o + s) := by rw [← List.drop_drop, List.take_append_drop]
    have e2 : ms.drop o = (ms.drop o).take s ++ ms.drop (o + s) := by rw [← List.drop_drop, List.take_append_drop]
    have hl : ((ns.drop o).take s).length = ((ms.drop o).take s).length := by simp [h1, h2]
    rw [Bool.eq_iff_iff]
    simp only [Bool.and_eq_true, beq_iff_eq]
    constructor
    · rintro ⟨a, b⟩; rw [e1, e2, a, b]
    · intro a
      rw [e1, e2] at a
      exact List.append_inj a hl

section
variable {P : Program}
theorem covers_le {total : Nat} : ∀ {l : List (Nat × Nat)} {cur : Nat}, covers l cur total = true → (∀ p ∈ l, p.1 + p.2 ≤ total) ∧ cur ≤ total
  | [], cur, h => by simp [covers] at h; subst h; simp
  | (o, s) :: r, cur, h => by
    simp only [covers, Bool.and_eq_true, beq_iff_eq] at h
    obtain ⟨rfl, h⟩ := h
    obtain ⟨h1, h2⟩ := covers_le h
    exact ⟨fun p hp => (List.mem_cons.1 hp).elim (fun e => by subst e; exact h2) (h1 p), by omega⟩

theorem drop_take_one {ns : List Int} {o : Nat} (h : o < ns.length) : (ns.drop o).take 1 = [ns[o]] := by
  rw [List.drop_eq_getElem_cons h]; rfl

theorem run_equalIn_flat (w : World) : ∀ (k : Nat) (t : TypeId) (e : Nat) (ns ms : List Int), eqFlatT P (k + 1) t = true → (∃ fs, P.underlying t = some (.struct fs)) → ns.length = P.cellsOf t → ms.length = P.cellsOf t →
    (Op.equalIn (e + k + 1) t (.agg (ns.map i64v).toArray) (.agg (ms.map i64v).toArray)).run P w = .ok (ns == ms) w := by
  intro k
  induction k with
  | zero =>
    intro t e ns ms h ⟨fs, hu⟩ h1 h2
    simp only [eqFlatT, hu, Bool.and_eq_true, List.all_eq_true] at h
    have hfs : fs.toList = [] := by
      cases hf : fs.toList with
      | nil => rfl
      | cons f r => have := h.1.2 f (by rw [hf]; simp); simp at this
    have hc := h.2
    rw [hfs] at hc
    simp [covers] at hc
    have : ns = [] := List.length_eq_zero_iff.1 (by omega)
    have : ms = [] := List.length_eq_zero_iff.1 (by omega)
    subst ns; subst ms
    have hfo : P.fieldsOf t = fs := by simp [Program.fieldsOf, hu]
    rw [run_equalIn_struct w (e + 0) t _ _ (by rw [hfo]; exact hu) (by simpa using h.1.1), hfo, hfs]
    simp [Op.eqFields]
  | succ k ih =>
    intro t e ns ms h ⟨fs, hu⟩ h1 h2
    rw [eqFlatT, hu] at h
    simp only [Bool.and_eq_true, List.all_eq_true] at h
    have hfo : P.fieldsOf t = fs := by simp [Program.fieldsOf, hu]
    rw [run_equalIn_struct w (e + (k + 1)) t _ _ (by rw [hfo]; exact hu) (by simpa using h.1.1), hfo]
    have hall := covers_eq h1 h2 h.2
    rw [List.drop_zero, List.drop_zero] at hall
    rw [← hall]
    have hle := (covers_le h.2).1
    have hel := h.1.2
    clear hall h hfo hu
    generalize fs.toList = l at *
    induction l with
    | nil => simp [Op.eqFields]
    | cons f l ihl =>
      have hf := hel f (by simp)
      have hfl := hle (f.offset, P.cellsOf f.type) (by simp)
      simp only [] at hfl
      simp only [Bool.and_eq_true, bne_iff_ne, ne_eq] at hf
      have hrest := ihl (fun p hp => hle p (by simp at hp ⊢; exact .inr hp)) (fun f hf => hel f (by simp [hf]))
      simp only [Op.eqFields, List.map_cons, List.all_cons]
      rw [if_pos hf.1]
      have hfield := hf.2
      -- the field: an int, or a struct
      have key : ∃ a b, (part f.type (ns.map i64v).toArray f.offset).run P w = .ok a w ∧ (part f.type (ms.map i64v).toArray f.offset).run P w = .ok b w ∧
          (Op.equalIn (e + (k + 1)) f.type a b).run P w = .ok ((ns.drop f.offset).take (P.cellsOf f.type) == (ms.drop f.offset).take (P.cellsOf f.type)) w := by
        unfold eqFlatT at hfield
        split at hfield
        · rename_i hu
          have hc1 : P.cellsOf f.type = 1 := by simpa using hfield
          rw [hc1] at hfl ⊢
          have l1 : f.offset < ns.length := by omega
          have l2 : f.offset < ms.length := by omega
          have hag : (isAgg f.type).run P w = .ok false w := by simp [isAgg, run_underlying hu]
          refine ⟨i64v ns[f.offset], i64v ms[f.offset], ?_, ?_, ?_⟩
          · simp [part, hag, l1]
          · simp [part, hag, l2]
          · rw [drop_take_one l1, drop_take_one l2]
            have := run_equalIn_int (P := P) w (e + k) f.type .i64 .i64 ns[f.offset] ms[f.offset] hu
            rw [show e + (k + 1) = e + k + 1 from by omega]
            unfold i64v
            rw [this]
            simp
        · rename_i fs' hu
          have hag : (isAgg f.type).run P w = .ok true w := by simp [isAgg, run_underlying hu]
          have hsz : ∃ inf, P.info? f.type = some inf ∧ inf.size = P.cellsOf f.type := by
            unfold Program.underlying at hu
            cases hi : P.info? f.type with
            | none => simp [hi] at hu
            | some inf => exact ⟨inf, rfl, by simp [Program.cellsOf, hi]⟩
          obtain ⟨inf, hi, hs⟩ := hsz
          have ext : ∀ l : List Int, (l.map i64v).toArray.extract f.offset (f.offset + P.cellsOf f.type) = ((((l.drop f.offset).take (P.cellsOf f.type))).map i64v).toArray := by
            intro l
            apply Array.ext'
            simp [List.extract_eq_take_drop, List.map_take, List.map_drop]
          refine ⟨.agg ((((ns.drop f.offset).take (P.cellsOf f.type))).map i64v).toArray, .agg ((((ms.drop f.offset).take (P.cellsOf f.type))).map i64v).toArray, ?_, ?_, ?_⟩
          · have := ext ns
            simp [part, hag, sizeOf, typeInfo, hi, hs, this]
          · have := ext ms
            simp [part, hag, sizeOf, typeInfo, hi, hs, this]
          · refine ih f.type e _ _ hf.2 ⟨fs', hu⟩ ?_ ?_
            · simp; omega
            · simp; omega
        · cases hfield
      obtain ⟨a, b, ha, hb, hr⟩ := key
      simp only [Sem.run_bind, ha, hb, hr, Result.andThen_ok]
      cases hq : (List.take (P.cellsOf f.type) (List.drop f.offset ns) == List.take (P.cellsOf f.type) (List.drop f.offset ms)) with
      | false => simp
      | true => simpa using hrest

section
variable {σ : Env} {C : World → Prop} {d : Option Tmp} {T U z : TypeId} {pos : String} {after : Array Edge} {gd : Option (Nat × Bool)} {x y : Operand} {g g' : Bool} {v : Value} {n : Nat}
  {K : Act → World → Prop} {Q : Exit → Act → World → Prop} {M : Nat → Prop} {w0 : World} {H : List Res}
def EqT (P : Program) (U : TypeId) (sz : Nat) : Prop := eqFlatT P 5 U = true ∧ (∃ fs, P.underlying U = some (.struct fs)) ∧ P.cellsOf U = sz ∧ P.eqGuardType P.depth U = false

theorem run_eqFlat {w : World} {sz : Nat} {ns ms : List Int} (hU : EqT P U sz) (h1 : ns.length = sz) (h2 : ms.length = sz) : (binOp .eql U (.agg (ns.map i64v).toArray) (.agg (ms.map i64v).toArray)).run P w = .ok (.bool (ns == ms)) w := by
  have := run_equalIn_flat (P := P) w 4 U 9995 ns ms hU.1 hU.2.1 (by rw [hU.2.2.1]; exact h1) (by rw [hU.2.2.1]; exact h2)
  simp only [binOp]; simp [Op.equal, Op.maxDepth, this]
theorem run_neqFlat {w : World} {sz : Nat} {ns ms : List Int} (hU : EqT P U sz) (h1 : ns.length = sz) (h2 : ms.length = sz) : (binOp .neq U (.agg (ns.map i64v).toArray) (.agg (ms.map i64v).toArray)).run P w = .ok (.bool (!(ns == ms))) w := by
  have := run_equalIn_flat (P := P) w 4 U 9995 ns ms hU.1 hU.2.1 (by rw [hU.2.2.1]; exact h1) (by rw [hU.2.2.1]; exact h2)
  simp only [binOp]; simp [Op.equal, Op.maxDepth, this]

theorem QV.eqlF {sz : Nat} {ns ms : List Int} (hU : EqT P U sz) (hx : σ.ev x = some (g, .agg (ns.map i64v).toArray)) (hg : g = true) (hy : σ.ev y = some (g', .agg (ms.map i64v).toArray)) (hg' : g' = true)
    (h1 : ns.length = sz) (h2 : ms.length = sz) : QV P ⟨d, .binOp .eql U x y z, T, pos, after, gd⟩ σ C (.bool (ns == ms)) := .of_run fun n a ha w hw => by
  have hgd := run_eqGuard_agg (P := P) w .eql U x y (ns.map i64v).toArray (ms.map i64v).toArray hU.2.2.2
  have := run_eqFlat (w := w) hU h1 h2
  simp only [execOp, ha.ev hx hg, ha.ev hy hg', Sem.run_bind, hgd, this, Result.andThen_ok, Sem.run_pure]
theorem QV.neqF {sz : Nat} {ns ms : List Int} (hU : EqT P U sz) (hx : σ.ev x = some (g, .agg (ns.map i64v).toArray)) (hg : g = true) (hy : σ.ev y = some (g', .agg (ms.map i64v).toArray)) (hg' : g' = true)
    (h1 : ns.length = sz) (h2 : ms.length = sz) : QV P ⟨d, .binOp .neq U x y z, T, pos, after, gd⟩ σ C (.bool (!(ns == ms))) := .of_run fun n a ha w hw => by
  have hgd := run_eqGuard_agg (P := P) w .neq U x y (ns.map i64v).toArray (ms.map i64v).toArray hU.2.2.2
  have := run_neqFlat (w := w) hU h1 h2
  simp only [execOp, ha.ev hx hg, ha.ev hy hg', Sem.run_bind, hgd, this, Result.andThen_ok, Sem.run_pure]

theorem QV.build {ps : List (Nat × Operand)} {vs : List Value} {cells : List Value} (hv : EvAll σ (ps.map (·.2)) vs) (hb : P.built U ((ps.map (·.1)).zip vs) = some cells.toArray) :
    QV P ⟨d, .build U ps.toArray, T, pos, after, gd⟩ σ C (.agg cells.toArray) := .of_run fun n a ha w hw => by
  have hm := hv.map ha
  have e : (ps.toArray.map fun (i, x) => (i, a.eval x)).toList = (ps.map (·.1)).zip vs := by
    rw [← hm]
    simp [List.zip_map', Function.comp_def]
  have := run_build (P := P) w U (ps.toArray.map fun (i, x) => (i, a.eval x)) cells.toArray (by rw [e]; exact hb)
  rw [show (ps.toArray.map fun (p : Nat × Operand) => match p with | (i, x) => (i, a.eval x)) = (List.map (fun x => (x.fst, a.eval x.snd)) ps).toArray from by simp] at this
  simp [execOp, this]

def blkSlice (b n c : Nat) : Value := .slice (some ⟨b, 0, none⟩) n c

def SliceZ (P : Program) (U E sz : Nat) (zc : List Value) : Prop := P.underlying U = some (.slice E) ∧ (P.info? E).map (fun i => (i.zero.map Value.cells, i.size)) = some (some zc.toArray, sz)
def filled (sz len : Nat) (zc : List Value) (parts : List (Nat × Value)) : Option (Array Value) := Instr.fill (fun j => some (j * sz, sz)) ((Array.range (len * sz)).map (zc.toArray[· % zc.toArray.size]!)) parts

theorem EV.buildSlice {dd len E sz : Nat} {zc : List Value} {ps : List (Nat × Operand)} {vs cells : List Value} (hn : dd < n) (hb : SliceZ P T E sz zc) (h24 : len * sz ≤ 16777216) (h0 : len * sz ≠ 0) (hv : EvAll σ (ps.map (·.2)) vs) (hf : filled sz len zc ((ps.map (·.1)).zip vs) = some cells.toArray)
    (k : ∀ b, WK n K ((dd, (true, blkSlice b len len)) :: σ) (Own M w0 (blk b cells E :: H))) : EV P n ⟨some dd, .buildSlice T len ps.toArray, U, pos, after, gd⟩ σ (Own M w0 H) K Q := fun a w ha hw => by
  refine .inl ?_
  have hm := hv.map ha
  have e : (ps.toArray.map fun (i, x) => (i, a.eval x)).toList = (ps.map (·.1)).zip vs := by
    rw [← hm]
    simp [List.zip_map', Function.comp_def]
  obtain ⟨hu, hb1⟩ := hb
  obtain ⟨i, hi, hb2⟩ := Option.map_eq_some_iff.1 hb1
  simp only [Prod.mk.injEq] at hb2
  obtain ⟨hb3, rfl⟩ := hb2
  obtain ⟨z, hz, hzc⟩ := Option.map_eq_some_iff.1 hb3
  unfold filled at hf
  rw [← hzc] at hf
  have hrun : (execOp a.eval ⟨some dd, .buildSlice T len ps.toArray, U, pos, after, gd⟩).run P w = .ok (.value (blkSlice w.heap.size len len)) (w.alloc (.cells cells.toArray E)) := by
    have e' : (ps.toArray.map fun (p : Nat × Operand) => (p.1, a.eval p.2)).toList = (ps.map (·.1)).zip vs := e
    have h24' : ¬ len * i.size > 2 ^ 24 := by omega
    have h0' : ¬ (len = 0 ∨ i.size = 0) := by rw [← Nat.mul_eq_zero]; exact h0
    simp only [execOp, Instr.buildSlice]
    simp [run_underlying hu, sizeOf, typeInfo, zeroValue, hi, hz, e', blkSlice, newRow, newObj, Sem.run, h0', hf]
    have e'' : List.map (fun x => (x.fst, a.eval x.snd)) ps = (ps.map (·.1)).zip vs := by rw [← e']; simp
    rw [if_neg (by omega), if_neg h0, e'', hf]
    simp [Sem.run]
  unfold Oper.wp
  rw [hrun]
  show K (a.put (some dd) _) _
  refine k w.heap.size _ _ (ha.put hn true _) (hw.push (w' := w.alloc (.cells cells.toArray E)) ?_ (blk w.heap.size cells E) ?_ ?_)
  · exact Grow.alloc _
  · exact heap_alloc_new w _
  · intro b hb
    subst hb
    simp

theorem drop_flatten {sz : Nat} : ∀ {rows : List (List Value)} {i : Nat} {r : List Value}, (∀ r ∈ rows, r.length = sz) → rows[i]? = some r → (rows.flatten.drop (i * sz)).take r.length = r
  | [], i, r, _, h => by simp at h
  | q :: rows, 0, r, hs, h => by simp at h; subst h; simp
  | q :: rows, i + 1, r, hs, h => by
    have hq : q.length = sz := hs q (by simp)
    have := drop_flatten (fun r hr => hs r (by simp [hr])) (show rows[i]? = some r by simpa using h)
    rw [List.flatten_cons, Nat.succ_mul, Nat.add_comm, ← List.drop_drop, ← hq, List.drop_left, hq]
    exact this

theorem SliceLen.blk {b n : Nat} : SliceLen (blkSlice b n n) n := ⟨_, _, rfl, fun _ => rfl, Nat.le_refl _⟩
theorem SliceLen.nil : SliceLen (.slice none 0 0) 0 := ⟨_, _, rfl, by simp, Nat.le_refl _⟩

theorem one_nil : ∀ u ∈ ([] : List Value), u.oneCell' = true := fun u h => by cases h
theorem one_cons {v : Value} {r : List Value} (h : v.oneCell' = true) (k : ∀ u ∈ r, u.oneCell' = true) : ∀ u ∈ v :: r, u.oneCell' = true := fun u hu => by
  rcases List.mem_cons.1 hu with rfl | hu
  · exact h
  · exact k u hu
theorem SliceLen.one {v : Value} {n : Nat} (h : SliceLen v n) : v.oneCell' = true := by
  obtain ⟨a, c, rfl, _⟩ := h; rfl

end
end
end Go.Rd
end

section
namespace Go.Rd
open Go.RowKit
set_option linter.unusedVariables false
def vec (v : Value) (E : TypeId) (sz : Nat) (rows : List (List Value)) : Res where
  foot := fun b => ∃ n c, v = .slice (some ⟨b, 0, none⟩) n c
  holds := fun w => w.ownsRow 0 E sz v rows.length rows.flatten ∧ ∀ r ∈ rows, r.length = sz
  stable := fun w w' ⟨⟨h1, h2⟩, h3⟩ hk => ⟨⟨h1, by
    rcases h2 with h | ⟨g, cap, cur, hv, hb, hh, r⟩
    · exact .inl h
    · exact .inr ⟨g, cap, cur, hv, hb, (hk g ⟨_, _, hv⟩).trans hh, r⟩⟩, h3⟩

theorem vec_arr {v : Value} {E : TypeId} {sz : Nat} {rows : List (List Value)} {w : World} (h : (vec v E sz rows).holds w) : Arr w v sz rows := by
  obtain ⟨⟨h1, h2⟩, h3⟩ := h
  rcases h2 with ⟨rfl, h⟩ | ⟨g, cap, cur, rfl, _, hh, hnc, _, hcs, ht⟩
  · obtain rfl : rows = [] := List.eq_nil_of_length_eq_zero h
    exact Arr.nil
  · refine ⟨⟨_, _, rfl, fun _ => rfl, hnc⟩, fun i r p hr hp => ?_⟩
    obtain ⟨a, n, c, he, h0, hi, rfl⟩ := hp
    simp only [Value.slice.injEq, Option.some.injEq] at he
    obtain ⟨rfl, _, _⟩ := he
    rw [Int.toNat_natCast]
    have hd := drop_flatten h3 hr
    have hall : CellsAt w ⟨g, 0, none⟩ rows.flatten 0 := CellsAt.of fun j v hv => by
      rw [Nat.zero_add, Addr.add_lit, Nat.zero_add]
      rw [← ht, List.getElem?_take] at hv
      split at hv
      · simp [World.cell?, hh]; simpa using hv
      · cases hv
    exact hall.sub (i * sz) r.length hd

def VecT (P : Program) (U E : TypeId) (sz bytes : Nat) : Prop := P.underlying U = some (.slice E) ∧ ((P.info? E).map fun i => (i.zero.map (·.cells.size), i.size, i.bytes)) = some (some sz, sz, bytes) ∧ 0 < sz

theorem vec_foot_lt {v : Value} {E : TypeId} {sz : Nat} {rows : List (List Value)} {w : World} (h : (vec v E sz rows).holds w) : ∀ b, (vec v E sz rows).foot b → b < w.heap.size := fun b hb => by
  obtain ⟨n, c, rfl⟩ := hb
  rcases h.1.2 with ⟨h, _⟩ | ⟨g, cap, cur, hv, _, hh, _⟩
  · cases h
  · simp only [Value.slice.injEq, Option.some.injEq, Addr.mk.injEq] at hv
    obtain ⟨⟨rfl, _⟩, _⟩ := hv
    exact (Array.getElem?_eq_some_iff.1 hh).1

theorem flatten_len {sz : Nat} : ∀ {rows : List (List Value)}, (∀ r ∈ rows, r.length = sz) → rows.flatten.length = rows.length * sz
  | [], _ => by simp
  | r :: rows, h => by
    rw [List.flatten_cons, List.length_append, flatten_len fun q hq => h q (by simp [hq]), h r (by simp), List.length_cons, Nat.succ_mul, Nat.add_comm]

theorem ElemP_base {a : Addr} {n c sz i : Nat} (h : i < n) : ElemP (.slice (some a) n c) i sz (a.add (i * sz)) := ⟨a, n, c, rfl, by omega, by omega, by simp⟩

theorem Arr.cell {w : World} {a : Addr} {n c sz : Nat} : ∀ {rows : List (List Value)}, Arr w (.slice (some a) n c) sz rows → (∀ r ∈ rows, r.length = sz) → ∀ (j : Nat) u, rows.flatten[j]? = some u → w.cell? (a.add j) = some u := fun {rows} h hl j u hu => by
  have hlen := flatten_len hl
  have hj : j < rows.length * sz := by rw [← hlen]; exact (List.getElem?_eq_some_iff.1 hu).1
  have hsz : 0 < sz := by
    rcases Nat.eq_zero_or_pos sz with h | h
    · subst h; simp at hj
    · exact h
  have hq : j / sz < rows.length := Nat.div_lt_of_lt_mul (by rwa [Nat.mul_comm] at hj)
  have hn : rows.length = n := by
    obtain ⟨_, _, he, _⟩ := h.len
    simp only [Value.slice.injEq] at he
    exact he.2.1.symm
  have hc := h.row (j / sz) rows[j / sz] _ (List.getElem?_eq_getElem hq) (ElemP_base (by omega))
  have hd := drop_flatten hl (List.getElem?_eq_getElem hq)
  have hr : rows[j / sz][j % sz]? = some u := by
    rw [← hd, List.getElem?_take, hl _ (List.getElem_mem hq), if_pos (Nat.mod_lt _ hsz), List.getElem?_drop, Nat.mul_comm, Nat.div_add_mod]
    exact hu
  have := hc.one _ hr
  rwa [Addr.add_add, Nat.mul_comm, Nat.div_add_mod] at this

section
variable {P : Program} {n : Nat} {σ : Env} {M : Nat → Prop} {w0 : World} {H : List Res} {d : Option Tmp} {T U E : TypeId} {pos : String} {after : Array Edge} {gd : Option (Nat × Bool)} {x y : Operand} {g g' : Bool} {v yv : Value}
  {K : Act → World → Prop} {Q : Exit → Act → World → Prop}
theorem run_append_vec {w : World} {sz bytes : Nat} {rows news : List (List Value)} (hV : VecT P U E sz bytes) (hown : (vec v E sz rows).holds w) (hnew : Arr w yv sz news) (hnl : ∀ r ∈ news, r.length = sz) (h1 : ∀ r ∈ news, ∀ u ∈ r, u.oneCell' = true)
    (h63 : rows.length + news.length ≤ maxLen) (hby : (rows.length + news.length) * bytes ≤ 140737488355328) :
    ∃ v' w', (Builtin.append_ #[U, U] T #[v, yv]).run P w = .ok v' w' ∧ (vec v' E sz (rows ++ news)).holds w' ∧ w'.os = w.os ∧ w'.tape = w.tape ∧ (w'.output = w.output ∧ w.drawn ≤ w'.drawn) ∧ w.heap.size ≤ w'.heap.size ∧
      (∀ b, b < w.heap.size → ¬ (vec v E sz rows).foot b → w'.heap[b]? = w.heap[b]?) ∧ (∀ b, (vec v' E sz (rows ++ news)).foot b → ((vec v E sz rows).foot b ∨ w.heap.size ≤ b) ∧ b < w'.heap.size) := by
  obtain ⟨hU, hi, hsz⟩ := hV
  obtain ⟨i, hi, hq⟩ := Option.map_eq_some_iff.1 hi
  simp only [Prod.mk.injEq] at hq
  obtain ⟨hz, his, hib⟩ := hq
  obtain ⟨z, hz, hzs⟩ := Option.map_eq_some_iff.1 hz
  have hall : ∀ r ∈ rows ++ news, r.length = sz := fun r hr => (List.mem_append.1 hr).elim (hown.2 r) (hnl r)
  have hfl : (rows ++ news).flatten = rows.flatten ++ news.flatten := List.flatten_append
  have hll : (rows ++ news).length = rows.length + news.length := List.length_append
  have h1' : ∀ u ∈ news.flatten, u.oneCell' = true := fun u hu => by
    obtain ⟨r, hr, hu⟩ := List.mem_flatten.1 hu
    exact h1 r hr u hu
  obtain ⟨ay, cy, rfl, hay, _⟩ := hnew.len
  cases ay with
  | none =>
    have hn0 : news = [] := by
      cases news with
      | nil => rfl
      | cons r l => exact absurd (hay (by simp)) (by simp)
    subst hn0
    have hrun : (Builtin.append_ #[U, U] T #[v, .slice none ([] : List (List Value)).length cy]).run P w = .ok v w := by
      rcases hown.1.2 with ⟨rfl, hl⟩ | ⟨g, cap, cur, rfl, _, _, hnc, _⟩
      · simp [Builtin.append_, run_underlying hU, sizeOf, typeInfo, hi, Builtin.lenOf, Builtin.firstCells]
      · simp [Builtin.append_, run_underlying hU, sizeOf, typeInfo, hi, Builtin.lenOf, Builtin.firstCells, hnc, storeCells]
    exact ⟨v, w, hrun, by simpa using hown, rfl, rfl, ⟨rfl, Nat.le_refl _⟩, Nat.le_refl _, fun _ _ _ => rfl, fun b hb => ⟨.inl hb, vec_foot_lt hown b hb⟩⟩
  | some a =>
    have hnews := hnew.cell hnl
    have hl := flatten_len hnl
    rcases hown.1.2 with ⟨rfl, hrl⟩ | ⟨b, cap, cur, rfl, hb0, hh, hnc, hcm, hcs, htake⟩
    · obtain ⟨v', w', hr, ho, hg, _⟩ := run_append_own (P := P) w w.heap.size U T E i z sz bytes hU hi hz his hib hzs hsz (.slice none 0 0) rows.length rows.flatten ⟨flatten_len hown.2, .inl ⟨rfl, hrl⟩⟩ a news.length cy news.flatten hl hnews h1' h63 hby (Nat.le_refl _)
      refine ⟨v', w', hr, ⟨⟨by rw [hfl, hll]; exact ho.1, ?_⟩, hall⟩, hg.os, hg.tape, ⟨hg.output, run_drawn _ _ hr⟩, hg.size, fun k hk _ => hg.block k hk (by simp [Value.ownBlock]), fun k hk => ?_⟩
      · rw [hll, hfl]
        rcases ho.2 with h | ⟨g, c2, cur, h⟩
        · exact .inl h
        · exact .inr ⟨g, c2, cur, h.1, Nat.zero_le _, h.2.2⟩
      · obtain ⟨n2, c2, rfl⟩ := hk
        rcases ho.2 with ⟨h, _⟩ | ⟨g, c3, cur, h, h2, h3, _⟩
        · cases h
        · simp only [Value.slice.injEq, Option.some.injEq, Addr.mk.injEq] at h
          obtain ⟨⟨rfl, _⟩, _⟩ := h
          exact ⟨.inr h2, (Array.getElem?_eq_some_iff.1 h3).1⟩
    · by_cases hroom : rows.length + news.length ≤ cap
      · obtain ⟨w', hr, ho, hg⟩ := run_append_fits (P := P) w 0 U T E i sz hU hi his b rows.length cap rows.flatten hown.1 a news.length cy news.flatten hl hnews h1' hroom
        refine ⟨_, w', hr, ⟨by rw [hll, hfl]; exact ho, hall⟩, hg.os, hg.tape, ⟨hg.output, run_drawn _ _ hr⟩, hg.size, fun k hk hf => hg.block k hk (fun he => ?_), fun k hk => ?_⟩
        · cases he; exact hf ⟨_, _, rfl⟩
        · obtain ⟨n2, c2, he⟩ := hk
          simp only [Value.slice.injEq, Option.some.injEq, Addr.mk.injEq] at he
          obtain ⟨⟨rfl, _⟩, _⟩ := he
          exact ⟨.inl ⟨_, _, rfl⟩, Nat.lt_of_lt_of_le (Array.getElem?_eq_some_iff.1 hh).1 hg.size⟩
      · have hold := (vec_arr hown).cell hown.2
        obtain ⟨v', w', hr, ho, hg⟩ := run_append_arg_grows (P := P) w U T E i z sz bytes hU hi hz his hib hzs hsz ⟨b, 0, none⟩ rows.length cap rows.flatten (flatten_len hown.2) hold a news.length cy news.flatten hl hnews (by omega) h63 hby
        refine ⟨v', w', hr, ⟨⟨by rw [hfl, hll]; exact ho.1, ?_⟩, hall⟩, hg.os, hg.tape, ⟨hg.output, run_drawn _ _ hr⟩, hg.size, fun k hk _ => hg.block k hk (by simp), fun k hk => ?_⟩
        · rw [hll, hfl]
          rcases ho.2 with h | ⟨g, c2, cur, h⟩
          · exact .inl h
          · exact .inr ⟨g, c2, cur, h.1, Nat.zero_le _, h.2.2⟩
        · obtain ⟨n2, c2, rfl⟩ := hk
          rcases ho.2 with ⟨h, _⟩ | ⟨g, c3, cur, h, h2, h3, _⟩
          · cases h
          · simp only [Value.slice.injEq, Option.some.injEq, Addr.mk.injEq] at h
            obtain ⟨⟨rfl, _⟩, _⟩ := h
            exact ⟨.inr h2, (Array.getElem?_eq_some_iff.1 h3).1⟩

theorem EV.append (k : Nat) {dd sz bytes : Nat} {rows news : List (List Value)} (hn : dd < n) (hV : VecT P U E sz bytes) (hk : H[k]? = some (vec v E sz rows)) (hx : σ.ev x = some (g, v)) (hg : g = true) (hy : σ.ev y = some (g', yv)) (hg' : g' = true)
    (hnew : ∀ w, Own M w0 H w → Arr w yv sz news) (hnl : ∀ r ∈ news, r.length = sz) (h1 : ∀ r ∈ news, ∀ u ∈ r, u.oneCell' = true) (h63 : rows.length + news.length ≤ maxLen) (hby : (rows.length + news.length) * bytes ≤ 140737488355328)
    (kk : ∀ u, WK n K ((dd, (true, u)) :: σ) (Own M w0 (H.set k (vec u E sz (rows ++ news))))) : EV P n ⟨some dd, .call ⟨.builtin .append, #[x, y], #[U, U]⟩, T, pos, after, gd⟩ σ (Own M w0 H) K Q := fun a w ha hw => by
  refine .inl ?_
  obtain ⟨v', w', hr, h2, h3, h4, h5, h6, h7, h8⟩ := run_append_vec (T := T) hV (hw.at k hk) (hnew w hw) hnl h1 h63 hby
  have hrun : (execOp a.eval ⟨some dd, .call ⟨.builtin .append, #[x, y], #[U, U]⟩, T, pos, after, gd⟩).run P w = .ok (.value v') w' := by
    simp [execOp, resolve, invoke, builtin, ha.ev hx hg, ha.ev hy hg', hr, Result.andThen]
  unfold Oper.wp
  rw [hrun]
  exact kk v' _ _ (ha.put hn true _) (hw.upd k hk h3 h4 h5 h6 h7 h2 h8)
end
end Go.Rd
end

section
namespace Go.Rd
open Go.RowKit
set_option linter.unusedVariables false
def Le (k w : World) : Prop := ∀ a v, k.cell? a = some v → w.cell? a = some v
theorem Le.refl (w : World) : Le w w := fun _ _ h => h
theorem Le.trans {a b c : World} (h : Le a b) (k : Le b c) : Le a c := fun x v hx => k x v (h x v hx)
theorem Grow.le {w w' : World} (h : Grow w w') : Le w w' := fun a u hu => by rw [h.cell (World.block_lt_of_cell? w a hu)]; exact hu
theorem Arr.le {w w' : World} {v : Value} {sz : Nat} {rows : List (List Value)} (h : Arr w v sz rows) (k : Le w w') : Arr w' v sz rows := h.mono k

def kn (M : Nat → Prop) (B : Nat) (k0 k : World) : Res where
  foot := fun b => (M b ∨ B ≤ b) ∧ ∃ (a : Addr) (v : Value), a.block = b ∧ k.cell? a = some v
  holds := fun w => Le k0 k ∧ (∀ (a : Addr) (v : Value), ¬ (M a.block ∨ B ≤ a.block) → k.cell? a = some v → k0.cell? a = some v) ∧ ∀ (a : Addr) (v : Value), (M a.block ∨ B ≤ a.block) → k.cell? a = some v → w.cell? a = some v
  stable := fun w w' ⟨h1, h2, h3⟩ hk => ⟨h1, h2, fun a v ha hv => by
    rw [World.cell?_of_block (w := w) (w' := w') (hk a.block ⟨ha, a, v, rfl, hv⟩)]
    exact h3 a v ha hv⟩

def Base (M : Nat → Prop) (k w : World) : Prop := ∀ a v, k.cell? a = some v → w.cell? a = some v ∧ ¬ M a.block

section
variable {M : Nat → Prop} {w0 k0 k w : World} {H : List Res}
theorem Own.le (j : Nat) (hj : H[j]? = some (kn M w0.heap.size k0 k)) (hb : Base M k0 w0) (h : Own M w0 H w) : Le k w := fun a v hv => by
  obtain ⟨h1, h2, h3⟩ := h.at j hj
  by_cases hm : M a.block ∨ w0.heap.size ≤ a.block
  · exact h3 a v hm hv
  · obtain ⟨hc, hM⟩ := hb a v (h2 a v hm hv)
    rw [World.cell?_of_block (w := w0) (w' := w) (h.1.block a.block (by omega) hM)]
    exact hc

theorem AllOwn.sub {B : Nat → Prop} : ∀ {H' H : List Res}, List.Sublist H' H → AllOwn B w H → AllOwn B w H'
  | _, _, .slnil, h => h
  | _, _, .cons _ s, ⟨_, h⟩ => AllOwn.sub s h
  | _, _, .cons_cons _ s, ⟨⟨h1, h2, h3⟩, h4⟩ => ⟨⟨h1, h2, fun t ht => h3 t (s.subset ht)⟩, AllOwn.sub s h4⟩
theorem Own.sub {H' : List Res} (s : List.Sublist H' H) (h : Own M w0 H w) : Own M w0 H' w := ⟨h.1, h.2.sub s⟩

theorem Own.startK {R : List Res} (hb : Base M k w0) (h : Own M w0 R w0) : Own M w0 (kn M w0.heap.size k k :: R) w0 := by
  have none : ∀ b, ¬ (kn M w0.heap.size k k).foot b := by
    rintro b ⟨hm, a, v, rfl, hv⟩
    obtain ⟨h1, h2⟩ := hb a v hv
    rcases hm with hm | hm
    · exact h2 hm
    · have := World.block_lt_of_cell? w0 a h1; omega
  refine ⟨h.1, ⟨⟨Le.refl _, fun _ _ _ h => h, fun a v _ hv => (hb a v hv).1⟩, fun b hb' => absurd hb' (none b), fun s hs b hb' => absurd hb' (none b)⟩, h.2⟩

open Classical in
noncomputable def joinW (F : Nat → Prop) (k w : World) : World :=
  { w with heap := (Array.range (max k.heap.size w.heap.size)).map fun b => if F b then (w.heap[b]?).getD (.cells #[] 0 (0, 0)) else (k.heap[b]?).getD (.cells #[] 0 (0, 0)) }

theorem joinW_yes {F : Nat → Prop} {b : Nat} (hb : F b) (hlt : b < w.heap.size) : (joinW F k w).heap[b]? = w.heap[b]? := by
  have h1 : b < max k.heap.size w.heap.size := by omega
  simp [joinW, Array.getElem?_range, h1, hb, Array.getElem?_eq_getElem hlt]
theorem joinW_no {F : Nat → Prop} {a : Addr} (hb : ¬ F a.block) : (joinW F k w).cell? a = k.cell? a := by
  by_cases hlt : a.block < k.heap.size
  · have h1 : a.block < max k.heap.size w.heap.size := by omega
    refine World.cell?_of_block (w := k) ?_
    simp [joinW, Array.getElem?_range, h1, hb, Array.getElem?_eq_getElem hlt]
  · have hk : k.cell? a = none := by
      simp [World.cell?, Array.getElem?_eq_none (Nat.le_of_not_lt hlt)]
    rw [hk]
    by_cases h1 : a.block < max k.heap.size w.heap.size
    · simp [joinW, World.cell?, Array.getElem?_range, h1, hb, Array.getElem?_eq_none (Nat.le_of_not_lt hlt)]
    · simp [joinW, World.cell?, Array.getElem?_range, h1]

theorem Own.freeze {R : List Res} {r : Res} (h : Own M w0 (kn M w0.heap.size k0 k :: r :: R) w) (hb : Base M k0 w0) : ∃ k', Le k k' ∧ r.holds k' ∧ Own M w0 (kn M w0.heap.size k0 k' :: R) w := by
  obtain ⟨hf, ⟨⟨h1, h2, h3⟩, hkf, hkd⟩, ⟨hr, hrf, hrd⟩, hR⟩ := h
  have hdis : ∀ b, r.foot b → ¬ (kn M w0.heap.size k0 k).foot b := fun b hb hk => hkd r (by simp) b hk hb
  have hyes : ∀ b, r.foot b → (joinW r.foot k w).heap[b]? = w.heap[b]? := fun b hb => joinW_yes hb (hrf b hb).2
  have hle : Le k (joinW r.foot k w) := fun a v hv => by
    by_cases hF : r.foot a.block
    · exact absurd ⟨(hrf a.block hF).1, a, v, rfl, hv⟩ (hdis a.block hF)
    · rw [joinW_no hF]; exact hv
  refine ⟨joinW r.foot k w, hle, r.stable w _ hr hyes, hf, ⟨⟨h1.trans hle, fun a v hn hv => ?_, fun a v hm hv => ?_⟩, fun b hb => ?_, fun s hs b hb => ?_⟩, hR⟩
  · by_cases hF : r.foot a.block
    · exact absurd (hrf a.block hF).1 hn
    · rw [joinW_no hF] at hv; exact h2 a v hn hv
  · by_cases hF : r.foot a.block
    · rw [World.cell?_of_block (w := w) (hyes a.block hF)] at hv; exact hv
    · rw [joinW_no hF] at hv; exact h3 a v hm hv
  · obtain ⟨hm, a, v, rfl, hv⟩ := hb
    by_cases hF : r.foot a.block
    · exact ⟨(hrf _ hF).1, (hrf _ hF).2⟩
    · rw [joinW_no hF] at hv; exact hkf a.block ⟨hm, a, v, rfl, hv⟩
  · obtain ⟨hm, a, v, rfl, hv⟩ := hb
    by_cases hF : r.foot a.block
    · exact hrd s hs _ hF
    · rw [joinW_no hF] at hv
      exact hkd s (List.mem_cons_of_mem _ hs) a.block ⟨hm, a, v, rfl, hv⟩

theorem AllOwn.append {B : Nat → Prop} {w : World} : ∀ {A C : List Res}, AllOwn B w (A ++ C) ↔ (AllOwn B w A ∧ AllOwn B w C ∧ ∀ r ∈ A, ∀ s ∈ C, ∀ b, r.foot b → ¬ s.foot b)
  | [], C => by simp [AllOwn]
  | r :: A, C => by
    simp only [List.cons_append, AllOwn, AllOwn.append (A := A) (C := C), List.mem_append, List.mem_cons]
    constructor
    · rintro ⟨⟨h1, h2, h3⟩, h4, h5, h6⟩
      exact ⟨⟨⟨h1, h2, fun s hs => h3 s (.inl hs)⟩, h4⟩, h5, fun q hq s hs => by
        rcases hq with rfl | hq
        · exact h3 s (.inr hs)
        · exact h6 q hq s hs⟩
    · rintro ⟨⟨⟨h1, h2, h3⟩, h4⟩, h5, h6⟩
      exact ⟨⟨h1, h2, fun s hs => hs.elim (h3 s) (h6 r (.inl rfl) s)⟩, h4, h5, fun q hq => h6 q (.inr hq)⟩

theorem AllOwn.mine {B B' : Nat → Prop} {w : World} : ∀ {R : List Res}, AllOwn B w R → (∀ r ∈ R, ∀ b, r.foot b → B' b) → AllOwn B' w R
  | [], _, _ => trivial
  | r :: R, ⟨⟨h1, h2, h3⟩, h4⟩, h => ⟨⟨h1, fun b hb => ⟨h r (by simp) b hb, (h2 b hb).2⟩, h3⟩, h4.mine fun s hs => h s (List.mem_cons_of_mem _ hs)⟩

def feet (R : List Res) : Nat → Prop := fun b => ∃ r ∈ R, r.foot b

theorem Own.lend {R H2 : List Res} (h : Own M w0 (kn M w0.heap.size k0 k :: (R ++ H2)) w) (hb : Base M k0 w0) : Base (feet R) k w ∧ Own (feet R) w R w := by
  have hle := Own.le 0 rfl hb h
  obtain ⟨hf, ⟨⟨h1, h2, h3⟩, hkf, hkd⟩, hR⟩ := h
  obtain ⟨hA, hC, hx⟩ := AllOwn.append.1 hR
  refine ⟨fun a v hv => ⟨hle a v hv, ?_⟩, Frame.refl _, hA.mine fun r hr b hb => .inl ⟨r, hr, hb⟩⟩
  rintro ⟨r, hr, hrb⟩
  exact hkd r (by simp [hr]) a.block ⟨(hA.lt r hr _ hrb).1, a, v, rfl, hv⟩ hrb

theorem Own.back {R R' H2 : List Res} {k' w' : World} (h : Own M w0 (kn M w0.heap.size k0 k :: (R ++ H2)) w) (hb : Base M k0 w0) (h' : Own (feet R) w (kn (feet R) w.heap.size k k' :: R') w') :
    Own M w0 (kn M w0.heap.size k0 k' :: (R' ++ H2)) w' ∧ Le k k' := by
  have hle := Own.le 0 rfl hb h
  obtain ⟨hf, ⟨⟨h1, h2, h3⟩, hkf, hkd⟩, hR⟩ := h
  obtain ⟨hA, hC, hx⟩ := AllOwn.append.1 hR
  obtain ⟨hf', ⟨⟨g1, g2, g3⟩, gkf, gkd⟩, hR'⟩ := h'
  have hmine : ∀ b, feet R b → Mine M w0 b := fun b ⟨r, hr, hrb⟩ => (hA.lt r hr b hrb).1
  have hmine' : ∀ b, Mine (feet R) w b → Mine M w0 b := fun b hm => hm.elim (hmine b) fun h => .inr (Nat.le_trans hf.size h)
  have hsame : ∀ b, b < w.heap.size → ¬ feet R b → w'.heap[b]? = w.heap[b]? := hf'.block
  have hapart : ∀ s ∈ H2, ∀ b, s.foot b → b < w.heap.size ∧ ¬ feet R b := fun s hs b hsb => ⟨(hC.lt s hs b hsb).2, fun ⟨r, hr, hrb⟩ => hx r hr s hs b hrb hsb⟩
  refine ⟨⟨hf.trans ⟨hf'.os, hf'.tape, hf'.output, hf'.size, fun b hb hm => hsame b hb fun hF => hm (hmine b hF)⟩, ⟨⟨h1.trans g1, fun a v hn hv => ?_, fun a v hm hv => ?_⟩, fun b hb => ?_, fun s hs b hb => ?_⟩, AllOwn.append.2 ⟨hR'.mine fun r hr b hrb => hmine' b (hR'.lt r hr b hrb).1, ?_, fun r hr s hs b hrb hsb => ?_⟩⟩, g1⟩
  · have hn' : ¬ (feet R a.block ∨ w.heap.size ≤ a.block) := fun h => hn (hmine' a.block h)
    exact h2 a v hn (g2 a v hn' hv)
  · by_cases hq : feet R a.block ∨ w.heap.size ≤ a.block
    · exact g3 a v hq hv
    · have := hle a v (g2 a v hq hv)
      rw [World.cell?_of_block (w := w) (hsame a.block (by omega) fun hF => hq (.inl hF))]
      exact this
  · obtain ⟨hm, a, v, rfl, hv⟩ := hb
    refine ⟨hm, ?_⟩
    by_cases hq : feet R a.block ∨ w.heap.size ≤ a.block
    · exact (gkf a.block ⟨hq, a, v, rfl, hv⟩).2
    · have := hf'.size; omega
  · obtain ⟨hm, a, v, rfl, hv⟩ := hb
    by_cases hq : feet R a.block ∨ w.heap.size ≤ a.block
    · rcases List.mem_append.1 hs with hs | hs
      · exact gkd s hs a.block ⟨hq, a, v, rfl, hv⟩
      · intro hsb
        obtain ⟨x1, x2⟩ := hapart s hs a.block hsb
        rcases hq with hq | hq
        · exact x2 hq
        · omega
    · rcases List.mem_append.1 hs with hs | hs
      · intro hsb
        exact hq (hR'.lt s hs a.block hsb).1
      · exact hkd s (by simp [hs]) a.block ⟨hm, a, v, rfl, g2 a v hq hv⟩
  · exact hC.change hf'.size fun s hs b hsb => hsame b (hapart s hs b hsb).1 (hapart s hs b hsb).2
  · obtain ⟨x1, x2⟩ := hapart s hs b hsb
    rcases (hR'.lt r hr b hrb).1 with hq | hq
    · exact x2 hq
    · omega
end
section
variable {P : Program} {n : Nat} {σ : Env} {M : Nat → Prop} {w0 k0 k : World} {H : List Res} {d : Option Tmp} {T U E : TypeId} {pos : String} {after : Array Edge} {gd : Option (Nat × Bool)} {x y : Operand} {g g' : Bool} {v yv : Value}
  {K : Act → World → Prop} {Q : Exit → Act → World → Prop}
theorem WK.conseq {C C' : World → Prop} (h : ∀ w, C w → C' w) (kk : WK n K σ C') : WK n K σ C := fun a w ha hw => kk a w ha (h w hw)
theorem WK.freeze {r : Res} (hb : Base M k0 w0) (kk : ∀ k', Le k k' → r.holds k' → WK n K σ (Own M w0 (kn M w0.heap.size k0 k' :: H))) : WK n K σ (Own M w0 (kn M w0.heap.size k0 k :: r :: H)) := fun a w ha hw => by
  obtain ⟨k', h1, h2, h3⟩ := hw.freeze hb
  exact kk k' h1 h2 a w ha h3

theorem EV.callR {X : Type} {R H2 : List Res} {f : FuncId} {xs : List Operand} {vs : List Value} {ats : Array TypeId} (G : X → Value) (R' : X → List Res) (kx : X → World) (F : X → Prop) (hb : Base M k0 w0) (hn : ∀ dd, d = some dd → dd < n) (hf : Enters P f) (hv : EvAll σ xs vs)
    (hc : ∀ M' w, Base M' k w → Own M' w R w → Calls P f vs.toArray w (fun e w' => ∃ X, e = .returned (G X) ∧ Own M' w (kn M' w.heap.size k (kx X) :: R' X) w' ∧ F X))
    (kk : ∀ X, F X → Le k (kx X) → WK n K ((match d with | some dd => [(dd, (true, G X))] | none => []) ++ σ) (Own M w0 (kn M w0.heap.size k0 (kx X) :: (R' X ++ H2)))) :
    EV P n ⟨d, .call ⟨.value (.func f), xs.toArray, ats⟩, T, pos, after, gd⟩ σ (Own M w0 (kn M w0.heap.size k0 k :: (R ++ H2))) K Q := fun a w ha hw => by
  refine .inl ?_
  have hm := hv.map ha
  have hrun : (execOp a.eval ⟨d, .call ⟨.value (.func f), xs.toArray, ats⟩, T, pos, after, gd⟩).run P w = .ok (.enter f vs.toArray) w := by
    simp [execOp, resolve, Deferred.ofValue, Act.eval, invoke, run_callFunc hf, hm]
  unfold Oper.wp
  rw [hrun]
  obtain ⟨l1, l2⟩ := hw.lend hb
  refine (hc _ w l1 l2).mono ?_
  rintro e w'' ⟨u, rfl, hown, hF⟩
  obtain ⟨b1, b2⟩ := hw.back hb hown
  refine kk u hF b2 _ _ ?_ b1
  cases d with
  | none => exact ha
  | some dd => exact ha.put (hn dd rfl) true _

theorem Own.forget {M : Nat → Prop} {w0 k0 k k' w : World} {H : List Res} (hl : Le k k') (h0 : Le k0 k) (h : Own M w0 (kn M w0.heap.size k0 k' :: H) w) : Own M w0 (kn M w0.heap.size k0 k :: H) w := by
  obtain ⟨hf, ⟨⟨h1, h2, h3⟩, hb, hd⟩, hr⟩ := h
  have hsub : ∀ b, (kn M w0.heap.size k0 k).foot b → (kn M w0.heap.size k0 k').foot b := fun b ⟨hm, a, v, he, hv⟩ => ⟨hm, a, v, he, hl a v hv⟩
  exact ⟨hf, ⟨⟨h0, fun a v hn hv => h2 a v hn (hl a v hv), fun a v hm hv => h3 a v hm (hl a v hv)⟩, fun b hb' => hb b (hsub b hb'), fun s hs b hb' => hd s hs b (hsub b hb')⟩, hr⟩

def pickL (js : List Nat) (H : List Res) : List Res := js.filterMap (H[·]?)

theorem AllOwn.apart {B : Nat → Prop} {w : World} : ∀ {H : List Res} {i j : Nat} {r s : Res}, AllOwn B w H → H[i]? = some r → H[j]? = some s → i ≠ j → ∀ b, r.foot b → ¬ s.foot b
  | [], _, _, _, _, _, h, _, _ => by simp at h
  | q :: H, 0, 0, _, _, _, _, _, h => absurd rfl h
  | q :: H, 0, j + 1, r, s, ⟨⟨_, _, h3⟩, _⟩, hi, hj, _ => by
    simp at hi; subst hi
    exact h3 s (List.mem_of_getElem? (by simpa using hj))
  | q :: H, i + 1, 0, r, s, ⟨⟨_, _, h3⟩, _⟩, hi, hj, _ => by
    simp at hj; subst hj
    exact fun b hr hs => h3 r (List.mem_of_getElem? (by simpa using hi)) b hs hr
  | q :: H, i + 1, j + 1, r, s, ⟨_, h4⟩, hi, hj, hne => h4.apart (by simpa using hi) (by simpa using hj) (by omega)

theorem AllOwn.all {B : Nat → Prop} {w : World} : ∀ {H : List Res} {r : Res}, AllOwn B w H → r ∈ H → r.holds w ∧ ∀ b, r.foot b → B b ∧ b < w.heap.size
  | q :: H, r, ⟨⟨h1, h2, _⟩, h4⟩, hr => by
    rcases List.mem_cons.1 hr with rfl | hr
    · exact ⟨h1, h2⟩
    · exact h4.all hr

theorem AllOwn.pick {B : Nat → Prop} {w : World} {H : List Res} (h : AllOwn B w H) : ∀ (js : List Nat), js.Nodup → AllOwn B w (pickL js H)
  | [], _ => trivial
  | j :: js, hn => by
    have hrest := h.pick js (List.nodup_cons.1 hn).2
    unfold pickL at *
    rw [List.filterMap_cons]
    split
    · exact hrest
    · rename_i r hr
      refine ⟨⟨(h.all (List.mem_of_getElem? hr)).1, (h.all (List.mem_of_getElem? hr)).2, fun s hs => ?_⟩, hrest⟩
      obtain ⟨i, hi, his⟩ := List.mem_filterMap.1 hs
      exact h.apart hr his (fun he => (List.nodup_cons.1 hn).1 (he ▸ hi))
theorem Own.pick (js : List Nat) (hn : js.Nodup) {w : World} (h : Own M w0 H w) : Own M w0 (pickL js H) w := ⟨h.1, h.2.pick js hn⟩
theorem WK.pick (js : List Nat) (hn : js.Nodup) (kk : WK n K σ (Own M w0 (pickL js H))) : WK n K σ (Own M w0 H) := WK.conseq (fun w hw => hw.pick js hn) kk

theorem Own.blkArr (j : Nat) {b sz : Nat} {cells : List Value} {rows : List (List Value)} (hj : H[j]? = some (blk b cells E)) (hf : rows.flatten = cells) (hs : ∀ r ∈ rows, r.length = sz) :
    ∀ w, Own M w0 H w → Arr w (blkSlice b rows.length rows.length) sz rows := fun w hw =>
  ⟨⟨_, _, rfl, fun _ => rfl, Nat.le_refl _⟩, fun i r p hr hp => by
    obtain ⟨a, n, c', he, h0, h1, rfl⟩ := hp
    simp only [blkSlice, Value.slice.injEq, Option.some.injEq] at he
    obtain ⟨rfl, rfl, rfl⟩ := he
    rw [Int.toNat_natCast]
    exact (Own.cellsBlk j hj w hw).sub (i * sz) r.length (by rw [← hf]; exact drop_flatten hs hr)⟩
theorem Own.vecArr (j : Nat) {sz : Nat} {rows : List (List Value)} (hj : H[j]? = some (vec v E sz rows)) : ∀ w, Own M w0 H w → Arr w v sz rows := fun w hw => vec_arr (hw.at j hj)

theorem EV.appendL {α : Type} {enc : α → List Value} {xs ys : List α} (zs : List α) (k : Nat) {dd sz bytes : Nat} (hn : dd < n) (hV : VecT P U E sz bytes) (hk : H[k]? = some (vec v E sz (xs.map enc))) (hx : σ.ev x = some (g, v)) (hg : g = true) (hy : σ.ev y = some (g', yv)) (hg' : g' = true)
    (hnew : ∀ w, Own M w0 H w → Arr w yv sz (ys.map enc)) (hlen : ∀ u, (enc u).length = sz) (hone : ∀ u ∈ ys, ∀ c ∈ enc u, c.oneCell' = true) (hz : zs = xs ++ ys) (h63 : zs.length ≤ maxLen) (hby : zs.length * bytes ≤ 140737488355328)
    (kk : ∀ u, SliceLen u zs.length → WK n K ((dd, (true, u)) :: σ) (Own M w0 (H.set k (vec u E sz (zs.map enc))))) : EV P n ⟨some dd, .call ⟨.builtin .append, #[x, y], #[U, U]⟩, T, pos, after, gd⟩ σ (Own M w0 H) K Q := by
  subst hz
  rw [List.length_append] at h63 hby
  refine EV.append k hn hV hk hx hg hy hg' hnew ?_ ?_ (by simpa using h63) (by simpa using hby) fun u a w ha hw => ?_
  · intro r hr
    obtain ⟨u, _, rfl⟩ := List.mem_map.1 hr
    exact hlen u
  · intro r hr
    obtain ⟨u, hu, rfl⟩ := List.mem_map.1 hr
    exact hone u hu
  · have hlt : k < H.length := (List.getElem?_eq_some_iff.1 hk).1
    have hl := (vec_arr (v := u) (E := E) (sz := sz) (rows := xs.map enc ++ ys.map enc) (hw.at k (by simp [hlt]))).len
    rw [← List.map_append] at hl hw
    rw [List.length_map] at hl
    exact kk u hl a w ha hw

theorem vec_nil {w : World} {sz : Nat} {α : Type} {enc : α → List Value} : (vec (.slice none 0 0) E sz (([] : List α).map enc)).holds w := ⟨⟨by simp, .inl ⟨rfl, rfl⟩⟩, by simp⟩
theorem Own.vecNil {w : World} (h : Own M w0 H w) {E : TypeId} {sz : Nat} {α : Type} {enc : α → List Value} : Own M w0 (vec (.slice none 0 0) E sz (([] : List α).map enc) :: H) w :=
  ⟨h.1, ⟨vec_nil, fun b ⟨_, _, h⟩ => by simp at h, fun s _ b ⟨_, _, h⟩ => by simp at h⟩, h.2⟩
theorem WK.vecNil (E : TypeId) (sz : Nat) {α : Type} (enc : α → List Value) (kk : WK n K σ (Own M w0 (vec (.slice none 0 0) E sz (([] : List α).map enc) :: H))) : WK n K σ (Own M w0 H) := WK.conseq (fun w hw => hw.vecNil) kk

theorem Own.kcells (j : Nat) (hj : H[j]? = some (kn M w0.heap.size k0 k)) (hb : Base M k0 w0) {p : Addr} {l : List Value} (h : CellsAt k p l 0) : ∀ w, Own M w0 H w → CellsAt w p l 0 := fun w hw => h.mono (Own.le j hj hb hw)
theorem Own.karr (j : Nat) (hj : H[j]? = some (kn M w0.heap.size k0 k)) (hb : Base M k0 w0) {v : Value} {sz : Nat} {rows : List (List Value)} (h : Arr k v sz rows) : ∀ w, Own M w0 H w → Arr w v sz rows := fun w hw => h.le (Own.le j hj hb hw)
theorem Own.kgrow {w : World} (hM : ∀ b, ¬ M b) (h : Own M w0 H w) : Grow w0 w := ⟨h.1.os, h.1.tape, h.1.output, h.1.size, fun b hb => h.1.block b hb (hM b)⟩

theorem QV.eqv {C : World → Prop} {o : Oper} {v v' : Value} (h : v = v') (q : QV P o σ C v) : QV P o σ C v' := h ▸ q
theorem SliceLen.cells {v : Value} {m : Nat} (h : SliceLen v m) : v.cells = [v].toArray := by
  obtain ⟨a, c, rfl, _⟩ := h
  rfl
theorem Own.blkVec {w : World} {b sz : Nat} {cells : List Value} {α : Type} (enc : α → List Value) (xs : List α) (h : Own M w0 (blk b cells E :: H) w) (hf : (xs.map enc).flatten = cells) (hs : ∀ u, (enc u).length = sz) (hm : xs.length ≤ maxLen) :
    Own M w0 (vec (blkSlice b xs.length xs.length) E sz (xs.map enc) :: H) w := by
  have hl : ∀ r ∈ xs.map enc, r.length = sz := fun r hr => by
    obtain ⟨u, _, rfl⟩ := List.mem_map.1 hr
    exact hs u
  have hlen := flatten_len hl
  rw [List.length_map] at hlen
  obtain ⟨h0, ⟨⟨h1, h2, h3⟩, h4⟩⟩ := h
  have foot : ∀ x, (vec (blkSlice b xs.length xs.length) E sz (xs.map enc)).foot x → x = b := fun x ⟨n, c, he⟩ => by
    simp only [blkSlice, Value.slice.injEq, Option.some.injEq, Addr.mk.injEq] at he
    exact he.1.1.symm
  refine ⟨h0, ⟨⟨⟨by rw [List.length_map]; exact hlen, .inr ⟨b, xs.length, cells.toArray, by simp [blkSlice], Nat.zero_le _, h1, by simp, hm, by simp [← hf, hlen], ?_⟩⟩, hl⟩, fun x hx => h2 x (foot x hx), fun s hs x hx => h3 s hs x (foot x hx)⟩, h4⟩
  rw [List.length_map, ← hlen, hf]
  simp
theorem WK.blkVec {b sz : Nat} {cells : List Value} {α : Type} (enc : α → List Value) (xs : List α) (hf : (xs.map enc).flatten = cells) (hs : ∀ u, (enc u).length = sz) (hm : xs.length ≤ maxLen)
    (kk : WK n K σ (Own M w0 (vec (blkSlice b xs.length xs.length) E sz (xs.map enc) :: H))) : WK n K σ (Own M w0 (blk b cells E :: H)) := WK.conseq (fun w hw => hw.blkVec enc xs hf hs hm) kk
theorem rows_len {α : Type} {enc : α → List Value} {sz : Nat} {ys : List α} (h : ∀ u, (enc u).length = sz) : ∀ r ∈ ys.map enc, r.length = sz := fun r hr => by
  obtain ⟨u, _, rfl⟩ := List.mem_map.1 hr
  exact h u
end
end Go.Rd
end

section
namespace Go.Rd
open Go.RowKit
set_option linter.unusedVariables false
section
variable {P : Program} {n : Nat} {σ : Env} {C : World → Prop} {ty : TypeId} {p u : Nat} {q : Addr} {sz : Nat} {cs : List Value} {x : Value}
theorem run_loadVar_cells {w : World} (hT : AggT P ty sz) (hl : cs.length = sz) (hc : CellsAt w q cs 0) : (loadVar ty q).run P w = .ok (.agg cs.toArray) w := by
  have hA := run_isAgg_agg hT w
  obtain ⟨dd, h1, h2, h3⟩ := hT
  obtain ⟨inf, hi, hs⟩ := Option.map_eq_some_iff.1 h3
  have := run_loadCellsFrom (P := P) cs 0 #[] hc
  rw [hl] at this
  simp [loadVar, hA, sizeOf, typeInfo, hi, hs, loadCells, this]

theorem WQ.retCellTmp {fn : Func} {R : Ending → World → Prop} (hr : fn.results = #[.cell p ty, .tmp u]) (hT : AggT P ty sz) (hl : cs.length = sz) (hp : σ.look p = some (true, .pointer (some q))) (hx : σ.look u = some (true, x)) (hc : ∀ w, C w → CellsAt w q cs 0)
    (h : ∀ w, C w → R (.returned (.tuple #[.agg cs.toArray, x])) w) : WK n (bodyPost P fn R .ret) σ C := fun a w ha hw => by
  refine ⟨ha.defers, _, ?_, h w hw⟩
  have hp' := ha.look p true _ hp
  have hx' := ha.look u true _ hx
  have hp2 : a.tmps.getD p undef = .pointer (some q) := hp'
  have := run_loadVar_cells (P := P) hT hl (hc w hw)
  rw [results_cell_tmp hr, hp2, hx']
  simp [asAddr, this, Result.andThen]
end
section
variable {P : Program} {n : Nat} {σ : Env} {M : Nat → Prop} {w0 : World} {H : List Res} {T U E : TypeId} {pos : String} {after : Array Edge} {gd : Option (Nat × Bool)} {x y : Operand} {g g' : Bool} {v : Value}
  {K : Act → World → Prop} {Q : Exit → Act → World → Prop} {α : Type} {c : α → Value} {xs : List α} {b : Nat}
end
def subS (v : Value) (sz l h : Nat) : Value :=
  match v with
  | .slice a _ c => .slice (if c = l then a else a.map (·.add (l * sz))) (h - l) (c - l)
  | v => v

theorem subS_len {v : Value} {n l h sz : Nat} (hv : SliceLen v n) (h1 : l ≤ h) (h2 : h ≤ n) : SliceLen (subS v sz l h) (h - l) := by
  obtain ⟨a, c, rfl, ha, hc⟩ := hv
  refine ⟨_, _, rfl, fun hp => ?_, by omega⟩
  have := ha (by omega)
  obtain ⟨b, rfl⟩ := Option.isSome_iff_exists.1 this
  split <;> simp
theorem subS_arr {w : World} {v : Value} {l h sz : Nat} {rows : List (List Value)} (hv : Arr w v sz rows) (h1 : l ≤ h) (h2 : h ≤ rows.length) : Arr w (subS v sz l h) sz ((rows.drop l).take (h - l)) := by
  have hlen : ((rows.drop l).take (h - l)).length = h - l := by simp; omega
  refine ⟨by rw [hlen]; exact subS_len hv.len h1 h2, fun i r p hr hp => ?_⟩
  have hi : i < h - l := by have := (List.getElem?_eq_some_iff.1 hr).1; omega
  obtain ⟨a, c, rfl, ha, hc⟩ := hv.len
  obtain ⟨b, rfl⟩ := Option.isSome_iff_exists.1 (ha (by omega))
  obtain ⟨a', n', c', he, g1, g2, rfl⟩ := hp
  have hne : ¬ c = l := by omega
  simp only [subS, if_neg hne, Option.map_some, Value.slice.injEq, Option.some.injEq] at he
  obtain ⟨rfl, _, _⟩ := he
  rw [Addr.add_add, Int.toNat_natCast, ← Nat.add_mul]
  refine hv.row (l + i) r _ ?_ (ElemP_base (by omega))
  rw [List.getElem?_take, if_pos hi, List.getElem?_drop] at hr
  exact hr
theorem subS_map {α : Type} {enc : α → List Value} {w : World} {v : Value} {l h sz : Nat} {xs : List α} (hv : Arr w v sz (xs.map enc)) (h1 : l ≤ h) (h2 : h ≤ xs.length) : Arr w (subS v sz l h) sz (((xs.drop l).take (h - l)).map enc) := by
  have := subS_arr hv h1 (by simpa using h2)
  rwa [← List.map_drop, ← List.map_take] at this

section
variable {P : Program} {σ : Env} {C : World → Prop} {d : Option Tmp} {T U E : TypeId} {pos : String} {after : Array Edge} {gd : Option (Nat × Bool)} {x lo hi : Operand} {g g' g'' : Bool} {v : Value} {m sz : Nat}
theorem run_sizeOf {w : World} (h : (P.info? E).map (·.size) = some sz) : (sizeOf E).run P w = .ok sz w := by
  obtain ⟨inf, hi, hs⟩ := Option.map_eq_some_iff.1 h
  simp [sizeOf, typeInfo, hi, hs]
theorem QV.sliceH {k' : IntKind} {j : Int} (hT : SliceT P U E sz) (hx : σ.ev x = some (g, v)) (hg : g = true) (hl : SliceLen v m) (hhi : σ.ev hi = some (g'', .int k' j)) (hg'' : g'' = true)
    (h1 : 0 ≤ j) (h2 : j ≤ m) : QV P ⟨d, .slice U x none (some hi) none, T, pos, after, gd⟩ σ C (subS v sz 0 j.toNat) := .of_run fun n ac ha w hw => by
  obtain ⟨a, c, rfl, _, hc⟩ := hl
  obtain ⟨hU, hS⟩ := hT
  have e1 := ha.ev hx hg
  have e3 := ha.ev hhi hg''
  have hs := run_sizeOf (w := w) hS
  simp [execOp, e1, e3, Instr.sliceAt, Instr.slice, run_underlying hU, Instr.sliceBounds, run_sliceBound, hs, h1, (by omega : j ≤ c), subS]
theorem QV.sliceL {k : IntKind} {i : Int} (hT : SliceT P U E sz) (hx : σ.ev x = some (g, v)) (hg : g = true) (hl : SliceLen v m) (hlo : σ.ev lo = some (g', .int k i)) (hg' : g' = true)
    (h0 : 0 ≤ i) (h1 : i ≤ m) : QV P ⟨d, .slice U x (some lo) none none, T, pos, after, gd⟩ σ C (subS v sz i.toNat m) := .of_run fun n ac ha w hw => by
  obtain ⟨a, c, rfl, _, hc⟩ := hl
  obtain ⟨hU, hS⟩ := hT
  have e1 := ha.ev hx hg
  have e2 := ha.ev hlo hg'
  have hs := run_sizeOf (w := w) hS
  simp [execOp, e1, e2, Instr.sliceAt, Instr.slice, run_underlying hU, Instr.sliceBounds, run_sliceBound, hs, h0, h1, subS]
end
end Go.Rd
end

section
namespace Go.Rd
open Go.RowKit
set_option linter.unusedVariables false
section
variable {P : Program} {n : Nat} {σ : Env} {C : World → Prop} {d : Option Tmp} {T U D E z : TypeId} {pos : String} {after : Array Edge} {gd : Option (Nat × Bool)} {x y : Operand} {g g' : Bool} {v : Value} {a b l : List UInt8}
end
end Go.Rd
end

section
namespace Go.Rd
set_option linter.unusedVariables false
def OkIdx (step plus turn log : Int) : Prop := 0 ≤ log ∧ log ≤ 5 ∧ -64 ≤ step ∧ step ≤ 64 ∧ -64 ≤ plus ∧ plus ≤ 64 ∧ 0 ≤ turn ∧ turn ≤ 200
instance {a b c d : Int} : Decidable (OkIdx a b c d) := by unfold OkIdx; infer_instance

theorem mul_le {a b A B : Int} (h1 : -A ≤ a) (h2 : a ≤ A) (h3 : 0 ≤ b) (h4 : b ≤ B) : -(A * B) ≤ a * b ∧ a * b ≤ A * B := by
  have hA : 0 ≤ A := by omega
  have e1 : a * b ≤ A * b := Int.mul_le_mul_of_nonneg_right h2 h3
  have e2 : A * b ≤ A * B := Int.mul_le_mul_of_nonneg_left h4 hA
  have e3 : (-A) * b ≤ a * b := Int.mul_le_mul_of_nonneg_right h1 h3
  rw [Int.neg_mul] at e3
  omega

theorem and_mask (x : Int) (k : Nat) (hk : k ≤ 5) : ((BitVec.ofInt 64 x &&& BitVec.ofInt 64 (2 ^ k - 1)).toNat : Int) = x % 2 ^ k := by
  have e : BitVec.ofInt 64 (2 ^ k - 1) = BitVec.ofNat 64 (2 ^ k - 1) := by
    have : k = 0 ∨ k = 1 ∨ k = 2 ∨ k = 3 ∨ k = 4 ∨ k = 5 := by omega
    rcases this with rfl | rfl | rfl | rfl | rfl | rfl <;> rfl
  rw [e, BitVec.toNat_and, BitVec.toNat_ofNat, BitVec.toNat_ofInt]
  have h2 : (2 ^ k - 1) % 2 ^ 64 = 2 ^ k - 1 := by
    have : k = 0 ∨ k = 1 ∨ k = 2 ∨ k = 3 ∨ k = 4 ∨ k = 5 := by omega
    rcases this with rfl | rfl | rfl | rfl | rfl | rfl <;> rfl
  rw [h2, Nat.and_two_pow_sub_one_eq_mod]
  have : k = 0 ∨ k = 1 ∨ k = 2 ∨ k = 3 ∨ k = 4 ∨ k = 5 := by omega
  rcases this with rfl | rfl | rfl | rfl | rfl | rfl <;> simp <;> omega

theorem shl_one (log : Int) (h0 : 0 ≤ log) (h5 : log ≤ 5) : IntKind.i64.wrap (1 * 2 ^ (min log.toNat IntKind.i64.bits)) = 2 ^ log.toNat := by
  have : log = 0 ∨ log = 1 ∨ log = 2 ∨ log = 3 ∨ log = 4 ∨ log = 5 := by omega
  rcases this with rfl | rfl | rfl | rfl | rfl | rfl <;> rfl

theorem two_pow_5 (k : Nat) (h : k ≤ 5) : (1 : Int) ≤ 2 ^ k ∧ (2 : Int) ^ k ≤ 32 := by
  have : k = 0 ∨ k = 1 ∨ k = 2 ∨ k = 3 ∨ k = 4 ∨ k = 5 := by omega
  rcases this with rfl | rfl | rfl | rfl | rfl | rfl <;> decide

theorem tmod_lt' (a : Int) {m : Int} (hm : 0 < m) : -m < a.tmod m ∧ a.tmod m < m := by
  have h1 := Int.tmod_lt_of_pos a hm
  have h2 : -m < a.tmod m := by
    have := Int.tmod_lt_of_pos (-a) hm
    rw [Int.neg_tmod] at this
    omega
  exact ⟨h2, h1⟩

theorem wrap_def (n : Int) : IntKind.i64.wrap n = if n % 18446744073709551616 ≥ 9223372036854775808 then n % 18446744073709551616 - 18446744073709551616 else n % 18446744073709551616 := by
  simp [IntKind.wrap, IntKind.signed, IntKind.bits]
def clsV (op : Int) : Int := if op = 3 ∨ op = 4 then 2 else if op = 13 then 1 else 0
theorem clsV_range (op : Int) : 0 ≤ clsV op ∧ clsV op < 3 := by unfold clsV; split <;> (try split) <;> omega

theorem pow_next (k : Nat) : (2 : Int) ^ k + 2 ^ k = 2 ^ (k + 1) := by rw [Int.pow_succ]; omega
theorem tmod_fix {a b : Int} (hb : 0 < b) : (if a.tmod b < 0 then a.tmod b + b else a.tmod b) = a % b := by
  have h1 := Int.tmod_add_mul_tdiv a b
  have h2 := tmod_lt' a hb
  have h3 : a % b = a.tmod b % b := by
    conv => lhs; rw [← h1]
    rw [Int.add_mul_emod_self_left]
  split
  · rw [h3, ← Int.add_emod_right, Int.emod_eq_of_lt (by omega) (by omega)]
  · rw [h3, Int.emod_eq_of_lt (by omega) (by omega)]

def sel3 (a b c : Int) (k : Int) : Int := if k = 0 then a else if k = 1 then b else c
theorem sel3_get {l : List Value} {off : Nat} {a b c i : Int} (h0 : 0 ≤ i) (h1 : i < 3) (e0 : l[off]? = some (.int .i64 a)) (e1 : l[off + 1]? = some (.int .i64 b)) (e2 : l[off + 2]? = some (.int .i64 c)) :
    l[off + i.toNat * 1]? = some (.int .i64 (sel3 a b c i)) := by
  have : i = 0 ∨ i = 1 ∨ i = 2 := by omega
  rcases this with rfl | rfl | rfl
  · simpa [sel3] using e0
  · simpa [sel3] using e1
  · simpa [sel3] using e2
theorem Own.cellSym {M : Nat → Prop} {w0 : World} {H : List Res} (k : Nat) {b : Nat} {cs : List Value} {T : TypeId} {off : Nat} {v : Value} {q : Addr} (hk : H[k]? = some (blk b cs T)) (hv : cs[off]? = some v) (hq : q = ⟨b, off, none⟩) :
    ∀ w, Own M w0 H w → w.cell? q = some v := hq ▸ Own.cell k hk hv
theorem addr_sym (b off m : Nat) : (((⟨b, 0, none⟩ : Addr).add off).add m) = ⟨b, off + m, none⟩ := by
  unfold Addr.add
  by_cases h : off = 0 <;> by_cases h' : m = 0 <;> simp [h, h']
end Go.Rd
end

section
namespace Go.Rd
set_option linter.unusedVariables false
structure Tgt where
  (u0 u1 u2 w0 w1 w2 regs : Int)
def Tgt.cells (t : Tgt) : List Value := [.int .i64 t.u0, .int .i64 t.u1, .int .i64 t.u2, .int .i64 t.w0, .int .i64 t.w1, .int .i64 t.w2, .int .i64 t.regs]
def tgtOk (t : Tgt) : Bool := decide ((1 ≤ t.u0 ∧ t.u0 ≤ 4 ∧ 1 ≤ t.w0 ∧ t.w0 ≤ 6) ∧ (1 ≤ t.u1 ∧ t.u1 ≤ 4 ∧ 1 ≤ t.w1 ∧ t.w1 ≤ 6) ∧ (1 ≤ t.u2 ∧ t.u2 ≤ 4 ∧ 1 ≤ t.w2 ∧ t.w2 ≤ 6) ∧ 1 ≤ t.regs ∧ t.regs ≤ 128)
theorem tgtOk_iff {t : Tgt} : tgtOk t = true ↔ ((1 ≤ t.u0 ∧ t.u0 ≤ 4 ∧ 1 ≤ t.w0 ∧ t.w0 ≤ 6) ∧ (1 ≤ t.u1 ∧ t.u1 ≤ 4 ∧ 1 ≤ t.w1 ∧ t.w1 ≤ 6) ∧ (1 ≤ t.u2 ∧ t.u2 ≤ 4 ∧ 1 ≤ t.w2 ∧ t.w2 ≤ 6) ∧ 1 ≤ t.regs ∧ t.regs ≤ 128) := by
  unfold tgtOk; exact decide_eq_true_iff
theorem tgtOk_not {t : Tgt} : tgtOk t = false ↔ ¬ ((1 ≤ t.u0 ∧ t.u0 ≤ 4 ∧ 1 ≤ t.w0 ∧ t.w0 ≤ 6) ∧ (1 ≤ t.u1 ∧ t.u1 ≤ 4 ∧ 1 ≤ t.w1 ∧ t.w1 ≤ 6) ∧ (1 ≤ t.u2 ∧ t.u2 ≤ 4 ∧ 1 ≤ t.w2 ∧ t.w2 ≤ 6) ∧ 1 ≤ t.regs ∧ t.regs ≤ 128) := by
  unfold tgtOk; exact decide_eq_false_iff_not
def waitV (t : Tgt) (op : Int) : Int := if tgtOk t = true then sel3 t.w0 t.w1 t.w2 (clsV op) else 0
theorem sel3_bd {a b c i lo hi : Int} (ha : lo ≤ a ∧ a ≤ hi) (hb : lo ≤ b ∧ b ≤ hi) (hc : lo ≤ c ∧ c ≤ hi) : lo ≤ sel3 a b c i ∧ sel3 a b c i ≤ hi := by
  unfold sel3; split <;> (try split) <;> assumption
theorem waitV_bd (t : Tgt) (op : Int) : 0 ≤ waitV t op ∧ waitV t op ≤ 6 := by
  unfold waitV
  split
  · rename_i h
    rw [tgtOk_iff] at h
    exact sel3_bd (by omega) (by omega) (by omega)
  · omega
noncomputable def tb (p : Prop) : Bool := @decide p (Classical.propDecidable p)
theorem tb_iff {p : Prop} : tb p = true ↔ p := by unfold tb; exact @decide_eq_true_iff p (Classical.propDecidable p)
theorem tb_not {p : Prop} : tb p = false ↔ ¬ p := by unfold tb; exact @decide_eq_false_iff_not p (Classical.propDecidable p)
theorem tb_of {p : Prop} (h : p) : tb p = true := tb_iff.2 h
theorem tb_nof {p : Prop} (h : ¬ p) : tb p = false := tb_not.2 h
theorem tb_eq {p : Prop} {b : Bool} (h : b = true ↔ p) : b = tb p := by
  cases hb : b with
  | true => exact (tb_of (h.1 hb)).symm
  | false => exact (tb_nof (fun hp => by rw [h.2 hp] at hb; cases hb)).symm

structure Rf where
  (st bk : Int)
structure Stm where
  (op : Int)
  (a b : Rf)
  (ar sp pl n : Int)
structure Lp where
  (logs : List Int)
  (body : List Stm)
  (outs : List Int)
def Rf.cells (r : Rf) : List Value := [.int .i64 r.st, .int .i64 r.bk]
def Stm.cells (s : Stm) : List Value := [.int .i64 s.op, .int .i64 s.a.st, .int .i64 s.a.bk, .int .i64 s.b.st, .int .i64 s.b.bk, .int .i64 s.ar, .int .i64 s.sp, .int .i64 s.pl, .int .i64 s.n]
def Rf.zero : Rf := ⟨0, 0⟩
def Stm.zero : Stm := ⟨0, Rf.zero, Rf.zero, 0, 0, 0, 0⟩
def icell (n : Int) : List Value := [.int .i64 n]

theorem icell_len : ∀ n : Int, (icell n).length = 1 := fun n => rfl
theorem icell_one (ys : List Int) : ∀ u ∈ ys, ∀ c ∈ icell u, c.oneCell' = true := fun n _ c hc => by simp [icell] at hc; subst hc; rfl
def usesL (s : Stm) : List Rf := if s.op = 4 then [s.a] else if s.op > 10 then [s.a, s.b] else []

theorem usesL_len (s : Stm) : (usesL s).length ≤ 2 := by unfold usesL; split <;> (try split) <;> simp
def RefOk (n k : Int) (r : Rf) : Prop := 0 ≤ r.bk ∧ r.bk ≤ 3 ∧ 0 ≤ r.st ∧ (r.bk = 0 → r.st < k) ∧ (r.bk ≠ 0 → r.st < n)
def WordOk (nl : Int) (s : Stm) : Prop := 0 ≤ s.ar ∧ s.ar < nl ∧ -64 ≤ s.sp ∧ s.sp ≤ 64 ∧ -64 ≤ s.pl ∧ s.pl ≤ 64
def StillOk (s : Stm) : Prop := s.ar = 0 ∧ s.sp = 0 ∧ s.pl = 0
def Rf.isZero (r : Rf) : Prop := r.st = 0 ∧ r.bk = 0
def StmtOk (nl n k : Int) (s : Stm) : Prop :=
  ((s.op = 4 ∨ s.op > 10) → RefOk n k s.a) ∧ (s.op > 10 → RefOk n k s.b) ∧
  ((s.op = 1 ∧ StillOk s ∧ s.a.isZero ∧ s.b.isZero) ∨ (s.op = 2 ∧ s.n = 0 ∧ StillOk s ∧ s.a.isZero ∧ s.b.isZero) ∨ (s.op = 3 ∧ s.n = 0 ∧ WordOk nl s ∧ s.a.isZero ∧ s.b.isZero) ∨
   (s.op = 4 ∧ s.n = 0 ∧ WordOk nl s ∧ s.b.isZero) ∨ (11 ≤ s.op ∧ s.op ≤ 18 ∧ s.n = 0 ∧ StillOk s))
def StmtRest (nl : Int) (s : Stm) : Prop :=
  (s.op = 1 ∧ StillOk s ∧ s.a.isZero ∧ s.b.isZero) ∨ (s.op = 2 ∧ s.n = 0 ∧ StillOk s ∧ s.a.isZero ∧ s.b.isZero) ∨ (s.op = 3 ∧ s.n = 0 ∧ WordOk nl s ∧ s.a.isZero ∧ s.b.isZero) ∨
   (s.op = 4 ∧ s.n = 0 ∧ WordOk nl s ∧ s.b.isZero) ∨ (11 ≤ s.op ∧ s.op ≤ 18 ∧ s.n = 0 ∧ StillOk s)
theorem usesL_cases (s : Stm) : (s.op = 4 ∧ (usesL s).length = 1) ∨ (s.op > 10 ∧ (usesL s).length = 2) ∨ (s.op ≠ 4 ∧ s.op ≤ 10 ∧ (usesL s).length = 0) := by
  unfold usesL
  by_cases h : s.op = 4
  · simp [h]
  · by_cases h' : s.op > 10
    · simp [h, h']
    · simp [h, h']; omega
def UsesTo (n k i : Int) (s : Stm) : Prop := ∀ j : Nat, (j : Int) < i → j < (usesL s).length → RefOk n k ((usesL s).getD j Rf.zero)
theorem uses_all {n k : Int} {s : Stm} : (∀ j : Nat, j < (usesL s).length → RefOk n k ((usesL s).getD j Rf.zero)) ↔ (((s.op = 4 ∨ s.op > 10) → RefOk n k s.a) ∧ (s.op > 10 → RefOk n k s.b)) := by
  unfold usesL
  by_cases h : s.op = 4
  · simp only [h, if_true, List.length_singleton]
    constructor
    · intro hh; exact ⟨fun _ => hh 0 (by omega), fun h' => by omega⟩
    · intro hh j hj
      obtain rfl : j = 0 := by omega
      exact hh.1 (.inl trivial)
  · by_cases h' : s.op > 10
    · simp only [h, h', if_true, if_false, List.length_cons, List.length_nil]
      constructor
      · intro hh; exact ⟨fun _ => hh 0 (by omega), fun _ => hh 1 (by omega)⟩
      · intro hh j hj
        have : j = 0 ∨ j = 1 := by omega
        rcases this with rfl | rfl
        · exact hh.1 (.inr trivial)
        · exact hh.2 trivial
    · simp [h, h']
theorem stmt_rest {nl n k i : Int} {s : Stm} (h : UsesTo n k i s) (h1 : ¬ i < (usesL s).length) : StmtOk nl n k s ↔ StmtRest nl s := by
  have := uses_all.1 (fun j hj => h j (by omega) hj)
  unfold StmtOk StmtRest
  exact ⟨fun x => x.2.2, fun x => ⟨this.1, this.2, x⟩⟩
theorem rest_1 {nl : Int} {s : Stm} (h : s.op = 1) : StmtRest nl s ↔ StillOk s ∧ s.a.isZero ∧ s.b.isZero := by unfold StmtRest; simp [h]
theorem rest_n {nl : Int} {s : Stm} (h : s.op ≠ 1) (hn : s.n ≠ 0) : ¬ StmtRest nl s := by unfold StmtRest; simp [h, hn]
theorem rest_2 {nl : Int} {s : Stm} (h : s.op = 2) (hn : s.n = 0) : StmtRest nl s ↔ StillOk s ∧ s.a.isZero ∧ s.b.isZero := by unfold StmtRest; simp [h, hn]
theorem rest_3 {nl : Int} {s : Stm} (h : s.op = 3) (hn : s.n = 0) : StmtRest nl s ↔ WordOk nl s ∧ s.a.isZero ∧ s.b.isZero := by unfold StmtRest; simp [h, hn]
theorem rest_4 {nl : Int} {s : Stm} (h : s.op = 4) (hn : s.n = 0) : StmtRest nl s ↔ WordOk nl s ∧ s.b.isZero := by unfold StmtRest; simp [h, hn]
theorem rest_5 {nl : Int} {s : Stm} (h1 : s.op ≠ 1) (h2 : s.op ≠ 2) (h3 : s.op ≠ 3) (h4 : s.op ≠ 4) (hn : s.n = 0) : StmtRest nl s ↔ StillOk s ∧ (11 ≤ s.op ∧ s.op ≤ 18) := by
  unfold StmtRest; simp [h1, h2, h3, h4, hn]; constructor <;> intro h <;> simp [h]
def Zeros (s : Stm) : Prop := ((usesL s).length < 2 → s.b.isZero) ∧ ((usesL s).length < 1 → s.a.isZero)
theorem rest_zero {nl : Int} {s : Stm} (h : StmtRest nl s) : Zeros s := by
  have hu := usesL_cases s
  unfold StmtRest at h
  rcases h with h | h | h | h | h
  · exact ⟨fun _ => h.2.2.2, fun _ => h.2.2.1⟩
  · exact ⟨fun _ => h.2.2.2.2, fun _ => h.2.2.2.1⟩
  · exact ⟨fun _ => h.2.2.2.2, fun _ => h.2.2.2.1⟩
  · exact ⟨fun _ => h.2.2.2, fun hl => by omega⟩
  · exact ⟨fun hl => by omega, fun hl => by omega⟩
theorem rest_34 {nl : Int} {s : Stm} (h : s.op = 3 ∨ s.op = 4) (hz : Zeros s) (hn : s.n = 0) : StmtRest nl s ↔ WordOk nl s := by
  have hu := usesL_cases s
  rcases h with h | h
  · rw [rest_3 h hn]
    exact ⟨fun x => x.1, fun x => ⟨x, hz.2 (by omega), hz.1 (by omega)⟩⟩
  · rw [rest_4 h hn]
    exact ⟨fun x => x.1, fun x => ⟨x, hz.1 (by omega)⟩⟩
theorem rest_still {nl : Int} {s : Stm} (h : ¬ (s.op = 3 ∨ s.op = 4)) (hs : StmtRest nl s) : StillOk s := by
  unfold StmtRest at hs
  rcases hs with h' | h' | h' | h' | h'
  · exact h'.2.1
  · exact h'.2.2.1
  · exact absurd (.inl h'.1) h
  · exact absurd (.inr h'.1) h
  · exact h'.2.2.2
theorem rest_end {nl : Int} {s : Stm} (h : ¬ (s.op = 3 ∨ s.op = 4)) (hz : Zeros s) (hst : StillOk s) (hn : s.op = 1 ∨ s.n = 0) : StmtRest nl s ↔ (s.op = 1 ∨ s.op = 2 ∨ (11 ≤ s.op ∧ s.op ≤ 18)) := by
  have hu := usesL_cases s
  constructor
  · intro hs
    unfold StmtRest at hs
    rcases hs with h' | h' | h' | h' | h'
    · exact .inl h'.1
    · exact .inr (.inl h'.1)
    · exact absurd (.inl h'.1) h
    · exact absurd (.inr h'.1) h
    · exact .inr (.inr ⟨h'.1, h'.2.1⟩)
  · intro hs
    rcases hs with h' | h' | h'
    · exact (rest_1 h').2 ⟨hst, hz.2 (by omega), hz.1 (by omega)⟩
    · exact (rest_2 h' (by omega)).2 ⟨hst, hz.2 (by omega), hz.1 (by omega)⟩
    · exact (rest_5 (by omega) (by omega) (by omega) (by omega) (by omega)).2 ⟨hst, h'⟩
theorem op_sub10 {op : Int} (h : InR op) : (1 ≤ IntKind.i64.wrap (op - 10) ∧ IntKind.i64.wrap (op - 10) < 9) ↔ (11 ≤ op ∧ op ≤ 18) := by
  unfold InR at h
  rw [wrap_def]
  split <;> omega

def LogsTo (l : Lp) (i : Int) : Prop := ∀ j : Nat, (j : Int) < i → 0 ≤ l.logs.getD j 0 ∧ l.logs.getD j 0 ≤ 5
def OutsTo (l : Lp) (i : Int) : Prop := ∀ j : Nat, (j : Int) < i → 0 ≤ l.outs.getD j 0 ∧ l.outs.getD j 0 < l.body.length ∧ (∀ m : Nat, j = m + 1 → l.outs.getD m 0 < l.outs.getD j 0)
def BodyTo (l : Lp) (i : Int) : Prop := ∀ j : Nat, (j : Int) < i → StmtOk l.logs.length l.body.length j (l.body.getD j Stm.zero)
def LoopOk (l : Lp) : Prop := l.logs.length ≤ 3 ∧ 1 ≤ l.body.length ∧ l.body.length ≤ 16 ∧ LogsTo l l.logs.length ∧ OutsTo l l.outs.length ∧ BodyTo l l.body.length
theorem to_zero {p : Nat → Prop} : ∀ j : Nat, (j : Int) < 0 → p j := fun j hj => by omega
theorem to_next {p : Nat → Prop} {i : Int} (h : ∀ j : Nat, (j : Int) < i → p j) (h0 : 0 ≤ i) (hp : p i.toNat) : ∀ j : Nat, (j : Int) < i + 1 → p j := fun j hj => by
  by_cases e : (j : Int) < i
  · exact h j e
  · obtain rfl : j = i.toNat := by omega
    exact hp
def lastOut (l : Lp) (i : Int) : Int := if i = 0 then -1 else l.outs.getD (i - 1).toNat 0
theorem out_step {l : Lp} {i : Int} (h0 : 0 ≤ i) (h : OutsTo l i) : (lastOut l i + 1 ≤ l.outs.getD i.toNat 0 ∧ l.outs.getD i.toNat 0 < l.body.length) ↔
    (0 ≤ l.outs.getD i.toNat 0 ∧ l.outs.getD i.toNat 0 < l.body.length ∧ (∀ m : Nat, i.toNat = m + 1 → l.outs.getD m 0 < l.outs.getD i.toNat 0)) := by
  unfold lastOut
  split
  · subst i
    constructor
    · intro h'; exact ⟨by omega, h'.2, fun m hm => by simp at hm⟩
    · intro h'; exact ⟨by omega, h'.2.1⟩
  · rename_i hi
    have hp := h (i - 1).toNat (by omega)
    constructor
    · intro h'
      refine ⟨by omega, h'.2, fun m hm => ?_⟩
      obtain rfl : m = (i - 1).toNat := by omega
      omega
    · intro h'
      have := h'.2.2 (i - 1).toNat (by omega)
      exact ⟨by omega, h'.2.1⟩
theorem lastOut_bd {l : Lp} {i : Int} (h0 : 0 ≤ i) (h : OutsTo l i) : -1 ≤ lastOut l i ∧ lastOut l i + 1 ≤ l.body.length := by
  unfold lastOut
  split
  · exact ⟨by omega, by omega⟩
  · have hp := h (i - 1).toNat (by omega)
    exact ⟨by omega, by omega⟩
theorem lastOut_next {l : Lp} {i : Int} (h0 : 0 ≤ i) : lastOut l (i + 1) = l.outs.getD i.toNat 0 := by
  unfold lastOut
  rw [if_neg (by omega), show i + 1 - 1 = i from by omega]

def Stm.InR (s : Stm) : Prop := Rd.InR s.op ∧ Rd.InR s.a.st ∧ Rd.InR s.a.bk ∧ Rd.InR s.b.st ∧ Rd.InR s.b.bk ∧ Rd.InR s.ar ∧ Rd.InR s.sp ∧ Rd.InR s.pl ∧ Rd.InR s.n
structure LpRep (w : World) (v1 v2 v3 : Value) (l : Lp) : Prop where
  logs : Arr w v1 1 (l.logs.map icell)
  body : Arr w v2 9 (l.body.map Stm.cells)
  outs : Arr w v3 1 (l.outs.map icell)
  rlogs : ∀ x ∈ l.logs, InR x
  rbody : ∀ x ∈ l.body, x.InR
  routs : ∀ x ∈ l.outs, InR x
  llogs : l.logs.length ≤ maxLen
  lbody : l.body.length ≤ maxLen
  louts : l.outs.length ≤ maxLen
theorem tb_congr {p q : Prop} (h : p ↔ q) : tb p = tb q := by rw [propext h]
theorem LpRep.grow {w w' : World} {v1 v2 v3 : Value} {l : Lp} (h : LpRep w v1 v2 v3 l) (hg : Grow w w') : LpRep w' v1 v2 v3 l :=
  { h with logs := h.logs.grow hg, body := h.body.grow hg, outs := h.outs.grow hg }
def vcell (p : Value × List Int) : List Value := [p.1]
structure RowsRep (w : World) (v : Value) (B : List (Value × List Int)) : Prop where
  rows : Arr w v 1 (B.map vcell)
  each : ∀ p ∈ B, Arr w p.1 1 (p.2.map icell)
  rng : ∀ p ∈ B, ∀ x ∈ p.2, InR x
  lens : ∀ p ∈ B, p.2.length ≤ maxLen
  len : B.length ≤ maxLen
theorem RowsRep.grow {w w' : World} {v : Value} {B : List (Value × List Int)} (h : RowsRep w v B) (hg : Grow w w') : RowsRep w' v B :=
  { h with rows := h.rows.grow hg, each := fun p hp => (h.each p hp).grow hg }
def RowsK (k : World) (B : List (Value × List Int)) : Prop := ∀ p ∈ B, Arr k p.1 1 (p.2.map icell)
theorem RowsK.nil {k : World} : RowsK k [] := fun p hp => by cases hp
theorem RowsK.le {k k' : World} {B : List (Value × List Int)} (h : RowsK k B) (hl : Le k k') : RowsK k' B := fun p hp => (h p hp).le hl
theorem RowsRep.le {k k' : World} {v : Value} {B : List (Value × List Int)} (h : RowsRep k v B) (hl : Le k k') : RowsRep k' v B := { h with rows := h.rows.le hl, each := fun p hp => (h.each p hp).le hl }
theorem LpRep.le {w w' : World} {v1 v2 v3 : Value} {l : Lp} (h : LpRep w v1 v2 v3 l) (hl : Le w w') : LpRep w' v1 v2 v3 l := { h with logs := h.logs.le hl, body := h.body.le hl, outs := h.outs.le hl }
end Go.Rd
end

section
namespace Go.Rd
open Go.RowKit
set_option linter.unusedVariables false
def ck {α : Type} (c : Prop) [Decidable c] (x : Option α) : Option α := if c then x else none
theorem ck_some {α : Type} {c : Prop} [Decidable c] {x : Option α} {r : α} (h : ck c x = some r) : c ∧ x = some r := by
  unfold ck at h; split at h
  · exact ⟨‹_›, h⟩
  · cases h
theorem ck_yes {α : Type} {c : Prop} [Decidable c] {x : Option α} (h : c) : ck c x = x := if_pos h
def br {α : Type} (c : Bool) (a b : α) : α := bif c then a else b
theorem br_t {α : Type} {c : Bool} {a b r : α} (h : c = true) (hm : br c a b = r) : a = r := by subst h; exact hm
theorem br_f {α : Type} {c : Bool} {a b r : α} (h : c = false) (hm : br c a b = r) : b = r := by subst h; exact hm
@[simp] theorem br_true {α : Type} {a b : α} : br true a b = a := rfl
@[simp] theorem br_false {α : Type} {a b : α} : br false a b = b := rfl
def bd {α β : Type} (m : Option α) (k : α → Option β) : Option β := m.bind k
theorem bd_some {α β : Type} {m : Option α} {k : α → Option β} {r : β} (h : bd m k = some r) : ∃ x, m = some x ∧ k x = some r := by
  unfold bd at h
  cases m with
  | none => cases h
  | some x => exact ⟨x, rfl, h⟩
@[simp] theorem bd_ret {α β : Type} {x : α} {k : α → Option β} : bd (some x) k = k x := rfl
def bdG {α β : Type} [Inhabited α] (g : Bool) (m : Option α) (k : α → Option β) : Option β := br g (bd m k) (k default)
theorem bdG_some {α β : Type} [Inhabited α] {g : Bool} {m : Option α} {k : α → Option β} {r : β} (h : bdG g m k = some r) : ∃ x, (g = true → m = some x) ∧ k x = some r := by
  cases g with
  | true => obtain ⟨x, h1, h2⟩ := bd_some h; exact ⟨x, fun _ => h1, h2⟩
  | false => exact ⟨default, fun h => (by cases h), h⟩

inductive Stp (γ ρ : Type) where
  | next (g : γ)
  | brk (g : γ)
  | ret (r : ρ)
inductive Out (γ ρ : Type) where
  | go (g : γ)
  | ret (r : ρ)
def Out.on {γ ρ δ : Type} (o : Out γ ρ) (A : γ → δ) (B : ρ → δ) : δ :=
  match o with
  | .go g => A g
  | .ret r => B r
@[simp] theorem Out.on_go {γ ρ δ : Type} {g : γ} {A : γ → δ} {B : ρ → δ} : Out.on (.go g) A B = A g := rfl
@[simp] theorem Out.on_ret {γ ρ δ : Type} {r : ρ} {A : γ → δ} {B : ρ → δ} : Out.on (.ret r) A B = B r := rfl
def Stp.fin {γ ρ : Type} (s : Stp γ ρ) (k : γ → Option (Out γ ρ)) : Option (Out γ ρ) :=
  match s with
  | .next g => k g
  | .brk g => some (.go g)
  | .ret r => some (.ret r)
def iter {γ ρ : Type} (f : γ → Option (Stp γ ρ)) : Nat → γ → Option (Out γ ρ)
  | 0, _ => none
  | n + 1, g => bd (f g) fun s => s.fin (iter f n)
theorem iter_step {γ ρ : Type} {f : γ → Option (Stp γ ρ)} {n : Nat} {g : γ} {o : Out γ ρ} (h : iter f n g = some o) : ∃ m s, n = m + 1 ∧ f g = some s ∧ s.fin (iter f m) = some o := by
  cases n with
  | zero => cases h
  | succ m => obtain ⟨s, h1, h2⟩ := bd_some h; exact ⟨m, s, rfl, h1, h2⟩
theorem iter_det {γ ρ : Type} {f : γ → Option (Stp γ ρ)} : ∀ {n m : Nat} {g : γ} {o p : Out γ ρ}, iter f n g = some o → iter f m g = some p → o = p
  | 0, _, _, _, _, h, _ => by cases h
  | n + 1, 0, _, _, _, _, h => by cases h
  | n + 1, m + 1, g, o, p, h, h' => by
    obtain ⟨s, h1, h2⟩ := bd_some h
    obtain ⟨s', h1', h2'⟩ := bd_some h'
    rw [h1] at h1'; cases h1'
    cases s with
    | next g' => exact iter_det h2 h2'
    | brk g' => simp only [Stp.fin, Option.some.injEq] at h2 h2'; rw [← h2, h2']
    | ret r => simp only [Stp.fin, Option.some.injEq] at h2 h2'; rw [← h2, h2']
open Classical in
noncomputable def lp {γ ρ : Type} (f : γ → Option (Stp γ ρ)) (g : γ) : Option (Out γ ρ) := if h : ∃ n o, iter f n g = some o then some (Classical.choose (Classical.choose_spec h)) else none
theorem lp_of_iter {γ ρ : Type} {f : γ → Option (Stp γ ρ)} {g : γ} {n : Nat} {o : Out γ ρ} (h : iter f n g = some o) : lp f g = some o := by
  have hex : ∃ n o, iter f n g = some o := ⟨n, o, h⟩
  unfold lp
  rw [dif_pos hex]
  exact congrArg some (iter_det (Classical.choose_spec (Classical.choose_spec hex)) h)
theorem lp_some {γ ρ : Type} {f : γ → Option (Stp γ ρ)} {g : γ} {o : Out γ ρ} (h : lp f g = some o) : ∃ n, iter f n g = some o := by
  unfold lp at h
  split at h
  · rename_i hex
    have := Classical.choose_spec (Classical.choose_spec hex)
    cases h
    exact ⟨_, this⟩
  · cases h
theorem lp_next {γ ρ : Type} {f : γ → Option (Stp γ ρ)} {g g' : γ} (h : f g = some (.next g')) : lp f g = lp f g' := by
  cases ho : lp f g' with
  | some o =>
    obtain ⟨n, hn⟩ := lp_some ho
    exact lp_of_iter (n := n + 1) (by simp [iter, h, Stp.fin, hn])
  | none =>
    cases hq : lp f g with
    | none => rfl
    | some o =>
      obtain ⟨n, hn⟩ := lp_some hq
      obtain ⟨m, s, rfl, h1, h2⟩ := iter_step hn
      rw [h] at h1; cases h1
      rw [lp_of_iter h2] at ho; cases ho
theorem lp_brk {γ ρ : Type} {f : γ → Option (Stp γ ρ)} {g g' : γ} (h : f g = some (.brk g')) : lp f g = some (.go g') := lp_of_iter (n := 1) (by simp [iter, h, Stp.fin])
theorem lp_ret {γ ρ : Type} {f : γ → Option (Stp γ ρ)} {g : γ} {r : ρ} (h : f g = some (.ret r)) : lp f g = some (.ret r) := lp_of_iter (n := 1) (by simp [iter, h, Stp.fin])
theorem up_brk {γ ρ : Type} {s : Stp γ ρ} {k : γ → Option (Out γ ρ)} {g : γ} {o : Out γ ρ} (h : some (Stp.brk g) = some s) (hn : s.fin k = some o) : o = .go g := by cases h; cases hn; rfl
theorem up_ret {γ ρ : Type} {s : Stp γ ρ} {k : γ → Option (Out γ ρ)} {r : ρ} {o : Out γ ρ} (h : some (Stp.ret r) = some s) (hn : s.fin k = some o) : o = .ret r := by cases h; cases hn; rfl
theorem up_next {γ ρ : Type} {s : Stp γ ρ} {k : γ → Option (Out γ ρ)} {g : γ} {o : Out γ ρ} (h : some (Stp.next g) = some s) (hn : s.fin k = some o) : k g = some o := by cases h; exact hn
theorem eq_of_some {α : Type} {a b : α} (h : some a = some b) : b = a := by cases h; rfl

def IR (n : Int) : Prop := -9223372036854775808 ≤ n ∧ n ≤ 9223372036854775807
instance (n : Int) : Decidable (IR n) := by unfold IR; infer_instance
def IX (i n : Int) : Prop := 0 ≤ i ∧ i < n
instance (i n : Int) : Decidable (IX i n) := by unfold IX; infer_instance
def AL (n bytes : Nat) : Prop := n ≤ maxLen ∧ n * bytes ≤ 140737488355328
instance (n b : Nat) : Decidable (AL n b) := by unfold AL; infer_instance
def ln {α : Type} (xs : List α) : Int := xs.length
def ele {α : Type} [Inhabited α] (xs : List α) (i : Int) : α := xs.getD i.toNat default
def upd {α : Type} (xs : List α) (i : Int) (x : α) : List α := xs.set i.toNat x
def sub {α : Type} (xs : List α) (i j : Int) : List α := (xs.drop i.toNat).take (j - i).toNat

instance : Inhabited Rf := ⟨Rf.zero⟩
instance : Inhabited Stm := ⟨Stm.zero⟩
instance : Inhabited Lp := ⟨⟨[], [], []⟩⟩
instance : Inhabited Tgt := ⟨⟨0, 0, 0, 0, 0, 0, 0⟩⟩

theorem Base.rfl {w : World} : Base noM w w := fun a v h => ⟨h, fun x => x⟩
theorem SliceLen.ix {v : Value} {n : Nat} (h : SliceLen v n) {sz : Nat} {i m : Int} (hm : m = n) (hi : IX i m) : ∃ p, ElemP v i sz p := by subst hm; exact h.elem sz i hi.1 hi.2
theorem SliceLen.ixG {v : Value} {n : Nat} (h : SliceLen v n) {sz : Nat} {i m : Int} (hm : m = n) {g : Prop} (hi : g → IX i m) : ∃ p, g → ElemP v i sz p := by
  by_cases hg : g
  · obtain ⟨p, hp⟩ := h.ix hm (hi hg)
    exact ⟨p, fun _ => hp⟩
  · exact ⟨default, fun h => absurd h hg⟩
theorem Arr.ele {α : Type} [Inhabited α] {w : World} {v : Value} {sz : Nat} {xs : List α} {enc : α → List Value} {i : Int} {p : Addr} (h : Arr w v sz (xs.map enc)) (hp : ElemP v i sz p) (hi : IX i (ln xs)) : CellsAt w p (enc (ele xs i)) 0 := by
  refine h.row i.toNat _ p ?_ (by rwa [Int.toNat_of_nonneg hi.1])
  have hlt : i.toNat < xs.length := by have := hi.1; have := hi.2; unfold ln at this; omega
  simp [Rd.ele, List.getD_eq_getElem?_getD, List.getElem?_eq_getElem hlt]
theorem ln_len {α : Type} {xs : List α} : ln xs = (xs.length : Int) := rfl

section
variable {P : Program} {n : Nat} {ops : Array Oper} {Q : Exit → Act → World → Prop} {rest : List Oper} {oi : Oper} {σ : Env} {M : Nat → Prop} {w0 k0 k : World} {H : List Res} {v : Value} {d : Nat} {S : World → Prop}
theorem WL.q (hd : oi.dst = some d) (hg : oi.guard = none) (hn : Nat.blt d n = true) (hq : QV P oi σ (Own M w0 H) v) (kk : WK n (wpList P ops Q rest) ((d, (true, v)) :: σ) (Own M w0 H)) : WK n (wpList P ops Q (oi :: rest)) σ (Own M w0 H) :=
  WL.quiet Own.closed hd (by simpa [Nat.blt_eq] using hn) (hg ▸ GuardIs.none) (fun _ => hq) kk
theorem WL.g {G : Bool} (hd : oi.dst = some d) (hn : Nat.blt d n = true) (hG : GuardIs ops σ oi.guard G) (hq : G = true → QV P oi σ (Own M w0 H) v) (kk : WK n (wpList P ops Q rest) ((d, (G, v)) :: σ) (Own M w0 H)) : WK n (wpList P ops Q (oi :: rest)) σ (Own M w0 H) :=
  WL.quiet Own.closed hd (by simpa [Nat.blt_eq] using hn) hG hq kk

class POk (Q : Exit → Act → World → Prop) : Prop where
  ok : PanicOk Q
instance {fn : Func} {R : Ending → World → Prop} : POk (bodyPost P fn R) := ⟨PanicOk.body⟩
instance {K : Act → World → Prop} [h : POk Q] : POk (Exit.then K Q) := ⟨PanicOk.then h.ok⟩
instance {id : Nat} [h : POk Q] : POk (Exit.inBlock id Q) := ⟨PanicOk.block h.ok⟩

def upto (i m : Nat) : Array Bool := (Array.range m).map (fun j => Nat.blt j i)
theorem blt_succ {i j : Nat} (h : i ≠ j) : Nat.blt j (i + 1) = Nat.blt j i := by
  apply Bool.eq_iff_iff.2; rw [Nat.blt_eq, Nat.blt_eq]; omega
theorem upto_set {i m : Nat} : (upto i m).setIfInBounds i true = upto (i + 1) m := by
  have hs : ∀ i, (upto i m).size = m := fun i => by simp [upto]
  have hg : ∀ i j, (upto i m)[j]? = if j < m then some (Nat.blt j i) else none := fun i j => by
    by_cases h : j < m <;> simp [upto, h]
  apply Array.ext_getElem?
  intro j
  rw [Array.getElem?_setIfInBounds, hs, hg, hg]
  by_cases e : i = j
  · subst e
    have h5 : Nat.blt i (i + 1) = true := by rw [Nat.blt_eq]; omega
    simp [h5]
  · simp [e, blt_succ e]
theorem upto_zero {m : Nat} : Array.replicate m false = upto 0 m := by
  apply Array.ext
  · simp [upto]
  · intro j h1 h2
    simp only [upto, Array.getElem_replicate, Array.getElem_map, Array.getElem_range]
    cases j <;> rfl
def takeOk (ops : Array Oper) (i m : Nat) : Bool := Region.noSelect ops && Region.free .any ops (upto i m) i && (Region.ready .any ops (upto i m)).contains i
theorem WC.dr {id m : Nat} (hm : P.follows .mixedOrders = true) (hs : ops.size = m) (hCS : ∀ w, Own M w0 H w → S w) (h : WD P n ops Q S m (upto 0 m) σ (Own M w0 H)) : WK n ((Code.region id ops true).wp P Q) σ (Own M w0 H) := by
  subst hs; rw [← upto_zero] at h; exact WC.drawn hm Own.closed hCS h
theorem WD.q (i : Nat) {m fuel : Nat} [hQ : POk Q] (hi : ops[i]? = some oi) (ht : takeOk ops i m = true) (hd : oi.dst = some d) (hg : oi.guard = none) (hn : Nat.blt d n = true) (hq : QV P oi σ S v)
    (kk : WD P n ops Q S fuel (upto (i + 1) m) ((d, (true, v)) :: σ) (Own M w0 H)) : WD P n ops Q S (fuel + 1) (upto i m) σ (Own M w0 H) := by
  unfold takeOk at ht
  simp only [Bool.and_eq_true] at ht
  exact WD.take i hi ht.1.1 ht.1.2 ht.2 upto_set hQ.ok Own.closed hd (by simpa [Nat.blt_eq] using hn) (hg ▸ GuardIs.none) (fun _ => hq) kk
theorem WD.g (i : Nat) {m fuel : Nat} {G : Bool} [hQ : POk Q] (hi : ops[i]? = some oi) (ht : takeOk ops i m = true) (hd : oi.dst = some d) (hn : Nat.blt d n = true) (hG : GuardIs ops σ oi.guard G) (hq : G = true → QV P oi σ S v)
    (kk : WD P n ops Q S fuel (upto (i + 1) m) ((d, (G, v)) :: σ) (Own M w0 H)) : WD P n ops Q S (fuel + 1) (upto i m) σ (Own M w0 H) := by
  unfold takeOk at ht
  simp only [Bool.and_eq_true] at ht
  exact WD.take i hi ht.1.1 ht.1.2 ht.2 upto_set hQ.ok Own.closed hd (by simpa [Nat.blt_eq] using hn) hG hq kk
def onlyOk (ops : Array Oper) (i m : Nat) : Bool := Region.ready .any ops (upto i m) == [i]
theorem WD.o (i : Nat) {m fuel : Nat} (hi : ops[i]? = some oi) (ht : onlyOk ops i m = true) (hg : oi.guard = none)
    (h : EV P n oi σ (Own M w0 H) (fun a' w' => ∃ C' S' : World → Prop, Closed C' ∧ (∀ x, C' x → S' x) ∧ (∀ x, S' x → S x) ∧ C' w' ∧ wpAnyG P .any ops Q S' fuel (upto (i + 1) m) C' a') Q) : WD P n ops Q S (fuel + 1) (upto i m) σ (Own M w0 H) :=
  WD.only i hi (by unfold onlyOk at ht; exact beq_iff_eq.1 ht) upto_set hg h
theorem WD.b {l : Array Bool} {fuel : Nat} {τ : Env} {H' : List Res} (hs : ∀ w, Own M w0 H w → Own M w0 H' w) (hss : ∀ w, Own M w0 H' w → S w) (h : WD P n ops Q (Own M w0 H') fuel l τ (Own M w0 H)) :
    WK n (fun a' w' => ∃ C' S' : World → Prop, Closed C' ∧ (∀ x, C' x → S' x) ∧ (∀ x, S' x → S x) ∧ C' w' ∧ wpAnyG P .any ops Q S' fuel l C' a') τ (Own M w0 H) := WD.behind Own.closed hs hss h
def lst (m k : Nat) : Array Bool := (Array.range m).map (fun j => k.testBit j)
def takeOkL (ops : Array Oper) (i m k k' : Nat) : Bool := Region.noSelect ops && Region.free .any ops (lst m k) i && (Region.ready .any ops (lst m k)).contains i && ((lst m k).setIfInBounds i true == lst m k')
theorem WD.qL (i k k' : Nat) {m fuel : Nat} [hQ : POk Q] (hi : ops[i]? = some oi) (ht : takeOkL ops i m k k' = true) (hd : oi.dst = some d) (hg : oi.guard = none) (hn : Nat.blt d n = true) (hq : QV P oi σ S v)
    (kk : WD P n ops Q S fuel (lst m k') ((d, (true, v)) :: σ) (Own M w0 H)) : WD P n ops Q S (fuel + 1) (lst m k) σ (Own M w0 H) := by
  unfold takeOkL at ht
  simp only [Bool.and_eq_true] at ht
  exact WD.take i hi ht.1.1.1 ht.1.1.2 ht.1.2 (beq_iff_eq.1 ht.2) hQ.ok Own.closed hd (by simpa [Nat.blt_eq] using hn) (hg ▸ GuardIs.none) (fun _ => hq) kk
def onlyOkL (ops : Array Oper) (i m k k' : Nat) : Bool := Region.ready .any ops (lst m k) == [i] && ((lst m k).setIfInBounds i true == lst m k')
theorem WD.oL (i k k' : Nat) {m fuel : Nat} (hi : ops[i]? = some oi) (ht : onlyOkL ops i m k k' = true) (hg : oi.guard = none)
    (h : EV P n oi σ (Own M w0 H) (fun a' w' => ∃ C' S' : World → Prop, Closed C' ∧ (∀ x, C' x → S' x) ∧ (∀ x, S' x → S x) ∧ C' w' ∧ wpAnyG P .any ops Q S' fuel (lst m k') C' a') Q) : WD P n ops Q S (fuel + 1) (lst m k) σ (Own M w0 H) := by
  unfold onlyOkL at ht
  simp only [Bool.and_eq_true] at ht
  exact WD.only i hi (beq_iff_eq.1 ht.1) (beq_iff_eq.1 ht.2) hg h
theorem WD.eL {m k fuel : Nat} (hr : (Region.ready .any ops (lst m k) == []) = true) (kk : WK n (Q .normal) σ (Own M w0 H)) : WD P n ops Q S fuel (lst m k) σ (Own M w0 H) := WD.done (beq_iff_eq.1 hr) kk
theorem WD.toL {m i fuel : Nat} (k : Nat) (h : (upto i m == lst m k) = true) (kk : WD P n ops Q S fuel (lst m k) σ (Own M w0 H)) : WD P n ops Q S fuel (upto i m) σ (Own M w0 H) := by rw [beq_iff_eq.1 h]; exact kk
def lastOk (ops : Array Oper) (i m : Nat) : Bool := Region.ready .any ops (upto i m) == [i] && (match ops[i]? with | some oi => tailB ops oi (upto i m) | none => false) && Region.ready .any ops (upto (i + 1) m) == []
theorem WD.l (i : Nat) {m fuel : Nat} (hi : ops[i]? = some oi) (ht : lastOk ops i m = true) (hg : oi.guard = none) (h : EV P n oi σ (Own M w0 H) (Q .normal) Q) : WD P n ops Q S (fuel + 1) (upto i m) σ (Own M w0 H) := by
  unfold lastOk at ht
  rw [hi] at ht
  simp only [Bool.and_eq_true, beq_iff_eq] at ht
  exact WD.last i hi ht.1.1 ht.1.2 (by rw [upto_set]; exact ht.2) hg h
theorem WD.e {m fuel : Nat} (hr : (Region.ready .any ops (upto m m) == []) = true) (kk : WK n (Q .normal) σ (Own M w0 H)) : WD P n ops Q S fuel (upto m m) σ (Own M w0 H) := WD.done (beq_iff_eq.1 hr) kk
theorem WD.onlyG {C : World → Prop} (i : Nat) {G : Bool} {fuel : Nat} {listed listed' : Array Bool} (hi : ops[i]? = some oi) (hr : Region.ready .any ops listed = [i]) (hl : listed.setIfInBounds i true = listed')
    (hG : GuardIs ops σ oi.guard G) (hb : G = true) (h : EV P n oi σ C (fun a' w' => ∃ C' S' : World → Prop, Closed C' ∧ (∀ x, C' x → S' x) ∧ (∀ x, S' x → S x) ∧ C' w' ∧ wpAnyG P .any ops Q S' fuel listed' C' a') Q) : WD P n ops Q S (fuel + 1) listed σ C := fun hCS a ha => by
  subst hl
  intro _
  refine .inl ⟨fun h0 => (by rw [hr] at h0; cases h0), fun j hj w hw => ?_⟩
  rw [hr, List.mem_singleton] at hj
  subst hj
  unfold Go.wpOp
  simp only [hi]
  rw [if_pos ((wanted_eq _ _).trans ((hG n a ha).trans hb))]
  exact h a w ha hw
theorem WD.oG (i : Nat) {G : Bool} {m fuel : Nat} (hi : ops[i]? = some oi) (ht : onlyOk ops i m = true) (hG : GuardIs ops σ oi.guard G) (hb : G = true)
    (h : EV P n oi σ (Own M w0 H) (fun a' w' => ∃ C' S' : World → Prop, Closed C' ∧ (∀ x, C' x → S' x) ∧ (∀ x, S' x → S x) ∧ C' w' ∧ wpAnyG P .any ops Q S' fuel (upto (i + 1) m) C' a') Q) : WD P n ops Q S (fuel + 1) (upto i m) σ (Own M w0 H) :=
  WD.onlyG i hi (by unfold onlyOk at ht; exact beq_iff_eq.1 ht) upto_set hG hb h
theorem WL.effectG {C : World → Prop} {G : Bool} (hG : GuardIs ops σ oi.guard G) (hb : G = true) (h : EV P n oi σ C (wpList P ops Q rest) Q) : WK n (wpList P ops Q (oi :: rest)) σ C := fun a w ha hw => by
  unfold wpList
  rw [if_pos ((wanted_eq _ _).trans ((hG n a ha).trans hb))]
  exact h a w ha hw
theorem bothWays {p : Prop} (b : Bool) (ht : b = true → p) (hf : b = false → p) : p := by cases b with | true => exact ht rfl | false => exact hf rfl
end
end Go.Rd
end

section
namespace Go.Rd
open Go.RowKit
set_option linter.unusedVariables false
section
variable {P : Program} {n : Nat} {Q : Exit → Act → World → Prop} {σ : Env} {M : Nat → Prop} {w0 : World} {H : List Res} {id : Nat}
theorem WC.bloop {Γ : Type} (τ : Env) (S : Γ → Env) (R : Γ → List Res) {H2 : List Res} (I : Γ → Nat → Prop) (J : Γ → Prop) (g₀ : Γ) (n₀ : Nat) {c : Code} (h₀ : I g₀ n₀) (hs : Sub σ (S g₀ ++ τ)) (hd : ∀ w, Own M w0 H w → Own M w0 (R g₀ ++ H2) w)
    (rest : ∀ g, J g → WK n (Q .normal) (S g ++ τ) (Own M w0 (R g ++ H2)))
    (round : ∀ g m, I g m → WK n (c.wp P (Exit.then (fun a' w' => ∃ g' m', I g' m' ∧ m' < m ∧ Has n a' (S g' ++ τ) ∧ Own M w0 (R g' ++ H2) w') (Exit.inBlock id (Exit.then (fun a' w' => ∃ g', J g' ∧ Has n a' (S g' ++ τ) ∧ Own M w0 (R g' ++ H2) w') Q)))) (S g ++ τ) (Own M w0 (R g ++ H2))) :
    WK n ((Code.block id (Code.loop c)).wp P Q) σ (Own M w0 H) := by
  refine WC.block ?_
  have hl : WK n ((Code.loop c).wp P (Exit.inBlock id (Exit.then (fun a' w' => ∃ g', J g' ∧ Has n a' (S g' ++ τ) ∧ Own M w0 (R g' ++ H2) w') Q))) σ (Own M w0 H) :=
    WC.loop (Γ := Γ × Nat) (fun g => S g.1 ++ τ) (fun g => Own M w0 (R g.1 ++ H2)) (fun g => I g.1 g.2) (fun g => g.2) (g₀, n₀) h₀ hs hd fun g hg a w ha hw => by
      refine wp_mono (round g.1 g.2 hg a w ha hw) fun e a' w' h => ?_
      cases e <;> first | exact h | (obtain ⟨g', m', h1, h2, h3, h4⟩ := h; exact ⟨(g', m'), h1, h2, h3, h4⟩)
  have key : ∀ a w, Exit.then (fun a' w' => ∃ g', J g' ∧ Has n a' (S g' ++ τ) ∧ Own M w0 (R g' ++ H2) w') Q .normal a w → Q .normal a w := fun a w ⟨g', h1, h2, h3⟩ => rest g' h1 a w h2 h3
  intro a w ha hw
  refine wp_mono (hl a w ha hw) fun e a' w' h => ?_
  cases e with
  | exit j =>
    simp only [Exit.inBlock] at h ⊢
    split at h
    · rename_i hj; rw [if_pos hj]; exact key _ _ h
    · rename_i hj; rw [if_neg hj]; exact h
  | normal => exact key _ _ h
  | _ => exact h
theorem WC.joint {Γ : Type} (τ : Env) (S : Γ → Env) (R : Γ → List Res) {H2 : List Res} (J : Γ → Prop) {x y : Code} (hτ : Sub σ τ) (hd : ∀ w, Own M w0 H w → Own M w0 H2 w)
    (rest : ∀ g, J g → WK n (y.wp P Q) (S g ++ τ) (Own M w0 (R g ++ H2)))
    (hx : WK n (x.wp P (Exit.then (fun a' w' => ∃ g', J g' ∧ Has n a' (S g' ++ τ) ∧ Own M w0 (R g' ++ H2) w') Q)) σ (Own M w0 H)) : WK n (x.wp P (Exit.then (y.wp P Q) Q)) σ (Own M w0 H) := by
  intro a w ha hw
  refine wp_mono (hx a w ha hw) fun e a' w' h => ?_
  cases e with
  | normal => obtain ⟨g', h1, h2, h3⟩ := h; exact rest g' h1 a' w' h2 h3
  | _ => exact h

theorem WC.bloop1 {Γ0 : Type} (τ : Env) (S : Γ0 → Env) (R : Γ0 → List Res) {H2 : List Res} (I : Γ0 → Nat → Prop) (J : Γ0 → Prop) (i0 : Γ0) (n₀ : Nat) {c : Code} (h₀ : I i0 n₀) (hs : Sub σ (S i0 ++ τ)) (hd : ∀ w, Own M w0 H w → Own M w0 (R i0 ++ H2) w)
    (rest : ∀ g0, J g0 → WK n (Q .normal) (S g0 ++ τ) (Own M w0 (R g0 ++ H2)))
    (round : ∀ g0 m, I g0 m → WK n (c.wp P (Exit.then (fun a' w' => ∃ g0' m', I g0' m' ∧ m' < m ∧ Has n a' (S g0' ++ τ) ∧ Own M w0 (R g0' ++ H2) w') (Exit.inBlock id (Exit.then (fun a' w' => ∃ g0', J g0' ∧ Has n a' (S g0' ++ τ) ∧ Own M w0 (R g0' ++ H2) w') Q)))) (S g0 ++ τ) (Own M w0 (R g0 ++ H2))) :
    WK n ((Code.block id (Code.loop c)).wp P Q) σ (Own M w0 H) :=
  WC.bloop (Γ := Γ0) τ (fun g => S g) (fun g => R g) (fun g m => I g m) (fun g => J g) i0 n₀ h₀ hs hd (fun g h => rest g h) fun g m hg a w ha hw => by
    refine wp_mono (round g m hg a w ha hw) fun e a' w' h => ?_
    have key : ∀ a w, (fun a' w' => ∃ g0', J g0' ∧ Has n a' (S g0' ++ τ) ∧ Own M w0 (R g0' ++ H2) w') a w → (fun a' w' => ∃ g' : Γ0, J g' ∧ Has n a' (S g' ++ τ) ∧ Own M w0 (R g' ++ H2) w') a w := fun a w ⟨g0', h1, h2, h3⟩ => ⟨g0', h1, h2, h3⟩
    cases e with
    | normal => obtain ⟨g0', m', h1, h2, h3, h4⟩ := h; exact ⟨g0', m', h1, h2, h3, h4⟩
    | exit j =>
      simp only [Exit.then, Exit.inBlock] at h ⊢
      split at h
      · rename_i hj; rw [if_pos hj]; exact key _ _ h
      · rename_i hj; rw [if_neg hj]; exact h
    | _ => exact h
theorem WQ.again1 {Γ0 : Type} {S : Γ0 → Env} {R : Γ0 → List Res} {H2 : List Res} {I : Γ0 → Nat → Prop} {m : Nat} {τ : Env} (i0 : Γ0) (m' : Nat) (hI : I i0 m') (hm : m' < m) (hs : Sub σ (S i0 ++ τ)) (hd : ∀ w, Own M w0 H w → Own M w0 (R i0 ++ H2) w) :
    WK n (Exit.then (fun a' w' => ∃ g0' m', I g0' m' ∧ m' < m ∧ Has n a' (S g0' ++ τ) ∧ Own M w0 (R g0' ++ H2) w') Q .normal) σ (Own M w0 H) := fun a w ha hw => ⟨i0, m', hI, hm, ha.sub hs, hd w hw⟩
theorem WQ.out1 {Γ0 : Type} {S : Γ0 → Env} {R : Γ0 → List Res} {H2 : List Res} {J : Γ0 → Prop} {τ : Env} (i0 : Γ0) (hJ : J i0) (hs : Sub σ (S i0 ++ τ)) (hd : ∀ w, Own M w0 H w → Own M w0 (R i0 ++ H2) w) :
    WK n (Exit.then (fun a' w' => ∃ g0', J g0' ∧ Has n a' (S g0' ++ τ) ∧ Own M w0 (R g0' ++ H2) w') Q .normal) σ (Own M w0 H) := fun a w ha hw => ⟨i0, hJ, ha.sub hs, hd w hw⟩
theorem WC.joint1 {Γ0 : Type} (τ : Env) (S : Γ0 → Env) (R : Γ0 → List Res) {H2 : List Res} (J : Γ0 → Prop) {x y : Code} (hτ : Sub σ τ) (hd : ∀ w, Own M w0 H w → Own M w0 H2 w)
    (rest : ∀ g0, J g0 → WK n (y.wp P Q) (S g0 ++ τ) (Own M w0 (R g0 ++ H2)))
    (hx : WK n (x.wp P (Exit.then (fun a' w' => ∃ g0', J g0' ∧ Has n a' (S g0' ++ τ) ∧ Own M w0 (R g0' ++ H2) w') Q)) σ (Own M w0 H)) : WK n (x.wp P (Exit.then (y.wp P Q) Q)) σ (Own M w0 H) :=
  WC.joint (Γ := Γ0) τ (fun g => S g) (fun g => R g) (fun g => J g) hτ hd (fun g h => rest g h) fun a w ha hw => by
    refine wp_mono (hx a w ha hw) fun e a' w' h => ?_
    cases e with
    | normal => obtain ⟨g0', h1, h2, h3⟩ := h; exact ⟨g0', h1, h2, h3⟩
    | _ => exact h
theorem WC.bloop2 {Γ0 : Type} {Γ1 : Type} (τ : Env) (S : Γ0 → Γ1 → Env) (R : Γ0 → Γ1 → List Res) {H2 : List Res} (I : Γ0 → Γ1 → Nat → Prop) (J : Γ0 → Γ1 → Prop) (i0 : Γ0) (i1 : Γ1) (n₀ : Nat) {c : Code} (h₀ : I i0 i1 n₀) (hs : Sub σ (S i0 i1 ++ τ)) (hd : ∀ w, Own M w0 H w → Own M w0 (R i0 i1 ++ H2) w)
    (rest : ∀ g0 g1, J g0 g1 → WK n (Q .normal) (S g0 g1 ++ τ) (Own M w0 (R g0 g1 ++ H2)))
    (round : ∀ g0 g1 m, I g0 g1 m → WK n (c.wp P (Exit.then (fun a' w' => ∃ g0' g1' m', I g0' g1' m' ∧ m' < m ∧ Has n a' (S g0' g1' ++ τ) ∧ Own M w0 (R g0' g1' ++ H2) w') (Exit.inBlock id (Exit.then (fun a' w' => ∃ g0' g1', J g0' g1' ∧ Has n a' (S g0' g1' ++ τ) ∧ Own M w0 (R g0' g1' ++ H2) w') Q)))) (S g0 g1 ++ τ) (Own M w0 (R g0 g1 ++ H2))) :
    WK n ((Code.block id (Code.loop c)).wp P Q) σ (Own M w0 H) :=
  WC.bloop (Γ := Γ0 × Γ1) τ (fun g => S (g.1) (g.2)) (fun g => R (g.1) (g.2)) (fun g m => I (g.1) (g.2) m) (fun g => J (g.1) (g.2)) (i0, i1) n₀ h₀ hs hd (fun g h => rest (g.1) (g.2) h) fun g m hg a w ha hw => by
    refine wp_mono (round (g.1) (g.2) m hg a w ha hw) fun e a' w' h => ?_
    have key : ∀ a w, (fun a' w' => ∃ g0' g1', J g0' g1' ∧ Has n a' (S g0' g1' ++ τ) ∧ Own M w0 (R g0' g1' ++ H2) w') a w → (fun a' w' => ∃ g' : Γ0 × Γ1, J (g'.1) (g'.2) ∧ Has n a' (S (g'.1) (g'.2) ++ τ) ∧ Own M w0 (R (g'.1) (g'.2) ++ H2) w') a w := fun a w ⟨g0', g1', h1, h2, h3⟩ => ⟨(g0', g1'), h1, h2, h3⟩
    cases e with
    | normal => obtain ⟨g0', g1', m', h1, h2, h3, h4⟩ := h; exact ⟨(g0', g1'), m', h1, h2, h3, h4⟩
    | exit j =>
      simp only [Exit.then, Exit.inBlock] at h ⊢
      split at h
      · rename_i hj; rw [if_pos hj]; exact key _ _ h
      · rename_i hj; rw [if_neg hj]; exact h
    | _ => exact h
theorem WQ.again2 {Γ0 : Type} {Γ1 : Type} {S : Γ0 → Γ1 → Env} {R : Γ0 → Γ1 → List Res} {H2 : List Res} {I : Γ0 → Γ1 → Nat → Prop} {m : Nat} {τ : Env} (i0 : Γ0) (i1 : Γ1) (m' : Nat) (hI : I i0 i1 m') (hm : m' < m) (hs : Sub σ (S i0 i1 ++ τ)) (hd : ∀ w, Own M w0 H w → Own M w0 (R i0 i1 ++ H2) w) :
    WK n (Exit.then (fun a' w' => ∃ g0' g1' m', I g0' g1' m' ∧ m' < m ∧ Has n a' (S g0' g1' ++ τ) ∧ Own M w0 (R g0' g1' ++ H2) w') Q .normal) σ (Own M w0 H) := fun a w ha hw => ⟨i0, i1, m', hI, hm, ha.sub hs, hd w hw⟩
theorem WQ.out2 {Γ0 : Type} {Γ1 : Type} {S : Γ0 → Γ1 → Env} {R : Γ0 → Γ1 → List Res} {H2 : List Res} {J : Γ0 → Γ1 → Prop} {τ : Env} (i0 : Γ0) (i1 : Γ1) (hJ : J i0 i1) (hs : Sub σ (S i0 i1 ++ τ)) (hd : ∀ w, Own M w0 H w → Own M w0 (R i0 i1 ++ H2) w) :
    WK n (Exit.then (fun a' w' => ∃ g0' g1', J g0' g1' ∧ Has n a' (S g0' g1' ++ τ) ∧ Own M w0 (R g0' g1' ++ H2) w') Q .normal) σ (Own M w0 H) := fun a w ha hw => ⟨i0, i1, hJ, ha.sub hs, hd w hw⟩
theorem WC.bloop3 {Γ0 : Type} {Γ1 : Type} {Γ2 : Type} (τ : Env) (S : Γ0 → Γ1 → Γ2 → Env) (R : Γ0 → Γ1 → Γ2 → List Res) {H2 : List Res} (I : Γ0 → Γ1 → Γ2 → Nat → Prop) (J : Γ0 → Γ1 → Γ2 → Prop) (i0 : Γ0) (i1 : Γ1) (i2 : Γ2) (n₀ : Nat) {c : Code} (h₀ : I i0 i1 i2 n₀) (hs : Sub σ (S i0 i1 i2 ++ τ)) (hd : ∀ w, Own M w0 H w → Own M w0 (R i0 i1 i2 ++ H2) w)
    (rest : ∀ g0 g1 g2, J g0 g1 g2 → WK n (Q .normal) (S g0 g1 g2 ++ τ) (Own M w0 (R g0 g1 g2 ++ H2)))
    (round : ∀ g0 g1 g2 m, I g0 g1 g2 m → WK n (c.wp P (Exit.then (fun a' w' => ∃ g0' g1' g2' m', I g0' g1' g2' m' ∧ m' < m ∧ Has n a' (S g0' g1' g2' ++ τ) ∧ Own M w0 (R g0' g1' g2' ++ H2) w') (Exit.inBlock id (Exit.then (fun a' w' => ∃ g0' g1' g2', J g0' g1' g2' ∧ Has n a' (S g0' g1' g2' ++ τ) ∧ Own M w0 (R g0' g1' g2' ++ H2) w') Q)))) (S g0 g1 g2 ++ τ) (Own M w0 (R g0 g1 g2 ++ H2))) :
    WK n ((Code.block id (Code.loop c)).wp P Q) σ (Own M w0 H) :=
  WC.bloop (Γ := Γ0 × Γ1 × Γ2) τ (fun g => S (g.1) (g.2.1) (g.2.2)) (fun g => R (g.1) (g.2.1) (g.2.2)) (fun g m => I (g.1) (g.2.1) (g.2.2) m) (fun g => J (g.1) (g.2.1) (g.2.2)) (i0, i1, i2) n₀ h₀ hs hd (fun g h => rest (g.1) (g.2.1) (g.2.2) h) fun g m hg a w ha hw => by
    refine wp_mono (round (g.1) (g.2.1) (g.2.2) m hg a w ha hw) fun e a' w' h => ?_
    have key : ∀ a w, (fun a' w' => ∃ g0' g1' g2', J g0' g1' g2' ∧ Has n a' (S g0' g1' g2' ++ τ) ∧ Own M w0 (R g0' g1' g2' ++ H2) w') a w → (fun a' w' => ∃ g' : Γ0 × Γ1 × Γ2, J (g'.1) (g'.2.1) (g'.2.2) ∧ Has n a' (S (g'.1) (g'.2.1) (g'.2.2) ++ τ) ∧ Own M w0 (R (g'.1) (g'.2.1) (g'.2.2) ++ H2) w') a w := fun a w ⟨g0', g1', g2', h1, h2, h3⟩ => ⟨(g0', g1', g2'), h1, h2, h3⟩
    cases e with
    | normal => obtain ⟨g0', g1', g2', m', h1, h2, h3, h4⟩ := h; exact ⟨(g0', g1', g2'), m', h1, h2, h3, h4⟩
    | exit j =>
      simp only [Exit.then, Exit.inBlock] at h ⊢
      split at h
      · rename_i hj; rw [if_pos hj]; exact key _ _ h
      · rename_i hj; rw [if_neg hj]; exact h
    | _ => exact h
theorem WQ.again3 {Γ0 : Type} {Γ1 : Type} {Γ2 : Type} {S : Γ0 → Γ1 → Γ2 → Env} {R : Γ0 → Γ1 → Γ2 → List Res} {H2 : List Res} {I : Γ0 → Γ1 → Γ2 → Nat → Prop} {m : Nat} {τ : Env} (i0 : Γ0) (i1 : Γ1) (i2 : Γ2) (m' : Nat) (hI : I i0 i1 i2 m') (hm : m' < m) (hs : Sub σ (S i0 i1 i2 ++ τ)) (hd : ∀ w, Own M w0 H w → Own M w0 (R i0 i1 i2 ++ H2) w) :
    WK n (Exit.then (fun a' w' => ∃ g0' g1' g2' m', I g0' g1' g2' m' ∧ m' < m ∧ Has n a' (S g0' g1' g2' ++ τ) ∧ Own M w0 (R g0' g1' g2' ++ H2) w') Q .normal) σ (Own M w0 H) := fun a w ha hw => ⟨i0, i1, i2, m', hI, hm, ha.sub hs, hd w hw⟩
theorem WQ.out3 {Γ0 : Type} {Γ1 : Type} {Γ2 : Type} {S : Γ0 → Γ1 → Γ2 → Env} {R : Γ0 → Γ1 → Γ2 → List Res} {H2 : List Res} {J : Γ0 → Γ1 → Γ2 → Prop} {τ : Env} (i0 : Γ0) (i1 : Γ1) (i2 : Γ2) (hJ : J i0 i1 i2) (hs : Sub σ (S i0 i1 i2 ++ τ)) (hd : ∀ w, Own M w0 H w → Own M w0 (R i0 i1 i2 ++ H2) w) :
    WK n (Exit.then (fun a' w' => ∃ g0' g1' g2', J g0' g1' g2' ∧ Has n a' (S g0' g1' g2' ++ τ) ∧ Own M w0 (R g0' g1' g2' ++ H2) w') Q .normal) σ (Own M w0 H) := fun a w ha hw => ⟨i0, i1, i2, hJ, ha.sub hs, hd w hw⟩
theorem WC.bloop4 {Γ0 : Type} {Γ1 : Type} {Γ2 : Type} {Γ3 : Type} (τ : Env) (S : Γ0 → Γ1 → Γ2 → Γ3 → Env) (R : Γ0 → Γ1 → Γ2 → Γ3 → List Res) {H2 : List Res} (I : Γ0 → Γ1 → Γ2 → Γ3 → Nat → Prop) (J : Γ0 → Γ1 → Γ2 → Γ3 → Prop) (i0 : Γ0) (i1 : Γ1) (i2 : Γ2) (i3 : Γ3) (n₀ : Nat) {c : Code} (h₀ : I i0 i1 i2 i3 n₀) (hs : Sub σ (S i0 i1 i2 i3 ++ τ)) (hd : ∀ w, Own M w0 H w → Own M w0 (R i0 i1 i2 i3 ++ H2) w)
    (rest : ∀ g0 g1 g2 g3, J g0 g1 g2 g3 → WK n (Q .normal) (S g0 g1 g2 g3 ++ τ) (Own M w0 (R g0 g1 g2 g3 ++ H2)))
    (round : ∀ g0 g1 g2 g3 m, I g0 g1 g2 g3 m → WK n (c.wp P (Exit.then (fun a' w' => ∃ g0' g1' g2' g3' m', I g0' g1' g2' g3' m' ∧ m' < m ∧ Has n a' (S g0' g1' g2' g3' ++ τ) ∧ Own M w0 (R g0' g1' g2' g3' ++ H2) w') (Exit.inBlock id (Exit.then (fun a' w' => ∃ g0' g1' g2' g3', J g0' g1' g2' g3' ∧ Has n a' (S g0' g1' g2' g3' ++ τ) ∧ Own M w0 (R g0' g1' g2' g3' ++ H2) w') Q)))) (S g0 g1 g2 g3 ++ τ) (Own M w0 (R g0 g1 g2 g3 ++ H2))) :
    WK n ((Code.block id (Code.loop c)).wp P Q) σ (Own M w0 H) :=
  WC.bloop (Γ := Γ0 × Γ1 × Γ2 × Γ3) τ (fun g => S (g.1) (g.2.1) (g.2.2.1) (g.2.2.2)) (fun g => R (g.1) (g.2.1) (g.2.2.1) (g.2.2.2)) (fun g m => I (g.1) (g.2.1) (g.2.2.1) (g.2.2.2) m) (fun g => J (g.1) (g.2.1) (g.2.2.1) (g.2.2.2)) (i0, i1, i2, i3) n₀ h₀ hs hd (fun g h => rest (g.1) (g.2.1) (g.2.2.1) (g.2.2.2) h) fun g m hg a w ha hw => by
    refine wp_mono (round (g.1) (g.2.1) (g.2.2.1) (g.2.2.2) m hg a w ha hw) fun e a' w' h => ?_
    have key : ∀ a w, (fun a' w' => ∃ g0' g1' g2' g3', J g0' g1' g2' g3' ∧ Has n a' (S g0' g1' g2' g3' ++ τ) ∧ Own M w0 (R g0' g1' g2' g3' ++ H2) w') a w → (fun a' w' => ∃ g' : Γ0 × Γ1 × Γ2 × Γ3, J (g'.1) (g'.2.1) (g'.2.2.1) (g'.2.2.2) ∧ Has n a' (S (g'.1) (g'.2.1) (g'.2.2.1) (g'.2.2.2) ++ τ) ∧ Own M w0 (R (g'.1) (g'.2.1) (g'.2.2.1) (g'.2.2.2) ++ H2) w') a w := fun a w ⟨g0', g1', g2', g3', h1, h2, h3⟩ => ⟨(g0', g1', g2', g3'), h1, h2, h3⟩
    cases e with
    | normal => obtain ⟨g0', g1', g2', g3', m', h1, h2, h3, h4⟩ := h; exact ⟨(g0', g1', g2', g3'), m', h1, h2, h3, h4⟩
    | exit j =>
      simp only [Exit.then, Exit.inBlock] at h ⊢
      split at h
      · rename_i hj; rw [if_pos hj]; exact key _ _ h
      · rename_i hj; rw [if_neg hj]; exact h
    | _ => exact h
theorem WQ.again4 {Γ0 : Type} {Γ1 : Type} {Γ2 : Type} {Γ3 : Type} {S : Γ0 → Γ1 → Γ2 → Γ3 → Env} {R : Γ0 → Γ1 → Γ2 → Γ3 → List Res} {H2 : List Res} {I : Γ0 → Γ1 → Γ2 → Γ3 → Nat → Prop} {m : Nat} {τ : Env} (i0 : Γ0) (i1 : Γ1) (i2 : Γ2) (i3 : Γ3) (m' : Nat) (hI : I i0 i1 i2 i3 m') (hm : m' < m) (hs : Sub σ (S i0 i1 i2 i3 ++ τ)) (hd : ∀ w, Own M w0 H w → Own M w0 (R i0 i1 i2 i3 ++ H2) w) :
    WK n (Exit.then (fun a' w' => ∃ g0' g1' g2' g3' m', I g0' g1' g2' g3' m' ∧ m' < m ∧ Has n a' (S g0' g1' g2' g3' ++ τ) ∧ Own M w0 (R g0' g1' g2' g3' ++ H2) w') Q .normal) σ (Own M w0 H) := fun a w ha hw => ⟨i0, i1, i2, i3, m', hI, hm, ha.sub hs, hd w hw⟩
theorem WQ.out4 {Γ0 : Type} {Γ1 : Type} {Γ2 : Type} {Γ3 : Type} {S : Γ0 → Γ1 → Γ2 → Γ3 → Env} {R : Γ0 → Γ1 → Γ2 → Γ3 → List Res} {H2 : List Res} {J : Γ0 → Γ1 → Γ2 → Γ3 → Prop} {τ : Env} (i0 : Γ0) (i1 : Γ1) (i2 : Γ2) (i3 : Γ3) (hJ : J i0 i1 i2 i3) (hs : Sub σ (S i0 i1 i2 i3 ++ τ)) (hd : ∀ w, Own M w0 H w → Own M w0 (R i0 i1 i2 i3 ++ H2) w) :
    WK n (Exit.then (fun a' w' => ∃ g0' g1' g2' g3', J g0' g1' g2' g3' ∧ Has n a' (S g0' g1' g2' g3' ++ τ) ∧ Own M w0 (R g0' g1' g2' g3' ++ H2) w') Q .normal) σ (Own M w0 H) := fun a w ha hw => ⟨i0, i1, i2, i3, hJ, ha.sub hs, hd w hw⟩
end
end Go.Rd
end

section
namespace Go.Rd
open Go.RowKit
set_option linter.unusedVariables false
theorem wrap_in {n : Int} (h : IR n) : Value.int .i64 (IntKind.i64.wrap n) = .int .i64 n := by rw [wrap_i64 h.1 h.2]
def bitAnd (i j : Int) : Int := IntKind.i64.wrap (BitVec.ofInt 64 i &&& BitVec.ofInt 64 j).toNat
def shlD (i j : Int) : Int := IntKind.i64.wrap (i * 2 ^ (min j.toNat 64))
def SX (i j n : Int) : Prop := 0 ≤ i ∧ i ≤ j ∧ j ≤ n
instance (i j n : Int) : Decidable (SX i j n) := by unfold SX; infer_instance
def SL (l : List UInt8) : Prop := l.length ≤ 9223372036854775807
instance (l : List UInt8) : Decidable (SL l) := by unfold SL; infer_instance
section
variable {P : Program} {n : Nat} {σ : Env} {C : World → Prop} {d : Option Tmp} {T U E D z : TypeId} {pos : String} {after : Array Edge} {gd : Option (Nat × Bool)} {x y lo hi : Operand} {g g' g'' : Bool} {v : Value} {i j : Int} {a b : List UInt8} {sz m : Nat}
theorem QV.shlD {k' : IntKind} (hx : σ.ev x = some (g, .int .i64 i)) (hg : g = true) (hy : σ.ev y = some (g', .int k' j)) (hg' : g' = true) (h0 : 0 ≤ j) : QV P ⟨d, .binOp .shl U x y z, T, pos, after, gd⟩ σ C (.int .i64 (shlD i j)) := QV.shlW hx hg hy hg' h0
theorem QV.quo (hx : σ.ev x = some (g, .int .i64 i)) (hg : g = true) (hy : σ.ev y = some (g', .int .i64 j)) (hg' : g' = true) (h0 : j ≠ 0) (hr : IR (i.tdiv j)) : QV P ⟨d, .binOp .quo U x y z, T, pos, after, gd⟩ σ C (.int .i64 (i.tdiv j)) :=
  QV.eqv (wrap_in hr) (QV.quoW hx hg hy hg' h0)
theorem QV.neg (hx : σ.ev x = some (g, .int .i64 i)) (hg : g = true) (hr : IR (-i)) : QV P ⟨d, .unOp .neg U x, T, pos, after, gd⟩ σ C (.int .i64 (-i)) := .of_run fun n a ha w hw => by
  have e : (0 : Int) - i = -i := by omega
  simp [execOp, ha.ev hx hg, Op.unary, Op.intArith, wrap_i64 hr.1 hr.2]
theorem QV.max2 {ats : Array TypeId} {k : IntKind} (hx : σ.ev x = some (g, .int k i)) (hg : g = true) (hy : σ.ev y = some (g', .int k j)) (hg' : g' = true) : QV P ⟨d, .call ⟨.builtin .max, #[x, y], ats⟩, T, pos, after, gd⟩ σ C (.int k (max i j)) := .of_run fun n a ha w hw => by
  have e : (if j > i then j else i) = max i j := by split <;> omega
  simp [execOp, resolve, invoke, builtin, ha.ev hx hg, ha.ev hy hg', Builtin.max_, Builtin.max2, List.foldlM, e]
theorem QV.sliceHd {k' : IntKind} {α : Type} {xs : List α} (hT : SliceT P U E sz) (hx : σ.ev x = some (g, v)) (hg : g = true) (hl : SliceLen v xs.length) (hhi : σ.ev hi = some (g'', .int k' j)) (hg'' : g'' = true)
    (h : SX 0 j (ln xs)) : QV P ⟨d, .slice U x none (some hi) none, T, pos, after, gd⟩ σ C (subS v sz (0 : Int).toNat j.toNat) := QV.sliceH hT hx hg hl hhi hg'' h.2.1 h.2.2
theorem QV.sliceLd {k : IntKind} {α : Type} {xs : List α} (hT : SliceT P U E sz) (hx : σ.ev x = some (g, v)) (hg : g = true) (hl : SliceLen v xs.length) (hlo : σ.ev lo = some (g', .int k i)) (hg' : g' = true)
    (h : SX i (ln xs) (ln xs)) : QV P ⟨d, .slice U x (some lo) none none, T, pos, after, gd⟩ σ C (subS v sz i.toNat (ln xs).toNat) := QV.sliceL hT hx hg hl hlo hg' h.1 (show i ≤ (xs.length : Int) from h.2.1)
theorem subS_sub {α : Type} {enc : α → List Value} {w : World} {v : Value} {i j : Int} {sz : Nat} {xs : List α} (hv : Arr w v sz (xs.map enc)) (h : SX i j (ln xs)) : Arr w (subS v sz i.toNat j.toNat) sz ((sub xs i j).map enc) := by
  have h1 := h.1; have h2 := h.2.1; have h3 := h.2.2
  unfold ln at h3
  have := subS_map hv (l := i.toNat) (h := j.toNat) (by omega) (by omega)
  rwa [show j.toNat - i.toNat = (j - i).toNat from by omega] at this

end
def fillL (place : Nat → Option (Nat × Nat)) (cells : Array Value) : List (Nat × List Value) → Option (Array Value)
  | [] => some cells
  | (i, v) :: rest =>
    match place i with
    | none => none
    | some (off, size) =>
      if v.length ≠ size || off + v.length > cells.size then none
      else fillL place (v.toArray.zipIdx.foldl (fun cs (c, j) => cs.setIfInBounds (off + j) c) cells) rest
def builtL (P : Program) (t : TypeId) (parts : List (Nat × List Value)) : Option (Array Value) :=
  match P.info? t, P.underlying t with
  | some it, some (.array _ e) =>
    match it.zero, P.info? e with
    | some z, some ie => fillL (fun i => some (i * ie.size, ie.size)) z.cells parts
    | _, _ => none
  | some it, some (.struct fields) =>
    match it.zero, fields.toList.mapM (fun f => (P.info? f.type).map fun i => (f.offset, i.size)) with
    | some z, some places => fillL (places.toArray[·]?) z.cells parts
    | _, _ => none
  | _, _ => none
def CellsAll : List Value → List (List Value) → Prop
  | [], [] => True
  | v :: vs, c :: cs => v.cells = c.toArray ∧ CellsAll vs cs
  | _, _ => False
theorem CellsAll.nil : CellsAll [] [] := trivial
theorem CellsAll.cons {v : Value} {c : List Value} {vs : List Value} {cs : List (List Value)} (h : v.cells = c.toArray) (k : CellsAll vs cs) : CellsAll (v :: vs) (c :: cs) := ⟨h, k⟩
theorem fill_eq {place : Nat → Option (Nat × Nat)} : ∀ (is : List Nat) {vs : List Value} {css : List (List Value)} (cells : Array Value), CellsAll vs css → Instr.fill place cells (is.zip vs) = fillL place cells (is.zip css)
  | _, [], [], cells, _ => by simp [Instr.fill, fillL]
  | [], _ :: _, _ :: _, cells, _ => by simp [Instr.fill, fillL]
  | i :: is, v :: vs, c :: cs, cells, ⟨h, k⟩ => by
    simp only [List.zip_cons_cons, Instr.fill, fillL]
    cases place i with
    | none => rfl
    | some p =>
      obtain ⟨off, size⟩ := p
      simp only [h, List.size_toArray]
      rw [fill_eq is _ k]
theorem built_eq {P : Program} {t : TypeId} {is : List Nat} {vs : List Value} {css : List (List Value)} (h : CellsAll vs css) : P.built t (is.zip vs) = builtL P t (is.zip css) := by
  unfold Program.built builtL
  cases P.info? t with
  | none => rfl
  | some it =>
    cases P.underlying t with
    | none => rfl
    | some dd => cases dd <;> first | rfl | (simp only [fill_eq is _ h]; rfl)
theorem QV.buildS {P : Program} {σ : Env} {C : World → Prop} {d : Option Tmp} {T U : TypeId} {pos : String} {after : Array Edge} {gd : Option (Nat × Bool)} {ps : List (Nat × Operand)} {vs cells : List Value} {css : List (List Value)} (hv : EvAll σ (ps.map (·.2)) vs) (hc : CellsAll vs css) (hb : builtL P U ((ps.map (·.1)).zip css) = some cells.toArray) :
    QV P ⟨d, .build U ps.toArray, T, pos, after, gd⟩ σ C (.agg cells.toArray) := QV.build hv (by rw [built_eq hc]; exact hb)

def RowsA (w : World) (v : Value) (xss : List (List Int)) : Prop := ∃ B : List (Value × List Int), B.map (·.2) = xss ∧ Arr w v 1 (B.map vcell) ∧ RowsK w B
theorem RowsA.le {k k' : World} {v : Value} {xss : List (List Int)} (h : RowsA k v xss) (hl : Le k k') : RowsA k' v xss := by
  obtain ⟨B, h1, h2, h3⟩ := h; exact ⟨B, h1, h2.le hl, h3.le hl⟩
theorem RowsA.ix {w : World} {v : Value} {xss : List (List Int)} (h : RowsA w v xss) {i : Int} (hi : IX i (ln xss)) : ∃ p u, ElemP v i 1 p ∧ CellsAt w p [u] 0 ∧ Arr w u 1 ((ele xss i).map icell) := by
  obtain ⟨B, rfl, h2, h3⟩ := h
  have h0 := hi.1; have h1 := hi.2
  unfold ln at h1
  rw [List.length_map] at h1
  have hlt : i.toNat < B.length := by omega
  obtain ⟨p, hp⟩ := h2.lenMap.elem 1 i h0 h1
  refine ⟨p, (B[i.toNat]).1, hp, ?_, ?_⟩
  · have := h2.row i.toNat (vcell B[i.toNat]) p (by simp [List.getElem?_eq_getElem hlt]) (by rwa [Int.toNat_of_nonneg h0])
    exact this
  · have := h3 B[i.toNat] (List.getElem_mem hlt)
    have e : ele (B.map (·.2)) i = (B[i.toNat]).2 := by simp [ele, List.getD_eq_getElem?_getD, List.getElem?_eq_getElem hlt]
    rw [e]; exact this
theorem RowsA.ixG {w : World} {v : Value} {xss : List (List Int)} (h : RowsA w v xss) {i : Int} {g : Prop} (hi : g → IX i (ln xss)) : ∃ p u, (g → ElemP v i 1 p) ∧ (g → CellsAt w p [u] 0) ∧ Arr w u 1 ((ele xss i).map icell) := by
  by_cases hg : g
  · obtain ⟨p, u, h1, h2, h3⟩ := h.ix (hi hg)
    exact ⟨p, u, fun _ => h1, fun _ => h2, h3⟩
  · by_cases hr : i.toNat < xss.length
    · have hx : IX (i.toNat : Int) (ln xss) := ⟨by omega, by unfold ln; omega⟩
      obtain ⟨p, u, h1, h2, h3⟩ := h.ix hx
      refine ⟨p, u, fun h => absurd h hg, fun h => absurd h hg, ?_⟩
      rwa [show ele xss (i.toNat : Int) = ele xss i from by unfold ele; rw [Int.toNat_natCast]] at h3
    · refine ⟨default, .slice none 0 0, fun h => absurd h hg, fun h => absurd h hg, ?_⟩
      have e : ele xss i = [] := by simp [ele, List.getD_eq_getElem?_getD, List.getElem?_eq_none (Nat.le_of_not_lt hr)]; rfl
      rw [e]; exact Arr.nil
theorem RowsK.cons {k : World} {v : Value} {xs : List Int} {B : List (Value × List Int)} (h : Arr k v 1 (xs.map icell)) (h' : RowsK k B) : RowsK k ((v, xs) :: B) := fun p hp => by
  rcases List.mem_cons.1 hp with rfl | hp
  · exact h
  · exact h' p hp
theorem RowsA.nil {k : World} : RowsA k (.slice none 0 0) [] := ⟨[], rfl, Arr.nil, RowsK.nil⟩
theorem CellsAt.le {k w : World} {p : Addr} {l : List Value} {j : Nat} (h : CellsAt k p l j) (hl : Le k w) : CellsAt w p l j := h.mono hl
theorem blk_cells {w : World} {b : Nat} {cs : List Value} {T : TypeId} (h : (blk b cs T).holds w) : CellsAt w ⟨b, 0, none⟩ cs 0 := CellsAt.of fun j v hv => by
  have h' : w.heap[b]? = some (.cells cs.toArray T (0, 0)) := h
  rw [Nat.zero_add, Addr.add_lit, Nat.zero_add]
  simp [World.cell?, h', hv]
theorem RowsK.append {k : World} {A B : List (Value × List Int)} (h : RowsK k A) (h' : RowsK k B) : RowsK k (A ++ B) := fun p hp => (List.mem_append.1 hp).elim (h p) (h' p)
theorem RowsA.sub {w : World} {v : Value} {xss : List (List Int)} {i j : Int} (h : RowsA w v xss) (hx : SX i j (ln xss)) : RowsA w (subS v 1 i.toNat j.toNat) (Rd.sub xss i j) := by
  obtain ⟨B, rfl, h2, h3⟩ := h
  have hx' : SX i j (ln B) := by unfold ln at *; simpa using hx
  refine ⟨Rd.sub B i j, by simp [Rd.sub, List.map_take, List.map_drop], subS_sub h2 hx', fun p hp => h3 p ?_⟩
  unfold Rd.sub at hp
  exact List.mem_of_mem_drop (List.mem_of_mem_take hp)
theorem AL.b1 {B : List (Value × List Int)} {xss : List (List Int)} {b : Nat} (h : B.map (·.2) = xss) (ha : AL xss.length b) : B.length ≤ maxLen := by subst h; have := ha.1; rwa [List.length_map] at this
theorem AL.b2 {B : List (Value × List Int)} {xss : List (List Int)} {b : Nat} (h : B.map (·.2) = xss) (ha : AL xss.length b) : B.length * b ≤ 140737488355328 := by subst h; have := ha.2; rwa [List.length_map] at this
section
variable {P : Program} {n : Nat} {σ : Env} {M : Nat → Prop} {w0 k0 k : World} {H : List Res} {o : Oper} {K : Act → World → Prop} {Q : Exit → Act → World → Prop}
theorem WK.of {C C' : World → Prop} (h : ∀ w, C w → C' w) (kk : WK n K σ C') : WK n K σ C := fun a w ha hw => kk a w ha (h w hw)
theorem EV.of {C C' : World → Prop} (h : ∀ w, C w → C' w) (kk : EV P n o σ C' K Q) : EV P n o σ C K Q := fun a w ha hw => kk a w ha (h w hw)
theorem EV.freeze {r : Res} (hb : Base M k0 w0) (kk : ∀ k', Le k k' → r.holds k' → EV P n o σ (Own M w0 (kn M w0.heap.size k0 k' :: H)) K Q) : EV P n o σ (Own M w0 (kn M w0.heap.size k0 k :: r :: H)) K Q := fun a w ha hw => by
  obtain ⟨k', h1, h2, h3⟩ := hw.freeze hb
  exact kk k' h1 h2 a w ha h3
end
end Go.Rd
end

section
namespace Go.Rd
set_option linter.unusedVariables false
structure Opr where
  (slot stage op dest a b ar sp pl n : Int)
def Opr.cells (o : Opr) : List Value := [.int .i64 o.slot, .int .i64 o.stage, .int .i64 o.op, .int .i64 o.dest, .int .i64 o.a, .int .i64 o.b, .int .i64 o.ar, .int .i64 o.sp, .int .i64 o.pl, .int .i64 o.n]
instance : Inhabited Opr := ⟨⟨0, 0, 0, 0, 0, 0, 0, 0, 0, 0⟩⟩
structure Krn where
  (pace stages : Int)
  (ops : List Opr)
instance : Inhabited Krn := ⟨⟨0, 0, []⟩⟩
structure Edg where
  (fr to bk wt : Int)
def Edg.cells (e : Edg) : List Value := [.int .i64 e.fr, .int .i64 e.to, .int .i64 e.bk, .int .i64 e.wt]
instance : Inhabited Edg := ⟨⟨0, 0, 0, 0⟩⟩
structure Pln where
  (pace : Int)
  (times : List Int)
instance : Inhabited Pln := ⟨⟨0, []⟩⟩
structure Flt where
  (code at' : Int)
def Flt.cells (e : Flt) : List Value := [.int .i64 e.code, .int .i64 e.at']
instance : Inhabited Flt := ⟨⟨0, 0⟩⟩
structure Due where
  (due reg v : Int)
def Due.cells (e : Due) : List Value := [.int .i64 e.due, .int .i64 e.reg, .int .i64 e.v]
instance : Inhabited Due := ⟨⟨0, 0, 0⟩⟩
structure Off where
  (time ready place : Int)
def Off.cells (e : Off) : List Value := [.int .i64 e.time, .int .i64 e.ready, .int .i64 e.place]
instance : Inhabited Off := ⟨⟨0, 0, 0⟩⟩
structure Use where
  (til : Int)
  (later : Bool)
def Use.cells (e : Use) : List Value := [.int .i64 e.til, .bool e.later]
instance : Inhabited Use := ⟨⟨0, false⟩⟩
structure Sta where
  (bef mem : List (List Int))
instance : Inhabited Sta := ⟨⟨[], []⟩⟩
structure Rst where
  (outs : List Int)
  (mem : List (List Int))
instance : Inhabited Rst := ⟨⟨[], []⟩⟩
structure Lay where
  (lp : Lp)
  (pace regs : Int)
  (time ready places : List Int)
instance : Inhabited Lay := ⟨⟨default, 0, 0, [], [], []⟩⟩
theorem Opr.cells_len : ∀ e : Opr, e.cells.length = 10 := fun _ => rfl
theorem Opr.cells_one (ys : List Opr) : ∀ u ∈ ys, ∀ c ∈ u.cells, c.oneCell' = true := fun n _ c hc => by simp [Opr.cells] at hc; rcases hc with h | h | h | h | h | h | h | h | h | h <;> subst h <;> rfl
theorem Edg.cells_len : ∀ e : Edg, e.cells.length = 4 := fun _ => rfl
theorem Edg.cells_one (ys : List Edg) : ∀ u ∈ ys, ∀ c ∈ u.cells, c.oneCell' = true := fun n _ c hc => by simp [Edg.cells] at hc; rcases hc with h | h | h | h <;> subst h <;> rfl
theorem Due.cells_len : ∀ e : Due, e.cells.length = 3 := fun _ => rfl
theorem Due.cells_one (ys : List Due) : ∀ u ∈ ys, ∀ c ∈ u.cells, c.oneCell' = true := fun n _ c hc => by simp [Due.cells] at hc; rcases hc with h | h | h <;> subst h <;> rfl
theorem Off.cells_len : ∀ e : Off, e.cells.length = 3 := fun _ => rfl
theorem Off.cells_one (ys : List Off) : ∀ u ∈ ys, ∀ c ∈ u.cells, c.oneCell' = true := fun n _ c hc => by simp [Off.cells] at hc; rcases hc with h | h | h <;> subst h <;> rfl
theorem Use.cells_len : ∀ e : Use, e.cells.length = 2 := fun _ => rfl
theorem Use.cells_one (ys : List Use) : ∀ u ∈ ys, ∀ c ∈ u.cells, c.oneCell' = true := fun n _ c hc => by simp [Use.cells] at hc; rcases hc with h | h <;> subst h <;> rfl
theorem Rf.cells_len : ∀ e : Rf, e.cells.length = 2 := fun _ => rfl
theorem Rf.cells_one (ys : List Rf) : ∀ u ∈ ys, ∀ c ∈ u.cells, c.oneCell' = true := fun n _ c hc => by simp [Rf.cells] at hc; rcases hc with h | h <;> subst h <;> rfl
theorem Stm.cells_len : ∀ e : Stm, e.cells.length = 9 := fun _ => rfl
theorem Stm.cells_one (ys : List Stm) : ∀ u ∈ ys, ∀ c ∈ u.cells, c.oneCell' = true := fun n _ c hc => by simp [Stm.cells] at hc; rcases hc with h | h | h | h | h | h | h | h | h <;> subst h <;> rfl
end Go.Rd
end

section
namespace Go.Rd
open Go.RowKit
set_option linter.unusedVariables false
theorem flatten_one {α : Type} {c : α → Value} {enc : α → List Value} (he : ∀ u, enc u = [c u]) : ∀ xs : List α, (xs.map enc).flatten = xs.map c
  | [] => rfl
  | x :: xs => by simp [he, flatten_one he xs]
theorem map_upd {α β : Type} {f : α → β} {xs : List α} {i : Int} {z : α} : (upd xs i z).map f = (xs.map f).set i.toNat (f z) := by unfold upd; rw [List.map_set]
theorem upd_length {α : Type} {xs : List α} {i : Int} {z : α} : (upd xs i z).length = xs.length := by simp [upd]
theorem elemP_lit {b n c : Nat} {i : Int} {p : Addr} (h : ElemP (.slice (some ⟨b, 0, none⟩) n c) i 1 p) : p = ⟨b, i.toNat, none⟩ := by
  obtain ⟨a, n', c', he, h0, h1, rfl⟩ := h
  simp only [Value.slice.injEq, Option.some.injEq] at he
  obtain ⟨rfl, _, _⟩ := he
  rw [Addr.add_lit]; simp
theorem run_store_one {P : Program} {w : World} {p : Addr} {v u : Value} (h : w.cell? p = some v) (hf : w.frozen? p = false) (h1 : u.oneCell' = true) : (store p u).run P w = .ok () (w.setCell p u) := by
  cases u <;> simp_all [store, Sem.run, Value.oneCell']
theorem vec_set1 {P : Program} {α : Type} {c : α → Value} {enc : α → List Value} (he : ∀ u, enc u = [c u]) {w : World} {v : Value} {E : TypeId} {xs : List α} {i : Int} {p : Addr} {z : α} (h : (vec v E 1 (xs.map enc)).holds w) (hp : ElemP v i 1 p) (h1 : (c z).oneCell' = true) :
    ∃ b, (∃ n k, v = .slice (some ⟨b, 0, none⟩) n k) ∧ p = ⟨b, i.toNat, none⟩ ∧ (store p (c z)).run P w = .ok () (w.setCell p (c z)) ∧ (vec v E 1 ((upd xs i z).map enc)).holds (w.setCell p (c z)) ∧
      (∀ j, j ≠ b → (w.setCell p (c z)).heap[j]? = w.heap[j]?) := by
  obtain ⟨ho, hl⟩ := h
  rcases ho.2 with ⟨rfl, _⟩ | ⟨b, cap, cur, rfl, hb, hh, hnc, hcm, hcs, ht⟩
  · obtain ⟨a, n, c', he', _⟩ := hp; simp at he'
  · have hpe := elemP_lit hp
    subst hpe
    obtain ⟨a, n', c', he', h0, hi, _⟩ := hp
    simp only [Value.slice.injEq, Option.some.injEq] at he'
    obtain ⟨_, rfl, rfl⟩ := he'
    have hsz : i.toNat < cur.size := by rw [hcs]; omega
    have hcell : w.cell? ⟨b, i.toNat, none⟩ = some cur[i.toNat] := by simp [World.cell?, hh, hsz]
    have hfr : w.frozen? ⟨b, i.toNat, none⟩ = false := by simp [World.frozen?, hh]
    obtain ⟨hst, hg⟩ := World.ownsRow.stored ho i.toNat (c z)
    refine ⟨b, ⟨_, _, rfl⟩, rfl, run_store_one hcell hfr h1, ⟨?_, ?_⟩, fun j hj => Below.heap_setCell _ _ _ _ hj⟩
    · rw [flatten_one he] at hst ⊢
      rw [map_upd (f := c)]
      simpa [upd_length] using hst
    · intro r hr
      obtain ⟨u, _, rfl⟩ := List.mem_map.1 hr
      simp [he]

section
variable {P : Program} {n : Nat} {σ : Env} {M : Nat → Prop} {w0 : World} {H : List Res} {d : Option Tmp} {T U E E2 S T2 : TypeId} {pos : String} {after : Array Edge} {gd : Option (Nat × Bool)} {x y : Operand} {g g' : Bool} {v : Value}
  {K : Act → World → Prop} {Q : Exit → Act → World → Prop}
theorem EV.storeV {α : Type} {c : α → Value} {enc : α → List Value} (k : Nat) (z : α) {xs : List α} {i : Int} {p : Addr} (he : ∀ u, enc u = [c u]) (hx : σ.ev x = some (g, .pointer (some p))) (hg : g = true) (hy : σ.ev y = some (g', c z)) (hg' : g' = true)
    (hk : H[k]? = some (vec v E 1 (xs.map enc))) (hp : ElemP v i 1 p) (h1 : (c z).oneCell' = true) (hv : (c z).cells = [c z].toArray) (hs : SizeT P T 1)
    (kk : WK n K σ (Own M w0 (H.set k (vec v E 1 ((upd xs i z).map enc))))) : EV P n ⟨none, .store T x y, U, pos, after, gd⟩ σ (Own M w0 H) K Q := fun a w ha hw => by
  refine .inl ?_
  obtain ⟨b, ⟨n1, k1, rfl⟩, rfl, h3, h4, h5⟩ := vec_set1 (P := P) he (z := z) (hw.at k hk) hp h1
  obtain ⟨inf, hi, hsz⟩ := Option.map_eq_some_iff.1 hs
  have hrun : (execOp a.eval ⟨none, .store T x y, U, pos, after, gd⟩).run P w = .ok .skip (w.setCell ⟨b, i.toNat, none⟩ (c z)) := by
    simp [execOp, ha.ev hx hg, ha.ev hy hg', Instr.storeAt, Instr.sureAddr, storeVar, hv, sizeOf, typeInfo, hi, hsz, storeCells, h3, Addr.add]
  unfold Oper.wp
  rw [hrun]
  show K (a.put none undef) _
  have hlt : b < w.heap.size := vec_foot_lt (hw.at k hk) b ⟨_, _, rfl⟩
  refine kk a _ ha (hw.upd k hk rfl rfl ⟨rfl, Nat.le_refl _⟩ (by simp [World.setCell]) (fun c hc hne => h5 c fun e => hne (by subst e; exact ⟨_, _, rfl⟩)) h4 fun c hc => ?_)
  obtain ⟨n2, k2, he2⟩ := hc
  simp only [Value.slice.injEq, Option.some.injEq, Addr.mk.injEq] at he2
  obtain ⟨⟨rfl, _⟩, _⟩ := he2
  exact ⟨.inl ⟨_, _, rfl⟩, by simpa [World.setCell] using hlt⟩

theorem EV.makeSlice {α : Type} {enc : α → List Value} (z : α) {dd sz bytes : Nat} {m : Int} (hn : dd < n) (hV : VecT P T E sz bytes) (hz : ZeroT P E (enc z)) (hx : σ.ev x = some (g, .int .i64 m)) (hg : g = true) (h0 : 0 ≤ m) (hl : (enc z).length = sz) (hA : AL m.toNat bytes)
    (kk : ∀ u, SliceLen u (List.replicate m.toNat z).length → WK n K ((dd, (true, u)) :: σ) (Own M w0 (vec u E sz ((List.replicate m.toNat z).map enc) :: H))) : EV P n ⟨some dd, .makeSlice T x x, U, pos, after, gd⟩ σ (Own M w0 H) K Q := fun a w ha hw => by
  refine .inl ?_
  obtain ⟨hU, hi, hsz⟩ := hV
  obtain ⟨i, hi, hq⟩ := Option.map_eq_some_iff.1 hi
  simp only [Prod.mk.injEq] at hq
  obtain ⟨hzq, his, hib⟩ := hq
  obtain ⟨i', zv, h1, h2, h3⟩ := hz.out
  have : i' = i := by rw [hi] at h1; cases h1; rfl
  subst this
  have hm : (m.toNat : Int) = m := Int.toNat_of_nonneg h0
  obtain ⟨w', hr, ho, hgr⟩ := run_make_full (P := P) w w.heap.size T E i' zv sz hU hi h2 his .i64 .i64 m.toNat (by rw [hib]; have := hA.2; rw [Nat.mul_comm]; omega) hA.1 (Nat.le_refl _)
  rw [hm] at hr
  have hrun : (execOp a.eval ⟨some dd, .makeSlice T x x, U, pos, after, gd⟩).run P w = .ok (.value (.slice (some ⟨w.heap.size, 0, none⟩) m.toNat m.toNat)) w' := by
    simp [execOp, ha.ev hx hg, hr, Result.andThen]
  unfold Oper.wp
  rw [hrun]
  show K (a.put (some dd) _) _
  have hrep : (madeCells zv.cells (m.toNat * sz)).toList = ((List.replicate m.toNat z).map enc).flatten := by
    rw [h3]
    apply List.ext_getElem?
    intro j
    have hfl : ((List.replicate m.toNat z).map enc).flatten.length = m.toNat * sz := by
      rw [flatten_len (sz := sz) (by intro r hr; obtain ⟨u, hu, rfl⟩ := List.mem_map.1 hr; rw [List.mem_replicate] at hu; rw [hu.2, hl])]; simp
    by_cases hj : j < m.toNat * sz
    · have hq : j / sz < m.toNat := Nat.div_lt_of_lt_mul (by rwa [Nat.mul_comm] at hj)
      have hd := drop_flatten (sz := sz) (rows := (List.replicate m.toNat z).map enc) (i := j / sz) (r := enc z) (by intro r hr; obtain ⟨u, hu, rfl⟩ := List.mem_map.1 hr; rw [List.mem_replicate] at hu; rw [hu.2, hl]) (by simp [hq])
      have hmod : j % sz < sz := Nat.mod_lt _ hsz
      have e1 : ((List.replicate m.toNat z).map enc).flatten[j]? = (enc z)[j % sz]? := by
        have : (enc z)[j % sz]? = ((((List.replicate m.toNat z).map enc).flatten.drop (j / sz * sz)).take (enc z).length)[j % sz]? := by rw [hd]
        rw [this, List.getElem?_take, hl, if_pos hmod, List.getElem?_drop, Nat.mul_comm, Nat.div_add_mod]
      rw [e1]
      have hlt : j % sz < (enc z).length := by rw [hl]; exact hmod
      simp [madeCells, hj, hl, List.getElem?_eq_getElem hlt]
    · have hj' := Nat.le_of_not_lt hj
      rw [List.getElem?_eq_none (by rw [Array.length_toList, size_madeCells]; exact hj'), List.getElem?_eq_none (by rw [hfl]; exact hj')]
  have hholds : (vec (.slice (some ⟨w.heap.size, 0, none⟩) m.toNat m.toNat) E sz ((List.replicate m.toNat z).map enc)).holds w' := by
    refine ⟨?_, fun r hr => ?_⟩
    · rw [← hrep]
      have : ((List.replicate m.toNat z).map enc).length = m.toNat := by simp
      rw [this]
      refine ⟨ho.1, ?_⟩
      rcases ho.2 with h | ⟨g2, c2, cur, q1, q2, q3⟩
      · exact .inl h
      · exact .inr ⟨g2, c2, cur, q1, Nat.zero_le _, q3⟩
    · obtain ⟨u, hu, rfl⟩ := List.mem_map.1 hr
      rw [List.mem_replicate] at hu; rw [hu.2, hl]
  have hgrow : Grow w w' := ⟨hgr.os, hgr.tape, ⟨hgr.output, run_drawn _ _ hr⟩, hgr.size, fun b hb => hgr.block b hb (by simp)⟩
  refine kk _ ?_ _ _ (ha.put hn true _) (hw.push hgrow _ hholds fun b hb => ?_)
  · exact ⟨some ⟨w.heap.size, 0, none⟩, m.toNat, by simp, fun _ => rfl, by simp⟩
  · have hlt := vec_foot_lt hholds b hb
    obtain ⟨n2, k2, he2⟩ := hb
    simp only [Value.slice.injEq, Option.some.injEq, Addr.mk.injEq] at he2
    obtain ⟨⟨rfl, _⟩, _⟩ := he2
    exact ⟨Nat.le_refl _, hlt⟩
end
theorem icell_eq : ∀ u : Int, icell u = [i64v u] := fun _ => rfl
end Go.Rd
end

section
namespace Go.Rd
open Go.RowKit
set_option linter.unusedVariables false
def hcell (h : Value) : List Value := [h]
def nilS : Value := .slice none 0 0
def hat (hs : List Value) (i : Int) : Value := hs.getD i.toNat nilS
def GL (hs : List Value) (xss : List (List Int)) : Prop := hs.length = xss.length ∧ ∀ i : Nat, SliceLen (hs.getD i nilS) (xss.getD i []).length

section
variable {w : World} {v : Value} {hs : List Value} {E1 E2 : TypeId} {xss : List (List Int)} {i j : Int} {p : Addr}
theorem GL.ix (h : GL hs xss) (i : Int) : SliceLen (hat hs i) (ele xss i).length := h.2 i.toNat
theorem slen_upd {α : Type} {v : Value} {xs : List α} {i : Int} {z : α} (h : SliceLen v xs.length) : SliceLen v (upd xs i z).length := by rw [upd_length]; exact h
theorem GL.nil : GL [] [] := ⟨rfl, fun _ => SliceLen.nil⟩
theorem getD_upd {α : Type} {l : List α} {d z : α} {k : Nat} {i : Int} : (upd l i z).getD k d = if i.toNat = k ∧ k < l.length then z else l.getD k d := by
  unfold upd
  rw [List.getD_eq_getElem?_getD, List.getElem?_set, List.getD_eq_getElem?_getD]
  by_cases h : i.toNat = k
  · subst h
    by_cases hl : i.toNat < l.length
    · simp [hl]
    · simp [hl, List.getElem?_eq_none (Nat.le_of_not_lt hl)]
  · simp [h]
theorem GL.upd {u : Value} {xs : List Int} (h : GL hs xss) (hu : SliceLen u xs.length) (i : Int) : GL (upd hs i u) (upd xss i xs) := by
  refine ⟨by simp [upd_length, h.1], fun k => ?_⟩
  rw [getD_upd, getD_upd, h.1]
  split
  · exact hu
  · exact h.2 k
end
section
variable {M : Nat → Prop} {w0 : World} {H : List Res} {v : Value} {hs : List Value} {E1 E2 : TypeId} {xss : List (List Int)} {i j : Int} {p : Addr}
end
section
variable {P : Program} {n : Nat} {σ : Env} {M : Nat → Prop} {w0 : World} {H : List Res} {d : Option Tmp} {T U E E1 E2 : TypeId} {pos : String} {after : Array Edge} {gd : Option (Nat × Bool)} {x y : Operand} {g g' : Bool} {v u yv : Value} {hs : List Value} {xss : List (List Int)} {xs : List Int}
  {K : Act → World → Prop} {Q : Exit → Act → World → Prop} {i j : Int} {p : Addr} {w : World}
theorem Own.two {r s : Res} {w : World} (h : Own M w0 (r :: s :: H) w) : r.holds w ∧ s.holds w ∧ (∀ b, r.foot b → ¬ s.foot b) := ⟨h.2.1.1, h.2.2.1.1, fun b hb => h.2.1.2.2 s (by simp) b hb⟩
end
end Go.Rd
end

section
namespace Go.Rd
open Go.RowKit
set_option linter.unusedVariables false
section
variable {P : Program} {n : Nat} {σ : Env} {C : World → Prop} {M : Nat → Prop} {w0 : World} {H : List Res} {d : Option Tmp} {T U E D : TypeId} {pos : String} {after : Array Edge} {gd : Option (Nat × Bool)} {x y : Operand} {g g' : Bool} {v : Value}
  {K : Act → World → Prop} {Q : Exit → Act → World → Prop} {α : Type} {c : α → Value} {xs : List α} {b : Nat} {i : Int} {q : Addr}
end
end Go.Rd
end

section
namespace Go.Rd
set_option linter.unusedVariables false
end Go.Rd
end

section
namespace Go.Rd
set_option linter.unusedVariables false
theorem br_T {α : Type} {p : Prop} [Decidable p] {a b : α} (h : p) : br (decide p) a b = a := by rw [decide_eq_true h]; rfl
theorem br_F {α : Type} {p : Prop} [Decidable p] {a b : α} (h : ¬ p) : br (decide p) a b = b := by rw [decide_eq_false h]; rfl
theorem br_eq {α : Type} {c : Bool} {a b : α} : br c a b = if c = true then a else b := by cases c <;> rfl
theorem ck_IR {α : Type} {n : Int} {x : Option α} (h1 : -9223372036854775808 ≤ n) (h2 : n ≤ 9223372036854775807) : ck (IR n) x = x := ck_yes ⟨h1, h2⟩
theorem ck_IX {α : Type} {i n : Int} {x : Option α} (h1 : 0 ≤ i) (h2 : i < n) : ck (IX i n) x = x := ck_yes ⟨h1, h2⟩
theorem ck_SX {α : Type} {i j n : Int} {x : Option α} (h1 : 0 ≤ i) (h2 : i ≤ j) (h3 : j ≤ n) : ck (SX i j n) x = x := ck_yes ⟨h1, h2, h3⟩
theorem ck_imp {α : Type} {c : Bool} {p : Prop} [Decidable p] {x : Option α} (h : c = true → p) : ck (c = true → p) x = x := ck_yes h
@[simp] theorem bd_some' {α β : Type} {x : α} {k : α → Option β} : bd (some x) k = k x := rfl
@[simp] theorem bdG_t {α β : Type} [Inhabited α] {m : Option α} {k : α → Option β} : bdG true m k = bd m k := rfl
@[simp] theorem bdG_f {α β : Type} [Inhabited α] {m : Option α} {k : α → Option β} : bdG false m k = k default := rfl
theorem ele_nat {α : Type} [Inhabited α] (xs : List α) (i : Nat) : ele xs (i : Int) = xs.getD i default := rfl
theorem ln_nonneg {α : Type} (xs : List α) : 0 ≤ ln xs := by unfold ln; omega
theorem lp_step {γ ρ : Type} {f : γ → Option (Stp γ ρ)} {g g' : γ} {o : Out γ ρ} (h : f g = some (.next g')) (k : lp f g' = some o) : lp f g = some o := (lp_next h).trans k
theorem ele_all {α : Type} [Inhabited α] {p : α → Prop} {l : List α} (h : ∀ x ∈ l, p x) {i : Nat} (hi : i < l.length) : p (ele l i) := by
  have : ele l i = l[i] := by simp [Rd.ele, List.getD_eq_getElem?_getD, List.getElem?_eq_getElem hi]
  rw [this]; exact h _ (List.getElem_mem hi)
theorem bdG_some' {α : Type} (c b : Bool) (k : Bool → Option α) : bdG c (some b) k = k (if c = true then b else false) := by cases c <;> rfl
theorem lp_all {f : Int → Option (Stp Int Bool)} {n : Nat} {p : Nat → Prop} (step : ∀ i : Nat, i < n → (∀ j, j < i → p j) → (p i → f i = some (.next ((i : Int) + 1))) ∧ (¬ p i → f i = some (.ret false))) (hend : f n = some (.brk n)) :
    ((∀ i, i < n → p i) ∧ lp f 0 = some (.go (n : Int))) ∨ (¬ (∀ i, i < n → p i) ∧ lp f 0 = some (.ret false)) := by
  have key : ∀ (m i : Nat), i + m = n → (∀ j, j < i → p j) → ((∀ i, i < n → p i) ∧ lp f i = some (.go (n : Int))) ∨ (¬ (∀ i, i < n → p i) ∧ lp f i = some (.ret false)) := by
    intro m
    induction m with
    | zero =>
      intro i h hp
      have hi : i = n := by omega
      subst hi
      exact .inl ⟨hp, lp_brk hend⟩
    | succ m ih =>
      intro i h hp
      obtain ⟨h1, h2⟩ := step i (by omega) hp
      by_cases hpi : p i
      · have hs : ∀ j, j < i + 1 → p j := fun j hj => by
          rcases Nat.lt_or_ge j i with h | h
          · exact hp j h
          · have : j = i := by omega
            subst this; exact hpi
        rcases ih (i + 1) (by omega) hs with ⟨a, b⟩ | ⟨a, b⟩
        · exact .inl ⟨a, (lp_next (h1 hpi)).trans b⟩
        · exact .inr ⟨a, (lp_next (h1 hpi)).trans b⟩
      · exact .inr ⟨fun h => hpi (h i (by omega)), lp_ret (h2 hpi)⟩
  exact key n 0 (by omega) (fun j hj => absurd hj (Nat.not_lt_zero _))
theorem take_next {α : Type} [Inhabited α] {xs : List α} {i : Nat} (h : i < xs.length) : xs.take (i + 1) = xs.take i ++ [ele xs i] := by
  rw [List.take_add_one, List.getElem?_eq_getElem h, Option.toList_some]
  simp [ele, List.getD_eq_getElem?_getD, List.getElem?_eq_getElem h]
theorem range_map {α : Type} [Inhabited α] (l : List α) : (List.range l.length).map (fun i : Nat => ele l (i : Int)) = l := by
  apply List.ext_getElem?
  intro i
  by_cases h : i < l.length
  · simp [h, ele_nat, List.getD_eq_getElem?_getD]
  · simp [List.getElem?_eq_none (Nat.le_of_not_lt h), h]
theorem lp_scan {ρ : Type} {f : Int → Option (Stp Int ρ)} {n : Nat} {p : Nat → Prop} (q : Nat → ρ) : ∀ (m s : Nat), s + m = n → (step : ∀ i : Nat, s ≤ i → i < n → (p i → f i = some (.next ((i : Int) + 1))) ∧ (¬ p i → f i = some (.ret (q i)))) → (hend : f n = some (.brk n)) →
    ((∀ i, s ≤ i → i < n → p i) ∧ lp f s = some (.go (n : Int))) ∨ (∃ i, s ≤ i ∧ i < n ∧ ¬ p i ∧ (∀ j, s ≤ j → j < i → p j) ∧ lp f s = some (.ret (q i)))
  | 0, s, h, step, hend => by
    have : s = n := by omega
    subst this
    exact .inl ⟨fun i h1 h2 => by omega, lp_brk hend⟩
  | m + 1, s, h, step, hend => by
    obtain ⟨h1, h2⟩ := step s (Nat.le_refl _) (by omega)
    by_cases hp : p s
    · rcases lp_scan q m (s + 1) (by omega) (fun i a b => step i (by omega) b) hend with ⟨a, b⟩ | ⟨i, a, b, c, d, e⟩
      · refine .inl ⟨fun i h3 h4 => ?_, (lp_next (h1 hp)).trans b⟩
        by_cases e : i = s
        · subst e; exact hp
        · exact a i (by omega) h4
      · refine .inr ⟨i, by omega, b, c, fun j h3 h4 => ?_, (lp_next (h1 hp)).trans e⟩
        by_cases e : j = s
        · subst e; exact hp
        · exact d j (by omega) h4
    · exact .inr ⟨s, Nat.le_refl _, by omega, hp, fun j h3 h4 => by omega, lp_ret (h2 hp)⟩
theorem lp_inv {α ρ : Type} {f : α × Int → Option (Stp (α × Int) ρ)} {n : Nat} (Inv : Nat → α → Prop) (step : ∀ (i : Nat) g, i < n → Inv i g → ∃ g', f (g, (i : Int)) = some (.next (g', (i : Int) + 1)) ∧ Inv (i + 1) g') (hend : ∀ g, f (g, (n : Int)) = some (.brk (g, (n : Int)))) (g0 : α) (h0 : Inv 0 g0) :
    ∃ g, lp f (g0, 0) = some (.go (g, (n : Int))) ∧ Inv n g := by
  have key : ∀ m i : Nat, i + m = n → ∀ g, Inv i g → ∃ g', lp f (g, (i : Int)) = some (.go (g', (n : Int))) ∧ Inv n g' := by
    intro m
    induction m with
    | zero =>
      intro i hi g hg
      have : i = n := by omega
      subst this
      exact ⟨g, lp_brk (hend g), hg⟩
    | succ m ih =>
      intro i hi g hg
      obtain ⟨g', h1, h2⟩ := step i g (by omega) hg
      obtain ⟨g2, h3, h4⟩ := ih (i + 1) (by omega) g' h2
      exact ⟨g2, lp_step h1 h3, h4⟩
  exact key n 0 (by omega) g0 h0
theorem br_go {α ρ : Type} {c : Bool} {a b : α} : br c (some (Out.go a : Out α ρ)) (some (Out.go b)) = some (.go (if c = true then a else b)) := by cases c <;> rfl
theorem ele_mem' {α : Type} [Inhabited α] {l : List α} {i : Nat} (h : i < l.length) : ele l (i : Int) ∈ l := by
  rw [ele_nat, List.getD_eq_getElem?_getD, List.getElem?_eq_getElem h]; exact List.getElem_mem h
theorem mem_ele {α : Type} [Inhabited α] {l : List α} {x : α} (h : x ∈ l) : ∃ i : Nat, i < l.length ∧ ele l (i : Int) = x := by
  obtain ⟨i, hi, rfl⟩ := List.getElem_of_mem h
  exact ⟨i, hi, by rw [ele_nat, List.getD_eq_getElem?_getD, List.getElem?_eq_getElem hi]; rfl⟩
theorem upd_upd {α : Type} (l : List α) (i : Int) (a b : α) : upd (upd l i a) i b = upd l i b := by unfold upd; rw [List.set_set]
theorem ele_upd {α : Type} [Inhabited α] {l : List α} {i : Int} {a : α} (h : IX i (ln l)) : ele (upd l i a) i = a := by
  have : i.toNat < l.length := by have := h.1; have := h.2; unfold ln at this; omega
  unfold ele upd
  rw [List.getD_eq_getElem?_getD, List.getElem?_set]
  simp [this]
theorem ele_upd_ne {α : Type} [Inhabited α] {l : List α} {i j : Int} {a : α} (h : i.toNat ≠ j.toNat) : ele (upd l i a) j = ele l j := by
  unfold ele upd
  rw [List.getD_eq_getElem?_getD, List.getElem?_set, if_neg h, ← List.getD_eq_getElem?_getD]
theorem lp_chk {α ρ : Type} {f : α × Int → Option (Stp (α × Int) ρ)} {n : Nat} {r0 : ρ} (p : Nat → Prop) (Inv : Nat → α → Prop) (step : ∀ (i : Nat) g, i < n → Inv i g → (p i ∧ ∃ g', f (g, (i : Int)) = some (.next (g', (i : Int) + 1)) ∧ Inv (i + 1) g') ∨ (¬ p i ∧ f (g, (i : Int)) = some (.ret r0)))
    (hend : ∀ g, f (g, (n : Int)) = some (.brk (g, (n : Int)))) (g0 : α) (h0 : Inv 0 g0) : ((∀ i, i < n → p i) ∧ ∃ g, lp f (g0, 0) = some (.go (g, (n : Int))) ∧ Inv n g) ∨ (¬ (∀ i, i < n → p i) ∧ lp f (g0, 0) = some (.ret r0)) := by
  have key : ∀ m i : Nat, i + m = n → (∀ j, j < i → p j) → ∀ g, Inv i g → ((∀ i, i < n → p i) ∧ ∃ g', lp f (g, (i : Int)) = some (.go (g', (n : Int))) ∧ Inv n g') ∨ (¬ (∀ i, i < n → p i) ∧ lp f (g, (i : Int)) = some (.ret r0)) := by
    intro m
    induction m with
    | zero =>
      intro i hi hp g hg
      have : i = n := by omega
      subst this
      exact .inl ⟨hp, g, lp_brk (hend g), hg⟩
    | succ m ih =>
      intro i hi hp g hg
      rcases step i g (by omega) hg with ⟨h1, g', h2, h3⟩ | ⟨h1, h2⟩
      · have hp' : ∀ j, j < i + 1 → p j := fun j hj => by
          by_cases e : j = i
          · subst e; exact h1
          · exact hp j (by omega)
        rcases ih (i + 1) (by omega) hp' g' h3 with ⟨a, g2, b, c⟩ | ⟨a, b⟩
        · exact .inl ⟨a, g2, (lp_next h2).trans b, c⟩
        · exact .inr ⟨a, (lp_next h2).trans b⟩
      · exact .inr ⟨fun h => h1 (h i (by omega)), lp_ret h2⟩
  exact key n 0 (by omega) (fun j hj => absurd hj (Nat.not_lt_zero _)) g0 h0
end Go.Rd
end

section
namespace Go.Rd
open Go.RowKit
set_option linter.unusedVariables false
section
variable {P : Program} {n : Nat} {ops : Array Oper} {σ : Env} {C S : World → Prop}
def endAt (R : Act → World → Prop) (Q : Exit → Act → World → Prop) : Exit → Act → World → Prop
  | .normal => R
  | e => Q e
variable {Q : Exit → Act → World → Prop} {R : Act → World → Prop}
theorem endAt_letsOut (h : LetsOut (endAt R Q)) : LetsOut Q := let ⟨a, w, x⟩ := h; ⟨a, w, x⟩
theorem wp_endAt {o : Oper} {a : Act} {w : World} {K K' : Act → World → Prop} (h : ∀ a w, K a w → K' a w) (hh : o.wp P a w K (endAt R Q)) : o.wp P a w K' Q := by
  unfold Oper.wp at *
  generalize (execOp a.eval o).run P w = r at *
  cases r with
  | ok n w' =>
    cases n <;> simp only [Oper.upon] at hh ⊢ <;>
      first
        | exact h _ _ hh
        | exact Calls.mono hh (fun e w'' he => by cases e <;> first | exact h _ _ he | exact he | exact endAt_letsOut he)
        | exact Rows.mono hh (fun _ _ he => h _ _ he)
  | halt x w' => cases x <;> simp only [Oper.upon] at hh ⊢ <;> exact hh
theorem wpOp_endAt {i : Nat} {a : Act} {w : World} {K K' : Act → World → Prop} (h : ∀ a w, K a w → K' a w) (hh : wpOp P ops (endAt R Q) i K a w) : wpOp P ops Q i K' a w := by
  unfold Go.wpOp at *
  split
  · exact h _ _ (by simpa [*] using hh)
  · rename_i o ho
    simp only [ho] at hh
    split
    · rename_i hw
      simp only [hw, if_true] at hh
      exact hh.imp (wp_endAt h) fun ⟨x, y⟩ => ⟨x, endAt_letsOut y⟩
    · rename_i hw; simp only [hw] at hh; exact h _ _ hh
theorem wpAny_endAt {md : Region.Mode} (hR : ∀ a w, R a w → Q .normal a w) : ∀ (fuel : Nat) (listed : Array Bool) (a : Act) (w : World), wpAny P md ops (endAt R Q) fuel listed a w → wpAny P md ops Q fuel listed a w
  | 0, listed, a, w, h => ⟨h.1, hR a w h.2⟩
  | fuel + 1, listed, a, w, h => ⟨fun h0 => hR a w (h.1 h0), fun i hi => wpOp_endAt (fun a w => wpAny_endAt hR fuel _ a w) (h.2 i hi)⟩
theorem wpAnyG_endAt {md : Region.Mode} (hR : ∀ a w, R a w → Q .normal a w) : ∀ (fuel : Nat) (S : World → Prop) (listed : Array Bool) (C : World → Prop) (a : Act), wpAnyG P md ops (endAt R Q) S fuel listed C a → wpAnyG P md ops Q S fuel listed C a
  | 0, S, listed, C, a, h => ⟨h.1, fun w hw => hR a w (h.2 w hw)⟩
  | fuel + 1, S, listed, C, a, h => by
    intro hD
    rcases h hD with ⟨h0, h1⟩ | ⟨h0, h1⟩
    · refine .inl ⟨fun hr w hw => hR a w (h0 hr w hw), fun i hi w hw => wpOp_endAt (fun a w hh => ?_) (h1 i hi w hw)⟩
      obtain ⟨C', S', x1, x2, x3, x4, x5⟩ := hh
      exact ⟨C', S', x1, x2, x3, x4, wpAnyG_endAt hR fuel S' _ C' a x5⟩
    · exact .inr ⟨h0, fun w hw => wpAny_endAt hR _ _ a w (h1 w hw)⟩
theorem WD.cut2 (env : Nat → Nat → Env) (cls : Nat → Nat → World → Prop) {fuel : Nat} {listed : Array Bool} (hafter : ∀ g0 g1, WK n (Q .normal) (env g0 g1) (cls g0 g1))
    (h : WD P n ops (endAt (fun a w => ∃ g0 g1, Has n a (env g0 g1) ∧ cls g0 g1 w) Q) S fuel listed σ C) : WD P n ops Q S fuel listed σ C := fun hCS a ha =>
  wpAnyG_endAt (fun a w ⟨g0, g1, h1, h2⟩ => hafter g0 g1 a w h1 h2) _ _ _ _ _ (h hCS a ha)
theorem WQ.cutEnd2 {env : Nat → Nat → Env} {cls : Nat → Nat → World → Prop} (g0 g1 : Nat) (hs : Sub σ (env g0 g1)) (hd : ∀ w, C w → cls g0 g1 w) : WK n (endAt (fun a w => ∃ g0 g1, Has n a (env g0 g1) ∧ cls g0 g1 w) Q .normal) σ C := fun a w ha hw => ⟨g0, g1, ha.sub hs, hd w hw⟩
instance {R : Act → World → Prop} {Q : Exit → Act → World → Prop} [h : POk Q] : POk (endAt R Q) := ⟨h.ok⟩
variable {M : Nat → Prop} {w0 : World} {H : List Res}
def eachOkL (ops : Array Oper) (is : List Nat) (m k : Nat) : Bool := Region.ready .any ops (lst m k) == is && !is.isEmpty
theorem WD.each (is : List Nat) (k : Nat) {m fuel : Nat} (hr : eachOkL ops is m k = true)
    (h : ∀ i ∈ is, ∃ oi k', ops[i]? = some oi ∧ oi.guard = none ∧ (lst m k).setIfInBounds i true = lst m k' ∧
      EV P n oi σ (Own M w0 H) (fun a' w' => ∃ C' S' : World → Prop, Closed C' ∧ (∀ x, C' x → S' x) ∧ (∀ x, S' x → S x) ∧ C' w' ∧ wpAnyG P .any ops Q S' fuel (lst m k') C' a') Q) : WD P n ops Q S (fuel + 1) (lst m k) σ (Own M w0 H) := fun hCS a ha => by
  unfold eachOkL at hr
  simp only [Bool.and_eq_true, beq_iff_eq, Bool.not_eq_true', List.isEmpty_eq_false_iff] at hr
  intro _
  refine .inl ⟨fun h0 => absurd (hr.1.symm.trans h0) hr.2, fun j hj w hw => ?_⟩
  rw [hr.1] at hj
  obtain ⟨oi, k', h1, h2, h3, h4⟩ := h j hj
  rw [h3]
  unfold Go.wpOp
  simp only [h1]
  rw [if_pos (by simp [Region.wanted, h2])]
  exact h4 a w ha hw
def stepOkL (ops : Array Oper) (i m k k' : Nat) : Bool := (lst m k).setIfInBounds i true == lst m k'
theorem WD.two {o1 o2 : Oper} (i1 i2 k k1 k2 : Nat) {m fuel : Nat} (hr : eachOkL ops [i1, i2] m k = true) (h1 : ops[i1]? = some o1) (h2 : ops[i2]? = some o2) (g1 : o1.guard = none) (g2 : o2.guard = none) (s1 : stepOkL ops i1 m k k1 = true) (s2 : stepOkL ops i2 m k k2 = true)
    (e1 : EV P n o1 σ (Own M w0 H) (fun a' w' => ∃ C' S' : World → Prop, Closed C' ∧ (∀ x, C' x → S' x) ∧ (∀ x, S' x → S x) ∧ C' w' ∧ wpAnyG P .any ops Q S' fuel (lst m k1) C' a') Q)
    (e2 : EV P n o2 σ (Own M w0 H) (fun a' w' => ∃ C' S' : World → Prop, Closed C' ∧ (∀ x, C' x → S' x) ∧ (∀ x, S' x → S x) ∧ C' w' ∧ wpAnyG P .any ops Q S' fuel (lst m k2) C' a') Q) : WD P n ops Q S (fuel + 1) (lst m k) σ (Own M w0 H) :=
  WD.each [i1, i2] k hr fun i hi => by
    simp only [List.mem_cons, List.not_mem_nil, or_false] at hi
    unfold stepOkL at s1 s2
    rcases hi with rfl | rfl
    · exact ⟨o1, k1, h1, g1, beq_iff_eq.1 s1, e1⟩
    · exact ⟨o2, k2, h2, g2, beq_iff_eq.1 s2, e2⟩
end
end Go.Rd
end
