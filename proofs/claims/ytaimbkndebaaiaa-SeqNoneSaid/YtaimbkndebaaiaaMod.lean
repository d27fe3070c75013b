/- Plain models of code: programs in Option, loops by their rounds; short rules for printed walks. -/
import Derived.Test.YtaimbkndebaaiaaCell
import Derived.Test.YtaimbkndebaaiaaStr
import Derived.Test.YtaimbkndebaaiaaModel
namespace Go.Rd
open Go.RowKit
set_option linter.unusedVariables false
set_option linter.unusedSimpArgs false

/-! ### Programs -/
def ck {α : Type} (c : Prop) [Decidable c] (x : Option α) : Option α := if c then x else none
theorem ck_some {α : Type} {c : Prop} [Decidable c] {x : Option α} {r : α} (h : ck c x = some r) : c ∧ x = some r := by
  unfold ck at h; split at h
  · exact ⟨‹_›, h⟩
  · cases h
theorem ck_yes {α : Type} {c : Prop} [Decidable c] {x : Option α} (h : c) : ck c x = x := if_pos h
def br {α : Type} (c : Bool) (a b : α) : α := bif c then a else b
theorem br_t {α : Type} {c : Bool} {a b r : α} (h : c = true) (hm : br c a b = r) : a = r := by subst h; exact hm
theorem br_f {α : Type} {c : Bool} {a b r : α} (h : c = false) (hm : br c a b = r) : b = r := by subst h; exact hm
@[simp] theorem br_true {α : Type} {a b : α} : br true a b = a := rfl
@[simp] theorem br_false {α : Type} {a b : α} : br false a b = b := rfl
def bd {α β : Type} (m : Option α) (k : α → Option β) : Option β := m.bind k
theorem bd_some {α β : Type} {m : Option α} {k : α → Option β} {r : β} (h : bd m k = some r) : ∃ x, m = some x ∧ k x = some r := by
  unfold bd at h
  cases m with
  | none => cases h
  | some x => exact ⟨x, rfl, h⟩
@[simp] theorem bd_ret {α β : Type} {x : α} {k : α → Option β} : bd (some x) k = k x := rfl
def bdG {α β : Type} [Inhabited α] (g : Bool) (m : Option α) (k : α → Option β) : Option β := br g (bd m k) (k default)
theorem bdG_some {α β : Type} [Inhabited α] {g : Bool} {m : Option α} {k : α → Option β} {r : β} (h : bdG g m k = some r) : ∃ x, (g = true → m = some x) ∧ k x = some r := by
  cases g with
  | true => obtain ⟨x, h1, h2⟩ := bd_some h; exact ⟨x, fun _ => h1, h2⟩
  | false => exact ⟨default, fun h => (by cases h), h⟩

inductive Stp (γ ρ : Type) where
  | next (g : γ)
  | brk (g : γ)
  | ret (r : ρ)
inductive Out (γ ρ : Type) where
  | go (g : γ)
  | ret (r : ρ)
def Out.on {γ ρ δ : Type} (o : Out γ ρ) (A : γ → δ) (B : ρ → δ) : δ :=
  match o with
  | .go g => A g
  | .ret r => B r
@[simp] theorem Out.on_go {γ ρ δ : Type} {g : γ} {A : γ → δ} {B : ρ → δ} : Out.on (.go g) A B = A g := rfl
@[simp] theorem Out.on_ret {γ ρ δ : Type} {r : ρ} {A : γ → δ} {B : ρ → δ} : Out.on (.ret r) A B = B r := rfl
def Stp.fin {γ ρ : Type} (s : Stp γ ρ) (k : γ → Option (Out γ ρ)) : Option (Out γ ρ) :=
  match s with
  | .next g => k g
  | .brk g => some (.go g)
  | .ret r => some (.ret r)
def iter {γ ρ : Type} (f : γ → Option (Stp γ ρ)) : Nat → γ → Option (Out γ ρ)
  | 0, _ => none
  | n + 1, g => bd (f g) fun s => s.fin (iter f n)
theorem iter_step {γ ρ : Type} {f : γ → Option (Stp γ ρ)} {n : Nat} {g : γ} {o : Out γ ρ} (h : iter f n g = some o) : ∃ m s, n = m + 1 ∧ f g = some s ∧ s.fin (iter f m) = some o := by
  cases n with
  | zero => cases h
  | succ m => obtain ⟨s, h1, h2⟩ := bd_some h; exact ⟨m, s, rfl, h1, h2⟩
theorem iter_det {γ ρ : Type} {f : γ → Option (Stp γ ρ)} : ∀ {n m : Nat} {g : γ} {o p : Out γ ρ}, iter f n g = some o → iter f m g = some p → o = p
  | 0, _, _, _, _, h, _ => by cases h
  | n + 1, 0, _, _, _, _, h => by cases h
  | n + 1, m + 1, g, o, p, h, h' => by
    obtain ⟨s, h1, h2⟩ := bd_some h
    obtain ⟨s', h1', h2'⟩ := bd_some h'
    rw [h1] at h1'; cases h1'
    cases s with
    | next g' => exact iter_det h2 h2'
    | brk g' => simp only [Stp.fin, Option.some.injEq] at h2 h2'; rw [← h2, h2']
    | ret r => simp only [Stp.fin, Option.some.injEq] at h2 h2'; rw [← h2, h2']
open Classical in
/-- A loop: what its rounds come to, if they end. -/
noncomputable def lp {γ ρ : Type} (f : γ → Option (Stp γ ρ)) (g : γ) : Option (Out γ ρ) := if h : ∃ n o, iter f n g = some o then some (Classical.choose (Classical.choose_spec h)) else none
theorem lp_of_iter {γ ρ : Type} {f : γ → Option (Stp γ ρ)} {g : γ} {n : Nat} {o : Out γ ρ} (h : iter f n g = some o) : lp f g = some o := by
  have hex : ∃ n o, iter f n g = some o := ⟨n, o, h⟩
  unfold lp
  rw [dif_pos hex]
  exact congrArg some (iter_det (Classical.choose_spec (Classical.choose_spec hex)) h)
theorem lp_some {γ ρ : Type} {f : γ → Option (Stp γ ρ)} {g : γ} {o : Out γ ρ} (h : lp f g = some o) : ∃ n, iter f n g = some o := by
  unfold lp at h
  split at h
  · rename_i hex
    have := Classical.choose_spec (Classical.choose_spec hex)
    cases h
    exact ⟨_, this⟩
  · cases h
/-- Every run of a loop: an invariant that is kept, a measure that falls. -/
theorem lp_rule {γ ρ : Type} {f : γ → Option (Stp γ ρ)} (I : γ → Prop) (μ : γ → Nat) (Q : Out γ ρ → Prop)
    (step : ∀ g, I g → ∃ s, f g = some s ∧ match s with
      | .next g' => I g' ∧ μ g' < μ g
      | .brk g' => Q (.go g')
      | .ret r => Q (.ret r)) (g : γ) (h0 : I g) : ∃ o, lp f g = some o ∧ Q o := by
  have key : ∀ n g, μ g < n → I g → ∃ m o, iter f m g = some o ∧ Q o := by
    intro n
    induction n with
    | zero => intro g h; omega
    | succ n ih =>
      intro g hn hI
      obtain ⟨s, h1, h2⟩ := step g hI
      cases s with
      | next g' =>
        obtain ⟨m, o, h3, h4⟩ := ih g' (by have := h2.2; omega) h2.1
        exact ⟨m + 1, o, by simp [iter, h1, Stp.fin, h3], h4⟩
      | brk g' => exact ⟨1, .go g', by simp [iter, h1, Stp.fin], h2⟩
      | ret r => exact ⟨1, .ret r, by simp [iter, h1, Stp.fin], h2⟩
  obtain ⟨m, o, h1, h2⟩ := key (μ g + 1) g (by omega) h0
  exact ⟨o, lp_of_iter h1, h2⟩
/-- A loop whose run is known round by round. -/
theorem lp_next {γ ρ : Type} {f : γ → Option (Stp γ ρ)} {g g' : γ} (h : f g = some (.next g')) : lp f g = lp f g' := by
  cases ho : lp f g' with
  | some o =>
    obtain ⟨n, hn⟩ := lp_some ho
    exact lp_of_iter (n := n + 1) (by simp [iter, h, Stp.fin, hn])
  | none =>
    cases hq : lp f g with
    | none => rfl
    | some o =>
      obtain ⟨n, hn⟩ := lp_some hq
      obtain ⟨m, s, rfl, h1, h2⟩ := iter_step hn
      rw [h] at h1; cases h1
      rw [lp_of_iter h2] at ho; cases ho
theorem lp_brk {γ ρ : Type} {f : γ → Option (Stp γ ρ)} {g g' : γ} (h : f g = some (.brk g')) : lp f g = some (.go g') := lp_of_iter (n := 1) (by simp [iter, h, Stp.fin])
theorem lp_ret {γ ρ : Type} {f : γ → Option (Stp γ ρ)} {g : γ} {r : ρ} (h : f g = some (.ret r)) : lp f g = some (.ret r) := lp_of_iter (n := 1) (by simp [iter, h, Stp.fin])
/-- What stands at the end of a round. -/
theorem up_brk {γ ρ : Type} {s : Stp γ ρ} {k : γ → Option (Out γ ρ)} {g : γ} {o : Out γ ρ} (h : some (Stp.brk g) = some s) (hn : s.fin k = some o) : o = .go g := by cases h; cases hn; rfl
theorem up_ret {γ ρ : Type} {s : Stp γ ρ} {k : γ → Option (Out γ ρ)} {r : ρ} {o : Out γ ρ} (h : some (Stp.ret r) = some s) (hn : s.fin k = some o) : o = .ret r := by cases h; cases hn; rfl
theorem up_next {γ ρ : Type} {s : Stp γ ρ} {k : γ → Option (Out γ ρ)} {g : γ} {o : Out γ ρ} (h : some (Stp.next g) = some s) (hn : s.fin k = some o) : k g = some o := by cases h; exact hn
theorem eq_of_some {α : Type} {a b : α} (h : some a = some b) : b = a := by cases h; rfl

/-! ### What is checked -/
def IR (n : Int) : Prop := -9223372036854775808 ≤ n ∧ n ≤ 9223372036854775807
instance (n : Int) : Decidable (IR n) := by unfold IR; infer_instance
def IX (i n : Int) : Prop := 0 ≤ i ∧ i < n
instance (i n : Int) : Decidable (IX i n) := by unfold IX; infer_instance
/-- How long a slice that grows may become. -/
def AL (n bytes : Nat) : Prop := n ≤ maxLen ∧ n * bytes ≤ 140737488355328
instance (n b : Nat) : Decidable (AL n b) := by unfold AL; infer_instance
def ln {α : Type} (xs : List α) : Int := xs.length
def ele {α : Type} [Inhabited α] (xs : List α) (i : Int) : α := xs.getD i.toNat default
/-- .. with element i another one. -/
def upd {α : Type} (xs : List α) (i : Int) (x : α) : List α := xs.set i.toNat x
/-- xs[i:j] -/
def sub {α : Type} (xs : List α) (i j : Int) : List α := (xs.drop i.toNat).take (j - i).toNat

instance : Inhabited Rf := ⟨Rf.zero⟩
instance : Inhabited Stm := ⟨Stm.zero⟩
instance : Inhabited Lp := ⟨⟨[], [], []⟩⟩
instance : Inhabited Tgt := ⟨⟨0, 0, 0, 0, 0, 0, 0⟩⟩

theorem Base.rfl {w : World} : Base noM w w := fun a v h => ⟨h, fun x => x⟩
theorem SliceLen.ix {v : Value} {n : Nat} (h : SliceLen v n) {sz : Nat} {i m : Int} (hm : m = n) (hi : IX i m) : ∃ p, ElemP v i sz p := by subst hm; exact h.elem sz i hi.1 hi.2
theorem SliceLen.ixG {v : Value} {n : Nat} (h : SliceLen v n) {sz : Nat} {i m : Int} (hm : m = n) {g : Prop} (hi : g → IX i m) : ∃ p, g → ElemP v i sz p := by
  by_cases hg : g
  · obtain ⟨p, hp⟩ := h.ix hm (hi hg)
    exact ⟨p, fun _ => hp⟩
  · exact ⟨default, fun h => absurd h hg⟩
theorem Arr.ele {α : Type} [Inhabited α] {w : World} {v : Value} {sz : Nat} {xs : List α} {enc : α → List Value} {i : Int} {p : Addr} (h : Arr w v sz (xs.map enc)) (hp : ElemP v i sz p) (hi : IX i (ln xs)) : CellsAt w p (enc (ele xs i)) 0 := by
  refine h.row i.toNat _ p ?_ (by rwa [Int.toNat_of_nonneg hi.1])
  have hlt : i.toNat < xs.length := by have := hi.1; have := hi.2; unfold ln at this; omega
  simp [Rd.ele, List.getD_eq_getElem?_getD, List.getElem?_eq_getElem hlt]
theorem ln_len {α : Type} {xs : List α} : ln xs = (xs.length : Int) := rfl

/-! ### Short rules -/
section
variable {P : Program} {n : Nat} {ops : Array Oper} {Q : Exit → Act → World → Prop} {rest : List Oper} {oi : Oper} {σ : Env} {M : Nat → Prop} {w0 k0 k : World} {H : List Res} {v : Value} {d : Nat} {S : World → Prop}

theorem WL.q (hd : oi.dst = some d) (hg : oi.guard = none) (hn : Nat.blt d n = true) (hq : QV P oi σ (Own M w0 H) v) (kk : WK n (wpList P ops Q rest) ((d, (true, v)) :: σ) (Own M w0 H)) : WK n (wpList P ops Q (oi :: rest)) σ (Own M w0 H) :=
  WL.quiet Own.closed hd (by simpa [Nat.blt_eq] using hn) (hg ▸ GuardIs.none) (fun _ => hq) kk
theorem WL.g {G : Bool} (hd : oi.dst = some d) (hn : Nat.blt d n = true) (hG : GuardIs ops σ oi.guard G) (hq : G = true → QV P oi σ (Own M w0 H) v) (kk : WK n (wpList P ops Q rest) ((d, (G, v)) :: σ) (Own M w0 H)) : WK n (wpList P ops Q (oi :: rest)) σ (Own M w0 H) :=
  WL.quiet Own.closed hd (by simpa [Nat.blt_eq] using hn) hG hq kk

class POk (Q : Exit → Act → World → Prop) : Prop where
  ok : PanicOk Q
instance {fn : Func} {R : Ending → World → Prop} : POk (bodyPost P fn R) := ⟨PanicOk.body⟩
instance {K : Act → World → Prop} [h : POk Q] : POk (Exit.then K Q) := ⟨PanicOk.then h.ok⟩
instance {id : Nat} [h : POk Q] : POk (Exit.inBlock id Q) := ⟨PanicOk.block h.ok⟩

/-- The first i of m. -/
def upto (i m : Nat) : Array Bool := (Array.range m).map (fun j => Nat.blt j i)
theorem blt_succ {i j : Nat} (h : i ≠ j) : Nat.blt j (i + 1) = Nat.blt j i := by
  apply Bool.eq_iff_iff.2; rw [Nat.blt_eq, Nat.blt_eq]; omega
theorem upto_set {i m : Nat} : (upto i m).setIfInBounds i true = upto (i + 1) m := by
  have hs : ∀ i, (upto i m).size = m := fun i => by simp [upto]
  have hg : ∀ i j, (upto i m)[j]? = if j < m then some (Nat.blt j i) else none := fun i j => by
    by_cases h : j < m <;> simp [upto, h]
  apply Array.ext_getElem?
  intro j
  rw [Array.getElem?_setIfInBounds, hs, hg, hg]
  by_cases e : i = j
  · subst e
    have h5 : Nat.blt i (i + 1) = true := by rw [Nat.blt_eq]; omega
    simp [h5]
  · simp [e, blt_succ e]
theorem upto_zero {m : Nat} : Array.replicate m false = upto 0 m := by
  apply Array.ext
  · simp [upto]
  · intro j h1 h2
    simp only [upto, Array.getElem_replicate, Array.getElem_map, Array.getElem_range]
    cases j <;> rfl
/-- May operation i come up, the first i being through? -/
def takeOk (ops : Array Oper) (i m : Nat) : Bool := Region.noSelect ops && Region.free .any ops (upto i m) i && (Region.ready .any ops (upto i m)).contains i
theorem WC.dr {id m : Nat} (hm : P.follows .mixedOrders = true) (hs : ops.size = m) (hCS : ∀ w, Own M w0 H w → S w) (h : WD P n ops Q S m (upto 0 m) σ (Own M w0 H)) : WK n ((Code.region id ops true).wp P Q) σ (Own M w0 H) := by
  subst hs; rw [← upto_zero] at h; exact WC.drawn hm Own.closed hCS h
theorem WD.q (i : Nat) {m fuel : Nat} [hQ : POk Q] (hi : ops[i]? = some oi) (ht : takeOk ops i m = true) (hd : oi.dst = some d) (hg : oi.guard = none) (hn : Nat.blt d n = true) (hq : QV P oi σ S v)
    (kk : WD P n ops Q S fuel (upto (i + 1) m) ((d, (true, v)) :: σ) (Own M w0 H)) : WD P n ops Q S (fuel + 1) (upto i m) σ (Own M w0 H) := by
  unfold takeOk at ht
  simp only [Bool.and_eq_true] at ht
  exact WD.take i hi ht.1.1 ht.1.2 ht.2 upto_set hQ.ok Own.closed hd (by simpa [Nat.blt_eq] using hn) (hg ▸ GuardIs.none) (fun _ => hq) kk
theorem WD.g (i : Nat) {m fuel : Nat} {G : Bool} [hQ : POk Q] (hi : ops[i]? = some oi) (ht : takeOk ops i m = true) (hd : oi.dst = some d) (hn : Nat.blt d n = true) (hG : GuardIs ops σ oi.guard G) (hq : G = true → QV P oi σ S v)
    (kk : WD P n ops Q S fuel (upto (i + 1) m) ((d, (G, v)) :: σ) (Own M w0 H)) : WD P n ops Q S (fuel + 1) (upto i m) σ (Own M w0 H) := by
  unfold takeOk at ht
  simp only [Bool.and_eq_true] at ht
  exact WD.take i hi ht.1.1 ht.1.2 ht.2 upto_set hQ.ok Own.closed hd (by simpa [Nat.blt_eq] using hn) hG hq kk
def onlyOk (ops : Array Oper) (i m : Nat) : Bool := Region.ready .any ops (upto i m) == [i]
theorem WD.o (i : Nat) {m fuel : Nat} (hi : ops[i]? = some oi) (ht : onlyOk ops i m = true) (hg : oi.guard = none)
    (h : EV P n oi σ (Own M w0 H) (fun a' w' => ∃ C' S' : World → Prop, Closed C' ∧ (∀ x, C' x → S' x) ∧ (∀ x, S' x → S x) ∧ C' w' ∧ wpAnyG P .any ops Q S' fuel (upto (i + 1) m) C' a') Q) : WD P n ops Q S (fuel + 1) (upto i m) σ (Own M w0 H) :=
  WD.only i hi (by unfold onlyOk at ht; exact beq_iff_eq.1 ht) upto_set hg h
theorem WD.b {l : Array Bool} {fuel : Nat} {τ : Env} {H' : List Res} (hs : ∀ w, Own M w0 H w → Own M w0 H' w) (hss : ∀ w, Own M w0 H' w → S w) (h : WD P n ops Q (Own M w0 H') fuel l τ (Own M w0 H)) :
    WK n (fun a' w' => ∃ C' S' : World → Prop, Closed C' ∧ (∀ x, C' x → S' x) ∧ (∀ x, S' x → S x) ∧ C' w' ∧ wpAnyG P .any ops Q S' fuel l C' a') τ (Own M w0 H) := WD.behind Own.closed hs hss h
/-! .. in whatever order: what is through is told by a number's bits -/
def lst (m k : Nat) : Array Bool := (Array.range m).map (fun j => k.testBit j)
def takeOkL (ops : Array Oper) (i m k k' : Nat) : Bool := Region.noSelect ops && Region.free .any ops (lst m k) i && (Region.ready .any ops (lst m k)).contains i && ((lst m k).setIfInBounds i true == lst m k')
theorem WD.qL (i k k' : Nat) {m fuel : Nat} [hQ : POk Q] (hi : ops[i]? = some oi) (ht : takeOkL ops i m k k' = true) (hd : oi.dst = some d) (hg : oi.guard = none) (hn : Nat.blt d n = true) (hq : QV P oi σ S v)
    (kk : WD P n ops Q S fuel (lst m k') ((d, (true, v)) :: σ) (Own M w0 H)) : WD P n ops Q S (fuel + 1) (lst m k) σ (Own M w0 H) := by
  unfold takeOkL at ht
  simp only [Bool.and_eq_true] at ht
  exact WD.take i hi ht.1.1.1 ht.1.1.2 ht.1.2 (beq_iff_eq.1 ht.2) hQ.ok Own.closed hd (by simpa [Nat.blt_eq] using hn) (hg ▸ GuardIs.none) (fun _ => hq) kk
theorem WD.gL (i k k' : Nat) {m fuel : Nat} {G : Bool} [hQ : POk Q] (hi : ops[i]? = some oi) (ht : takeOkL ops i m k k' = true) (hd : oi.dst = some d) (hn : Nat.blt d n = true) (hG : GuardIs ops σ oi.guard G) (hq : G = true → QV P oi σ S v)
    (kk : WD P n ops Q S fuel (lst m k') ((d, (G, v)) :: σ) (Own M w0 H)) : WD P n ops Q S (fuel + 1) (lst m k) σ (Own M w0 H) := by
  unfold takeOkL at ht
  simp only [Bool.and_eq_true] at ht
  exact WD.take i hi ht.1.1.1 ht.1.1.2 ht.1.2 (beq_iff_eq.1 ht.2) hQ.ok Own.closed hd (by simpa [Nat.blt_eq] using hn) hG hq kk
def onlyOkL (ops : Array Oper) (i m k k' : Nat) : Bool := Region.ready .any ops (lst m k) == [i] && ((lst m k).setIfInBounds i true == lst m k')
theorem WD.oL (i k k' : Nat) {m fuel : Nat} (hi : ops[i]? = some oi) (ht : onlyOkL ops i m k k' = true) (hg : oi.guard = none)
    (h : EV P n oi σ (Own M w0 H) (fun a' w' => ∃ C' S' : World → Prop, Closed C' ∧ (∀ x, C' x → S' x) ∧ (∀ x, S' x → S x) ∧ C' w' ∧ wpAnyG P .any ops Q S' fuel (lst m k') C' a') Q) : WD P n ops Q S (fuel + 1) (lst m k) σ (Own M w0 H) := by
  unfold onlyOkL at ht
  simp only [Bool.and_eq_true] at ht
  exact WD.only i hi (beq_iff_eq.1 ht.1) (beq_iff_eq.1 ht.2) hg h
def lastOkL (ops : Array Oper) (i m k k' : Nat) : Bool := Region.ready .any ops (lst m k) == [i] && (match ops[i]? with | some oi => tailB ops oi (lst m k) | none => false) && (Region.ready .any ops (lst m k') == [] && ((lst m k).setIfInBounds i true == lst m k'))
theorem WD.lL (i k k' : Nat) {m fuel : Nat} (hi : ops[i]? = some oi) (ht : lastOkL ops i m k k' = true) (hg : oi.guard = none) (h : EV P n oi σ (Own M w0 H) (Q .normal) Q) : WD P n ops Q S (fuel + 1) (lst m k) σ (Own M w0 H) := by
  unfold lastOkL at ht
  rw [hi] at ht
  simp only [Bool.and_eq_true, beq_iff_eq] at ht
  exact WD.last i hi ht.1.1 ht.1.2 (by rw [ht.2.2]; exact ht.2.1) hg h
theorem WD.eL {m k fuel : Nat} (hr : (Region.ready .any ops (lst m k) == []) = true) (kk : WK n (Q .normal) σ (Own M w0 H)) : WD P n ops Q S fuel (lst m k) σ (Own M w0 H) := WD.done (beq_iff_eq.1 hr) kk
theorem WD.toL {m i fuel : Nat} (k : Nat) (h : (upto i m == lst m k) = true) (kk : WD P n ops Q S fuel (lst m k) σ (Own M w0 H)) : WD P n ops Q S fuel (upto i m) σ (Own M w0 H) := by rw [beq_iff_eq.1 h]; exact kk
def lastOk (ops : Array Oper) (i m : Nat) : Bool := Region.ready .any ops (upto i m) == [i] && (match ops[i]? with | some oi => tailB ops oi (upto i m) | none => false) && Region.ready .any ops (upto (i + 1) m) == []
theorem WD.l (i : Nat) {m fuel : Nat} (hi : ops[i]? = some oi) (ht : lastOk ops i m = true) (hg : oi.guard = none) (h : EV P n oi σ (Own M w0 H) (Q .normal) Q) : WD P n ops Q S (fuel + 1) (upto i m) σ (Own M w0 H) := by
  unfold lastOk at ht
  rw [hi] at ht
  simp only [Bool.and_eq_true, beq_iff_eq] at ht
  exact WD.last i hi ht.1.1 ht.1.2 (by rw [upto_set]; exact ht.2) hg h
theorem WD.e {m fuel : Nat} (hr : (Region.ready .any ops (upto m m) == []) = true) (kk : WK n (Q .normal) σ (Own M w0 H)) : WD P n ops Q S fuel (upto m m) σ (Own M w0 H) := WD.done (beq_iff_eq.1 hr) kk
end
end Go.Rd
