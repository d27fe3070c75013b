/- Regions in which several operations that change memory may come up: each order leads to one class. -/
import Derived.Test.YtaimbkndebaaiabDyn
namespace Go.Rd
open Go.RowKit
set_option linter.unusedVariables false
set_option linter.unusedSimpArgs false
section
variable {P : Program} {n : Nat} {ops : Array Oper} {σ : Env} {C S : World → Prop}
/-- Q, but for the region's end. -/
def endAt (R : Act → World → Prop) (Q : Exit → Act → World → Prop) : Exit → Act → World → Prop
  | .normal => R
  | e => Q e
variable {Q : Exit → Act → World → Prop} {R : Act → World → Prop}
theorem endAt_letsOut (h : LetsOut (endAt R Q)) : LetsOut Q := let ⟨a, w, x⟩ := h; ⟨a, w, x⟩
theorem wp_endAt {o : Oper} {a : Act} {w : World} {K K' : Act → World → Prop} (h : ∀ a w, K a w → K' a w) (hh : o.wp P a w K (endAt R Q)) : o.wp P a w K' Q := by
  unfold Oper.wp at *
  generalize (execOp a.eval o).run P w = r at *
  cases r with
  | ok n w' =>
    cases n <;> simp only [Oper.upon] at hh ⊢ <;>
      first
        | exact h _ _ hh
        | exact Calls.mono hh (fun e w'' he => by cases e <;> first | exact h _ _ he | exact he | exact endAt_letsOut he)
        | exact Rows.mono hh (fun _ _ he => h _ _ he)
  | halt x w' => cases x <;> simp only [Oper.upon] at hh ⊢ <;> exact hh
theorem wpOp_endAt {i : Nat} {a : Act} {w : World} {K K' : Act → World → Prop} (h : ∀ a w, K a w → K' a w) (hh : wpOp P ops (endAt R Q) i K a w) : wpOp P ops Q i K' a w := by
  unfold Go.wpOp at *
  split
  · exact h _ _ (by simpa [*] using hh)
  · rename_i o ho
    simp only [ho] at hh
    split
    · rename_i hw
      simp only [hw, if_true] at hh
      exact hh.imp (wp_endAt h) fun ⟨x, y⟩ => ⟨x, endAt_letsOut y⟩
    · rename_i hw; simp only [hw] at hh; exact h _ _ hh
theorem wpAny_endAt {md : Region.Mode} (hR : ∀ a w, R a w → Q .normal a w) : ∀ (fuel : Nat) (listed : Array Bool) (a : Act) (w : World), wpAny P md ops (endAt R Q) fuel listed a w → wpAny P md ops Q fuel listed a w
  | 0, listed, a, w, h => ⟨h.1, hR a w h.2⟩
  | fuel + 1, listed, a, w, h => ⟨fun h0 => hR a w (h.1 h0), fun i hi => wpOp_endAt (fun a w => wpAny_endAt hR fuel _ a w) (h.2 i hi)⟩
theorem wpAnyG_endAt {md : Region.Mode} (hR : ∀ a w, R a w → Q .normal a w) : ∀ (fuel : Nat) (S : World → Prop) (listed : Array Bool) (C : World → Prop) (a : Act), wpAnyG P md ops (endAt R Q) S fuel listed C a → wpAnyG P md ops Q S fuel listed C a
  | 0, S, listed, C, a, h => ⟨h.1, fun w hw => hR a w (h.2 w hw)⟩
  | fuel + 1, S, listed, C, a, h => by
    rcases h with ⟨h0, h1⟩ | ⟨h0, h1⟩
    · refine .inl ⟨fun hr w hw => hR a w (h0 hr w hw), fun i hi w hw => wpOp_endAt (fun a w hh => ?_) (h1 i hi w hw)⟩
      obtain ⟨C', S', x1, x2, x3, x4, x5⟩ := hh
      exact ⟨C', S', x1, x2, x3, x4, wpAnyG_endAt hR fuel S' _ C' a x5⟩
    · exact .inr ⟨h0, fun w hw => wpAny_endAt hR _ _ a w (h1 w hw)⟩
/-- Whatever the order, the region's end has an environment and a class of one shape. -/
theorem WD.cut1 (env : Nat → Env) (cls : Nat → World → Prop) {fuel : Nat} {listed : Array Bool} (hafter : ∀ g0, WK n (Q .normal) (env g0) (cls g0))
    (h : WD P n ops (endAt (fun a w => ∃ g0, Has n a (env g0) ∧ cls g0 w) Q) S fuel listed σ C) : WD P n ops Q S fuel listed σ C := fun hCS a ha =>
  wpAnyG_endAt (fun a w ⟨g0, h1, h2⟩ => hafter g0 a w h1 h2) _ _ _ _ _ (h hCS a ha)
theorem WQ.cutEnd1 {env : Nat → Env} {cls : Nat → World → Prop} (g0 : Nat) (hs : Sub σ (env g0)) (hd : ∀ w, C w → cls g0 w) : WK n (endAt (fun a w => ∃ g0, Has n a (env g0) ∧ cls g0 w) Q .normal) σ C := fun a w ha hw => ⟨g0, ha.sub hs, hd w hw⟩
/-- Whatever the order, the region's end has an environment and a class of one shape. -/
theorem WD.cut2 (env : Nat → Nat → Env) (cls : Nat → Nat → World → Prop) {fuel : Nat} {listed : Array Bool} (hafter : ∀ g0 g1, WK n (Q .normal) (env g0 g1) (cls g0 g1))
    (h : WD P n ops (endAt (fun a w => ∃ g0 g1, Has n a (env g0 g1) ∧ cls g0 g1 w) Q) S fuel listed σ C) : WD P n ops Q S fuel listed σ C := fun hCS a ha =>
  wpAnyG_endAt (fun a w ⟨g0, g1, h1, h2⟩ => hafter g0 g1 a w h1 h2) _ _ _ _ _ (h hCS a ha)
theorem WQ.cutEnd2 {env : Nat → Nat → Env} {cls : Nat → Nat → World → Prop} (g0 g1 : Nat) (hs : Sub σ (env g0 g1)) (hd : ∀ w, C w → cls g0 g1 w) : WK n (endAt (fun a w => ∃ g0 g1, Has n a (env g0 g1) ∧ cls g0 g1 w) Q .normal) σ C := fun a w ha hw => ⟨g0, g1, ha.sub hs, hd w hw⟩
/-- Whatever the order, the region's end has an environment and a class of one shape. -/
theorem WD.cut3 (env : Nat → Nat → Nat → Env) (cls : Nat → Nat → Nat → World → Prop) {fuel : Nat} {listed : Array Bool} (hafter : ∀ g0 g1 g2, WK n (Q .normal) (env g0 g1 g2) (cls g0 g1 g2))
    (h : WD P n ops (endAt (fun a w => ∃ g0 g1 g2, Has n a (env g0 g1 g2) ∧ cls g0 g1 g2 w) Q) S fuel listed σ C) : WD P n ops Q S fuel listed σ C := fun hCS a ha =>
  wpAnyG_endAt (fun a w ⟨g0, g1, g2, h1, h2⟩ => hafter g0 g1 g2 a w h1 h2) _ _ _ _ _ (h hCS a ha)
theorem WQ.cutEnd3 {env : Nat → Nat → Nat → Env} {cls : Nat → Nat → Nat → World → Prop} (g0 g1 g2 : Nat) (hs : Sub σ (env g0 g1 g2)) (hd : ∀ w, C w → cls g0 g1 g2 w) : WK n (endAt (fun a w => ∃ g0 g1 g2, Has n a (env g0 g1 g2) ∧ cls g0 g1 g2 w) Q .normal) σ C := fun a w ha hw => ⟨g0, g1, g2, ha.sub hs, hd w hw⟩
/-- Whatever the order, the region's end has an environment and a class of one shape. -/
theorem WD.cut4 (env : Nat → Nat → Nat → Nat → Env) (cls : Nat → Nat → Nat → Nat → World → Prop) {fuel : Nat} {listed : Array Bool} (hafter : ∀ g0 g1 g2 g3, WK n (Q .normal) (env g0 g1 g2 g3) (cls g0 g1 g2 g3))
    (h : WD P n ops (endAt (fun a w => ∃ g0 g1 g2 g3, Has n a (env g0 g1 g2 g3) ∧ cls g0 g1 g2 g3 w) Q) S fuel listed σ C) : WD P n ops Q S fuel listed σ C := fun hCS a ha =>
  wpAnyG_endAt (fun a w ⟨g0, g1, g2, g3, h1, h2⟩ => hafter g0 g1 g2 g3 a w h1 h2) _ _ _ _ _ (h hCS a ha)
theorem WQ.cutEnd4 {env : Nat → Nat → Nat → Nat → Env} {cls : Nat → Nat → Nat → Nat → World → Prop} (g0 g1 g2 g3 : Nat) (hs : Sub σ (env g0 g1 g2 g3)) (hd : ∀ w, C w → cls g0 g1 g2 g3 w) : WK n (endAt (fun a w => ∃ g0 g1 g2 g3, Has n a (env g0 g1 g2 g3) ∧ cls g0 g1 g2 g3 w) Q .normal) σ C := fun a w ha hw => ⟨g0, g1, g2, g3, ha.sub hs, hd w hw⟩
instance {R : Act → World → Prop} {Q : Exit → Act → World → Prop} [h : POk Q] : POk (endAt R Q) := ⟨h.ok⟩
variable {M : Nat → Prop} {w0 : World} {H : List Res}
def eachOkL (ops : Array Oper) (is : List Nat) (m k : Nat) : Bool := Region.ready .any ops (lst m k) == is && !is.isEmpty
/-- Several may come up: each of them. -/
theorem WD.each (is : List Nat) (k : Nat) {m fuel : Nat} (hr : eachOkL ops is m k = true)
    (h : ∀ i ∈ is, ∃ oi k', ops[i]? = some oi ∧ oi.guard = none ∧ (lst m k).setIfInBounds i true = lst m k' ∧
      EV P n oi σ (Own M w0 H) (fun a' w' => ∃ C' S' : World → Prop, Closed C' ∧ (∀ x, C' x → S' x) ∧ (∀ x, S' x → S x) ∧ C' w' ∧ wpAnyG P .any ops Q S' fuel (lst m k') C' a') Q) : WD P n ops Q S (fuel + 1) (lst m k) σ (Own M w0 H) := fun hCS a ha => by
  unfold eachOkL at hr
  simp only [Bool.and_eq_true, beq_iff_eq, Bool.not_eq_true', List.isEmpty_eq_false_iff] at hr
  refine .inl ⟨fun h0 => absurd (hr.1.symm.trans h0) hr.2, fun j hj w hw => ?_⟩
  rw [hr.1] at hj
  obtain ⟨oi, k', h1, h2, h3, h4⟩ := h j hj
  rw [h3]
  unfold Go.wpOp
  simp only [h1]
  rw [if_pos (by simp [Region.wanted, h2])]
  exact h4 a w ha hw
def stepOkL (ops : Array Oper) (i m k k' : Nat) : Bool := (lst m k).setIfInBounds i true == lst m k'
theorem WD.two {o1 o2 : Oper} (i1 i2 k k1 k2 : Nat) {m fuel : Nat} (hr : eachOkL ops [i1, i2] m k = true) (h1 : ops[i1]? = some o1) (h2 : ops[i2]? = some o2) (g1 : o1.guard = none) (g2 : o2.guard = none) (s1 : stepOkL ops i1 m k k1 = true) (s2 : stepOkL ops i2 m k k2 = true)
    (e1 : EV P n o1 σ (Own M w0 H) (fun a' w' => ∃ C' S' : World → Prop, Closed C' ∧ (∀ x, C' x → S' x) ∧ (∀ x, S' x → S x) ∧ C' w' ∧ wpAnyG P .any ops Q S' fuel (lst m k1) C' a') Q)
    (e2 : EV P n o2 σ (Own M w0 H) (fun a' w' => ∃ C' S' : World → Prop, Closed C' ∧ (∀ x, C' x → S' x) ∧ (∀ x, S' x → S x) ∧ C' w' ∧ wpAnyG P .any ops Q S' fuel (lst m k2) C' a') Q) : WD P n ops Q S (fuel + 1) (lst m k) σ (Own M w0 H) :=
  WD.each [i1, i2] k hr fun i hi => by
    simp only [List.mem_cons, List.not_mem_nil, or_false] at hi
    unfold stepOkL at s1 s2
    rcases hi with rfl | rfl
    · exact ⟨o1, k1, h1, g1, beq_iff_eq.1 s1, e1⟩
    · exact ⟨o2, k2, h2, g2, beq_iff_eq.1 s2, e2⟩
end
end Go.Rd
