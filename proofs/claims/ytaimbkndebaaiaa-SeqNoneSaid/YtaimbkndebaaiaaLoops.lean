/- Loops and joins with several ghosts. -/
import Derived.Test.YtaimbkndebaaiaaMod
namespace Go.Rd
open Go.RowKit
set_option linter.unusedVariables false
set_option linter.unusedSimpArgs false
section
variable {P : Program} {n : Nat} {Q : Exit → Act → World → Prop} {σ : Env} {M : Nat → Prop} {w0 : World} {H : List Res} {id : Nat}

theorem WC.bloop {Γ : Type} (τ : Env) (S : Γ → Env) (R : Γ → List Res) {H2 : List Res} (I : Γ → Nat → Prop) (J : Γ → Prop) (g₀ : Γ) (n₀ : Nat) {c : Code} (h₀ : I g₀ n₀) (hs : Sub σ (S g₀ ++ τ)) (hd : ∀ w, Own M w0 H w → Own M w0 (R g₀ ++ H2) w)
    (rest : ∀ g, J g → WK n (Q .normal) (S g ++ τ) (Own M w0 (R g ++ H2)))
    (round : ∀ g m, I g m → WK n (c.wp P (Exit.then (fun a' w' => ∃ g' m', I g' m' ∧ m' < m ∧ Has n a' (S g' ++ τ) ∧ Own M w0 (R g' ++ H2) w') (Exit.inBlock id (Exit.then (fun a' w' => ∃ g', J g' ∧ Has n a' (S g' ++ τ) ∧ Own M w0 (R g' ++ H2) w') Q)))) (S g ++ τ) (Own M w0 (R g ++ H2))) :
    WK n ((Code.block id (Code.loop c)).wp P Q) σ (Own M w0 H) := by
  refine WC.block ?_
  have hl : WK n ((Code.loop c).wp P (Exit.inBlock id (Exit.then (fun a' w' => ∃ g', J g' ∧ Has n a' (S g' ++ τ) ∧ Own M w0 (R g' ++ H2) w') Q))) σ (Own M w0 H) :=
    WC.loop (Γ := Γ × Nat) (fun g => S g.1 ++ τ) (fun g => Own M w0 (R g.1 ++ H2)) (fun g => I g.1 g.2) (fun g => g.2) (g₀, n₀) h₀ hs hd fun g hg a w ha hw => by
      refine wp_mono (round g.1 g.2 hg a w ha hw) fun e a' w' h => ?_
      cases e <;> first | exact h | (obtain ⟨g', m', h1, h2, h3, h4⟩ := h; exact ⟨(g', m'), h1, h2, h3, h4⟩)
  have key : ∀ a w, Exit.then (fun a' w' => ∃ g', J g' ∧ Has n a' (S g' ++ τ) ∧ Own M w0 (R g' ++ H2) w') Q .normal a w → Q .normal a w := fun a w ⟨g', h1, h2, h3⟩ => rest g' h1 a w h2 h3
  intro a w ha hw
  refine wp_mono (hl a w ha hw) fun e a' w' h => ?_
  cases e with
  | exit j =>
    simp only [Exit.inBlock] at h ⊢
    split at h
    · rename_i hj; rw [if_pos hj]; exact key _ _ h
    · rename_i hj; rw [if_neg hj]; exact h
  | normal => exact key _ _ h
  | _ => exact h
theorem WC.join {Γ : Type} (τ : Env) (S : Γ → Env) (R : Γ → List Res) {H2 : List Res} (J : Γ → Prop) {x y : Code} (hτ : Sub σ τ) (hd : ∀ w, Own M w0 H w → Own M w0 H2 w)
    (rest : ∀ g, J g → WK n (y.wp P Q) (S g ++ τ) (Own M w0 (R g ++ H2)))
    (hx : WK n (x.wp P (Exit.then (fun a' w' => ∃ g', J g' ∧ Has n a' (S g' ++ τ) ∧ Own M w0 (R g' ++ H2) w') Q)) σ (Own M w0 H)) : WK n ((x.seq y).wp P Q) σ (Own M w0 H) := by
  refine WC.seq ?_
  intro a w ha hw
  refine wp_mono (hx a w ha hw) fun e a' w' h => ?_
  cases e with
  | normal => obtain ⟨g', h1, h2, h3⟩ := h; exact rest g' h1 a' w' h2 h3
  | _ => exact h

theorem WC.bloop0  (τ : Env) (S : Env) (R : List Res) {H2 : List Res} (I : Nat → Prop) (J : Prop)  (n₀ : Nat) {c : Code} (h₀ : I n₀) (hs : Sub σ (S ++ τ)) (hd : ∀ w, Own M w0 H w → Own M w0 (R ++ H2) w)
    (rest : J → WK n (Q .normal) (S ++ τ) (Own M w0 (R ++ H2)))
    (round : ∀  m, I m → WK n (c.wp P (Exit.then (fun a' w' => ∃  m', I m' ∧ m' < m ∧ Has n a' (S ++ τ) ∧ Own M w0 (R ++ H2) w') (Exit.inBlock id (Exit.then (fun a' w' => J ∧ Has n a' (S ++ τ) ∧ Own M w0 (R ++ H2) w') Q)))) (S ++ τ) (Own M w0 (R ++ H2))) :
    WK n ((Code.block id (Code.loop c)).wp P Q) σ (Own M w0 H) :=
  WC.bloop (Γ := Unit) τ (fun g => S) (fun g => R) (fun g m => I m) (fun g => J) () n₀ h₀ hs hd (fun g h => rest h) fun g m hg a w ha hw => by
    refine wp_mono (round m hg a w ha hw) fun e a' w' h => ?_
    have key : ∀ a w, (fun a' w' => J ∧ Has n a' (S ++ τ) ∧ Own M w0 (R ++ H2) w') a w → (fun a' w' => ∃ g' : Unit, J ∧ Has n a' (S ++ τ) ∧ Own M w0 (R ++ H2) w') a w := fun a w ⟨h1, h2, h3⟩ => ⟨(), h1, h2, h3⟩
    cases e with
    | normal => obtain ⟨m', h1, h2, h3, h4⟩ := h; exact ⟨(), m', h1, h2, h3, h4⟩
    | exit j =>
      simp only [Exit.then, Exit.inBlock] at h ⊢
      split at h
      · rename_i hj; rw [if_pos hj]; exact key _ _ h
      · rename_i hj; rw [if_neg hj]; exact h
    | _ => exact h
theorem WQ.again0  {S : Env} {R : List Res} {H2 : List Res} {I : Nat → Prop} {m : Nat} {τ : Env}  (m' : Nat) (hI : I m') (hm : m' < m) (hs : Sub σ (S ++ τ)) (hd : ∀ w, Own M w0 H w → Own M w0 (R ++ H2) w) :
    WK n (Exit.then (fun a' w' => ∃  m', I m' ∧ m' < m ∧ Has n a' (S ++ τ) ∧ Own M w0 (R ++ H2) w') Q .normal) σ (Own M w0 H) := fun a w ha hw => ⟨m', hI, hm, ha.sub hs, hd w hw⟩
theorem WQ.out0  {S : Env} {R : List Res} {H2 : List Res} {J : Prop} {τ : Env}  (hJ : J) (hs : Sub σ (S ++ τ)) (hd : ∀ w, Own M w0 H w → Own M w0 (R ++ H2) w) :
    WK n (Exit.then (fun a' w' => J ∧ Has n a' (S ++ τ) ∧ Own M w0 (R ++ H2) w') Q .normal) σ (Own M w0 H) := fun a w ha hw => ⟨hJ, ha.sub hs, hd w hw⟩
theorem WC.join0  (τ : Env) (S : Env) (R : List Res) {H2 : List Res} (J : Prop) {x y : Code} (hτ : Sub σ τ) (hd : ∀ w, Own M w0 H w → Own M w0 H2 w)
    (rest : J → WK n (y.wp P Q) (S ++ τ) (Own M w0 (R ++ H2)))
    (hx : WK n (x.wp P (Exit.then (fun a' w' => J ∧ Has n a' (S ++ τ) ∧ Own M w0 (R ++ H2) w') Q)) σ (Own M w0 H)) : WK n ((x.seq y).wp P Q) σ (Own M w0 H) :=
  WC.join (Γ := Unit) τ (fun g => S) (fun g => R) (fun g => J) hτ hd (fun g h => rest h) fun a w ha hw => by
    refine wp_mono (hx a w ha hw) fun e a' w' h => ?_
    cases e with
    | normal => obtain ⟨h1, h2, h3⟩ := h; exact ⟨(), h1, h2, h3⟩
    | _ => exact h
theorem WC.bloop1 {Γ0 : Type} (τ : Env) (S : Γ0 → Env) (R : Γ0 → List Res) {H2 : List Res} (I : Γ0 → Nat → Prop) (J : Γ0 → Prop) (i0 : Γ0) (n₀ : Nat) {c : Code} (h₀ : I i0 n₀) (hs : Sub σ (S i0 ++ τ)) (hd : ∀ w, Own M w0 H w → Own M w0 (R i0 ++ H2) w)
    (rest : ∀ g0, J g0 → WK n (Q .normal) (S g0 ++ τ) (Own M w0 (R g0 ++ H2)))
    (round : ∀ g0 m, I g0 m → WK n (c.wp P (Exit.then (fun a' w' => ∃ g0' m', I g0' m' ∧ m' < m ∧ Has n a' (S g0' ++ τ) ∧ Own M w0 (R g0' ++ H2) w') (Exit.inBlock id (Exit.then (fun a' w' => ∃ g0', J g0' ∧ Has n a' (S g0' ++ τ) ∧ Own M w0 (R g0' ++ H2) w') Q)))) (S g0 ++ τ) (Own M w0 (R g0 ++ H2))) :
    WK n ((Code.block id (Code.loop c)).wp P Q) σ (Own M w0 H) :=
  WC.bloop (Γ := Γ0) τ (fun g => S g) (fun g => R g) (fun g m => I g m) (fun g => J g) i0 n₀ h₀ hs hd (fun g h => rest g h) fun g m hg a w ha hw => by
    refine wp_mono (round g m hg a w ha hw) fun e a' w' h => ?_
    have key : ∀ a w, (fun a' w' => ∃ g0', J g0' ∧ Has n a' (S g0' ++ τ) ∧ Own M w0 (R g0' ++ H2) w') a w → (fun a' w' => ∃ g' : Γ0, J g' ∧ Has n a' (S g' ++ τ) ∧ Own M w0 (R g' ++ H2) w') a w := fun a w ⟨g0', h1, h2, h3⟩ => ⟨g0', h1, h2, h3⟩
    cases e with
    | normal => obtain ⟨g0', m', h1, h2, h3, h4⟩ := h; exact ⟨g0', m', h1, h2, h3, h4⟩
    | exit j =>
      simp only [Exit.then, Exit.inBlock] at h ⊢
      split at h
      · rename_i hj; rw [if_pos hj]; exact key _ _ h
      · rename_i hj; rw [if_neg hj]; exact h
    | _ => exact h
theorem WQ.again1 {Γ0 : Type} {S : Γ0 → Env} {R : Γ0 → List Res} {H2 : List Res} {I : Γ0 → Nat → Prop} {m : Nat} {τ : Env} (i0 : Γ0) (m' : Nat) (hI : I i0 m') (hm : m' < m) (hs : Sub σ (S i0 ++ τ)) (hd : ∀ w, Own M w0 H w → Own M w0 (R i0 ++ H2) w) :
    WK n (Exit.then (fun a' w' => ∃ g0' m', I g0' m' ∧ m' < m ∧ Has n a' (S g0' ++ τ) ∧ Own M w0 (R g0' ++ H2) w') Q .normal) σ (Own M w0 H) := fun a w ha hw => ⟨i0, m', hI, hm, ha.sub hs, hd w hw⟩
theorem WQ.out1 {Γ0 : Type} {S : Γ0 → Env} {R : Γ0 → List Res} {H2 : List Res} {J : Γ0 → Prop} {τ : Env} (i0 : Γ0) (hJ : J i0) (hs : Sub σ (S i0 ++ τ)) (hd : ∀ w, Own M w0 H w → Own M w0 (R i0 ++ H2) w) :
    WK n (Exit.then (fun a' w' => ∃ g0', J g0' ∧ Has n a' (S g0' ++ τ) ∧ Own M w0 (R g0' ++ H2) w') Q .normal) σ (Own M w0 H) := fun a w ha hw => ⟨i0, hJ, ha.sub hs, hd w hw⟩
theorem WC.join1 {Γ0 : Type} (τ : Env) (S : Γ0 → Env) (R : Γ0 → List Res) {H2 : List Res} (J : Γ0 → Prop) {x y : Code} (hτ : Sub σ τ) (hd : ∀ w, Own M w0 H w → Own M w0 H2 w)
    (rest : ∀ g0, J g0 → WK n (y.wp P Q) (S g0 ++ τ) (Own M w0 (R g0 ++ H2)))
    (hx : WK n (x.wp P (Exit.then (fun a' w' => ∃ g0', J g0' ∧ Has n a' (S g0' ++ τ) ∧ Own M w0 (R g0' ++ H2) w') Q)) σ (Own M w0 H)) : WK n ((x.seq y).wp P Q) σ (Own M w0 H) :=
  WC.join (Γ := Γ0) τ (fun g => S g) (fun g => R g) (fun g => J g) hτ hd (fun g h => rest g h) fun a w ha hw => by
    refine wp_mono (hx a w ha hw) fun e a' w' h => ?_
    cases e with
    | normal => obtain ⟨g0', h1, h2, h3⟩ := h; exact ⟨g0', h1, h2, h3⟩
    | _ => exact h
theorem WC.bloop2 {Γ0 : Type} {Γ1 : Type} (τ : Env) (S : Γ0 → Γ1 → Env) (R : Γ0 → Γ1 → List Res) {H2 : List Res} (I : Γ0 → Γ1 → Nat → Prop) (J : Γ0 → Γ1 → Prop) (i0 : Γ0) (i1 : Γ1) (n₀ : Nat) {c : Code} (h₀ : I i0 i1 n₀) (hs : Sub σ (S i0 i1 ++ τ)) (hd : ∀ w, Own M w0 H w → Own M w0 (R i0 i1 ++ H2) w)
    (rest : ∀ g0 g1, J g0 g1 → WK n (Q .normal) (S g0 g1 ++ τ) (Own M w0 (R g0 g1 ++ H2)))
    (round : ∀ g0 g1 m, I g0 g1 m → WK n (c.wp P (Exit.then (fun a' w' => ∃ g0' g1' m', I g0' g1' m' ∧ m' < m ∧ Has n a' (S g0' g1' ++ τ) ∧ Own M w0 (R g0' g1' ++ H2) w') (Exit.inBlock id (Exit.then (fun a' w' => ∃ g0' g1', J g0' g1' ∧ Has n a' (S g0' g1' ++ τ) ∧ Own M w0 (R g0' g1' ++ H2) w') Q)))) (S g0 g1 ++ τ) (Own M w0 (R g0 g1 ++ H2))) :
    WK n ((Code.block id (Code.loop c)).wp P Q) σ (Own M w0 H) :=
  WC.bloop (Γ := Γ0 × Γ1) τ (fun g => S (g.1) (g.2)) (fun g => R (g.1) (g.2)) (fun g m => I (g.1) (g.2) m) (fun g => J (g.1) (g.2)) (i0, i1) n₀ h₀ hs hd (fun g h => rest (g.1) (g.2) h) fun g m hg a w ha hw => by
    refine wp_mono (round (g.1) (g.2) m hg a w ha hw) fun e a' w' h => ?_
    have key : ∀ a w, (fun a' w' => ∃ g0' g1', J g0' g1' ∧ Has n a' (S g0' g1' ++ τ) ∧ Own M w0 (R g0' g1' ++ H2) w') a w → (fun a' w' => ∃ g' : Γ0 × Γ1, J (g'.1) (g'.2) ∧ Has n a' (S (g'.1) (g'.2) ++ τ) ∧ Own M w0 (R (g'.1) (g'.2) ++ H2) w') a w := fun a w ⟨g0', g1', h1, h2, h3⟩ => ⟨(g0', g1'), h1, h2, h3⟩
    cases e with
    | normal => obtain ⟨g0', g1', m', h1, h2, h3, h4⟩ := h; exact ⟨(g0', g1'), m', h1, h2, h3, h4⟩
    | exit j =>
      simp only [Exit.then, Exit.inBlock] at h ⊢
      split at h
      · rename_i hj; rw [if_pos hj]; exact key _ _ h
      · rename_i hj; rw [if_neg hj]; exact h
    | _ => exact h
theorem WQ.again2 {Γ0 : Type} {Γ1 : Type} {S : Γ0 → Γ1 → Env} {R : Γ0 → Γ1 → List Res} {H2 : List Res} {I : Γ0 → Γ1 → Nat → Prop} {m : Nat} {τ : Env} (i0 : Γ0) (i1 : Γ1) (m' : Nat) (hI : I i0 i1 m') (hm : m' < m) (hs : Sub σ (S i0 i1 ++ τ)) (hd : ∀ w, Own M w0 H w → Own M w0 (R i0 i1 ++ H2) w) :
    WK n (Exit.then (fun a' w' => ∃ g0' g1' m', I g0' g1' m' ∧ m' < m ∧ Has n a' (S g0' g1' ++ τ) ∧ Own M w0 (R g0' g1' ++ H2) w') Q .normal) σ (Own M w0 H) := fun a w ha hw => ⟨i0, i1, m', hI, hm, ha.sub hs, hd w hw⟩
theorem WQ.out2 {Γ0 : Type} {Γ1 : Type} {S : Γ0 → Γ1 → Env} {R : Γ0 → Γ1 → List Res} {H2 : List Res} {J : Γ0 → Γ1 → Prop} {τ : Env} (i0 : Γ0) (i1 : Γ1) (hJ : J i0 i1) (hs : Sub σ (S i0 i1 ++ τ)) (hd : ∀ w, Own M w0 H w → Own M w0 (R i0 i1 ++ H2) w) :
    WK n (Exit.then (fun a' w' => ∃ g0' g1', J g0' g1' ∧ Has n a' (S g0' g1' ++ τ) ∧ Own M w0 (R g0' g1' ++ H2) w') Q .normal) σ (Own M w0 H) := fun a w ha hw => ⟨i0, i1, hJ, ha.sub hs, hd w hw⟩
theorem WC.join2 {Γ0 : Type} {Γ1 : Type} (τ : Env) (S : Γ0 → Γ1 → Env) (R : Γ0 → Γ1 → List Res) {H2 : List Res} (J : Γ0 → Γ1 → Prop) {x y : Code} (hτ : Sub σ τ) (hd : ∀ w, Own M w0 H w → Own M w0 H2 w)
    (rest : ∀ g0 g1, J g0 g1 → WK n (y.wp P Q) (S g0 g1 ++ τ) (Own M w0 (R g0 g1 ++ H2)))
    (hx : WK n (x.wp P (Exit.then (fun a' w' => ∃ g0' g1', J g0' g1' ∧ Has n a' (S g0' g1' ++ τ) ∧ Own M w0 (R g0' g1' ++ H2) w') Q)) σ (Own M w0 H)) : WK n ((x.seq y).wp P Q) σ (Own M w0 H) :=
  WC.join (Γ := Γ0 × Γ1) τ (fun g => S (g.1) (g.2)) (fun g => R (g.1) (g.2)) (fun g => J (g.1) (g.2)) hτ hd (fun g h => rest (g.1) (g.2) h) fun a w ha hw => by
    refine wp_mono (hx a w ha hw) fun e a' w' h => ?_
    cases e with
    | normal => obtain ⟨g0', g1', h1, h2, h3⟩ := h; exact ⟨(g0', g1'), h1, h2, h3⟩
    | _ => exact h
theorem WC.bloop3 {Γ0 : Type} {Γ1 : Type} {Γ2 : Type} (τ : Env) (S : Γ0 → Γ1 → Γ2 → Env) (R : Γ0 → Γ1 → Γ2 → List Res) {H2 : List Res} (I : Γ0 → Γ1 → Γ2 → Nat → Prop) (J : Γ0 → Γ1 → Γ2 → Prop) (i0 : Γ0) (i1 : Γ1) (i2 : Γ2) (n₀ : Nat) {c : Code} (h₀ : I i0 i1 i2 n₀) (hs : Sub σ (S i0 i1 i2 ++ τ)) (hd : ∀ w, Own M w0 H w → Own M w0 (R i0 i1 i2 ++ H2) w)
    (rest : ∀ g0 g1 g2, J g0 g1 g2 → WK n (Q .normal) (S g0 g1 g2 ++ τ) (Own M w0 (R g0 g1 g2 ++ H2)))
    (round : ∀ g0 g1 g2 m, I g0 g1 g2 m → WK n (c.wp P (Exit.then (fun a' w' => ∃ g0' g1' g2' m', I g0' g1' g2' m' ∧ m' < m ∧ Has n a' (S g0' g1' g2' ++ τ) ∧ Own M w0 (R g0' g1' g2' ++ H2) w') (Exit.inBlock id (Exit.then (fun a' w' => ∃ g0' g1' g2', J g0' g1' g2' ∧ Has n a' (S g0' g1' g2' ++ τ) ∧ Own M w0 (R g0' g1' g2' ++ H2) w') Q)))) (S g0 g1 g2 ++ τ) (Own M w0 (R g0 g1 g2 ++ H2))) :
    WK n ((Code.block id (Code.loop c)).wp P Q) σ (Own M w0 H) :=
  WC.bloop (Γ := Γ0 × Γ1 × Γ2) τ (fun g => S (g.1) (g.2.1) (g.2.2)) (fun g => R (g.1) (g.2.1) (g.2.2)) (fun g m => I (g.1) (g.2.1) (g.2.2) m) (fun g => J (g.1) (g.2.1) (g.2.2)) (i0, i1, i2) n₀ h₀ hs hd (fun g h => rest (g.1) (g.2.1) (g.2.2) h) fun g m hg a w ha hw => by
    refine wp_mono (round (g.1) (g.2.1) (g.2.2) m hg a w ha hw) fun e a' w' h => ?_
    have key : ∀ a w, (fun a' w' => ∃ g0' g1' g2', J g0' g1' g2' ∧ Has n a' (S g0' g1' g2' ++ τ) ∧ Own M w0 (R g0' g1' g2' ++ H2) w') a w → (fun a' w' => ∃ g' : Γ0 × Γ1 × Γ2, J (g'.1) (g'.2.1) (g'.2.2) ∧ Has n a' (S (g'.1) (g'.2.1) (g'.2.2) ++ τ) ∧ Own M w0 (R (g'.1) (g'.2.1) (g'.2.2) ++ H2) w') a w := fun a w ⟨g0', g1', g2', h1, h2, h3⟩ => ⟨(g0', g1', g2'), h1, h2, h3⟩
    cases e with
    | normal => obtain ⟨g0', g1', g2', m', h1, h2, h3, h4⟩ := h; exact ⟨(g0', g1', g2'), m', h1, h2, h3, h4⟩
    | exit j =>
      simp only [Exit.then, Exit.inBlock] at h ⊢
      split at h
      · rename_i hj; rw [if_pos hj]; exact key _ _ h
      · rename_i hj; rw [if_neg hj]; exact h
    | _ => exact h
theorem WQ.again3 {Γ0 : Type} {Γ1 : Type} {Γ2 : Type} {S : Γ0 → Γ1 → Γ2 → Env} {R : Γ0 → Γ1 → Γ2 → List Res} {H2 : List Res} {I : Γ0 → Γ1 → Γ2 → Nat → Prop} {m : Nat} {τ : Env} (i0 : Γ0) (i1 : Γ1) (i2 : Γ2) (m' : Nat) (hI : I i0 i1 i2 m') (hm : m' < m) (hs : Sub σ (S i0 i1 i2 ++ τ)) (hd : ∀ w, Own M w0 H w → Own M w0 (R i0 i1 i2 ++ H2) w) :
    WK n (Exit.then (fun a' w' => ∃ g0' g1' g2' m', I g0' g1' g2' m' ∧ m' < m ∧ Has n a' (S g0' g1' g2' ++ τ) ∧ Own M w0 (R g0' g1' g2' ++ H2) w') Q .normal) σ (Own M w0 H) := fun a w ha hw => ⟨i0, i1, i2, m', hI, hm, ha.sub hs, hd w hw⟩
theorem WQ.out3 {Γ0 : Type} {Γ1 : Type} {Γ2 : Type} {S : Γ0 → Γ1 → Γ2 → Env} {R : Γ0 → Γ1 → Γ2 → List Res} {H2 : List Res} {J : Γ0 → Γ1 → Γ2 → Prop} {τ : Env} (i0 : Γ0) (i1 : Γ1) (i2 : Γ2) (hJ : J i0 i1 i2) (hs : Sub σ (S i0 i1 i2 ++ τ)) (hd : ∀ w, Own M w0 H w → Own M w0 (R i0 i1 i2 ++ H2) w) :
    WK n (Exit.then (fun a' w' => ∃ g0' g1' g2', J g0' g1' g2' ∧ Has n a' (S g0' g1' g2' ++ τ) ∧ Own M w0 (R g0' g1' g2' ++ H2) w') Q .normal) σ (Own M w0 H) := fun a w ha hw => ⟨i0, i1, i2, hJ, ha.sub hs, hd w hw⟩
theorem WC.join3 {Γ0 : Type} {Γ1 : Type} {Γ2 : Type} (τ : Env) (S : Γ0 → Γ1 → Γ2 → Env) (R : Γ0 → Γ1 → Γ2 → List Res) {H2 : List Res} (J : Γ0 → Γ1 → Γ2 → Prop) {x y : Code} (hτ : Sub σ τ) (hd : ∀ w, Own M w0 H w → Own M w0 H2 w)
    (rest : ∀ g0 g1 g2, J g0 g1 g2 → WK n (y.wp P Q) (S g0 g1 g2 ++ τ) (Own M w0 (R g0 g1 g2 ++ H2)))
    (hx : WK n (x.wp P (Exit.then (fun a' w' => ∃ g0' g1' g2', J g0' g1' g2' ∧ Has n a' (S g0' g1' g2' ++ τ) ∧ Own M w0 (R g0' g1' g2' ++ H2) w') Q)) σ (Own M w0 H)) : WK n ((x.seq y).wp P Q) σ (Own M w0 H) :=
  WC.join (Γ := Γ0 × Γ1 × Γ2) τ (fun g => S (g.1) (g.2.1) (g.2.2)) (fun g => R (g.1) (g.2.1) (g.2.2)) (fun g => J (g.1) (g.2.1) (g.2.2)) hτ hd (fun g h => rest (g.1) (g.2.1) (g.2.2) h) fun a w ha hw => by
    refine wp_mono (hx a w ha hw) fun e a' w' h => ?_
    cases e with
    | normal => obtain ⟨g0', g1', g2', h1, h2, h3⟩ := h; exact ⟨(g0', g1', g2'), h1, h2, h3⟩
    | _ => exact h
theorem WC.bloop4 {Γ0 : Type} {Γ1 : Type} {Γ2 : Type} {Γ3 : Type} (τ : Env) (S : Γ0 → Γ1 → Γ2 → Γ3 → Env) (R : Γ0 → Γ1 → Γ2 → Γ3 → List Res) {H2 : List Res} (I : Γ0 → Γ1 → Γ2 → Γ3 → Nat → Prop) (J : Γ0 → Γ1 → Γ2 → Γ3 → Prop) (i0 : Γ0) (i1 : Γ1) (i2 : Γ2) (i3 : Γ3) (n₀ : Nat) {c : Code} (h₀ : I i0 i1 i2 i3 n₀) (hs : Sub σ (S i0 i1 i2 i3 ++ τ)) (hd : ∀ w, Own M w0 H w → Own M w0 (R i0 i1 i2 i3 ++ H2) w)
    (rest : ∀ g0 g1 g2 g3, J g0 g1 g2 g3 → WK n (Q .normal) (S g0 g1 g2 g3 ++ τ) (Own M w0 (R g0 g1 g2 g3 ++ H2)))
    (round : ∀ g0 g1 g2 g3 m, I g0 g1 g2 g3 m → WK n (c.wp P (Exit.then (fun a' w' => ∃ g0' g1' g2' g3' m', I g0' g1' g2' g3' m' ∧ m' < m ∧ Has n a' (S g0' g1' g2' g3' ++ τ) ∧ Own M w0 (R g0' g1' g2' g3' ++ H2) w') (Exit.inBlock id (Exit.then (fun a' w' => ∃ g0' g1' g2' g3', J g0' g1' g2' g3' ∧ Has n a' (S g0' g1' g2' g3' ++ τ) ∧ Own M w0 (R g0' g1' g2' g3' ++ H2) w') Q)))) (S g0 g1 g2 g3 ++ τ) (Own M w0 (R g0 g1 g2 g3 ++ H2))) :
    WK n ((Code.block id (Code.loop c)).wp P Q) σ (Own M w0 H) :=
  WC.bloop (Γ := Γ0 × Γ1 × Γ2 × Γ3) τ (fun g => S (g.1) (g.2.1) (g.2.2.1) (g.2.2.2)) (fun g => R (g.1) (g.2.1) (g.2.2.1) (g.2.2.2)) (fun g m => I (g.1) (g.2.1) (g.2.2.1) (g.2.2.2) m) (fun g => J (g.1) (g.2.1) (g.2.2.1) (g.2.2.2)) (i0, i1, i2, i3) n₀ h₀ hs hd (fun g h => rest (g.1) (g.2.1) (g.2.2.1) (g.2.2.2) h) fun g m hg a w ha hw => by
    refine wp_mono (round (g.1) (g.2.1) (g.2.2.1) (g.2.2.2) m hg a w ha hw) fun e a' w' h => ?_
    have key : ∀ a w, (fun a' w' => ∃ g0' g1' g2' g3', J g0' g1' g2' g3' ∧ Has n a' (S g0' g1' g2' g3' ++ τ) ∧ Own M w0 (R g0' g1' g2' g3' ++ H2) w') a w → (fun a' w' => ∃ g' : Γ0 × Γ1 × Γ2 × Γ3, J (g'.1) (g'.2.1) (g'.2.2.1) (g'.2.2.2) ∧ Has n a' (S (g'.1) (g'.2.1) (g'.2.2.1) (g'.2.2.2) ++ τ) ∧ Own M w0 (R (g'.1) (g'.2.1) (g'.2.2.1) (g'.2.2.2) ++ H2) w') a w := fun a w ⟨g0', g1', g2', g3', h1, h2, h3⟩ => ⟨(g0', g1', g2', g3'), h1, h2, h3⟩
    cases e with
    | normal => obtain ⟨g0', g1', g2', g3', m', h1, h2, h3, h4⟩ := h; exact ⟨(g0', g1', g2', g3'), m', h1, h2, h3, h4⟩
    | exit j =>
      simp only [Exit.then, Exit.inBlock] at h ⊢
      split at h
      · rename_i hj; rw [if_pos hj]; exact key _ _ h
      · rename_i hj; rw [if_neg hj]; exact h
    | _ => exact h
theorem WQ.again4 {Γ0 : Type} {Γ1 : Type} {Γ2 : Type} {Γ3 : Type} {S : Γ0 → Γ1 → Γ2 → Γ3 → Env} {R : Γ0 → Γ1 → Γ2 → Γ3 → List Res} {H2 : List Res} {I : Γ0 → Γ1 → Γ2 → Γ3 → Nat → Prop} {m : Nat} {τ : Env} (i0 : Γ0) (i1 : Γ1) (i2 : Γ2) (i3 : Γ3) (m' : Nat) (hI : I i0 i1 i2 i3 m') (hm : m' < m) (hs : Sub σ (S i0 i1 i2 i3 ++ τ)) (hd : ∀ w, Own M w0 H w → Own M w0 (R i0 i1 i2 i3 ++ H2) w) :
    WK n (Exit.then (fun a' w' => ∃ g0' g1' g2' g3' m', I g0' g1' g2' g3' m' ∧ m' < m ∧ Has n a' (S g0' g1' g2' g3' ++ τ) ∧ Own M w0 (R g0' g1' g2' g3' ++ H2) w') Q .normal) σ (Own M w0 H) := fun a w ha hw => ⟨i0, i1, i2, i3, m', hI, hm, ha.sub hs, hd w hw⟩
theorem WQ.out4 {Γ0 : Type} {Γ1 : Type} {Γ2 : Type} {Γ3 : Type} {S : Γ0 → Γ1 → Γ2 → Γ3 → Env} {R : Γ0 → Γ1 → Γ2 → Γ3 → List Res} {H2 : List Res} {J : Γ0 → Γ1 → Γ2 → Γ3 → Prop} {τ : Env} (i0 : Γ0) (i1 : Γ1) (i2 : Γ2) (i3 : Γ3) (hJ : J i0 i1 i2 i3) (hs : Sub σ (S i0 i1 i2 i3 ++ τ)) (hd : ∀ w, Own M w0 H w → Own M w0 (R i0 i1 i2 i3 ++ H2) w) :
    WK n (Exit.then (fun a' w' => ∃ g0' g1' g2' g3', J g0' g1' g2' g3' ∧ Has n a' (S g0' g1' g2' g3' ++ τ) ∧ Own M w0 (R g0' g1' g2' g3' ++ H2) w') Q .normal) σ (Own M w0 H) := fun a w ha hw => ⟨i0, i1, i2, i3, hJ, ha.sub hs, hd w hw⟩
theorem WC.join4 {Γ0 : Type} {Γ1 : Type} {Γ2 : Type} {Γ3 : Type} (τ : Env) (S : Γ0 → Γ1 → Γ2 → Γ3 → Env) (R : Γ0 → Γ1 → Γ2 → Γ3 → List Res) {H2 : List Res} (J : Γ0 → Γ1 → Γ2 → Γ3 → Prop) {x y : Code} (hτ : Sub σ τ) (hd : ∀ w, Own M w0 H w → Own M w0 H2 w)
    (rest : ∀ g0 g1 g2 g3, J g0 g1 g2 g3 → WK n (y.wp P Q) (S g0 g1 g2 g3 ++ τ) (Own M w0 (R g0 g1 g2 g3 ++ H2)))
    (hx : WK n (x.wp P (Exit.then (fun a' w' => ∃ g0' g1' g2' g3', J g0' g1' g2' g3' ∧ Has n a' (S g0' g1' g2' g3' ++ τ) ∧ Own M w0 (R g0' g1' g2' g3' ++ H2) w') Q)) σ (Own M w0 H)) : WK n ((x.seq y).wp P Q) σ (Own M w0 H) :=
  WC.join (Γ := Γ0 × Γ1 × Γ2 × Γ3) τ (fun g => S (g.1) (g.2.1) (g.2.2.1) (g.2.2.2)) (fun g => R (g.1) (g.2.1) (g.2.2.1) (g.2.2.2)) (fun g => J (g.1) (g.2.1) (g.2.2.1) (g.2.2.2)) hτ hd (fun g h => rest (g.1) (g.2.1) (g.2.2.1) (g.2.2.2) h) fun a w ha hw => by
    refine wp_mono (hx a w ha hw) fun e a' w' h => ?_
    cases e with
    | normal => obtain ⟨g0', g1', g2', g3', h1, h2, h3⟩ := h; exact ⟨(g0', g1', g2', g3'), h1, h2, h3⟩
    | _ => exact h
theorem WC.bloop5 {Γ0 : Type} {Γ1 : Type} {Γ2 : Type} {Γ3 : Type} {Γ4 : Type} (τ : Env) (S : Γ0 → Γ1 → Γ2 → Γ3 → Γ4 → Env) (R : Γ0 → Γ1 → Γ2 → Γ3 → Γ4 → List Res) {H2 : List Res} (I : Γ0 → Γ1 → Γ2 → Γ3 → Γ4 → Nat → Prop) (J : Γ0 → Γ1 → Γ2 → Γ3 → Γ4 → Prop) (i0 : Γ0) (i1 : Γ1) (i2 : Γ2) (i3 : Γ3) (i4 : Γ4) (n₀ : Nat) {c : Code} (h₀ : I i0 i1 i2 i3 i4 n₀) (hs : Sub σ (S i0 i1 i2 i3 i4 ++ τ)) (hd : ∀ w, Own M w0 H w → Own M w0 (R i0 i1 i2 i3 i4 ++ H2) w)
    (rest : ∀ g0 g1 g2 g3 g4, J g0 g1 g2 g3 g4 → WK n (Q .normal) (S g0 g1 g2 g3 g4 ++ τ) (Own M w0 (R g0 g1 g2 g3 g4 ++ H2)))
    (round : ∀ g0 g1 g2 g3 g4 m, I g0 g1 g2 g3 g4 m → WK n (c.wp P (Exit.then (fun a' w' => ∃ g0' g1' g2' g3' g4' m', I g0' g1' g2' g3' g4' m' ∧ m' < m ∧ Has n a' (S g0' g1' g2' g3' g4' ++ τ) ∧ Own M w0 (R g0' g1' g2' g3' g4' ++ H2) w') (Exit.inBlock id (Exit.then (fun a' w' => ∃ g0' g1' g2' g3' g4', J g0' g1' g2' g3' g4' ∧ Has n a' (S g0' g1' g2' g3' g4' ++ τ) ∧ Own M w0 (R g0' g1' g2' g3' g4' ++ H2) w') Q)))) (S g0 g1 g2 g3 g4 ++ τ) (Own M w0 (R g0 g1 g2 g3 g4 ++ H2))) :
    WK n ((Code.block id (Code.loop c)).wp P Q) σ (Own M w0 H) :=
  WC.bloop (Γ := Γ0 × Γ1 × Γ2 × Γ3 × Γ4) τ (fun g => S (g.1) (g.2.1) (g.2.2.1) (g.2.2.2.1) (g.2.2.2.2)) (fun g => R (g.1) (g.2.1) (g.2.2.1) (g.2.2.2.1) (g.2.2.2.2)) (fun g m => I (g.1) (g.2.1) (g.2.2.1) (g.2.2.2.1) (g.2.2.2.2) m) (fun g => J (g.1) (g.2.1) (g.2.2.1) (g.2.2.2.1) (g.2.2.2.2)) (i0, i1, i2, i3, i4) n₀ h₀ hs hd (fun g h => rest (g.1) (g.2.1) (g.2.2.1) (g.2.2.2.1) (g.2.2.2.2) h) fun g m hg a w ha hw => by
    refine wp_mono (round (g.1) (g.2.1) (g.2.2.1) (g.2.2.2.1) (g.2.2.2.2) m hg a w ha hw) fun e a' w' h => ?_
    have key : ∀ a w, (fun a' w' => ∃ g0' g1' g2' g3' g4', J g0' g1' g2' g3' g4' ∧ Has n a' (S g0' g1' g2' g3' g4' ++ τ) ∧ Own M w0 (R g0' g1' g2' g3' g4' ++ H2) w') a w → (fun a' w' => ∃ g' : Γ0 × Γ1 × Γ2 × Γ3 × Γ4, J (g'.1) (g'.2.1) (g'.2.2.1) (g'.2.2.2.1) (g'.2.2.2.2) ∧ Has n a' (S (g'.1) (g'.2.1) (g'.2.2.1) (g'.2.2.2.1) (g'.2.2.2.2) ++ τ) ∧ Own M w0 (R (g'.1) (g'.2.1) (g'.2.2.1) (g'.2.2.2.1) (g'.2.2.2.2) ++ H2) w') a w := fun a w ⟨g0', g1', g2', g3', g4', h1, h2, h3⟩ => ⟨(g0', g1', g2', g3', g4'), h1, h2, h3⟩
    cases e with
    | normal => obtain ⟨g0', g1', g2', g3', g4', m', h1, h2, h3, h4⟩ := h; exact ⟨(g0', g1', g2', g3', g4'), m', h1, h2, h3, h4⟩
    | exit j =>
      simp only [Exit.then, Exit.inBlock] at h ⊢
      split at h
      · rename_i hj; rw [if_pos hj]; exact key _ _ h
      · rename_i hj; rw [if_neg hj]; exact h
    | _ => exact h
theorem WQ.again5 {Γ0 : Type} {Γ1 : Type} {Γ2 : Type} {Γ3 : Type} {Γ4 : Type} {S : Γ0 → Γ1 → Γ2 → Γ3 → Γ4 → Env} {R : Γ0 → Γ1 → Γ2 → Γ3 → Γ4 → List Res} {H2 : List Res} {I : Γ0 → Γ1 → Γ2 → Γ3 → Γ4 → Nat → Prop} {m : Nat} {τ : Env} (i0 : Γ0) (i1 : Γ1) (i2 : Γ2) (i3 : Γ3) (i4 : Γ4) (m' : Nat) (hI : I i0 i1 i2 i3 i4 m') (hm : m' < m) (hs : Sub σ (S i0 i1 i2 i3 i4 ++ τ)) (hd : ∀ w, Own M w0 H w → Own M w0 (R i0 i1 i2 i3 i4 ++ H2) w) :
    WK n (Exit.then (fun a' w' => ∃ g0' g1' g2' g3' g4' m', I g0' g1' g2' g3' g4' m' ∧ m' < m ∧ Has n a' (S g0' g1' g2' g3' g4' ++ τ) ∧ Own M w0 (R g0' g1' g2' g3' g4' ++ H2) w') Q .normal) σ (Own M w0 H) := fun a w ha hw => ⟨i0, i1, i2, i3, i4, m', hI, hm, ha.sub hs, hd w hw⟩
theorem WQ.out5 {Γ0 : Type} {Γ1 : Type} {Γ2 : Type} {Γ3 : Type} {Γ4 : Type} {S : Γ0 → Γ1 → Γ2 → Γ3 → Γ4 → Env} {R : Γ0 → Γ1 → Γ2 → Γ3 → Γ4 → List Res} {H2 : List Res} {J : Γ0 → Γ1 → Γ2 → Γ3 → Γ4 → Prop} {τ : Env} (i0 : Γ0) (i1 : Γ1) (i2 : Γ2) (i3 : Γ3) (i4 : Γ4) (hJ : J i0 i1 i2 i3 i4) (hs : Sub σ (S i0 i1 i2 i3 i4 ++ τ)) (hd : ∀ w, Own M w0 H w → Own M w0 (R i0 i1 i2 i3 i4 ++ H2) w) :
    WK n (Exit.then (fun a' w' => ∃ g0' g1' g2' g3' g4', J g0' g1' g2' g3' g4' ∧ Has n a' (S g0' g1' g2' g3' g4' ++ τ) ∧ Own M w0 (R g0' g1' g2' g3' g4' ++ H2) w') Q .normal) σ (Own M w0 H) := fun a w ha hw => ⟨i0, i1, i2, i3, i4, hJ, ha.sub hs, hd w hw⟩
theorem WC.join5 {Γ0 : Type} {Γ1 : Type} {Γ2 : Type} {Γ3 : Type} {Γ4 : Type} (τ : Env) (S : Γ0 → Γ1 → Γ2 → Γ3 → Γ4 → Env) (R : Γ0 → Γ1 → Γ2 → Γ3 → Γ4 → List Res) {H2 : List Res} (J : Γ0 → Γ1 → Γ2 → Γ3 → Γ4 → Prop) {x y : Code} (hτ : Sub σ τ) (hd : ∀ w, Own M w0 H w → Own M w0 H2 w)
    (rest : ∀ g0 g1 g2 g3 g4, J g0 g1 g2 g3 g4 → WK n (y.wp P Q) (S g0 g1 g2 g3 g4 ++ τ) (Own M w0 (R g0 g1 g2 g3 g4 ++ H2)))
    (hx : WK n (x.wp P (Exit.then (fun a' w' => ∃ g0' g1' g2' g3' g4', J g0' g1' g2' g3' g4' ∧ Has n a' (S g0' g1' g2' g3' g4' ++ τ) ∧ Own M w0 (R g0' g1' g2' g3' g4' ++ H2) w') Q)) σ (Own M w0 H)) : WK n ((x.seq y).wp P Q) σ (Own M w0 H) :=
  WC.join (Γ := Γ0 × Γ1 × Γ2 × Γ3 × Γ4) τ (fun g => S (g.1) (g.2.1) (g.2.2.1) (g.2.2.2.1) (g.2.2.2.2)) (fun g => R (g.1) (g.2.1) (g.2.2.1) (g.2.2.2.1) (g.2.2.2.2)) (fun g => J (g.1) (g.2.1) (g.2.2.1) (g.2.2.2.1) (g.2.2.2.2)) hτ hd (fun g h => rest (g.1) (g.2.1) (g.2.2.1) (g.2.2.2.1) (g.2.2.2.2) h) fun a w ha hw => by
    refine wp_mono (hx a w ha hw) fun e a' w' h => ?_
    cases e with
    | normal => obtain ⟨g0', g1', g2', g3', g4', h1, h2, h3⟩ := h; exact ⟨(g0', g1', g2', g3', g4'), h1, h2, h3⟩
    | _ => exact h
theorem WC.bloop6 {Γ0 : Type} {Γ1 : Type} {Γ2 : Type} {Γ3 : Type} {Γ4 : Type} {Γ5 : Type} (τ : Env) (S : Γ0 → Γ1 → Γ2 → Γ3 → Γ4 → Γ5 → Env) (R : Γ0 → Γ1 → Γ2 → Γ3 → Γ4 → Γ5 → List Res) {H2 : List Res} (I : Γ0 → Γ1 → Γ2 → Γ3 → Γ4 → Γ5 → Nat → Prop) (J : Γ0 → Γ1 → Γ2 → Γ3 → Γ4 → Γ5 → Prop) (i0 : Γ0) (i1 : Γ1) (i2 : Γ2) (i3 : Γ3) (i4 : Γ4) (i5 : Γ5) (n₀ : Nat) {c : Code} (h₀ : I i0 i1 i2 i3 i4 i5 n₀) (hs : Sub σ (S i0 i1 i2 i3 i4 i5 ++ τ)) (hd : ∀ w, Own M w0 H w → Own M w0 (R i0 i1 i2 i3 i4 i5 ++ H2) w)
    (rest : ∀ g0 g1 g2 g3 g4 g5, J g0 g1 g2 g3 g4 g5 → WK n (Q .normal) (S g0 g1 g2 g3 g4 g5 ++ τ) (Own M w0 (R g0 g1 g2 g3 g4 g5 ++ H2)))
    (round : ∀ g0 g1 g2 g3 g4 g5 m, I g0 g1 g2 g3 g4 g5 m → WK n (c.wp P (Exit.then (fun a' w' => ∃ g0' g1' g2' g3' g4' g5' m', I g0' g1' g2' g3' g4' g5' m' ∧ m' < m ∧ Has n a' (S g0' g1' g2' g3' g4' g5' ++ τ) ∧ Own M w0 (R g0' g1' g2' g3' g4' g5' ++ H2) w') (Exit.inBlock id (Exit.then (fun a' w' => ∃ g0' g1' g2' g3' g4' g5', J g0' g1' g2' g3' g4' g5' ∧ Has n a' (S g0' g1' g2' g3' g4' g5' ++ τ) ∧ Own M w0 (R g0' g1' g2' g3' g4' g5' ++ H2) w') Q)))) (S g0 g1 g2 g3 g4 g5 ++ τ) (Own M w0 (R g0 g1 g2 g3 g4 g5 ++ H2))) :
    WK n ((Code.block id (Code.loop c)).wp P Q) σ (Own M w0 H) :=
  WC.bloop (Γ := Γ0 × Γ1 × Γ2 × Γ3 × Γ4 × Γ5) τ (fun g => S (g.1) (g.2.1) (g.2.2.1) (g.2.2.2.1) (g.2.2.2.2.1) (g.2.2.2.2.2)) (fun g => R (g.1) (g.2.1) (g.2.2.1) (g.2.2.2.1) (g.2.2.2.2.1) (g.2.2.2.2.2)) (fun g m => I (g.1) (g.2.1) (g.2.2.1) (g.2.2.2.1) (g.2.2.2.2.1) (g.2.2.2.2.2) m) (fun g => J (g.1) (g.2.1) (g.2.2.1) (g.2.2.2.1) (g.2.2.2.2.1) (g.2.2.2.2.2)) (i0, i1, i2, i3, i4, i5) n₀ h₀ hs hd (fun g h => rest (g.1) (g.2.1) (g.2.2.1) (g.2.2.2.1) (g.2.2.2.2.1) (g.2.2.2.2.2) h) fun g m hg a w ha hw => by
    refine wp_mono (round (g.1) (g.2.1) (g.2.2.1) (g.2.2.2.1) (g.2.2.2.2.1) (g.2.2.2.2.2) m hg a w ha hw) fun e a' w' h => ?_
    have key : ∀ a w, (fun a' w' => ∃ g0' g1' g2' g3' g4' g5', J g0' g1' g2' g3' g4' g5' ∧ Has n a' (S g0' g1' g2' g3' g4' g5' ++ τ) ∧ Own M w0 (R g0' g1' g2' g3' g4' g5' ++ H2) w') a w → (fun a' w' => ∃ g' : Γ0 × Γ1 × Γ2 × Γ3 × Γ4 × Γ5, J (g'.1) (g'.2.1) (g'.2.2.1) (g'.2.2.2.1) (g'.2.2.2.2.1) (g'.2.2.2.2.2) ∧ Has n a' (S (g'.1) (g'.2.1) (g'.2.2.1) (g'.2.2.2.1) (g'.2.2.2.2.1) (g'.2.2.2.2.2) ++ τ) ∧ Own M w0 (R (g'.1) (g'.2.1) (g'.2.2.1) (g'.2.2.2.1) (g'.2.2.2.2.1) (g'.2.2.2.2.2) ++ H2) w') a w := fun a w ⟨g0', g1', g2', g3', g4', g5', h1, h2, h3⟩ => ⟨(g0', g1', g2', g3', g4', g5'), h1, h2, h3⟩
    cases e with
    | normal => obtain ⟨g0', g1', g2', g3', g4', g5', m', h1, h2, h3, h4⟩ := h; exact ⟨(g0', g1', g2', g3', g4', g5'), m', h1, h2, h3, h4⟩
    | exit j =>
      simp only [Exit.then, Exit.inBlock] at h ⊢
      split at h
      · rename_i hj; rw [if_pos hj]; exact key _ _ h
      · rename_i hj; rw [if_neg hj]; exact h
    | _ => exact h
theorem WQ.again6 {Γ0 : Type} {Γ1 : Type} {Γ2 : Type} {Γ3 : Type} {Γ4 : Type} {Γ5 : Type} {S : Γ0 → Γ1 → Γ2 → Γ3 → Γ4 → Γ5 → Env} {R : Γ0 → Γ1 → Γ2 → Γ3 → Γ4 → Γ5 → List Res} {H2 : List Res} {I : Γ0 → Γ1 → Γ2 → Γ3 → Γ4 → Γ5 → Nat → Prop} {m : Nat} {τ : Env} (i0 : Γ0) (i1 : Γ1) (i2 : Γ2) (i3 : Γ3) (i4 : Γ4) (i5 : Γ5) (m' : Nat) (hI : I i0 i1 i2 i3 i4 i5 m') (hm : m' < m) (hs : Sub σ (S i0 i1 i2 i3 i4 i5 ++ τ)) (hd : ∀ w, Own M w0 H w → Own M w0 (R i0 i1 i2 i3 i4 i5 ++ H2) w) :
    WK n (Exit.then (fun a' w' => ∃ g0' g1' g2' g3' g4' g5' m', I g0' g1' g2' g3' g4' g5' m' ∧ m' < m ∧ Has n a' (S g0' g1' g2' g3' g4' g5' ++ τ) ∧ Own M w0 (R g0' g1' g2' g3' g4' g5' ++ H2) w') Q .normal) σ (Own M w0 H) := fun a w ha hw => ⟨i0, i1, i2, i3, i4, i5, m', hI, hm, ha.sub hs, hd w hw⟩
theorem WQ.out6 {Γ0 : Type} {Γ1 : Type} {Γ2 : Type} {Γ3 : Type} {Γ4 : Type} {Γ5 : Type} {S : Γ0 → Γ1 → Γ2 → Γ3 → Γ4 → Γ5 → Env} {R : Γ0 → Γ1 → Γ2 → Γ3 → Γ4 → Γ5 → List Res} {H2 : List Res} {J : Γ0 → Γ1 → Γ2 → Γ3 → Γ4 → Γ5 → Prop} {τ : Env} (i0 : Γ0) (i1 : Γ1) (i2 : Γ2) (i3 : Γ3) (i4 : Γ4) (i5 : Γ5) (hJ : J i0 i1 i2 i3 i4 i5) (hs : Sub σ (S i0 i1 i2 i3 i4 i5 ++ τ)) (hd : ∀ w, Own M w0 H w → Own M w0 (R i0 i1 i2 i3 i4 i5 ++ H2) w) :
    WK n (Exit.then (fun a' w' => ∃ g0' g1' g2' g3' g4' g5', J g0' g1' g2' g3' g4' g5' ∧ Has n a' (S g0' g1' g2' g3' g4' g5' ++ τ) ∧ Own M w0 (R g0' g1' g2' g3' g4' g5' ++ H2) w') Q .normal) σ (Own M w0 H) := fun a w ha hw => ⟨i0, i1, i2, i3, i4, i5, hJ, ha.sub hs, hd w hw⟩
theorem WC.join6 {Γ0 : Type} {Γ1 : Type} {Γ2 : Type} {Γ3 : Type} {Γ4 : Type} {Γ5 : Type} (τ : Env) (S : Γ0 → Γ1 → Γ2 → Γ3 → Γ4 → Γ5 → Env) (R : Γ0 → Γ1 → Γ2 → Γ3 → Γ4 → Γ5 → List Res) {H2 : List Res} (J : Γ0 → Γ1 → Γ2 → Γ3 → Γ4 → Γ5 → Prop) {x y : Code} (hτ : Sub σ τ) (hd : ∀ w, Own M w0 H w → Own M w0 H2 w)
    (rest : ∀ g0 g1 g2 g3 g4 g5, J g0 g1 g2 g3 g4 g5 → WK n (y.wp P Q) (S g0 g1 g2 g3 g4 g5 ++ τ) (Own M w0 (R g0 g1 g2 g3 g4 g5 ++ H2)))
    (hx : WK n (x.wp P (Exit.then (fun a' w' => ∃ g0' g1' g2' g3' g4' g5', J g0' g1' g2' g3' g4' g5' ∧ Has n a' (S g0' g1' g2' g3' g4' g5' ++ τ) ∧ Own M w0 (R g0' g1' g2' g3' g4' g5' ++ H2) w') Q)) σ (Own M w0 H)) : WK n ((x.seq y).wp P Q) σ (Own M w0 H) :=
  WC.join (Γ := Γ0 × Γ1 × Γ2 × Γ3 × Γ4 × Γ5) τ (fun g => S (g.1) (g.2.1) (g.2.2.1) (g.2.2.2.1) (g.2.2.2.2.1) (g.2.2.2.2.2)) (fun g => R (g.1) (g.2.1) (g.2.2.1) (g.2.2.2.1) (g.2.2.2.2.1) (g.2.2.2.2.2)) (fun g => J (g.1) (g.2.1) (g.2.2.1) (g.2.2.2.1) (g.2.2.2.2.1) (g.2.2.2.2.2)) hτ hd (fun g h => rest (g.1) (g.2.1) (g.2.2.1) (g.2.2.2.1) (g.2.2.2.2.1) (g.2.2.2.2.2) h) fun a w ha hw => by
    refine wp_mono (hx a w ha hw) fun e a' w' h => ?_
    cases e with
    | normal => obtain ⟨g0', g1', g2', g3', g4', g5', h1, h2, h3⟩ := h; exact ⟨(g0', g1', g2', g3', g4', g5'), h1, h2, h3⟩
    | _ => exact h
theorem WC.bloop7 {Γ0 : Type} {Γ1 : Type} {Γ2 : Type} {Γ3 : Type} {Γ4 : Type} {Γ5 : Type} {Γ6 : Type} (τ : Env) (S : Γ0 → Γ1 → Γ2 → Γ3 → Γ4 → Γ5 → Γ6 → Env) (R : Γ0 → Γ1 → Γ2 → Γ3 → Γ4 → Γ5 → Γ6 → List Res) {H2 : List Res} (I : Γ0 → Γ1 → Γ2 → Γ3 → Γ4 → Γ5 → Γ6 → Nat → Prop) (J : Γ0 → Γ1 → Γ2 → Γ3 → Γ4 → Γ5 → Γ6 → Prop) (i0 : Γ0) (i1 : Γ1) (i2 : Γ2) (i3 : Γ3) (i4 : Γ4) (i5 : Γ5) (i6 : Γ6) (n₀ : Nat) {c : Code} (h₀ : I i0 i1 i2 i3 i4 i5 i6 n₀) (hs : Sub σ (S i0 i1 i2 i3 i4 i5 i6 ++ τ)) (hd : ∀ w, Own M w0 H w → Own M w0 (R i0 i1 i2 i3 i4 i5 i6 ++ H2) w)
    (rest : ∀ g0 g1 g2 g3 g4 g5 g6, J g0 g1 g2 g3 g4 g5 g6 → WK n (Q .normal) (S g0 g1 g2 g3 g4 g5 g6 ++ τ) (Own M w0 (R g0 g1 g2 g3 g4 g5 g6 ++ H2)))
    (round : ∀ g0 g1 g2 g3 g4 g5 g6 m, I g0 g1 g2 g3 g4 g5 g6 m → WK n (c.wp P (Exit.then (fun a' w' => ∃ g0' g1' g2' g3' g4' g5' g6' m', I g0' g1' g2' g3' g4' g5' g6' m' ∧ m' < m ∧ Has n a' (S g0' g1' g2' g3' g4' g5' g6' ++ τ) ∧ Own M w0 (R g0' g1' g2' g3' g4' g5' g6' ++ H2) w') (Exit.inBlock id (Exit.then (fun a' w' => ∃ g0' g1' g2' g3' g4' g5' g6', J g0' g1' g2' g3' g4' g5' g6' ∧ Has n a' (S g0' g1' g2' g3' g4' g5' g6' ++ τ) ∧ Own M w0 (R g0' g1' g2' g3' g4' g5' g6' ++ H2) w') Q)))) (S g0 g1 g2 g3 g4 g5 g6 ++ τ) (Own M w0 (R g0 g1 g2 g3 g4 g5 g6 ++ H2))) :
    WK n ((Code.block id (Code.loop c)).wp P Q) σ (Own M w0 H) :=
  WC.bloop (Γ := Γ0 × Γ1 × Γ2 × Γ3 × Γ4 × Γ5 × Γ6) τ (fun g => S (g.1) (g.2.1) (g.2.2.1) (g.2.2.2.1) (g.2.2.2.2.1) (g.2.2.2.2.2.1) (g.2.2.2.2.2.2)) (fun g => R (g.1) (g.2.1) (g.2.2.1) (g.2.2.2.1) (g.2.2.2.2.1) (g.2.2.2.2.2.1) (g.2.2.2.2.2.2)) (fun g m => I (g.1) (g.2.1) (g.2.2.1) (g.2.2.2.1) (g.2.2.2.2.1) (g.2.2.2.2.2.1) (g.2.2.2.2.2.2) m) (fun g => J (g.1) (g.2.1) (g.2.2.1) (g.2.2.2.1) (g.2.2.2.2.1) (g.2.2.2.2.2.1) (g.2.2.2.2.2.2)) (i0, i1, i2, i3, i4, i5, i6) n₀ h₀ hs hd (fun g h => rest (g.1) (g.2.1) (g.2.2.1) (g.2.2.2.1) (g.2.2.2.2.1) (g.2.2.2.2.2.1) (g.2.2.2.2.2.2) h) fun g m hg a w ha hw => by
    refine wp_mono (round (g.1) (g.2.1) (g.2.2.1) (g.2.2.2.1) (g.2.2.2.2.1) (g.2.2.2.2.2.1) (g.2.2.2.2.2.2) m hg a w ha hw) fun e a' w' h => ?_
    have key : ∀ a w, (fun a' w' => ∃ g0' g1' g2' g3' g4' g5' g6', J g0' g1' g2' g3' g4' g5' g6' ∧ Has n a' (S g0' g1' g2' g3' g4' g5' g6' ++ τ) ∧ Own M w0 (R g0' g1' g2' g3' g4' g5' g6' ++ H2) w') a w → (fun a' w' => ∃ g' : Γ0 × Γ1 × Γ2 × Γ3 × Γ4 × Γ5 × Γ6, J (g'.1) (g'.2.1) (g'.2.2.1) (g'.2.2.2.1) (g'.2.2.2.2.1) (g'.2.2.2.2.2.1) (g'.2.2.2.2.2.2) ∧ Has n a' (S (g'.1) (g'.2.1) (g'.2.2.1) (g'.2.2.2.1) (g'.2.2.2.2.1) (g'.2.2.2.2.2.1) (g'.2.2.2.2.2.2) ++ τ) ∧ Own M w0 (R (g'.1) (g'.2.1) (g'.2.2.1) (g'.2.2.2.1) (g'.2.2.2.2.1) (g'.2.2.2.2.2.1) (g'.2.2.2.2.2.2) ++ H2) w') a w := fun a w ⟨g0', g1', g2', g3', g4', g5', g6', h1, h2, h3⟩ => ⟨(g0', g1', g2', g3', g4', g5', g6'), h1, h2, h3⟩
    cases e with
    | normal => obtain ⟨g0', g1', g2', g3', g4', g5', g6', m', h1, h2, h3, h4⟩ := h; exact ⟨(g0', g1', g2', g3', g4', g5', g6'), m', h1, h2, h3, h4⟩
    | exit j =>
      simp only [Exit.then, Exit.inBlock] at h ⊢
      split at h
      · rename_i hj; rw [if_pos hj]; exact key _ _ h
      · rename_i hj; rw [if_neg hj]; exact h
    | _ => exact h
theorem WQ.again7 {Γ0 : Type} {Γ1 : Type} {Γ2 : Type} {Γ3 : Type} {Γ4 : Type} {Γ5 : Type} {Γ6 : Type} {S : Γ0 → Γ1 → Γ2 → Γ3 → Γ4 → Γ5 → Γ6 → Env} {R : Γ0 → Γ1 → Γ2 → Γ3 → Γ4 → Γ5 → Γ6 → List Res} {H2 : List Res} {I : Γ0 → Γ1 → Γ2 → Γ3 → Γ4 → Γ5 → Γ6 → Nat → Prop} {m : Nat} {τ : Env} (i0 : Γ0) (i1 : Γ1) (i2 : Γ2) (i3 : Γ3) (i4 : Γ4) (i5 : Γ5) (i6 : Γ6) (m' : Nat) (hI : I i0 i1 i2 i3 i4 i5 i6 m') (hm : m' < m) (hs : Sub σ (S i0 i1 i2 i3 i4 i5 i6 ++ τ)) (hd : ∀ w, Own M w0 H w → Own M w0 (R i0 i1 i2 i3 i4 i5 i6 ++ H2) w) :
    WK n (Exit.then (fun a' w' => ∃ g0' g1' g2' g3' g4' g5' g6' m', I g0' g1' g2' g3' g4' g5' g6' m' ∧ m' < m ∧ Has n a' (S g0' g1' g2' g3' g4' g5' g6' ++ τ) ∧ Own M w0 (R g0' g1' g2' g3' g4' g5' g6' ++ H2) w') Q .normal) σ (Own M w0 H) := fun a w ha hw => ⟨i0, i1, i2, i3, i4, i5, i6, m', hI, hm, ha.sub hs, hd w hw⟩
theorem WQ.out7 {Γ0 : Type} {Γ1 : Type} {Γ2 : Type} {Γ3 : Type} {Γ4 : Type} {Γ5 : Type} {Γ6 : Type} {S : Γ0 → Γ1 → Γ2 → Γ3 → Γ4 → Γ5 → Γ6 → Env} {R : Γ0 → Γ1 → Γ2 → Γ3 → Γ4 → Γ5 → Γ6 → List Res} {H2 : List Res} {J : Γ0 → Γ1 → Γ2 → Γ3 → Γ4 → Γ5 → Γ6 → Prop} {τ : Env} (i0 : Γ0) (i1 : Γ1) (i2 : Γ2) (i3 : Γ3) (i4 : Γ4) (i5 : Γ5) (i6 : Γ6) (hJ : J i0 i1 i2 i3 i4 i5 i6) (hs : Sub σ (S i0 i1 i2 i3 i4 i5 i6 ++ τ)) (hd : ∀ w, Own M w0 H w → Own M w0 (R i0 i1 i2 i3 i4 i5 i6 ++ H2) w) :
    WK n (Exit.then (fun a' w' => ∃ g0' g1' g2' g3' g4' g5' g6', J g0' g1' g2' g3' g4' g5' g6' ∧ Has n a' (S g0' g1' g2' g3' g4' g5' g6' ++ τ) ∧ Own M w0 (R g0' g1' g2' g3' g4' g5' g6' ++ H2) w') Q .normal) σ (Own M w0 H) := fun a w ha hw => ⟨i0, i1, i2, i3, i4, i5, i6, hJ, ha.sub hs, hd w hw⟩
theorem WC.join7 {Γ0 : Type} {Γ1 : Type} {Γ2 : Type} {Γ3 : Type} {Γ4 : Type} {Γ5 : Type} {Γ6 : Type} (τ : Env) (S : Γ0 → Γ1 → Γ2 → Γ3 → Γ4 → Γ5 → Γ6 → Env) (R : Γ0 → Γ1 → Γ2 → Γ3 → Γ4 → Γ5 → Γ6 → List Res) {H2 : List Res} (J : Γ0 → Γ1 → Γ2 → Γ3 → Γ4 → Γ5 → Γ6 → Prop) {x y : Code} (hτ : Sub σ τ) (hd : ∀ w, Own M w0 H w → Own M w0 H2 w)
    (rest : ∀ g0 g1 g2 g3 g4 g5 g6, J g0 g1 g2 g3 g4 g5 g6 → WK n (y.wp P Q) (S g0 g1 g2 g3 g4 g5 g6 ++ τ) (Own M w0 (R g0 g1 g2 g3 g4 g5 g6 ++ H2)))
    (hx : WK n (x.wp P (Exit.then (fun a' w' => ∃ g0' g1' g2' g3' g4' g5' g6', J g0' g1' g2' g3' g4' g5' g6' ∧ Has n a' (S g0' g1' g2' g3' g4' g5' g6' ++ τ) ∧ Own M w0 (R g0' g1' g2' g3' g4' g5' g6' ++ H2) w') Q)) σ (Own M w0 H)) : WK n ((x.seq y).wp P Q) σ (Own M w0 H) :=
  WC.join (Γ := Γ0 × Γ1 × Γ2 × Γ3 × Γ4 × Γ5 × Γ6) τ (fun g => S (g.1) (g.2.1) (g.2.2.1) (g.2.2.2.1) (g.2.2.2.2.1) (g.2.2.2.2.2.1) (g.2.2.2.2.2.2)) (fun g => R (g.1) (g.2.1) (g.2.2.1) (g.2.2.2.1) (g.2.2.2.2.1) (g.2.2.2.2.2.1) (g.2.2.2.2.2.2)) (fun g => J (g.1) (g.2.1) (g.2.2.1) (g.2.2.2.1) (g.2.2.2.2.1) (g.2.2.2.2.2.1) (g.2.2.2.2.2.2)) hτ hd (fun g h => rest (g.1) (g.2.1) (g.2.2.1) (g.2.2.2.1) (g.2.2.2.2.1) (g.2.2.2.2.2.1) (g.2.2.2.2.2.2) h) fun a w ha hw => by
    refine wp_mono (hx a w ha hw) fun e a' w' h => ?_
    cases e with
    | normal => obtain ⟨g0', g1', g2', g3', g4', g5', g6', h1, h2, h3⟩ := h; exact ⟨(g0', g1', g2', g3', g4', g5', g6'), h1, h2, h3⟩
    | _ => exact h
theorem WC.bloop8 {Γ0 : Type} {Γ1 : Type} {Γ2 : Type} {Γ3 : Type} {Γ4 : Type} {Γ5 : Type} {Γ6 : Type} {Γ7 : Type} (τ : Env) (S : Γ0 → Γ1 → Γ2 → Γ3 → Γ4 → Γ5 → Γ6 → Γ7 → Env) (R : Γ0 → Γ1 → Γ2 → Γ3 → Γ4 → Γ5 → Γ6 → Γ7 → List Res) {H2 : List Res} (I : Γ0 → Γ1 → Γ2 → Γ3 → Γ4 → Γ5 → Γ6 → Γ7 → Nat → Prop) (J : Γ0 → Γ1 → Γ2 → Γ3 → Γ4 → Γ5 → Γ6 → Γ7 → Prop) (i0 : Γ0) (i1 : Γ1) (i2 : Γ2) (i3 : Γ3) (i4 : Γ4) (i5 : Γ5) (i6 : Γ6) (i7 : Γ7) (n₀ : Nat) {c : Code} (h₀ : I i0 i1 i2 i3 i4 i5 i6 i7 n₀) (hs : Sub σ (S i0 i1 i2 i3 i4 i5 i6 i7 ++ τ)) (hd : ∀ w, Own M w0 H w → Own M w0 (R i0 i1 i2 i3 i4 i5 i6 i7 ++ H2) w)
    (rest : ∀ g0 g1 g2 g3 g4 g5 g6 g7, J g0 g1 g2 g3 g4 g5 g6 g7 → WK n (Q .normal) (S g0 g1 g2 g3 g4 g5 g6 g7 ++ τ) (Own M w0 (R g0 g1 g2 g3 g4 g5 g6 g7 ++ H2)))
    (round : ∀ g0 g1 g2 g3 g4 g5 g6 g7 m, I g0 g1 g2 g3 g4 g5 g6 g7 m → WK n (c.wp P (Exit.then (fun a' w' => ∃ g0' g1' g2' g3' g4' g5' g6' g7' m', I g0' g1' g2' g3' g4' g5' g6' g7' m' ∧ m' < m ∧ Has n a' (S g0' g1' g2' g3' g4' g5' g6' g7' ++ τ) ∧ Own M w0 (R g0' g1' g2' g3' g4' g5' g6' g7' ++ H2) w') (Exit.inBlock id (Exit.then (fun a' w' => ∃ g0' g1' g2' g3' g4' g5' g6' g7', J g0' g1' g2' g3' g4' g5' g6' g7' ∧ Has n a' (S g0' g1' g2' g3' g4' g5' g6' g7' ++ τ) ∧ Own M w0 (R g0' g1' g2' g3' g4' g5' g6' g7' ++ H2) w') Q)))) (S g0 g1 g2 g3 g4 g5 g6 g7 ++ τ) (Own M w0 (R g0 g1 g2 g3 g4 g5 g6 g7 ++ H2))) :
    WK n ((Code.block id (Code.loop c)).wp P Q) σ (Own M w0 H) :=
  WC.bloop (Γ := Γ0 × Γ1 × Γ2 × Γ3 × Γ4 × Γ5 × Γ6 × Γ7) τ (fun g => S (g.1) (g.2.1) (g.2.2.1) (g.2.2.2.1) (g.2.2.2.2.1) (g.2.2.2.2.2.1) (g.2.2.2.2.2.2.1) (g.2.2.2.2.2.2.2)) (fun g => R (g.1) (g.2.1) (g.2.2.1) (g.2.2.2.1) (g.2.2.2.2.1) (g.2.2.2.2.2.1) (g.2.2.2.2.2.2.1) (g.2.2.2.2.2.2.2)) (fun g m => I (g.1) (g.2.1) (g.2.2.1) (g.2.2.2.1) (g.2.2.2.2.1) (g.2.2.2.2.2.1) (g.2.2.2.2.2.2.1) (g.2.2.2.2.2.2.2) m) (fun g => J (g.1) (g.2.1) (g.2.2.1) (g.2.2.2.1) (g.2.2.2.2.1) (g.2.2.2.2.2.1) (g.2.2.2.2.2.2.1) (g.2.2.2.2.2.2.2)) (i0, i1, i2, i3, i4, i5, i6, i7) n₀ h₀ hs hd (fun g h => rest (g.1) (g.2.1) (g.2.2.1) (g.2.2.2.1) (g.2.2.2.2.1) (g.2.2.2.2.2.1) (g.2.2.2.2.2.2.1) (g.2.2.2.2.2.2.2) h) fun g m hg a w ha hw => by
    refine wp_mono (round (g.1) (g.2.1) (g.2.2.1) (g.2.2.2.1) (g.2.2.2.2.1) (g.2.2.2.2.2.1) (g.2.2.2.2.2.2.1) (g.2.2.2.2.2.2.2) m hg a w ha hw) fun e a' w' h => ?_
    have key : ∀ a w, (fun a' w' => ∃ g0' g1' g2' g3' g4' g5' g6' g7', J g0' g1' g2' g3' g4' g5' g6' g7' ∧ Has n a' (S g0' g1' g2' g3' g4' g5' g6' g7' ++ τ) ∧ Own M w0 (R g0' g1' g2' g3' g4' g5' g6' g7' ++ H2) w') a w → (fun a' w' => ∃ g' : Γ0 × Γ1 × Γ2 × Γ3 × Γ4 × Γ5 × Γ6 × Γ7, J (g'.1) (g'.2.1) (g'.2.2.1) (g'.2.2.2.1) (g'.2.2.2.2.1) (g'.2.2.2.2.2.1) (g'.2.2.2.2.2.2.1) (g'.2.2.2.2.2.2.2) ∧ Has n a' (S (g'.1) (g'.2.1) (g'.2.2.1) (g'.2.2.2.1) (g'.2.2.2.2.1) (g'.2.2.2.2.2.1) (g'.2.2.2.2.2.2.1) (g'.2.2.2.2.2.2.2) ++ τ) ∧ Own M w0 (R (g'.1) (g'.2.1) (g'.2.2.1) (g'.2.2.2.1) (g'.2.2.2.2.1) (g'.2.2.2.2.2.1) (g'.2.2.2.2.2.2.1) (g'.2.2.2.2.2.2.2) ++ H2) w') a w := fun a w ⟨g0', g1', g2', g3', g4', g5', g6', g7', h1, h2, h3⟩ => ⟨(g0', g1', g2', g3', g4', g5', g6', g7'), h1, h2, h3⟩
    cases e with
    | normal => obtain ⟨g0', g1', g2', g3', g4', g5', g6', g7', m', h1, h2, h3, h4⟩ := h; exact ⟨(g0', g1', g2', g3', g4', g5', g6', g7'), m', h1, h2, h3, h4⟩
    | exit j =>
      simp only [Exit.then, Exit.inBlock] at h ⊢
      split at h
      · rename_i hj; rw [if_pos hj]; exact key _ _ h
      · rename_i hj; rw [if_neg hj]; exact h
    | _ => exact h
theorem WQ.again8 {Γ0 : Type} {Γ1 : Type} {Γ2 : Type} {Γ3 : Type} {Γ4 : Type} {Γ5 : Type} {Γ6 : Type} {Γ7 : Type} {S : Γ0 → Γ1 → Γ2 → Γ3 → Γ4 → Γ5 → Γ6 → Γ7 → Env} {R : Γ0 → Γ1 → Γ2 → Γ3 → Γ4 → Γ5 → Γ6 → Γ7 → List Res} {H2 : List Res} {I : Γ0 → Γ1 → Γ2 → Γ3 → Γ4 → Γ5 → Γ6 → Γ7 → Nat → Prop} {m : Nat} {τ : Env} (i0 : Γ0) (i1 : Γ1) (i2 : Γ2) (i3 : Γ3) (i4 : Γ4) (i5 : Γ5) (i6 : Γ6) (i7 : Γ7) (m' : Nat) (hI : I i0 i1 i2 i3 i4 i5 i6 i7 m') (hm : m' < m) (hs : Sub σ (S i0 i1 i2 i3 i4 i5 i6 i7 ++ τ)) (hd : ∀ w, Own M w0 H w → Own M w0 (R i0 i1 i2 i3 i4 i5 i6 i7 ++ H2) w) :
    WK n (Exit.then (fun a' w' => ∃ g0' g1' g2' g3' g4' g5' g6' g7' m', I g0' g1' g2' g3' g4' g5' g6' g7' m' ∧ m' < m ∧ Has n a' (S g0' g1' g2' g3' g4' g5' g6' g7' ++ τ) ∧ Own M w0 (R g0' g1' g2' g3' g4' g5' g6' g7' ++ H2) w') Q .normal) σ (Own M w0 H) := fun a w ha hw => ⟨i0, i1, i2, i3, i4, i5, i6, i7, m', hI, hm, ha.sub hs, hd w hw⟩
theorem WQ.out8 {Γ0 : Type} {Γ1 : Type} {Γ2 : Type} {Γ3 : Type} {Γ4 : Type} {Γ5 : Type} {Γ6 : Type} {Γ7 : Type} {S : Γ0 → Γ1 → Γ2 → Γ3 → Γ4 → Γ5 → Γ6 → Γ7 → Env} {R : Γ0 → Γ1 → Γ2 → Γ3 → Γ4 → Γ5 → Γ6 → Γ7 → List Res} {H2 : List Res} {J : Γ0 → Γ1 → Γ2 → Γ3 → Γ4 → Γ5 → Γ6 → Γ7 → Prop} {τ : Env} (i0 : Γ0) (i1 : Γ1) (i2 : Γ2) (i3 : Γ3) (i4 : Γ4) (i5 : Γ5) (i6 : Γ6) (i7 : Γ7) (hJ : J i0 i1 i2 i3 i4 i5 i6 i7) (hs : Sub σ (S i0 i1 i2 i3 i4 i5 i6 i7 ++ τ)) (hd : ∀ w, Own M w0 H w → Own M w0 (R i0 i1 i2 i3 i4 i5 i6 i7 ++ H2) w) :
    WK n (Exit.then (fun a' w' => ∃ g0' g1' g2' g3' g4' g5' g6' g7', J g0' g1' g2' g3' g4' g5' g6' g7' ∧ Has n a' (S g0' g1' g2' g3' g4' g5' g6' g7' ++ τ) ∧ Own M w0 (R g0' g1' g2' g3' g4' g5' g6' g7' ++ H2) w') Q .normal) σ (Own M w0 H) := fun a w ha hw => ⟨i0, i1, i2, i3, i4, i5, i6, i7, hJ, ha.sub hs, hd w hw⟩
theorem WC.join8 {Γ0 : Type} {Γ1 : Type} {Γ2 : Type} {Γ3 : Type} {Γ4 : Type} {Γ5 : Type} {Γ6 : Type} {Γ7 : Type} (τ : Env) (S : Γ0 → Γ1 → Γ2 → Γ3 → Γ4 → Γ5 → Γ6 → Γ7 → Env) (R : Γ0 → Γ1 → Γ2 → Γ3 → Γ4 → Γ5 → Γ6 → Γ7 → List Res) {H2 : List Res} (J : Γ0 → Γ1 → Γ2 → Γ3 → Γ4 → Γ5 → Γ6 → Γ7 → Prop) {x y : Code} (hτ : Sub σ τ) (hd : ∀ w, Own M w0 H w → Own M w0 H2 w)
    (rest : ∀ g0 g1 g2 g3 g4 g5 g6 g7, J g0 g1 g2 g3 g4 g5 g6 g7 → WK n (y.wp P Q) (S g0 g1 g2 g3 g4 g5 g6 g7 ++ τ) (Own M w0 (R g0 g1 g2 g3 g4 g5 g6 g7 ++ H2)))
    (hx : WK n (x.wp P (Exit.then (fun a' w' => ∃ g0' g1' g2' g3' g4' g5' g6' g7', J g0' g1' g2' g3' g4' g5' g6' g7' ∧ Has n a' (S g0' g1' g2' g3' g4' g5' g6' g7' ++ τ) ∧ Own M w0 (R g0' g1' g2' g3' g4' g5' g6' g7' ++ H2) w') Q)) σ (Own M w0 H)) : WK n ((x.seq y).wp P Q) σ (Own M w0 H) :=
  WC.join (Γ := Γ0 × Γ1 × Γ2 × Γ3 × Γ4 × Γ5 × Γ6 × Γ7) τ (fun g => S (g.1) (g.2.1) (g.2.2.1) (g.2.2.2.1) (g.2.2.2.2.1) (g.2.2.2.2.2.1) (g.2.2.2.2.2.2.1) (g.2.2.2.2.2.2.2)) (fun g => R (g.1) (g.2.1) (g.2.2.1) (g.2.2.2.1) (g.2.2.2.2.1) (g.2.2.2.2.2.1) (g.2.2.2.2.2.2.1) (g.2.2.2.2.2.2.2)) (fun g => J (g.1) (g.2.1) (g.2.2.1) (g.2.2.2.1) (g.2.2.2.2.1) (g.2.2.2.2.2.1) (g.2.2.2.2.2.2.1) (g.2.2.2.2.2.2.2)) hτ hd (fun g h => rest (g.1) (g.2.1) (g.2.2.1) (g.2.2.2.1) (g.2.2.2.2.1) (g.2.2.2.2.2.1) (g.2.2.2.2.2.2.1) (g.2.2.2.2.2.2.2) h) fun a w ha hw => by
    refine wp_mono (hx a w ha hw) fun e a' w' h => ?_
    cases e with
    | normal => obtain ⟨g0', g1', g2', g3', g4', g5', g6', g7', h1, h2, h3⟩ := h; exact ⟨(g0', g1', g2', g3', g4', g5', g6', g7'), h1, h2, h3⟩
    | _ => exact h
theorem WC.bloop9 {Γ0 : Type} {Γ1 : Type} {Γ2 : Type} {Γ3 : Type} {Γ4 : Type} {Γ5 : Type} {Γ6 : Type} {Γ7 : Type} {Γ8 : Type} (τ : Env) (S : Γ0 → Γ1 → Γ2 → Γ3 → Γ4 → Γ5 → Γ6 → Γ7 → Γ8 → Env) (R : Γ0 → Γ1 → Γ2 → Γ3 → Γ4 → Γ5 → Γ6 → Γ7 → Γ8 → List Res) {H2 : List Res} (I : Γ0 → Γ1 → Γ2 → Γ3 → Γ4 → Γ5 → Γ6 → Γ7 → Γ8 → Nat → Prop) (J : Γ0 → Γ1 → Γ2 → Γ3 → Γ4 → Γ5 → Γ6 → Γ7 → Γ8 → Prop) (i0 : Γ0) (i1 : Γ1) (i2 : Γ2) (i3 : Γ3) (i4 : Γ4) (i5 : Γ5) (i6 : Γ6) (i7 : Γ7) (i8 : Γ8) (n₀ : Nat) {c : Code} (h₀ : I i0 i1 i2 i3 i4 i5 i6 i7 i8 n₀) (hs : Sub σ (S i0 i1 i2 i3 i4 i5 i6 i7 i8 ++ τ)) (hd : ∀ w, Own M w0 H w → Own M w0 (R i0 i1 i2 i3 i4 i5 i6 i7 i8 ++ H2) w)
    (rest : ∀ g0 g1 g2 g3 g4 g5 g6 g7 g8, J g0 g1 g2 g3 g4 g5 g6 g7 g8 → WK n (Q .normal) (S g0 g1 g2 g3 g4 g5 g6 g7 g8 ++ τ) (Own M w0 (R g0 g1 g2 g3 g4 g5 g6 g7 g8 ++ H2)))
    (round : ∀ g0 g1 g2 g3 g4 g5 g6 g7 g8 m, I g0 g1 g2 g3 g4 g5 g6 g7 g8 m → WK n (c.wp P (Exit.then (fun a' w' => ∃ g0' g1' g2' g3' g4' g5' g6' g7' g8' m', I g0' g1' g2' g3' g4' g5' g6' g7' g8' m' ∧ m' < m ∧ Has n a' (S g0' g1' g2' g3' g4' g5' g6' g7' g8' ++ τ) ∧ Own M w0 (R g0' g1' g2' g3' g4' g5' g6' g7' g8' ++ H2) w') (Exit.inBlock id (Exit.then (fun a' w' => ∃ g0' g1' g2' g3' g4' g5' g6' g7' g8', J g0' g1' g2' g3' g4' g5' g6' g7' g8' ∧ Has n a' (S g0' g1' g2' g3' g4' g5' g6' g7' g8' ++ τ) ∧ Own M w0 (R g0' g1' g2' g3' g4' g5' g6' g7' g8' ++ H2) w') Q)))) (S g0 g1 g2 g3 g4 g5 g6 g7 g8 ++ τ) (Own M w0 (R g0 g1 g2 g3 g4 g5 g6 g7 g8 ++ H2))) :
    WK n ((Code.block id (Code.loop c)).wp P Q) σ (Own M w0 H) :=
  WC.bloop (Γ := Γ0 × Γ1 × Γ2 × Γ3 × Γ4 × Γ5 × Γ6 × Γ7 × Γ8) τ (fun g => S (g.1) (g.2.1) (g.2.2.1) (g.2.2.2.1) (g.2.2.2.2.1) (g.2.2.2.2.2.1) (g.2.2.2.2.2.2.1) (g.2.2.2.2.2.2.2.1) (g.2.2.2.2.2.2.2.2)) (fun g => R (g.1) (g.2.1) (g.2.2.1) (g.2.2.2.1) (g.2.2.2.2.1) (g.2.2.2.2.2.1) (g.2.2.2.2.2.2.1) (g.2.2.2.2.2.2.2.1) (g.2.2.2.2.2.2.2.2)) (fun g m => I (g.1) (g.2.1) (g.2.2.1) (g.2.2.2.1) (g.2.2.2.2.1) (g.2.2.2.2.2.1) (g.2.2.2.2.2.2.1) (g.2.2.2.2.2.2.2.1) (g.2.2.2.2.2.2.2.2) m) (fun g => J (g.1) (g.2.1) (g.2.2.1) (g.2.2.2.1) (g.2.2.2.2.1) (g.2.2.2.2.2.1) (g.2.2.2.2.2.2.1) (g.2.2.2.2.2.2.2.1) (g.2.2.2.2.2.2.2.2)) (i0, i1, i2, i3, i4, i5, i6, i7, i8) n₀ h₀ hs hd (fun g h => rest (g.1) (g.2.1) (g.2.2.1) (g.2.2.2.1) (g.2.2.2.2.1) (g.2.2.2.2.2.1) (g.2.2.2.2.2.2.1) (g.2.2.2.2.2.2.2.1) (g.2.2.2.2.2.2.2.2) h) fun g m hg a w ha hw => by
    refine wp_mono (round (g.1) (g.2.1) (g.2.2.1) (g.2.2.2.1) (g.2.2.2.2.1) (g.2.2.2.2.2.1) (g.2.2.2.2.2.2.1) (g.2.2.2.2.2.2.2.1) (g.2.2.2.2.2.2.2.2) m hg a w ha hw) fun e a' w' h => ?_
    have key : ∀ a w, (fun a' w' => ∃ g0' g1' g2' g3' g4' g5' g6' g7' g8', J g0' g1' g2' g3' g4' g5' g6' g7' g8' ∧ Has n a' (S g0' g1' g2' g3' g4' g5' g6' g7' g8' ++ τ) ∧ Own M w0 (R g0' g1' g2' g3' g4' g5' g6' g7' g8' ++ H2) w') a w → (fun a' w' => ∃ g' : Γ0 × Γ1 × Γ2 × Γ3 × Γ4 × Γ5 × Γ6 × Γ7 × Γ8, J (g'.1) (g'.2.1) (g'.2.2.1) (g'.2.2.2.1) (g'.2.2.2.2.1) (g'.2.2.2.2.2.1) (g'.2.2.2.2.2.2.1) (g'.2.2.2.2.2.2.2.1) (g'.2.2.2.2.2.2.2.2) ∧ Has n a' (S (g'.1) (g'.2.1) (g'.2.2.1) (g'.2.2.2.1) (g'.2.2.2.2.1) (g'.2.2.2.2.2.1) (g'.2.2.2.2.2.2.1) (g'.2.2.2.2.2.2.2.1) (g'.2.2.2.2.2.2.2.2) ++ τ) ∧ Own M w0 (R (g'.1) (g'.2.1) (g'.2.2.1) (g'.2.2.2.1) (g'.2.2.2.2.1) (g'.2.2.2.2.2.1) (g'.2.2.2.2.2.2.1) (g'.2.2.2.2.2.2.2.1) (g'.2.2.2.2.2.2.2.2) ++ H2) w') a w := fun a w ⟨g0', g1', g2', g3', g4', g5', g6', g7', g8', h1, h2, h3⟩ => ⟨(g0', g1', g2', g3', g4', g5', g6', g7', g8'), h1, h2, h3⟩
    cases e with
    | normal => obtain ⟨g0', g1', g2', g3', g4', g5', g6', g7', g8', m', h1, h2, h3, h4⟩ := h; exact ⟨(g0', g1', g2', g3', g4', g5', g6', g7', g8'), m', h1, h2, h3, h4⟩
    | exit j =>
      simp only [Exit.then, Exit.inBlock] at h ⊢
      split at h
      · rename_i hj; rw [if_pos hj]; exact key _ _ h
      · rename_i hj; rw [if_neg hj]; exact h
    | _ => exact h
theorem WQ.again9 {Γ0 : Type} {Γ1 : Type} {Γ2 : Type} {Γ3 : Type} {Γ4 : Type} {Γ5 : Type} {Γ6 : Type} {Γ7 : Type} {Γ8 : Type} {S : Γ0 → Γ1 → Γ2 → Γ3 → Γ4 → Γ5 → Γ6 → Γ7 → Γ8 → Env} {R : Γ0 → Γ1 → Γ2 → Γ3 → Γ4 → Γ5 → Γ6 → Γ7 → Γ8 → List Res} {H2 : List Res} {I : Γ0 → Γ1 → Γ2 → Γ3 → Γ4 → Γ5 → Γ6 → Γ7 → Γ8 → Nat → Prop} {m : Nat} {τ : Env} (i0 : Γ0) (i1 : Γ1) (i2 : Γ2) (i3 : Γ3) (i4 : Γ4) (i5 : Γ5) (i6 : Γ6) (i7 : Γ7) (i8 : Γ8) (m' : Nat) (hI : I i0 i1 i2 i3 i4 i5 i6 i7 i8 m') (hm : m' < m) (hs : Sub σ (S i0 i1 i2 i3 i4 i5 i6 i7 i8 ++ τ)) (hd : ∀ w, Own M w0 H w → Own M w0 (R i0 i1 i2 i3 i4 i5 i6 i7 i8 ++ H2) w) :
    WK n (Exit.then (fun a' w' => ∃ g0' g1' g2' g3' g4' g5' g6' g7' g8' m', I g0' g1' g2' g3' g4' g5' g6' g7' g8' m' ∧ m' < m ∧ Has n a' (S g0' g1' g2' g3' g4' g5' g6' g7' g8' ++ τ) ∧ Own M w0 (R g0' g1' g2' g3' g4' g5' g6' g7' g8' ++ H2) w') Q .normal) σ (Own M w0 H) := fun a w ha hw => ⟨i0, i1, i2, i3, i4, i5, i6, i7, i8, m', hI, hm, ha.sub hs, hd w hw⟩
theorem WQ.out9 {Γ0 : Type} {Γ1 : Type} {Γ2 : Type} {Γ3 : Type} {Γ4 : Type} {Γ5 : Type} {Γ6 : Type} {Γ7 : Type} {Γ8 : Type} {S : Γ0 → Γ1 → Γ2 → Γ3 → Γ4 → Γ5 → Γ6 → Γ7 → Γ8 → Env} {R : Γ0 → Γ1 → Γ2 → Γ3 → Γ4 → Γ5 → Γ6 → Γ7 → Γ8 → List Res} {H2 : List Res} {J : Γ0 → Γ1 → Γ2 → Γ3 → Γ4 → Γ5 → Γ6 → Γ7 → Γ8 → Prop} {τ : Env} (i0 : Γ0) (i1 : Γ1) (i2 : Γ2) (i3 : Γ3) (i4 : Γ4) (i5 : Γ5) (i6 : Γ6) (i7 : Γ7) (i8 : Γ8) (hJ : J i0 i1 i2 i3 i4 i5 i6 i7 i8) (hs : Sub σ (S i0 i1 i2 i3 i4 i5 i6 i7 i8 ++ τ)) (hd : ∀ w, Own M w0 H w → Own M w0 (R i0 i1 i2 i3 i4 i5 i6 i7 i8 ++ H2) w) :
    WK n (Exit.then (fun a' w' => ∃ g0' g1' g2' g3' g4' g5' g6' g7' g8', J g0' g1' g2' g3' g4' g5' g6' g7' g8' ∧ Has n a' (S g0' g1' g2' g3' g4' g5' g6' g7' g8' ++ τ) ∧ Own M w0 (R g0' g1' g2' g3' g4' g5' g6' g7' g8' ++ H2) w') Q .normal) σ (Own M w0 H) := fun a w ha hw => ⟨i0, i1, i2, i3, i4, i5, i6, i7, i8, hJ, ha.sub hs, hd w hw⟩
theorem WC.join9 {Γ0 : Type} {Γ1 : Type} {Γ2 : Type} {Γ3 : Type} {Γ4 : Type} {Γ5 : Type} {Γ6 : Type} {Γ7 : Type} {Γ8 : Type} (τ : Env) (S : Γ0 → Γ1 → Γ2 → Γ3 → Γ4 → Γ5 → Γ6 → Γ7 → Γ8 → Env) (R : Γ0 → Γ1 → Γ2 → Γ3 → Γ4 → Γ5 → Γ6 → Γ7 → Γ8 → List Res) {H2 : List Res} (J : Γ0 → Γ1 → Γ2 → Γ3 → Γ4 → Γ5 → Γ6 → Γ7 → Γ8 → Prop) {x y : Code} (hτ : Sub σ τ) (hd : ∀ w, Own M w0 H w → Own M w0 H2 w)
    (rest : ∀ g0 g1 g2 g3 g4 g5 g6 g7 g8, J g0 g1 g2 g3 g4 g5 g6 g7 g8 → WK n (y.wp P Q) (S g0 g1 g2 g3 g4 g5 g6 g7 g8 ++ τ) (Own M w0 (R g0 g1 g2 g3 g4 g5 g6 g7 g8 ++ H2)))
    (hx : WK n (x.wp P (Exit.then (fun a' w' => ∃ g0' g1' g2' g3' g4' g5' g6' g7' g8', J g0' g1' g2' g3' g4' g5' g6' g7' g8' ∧ Has n a' (S g0' g1' g2' g3' g4' g5' g6' g7' g8' ++ τ) ∧ Own M w0 (R g0' g1' g2' g3' g4' g5' g6' g7' g8' ++ H2) w') Q)) σ (Own M w0 H)) : WK n ((x.seq y).wp P Q) σ (Own M w0 H) :=
  WC.join (Γ := Γ0 × Γ1 × Γ2 × Γ3 × Γ4 × Γ5 × Γ6 × Γ7 × Γ8) τ (fun g => S (g.1) (g.2.1) (g.2.2.1) (g.2.2.2.1) (g.2.2.2.2.1) (g.2.2.2.2.2.1) (g.2.2.2.2.2.2.1) (g.2.2.2.2.2.2.2.1) (g.2.2.2.2.2.2.2.2)) (fun g => R (g.1) (g.2.1) (g.2.2.1) (g.2.2.2.1) (g.2.2.2.2.1) (g.2.2.2.2.2.1) (g.2.2.2.2.2.2.1) (g.2.2.2.2.2.2.2.1) (g.2.2.2.2.2.2.2.2)) (fun g => J (g.1) (g.2.1) (g.2.2.1) (g.2.2.2.1) (g.2.2.2.2.1) (g.2.2.2.2.2.1) (g.2.2.2.2.2.2.1) (g.2.2.2.2.2.2.2.1) (g.2.2.2.2.2.2.2.2)) hτ hd (fun g h => rest (g.1) (g.2.1) (g.2.2.1) (g.2.2.2.1) (g.2.2.2.2.1) (g.2.2.2.2.2.1) (g.2.2.2.2.2.2.1) (g.2.2.2.2.2.2.2.1) (g.2.2.2.2.2.2.2.2) h) fun a w ha hw => by
    refine wp_mono (hx a w ha hw) fun e a' w' h => ?_
    cases e with
    | normal => obtain ⟨g0', g1', g2', g3', g4', g5', g6', g7', g8', h1, h2, h3⟩ := h; exact ⟨(g0', g1', g2', g3', g4', g5', g6', g7', g8'), h1, h2, h3⟩
    | _ => exact h
theorem WC.bloop10 {Γ0 : Type} {Γ1 : Type} {Γ2 : Type} {Γ3 : Type} {Γ4 : Type} {Γ5 : Type} {Γ6 : Type} {Γ7 : Type} {Γ8 : Type} {Γ9 : Type} (τ : Env) (S : Γ0 → Γ1 → Γ2 → Γ3 → Γ4 → Γ5 → Γ6 → Γ7 → Γ8 → Γ9 → Env) (R : Γ0 → Γ1 → Γ2 → Γ3 → Γ4 → Γ5 → Γ6 → Γ7 → Γ8 → Γ9 → List Res) {H2 : List Res} (I : Γ0 → Γ1 → Γ2 → Γ3 → Γ4 → Γ5 → Γ6 → Γ7 → Γ8 → Γ9 → Nat → Prop) (J : Γ0 → Γ1 → Γ2 → Γ3 → Γ4 → Γ5 → Γ6 → Γ7 → Γ8 → Γ9 → Prop) (i0 : Γ0) (i1 : Γ1) (i2 : Γ2) (i3 : Γ3) (i4 : Γ4) (i5 : Γ5) (i6 : Γ6) (i7 : Γ7) (i8 : Γ8) (i9 : Γ9) (n₀ : Nat) {c : Code} (h₀ : I i0 i1 i2 i3 i4 i5 i6 i7 i8 i9 n₀) (hs : Sub σ (S i0 i1 i2 i3 i4 i5 i6 i7 i8 i9 ++ τ)) (hd : ∀ w, Own M w0 H w → Own M w0 (R i0 i1 i2 i3 i4 i5 i6 i7 i8 i9 ++ H2) w)
    (rest : ∀ g0 g1 g2 g3 g4 g5 g6 g7 g8 g9, J g0 g1 g2 g3 g4 g5 g6 g7 g8 g9 → WK n (Q .normal) (S g0 g1 g2 g3 g4 g5 g6 g7 g8 g9 ++ τ) (Own M w0 (R g0 g1 g2 g3 g4 g5 g6 g7 g8 g9 ++ H2)))
    (round : ∀ g0 g1 g2 g3 g4 g5 g6 g7 g8 g9 m, I g0 g1 g2 g3 g4 g5 g6 g7 g8 g9 m → WK n (c.wp P (Exit.then (fun a' w' => ∃ g0' g1' g2' g3' g4' g5' g6' g7' g8' g9' m', I g0' g1' g2' g3' g4' g5' g6' g7' g8' g9' m' ∧ m' < m ∧ Has n a' (S g0' g1' g2' g3' g4' g5' g6' g7' g8' g9' ++ τ) ∧ Own M w0 (R g0' g1' g2' g3' g4' g5' g6' g7' g8' g9' ++ H2) w') (Exit.inBlock id (Exit.then (fun a' w' => ∃ g0' g1' g2' g3' g4' g5' g6' g7' g8' g9', J g0' g1' g2' g3' g4' g5' g6' g7' g8' g9' ∧ Has n a' (S g0' g1' g2' g3' g4' g5' g6' g7' g8' g9' ++ τ) ∧ Own M w0 (R g0' g1' g2' g3' g4' g5' g6' g7' g8' g9' ++ H2) w') Q)))) (S g0 g1 g2 g3 g4 g5 g6 g7 g8 g9 ++ τ) (Own M w0 (R g0 g1 g2 g3 g4 g5 g6 g7 g8 g9 ++ H2))) :
    WK n ((Code.block id (Code.loop c)).wp P Q) σ (Own M w0 H) :=
  WC.bloop (Γ := Γ0 × Γ1 × Γ2 × Γ3 × Γ4 × Γ5 × Γ6 × Γ7 × Γ8 × Γ9) τ (fun g => S (g.1) (g.2.1) (g.2.2.1) (g.2.2.2.1) (g.2.2.2.2.1) (g.2.2.2.2.2.1) (g.2.2.2.2.2.2.1) (g.2.2.2.2.2.2.2.1) (g.2.2.2.2.2.2.2.2.1) (g.2.2.2.2.2.2.2.2.2)) (fun g => R (g.1) (g.2.1) (g.2.2.1) (g.2.2.2.1) (g.2.2.2.2.1) (g.2.2.2.2.2.1) (g.2.2.2.2.2.2.1) (g.2.2.2.2.2.2.2.1) (g.2.2.2.2.2.2.2.2.1) (g.2.2.2.2.2.2.2.2.2)) (fun g m => I (g.1) (g.2.1) (g.2.2.1) (g.2.2.2.1) (g.2.2.2.2.1) (g.2.2.2.2.2.1) (g.2.2.2.2.2.2.1) (g.2.2.2.2.2.2.2.1) (g.2.2.2.2.2.2.2.2.1) (g.2.2.2.2.2.2.2.2.2) m) (fun g => J (g.1) (g.2.1) (g.2.2.1) (g.2.2.2.1) (g.2.2.2.2.1) (g.2.2.2.2.2.1) (g.2.2.2.2.2.2.1) (g.2.2.2.2.2.2.2.1) (g.2.2.2.2.2.2.2.2.1) (g.2.2.2.2.2.2.2.2.2)) (i0, i1, i2, i3, i4, i5, i6, i7, i8, i9) n₀ h₀ hs hd (fun g h => rest (g.1) (g.2.1) (g.2.2.1) (g.2.2.2.1) (g.2.2.2.2.1) (g.2.2.2.2.2.1) (g.2.2.2.2.2.2.1) (g.2.2.2.2.2.2.2.1) (g.2.2.2.2.2.2.2.2.1) (g.2.2.2.2.2.2.2.2.2) h) fun g m hg a w ha hw => by
    refine wp_mono (round (g.1) (g.2.1) (g.2.2.1) (g.2.2.2.1) (g.2.2.2.2.1) (g.2.2.2.2.2.1) (g.2.2.2.2.2.2.1) (g.2.2.2.2.2.2.2.1) (g.2.2.2.2.2.2.2.2.1) (g.2.2.2.2.2.2.2.2.2) m hg a w ha hw) fun e a' w' h => ?_
    have key : ∀ a w, (fun a' w' => ∃ g0' g1' g2' g3' g4' g5' g6' g7' g8' g9', J g0' g1' g2' g3' g4' g5' g6' g7' g8' g9' ∧ Has n a' (S g0' g1' g2' g3' g4' g5' g6' g7' g8' g9' ++ τ) ∧ Own M w0 (R g0' g1' g2' g3' g4' g5' g6' g7' g8' g9' ++ H2) w') a w → (fun a' w' => ∃ g' : Γ0 × Γ1 × Γ2 × Γ3 × Γ4 × Γ5 × Γ6 × Γ7 × Γ8 × Γ9, J (g'.1) (g'.2.1) (g'.2.2.1) (g'.2.2.2.1) (g'.2.2.2.2.1) (g'.2.2.2.2.2.1) (g'.2.2.2.2.2.2.1) (g'.2.2.2.2.2.2.2.1) (g'.2.2.2.2.2.2.2.2.1) (g'.2.2.2.2.2.2.2.2.2) ∧ Has n a' (S (g'.1) (g'.2.1) (g'.2.2.1) (g'.2.2.2.1) (g'.2.2.2.2.1) (g'.2.2.2.2.2.1) (g'.2.2.2.2.2.2.1) (g'.2.2.2.2.2.2.2.1) (g'.2.2.2.2.2.2.2.2.1) (g'.2.2.2.2.2.2.2.2.2) ++ τ) ∧ Own M w0 (R (g'.1) (g'.2.1) (g'.2.2.1) (g'.2.2.2.1) (g'.2.2.2.2.1) (g'.2.2.2.2.2.1) (g'.2.2.2.2.2.2.1) (g'.2.2.2.2.2.2.2.1) (g'.2.2.2.2.2.2.2.2.1) (g'.2.2.2.2.2.2.2.2.2) ++ H2) w') a w := fun a w ⟨g0', g1', g2', g3', g4', g5', g6', g7', g8', g9', h1, h2, h3⟩ => ⟨(g0', g1', g2', g3', g4', g5', g6', g7', g8', g9'), h1, h2, h3⟩
    cases e with
    | normal => obtain ⟨g0', g1', g2', g3', g4', g5', g6', g7', g8', g9', m', h1, h2, h3, h4⟩ := h; exact ⟨(g0', g1', g2', g3', g4', g5', g6', g7', g8', g9'), m', h1, h2, h3, h4⟩
    | exit j =>
      simp only [Exit.then, Exit.inBlock] at h ⊢
      split at h
      · rename_i hj; rw [if_pos hj]; exact key _ _ h
      · rename_i hj; rw [if_neg hj]; exact h
    | _ => exact h
theorem WQ.again10 {Γ0 : Type} {Γ1 : Type} {Γ2 : Type} {Γ3 : Type} {Γ4 : Type} {Γ5 : Type} {Γ6 : Type} {Γ7 : Type} {Γ8 : Type} {Γ9 : Type} {S : Γ0 → Γ1 → Γ2 → Γ3 → Γ4 → Γ5 → Γ6 → Γ7 → Γ8 → Γ9 → Env} {R : Γ0 → Γ1 → Γ2 → Γ3 → Γ4 → Γ5 → Γ6 → Γ7 → Γ8 → Γ9 → List Res} {H2 : List Res} {I : Γ0 → Γ1 → Γ2 → Γ3 → Γ4 → Γ5 → Γ6 → Γ7 → Γ8 → Γ9 → Nat → Prop} {m : Nat} {τ : Env} (i0 : Γ0) (i1 : Γ1) (i2 : Γ2) (i3 : Γ3) (i4 : Γ4) (i5 : Γ5) (i6 : Γ6) (i7 : Γ7) (i8 : Γ8) (i9 : Γ9) (m' : Nat) (hI : I i0 i1 i2 i3 i4 i5 i6 i7 i8 i9 m') (hm : m' < m) (hs : Sub σ (S i0 i1 i2 i3 i4 i5 i6 i7 i8 i9 ++ τ)) (hd : ∀ w, Own M w0 H w → Own M w0 (R i0 i1 i2 i3 i4 i5 i6 i7 i8 i9 ++ H2) w) :
    WK n (Exit.then (fun a' w' => ∃ g0' g1' g2' g3' g4' g5' g6' g7' g8' g9' m', I g0' g1' g2' g3' g4' g5' g6' g7' g8' g9' m' ∧ m' < m ∧ Has n a' (S g0' g1' g2' g3' g4' g5' g6' g7' g8' g9' ++ τ) ∧ Own M w0 (R g0' g1' g2' g3' g4' g5' g6' g7' g8' g9' ++ H2) w') Q .normal) σ (Own M w0 H) := fun a w ha hw => ⟨i0, i1, i2, i3, i4, i5, i6, i7, i8, i9, m', hI, hm, ha.sub hs, hd w hw⟩
theorem WQ.out10 {Γ0 : Type} {Γ1 : Type} {Γ2 : Type} {Γ3 : Type} {Γ4 : Type} {Γ5 : Type} {Γ6 : Type} {Γ7 : Type} {Γ8 : Type} {Γ9 : Type} {S : Γ0 → Γ1 → Γ2 → Γ3 → Γ4 → Γ5 → Γ6 → Γ7 → Γ8 → Γ9 → Env} {R : Γ0 → Γ1 → Γ2 → Γ3 → Γ4 → Γ5 → Γ6 → Γ7 → Γ8 → Γ9 → List Res} {H2 : List Res} {J : Γ0 → Γ1 → Γ2 → Γ3 → Γ4 → Γ5 → Γ6 → Γ7 → Γ8 → Γ9 → Prop} {τ : Env} (i0 : Γ0) (i1 : Γ1) (i2 : Γ2) (i3 : Γ3) (i4 : Γ4) (i5 : Γ5) (i6 : Γ6) (i7 : Γ7) (i8 : Γ8) (i9 : Γ9) (hJ : J i0 i1 i2 i3 i4 i5 i6 i7 i8 i9) (hs : Sub σ (S i0 i1 i2 i3 i4 i5 i6 i7 i8 i9 ++ τ)) (hd : ∀ w, Own M w0 H w → Own M w0 (R i0 i1 i2 i3 i4 i5 i6 i7 i8 i9 ++ H2) w) :
    WK n (Exit.then (fun a' w' => ∃ g0' g1' g2' g3' g4' g5' g6' g7' g8' g9', J g0' g1' g2' g3' g4' g5' g6' g7' g8' g9' ∧ Has n a' (S g0' g1' g2' g3' g4' g5' g6' g7' g8' g9' ++ τ) ∧ Own M w0 (R g0' g1' g2' g3' g4' g5' g6' g7' g8' g9' ++ H2) w') Q .normal) σ (Own M w0 H) := fun a w ha hw => ⟨i0, i1, i2, i3, i4, i5, i6, i7, i8, i9, hJ, ha.sub hs, hd w hw⟩
theorem WC.join10 {Γ0 : Type} {Γ1 : Type} {Γ2 : Type} {Γ3 : Type} {Γ4 : Type} {Γ5 : Type} {Γ6 : Type} {Γ7 : Type} {Γ8 : Type} {Γ9 : Type} (τ : Env) (S : Γ0 → Γ1 → Γ2 → Γ3 → Γ4 → Γ5 → Γ6 → Γ7 → Γ8 → Γ9 → Env) (R : Γ0 → Γ1 → Γ2 → Γ3 → Γ4 → Γ5 → Γ6 → Γ7 → Γ8 → Γ9 → List Res) {H2 : List Res} (J : Γ0 → Γ1 → Γ2 → Γ3 → Γ4 → Γ5 → Γ6 → Γ7 → Γ8 → Γ9 → Prop) {x y : Code} (hτ : Sub σ τ) (hd : ∀ w, Own M w0 H w → Own M w0 H2 w)
    (rest : ∀ g0 g1 g2 g3 g4 g5 g6 g7 g8 g9, J g0 g1 g2 g3 g4 g5 g6 g7 g8 g9 → WK n (y.wp P Q) (S g0 g1 g2 g3 g4 g5 g6 g7 g8 g9 ++ τ) (Own M w0 (R g0 g1 g2 g3 g4 g5 g6 g7 g8 g9 ++ H2)))
    (hx : WK n (x.wp P (Exit.then (fun a' w' => ∃ g0' g1' g2' g3' g4' g5' g6' g7' g8' g9', J g0' g1' g2' g3' g4' g5' g6' g7' g8' g9' ∧ Has n a' (S g0' g1' g2' g3' g4' g5' g6' g7' g8' g9' ++ τ) ∧ Own M w0 (R g0' g1' g2' g3' g4' g5' g6' g7' g8' g9' ++ H2) w') Q)) σ (Own M w0 H)) : WK n ((x.seq y).wp P Q) σ (Own M w0 H) :=
  WC.join (Γ := Γ0 × Γ1 × Γ2 × Γ3 × Γ4 × Γ5 × Γ6 × Γ7 × Γ8 × Γ9) τ (fun g => S (g.1) (g.2.1) (g.2.2.1) (g.2.2.2.1) (g.2.2.2.2.1) (g.2.2.2.2.2.1) (g.2.2.2.2.2.2.1) (g.2.2.2.2.2.2.2.1) (g.2.2.2.2.2.2.2.2.1) (g.2.2.2.2.2.2.2.2.2)) (fun g => R (g.1) (g.2.1) (g.2.2.1) (g.2.2.2.1) (g.2.2.2.2.1) (g.2.2.2.2.2.1) (g.2.2.2.2.2.2.1) (g.2.2.2.2.2.2.2.1) (g.2.2.2.2.2.2.2.2.1) (g.2.2.2.2.2.2.2.2.2)) (fun g => J (g.1) (g.2.1) (g.2.2.1) (g.2.2.2.1) (g.2.2.2.2.1) (g.2.2.2.2.2.1) (g.2.2.2.2.2.2.1) (g.2.2.2.2.2.2.2.1) (g.2.2.2.2.2.2.2.2.1) (g.2.2.2.2.2.2.2.2.2)) hτ hd (fun g h => rest (g.1) (g.2.1) (g.2.2.1) (g.2.2.2.1) (g.2.2.2.2.1) (g.2.2.2.2.2.1) (g.2.2.2.2.2.2.1) (g.2.2.2.2.2.2.2.1) (g.2.2.2.2.2.2.2.2.1) (g.2.2.2.2.2.2.2.2.2) h) fun a w ha hw => by
    refine wp_mono (hx a w ha hw) fun e a' w' h => ?_
    cases e with
    | normal => obtain ⟨g0', g1', g2', g3', g4', g5', g6', g7', g8', g9', h1, h2, h3⟩ := h; exact ⟨(g0', g1', g2', g3', g4', g5', g6', g7', g8', g9'), h1, h2, h3⟩
    | _ => exact h
end
end Go.Rd
